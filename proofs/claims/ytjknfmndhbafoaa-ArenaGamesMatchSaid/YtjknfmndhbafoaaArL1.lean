/- The law that compares restricted and dual games, for all arguments. -/
import Derived.Test.YtjknfmndhbafoaaArOv
set_option linter.unusedVariables false
namespace Go.Am.Ar
theorem gamesMatch_all {tab : FuncId → Option AF} (T : HasA tab) (args : List AV) (h : H) (hs : ShVs [gameTy, .slice (.int .i64)] args h) :
    ∃ n h', (run tab n).call 8 args h = some (.bool true, h') := by
  obtain ⟨a, b, rfl, ha, hb⟩ := shVs2 hs
  obtain ⟨ow, pr, su, r1, _⟩ := arg_game ha
  obtain ⟨keep, r2, _, _⟩ := arg_ints hb
  exact run_of_C (law_of_top T.h8 (.cons r1 (.cons r2 (.nil _))) (gamesMatch_top T))
end Go.Am.Ar
