/- The pure machine: laws. Statement by statement; the present becomes old; results are overwritten, and what goes with it. -/
import Derived.Test.YtfapjojfiaiidaaPmR
import Derived.Test.YtfapjojfiaiidaaAmArgs
set_option linter.unusedVariables false
set_option linter.unusedSimpArgs false
namespace Go.Am
section
variable (tab : FuncId → Option AF)
variable {tab}
def wH (h : H) : PWd := ⟨h.next, 0, fun _ => none, h.get⟩
theorem wH_st (h : H) : PSt (wH h) h [] :=
  ⟨fun b o hb => hb, (fun id e he => by cases he), (fun id e b he => by cases he), (fun id o ho => by simp at ho), fun i j x ⟨_, _, h1, _⟩ => by simp at h1, fun i x ⟨_, _, h1, _⟩ => by simp at h1, Nat.le_refl _⟩
theorem law_of_sem {g : FuncId} {pargs : List PV} {args' : List AV} {h : H} (ha : RepL (wH h) pargs args') (hc : SemC tab g pargs [] fun r _ => r = .bool true) : C (lim tab) g args' h fun v _ => v = .bool true :=
  C_mono (hc (wH h) h args' (Nat.le_refl _) (wH_st h) ha) fun v h' ⟨w', r, M', _, _, p3, p4⟩ => by subst p4; exact rep_bool p3
end
end Go.Am
set_option linter.unusedVariables false
set_option linter.unusedSimpArgs false
namespace Go.Am
section
variable {tab : FuncId → Option AF}
end
end Go.Am

