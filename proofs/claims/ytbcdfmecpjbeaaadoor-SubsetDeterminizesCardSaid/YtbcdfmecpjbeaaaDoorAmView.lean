/- Views of the abstract machine's values: slices as lists. -/
import Derived.Test.YtbcdfmecpjbeaaaDoorAmW2
import Derived.Test.YtbcdfmecpjbeaaaDoorAmArgs
import Derived.Test.YtbcdfmecpjbeaaaDoorAmK4
set_option linter.unusedVariables false
set_option linter.unusedSimpArgs false
namespace Go.Am
theorem scrub_scrub (l:List Nat) (a:List AV):scrub (scrub a l) l=scrub a l:=by
 refine tget_extK _ _ (by rw[scrub_length]) fun i _=>?_
 rw[scrub_get l (scrub a l),scrub_get l a]
 cases l.contains i<;>simp
theorem W_scrub (tab:FuncId→Option AF) (sc:List Nat) (x:AC) (a:List AV) (h:H) (Qn Qr:List AV→H→Prop) (Qe:Nat→List AV→H→Prop):
  W (lim tab) (.loop sc x) a h Qn Qr Qe=W (lim tab) (.loop sc x) (scrub a sc) h Qn Qr Qe:=by
 rw[W_loop _ _ _ _ _ _ _ _ (lim_code tab),W_loop _ _ _ (scrub a sc) _ _ _ _ (lim_code tab),scrub_scrub]
theorem W_round (tab:FuncId→Option AF) (sc:List Nat) (x:AC) (a:List AV) (h:H) (Qn Qr:List AV→H→Prop) (Qe:Nat→List AV→H→Prop):
  W (lim tab) (.loop sc x) a h Qn Qr Qe=W (lim tab) x (scrub a sc) h (WL (lim tab) sc x Qn Qr Qe) Qr Qe:=W_loop _ _ _ _ _ _ _ _ (lim_code tab)
def AV.blk:AV→Nat
 | .slice _ _ b _ _=>b
 | .ptr b _=>b
 | _=>0
def AV.off:AV→Nat
 | .slice _ _ _ o _=>o
 | .ptr _ o=>o
 | _=>0
end Go.Am

