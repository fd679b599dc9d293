/- A door seat: a world whose listed variables are as laid; the library's table in it; TrailingZeros64. -/
import Derived.Test.YtbcdfmecpjbeaaaDoorRows
import Derived.Test.YtbcdfmecpjbeaaaDoorAmDoor
import Derived.LaidHandle
import Derived.Handed
import Derived.Deep.DeepLaidRun
import Derived.WalkKit
import Derived.ProofKit
import Derived.KernelRfl
set_option maxRecDepth 100000
namespace Go.Proofs.YtbcdfmecpjbeaaaDoor.Door
open Go Go.Am Go.ChangeShapes Go.WideShapes Go.ChangeAt Go.RowKit
def dcells : DataW Unit → Array Value
  | .agg l => (l.filterMap fun | .lit (.int k n) => some (Value.int k n) | _ => none).toArray
  | _ => #[]
noncomputable def laidWorld (os : Os) : World :=
  let w0 := World.holding Tryd.prog os ⟨#[], #[], []⟩
  { w0 with heap := ((w0.heap.modify 0 fun
      | .cells _ t frozen => .cells (dcells Rows.laid_math_bits_deBruijn64tab) t frozen
      | o => o).modify 1 fun
      | .cells _ t frozen => .cells (dcells Rows.laid_internal_strconv_uint64pow10) t frozen
      | o => o).modify 2 fun
      | .cells _ t frozen => .cells (dcells Rows.laid_math_bits_deBruijn32tab) t frozen
      | o => o }
noncomputable def lst : List (String × DataW Unit) := [("math/bits.deBruijn32tab", Rows.laid_math_bits_deBruijn32tab), ("math/bits.deBruijn64tab", Rows.laid_math_bits_deBruijn64tab), ("internal/strconv.uint64pow10", Rows.laid_internal_strconv_uint64pow10)]
theorem laid_met (os : Os) (args : Array Value) : laidMet Tryd.prog lst ((laidWorld os).forCall (fun _ _ => 0) ⟨#[], args, []⟩).memory :=
  laidMet_of_run3 8 (by kernel_rfl) (by kernel_rfl) (by kernel_rfl)
theorem met (os : Os) (args : Array Value) : laidMetH Tryd.prog lst ((laidWorld os).forCall (fun _ _ => 0) ⟨#[], args, []⟩).memory :=
  laidMetH_of_parts (laid_met os args) (by kernel_rfl)
theorem tzg : gmem Tryd.prog 0 = some tzTab := by kernel_rfl
theorem gall : (List.range Tryd.prog.globals.size).all (fun b => b == 0 || (gmem Tryd.prog b).isNone) = true := by kernel_rfl
theorem gt : (Tryd.prog.globals[0]?).map (·.type) = some 146 := by kernel_rfl
theorem u146 : Tryd.prog.underlying 146 = some (.array 64 5) := Tryd.underlying146
theorem glb {W : World} (h : laidMetH Tryd.prog lst W) : GlbAt Tryd.prog W :=
  glb_laid gall tzg (by kernel_rfl) gt u146 (by kernel_rfl) (by kernel_rfl) (by kernel_rfl) (.tail _ (.head _)) (show laidMet Tryd.prog lst W from h)
theorem tzw0 (w : World) : Calls Tryd.prog 99 #[.int .u64 0] w fun e w' => e = .returned (.int .i64 64) ∧ w' = w := by
  go_enter Tryd.func99, Tryd.ntmps99
  go_wp2
  go_ret
  exact ⟨rfl, rfl⟩
theorem tzw1 (w : World) (x v : Int) (h0 : (x == 0) = false) (hv : w.cell? ⟨0, (tzIdx x).toNat, none⟩ = some (.int .u8 v)) (hlt : tzIdx x < 64) (hz : 0 ≤ tzIdx x) : Calls Tryd.prog 99 #[.int .u64 x] w fun e w' => e = .returned (.int .i64 (wrap64 v)) ∧ w' = w := by
  have e : tzIdx x = IntKind.u64.wrap (bits BinOp.and IntKind.u64 x (IntKind.u64.wrap (-x)) * 285870213051353865) / 288230376151711744 := rfl
  rw [e] at hv hlt hz
  clear e
  go_enter Tryd.func99, Tryd.ntmps99
  go_wp2
  go_ret
  exact ⟨rfl, rfl⟩
theorem tzPrim : PrimOk Tryd.prog 99 primTz := prim_tz ⟨Tryd.f99, Tryd.func99, by kernel_rfl, by kernel_rfl⟩ tzg tzw0 tzw1
end Go.Proofs.YtbcdfmecpjbeaaaDoor.Door
