/- A great door seat: a world whose listed variables are as laid; the library's tables in it; TrailingZeros64. -/
import Derived.Test.YtapbgleednkimaaGreatDoorRows
import Derived.Test.YtapbgleednkimaaGreatDoorAmDoor
import Derived.LaidHandle
import Derived.Handed
import Derived.Deep.DeepLaidRun
import Derived.WalkKit
import Derived.ProofKit
import Derived.KernelRfl
set_option maxRecDepth 100000
namespace Go.Proofs.YtapbgleednkimaaGreatDoor.Door
open Go Go.Am Go.ChangeShapes Go.WideShapes Go.ChangeAt Go.RowKit
def dcells : DataW Unit → Array Value
  | .agg l => (l.flatMap fun | .lit (.int k n) => [Value.int k n] | .agg l => l.filterMap (fun | .lit (.int k n) => some (Value.int k n) | _ => none) | _ => []).toArray
  | _ => #[]
def ecells : DataW Unit → Array Value
  | .iface _ (.ptr (.agg [.lit (.string bs)])) => #[.string ⟨bs.toArray⟩]
  | _ => #[]
def setC (cs : Array Value) : Obj → Obj
  | .cells _ t frozen => .cells cs t frozen
  | o => o
noncomputable def laidWorld (os : Os) : World :=
  let n := (World.settled Tryz.prog os).heap.size
  let w0 := World.holding Tryz.prog os ⟨#[.cells (ecells Rows.laid_strconv_ErrSyntax) 299, .cells (ecells Rows.laid_strconv_ErrRange) 299], #[], []⟩
  { w0 with heap := (((((((w0.heap.modify 0 (setC (dcells Rows.laid_math_bits_deBruijn64tab))).modify 2 (setC #[.iface 297 (.pointer (some ⟨n, 0, none⟩))])).modify 3 (setC #[.iface 297 (.pointer (some ⟨n + 1, 0, none⟩))])).modify 4 (setC (dcells Rows.laid_internal_strconv_uint64pow10))).modify 5 (setC (dcells Rows.laid_unicode_utf8_first))).modify 6 (setC (dcells Rows.laid_unicode_utf8_acceptRanges))).modify 7 (setC (dcells Rows.laid_math_bits_deBruijn32tab))) }
noncomputable def lst : List (String × DataW Unit) := [("math/bits.deBruijn32tab", Rows.laid_math_bits_deBruijn32tab), ("math/bits.deBruijn64tab", Rows.laid_math_bits_deBruijn64tab), ("internal/strconv.uint64pow10", Rows.laid_internal_strconv_uint64pow10), ("unicode/utf8.acceptRanges", Rows.laid_unicode_utf8_acceptRanges), ("strconv.ErrRange", Rows.laid_strconv_ErrRange), ("strconv.ErrSyntax", Rows.laid_strconv_ErrSyntax), ("unicode/utf8.first", Rows.laid_unicode_utf8_first)]
theorem laid_met (os : Os) (args : Array Value) : laidMet Tryz.prog lst ((laidWorld os).forCall (fun _ _ => 0) ⟨#[], args, []⟩).memory :=
  laidMet_of_run3 8 (by kernel_rfl) (by kernel_rfl) (by kernel_rfl)
theorem met (os : Os) (args : Array Value) : laidMetH Tryz.prog lst ((laidWorld os).forCall (fun _ _ => 0) ⟨#[], args, []⟩).memory :=
  laidMetH_of_parts (laid_met os args) (by kernel_rfl)
theorem tzg : gmem Tryz.prog 0 = some (.ints .u8 tzTab) := by kernel_rfl
def powTab : List Nat := [1, 10, 100, 1000, 10000, 100000, 1000000, 10000000, 100000000, 1000000000, 10000000000, 100000000000, 1000000000000, 10000000000000, 100000000000000, 1000000000000000, 10000000000000000, 100000000000000000, 1000000000000000000, 10000000000000000000]
def gl : List (Nat × GD) := [(0, .ints .u8 tzTab), (2, .err), (3, .err), (4, .ints .u64 powTab)]
theorem gall : (List.range Tryz.prog.globals.size).all (fun c => gl.any (fun x => x.1 == c) || (gmem Tryz.prog c).isNone) = true := by kernel_rfl
theorem gm2 : gmem Tryz.prog 2 = some .err := by kernel_rfl
theorem gm3 : gmem Tryz.prog 3 = some .err := by kernel_rfl
theorem gm4 : gmem Tryz.prog 4 = some (.ints .u64 powTab) := by kernel_rfl
theorem glb {W : World} (h : laidMetH Tryz.prog lst W) : GlbAt Tryz.prog W := by
  have h : laidMet Tryz.prog lst W := h
  refine glb_of (gl := gl) gall (fun b d hb => ?_) (fun b d hb => ?_)
  · simp only [gl, List.mem_cons, List.not_mem_nil, or_false, Prod.mk.injEq] at hb
    rcases hb with ⟨rfl, rfl⟩ | ⟨rfl, rfl⟩ | ⟨rfl, rfl⟩ | ⟨rfl, rfl⟩
    · exact tzg
    · exact gm2
    · exact gm3
    · exact gm4
  · simp only [gl, List.mem_cons, List.not_mem_nil, or_false, Prod.mk.injEq] at hb
    rcases hb with ⟨rfl, rfl⟩ | ⟨rfl, rfl⟩ | ⟨rfl, rfl⟩ | ⟨rfl, rfl⟩
    · exact glb_tab (n := "math/bits.deBruijn64tab") (t := 278) (e := 5) (N := 64) (by kernel_rfl) (by kernel_rfl) Tryz.underlying278 Tryz.underlying5 (by kernel_rfl) (by kernel_rfl) (by kernel_rfl) (.tail _ (.head _)) h
    · exact glb_err (n := "strconv.ErrSyntax") (t := 188) (by kernel_rfl) (by kernel_rfl) Tryz.underlying188 (.tail _ (.tail _ (.tail _ (.tail _ (.tail _ (.head _)))))) h
    · exact glb_err (n := "strconv.ErrRange") (t := 188) (by kernel_rfl) (by kernel_rfl) Tryz.underlying188 (.tail _ (.tail _ (.tail _ (.tail _ (.head _))))) h
    · exact glb_tab (n := "internal/strconv.uint64pow10") (t := 287) (e := 198) (N := 20) (by kernel_rfl) (by kernel_rfl) Tryz.underlying287 Tryz.underlying198 (by kernel_rfl) (by kernel_rfl) (by kernel_rfl) (.tail _ (.tail _ (.head _))) h
theorem tzw0 (w : World) : Calls Tryz.prog 185 #[.int .u64 0] w fun e w' => e = .returned (.int .i64 64) ∧ w' = w := by
  go_enter Tryz.func185, Tryz.ntmps185
  go_wp2
  go_ret
  exact ⟨rfl, rfl⟩
theorem tzw1 (w : World) (x v : Int) (h0 : (x == 0) = false) (hv : w.cell? ⟨0, (tzIdx x).toNat, none⟩ = some (.int .u8 v)) (hlt : tzIdx x < 64) (hz : 0 ≤ tzIdx x) : Calls Tryz.prog 185 #[.int .u64 x] w fun e w' => e = .returned (.int .i64 (wrap64 v)) ∧ w' = w := by
  have e : tzIdx x = IntKind.u64.wrap (bits BinOp.and IntKind.u64 x (IntKind.u64.wrap (-x)) * 285870213051353865) / 288230376151711744 := rfl
  rw [e] at hv hlt hz
  clear e
  go_enter Tryz.func185, Tryz.ntmps185
  go_wp2
  go_ret
  exact ⟨rfl, rfl⟩
theorem tzPrim : PrimOk Tryz.prog 185 primTz := prim_tz ⟨Tryz.f185, Tryz.func185, by kernel_rfl, by kernel_rfl⟩ tzg tzw0 tzw1
end Go.Proofs.YtapbgleednkimaaGreatDoor.Door
