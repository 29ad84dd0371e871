/- Instructions: what the listed variables hold, when the law begins. -/
import Derived.Test.YtcfoljdpffonhaaGreatDoorJb
import Derived.Lib.LaidTab
import Derived.Shelf.Vars
import Derived.Stop.LaidErr
set_option linter.unusedVariables false
set_option linter.unusedSimpArgs false
set_option maxRecDepth 20000
namespace Go.Proofs.YtcfoljdpffonhaaGreatDoor
open Go.RowKit Go.Joins Go.Shelf

theorem star_err : "*" ++ "errors.errorString" = "*errors.errorString" := by decide
theorem row_err (u : TypeId) (h : Tryz.prog.typeName? 3 u = some "*errors.errorString") : u = 210 :=
  typeName_ptr_named (nm := "errors.errorString") (by rw [star_err]; kernel_rfl) (by kernel_rfl) (by decide) u (by rw [star_err]; exact h)
theorem lf_of {W : World} {a b c f : String × DataW Unit} {r s : List UInt8} (h : laidMet Tryz.prog [a, b, ("internal/strconv.uint64pow10", Lib.tabData .u64 Lib.pow10Tab), c, ("strconv.ErrRange", .iface "*errors.errorString" (.ptr (.agg [.lit (.string r)]))), ("strconv.ErrSyntax", .iface "*errors.errorString" (.ptr (.agg [.lit (.string s)]))), f] W)
    (hS : W.ShapedOpen Tryz.prog) : Lf W := by
  have h3 := laidMet.tail (laidMet.tail h)
  have h5 := laidMet.tail (laidMet.tail h3)
  have h6 := laidMet.tail h5
  obtain ⟨a1, t1, hv1, _⟩ := laid_sentinel (g := 4) (ti := 159) (tp := 210) (te := 212) (ts := 9) h5 (by kernel_rfl) (by kernel_rfl) Tryz.underlying159 row_err Tryz.underlying210 Tryz.underlying212 rfl rfl Tryz.underlying9 (by kernel_rfl) (by kernel_rfl)
  obtain ⟨a0, t0, hv0, _⟩ := laid_sentinel (g := 3) (ti := 159) (tp := 210) (te := 212) (ts := 9) h6 (by kernel_rfl) (by kernel_rfl) Tryz.underlying159 row_err Tryz.underlying210 Tryz.underlying212 rfl rfl Tryz.underlying9 (by kernel_rfl) (by kernel_rfl)
  exact ⟨Lib.tabIs_of_head (g := 5) (by kernel_rfl) (by kernel_rfl) (show Tryz.prog.underlying 214 = some (.array 20 195) by kernel_rfl) Tryz.underlying195 (by kernel_rfl) (by kernel_rfl) h3,
    ⟨_, _, hv0⟩, ⟨_, _, hv1⟩,
    cell_of_shapedOpen_int hS (of_decide_eq_true (by kernel_rfl)) (show ((begin Tryz.prog (fun _ _ => 0) default).world.heap[0]?).bind Obj.row? = some (#[.int .i64 0], 3) by kernel_rfl) rfl (by kernel_rfl) (by kernel_rfl) Tryz.underlying3⟩
end Go.Proofs.YtcfoljdpffonhaaGreatDoor
