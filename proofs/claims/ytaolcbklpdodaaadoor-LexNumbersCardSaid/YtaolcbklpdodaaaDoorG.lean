/- What the walks ask of the world beside their arguments: two package-level variables of Go's library, and that it is kept. -/
import Derived.Test.YtaolcbklpdodaaaDoorQK
namespace Go.Proofs.YtaolcbklpdodaaaDoor.M
open Go.RowKit Go.Proofs.YtaolcbklpdodaaaDoorW.PrintWords
set_option linter.unusedVariables false
/-- strconv.ErrRange holds a pointer to an errors.errorString; internal/bytealg.MaxLen holds some int. -/
structure GW (w : World) : Prop where
  range : ∃ a, w.cell? ⟨0, 0, none⟩ = some (.iface 103 (.pointer (some a)))
  syn : ∃ a, w.cell? ⟨2, 0, none⟩ = some (.iface 103 (.pointer (some a)))
  max : ∃ m : Int, w.cell? ⟨1, 0, none⟩ = some (.int .i64 m)
theorem GW.below {w w1 : World} (hb : Below w.heap.size w w1) (h : GW w) : GW w1 where
  range := h.range.imp fun _ e => pw_cell_below hb e
  syn := h.syn.imp fun _ e => pw_cell_below hb e
  max := h.max.imp fun _ e => pw_cell_below hb e
theorem GW.drewN {w : World} (h : GW w) (n : Nat) : GW (w.drewN n) := ⟨h.range, h.syn, h.max⟩
theorem GW.drew {w : World} (h : GW w) : GW w.drew := ⟨h.range, h.syn, h.max⟩
theorem GW.alloc {w : World} (h : GW w) (o : Obj) : GW (w.alloc o) := h.below (below_alloc (Below.refl _ _) o)
end Go.Proofs.YtaolcbklpdodaaaDoor.M
