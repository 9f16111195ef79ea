/- What of the world no call of this seat ever writes: the listed variable's block. No condition. -/
import Derived.Test.YtddedijencleeaaGreatDoorProg
import Derived.Calls
import Derived.Laws.World
import Derived.Laws.Rows
import Derived.Below
set_option linter.all false
namespace Go.Proofs.YtddedijencleeaaGreatDoor
open Go.RowKit
namespace Ev
/-- Blocks that stay as they are, and what is known of a world through them. -/
structure Base where
  keep : Nat → Prop
  ok : World → Prop
  stays : ∀ w w' : World, ok w → (∀ g, keep g → w'.heap[g]? = w.heap[g]?) → ok w'
  lt : ∀ (w : World) g, ok w → keep g → g < w.heap.size
/-- The listed variable's one cell. -/
def OkE (w : World) : Prop := w.cell? ⟨0, 0, none⟩ = some (.iface 218 (.agg #[.pointer (some ⟨7, 44, none⟩)]))
def base : Base where
  keep := fun g => g = 0
  ok := OkE
  stays := fun w w' h hk => by
    have := hk _ rfl
    unfold OkE at *
    rw [← h]
    exact World.cell?_of_block (w := w) (w' := w') this
  lt := fun w g h hk => by
    subst hk
    exact block_lt_of_cell (a := ⟨0, 0, none⟩) h
end Ev
end Go.Proofs.YtddedijencleeaaGreatDoor
