/- tree.each: rows made anew, element by element. -/
import Derived.Test.YtddedijencleeaaGreatDoorGs
import Derived.Maps.AppendAt
import Derived.OwnWalk
set_option linter.all false
namespace Go.Proofs.YtddedijencleeaaGreatDoor
open Go.RowKit Go.Lib

def flatN (css : Nat → List Value) (k : Nat) : List Value := (List.range k).flatMap css
theorem flatN_succ (css : Nat → List Value) (k : Nat) : flatN css (k + 1) = flatN css k ++ css k := by simp [flatN, List.range_succ]
theorem flatN_congr {css dss : Nat → List Value} {k : Nat} (h : ∀ j, j < k → css j = dss j) : flatN css k = flatN dss k := by
  induction k with
  | zero => rfl
  | succ k ih => rw [flatN_succ, flatN_succ, ih fun j hj => h j (by omega), h k (by omega)]
theorem flatN_len {css : Nat → List Value} {size : Nat} : ∀ {k : Nat}, (∀ j, j < k → (css j).length = size) → (flatN css k).length = k * size
  | 0, _ => by simp [flatN]
  | k + 1, h => by rw [flatN_succ, List.length_append, flatN_len fun j hj => h j (by omega), h k (by omega), Nat.add_mul, Nat.one_mul]
theorem flatN_get {css : Nat → List Value} {size : Nat} : ∀ {k : Nat}, (∀ j, j < k → (css j).length = size) → ∀ i j u, i < k → (css i)[j]? = some u → (flatN css k)[i * size + j]? = some u
  | 0, _, _, _, _, hi, _ => by omega
  | k + 1, h, i, j, u, hi, hu => by
    have hj : j < size := by rw [← h i hi]; exact (List.getElem?_eq_some_iff.1 hu).1
    rw [flatN_succ]
    have hl : (flatN css k).length = k * size := flatN_len fun j hj => h j (by omega)
    by_cases hk : i = k
    · subst hk
      rw [List.getElem?_append_right (by omega), hl, show i * size + j - i * size = j by omega]
      exact hu
    · have h1 : i < k := by omega
      have h2 : i * size + j < k * size := by
        have : (i + 1) * size ≤ k * size := Nat.mul_le_mul_right _ (by omega)
        rw [Nat.add_mul, Nat.one_mul] at this
        omega
      rw [List.getElem?_append_left (by omega)]
      exact flatN_get (fun j hj => h j (by omega)) i j u h1 hu
/-- Where a row that grows stands: k elements so far; W: the world as the call began; each element's own memory is new, and not the row's. -/
structure Out (W wr : World) (e : TypeId) (size k : Nat) (v : Value) (css : Nat → List Value) (Q : World → Nat → List Value → Prop) : Prop where
  own : wr.ownsRow W.heap.size e size v k (flatN css k)
  bl : Below W.heap.size W wr
  len : ∀ j, j < k → (css j).length = size ∧ (css j).toArray.all (·.oneCell') = true
  q : ∀ j, j < k → Q (World.only wr fun g => W.heap.size ≤ g ∧ v.ownBlock ≠ some g) j (css j)
section
variable {W wr : World} {e : TypeId} {size k : Nat} {v : Value} {css : Nat → List Value} {Q : World → Nat → List Value → Prop}
theorem Out.start : Out W W e size 0 (.slice none 0 0) css Q := ⟨World.ownsRow_nil W _ e size, Below.refl _ _, fun j hj => by omega, fun j hj => by omega⟩
theorem Out.next (h : Out W wr e size k v css Q) (hQ : ∀ W1 W2 i cs, Sub W1 W2 → Q W1 i cs → Q W2 i cs) {W2 W4 : World} {B : Nat} (hB : wr.heap.size ≤ B) {ds : List Value} (hb : Below wr.heap.size wr W2) (hq : Q (World.only W2 fun g => B ≤ g) k ds) (hl : ds.length = size) (h1 : ds.toArray.all (·.oneCell') = true)
    {v' : Value} (ho : W4.ownsRow W.heap.size e size v' (k + 1) (flatN css k ++ ds)) (hg : (W2.alloc (.cells ds.toArray e)).grownBy W4 v.ownBlock) (hat : v'.ownBlock = v.ownBlock ∨ v'.ownBlock = some (W2.alloc (.cells ds.toArray e)).heap.size) :
    Out W W4 e size (k + 1) v' (fun j => if j = k then ds else css j) Q := by
  have hs : (W2.alloc (.cells ds.toArray e)).heap.size = W2.heap.size + 1 := by simp
  have hgs := hg.size
  have hbs := hb.size
  have hold : ∀ b, b < W2.heap.size → v.ownBlock ≠ some b → W4.heap[b]? = W2.heap[b]? := fun b h1 h2 => (hg.block b (by omega) (Ne.symm h2)).trans (Below.heap_alloc _ _ _ h1)
  have hv : ∀ b, v.ownBlock = some b → W.heap.size ≤ b ∧ b < wr.heap.size := fun b hb' => h.own.lt b hb'
  have e1 : flatN (fun j => if j = k then ds else css j) (k + 1) = flatN css k ++ ds := by
    rw [flatN_succ, if_pos rfl, flatN_congr (dss := css) fun j hj => if_neg (by omega)]
  refine ⟨by rw [e1]; exact ho, ?_, fun j hj => ?_, fun j hj => ?_⟩
  · exact (h.bl.trans (hb.mono h.bl.size)).trans (((Below.refl W.heap.size W2).alloc (Nat.le_trans h.bl.size hb.size) (.cells ds.toArray e)).grown hg (by have := h.bl.size; omega) fun k hk => (hv k hk).1)
  · split
    · exact ⟨hl, h1⟩
    · exact h.len j (by omega)
  · have fresh : ∀ b, b < W2.heap.size → v.ownBlock ≠ some b → v'.ownBlock ≠ some b := fun b hb1 hb2 => by
      rcases hat with hat | hat
      · rw [hat]; exact hb2
      · rw [hat, hs]; intro hh; injection hh; omega
    split
    · subst j
      refine hQ _ _ _ _ (only_only (by omega) fun b hb1 hb2 => ?_) hq
      have hne : v.ownBlock ≠ some b := fun hh => by have := (hv b hh).2; omega
      exact ⟨⟨by have := h.bl.size; omega, fresh b hb1 hne⟩, hold b hb1 hne⟩
    · refine hQ _ _ _ _ (only_only (by omega) fun b hb1 hb2 => ?_) (h.q j (by omega))
      exact ⟨⟨hb2.1, fresh b (by omega) hb2.2⟩, (hold b (by omega) hb2.2).trans (hb.block b hb1)⟩
theorem Out.done {bytes : Nat} (h : Out W wr e size k v css Q) (hQ : ∀ W1 W2 i cs, Sub W1 W2 → Q W1 i cs → Q W2 i cs) (hk : k * bytes ≤ 140737488355328) : SlF (World.only wr fun g => W.heap.size ≤ g) size bytes k v (fun i ds => Q (World.only wr fun g => W.heap.size ≤ g) i ds) := by
  have sub : Sub (World.only wr fun g => W.heap.size ≤ g ∧ v.ownBlock ≠ some g) (World.only wr fun g => W.heap.size ≤ g) := only_only (Nat.le_refl _) fun b _ hb => ⟨hb.1, rfl⟩
  have hlen := h.own.1
  rcases h.own.2 with ⟨rfl, rfl⟩ | ⟨g, cap, cur, rfl, hb, hg, hn, hc, hs, ht⟩
  · exact ⟨none, 0, rfl, Nat.le_refl _, by omega, hk, fun h => absurd h (by omega)⟩
  · refine ⟨_, cap, rfl, hn, by unfold maxLen at hc; omega, hk, fun _ => ⟨g, 0, rfl, by rw [only_size]; exact (Array.getElem?_eq_some_iff.1 hg).1, fun i hi => ⟨css i, (h.len i hi).1, (h.len i hi).2, hQ _ _ _ _ sub (h.q i hi), fun j u hu => ?_⟩⟩⟩
    rw [only_yes hb, Nat.zero_add]
    have := h.own.cells (g := g) rfl (i * size + j) u (flatN_get (fun j hj => (h.len j hj).1) i j u hi hu)
    unfold Addr.add at this
    split at this
    · rename_i h0; rw [h0]; exact this
    · simpa using this
end
theorem cells_new (W : World) (ds : List Value) (t : TypeId) : ∀ j u, ds[j]? = some u → (W.alloc (.cells ds.toArray t)).cell? ((⟨W.heap.size, 0, none⟩ : Addr).add j) = some u := fun j u hj => by
  have := (SB.new W ds t).cell j hj
  unfold Addr.add
  split
  · rename_i h0; rw [h0] at this; exact this
  · simpa using this
end Go.Proofs.YtddedijencleeaaGreatDoor
