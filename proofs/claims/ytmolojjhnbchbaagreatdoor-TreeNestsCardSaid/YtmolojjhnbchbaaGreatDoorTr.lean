/- Trees keyed by numbers, made to be quick in the kernel. No condition. -/
import Derived.Test.YtmolojjhnbchbaaGreatDoorPin
set_option linter.all false
namespace Go.Proofs.YtmolojjhnbchbaaGreatDoor
namespace Ev
/-- One step of a way. -/
inductive D4 where
  | a
  | b
  | c
  | d
  deriving DecidableEq
/-- A tree keyed by numbers. -/
inductive Tr (α : Type) where
  | nil
  | node (v : Option α) (a b c d : Tr α)
namespace Tr
variable {α : Type}
def dig (n : Nat) : D4 := bif Nat.beq n 0 then .a else bif Nat.beq n 1 then .b else bif Nat.beq n 2 then .c else .d
def D4.idx : D4 → Nat
  | .a => 1
  | .b => 2
  | .c => 3
  | .d => 4
def pathF : Nat → Nat → List D4
  | 0, _ => []
  | f + 1, n => bif Nat.beq n 0 then [] else dig (Nat.mod (Nat.pred n) 4) :: pathF f (Nat.div (Nat.pred n) 4)
def path (n : Nat) : List D4 := pathF (Nat.succ n) n
def unpath : List D4 → Nat
  | [] => 0
  | x :: p => 4 * unpath p + D4.idx x
noncomputable def val (t : Tr α) : Option α := Tr.rec (motive := fun _ => Option α) none (fun v _ _ _ _ _ _ _ _ => v) t
noncomputable def ch (t : Tr α) (x : D4) : Tr α := Tr.rec (motive := fun _ => Tr α) nil (fun _ a b c d _ _ _ _ => D4.rec (motive := fun _ => Tr α) a b c d x) t
noncomputable def getP (p : List D4) : Tr α → Option α := List.rec (motive := fun _ => Tr α → Option α) (fun t => val t) (fun x _ ih t => ih (ch t x)) p
noncomputable def setP (p : List D4) : Tr α → Option α → Tr α :=
  List.rec (motive := fun _ => Tr α → Option α → Tr α)
    (fun t y => Tr.rec (motive := fun _ => Tr α) (node y nil nil nil nil) (fun _ a b c d _ _ _ _ => node y a b c d) t)
    (fun x _ ih t y => Tr.rec (motive := fun _ => Tr α)
      (D4.rec (motive := fun _ => Tr α) (node none (ih nil y) nil nil nil) (node none nil (ih nil y) nil nil) (node none nil nil (ih nil y) nil) (node none nil nil nil (ih nil y)) x)
      (fun v a b c d _ _ _ _ => D4.rec (motive := fun _ => Tr α) (node v (ih a y) b c d) (node v a (ih b y) c d) (node v a b (ih c y) d) (node v a b c (ih d y)) x) t) p
noncomputable def get (t : Tr α) (n : Nat) : Option α := getP (path n) t
noncomputable def put (t : Tr α) (n : Nat) (x : Option α) : Tr α := setP (path n) t x
theorem beq0 {n : Nat} (h : n ≠ 0) : Nat.beq n 0 = false := by cases n <;> simp_all [Nat.beq]
theorem getP_nil (t : Tr α) : getP [] t = val t := rfl
theorem getP_cons (x : D4) (p : List D4) (t : Tr α) : getP (x :: p) t = getP p (ch t x) := rfl
theorem ch_nil (x : D4) : ch (nil : Tr α) x = nil := by cases x <;> rfl
theorem getP_of_nil : ∀ p : List D4, getP p (nil : Tr α) = none
  | [] => rfl
  | x :: p => by rw [getP_cons, ch_nil, getP_of_nil p]
theorem val_setP (t : Tr α) (y : Option α) : val (setP [] t y) = y := by cases t <;> rfl
theorem ch_setP (t : Tr α) (y : Option α) (x : D4) : ch (setP [] t y) x = ch t x := by cases t <;> cases x <;> rfl
theorem val_setP' (x : D4) (p : List D4) (t : Tr α) (y : Option α) : val (setP (x :: p) t y) = val t := by cases t <;> cases x <;> rfl
theorem ch_setP' (x : D4) (p : List D4) (t : Tr α) (y : Option α) (z : D4) : ch (setP (x :: p) t y) z = if z = x then setP p (ch t x) y else ch t z := by
  cases t <;> cases x <;> cases z <;> rfl
theorem getP_setP : ∀ (p q : List D4) (t : Tr α) (y : Option α), getP q (setP p t y) = if q = p then y else getP q t
  | [], [], t, y => by rw [getP_nil, val_setP, if_pos rfl]
  | [], z :: q, t, y => by rw [getP_cons, ch_setP, if_neg (by simp), getP_cons]
  | x :: p, [], t, y => by rw [getP_nil, val_setP', if_neg (by simp), getP_nil]
  | x :: p, z :: q, t, y => by
    rw [getP_cons, ch_setP', getP_cons]
    by_cases h : z = x
    · subst h
      rw [if_pos rfl, getP_setP p q]
      by_cases k : q = p
      · rw [if_pos k, if_pos (by rw [k])]
      · rw [if_neg k, if_neg (by simpa using k)]
    · rw [if_neg h, if_neg (by simp [h])]
theorem dig_idx {n : Nat} (h : n < 4) : D4.idx (dig n) = n + 1 := by
  have : n = 0 ∨ n = 1 ∨ n = 2 ∨ n = 3 := by omega
  rcases this with rfl | rfl | rfl | rfl <;> rfl
theorem unpath_pathF : ∀ (f n : Nat), n < f → unpath (pathF f n) = n
  | 0, n, h => by omega
  | f + 1, n, h => by
    unfold pathF
    by_cases h0 : n = 0
    · subst h0; rfl
    · rw [beq0 h0, cond_false]
      show 4 * unpath (pathF f ((n - 1) / 4)) + D4.idx (dig ((n - 1) % 4)) = n
      rw [unpath_pathF f _ (by omega), dig_idx (by omega)]
      omega
theorem unpath_path (n : Nat) : unpath (path n) = n := unpath_pathF _ _ (Nat.lt_succ_self n)
theorem path_inj {n m : Nat} : path n = path m ↔ n = m := ⟨fun h => by rw [← unpath_path n, h, unpath_path], fun h => by rw [h]⟩
theorem get_nil (n : Nat) : (Tr.nil : Tr α).get n = none := getP_of_nil _
theorem get_put (t : Tr α) (n : Nat) (x : Option α) (k : Nat) : (t.put n x).get k = if k = n then x else t.get k := by
  unfold get put
  rw [getP_setP]
  by_cases h : k = n
  · rw [if_pos h, if_pos (by rw [h])]
  · rw [if_neg h, if_neg (fun e => h (path_inj.1 e))]
/-- What holds of all that a tree holds. -/
def All (R : Nat → α → Prop) : Tr α → (Nat → Nat) → Prop
  | .nil, _ => True
  | .node v a b c d, φ => (∀ x, v = some x → R (φ 0) x) ∧ All R a (fun k => φ (4 * k + 1)) ∧ All R b (fun k => φ (4 * k + 2)) ∧ All R c (fun k => φ (4 * k + 3)) ∧ All R d (fun k => φ (4 * k + 4))
theorem All.getP {R : Nat → α → Prop} : ∀ {p : List D4} {t : Tr α} {φ : Nat → Nat}, All R t φ → ∀ x, Tr.getP p t = some x → R (φ (unpath p)) x
  | [], .nil, _, _, x, h => by cases h
  | [], .node v a b c d, φ, H, x, h => H.1 x h
  | z :: p, .nil, _, _, x, h => by rw [getP_of_nil] at h; cases h
  | z :: p, .node v a b c d, φ, H, x, h => by
    rw [getP_cons] at h
    obtain ⟨_, h1, h2, h3, h4⟩ := H
    cases z with
    | a => exact All.getP h1 x h
    | b => exact All.getP h2 x h
    | c => exact All.getP h3 x h
    | d => exact All.getP h4 x h
theorem All.get {R : Nat → α → Prop} {t : Tr α} {φ : Nat → Nat} (H : All R t φ) (n : Nat) (x : α) (h : Tr.get t n = some x) : R (φ n) x := by
  have := All.getP H x h
  rwa [unpath_path] at this
end Tr
end Ev
end Go.Proofs.YtmolojjhnbchbaaGreatDoor
