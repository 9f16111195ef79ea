/- Trees keyed by numbers, made to be quick in the kernel. No condition. -/
import Derived.Test.YtddedijencleeaaGreatDoorPin
import Derived.Calls
import Derived.Orders
import Derived.LoopN
import Derived.Laws.Sem
import Derived.Laws.World
import Derived.Laws.Rows
import Derived.Below
import Derived.Laws.Entries
import Derived.Great.FillDense
import Derived.Laws.Slices
import Derived.Laws.StructEq
import Derived.Laws.Cells
import Derived.Laws.Append
import Derived.Laws.BytesArg
import Derived.Laws.MakeOwn
import Derived.Laws.IdiomStrings
set_option linter.all false
namespace Go.Proofs.YtddedijencleeaaGreatDoor
namespace Ev
/-- One step of a way. -/
inductive D4 where
  | a
  | b
  | c
  | d
  deriving DecidableEq
/-- A tree keyed by numbers. -/
inductive Tr (α : Type) where
  | nil
  | node (v : Option α) (a b c d : Tr α)
namespace Tr
variable {α : Type}
def dig (n : Nat) : D4 := bif Nat.beq n 0 then .a else bif Nat.beq n 1 then .b else bif Nat.beq n 2 then .c else .d
def D4.idx : D4 → Nat
  | .a => 1
  | .b => 2
  | .c => 3
  | .d => 4
def pathF : Nat → Nat → List D4
  | 0, _ => []
  | f + 1, n => bif Nat.beq n 0 then [] else dig (Nat.mod (Nat.pred n) 4) :: pathF f (Nat.div (Nat.pred n) 4)
def path (n : Nat) : List D4 := pathF (Nat.succ n) n
def unpath : List D4 → Nat
  | [] => 0
  | x :: p => 4 * unpath p + D4.idx x
noncomputable def val (t : Tr α) : Option α := Tr.rec (motive := fun _ => Option α) none (fun v _ _ _ _ _ _ _ _ => v) t
noncomputable def ch (t : Tr α) (x : D4) : Tr α := Tr.rec (motive := fun _ => Tr α) nil (fun _ a b c d _ _ _ _ => D4.rec (motive := fun _ => Tr α) a b c d x) t
noncomputable def getP (p : List D4) : Tr α → Option α := List.rec (motive := fun _ => Tr α → Option α) (fun t => val t) (fun x _ ih t => ih (ch t x)) p
noncomputable def setP (p : List D4) : Tr α → Option α → Tr α :=
  List.rec (motive := fun _ => Tr α → Option α → Tr α)
    (fun t y => Tr.rec (motive := fun _ => Tr α) (node y nil nil nil nil) (fun _ a b c d _ _ _ _ => node y a b c d) t)
    (fun x _ ih t y => Tr.rec (motive := fun _ => Tr α)
      (D4.rec (motive := fun _ => Tr α) (node none (ih nil y) nil nil nil) (node none nil (ih nil y) nil nil) (node none nil nil (ih nil y) nil) (node none nil nil nil (ih nil y)) x)
      (fun v a b c d _ _ _ _ => D4.rec (motive := fun _ => Tr α) (node v (ih a y) b c d) (node v a (ih b y) c d) (node v a b (ih c y) d) (node v a b c (ih d y)) x) t) p
noncomputable def get (t : Tr α) (n : Nat) : Option α := getP (path n) t
noncomputable def put (t : Tr α) (n : Nat) (x : Option α) : Tr α := setP (path n) t x
theorem beq0 {n : Nat} (h : n ≠ 0) : Nat.beq n 0 = false := by cases n <;> simp_all [Nat.beq]
theorem getP_nil (t : Tr α) : getP [] t = val t := rfl
theorem getP_cons (x : D4) (p : List D4) (t : Tr α) : getP (x :: p) t = getP p (ch t x) := rfl
theorem ch_nil (x : D4) : ch (nil : Tr α) x = nil := by cases x <;> rfl
theorem getP_of_nil : ∀ p : List D4, getP p (nil : Tr α) = none
  | [] => rfl
  | x :: p => by rw [getP_cons, ch_nil, getP_of_nil p]
theorem val_setP (t : Tr α) (y : Option α) : val (setP [] t y) = y := by cases t <;> rfl
theorem ch_setP (t : Tr α) (y : Option α) (x : D4) : ch (setP [] t y) x = ch t x := by cases t <;> cases x <;> rfl
theorem val_setP' (x : D4) (p : List D4) (t : Tr α) (y : Option α) : val (setP (x :: p) t y) = val t := by cases t <;> cases x <;> rfl
theorem ch_setP' (x : D4) (p : List D4) (t : Tr α) (y : Option α) (z : D4) : ch (setP (x :: p) t y) z = if z = x then setP p (ch t x) y else ch t z := by
  cases t <;> cases x <;> cases z <;> rfl
theorem getP_setP : ∀ (p q : List D4) (t : Tr α) (y : Option α), getP q (setP p t y) = if q = p then y else getP q t
  | [], [], t, y => by rw [getP_nil, val_setP, if_pos rfl]
  | [], z :: q, t, y => by rw [getP_cons, ch_setP, if_neg (by simp), getP_cons]
  | x :: p, [], t, y => by rw [getP_nil, val_setP', if_neg (by simp), getP_nil]
  | x :: p, z :: q, t, y => by
    rw [getP_cons, ch_setP', getP_cons]
    by_cases h : z = x
    · subst h
      rw [if_pos rfl, getP_setP p q]
      by_cases k : q = p
      · rw [if_pos k, if_pos (by rw [k])]
      · rw [if_neg k, if_neg (by simpa using k)]
    · rw [if_neg h, if_neg (by simp [h])]
theorem dig_idx {n : Nat} (h : n < 4) : D4.idx (dig n) = n + 1 := by
  have : n = 0 ∨ n = 1 ∨ n = 2 ∨ n = 3 := by omega
  rcases this with rfl | rfl | rfl | rfl <;> rfl
theorem unpath_pathF : ∀ (f n : Nat), n < f → unpath (pathF f n) = n
  | 0, n, h => by omega
  | f + 1, n, h => by
    unfold pathF
    by_cases h0 : n = 0
    · subst h0; rfl
    · rw [beq0 h0, cond_false]
      show 4 * unpath (pathF f ((n - 1) / 4)) + D4.idx (dig ((n - 1) % 4)) = n
      rw [unpath_pathF f _ (by omega), dig_idx (by omega)]
      omega
theorem unpath_path (n : Nat) : unpath (path n) = n := unpath_pathF _ _ (Nat.lt_succ_self n)
theorem path_inj {n m : Nat} : path n = path m ↔ n = m := ⟨fun h => by rw [← unpath_path n, h, unpath_path], fun h => by rw [h]⟩
theorem get_nil (n : Nat) : (Tr.nil : Tr α).get n = none := getP_of_nil _
theorem get_put (t : Tr α) (n : Nat) (x : Option α) (k : Nat) : (t.put n x).get k = if k = n then x else t.get k := by
  unfold get put
  rw [getP_setP]
  by_cases h : k = n
  · rw [if_pos h, if_pos (by rw [h])]
  · rw [if_neg h, if_neg (fun e => h (path_inj.1 e))]
/-- What holds of all that a tree holds. -/
def All (R : Nat → α → Prop) : Tr α → (Nat → Nat) → Prop
  | .nil, _ => True
  | .node v a b c d, φ => (∀ x, v = some x → R (φ 0) x) ∧ All R a (fun k => φ (4 * k + 1)) ∧ All R b (fun k => φ (4 * k + 2)) ∧ All R c (fun k => φ (4 * k + 3)) ∧ All R d (fun k => φ (4 * k + 4))
theorem All.getP {R : Nat → α → Prop} : ∀ {p : List D4} {t : Tr α} {φ : Nat → Nat}, All R t φ → ∀ x, Tr.getP p t = some x → R (φ (unpath p)) x
  | [], .nil, _, _, x, h => by cases h
  | [], .node v a b c d, φ, H, x, h => H.1 x h
  | z :: p, .nil, _, _, x, h => by rw [getP_of_nil] at h; cases h
  | z :: p, .node v a b c d, φ, H, x, h => by
    rw [getP_cons] at h
    obtain ⟨_, h1, h2, h3, h4⟩ := H
    cases z with
    | a => exact All.getP h1 x h
    | b => exact All.getP h2 x h
    | c => exact All.getP h3 x h
    | d => exact All.getP h4 x h
theorem All.get {R : Nat → α → Prop} {t : Tr α} {φ : Nat → Nat} (H : All R t φ) (n : Nat) (x : α) (h : Tr.get t n = some x) : R (φ n) x := by
  have := All.getP H x h
  rwa [unpath_path] at this
end Tr
end Ev
end Go.Proofs.YtddedijencleeaaGreatDoor

/- An evaluator of the language on abstract values and an abstract memory (no program in sight), part 1: values, memory, how they stand for the model's. No condition. -/
set_option linter.all false
namespace Go.Proofs.YtddedijencleeaaGreatDoor
open Go.RowKit

namespace Ev
noncomputable section

/-- The room of a slice: known, or what the block has behind so many of its elements. -/
inductive Cap where
  | known (c : Nat)
  | opn (d : Nat)
  deriving Inhabited, DecidableEq

inductive AV where
  | bool (b : Bool)
  | int (k : IntKind) (n : Int)
  | str (s : List UInt8)
  | ptr (p : Option (Nat × Nat))
  | slice (p : Option (Nat × Nat)) (len : Nat) (cap : Cap)
  | slice0 (p : Nat × Nat) (q d : Nat)
  | map (r : Option Nat)
  | func (fn : Fn) (first captured : List AV)
  | nilFunc
  | iface (t : TypeId) (v : AV)
  | nilIface
  | agg (l : List AV)
  | tuple (l : List AV)
  | sym (k : IntKind) (i : Nat) (todo : List (BinOp × Int)) (res : Int)
  deriving Inhabited

/-- Where the abstract blocks lie; how much room an open one has (in elements). -/
structure Env where
  σ : Nat → Option Nat
  κ : Nat → Nat
  y : Nat → Int

/-- One step of reckoning with a number that is not told. -/
def symStep (k : IntKind) (o : BinOp) (a c : Int) : Option Int := match o with
  | .add => some (k.wrap (a + c))
  | .rem => if c = 0 then none else some (a.tmod c)
  | _ => none
/-- A number that is not told, of which is known what some steps make of it. -/
def symOK (k : IntKind) (y : Nat → Int) : Nat → List (BinOp × Int) → Int → Bool
  | i, [], res => decide (y i = res)
  | i, (.and, _) :: _, res => decide (0 ≤ y i) && decide (y i ≤ res)
  | i, (o, c) :: l, res => decide (symStep k o (y i) c = some (y (Nat.succ i))) && symOK k y (Nat.succ i) l res
/-- Its value. A step '.and' says that it is from 0 to 'res'; a step '.lss', that it is the truth whether the number is greater than one. -/
def symV (k : IntKind) (y : Nat → Int) (i : Nat) (l : List (BinOp × Int)) (res : Int) : Option Value := match l with
  | (.lss, a) :: _ => some (.bool (decide (a < y i)))
  | l => if symOK k y i l res = true then some (.int k (y i)) else none
theorem symV_kind {k : IntKind} {y : Nat → Int} {i : Nat} {l : List (BinOp × Int)} {res : Int} {v : Value} (h : symV k y i l res = some v) : (∃ n, v = .int k n) ∨ ∃ b, v = .bool b := by
  unfold symV at h
  split at h
  · cases h; exact .inr ⟨_, rfl⟩
  · split at h
    · cases h; exact .inl ⟨_, rfl⟩
    · cases h

def Cap.conc (c : Cap) (k : Nat) : Nat := match c with | .known c => c | .opn d => k - d
def Cap.fits (c : Cap) (k l : Nat) : Bool := match c with | .known _ => true | .opn d => decide (l ≤ k - d)

mutual
def conc (ρ : Env) : AV → Option Value
  | .bool b => some (.bool b)
  | .int k n => some (.int k n)
  | .str s => some (.string ⟨s.toArray⟩)
  | .ptr none => some (.pointer none)
  | .ptr (some p) => (ρ.σ p.1).map fun b => .pointer (some ⟨b, p.2, none⟩)
  | .slice none l c => match c with | .known c => some (.slice none l c) | .opn _ => none
  | .slice (some p) l c => (ρ.σ p.1).bind fun b => if c.fits (ρ.κ p.1) l = true then some (.slice (some ⟨b, p.2, none⟩) l (c.conc (ρ.κ p.1))) else none
  | .slice0 p q d => (ρ.σ p.1).map fun b => .slice (some ⟨b, if ρ.κ p.1 - d = 0 then p.2 else q, none⟩) 0 (ρ.κ p.1 - d)
  | .map none => some (.map none)
  | .map (some i) => (ρ.σ i).map fun b => .map (some b)
  | .func fn f c => (concL ρ f).bind fun f => (concL ρ c).map fun c => .func fn f.toArray c.toArray
  | .nilFunc => some .nilFunc
  | .iface t v => (conc ρ v).map (.iface t)
  | .nilIface => some .nilIface
  | .agg l => (concL ρ l).map fun l => .agg l.toArray
  | .tuple l => (concL ρ l).map fun l => .tuple l.toArray
  | .sym k i todo res => symV k ρ.y i todo res
def concL (ρ : Env) : List AV → Option (List Value)
  | [] => some []
  | v :: l => (conc ρ v).bind fun x => (concL ρ l).map (x :: ·)
end

/-- More blocks are known. -/
structure Env.le (ρ ρ' : Env) : Prop where
  σ : ∀ i b, ρ.σ i = some b → ρ'.σ i = some b
  κ : ∀ i b, ρ.σ i = some b → ρ'.κ i = ρ.κ i
  y : ρ'.y = ρ.y
theorem Env.le.refl (ρ : Env) : ρ.le ρ := ⟨fun _ _ h => h, fun _ _ _ => rfl, rfl⟩
theorem Env.le.trans {a b c : Env} (h : a.le b) (k : b.le c) : a.le c := ⟨fun i x hx => k.σ i x (h.σ i x hx), fun i x hx => (k.κ i x (h.σ i x hx)).trans (h.κ i x hx), k.y.trans h.y⟩

mutual
theorem conc_mono {ρ ρ' : Env} (h : ρ.le ρ') : ∀ (a : AV) (v : Value), conc ρ a = some v → conc ρ' a = some v
  | .bool _, _, e => e
  | .int _ _, _, e => e
  | .str _, _, e => e
  | .ptr none, _, e => e
  | .ptr (some p), v, e => by
    simp only [conc, Option.map_eq_some_iff] at e ⊢
    obtain ⟨b, hb, rfl⟩ := e
    exact ⟨b, h.σ _ _ hb, rfl⟩
  | .slice none _ c, _, e => by cases c <;> simpa [conc] using e
  | .slice (some p) l c, v, e => by
    simp only [conc, Option.bind_eq_some_iff] at e ⊢
    obtain ⟨b, hb, e⟩ := e
    exact ⟨b, h.σ _ _ hb, by rw [h.κ _ _ hb]; exact e⟩
  | .slice0 p q d, v, e => by
    simp only [conc, Option.map_eq_some_iff] at e ⊢
    obtain ⟨b, hb, rfl⟩ := e
    exact ⟨b, h.σ _ _ hb, by rw [h.κ _ _ hb]⟩
  | .map none, _, e => e
  | .map (some i), v, e => by
    simp only [conc, Option.map_eq_some_iff] at e ⊢
    obtain ⟨b, hb, rfl⟩ := e
    exact ⟨b, h.σ _ _ hb, rfl⟩
  | .func fn f c, v, e => by
    simp only [conc, Option.bind_eq_some_iff, Option.map_eq_some_iff] at e ⊢
    obtain ⟨x, hx, y, hy, rfl⟩ := e
    exact ⟨x, concL_mono h f x hx, y, concL_mono h c y hy, rfl⟩
  | .nilFunc, _, e => e
  | .iface t a, v, e => by
    simp only [conc, Option.map_eq_some_iff] at e ⊢
    obtain ⟨x, hx, rfl⟩ := e
    exact ⟨x, conc_mono h a x hx, rfl⟩
  | .nilIface, _, e => e
  | .agg l, v, e => by
    simp only [conc, Option.map_eq_some_iff] at e ⊢
    obtain ⟨x, hx, rfl⟩ := e
    exact ⟨x, concL_mono h l x hx, rfl⟩
  | .tuple l, v, e => by
    simp only [conc, Option.map_eq_some_iff] at e ⊢
    obtain ⟨x, hx, rfl⟩ := e
    exact ⟨x, concL_mono h l x hx, rfl⟩
  | .sym k i todo res, v, e => by simp only [conc] at e ⊢; rw [h.y]; exact e
theorem concL_mono {ρ ρ' : Env} (h : ρ.le ρ') : ∀ (l : List AV) (vs : List Value), concL ρ l = some vs → concL ρ' l = some vs
  | [], _, e => e
  | a :: l, vs, e => by
    simp only [concL, Option.bind_eq_some_iff, Option.map_eq_some_iff] at e ⊢
    obtain ⟨x, hx, y, hy, rfl⟩ := e
    exact ⟨x, conc_mono h a x hx, y, concL_mono h l y hy, rfl⟩
end

section
variable {ρ : Env}
theorem concL_cons {a : AV} {l : List AV} {vs : List Value} (h : concL ρ (a :: l) = some vs) : ∃ x y, conc ρ a = some x ∧ concL ρ l = some y ∧ vs = x :: y := by
  simp only [concL, Option.bind_eq_some_iff, Option.map_eq_some_iff] at h
  obtain ⟨x, hx, y, hy, rfl⟩ := h
  exact ⟨x, y, hx, hy, rfl⟩
theorem concL_cons_mk {a : AV} {l : List AV} {x : Value} {y : List Value} (h : conc ρ a = some x) (k : concL ρ l = some y) : concL ρ (a :: l) = some (x :: y) := by simp [concL, h, k]
theorem concL_length : ∀ {l : List AV} {vs : List Value}, concL ρ l = some vs → vs.length = l.length
  | [], vs, h => by simp [concL] at h; subst h; rfl
  | a :: l, vs, h => by
    obtain ⟨x, y, _, hy, rfl⟩ := concL_cons h
    simp [concL_length hy]
theorem concL_get : ∀ {l : List AV} {vs : List Value} {i : Nat} {a : AV}, concL ρ l = some vs → l[i]? = some a → ∃ v, vs[i]? = some v ∧ conc ρ a = some v
  | [], _, i, a, _, hi => by simp at hi
  | b :: l, vs, i, a, h, hi => by
    obtain ⟨x, y, hx, hy, rfl⟩ := concL_cons h
    cases i with
    | zero => simp at hi; subst hi; exact ⟨x, rfl, hx⟩
    | succ i => simp at hi ⊢; exact concL_get hy hi
theorem concL_append : ∀ {l l' : List AV} {vs vs' : List Value}, concL ρ l = some vs → concL ρ l' = some vs' → concL ρ (l ++ l') = some (vs ++ vs')
  | [], _, vs, _, h, k => by simp [concL] at h; subst h; simpa using k
  | a :: l, l', vs, vs', h, k => by
    obtain ⟨x, y, hx, hy, rfl⟩ := concL_cons h
    exact concL_cons_mk hx (concL_append hy k)
theorem concL_take : ∀ {l : List AV} {vs : List Value} (n : Nat), concL ρ l = some vs → concL ρ (l.take n) = some (vs.take n)
  | [], vs, n, h => by simp [concL] at h; subst h; simp [concL]
  | a :: l, vs, 0, h => by simp [concL]
  | a :: l, vs, n + 1, h => by
    obtain ⟨x, y, hx, hy, rfl⟩ := concL_cons h
    exact concL_cons_mk hx (concL_take n hy)
theorem concL_drop : ∀ {l : List AV} {vs : List Value} (n : Nat), concL ρ l = some vs → concL ρ (l.drop n) = some (vs.drop n)
  | [], vs, n, h => by simp [concL] at h; subst h; simp [concL]
  | a :: l, vs, 0, h => by simpa using h
  | a :: l, vs, n + 1, h => by
    obtain ⟨x, y, hx, hy, rfl⟩ := concL_cons h
    exact concL_drop n hy
theorem concL_set : ∀ {l : List AV} {vs : List Value} (n : Nat) {a : AV} {x : Value}, concL ρ l = some vs → conc ρ a = some x → concL ρ (l.set n a) = some (vs.set n x)
  | [], vs, n, _, _, h, _ => by simp [concL] at h; subst h; simp [concL]
  | b :: l, vs, 0, a, x, h, ha => by
    obtain ⟨_, y, _, hy, rfl⟩ := concL_cons h
    exact concL_cons_mk ha hy
  | b :: l, vs, n + 1, a, x, h, ha => by
    obtain ⟨z, y, hz, hy, rfl⟩ := concL_cons h
    exact concL_cons_mk hz (concL_set n hy ha)
theorem concL_replicate (n : Nat) {a : AV} {x : Value} (h : conc ρ a = some x) : concL ρ (List.replicate n a) = some (List.replicate n x) := by
  induction n with
  | zero => simp [concL]
  | succ n ih => exact concL_cons_mk h ih
end

/-- A block. 'op': behind its cells it may have room, in elements of so many cells. -/
inductive Blk where
  | cells (c : List AV) (elem : TypeId) (op : Option Nat)
  | mp (es : List (AV × AV × Nat)) (clock : Nat)

structure Mem where
  next : Nat
  t : Tr Blk
  log : List Nat
def Mem.get (m : Mem) (i : Nat) : Option Blk := m.t.get i
def Mem.new (m : Mem) (b : Blk) : Mem := ⟨Nat.succ m.next, m.t.put m.next (some b), m.log⟩
def Mem.write (m : Mem) (i : Nat) (b : Option Blk) : Mem := ⟨m.next, m.t.put i b, i :: m.log⟩
def Mem.empty : Mem := ⟨0, .nil, []⟩
theorem Mem.get_new (m : Mem) (b : Blk) (i : Nat) : (m.new b).get i = if i = m.next then some b else m.get i := Tr.get_put _ _ _ _
theorem Mem.get_write (m : Mem) (j : Nat) (b : Option Blk) (i : Nat) : (m.write j b).get i = if i = j then b else m.get i := Tr.get_put _ _ _ _
theorem Mem.get_empty (i : Nat) : Mem.empty.get i = none := Tr.get_nil i

/-- Entries of a map. -/
def concE (ρ : Env) : List (AV × AV × Nat) → Option (List MapEntry)
  | [] => some []
  | (k, v, b) :: l => (conc ρ k).bind fun k => (conc ρ v).bind fun v => (concE ρ l).map (⟨k, v, b⟩ :: ·)
theorem concE_mono {ρ ρ' : Env} (h : ρ.le ρ') : ∀ (l : List (AV × AV × Nat)) (vs : List MapEntry), concE ρ l = some vs → concE ρ' l = some vs
  | [], _, e => e
  | (a, b, n) :: l, vs, e => by
    simp only [concE, Option.bind_eq_some_iff, Option.map_eq_some_iff] at e ⊢
    obtain ⟨x, hx, y, hy, z, hz, rfl⟩ := e
    exact ⟨x, conc_mono h a x hx, y, conc_mono h b y hy, z, concE_mono h l z hz, rfl⟩

/-- What a block has behind its cells: nothing, or as many cells as its elements have in all. -/
def Room (ρ : Env) (i : Nat) (op : Option Nat) (extra : List Value) (n : Nat) : Prop := match op with | none => extra = [] | some sz => n = ρ.κ i * sz
/-- Block g of the world is what the abstract one says. -/
def BlkOK (ρ : Env) (i : Nat) (b : Blk) (w : World) (g : Nat) : Prop :=
  match b with
  | .cells c e op => ∃ vs extra fr, concL ρ c = some vs ∧ w.heap[g]? = some (.cells (vs ++ extra).toArray e fr) ∧ (∀ o, o < (vs ++ extra).length → ¬ (fr.1 ≤ o ∧ o < fr.2)) ∧ Room ρ i op extra (vs ++ extra).length
  | .mp es clock => ∃ ves, concE ρ es = some ves ∧ w.heap[g]? = some (.map ves.toArray clock)
theorem BlkOK.lt {ρ : Env} {i : Nat} {b : Blk} {w : World} {g : Nat} (h : BlkOK ρ i b w g) : g < w.heap.size := by
  cases b with
  | cells c e op => obtain ⟨vs, ex, fr, _, h, _⟩ := h; exact (Array.getElem?_eq_some_iff.1 h).1
  | mp es cl => obtain ⟨ves, _, h⟩ := h; exact (Array.getElem?_eq_some_iff.1 h).1
theorem BlkOK.mono {ρ ρ' : Env} {i : Nat} {b : Blk} {w w' : World} {g : Nat} (h : BlkOK ρ i b w g) (hρ : ρ.le ρ') (hi : ρ.σ i = some g) (hw : w'.heap[g]? = w.heap[g]?) : BlkOK ρ' i b w' g := by
  cases b with
  | cells c e op =>
    obtain ⟨vs, ex, fr, h1, h2, h3, h4⟩ := h
    refine ⟨vs, ex, fr, concL_mono hρ _ _ h1, hw.trans h2, h3, ?_⟩
    cases op with
    | none => exact h4
    | some sz => simp only [Room] at h4 ⊢; rw [hρ.κ i g hi]; exact h4
  | mp es cl => obtain ⟨ves, h1, h2⟩ := h; exact ⟨ves, concE_mono hρ _ _ h1, hw.trans h2⟩

/-- The abstract memory stands for the world's blocks. -/
structure Rep (ρ : Env) (m : Mem) (w : World) : Prop where
  blk : ∀ i b, m.get i = some b → ∃ g, ρ.σ i = some g ∧ BlkOK ρ i b w g
  inj : ∀ i j bi bj g, m.get i = some bi → m.get j = some bj → ρ.σ i = some g → ρ.σ j = some g → i = j
  dom : ∀ i, m.next ≤ i → ρ.σ i = none
  low : ∀ i g, ρ.σ i = some g → g < w.heap.size
  sep : ∀ i b g, m.get i = some b → ρ.σ i = some g → ¬ base.keep g
  ok : base.ok w

theorem Rep.empty {w : World} (y : Nat → Int) (hw : base.ok w) : Rep ⟨fun _ => none, fun _ => 0, y⟩ Mem.empty w :=
  ⟨fun i b h => (by rw [Mem.get_empty] at h; cases h), fun i j bi bj g h => (by rw [Mem.get_empty] at h; cases h), fun _ _ => rfl, fun _ _ h => (by cases h), fun i b g h => (by rw [Mem.get_empty] at h; cases h), hw⟩
theorem Rep.lt {ρ : Env} {m : Mem} {w : World} (h : Rep ρ m w) {i : Nat} {b : Blk} (hi : m.get i = some b) : i < m.next := by
  obtain ⟨g, hg, _⟩ := h.blk i b hi
  rcases Nat.lt_or_ge i m.next with h1 | h1
  · exact h1
  · rw [h.dom i h1] at hg; cases hg
theorem Rep.lt_of_σ {ρ : Env} {m : Mem} {w : World} (h : Rep ρ m w) {i g : Nat} (hi : ρ.σ i = some g) : i < m.next := by
  rcases Nat.lt_or_ge i m.next with h1 | h1
  · exact h1
  · rw [h.dom i h1] at hi; cases hi

/-- One way from a world to a later one: what is known stays known; blocks but those of the list 'L' (and those that are new) are as they were. -/
structure Stp (ρ : Env) (m : Mem) (w : World) (ρ' : Env) (m' : Mem) (w' : World) (L : List Nat) : Prop where
  le : ρ.le ρ'
  rep : Rep ρ' m' w'
  os : w'.os = w.os
  tape : w'.tape = w.tape
  output : w'.output = w.output
  size : w.heap.size ≤ w'.heap.size
  frame : ∀ g, g < w.heap.size → (∀ i ∈ L, ρ.σ i ≠ some g) → w'.heap[g]? = w.heap[g]?
  fresh : ∀ i g, ρ'.σ i = some g → ρ.σ i = some g ∨ w.heap.size ≤ g ∨ ∃ j ∈ L, ρ.σ j = some g

/-- What the log says of the memory itself. -/
structure Lg (m m' : Mem) (L : List Nat) : Prop where
  next : m.next ≤ m'.next
  log : m'.log = L ++ m.log
  get : ∀ i, i < m.next → i ∉ L → m'.get i = m.get i
theorem Lg.refl (m : Mem) : Lg m m [] := ⟨Nat.le_refl _, rfl, fun _ _ _ => rfl⟩
theorem Lg.trans {a b c : Mem} {L L' : List Nat} (h : Lg a b L) (k : Lg b c L') : Lg a c (L' ++ L) :=
  ⟨Nat.le_trans h.next k.next, by rw [k.log, h.log, List.append_assoc], fun i hi hn => by
    rw [List.mem_append, not_or] at hn
    exact (k.get i (Nat.lt_of_lt_of_le hi h.next) hn.1).trans (h.get i hi hn.2)⟩
theorem Lg.new (m : Mem) (b : Blk) : Lg m (m.new b) [] := ⟨Nat.le_succ _, rfl, fun i hi _ => by rw [Mem.get_new, if_neg (by omega)]⟩
theorem Lg.write (m : Mem) (i : Nat) (b : Option Blk) : Lg m (m.write i b) [i] := ⟨Nat.le_refl _, rfl, fun j _ hn => by rw [Mem.get_write, if_neg (by simpa using hn)]⟩

section
variable {ρ ρ' ρ'' : Env} {m m' m'' : Mem} {w w' w'' : World} {L L' : List Nat}
theorem Stp.refl (h : Rep ρ m w) : Stp ρ m w ρ m w [] := ⟨Env.le.refl ρ, h, rfl, rfl, rfl, Nat.le_refl _, fun _ _ _ => rfl, fun _ _ h => .inl h⟩
theorem Stp.trans (h : Stp ρ m w ρ' m' w' L) (k : Stp ρ' m' w' ρ'' m'' w'' L') : Stp ρ m w ρ'' m'' w'' (L' ++ L) where
  le := h.le.trans k.le
  rep := k.rep
  os := k.os.trans h.os
  tape := k.tape.trans h.tape
  output := k.output.trans h.output
  size := Nat.le_trans h.size k.size
  frame := fun g hg hn => by
    refine (k.frame g (Nat.lt_of_lt_of_le hg h.size) fun i hi e => ?_).trans (h.frame g hg fun i hi => hn i (List.mem_append.2 (.inr hi)))
    rcases h.fresh i g e with h1 | h1 | ⟨j, hj, h1⟩
    · exact hn i (List.mem_append.2 (.inl hi)) h1
    · omega
    · exact hn j (List.mem_append.2 (.inr hj)) h1
  fresh := fun i g e => by
    rcases k.fresh i g e with h1 | h1 | ⟨j, hj, h1⟩
    · rcases h.fresh i g h1 with h2 | h2 | ⟨j, hj, h2⟩
      · exact .inl h2
      · exact .inr (.inl h2)
      · exact .inr (.inr ⟨j, List.mem_append.2 (.inr hj), h2⟩)
    · exact .inr (.inl (Nat.le_trans h.size h1))
    · rcases h.fresh j g h1 with h2 | h2 | ⟨l, hl, h2⟩
      · exact .inr (.inr ⟨j, List.mem_append.2 (.inl hj), h2⟩)
      · exact .inr (.inl h2)
      · exact .inr (.inr ⟨l, List.mem_append.2 (.inr hl), h2⟩)
/-- A list may be longer, and need not tell what wasn't there. -/
theorem Stp.mono_list (h : Stp ρ m w ρ' m' w' L) (hL : ∀ i g, i ∈ L → ρ.σ i = some g → i ∈ L') : Stp ρ m w ρ' m' w' L' :=
  { h with
    frame := fun g hg hn => h.frame g hg fun i hi e => hn i (hL i g hi e) e
    fresh := fun i g e => (h.fresh i g e).imp id (·.imp id fun ⟨j, hj, e⟩ => ⟨j, hL j g hj e, e⟩) }
/-- A draw. -/
theorem Rep.drawn (h : Rep ρ m w) (n : Nat) : Rep ρ m { w with drawn := n } := ⟨h.blk, h.inj, h.dom, h.low, h.sep, base.stays w _ h.ok fun _ _ => rfl⟩
theorem Stp.drawn (h : Rep ρ m w) (n : Nat) : Stp ρ m w ρ m { w with drawn := n } [] := ⟨Env.le.refl ρ, h.drawn n, rfl, rfl, rfl, Nat.le_refl _, fun _ _ _ => rfl, fun _ _ h => .inl h⟩

def Env.add (ρ : Env) (i g k : Nat) : Env := ⟨fun j => if j = i then some g else ρ.σ j, fun j => if j = i then k else ρ.κ j, ρ.y⟩
theorem Env.le_add {i : Nat} (h : ρ.σ i = none) (g k : Nat) : ρ.le (ρ.add i g k) :=
  ⟨fun j b hj => by
    have : j ≠ i := by rintro rfl; rw [h] at hj; cases hj
    simp [Env.add, this, hj], fun j b hj => by
    have : j ≠ i := by rintro rfl; rw [h] at hj; cases hj
    simp [Env.add, this], rfl⟩
theorem Env.add_σ (ρ : Env) (i g k : Nat) : (ρ.add i g k).σ i = some g := by simp [Env.add]

/-- A new block. 'o': what it is in the world. -/
theorem Stp.alloc (h : Rep ρ m w) (b : Blk) (o : Obj) (k : Nat) (hb : BlkOK (ρ.add m.next w.heap.size k) m.next b (w.alloc o) w.heap.size) :
    Stp ρ m w (ρ.add m.next w.heap.size k) (m.new b) (w.alloc o) [] := by
  have hn := h.dom m.next (Nat.le_refl _)
  have hle := Env.le_add hn w.heap.size k
  have hold : ∀ g, g < w.heap.size → (w.alloc o).heap[g]? = w.heap[g]? := fun g hg => heap_alloc_old w o g hg
  refine ⟨hle, ⟨fun i bi hi => ?_, fun i j bi bj g hi hj ei ej => ?_, fun i hi => ?_, fun i g hi => ?_, fun i bi g hi ei => ?_, base.stays w _ h.ok fun g hg => hold g (base.lt w g h.ok hg)⟩, rfl, rfl, rfl, by simp, fun g hg _ => hold g hg, fun i g e => ?_⟩
  · rw [Mem.get_new] at hi
    by_cases e : i = m.next
    · rw [if_pos e] at hi
      cases hi
      subst e
      exact ⟨_, Env.add_σ _ _ _ _, hb⟩
    · rw [if_neg e] at hi
      obtain ⟨g, hg, hok⟩ := h.blk i bi hi
      exact ⟨g, hle.σ i g hg, hok.mono hle hg (hold g hok.lt)⟩
  · rw [Mem.get_new] at hi hj
    simp only [Env.add] at ei ej
    by_cases e1 : i = m.next <;> by_cases e2 : j = m.next
    · rw [e1, e2]
    · rw [if_pos e1] at ei
      rw [if_neg e2] at ej
      cases ei
      exact absurd (h.low j _ ej) (by omega)
    · rw [if_neg e1] at ei
      rw [if_pos e2] at ej
      cases ej
      exact absurd (h.low i _ ei) (by omega)
    · rw [if_neg e1] at hi ei
      rw [if_neg e2] at hj ej
      exact h.inj i j bi bj g hi hj ei ej
  · have : m.next ≤ i := Nat.le_of_lt hi
    have hne : i ≠ m.next := by have : m.next < i := hi; omega
    simp [Env.add, hne, h.dom i this]
  · simp only [Env.add] at hi
    by_cases e : i = m.next
    · rw [if_pos e] at hi; cases hi; simp
    · rw [if_neg e] at hi; have := h.low i g hi; simp; omega
  · rw [Mem.get_new] at hi
    simp only [Env.add] at ei
    by_cases e : i = m.next
    · rw [if_pos e] at ei; cases ei; exact fun hk => by have := base.lt w _ h.ok hk; omega
    · rw [if_neg e] at hi ei; exact h.sep i bi g hi ei
  · simp only [Env.add] at e
    by_cases e1 : i = m.next
    · rw [if_pos e1] at e; cases e; exact .inr (.inl (Nat.le_refl _))
    · rw [if_neg e1] at e; exact .inl e
end
end
end Ev
end Go.Proofs.YtddedijencleeaaGreatDoor

/- The evaluator, part 2: operations that look at no memory. No condition. -/
set_option linter.all false
namespace Go.Proofs.YtddedijencleeaaGreatDoor
open Go.RowKit

namespace Ev
noncomputable section

def absS : Value → Option AV
  | .bool b => some (.bool b)
  | .int k n => some (.int k n)
  | .string s => some (.str s.data.toList)
  | .pointer none => some (.ptr none)
  | .slice none l c => some (.slice none l (.known c))
  | .map none => some (.map none)
  | .nilFunc => some .nilFunc
  | .nilIface => some .nilIface
  | _ => none
def absL : List Value → Option (List AV)
  | [] => some []
  | v :: l => match absS v with
    | none => none
    | some a => match absL l with
      | none => none
      | some b => some (a :: b)
def absV : Value → Option AV
  | .agg cs => match absL cs.toList with
    | none => none
    | some l => some (.agg l)
  | .tuple cs => match absL cs.toList with
    | none => none
    | some l => some (.tuple l)
  | v => absS v
theorem absS_ok {ρ : Env} {v : Value} {a : AV} (h : absS v = some a) : conc ρ a = some v := by
  cases v with
  | pointer p => cases p <;> simp [absS] at h; subst h; rfl
  | slice p => cases p <;> simp [absS] at h; subst h; rfl
  | map p => cases p <;> simp [absS] at h; subst h; rfl
  | _ => simp [absS] at h <;> subst h <;> rfl
theorem absL_ok {ρ : Env} : ∀ {l : List Value} {a : List AV}, absL l = some a → concL ρ a = some l
  | [], a, h => by simp [absL] at h; subst h; rfl
  | v :: l, a, h => by
    unfold absL at h
    split at h
    · cases h
    · rename_i x hx
      split at h
      · cases h
      · rename_i y hy
        cases h
        exact concL_cons_mk (absS_ok hx) (absL_ok hy)
theorem absV_ok {ρ : Env} {v : Value} {a : AV} (h : absV v = some a) : conc ρ a = some v := by
  cases v with
  | agg cs =>
    unfold absV at h
    simp only at h
    split at h
    · cases h
    · rename_i l hl; cases h; simp [conc, absL_ok hl]
  | tuple cs =>
    unfold absV at h
    simp only at h
    split at h
    · cases h
    · rename_i l hl; cases h; simp [conc, absL_ok hl]
  | _ => exact absS_ok (by simpa [absV] using h)

/-- What an operand holds. -/
def evalO (e : Tr AV) : Operand → Option AV
  | .tmp t => e.get t
  | .const v => absV v
  | .global _ => none
  | .func f => some (.func (.func f) [] [])

def AV.cells : AV → List AV
  | .agg l => l
  | v => [v]
theorem cells_ok {ρ : Env} {a : AV} {v : Value} (h : conc ρ a = some v) : concL ρ a.cells = some v.cells.toList := by
  have one : ∀ a v, conc ρ a = some v → concL ρ [a] = some [v] := fun a v h => concL_cons_mk h rfl
  cases a with
  | agg l => simp only [conc, Option.map_eq_some_iff] at h; obtain ⟨x, hx, rfl⟩ := h; simpa [AV.cells, Value.cells] using hx
  | bool b => have := one _ _ h; simp only [conc, Option.some.injEq] at h; subst h; exact this
  | int k n => have := one _ _ h; simp only [conc, Option.some.injEq] at h; subst h; exact this
  | str s => have := one _ _ h; simp only [conc, Option.some.injEq] at h; subst h; exact this
  | ptr p =>
    have := one _ _ h
    cases p with
    | none => simp only [conc, Option.some.injEq] at h; subst h; exact this
    | some p => simp only [conc, Option.map_eq_some_iff] at h; obtain ⟨x, hx, rfl⟩ := h; exact this
  | slice p l c =>
    have := one _ _ h
    cases p with
    | none => cases c <;> simp [conc] at h; subst h; exact this
    | some p =>
      simp only [conc, Option.bind_eq_some_iff] at h
      obtain ⟨x, hx, h⟩ := h
      split at h
      · cases h; exact this
      · cases h
  | slice0 p q d => have := one _ _ h; simp only [conc, Option.map_eq_some_iff] at h; obtain ⟨x, hx, rfl⟩ := h; exact this
  | map p =>
    have := one _ _ h
    cases p with
    | none => simp only [conc, Option.some.injEq] at h; subst h; exact this
    | some p => simp only [conc, Option.map_eq_some_iff] at h; obtain ⟨x, hx, rfl⟩ := h; exact this
  | func fn f c =>
    have := one _ _ h
    simp only [conc, Option.bind_eq_some_iff, Option.map_eq_some_iff] at h; obtain ⟨x, hx, y, hy, rfl⟩ := h; exact this
  | nilFunc => have := one _ _ h; simp only [conc, Option.some.injEq] at h; subst h; exact this
  | iface t v => have := one _ _ h; simp only [conc, Option.map_eq_some_iff] at h; obtain ⟨x, hx, rfl⟩ := h; exact this
  | nilIface => have := one _ _ h; simp only [conc, Option.some.injEq] at h; subst h; exact this
  | tuple l => have := one _ _ h; simp only [conc, Option.map_eq_some_iff] at h; obtain ⟨x, hx, rfl⟩ := h; exact this
  | sym k i l r =>
    have := one _ _ h
    simp only [conc] at h
    rcases symV_kind h with ⟨n, rfl⟩ | ⟨b, rfl⟩ <;> exact this

section
variable (P : Program)
def aggT (t : TypeId) : Option Bool :=
  match P.underlying t with
  | some (.struct _) => some true
  | some (.array _ _) => some true
  | some _ => some false
  | none => none
def sizeT (t : TypeId) : Option Nat := match P.info? t with | some i => some i.size | none => none
def zeroT (t : TypeId) : Option AV := match P.info? t with | some i => (match i.zero with | some v => absV v | none => none) | none => none
def partA (t : TypeId) (cs : List AV) (off : Nat) : Option AV :=
  match aggT P t with
  | some true => match sizeT P t with
    | some n => some (.agg ((cs.drop off).take n))
    | none => none
  | some false => cs[off]?
  | none => none
end
section
variable {P : Program} {ρ : Env}
theorem aggT_ok {t : TypeId} {b : Bool} (h : aggT P t = some b) (w : World) : (isAgg t).run P w = .ok b w := by
  unfold aggT at h
  split at h <;> simp at h <;> subst h
  · rename_i hu; simp [isAgg, run_underlying hu]
  · rename_i hu; simp [isAgg, run_underlying hu]
  · rename_i d h1 h2 hu
    simp only [isAgg, Sem.run_bind, run_underlying hu, Result.andThen_ok]
    cases d <;> first | rfl | exact absurd rfl (h1 _) | exact absurd rfl (h2 _ _)
theorem sizeT_ok {t : TypeId} {n : Nat} (h : sizeT P t = some n) (w : World) : (sizeOf t).run P w = .ok n w := by
  unfold sizeT at h
  split at h <;> simp at h
  rename_i i hi
  subst h
  simp [sizeOf, typeInfo, hi]
theorem sizeT_info {t : TypeId} {n : Nat} (h : sizeT P t = some n) : ∃ i, P.info? t = some i ∧ i.size = n := by
  unfold sizeT at h
  split at h <;> simp at h
  rename_i i hi
  exact ⟨i, hi, h⟩
theorem zeroT_ok {t : TypeId} {a : AV} (h : zeroT P t = some a) : ∃ z, conc ρ a = some z ∧ ∀ w, (zeroValue t).run P w = .ok z w := by
  unfold zeroT at h
  split at h
  · rename_i i hi
    split at h
    · rename_i v hv
      exact ⟨v, absV_ok h, fun w => by simp [zeroValue, typeInfo, hi, hv]⟩
    · cases h
  · cases h
theorem partA_ok {t : TypeId} {cs : List AV} {vs : List Value} {off : Nat} {a : AV} (hc : concL ρ cs = some vs) (h : partA P t cs off = some a) :
    ∃ x, conc ρ a = some x ∧ ∀ w, (part t vs.toArray off).run P w = .ok x w := by
  unfold partA at h
  split at h
  · rename_i hag
    split at h
    · rename_i n hn
      cases h
      refine ⟨.agg ((vs.drop off).take n).toArray, by simp [conc, concL_take n (concL_drop off hc)], fun w => ?_⟩
      simp [part, aggT_ok hag, sizeT_ok hn]
    · cases h
  · rename_i hag
    obtain ⟨v, hv, hva⟩ := concL_get hc h
    exact ⟨v, hva, fun w => by simp [part, aggT_ok hag, hv]⟩
  · cases h
end

/-- A literal's parts go in. -/
def fillA (place : Nat → Option (Nat × Nat)) (cells : List AV) : List (Nat × AV) → Option (List AV)
  | [] => some cells
  | (i, v) :: rest => match place i with
    | none => none
    | some (off, size) =>
      bif Nat.beq v.cells.length size && Nat.ble (off + v.cells.length) cells.length then fillA place (cells.take off ++ v.cells ++ cells.drop (off + v.cells.length)) rest else none
theorem foldl_over (cs : Array Value) (l : List Value) (off : Nat) (h : off + l.length ≤ cs.size) :
    (l.zipIdx.foldl (fun cs (x : Value × Nat) => cs.setIfInBounds (off + x.2) x.1) cs).toList = cs.toList.take off ++ l ++ cs.toList.drop (off + l.length) := by
  obtain ⟨h1, h2⟩ := Great.foldl_set off l 0 cs
  apply List.ext_getElem?
  intro k
  have := h2 k
  rw [Array.getElem?_toList, this]
  simp only [Nat.add_zero, Nat.sub_zero]
  have hs : cs.toList.length = cs.size := by simp
  by_cases c1 : k < off
  · rw [if_neg (by omega), List.append_assoc, List.getElem?_append_left (by simp; omega), List.getElem?_take_of_lt c1]; simp
  · by_cases c2 : k < off + l.length
    · rw [if_pos ⟨by omega, c2, by omega⟩, List.append_assoc, List.getElem?_append_right (by simp; omega), List.getElem?_append_left (by simp; omega)]
      congr 1; simp; omega
    · rw [if_neg (by omega), List.getElem?_append_right (by simp; omega), List.getElem?_drop]
      simp
      congr 1; omega
theorem fillA_ok {ρ : Env} {place : Nat → Option (Nat × Nat)} : ∀ {ps : List (Nat × AV)} {qs : List (Nat × Value)} {cells r : List AV} {cs : Array Value},
    concL ρ cells = some cs.toList → ps.map (·.1) = qs.map (·.1) → concL ρ (ps.map (·.2)) = some (qs.map (·.2)) → fillA place cells ps = some r →
    ∃ rs, Instr.fill place cs qs = some rs ∧ concL ρ r = some rs.toList
  | [], qs, cells, r, cs, hc, hi, _, h => by
    simp [fillA] at h
    subst h
    cases qs with
    | nil => exact ⟨cs, rfl, hc⟩
    | cons _ _ => simp at hi
  | (i, v) :: ps, [], _, _, _, _, hi, _, _ => by simp at hi
  | (i, v) :: ps, (j, x) :: qs, cells, r, cs, hc, hi, hv, h => by
    simp only [List.map_cons, List.cons.injEq] at hi
    obtain ⟨rfl, hi⟩ := hi
    obtain ⟨x', y', hx, hy, e⟩ := concL_cons hv
    simp only [List.map_cons, List.cons.injEq] at e
    obtain ⟨rfl, rfl⟩ := e
    unfold fillA at h
    split at h
    · cases h
    · rename_i off size hp
      by_cases hb : (Nat.beq v.cells.length size && Nat.ble (off + v.cells.length) cells.length) = true
      · rw [hb, cond_true] at h
        simp only [Bool.and_eq_true, Nat.beq_eq, Nat.ble_eq] at hb
        have hcl := cells_ok hx
        have hl1 := concL_length hcl
        have hl2 := concL_length hc
        simp only [Array.length_toList] at hl1 hl2
        have hov := foldl_over cs x.cells.toList off (by simp; omega)
        have := fillA_ok (place := place) (qs := qs) (cs := x.cells.toList.zipIdx.foldl (fun cs (x : Value × Nat) => cs.setIfInBounds (off + x.2) x.1) cs) (by
          rw [hov]
          refine concL_append (concL_append (concL_take _ hc) hcl) ?_
          rw [show off + x.cells.toList.length = off + v.cells.length by simp; omega]
          exact concL_drop _ hc) hi hy h
        obtain ⟨rs, h1, h2⟩ := this
        refine ⟨rs, ?_, h2⟩
        unfold Instr.fill
        rw [hp]
        simp only
        rw [if_neg (by simp; omega)]
        rw [← h1]
        congr 1
        rw [← Array.foldl_toList]
        simp
      · simp only [Bool.not_eq_true] at hb
        rw [hb, cond_false] at h
        cases h

section
variable (P : Program)
def fieldsA (fs : List Field) : Option (List (Nat × Nat)) :=
  match fs with
  | [] => some []
  | f :: fs => match sizeT P f.type with
    | none => none
    | some n => match fieldsA fs with
      | none => none
      | some l => some ((f.offset, n) :: l)
def partsO (f : Operand → Option AV) : List (Nat × Operand) → Option (List (Nat × AV))
  | [] => some []
  | (i, x) :: l => match f x with
    | none => none
    | some v => match partsO f l with
      | none => none
      | some r => some ((i, v) :: r)
def listO (f : Operand → Option AV) : List Operand → Option (List AV)
  | [] => some []
  | x :: l => match f x with
    | none => none
    | some v => match listO f l with
      | none => none
      | some r => some (v :: r)
def buildA (t : TypeId) (ps : List (Nat × AV)) : Option AV :=
  match zeroT P t with
  | none => none
  | some z => match P.underlying t with
    | some (.struct fs) => (match fieldsA P fs.toList with
      | none => none
      | some pl => match fillA (fun i => pl[i]?) z.cells ps with
        | none => none
        | some r => some (.agg r))
    | some (.array _ e) => (match sizeT P e with
      | none => none
      | some n => match fillA (fun i => some (i * n, n)) z.cells ps with
        | none => none
        | some r => some (.agg r))
    | _ => none
end
section
variable {P : Program} {ρ : Env} {f : Operand → Option AV} {ev : Operand → Value}
theorem fieldsA_ok : ∀ {fs : List Field} {l : List (Nat × Nat)}, fieldsA P fs = some l → ∀ w, (fs.mapM (m := Sem) fun f => Prod.mk f.offset <$> sizeOf f.type).run P w = .ok l w
  | [], l, h, w => by simp [fieldsA] at h; subst h; rfl
  | x :: fs, l, h, w => by
    unfold fieldsA at h
    split at h
    · cases h
    · rename_i n hn
      split at h
      · cases h
      · rename_i l' hl
        cases h
        simp [List.mapM_cons, sizeT_ok hn, fieldsA_ok hl]
theorem partsO_ok : ∀ {ps : List (Nat × Operand)} {r : List (Nat × AV)}, (∀ x ∈ ps.map (·.2), ∀ u, f x = some u → conc ρ u = some (ev x)) → partsO f ps = some r →
    r.map (·.1) = (ps.map fun p => (p.1, ev p.2)).map (·.1) ∧ concL ρ (r.map (·.2)) = some ((ps.map fun p => (p.1, ev p.2)).map (·.2))
  | [], r, _, h => by simp [partsO] at h; subst h; exact ⟨rfl, rfl⟩
  | (i, x) :: ps, r, hf, h => by
    unfold partsO at h
    split at h
    · cases h
    · rename_i v hv
      split at h
      · cases h
      · rename_i r' hr
        cases h
        obtain ⟨h1, h2⟩ := partsO_ok (ps := ps) (fun y hy => hf y (List.mem_cons_of_mem _ hy)) hr
        exact ⟨by simp only [List.map_cons, h1], by simp only [List.map_cons]; exact concL_cons_mk (hf x (List.mem_cons_self ..) v hv) h2⟩
theorem listO_ok : ∀ {ps : List Operand} {r : List AV}, (∀ x ∈ ps, ∀ u, f x = some u → conc ρ u = some (ev x)) → listO f ps = some r → concL ρ r = some (ps.map ev)
  | [], r, _, h => by simp [listO] at h; subst h; rfl
  | x :: ps, r, hf, h => by
    unfold listO at h
    split at h
    · cases h
    · rename_i v hv
      split at h
      · cases h
      · rename_i r' hr
        cases h
        exact concL_cons_mk (hf x (List.mem_cons_self ..) v hv) (listO_ok (fun y hy => hf y (List.mem_cons_of_mem _ hy)) hr)
theorem buildA_ok {t : TypeId} {ps : List (Nat × AV)} {qs : List (Nat × Value)} {a : AV} (h1 : ps.map (·.1) = qs.map (·.1)) (h2 : concL ρ (ps.map (·.2)) = some (qs.map (·.2))) (h : buildA P t ps = some a) :
    ∃ x, conc ρ a = some x ∧ ∀ w, (Instr.build t qs.toArray).run P w = .ok x w := by
  unfold buildA at h
  split at h
  · cases h
  · rename_i z hz
    obtain ⟨zv, hzc, hzr⟩ := zeroT_ok (ρ := ρ) hz
    split at h
    · rename_i fs hu
      split at h
      · cases h
      · rename_i pl hpl
        split at h
        · cases h
        · rename_i r hr
          cases h
          obtain ⟨rs, e1, e2⟩ := fillA_ok (ρ := ρ) (cells_ok hzc) h1 h2 hr
          refine ⟨.agg rs, by simp [conc, e2], fun w => ?_⟩
          have hm : (fs.mapM (m := Sem) fun f => Prod.mk f.offset <$> sizeOf f.type).run P w = .ok pl.toArray w := by
            rw [Array.mapM_eq_mapM_toList]
            simp [fieldsA_ok hpl]
          have hm' : (fs.mapM (m := Sem) fun f => do pure (f.offset, ← sizeOf f.type)).run P w = .ok pl.toArray w := by
            rw [← hm]; rfl
          have e1' : Instr.fill (fun i => pl.toArray[i]?) zv.cells qs = some rs := by simpa using e1
          simp only [Instr.build, Sem.run_bind, hzr, Result.andThen_ok, run_underlying hu, hm']
          simp [e1]
    · rename_i n e hu
      split at h
      · cases h
      · rename_i sz hsz
        split at h
        · cases h
        · rename_i r hr
          cases h
          obtain ⟨rs, e1, e2⟩ := fillA_ok (ρ := ρ) (cells_ok hzc) h1 h2 hr
          refine ⟨.agg rs, by simp [conc, e2], fun w => ?_⟩
          simp only [Instr.build, Sem.run_bind, hzr, Result.andThen_ok, run_underlying hu, sizeT_ok hsz]
          simp [e1]
    · cases h
end
end
end Ev
end Go.Proofs.YtddedijencleeaaGreatDoor

/- The evaluator, part 3: more operations that look at no memory: fields, elements, slices, arithmetic, comparing. No condition. -/
set_option linter.all false
namespace Go.Proofs.YtddedijencleeaaGreatDoor
open Go.RowKit

namespace Ev
noncomputable section

section
variable (P : Program)
def fieldA (t : TypeId) (v : AV) (i : Nat) : Option AV :=
  match P.underlying t with
  | some (.struct fs) => (match fs[i]? with
    | none => none
    | some f => match v with
      | .agg cs => partA P f.type cs f.offset
      | _ => none)
  | _ => none
def fieldAddrA (t : TypeId) (v : AV) (i : Nat) : Option AV :=
  match P.underlying t with
  | some (.struct fs) => (match fs[i]? with
    | none => none
    | some f => match v with
      | .ptr (some p) => (match sizeT P f.type with
        | none => none
        | some n => bif Nat.beq n 0 then none else some (.ptr (some (p.1, p.2 + f.offset))))
      | _ => none)
  | _ => none
def inB (i : Int) (n : Nat) : Bool := decide (0 ≤ i) && decide (i < n)
def indexAddrA (t : TypeId) (x i : AV) : Option AV :=
  match i with
  | .int _ i => (match P.underlying t with
    | some (.array n e) => (match x with
      | .ptr (some p) => bif inB i n then (match sizeT P e with
        | none => none
        | some s => some (.ptr (some (p.1, p.2 + i.toNat * s)))) else none
      | _ => none)
    | some (.slice e) => (match x with
      | .slice (some p) l _ => bif inB i l then (match sizeT P e with
        | none => none
        | some s => some (.ptr (some (p.1, p.2 + i.toNat * s)))) else none
      | _ => none)
    | _ => none)
  | _ => none
def indexA (t : TypeId) (x i : AV) : Option AV :=
  match i with
  | .int _ i => (match P.underlying t with
    | some (.array n e) => (match x with
      | .agg cs => bif inB i n then (match sizeT P e with
        | none => none
        | some s => partA P e cs (i.toNat * s)) else none
      | _ => none)
    | some .string => (match x with
      | .str s => bif decide (0 ≤ i) then (match s[i.toNat]? with
        | none => none
        | some b => some (.int .u8 b.toNat)) else none
      | _ => none)
    | _ => none)
  | _ => none
end
section
variable {P : Program} {ρ : Env}
theorem fieldA_ok {t : TypeId} {v a : AV} {x : Value} {i : Nat} (hv : conc ρ v = some x) (h : fieldA P t v i = some a) : ∃ y, conc ρ a = some y ∧ ∀ w, (Instr.field t x i).run P w = .ok y w := by
  unfold fieldA at h
  split at h
  · rename_i fs hu
    split at h
    · cases h
    · rename_i f hf
      split at h
      · rename_i cs
        simp only [conc, Option.map_eq_some_iff] at hv
        obtain ⟨vs, hvs, rfl⟩ := hv
        obtain ⟨y, hy, hr⟩ := partA_ok hvs h
        exact ⟨y, hy, fun w => by simp [Instr.field, run_underlying hu, hf, asAgg, hr]⟩
      · cases h
  · cases h
theorem ptr_conc {p : Nat × Nat} {x : Value} (h : conc ρ (.ptr (some p)) = some x) : ∃ b, ρ.σ p.1 = some b ∧ x = .pointer (some ⟨b, p.2, none⟩) := by
  simp only [conc, Option.map_eq_some_iff] at h
  obtain ⟨b, hb, rfl⟩ := h
  exact ⟨b, hb, rfl⟩
theorem slice_conc {p : Nat × Nat} {l : Nat} {c : Cap} {x : Value} (h : conc ρ (.slice (some p) l c) = some x) : ∃ b, ρ.σ p.1 = some b ∧ c.fits (ρ.κ p.1) l = true ∧ x = .slice (some ⟨b, p.2, none⟩) l (c.conc (ρ.κ p.1)) := by
  simp only [conc, Option.bind_eq_some_iff] at h
  obtain ⟨b, hb, h⟩ := h
  split at h
  · rename_i hf; cases h; exact ⟨b, hb, hf, rfl⟩
  · cases h
theorem fieldAddrA_ok {t : TypeId} {v a : AV} {x : Value} {i : Nat} (hv : conc ρ v = some x) (h : fieldAddrA P t v i = some a) : ∃ y, conc ρ a = some y ∧ ∀ w, (Instr.fieldAt t x i).run P w = .ok y w := by
  unfold fieldAddrA at h
  split at h
  · rename_i fs hu
    split at h
    · cases h
    · rename_i f hf
      split at h
      · rename_i p
        obtain ⟨b, hb, rfl⟩ := ptr_conc hv
        split at h
        · cases h
        · rename_i n hn
          by_cases hz : n = 0
          · subst hz; simp [Nat.beq] at h
          · rw [Tr.beq0 hz, cond_false] at h
            cases h
            refine ⟨.pointer (some ⟨b, p.2 + f.offset, none⟩), by simp [conc, hb], fun w => ?_⟩
            simp [Instr.fieldAt, run_underlying hu, hf, Instr.sureAddr, fieldPlace, sizeT_ok hn, hz, Addr.add_lit]
      · cases h
  · cases h
theorem inB_iff {i : Int} {n : Nat} : inB i n = true ↔ 0 ≤ i ∧ i < n := by simp [inB]
theorem indexAddrA_ok {t : TypeId} {v j a : AV} {x y : Value} (hv : conc ρ v = some x) (hj : conc ρ j = some y) (h : indexAddrA P t v j = some a) :
    ∃ z, conc ρ a = some z ∧ ∀ w, (Instr.indexAt t x y).run P w = .ok z w := by
  unfold indexAddrA at h
  split at h
  · rename_i k i
    simp only [conc, Option.some.injEq] at hj
    subst hj
    split at h
    · rename_i n e hu
      split at h
      · rename_i p
        obtain ⟨b, hb, rfl⟩ := ptr_conc hv
        cases hin : inB i n with
        | false => rw [hin, cond_false] at h; cases h
        | true =>
          rw [hin, cond_true] at h
          split at h
          · cases h
          · rename_i s hs
            cases h
            refine ⟨.pointer (some ⟨b, p.2 + i.toNat * s, none⟩), by simp [conc, hb], fun w => ?_⟩
            obtain ⟨h0, h1⟩ := inB_iff.1 hin
            simp [Instr.indexAt, asIntOf, run_underlying hu, Instr.sureAddr, h0, h1, sizeT_ok hs, Addr.add_lit]
      · cases h
    · rename_i e hu
      split at h
      · rename_i p l c
        obtain ⟨b, hb, _, rfl⟩ := slice_conc hv
        cases hin : inB i l with
        | false => rw [hin, cond_false] at h; cases h
        | true =>
          rw [hin, cond_true] at h
          split at h
          · cases h
          · rename_i s hs
            cases h
            refine ⟨.pointer (some ⟨b, p.2 + i.toNat * s, none⟩), by simp [conc, hb], fun w => ?_⟩
            obtain ⟨h0, h1⟩ := inB_iff.1 hin
            simp [Instr.indexAt, asIntOf, run_underlying hu, h0, h1, sizeT_ok hs, Addr.add_lit]
      · cases h
    · cases h
  · cases h
theorem indexA_ok {t : TypeId} {v j a : AV} {x y : Value} (hv : conc ρ v = some x) (hj : conc ρ j = some y) (h : indexA P t v j = some a) :
    ∃ z, conc ρ a = some z ∧ ∀ w, (Instr.index t x y).run P w = .ok z w := by
  unfold indexA at h
  split at h
  · rename_i k i
    simp only [conc, Option.some.injEq] at hj
    subst hj
    split at h
    · rename_i n e hu
      split at h
      · rename_i cs
        simp only [conc, Option.map_eq_some_iff] at hv
        obtain ⟨vs, hvs, rfl⟩ := hv
        cases hin : inB i n with
        | false => rw [hin, cond_false] at h; cases h
        | true =>
          rw [hin, cond_true] at h
          split at h
          · cases h
          · rename_i s hs
            obtain ⟨z, hz, hr⟩ := partA_ok hvs h
            obtain ⟨h0, h1⟩ := inB_iff.1 hin
            exact ⟨z, hz, fun w => by simp [Instr.index, asIntOf, run_underlying hu, h0, h1, sizeT_ok hs, hr]⟩
      · cases h
    · rename_i hu
      split at h
      · rename_i s
        simp only [conc, Option.some.injEq] at hv
        subst hv
        by_cases h0 : 0 ≤ i
        · rw [decide_eq_true h0, cond_true] at h
          split at h
          · cases h
          · rename_i b hb
            cases h
            refine ⟨.int .u8 b.toNat, rfl, fun w => ?_⟩
            have hbb : (ByteArray.mk s.toArray)[i.toNat]? = some b := by
              obtain ⟨hl, he⟩ := List.getElem?_eq_some_iff.1 hb
              have hsz : i.toNat < (ByteArray.mk s.toArray).size := by simpa [ByteArray.size] using hl
              refine (getElem?_pos (ByteArray.mk s.toArray) i.toNat hsz).trans ?_
              rw [← he]
              rfl
            simp [Instr.index, asIntOf, run_underlying hu, h0, hbb]
        · rw [decide_eq_false h0, cond_false] at h; cases h
      · cases h
    · cases h
  · cases h
end

section
variable (P : Program)
/-- Bounds of a slice expression: 'l' is how many there are, 'c' how many there may be for sure. -/
def bnd (x : Option AV) (d top : Nat) : Option Nat :=
  match x with
  | none => some d
  | some (.int _ i) => bif decide (0 ≤ i) && decide (i ≤ (top : Int)) then some i.toNat else none
  | _ => none
def sliceA (t : TypeId) (x : AV) (lo hi : Option AV) : Option AV :=
  match x with
  | .str s => (match P.underlying t with
    | some .string => (match bnd hi s.length s.length with
      | none => none
      | some h => match bnd lo 0 h with
        | none => none
        | some l => some (.str ((s.drop l).take (h - l))))
    | _ => none)
  | .slice none 0 (.known 0) => (match P.underlying t with
    | some (.slice e) => (match sizeT P e with
      | none => none
      | some _ => match bnd hi 0 0 with
        | none => none
        | some h => match bnd lo 0 h with
          | none => none
          | some _ => some (.slice none 0 (.known 0)))
    | _ => none)
  | .slice (some p) n (.known c) => bif Nat.blt c n then none else (match P.underlying t with
    | some (.slice e) => (match sizeT P e with
      | none => none
      | some s => match bnd hi n c with
        | none => none
        | some h => match bnd lo 0 h with
          | none => none
          | some l => some (.slice (some (p.1, bif Nat.beq c l then p.2 else p.2 + l * s)) (h - l) (.known (c - l))))
    | _ => none)
  | .slice (some p) n (.opn d) => (match P.underlying t with
    | some (.slice e) => (match sizeT P e with
      | none => none
      | some s => match bnd hi n n with
        | none => none
        | some h => match bnd lo 0 h with
          | none => none
          | some l => bif Nat.beq l n then some (.slice0 p (p.2 + l * s) (d + l)) else some (.slice (some (p.1, p.2 + l * s)) (h - l) (.opn (d + l))))
    | _ => none)
  | .slice0 p q d => (match P.underlying t with
    | some (.slice e) => (match sizeT P e with
      | none => none
      | some _ => match bnd hi 0 0 with
        | none => none
        | some h => match bnd lo 0 h with
          | none => none
          | some _ => some (.slice0 p q d))
    | _ => none)
  | .ptr (some p) => (match P.underlying t with
    | some (.array n e) => (match sizeT P e with
      | none => none
      | some s => match bnd hi n n with
        | none => none
        | some h => match bnd lo 0 h with
          | none => none
          | some l => some (.slice (some (p.1, bif Nat.beq n l then p.2 else p.2 + l * s)) (h - l) (.known (n - l))))
    | _ => none)
  | _ => none
end
section
variable {P : Program} {ρ : Env}
theorem bnd_le {x : Option AV} {d top r : Nat} (h : bnd x d top = some r) (hd : d ≤ top) : r ≤ top := by
  unfold bnd at h
  split at h
  · cases h; exact hd
  · rename_i k i
    cases hb : (decide (0 ≤ i) && decide (i ≤ (top : Int))) with
    | false => rw [hb, cond_false] at h; cases h
    | true =>
      rw [hb, cond_true] at h
      cases h
      simp at hb
      omega
  · cases h
theorem optO_ok {f : Operand → Option AV} {ev : Operand → Value} {x : Option Operand} {u : Option AV} (hx : ∀ y ∈ x, ∀ u, f y = some u → conc ρ u = some (ev y)) (h : (match x with | none => some none | some y => (match f y with | none => none | some v => some (some v))) = some u) :
    (x = none ∧ u = none) ∨ ∃ y v, x = some y ∧ u = some v ∧ conc ρ v = some (ev y) := by
  cases x with
  | none => simp at h; exact .inl ⟨rfl, h.symm⟩
  | some y =>
    simp only at h
    split at h
    · cases h
    · rename_i v hv
      cases h
      exact .inr ⟨y, v, rfl, rfl, hx y rfl v hv⟩
/-- How an optional bound stands for the model's. -/
def OptC (ρ : Env) (a : Option AV) (x : Option Value) : Prop := match a, x with
  | none, none => True
  | some a, some x => conc ρ a = some x
  | _, _ => False
theorem bnd_ok {a : Option AV} {x : Option Value} {d top r : Nat} (hx : OptC ρ a x) (h : bnd a d top = some r) :
    (x = none ∧ r = d) ∨ ∃ v, x = some v ∧ r ≤ top ∧ ∀ (y : Nat) c w, top ≤ y → (Instr.sliceBound v y c).run P w = .ok r w := by
  unfold bnd at h
  split at h
  · cases h
    cases x with
    | none => exact .inl ⟨rfl, rfl⟩
    | some _ => exact hx.elim
  · rename_i k i
    cases x with
    | none => exact hx.elim
    | some v =>
      have hx' : conc ρ (.int k i) = some v := hx
      simp only [conc, Option.some.injEq] at hx'
      subst hx'
      cases hb : (decide (0 ≤ i) && decide (i ≤ (top : Int))) with
      | false => rw [hb, cond_false] at h; cases h
      | true =>
        rw [hb, cond_true] at h
        cases h
        simp at hb
        exact .inr ⟨_, rfl, by omega, fun y c w hy => run_sliceBound w k i y c hb.1 (by omega)⟩
  · cases h
/-- Both bounds. -/
theorem bnds_ok {lo hi : Option AV} {xl xh : Option Value} {n top h l : Nat} (hl : OptC ρ lo xl) (hh : OptC ρ hi xh) (e1 : bnd hi n top = some h) (e2 : bnd lo 0 h = some l) (isS : Bool) (c : Nat) (hn : n ≤ top) (hc : top ≤ c) (w : World) :
    (Instr.sliceBounds isS n c xl xh none).run P w = .ok (l, h, c) w ∧ l ≤ h ∧ h ≤ top := by
  have hle := bnd_le e1 hn
  have hll := bnd_le e2 (Nat.zero_le h)
  refine ⟨?_, hll, hle⟩
  rcases bnd_ok (P := P) hh e1 with ⟨rfl, rfl⟩ | ⟨v, rfl, _, r1⟩ <;> rcases bnd_ok (P := P) hl e2 with ⟨rfl, rfl⟩ | ⟨u, rfl, _, r2⟩
  · simp [Instr.sliceBounds]
  · simp [Instr.sliceBounds, r2 h _ w (Nat.le_refl _)]
  · simp [Instr.sliceBounds, r1 c _ w hc]
  · simp [Instr.sliceBounds, r1 c _ w hc, r2 h _ w (Nat.le_refl _)]
theorem extract_toArray (s : List UInt8) (l h : Nat) : (ByteArray.mk s.toArray).extract l h = ⟨((s.drop l).take (h - l)).toArray⟩ := by
  apply ByteArray.ext
  rw [ByteArray.data_extract]
  simp
theorem sliceA_ok {t : TypeId} {v a : AV} {x : Value} {lo hi : Option AV} {xl xh : Option Value} (hv : conc ρ v = some x) (hl : OptC ρ lo xl) (hh : OptC ρ hi xh) (h : sliceA P t v lo hi = some a) :
    ∃ z, conc ρ a = some z ∧ ∀ w, (Instr.sliceAt t x xl xh none).run P w = .ok z w := by
  unfold sliceA at h
  split at h
  · rename_i s
    simp only [conc, Option.some.injEq] at hv
    subst hv
    split at h
    · rename_i hu
      split at h
      · cases h
      · rename_i h' e1
        split at h
        · cases h
        · rename_i l e2
          cases h
          refine ⟨.string ⟨((s.drop l).take (h' - l)).toArray⟩, rfl, fun w => ?_⟩
          have hb := (bnds_ok (P := P) hl hh e1 e2 false s.length (Nat.le_refl _) (Nat.le_refl _) w).1
          have hsz : (ByteArray.mk s.toArray).size = s.length := by simp [ByteArray.size]
          simp [Instr.sliceAt, Instr.slice, run_underlying hu, hsz, hb, extract_toArray]
    · cases h
  · simp only [conc, Option.some.injEq] at hv
    subst hv
    split at h
    · rename_i e hu
      split at h
      · cases h
      · rename_i sz hsz
        split at h
        · cases h
        · rename_i h' e1
          split at h
          · cases h
          · rename_i l e2
            cases h
            refine ⟨_, rfl, fun w => ?_⟩
            obtain ⟨hb, hl1, hl2⟩ := bnds_ok (P := P) hl hh e1 e2 true 0 (Nat.le_refl _) (Nat.le_refl _) w
            have hl0 : l = 0 := by omega
            have hh0 : h' = 0 := by omega
            subst hl0 hh0
            simp [Instr.sliceAt, Instr.slice, run_underlying hu, hb, sizeT_ok hsz]
    · cases h
  · rename_i p n c
    obtain ⟨b, hb, _, rfl⟩ := slice_conc hv
    cases hnc' : Nat.blt c n with
    | true => rw [hnc', cond_true] at h; cases h
    | false =>
    rw [hnc', cond_false] at h
    have hnc : n ≤ c := by
      rcases Nat.lt_or_ge c n with h1 | h1
      · have h2 : Nat.blt c n = true := by unfold Nat.blt; rw [Nat.ble_eq]; exact h1
        rw [h2] at hnc'; cases hnc'
      · exact h1
    split at h
    · rename_i e hu
      split at h
      · cases h
      · rename_i sz hsz
        split at h
        · cases h
        · rename_i h' e1
          split at h
          · cases h
          · rename_i l e2
            cases h
            refine ⟨.slice (some ⟨b, bif Nat.beq c l then p.2 else p.2 + l * sz, none⟩) (h' - l) (c - l), by simp [conc, hb, Cap.fits, Cap.conc], fun w => ?_⟩
            obtain ⟨hbs, hl1, hl2⟩ := bnds_ok (P := P) hl hh e1 e2 true c hnc (Nat.le_refl _) w
            simp only [Cap.conc]
            simp [Instr.sliceAt, Instr.slice, run_underlying hu, hbs, sizeT_ok hsz, Addr.add_lit]
            by_cases hcl : c = l
            · subst hcl; simp [show Nat.beq c c = true by simp]
            · have : Nat.beq c l = false := by rw [← Bool.not_eq_true, Nat.beq_eq]; exact hcl
              simp [hcl, this]
    · cases h
  · rename_i p n d
    obtain ⟨b, hb, hfit, rfl⟩ := slice_conc hv
    have hfit' : n ≤ ρ.κ p.1 - d := by simpa [Cap.fits] using hfit
    split at h
    · rename_i e hu
      split at h
      · cases h
      · rename_i sz hsz
        split at h
        · cases h
        · rename_i h' e1
          split at h
          · cases h
          · rename_i l e2
            have H := fun w => bnds_ok (P := P) hl hh e1 e2 true (ρ.κ p.1 - d) (Nat.le_refl _) hfit' w
            obtain ⟨_, hl1, hl2⟩ := H default
            by_cases hln : l = n
            · subst hln
              rw [show Nat.beq l l = true by simp, cond_true] at h
              cases h
              have hh' : h' = l := by omega
              subst hh'
              refine ⟨_, by simp only [conc, hb, Option.map_some]; rfl, fun w => ?_⟩
              simp only [Cap.conc]
              simp [Instr.sliceAt, Instr.slice, run_underlying hu, (H w).1, sizeT_ok hsz, Addr.add_lit]
              have e3 : (ρ.κ p.1 - d = h') ↔ (ρ.κ p.1 - (d + h') = 0) := by omega
              by_cases hcl : ρ.κ p.1 - d = h'
              · rw [if_pos hcl, if_pos (e3.1 hcl)]; simp; omega
              · rw [if_neg hcl, if_neg (fun e => hcl (e3.2 e))]; simp; omega
            · have : Nat.beq l n = false := by rw [← Bool.not_eq_true, Nat.beq_eq]; exact hln
              rw [this, cond_false] at h
              cases h
              refine ⟨.slice (some ⟨b, p.2 + l * sz, none⟩) (h' - l) (ρ.κ p.1 - (d + l)), ?_, fun w => ?_⟩
              · have : h' - l ≤ ρ.κ p.1 - (d + l) := by omega
                simp [conc, hb, Cap.fits, Cap.conc, this]
              · simp only [Cap.conc]
                simp [Instr.sliceAt, Instr.slice, run_underlying hu, (H w).1, sizeT_ok hsz, Addr.add_lit]
                exact ⟨fun e => absurd e (by omega), by omega⟩
    · cases h
  · rename_i p q d
    simp only [conc, Option.map_eq_some_iff] at hv
    obtain ⟨b, hb, rfl⟩ := hv
    split at h
    · rename_i e hu
      split at h
      · cases h
      · rename_i sz hsz
        split at h
        · cases h
        · rename_i h' e1
          split at h
          · cases h
          · rename_i l e2
            cases h
            refine ⟨_, by simp only [conc, hb, Option.map_some]; rfl, fun w => ?_⟩
            obtain ⟨hbs, hl1, hl2⟩ := bnds_ok (P := P) hl hh e1 e2 true (ρ.κ p.1 - d) (Nat.le_refl _) (Nat.zero_le _) w
            have hl0 : l = 0 := by omega
            have hh0 : h' = 0 := by omega
            subst hl0 hh0
            simp [Instr.sliceAt, Instr.slice, run_underlying hu, hbs, sizeT_ok hsz, Addr.add_lit]
    · cases h
  · rename_i p
    obtain ⟨b, hb, rfl⟩ := ptr_conc hv
    split at h
    · rename_i n e hu
      split at h
      · cases h
      · rename_i sz hsz
        split at h
        · cases h
        · rename_i h' e1
          split at h
          · cases h
          · rename_i l e2
            cases h
            refine ⟨.slice (some ⟨b, bif Nat.beq n l then p.2 else p.2 + l * sz, none⟩) (h' - l) (n - l), by simp [conc, hb, Cap.fits, Cap.conc], fun w => ?_⟩
            have hbs := (bnds_ok (P := P) hl hh e1 e2 false n (Nat.le_refl _) (Nat.le_refl _) w).1
            simp [Instr.sliceAt, run_underlying hu, Instr.sureAddr, hbs, sizeT_ok hsz, Addr.add_lit]
            by_cases hcl : n = l
            · subst hcl; simp [show Nat.beq n n = true by simp]
            · have : Nat.beq n l = false := by rw [← Bool.not_eq_true, Nat.beq_eq]; exact hcl
              simp [hcl, this]
    · cases h
  · cases h
end
end
end Ev
end Go.Proofs.YtddedijencleeaaGreatDoor

/- The evaluator, part 4: arithmetic, comparing, conversions, builtins; all operations that look at no memory. No condition. -/
set_option linter.all false
namespace Go.Proofs.YtddedijencleeaaGreatDoor
open Go.RowKit

namespace Ev
noncomputable section

def intA (op : BinOp) (k : IntKind) (a b : Int) : Option AV :=
  match op with
  | .add => some (.int k (k.wrap (a + b)))
  | .sub => some (.int k (k.wrap (a - b)))
  | .mul => some (.int k (k.wrap (a * b)))
  | .quo => bif decide (b = 0) then none else some (.int k (k.wrap (a.tdiv b)))
  | .rem => bif decide (b = 0) then none else some (.int k (a.tmod b))
  | .and => some (.int k (k.wrap (BitVec.ofInt k.bits a &&& BitVec.ofInt k.bits b).toNat))
  | .or => some (.int k (k.wrap (BitVec.ofInt k.bits a ||| BitVec.ofInt k.bits b).toNat))
  | .xor => some (.int k (k.wrap (BitVec.ofInt k.bits a ^^^ BitVec.ofInt k.bits b).toNat))
  | .andNot => some (.int k (k.wrap (BitVec.ofInt k.bits a &&& ~~~(BitVec.ofInt k.bits b)).toNat))
  | .eql => some (.bool (a == b))
  | .neq => some (.bool (a != b))
  | .lss => some (.bool (decide (a < b)))
  | .leq => some (.bool (decide (a ≤ b)))
  | .gtr => some (.bool (decide (a > b)))
  | .geq => some (.bool (decide (a ≥ b)))
  | _ => none
def shA (op : BinOp) (k : IntKind) (a b : Int) : Option AV :=
  bif decide (b < 0) then none else
  match op with
  | .shl => some (.int k (k.wrap (a * 2 ^ (min b.toNat k.bits))))
  | .shr => some (.int k (a.fdiv (2 ^ (min b.toNat k.bits))))
  | _ => none
def strA (op : BinOp) (a b : List UInt8) : Option AV :=
  match op with
  | .add => bif Nat.ble (a.length + b.length) 9223372036854775807 then some (.str (a ++ b)) else none
  | .eql => some (.bool (a == b))
  | .neq => some (.bool !(a == b))
  | .lss => some (.bool (Op.bytesLess a b))
  | .leq => some (.bool (Op.bytesLess a b || (a == b)))
  | .gtr => some (.bool !(Op.bytesLess a b || (a == b)))
  | .geq => some (.bool !(Op.bytesLess a b))
  | _ => none

section
variable (P : Program)
/-- Fields of two structs, one behind the other. -/
def aeqF (eq : TypeId → AV → AV → Option Bool) : List Field → List AV → List AV → Option Bool
  | [], _, _ => some true
  | f :: fs, xs, ys => if f.name = "_" then aeqF eq fs xs ys else
    match partA P f.type xs f.offset, partA P f.type ys f.offset with
    | some a, some b => (match eq f.type a b with
      | some true => aeqF eq fs xs ys
      | some false => some false
      | none => none)
    | _, _ => none
def aeq : Nat → TypeId → AV → AV → Option Bool
  | 0, _, _, _ => none
  | d + 1, t, x, y =>
    match x with
    | .bool a => (match y, P.underlying t with | .bool b, some .bool => some (a == b) | _, _ => none)
    | .int k a => (match y, P.underlying t with | .int k' b, some (.int _) => if k = k' then some (a == b) else none | _, _ => none)
    | .str a => (match y, P.underlying t with | .str b, some .string => some (a == b) | _, _ => none)
    | .ptr none => (match y, P.underlying t with | .ptr b, some (.pointer _) => some b.isNone | _, _ => none)
    | .ptr (some _) => (match y, P.underlying t with | .ptr none, some (.pointer _) => some false | _, _ => none)
    | .nilIface => (match y, P.underlying t with | .nilIface, some (.interface _) => some true | .iface _ _, some (.interface _) => some false | _, _ => none)
    | .iface t1 v => (match y, P.underlying t with
      | .nilIface, some (.interface _) => some false
      | .iface u z, some (.interface _) => if t1 = u then (match P.info? t1 with
        | some i => bif i.comparable then aeq d t1 v z else none
        | none => none) else some false
      | _, _ => none)
    | .agg xs => (match y, P.underlying t with | .agg ys, some (.struct fs) => bif P.stoodInHeld t then none else aeqF P (aeq d) fs.toList xs ys | _, _ => none)
    | .slice none _ (.known _) => (match y, P.underlying t with | .slice b _ (.known _), some (.slice _) => some b.isNone | .slice (some _) _ _, some (.slice _) => some false | .slice0 _ _ _, some (.slice _) => some false | _, _ => none)
    | .slice (some _) _ _ => (match y, P.underlying t with | .slice none _ (.known _), some (.slice _) => some false | _, _ => none)
    | .slice0 _ _ _ => (match y, P.underlying t with | .slice none _ (.known _), some (.slice _) => some false | _, _ => none)
    | .map none => (match y, P.underlying t with | .map b, some (.map _ _) => some b.isNone | _, _ => none)
    | .map (some _) => (match y, P.underlying t with | .map none, some (.map _ _) => some false | _, _ => none)
    | .nilFunc => (match y, P.underlying t with | .nilFunc, some (.func _ _ _) => some true | .func _ _ _, some (.func _ _ _) => some false | _, _ => none)
    | .func _ _ _ => (match y, P.underlying t with | .nilFunc, some (.func _ _ _) => some false | _, _ => none)
    | _ => none
/-- == on values of a type; 'c': one of the operands is a literal. -/
def eqA (t : TypeId) (c : Bool) (x y : AV) : Option Bool :=
  match x, y with
  | .nilIface, .nilIface => bif c then aeq P 10000 t x y else none
  | .agg _, .agg _ => bif P.eqGuardType P.depth t then none else aeq P 10000 t x y
  | _, _ => aeq P 10000 t x y
end
section
variable {P : Program} {ρ : Env}
theorem toList_mk (l : List UInt8) : (ByteArray.mk l.toArray).toList = l := by rw [ByteArray.toList_eq]
theorem size_mk (l : List UInt8) : (ByteArray.mk l.toArray).size = l.length := by simp [ByteArray.size]
theorem aeqF_ok {d : Nat} {eq : TypeId → AV → AV → Option Bool}
    (heq : ∀ t a b x y r, conc ρ a = some x → conc ρ b = some y → eq t a b = some r → ∀ w, (Op.equalIn d t x y).run P w = .ok r w)
    {xs ys : List AV} {vx vy : List Value} (hx : concL ρ xs = some vx) (hy : concL ρ ys = some vy) (w : World) :
    ∀ (fs : List Field) (r : Bool), aeqF P eq fs xs ys = some r →
    ((forIn fs ((none, ()) : Option Bool × Unit) fun f _ => do
        if f.name ≠ "_" then
          if !(← Op.equalIn d f.type (← part f.type vx.toArray f.offset) (← part f.type vy.toArray f.offset)) then pure (.done (some false, ())) else pure (.yield (none, ()))
        else pure (.yield (none, ())) : Sem (Option Bool × Unit)).run P w) = .ok (if r then none else some false, ()) w
  | [], r, h => by simp [aeqF] at h; subst h; rfl
  | f :: fs, r, h => by
    rw [List.forIn_cons]
    unfold aeqF at h
    by_cases hn : f.name = "_"
    · rw [if_pos hn] at h
      have ih := aeqF_ok heq hx hy w fs r h
      simp only [hn, ne_eq, not_true_eq_false, if_false, pure_bind]
      exact ih
    · rw [if_neg hn] at h
      split at h
      · rename_i a b ha hb
        obtain ⟨va, hva, ra⟩ := partA_ok hx ha
        obtain ⟨vb, hvb, rb⟩ := partA_ok hy hb
        split at h
        · rename_i he
          have ih := aeqF_ok heq hx hy w fs r h
          have := heq _ _ _ _ _ _ hva hvb he w
          simp only [hn, ne_eq, not_false_eq_true, if_true, Sem.run_bind, ra, rb, Result.andThen_ok, this, Bool.not_true, Bool.false_eq_true, if_false, Sem.run_pure]
          exact ih
        · rename_i he
          cases h
          have := heq _ _ _ _ _ _ hva hvb he w
          simp only [hn, ne_eq, not_false_eq_true, if_true, Sem.run_bind, ra, rb, Result.andThen_ok, this, Bool.not_false, Sem.run_pure, Bool.false_eq_true, if_false]
        · cases h
      · cases h
set_option maxHeartbeats 2000000 in
theorem aeq_ok : ∀ (d : Nat) (t : TypeId) (a b : AV) (x y : Value) (r : Bool), conc ρ a = some x → conc ρ b = some y → aeq P d t a b = some r → ∀ w, (Op.equalIn d t x y).run P w = .ok r w
  | 0, _, _, _, _, _, _, _, _, h, _ => by simp [aeq] at h
  | d + 1, t, a, b, x, y, r, hx, hy, h, w => by
    unfold aeq at h
    split at h
    · -- bool
      split at h
      · rename_i hu; cases h; simp only [conc, Option.some.injEq] at hx hy; subst hx hy; simp [Op.equalIn, run_underlying hu]
      · cases h
    · split at h
      · rename_i hu
        split at h
        · rename_i hk; subst hk; cases h; simp only [conc, Option.some.injEq] at hx hy; subst hx hy; simp [Op.equalIn, run_underlying hu]
        · cases h
      · cases h
    · split at h
      · rename_i s1 _ s2 hu
        cases h
        simp only [conc, Option.some.injEq] at hx hy
        subst hx hy
        simp only [Op.equalIn, Sem.run_bind, run_underlying hu, Result.andThen_ok, Sem.run_pure]
        rw [beq_toListBytes, toList_mk, toList_mk]
      · cases h
    · split at h
      · rename_i b' _ hu
        cases h; simp only [conc, Option.some.injEq] at hx; subst hx
        cases b' with
        | none => simp only [conc, Option.some.injEq] at hy; subst hy; simp [Op.equalIn, run_underlying hu]
        | some p => obtain ⟨g, hg, rfl⟩ := ptr_conc hy; simp [Op.equalIn, run_underlying hu]
      · cases h
    · split at h
      · rename_i hu
        cases h
        obtain ⟨g, hg, rfl⟩ := ptr_conc hx
        simp only [conc, Option.some.injEq] at hy; subst hy
        simp [Op.equalIn, run_underlying hu]
      · cases h
    · simp only [conc, Option.some.injEq] at hx; subst hx
      split at h
      · rename_i hu; cases h; simp only [conc, Option.some.injEq] at hy; subst hy; simp [Op.equalIn, run_underlying hu]
      · rename_i hu; cases h; simp only [conc, Option.map_eq_some_iff] at hy; obtain ⟨z, _, rfl⟩ := hy; simp [Op.equalIn, run_underlying hu]
      · cases h
    · rename_i t1 v
      simp only [conc, Option.map_eq_some_iff] at hx
      obtain ⟨xv, hxv, rfl⟩ := hx
      split at h
      · rename_i hu; cases h; simp only [conc, Option.some.injEq] at hy; subst hy; simp [Op.equalIn, run_underlying hu]
      · rename_i u z _ hu
        simp only [conc, Option.map_eq_some_iff] at hy
        obtain ⟨yv, hyv, rfl⟩ := hy
        split at h
        · rename_i htu
          subst htu
          split at h
          · rename_i i hi
            cases hc : i.comparable with
            | false => rw [hc, cond_false] at h; cases h
            | true =>
              rw [hc, cond_true] at h
              have := aeq_ok d t1 v z xv yv r hxv hyv h w
              simp [Op.equalIn, run_underlying hu, typeInfo, hi, hc, this]
          · cases h
        · rename_i htu; cases h; simp [Op.equalIn, run_underlying hu, htu]
      · cases h
    · rename_i xs
      simp only [conc, Option.map_eq_some_iff] at hx
      obtain ⟨vx, hvx, rfl⟩ := hx
      split at h
      · rename_i ys fs hu
        simp only [conc, Option.map_eq_some_iff] at hy
        obtain ⟨vy, hvy, rfl⟩ := hy
        cases hs : P.stoodInHeld t with
        | true => rw [hs, cond_true] at h; cases h
        | false =>
          rw [hs, cond_false] at h
          have := aeqF_ok (P := P) (d := d) (aeq_ok d) hvx hvy w fs.toList r h
          simp only [Op.equalIn, Sem.run_bind, run_underlying hu, Result.andThen_ok, run_program, hs, Bool.false_eq_true, if_false]
          rw [← Array.forIn_toList]
          rw [this]
          cases r <;> rfl
      · cases h
    · -- a nil slice
      simp only [conc, Option.some.injEq] at hx; subst hx
      split at h
      · rename_i b _ _ _ hu
        cases h
        cases b with
        | none => simp only [conc, Option.some.injEq] at hy; subst hy; simp [Op.equalIn, run_underlying hu]
        | some p => obtain ⟨g, _, _, rfl⟩ := slice_conc hy; simp [Op.equalIn, run_underlying hu]
      · rename_i hu; cases h; obtain ⟨g, _, _, rfl⟩ := slice_conc hy; simp [Op.equalIn, run_underlying hu]
      · rename_i hu; cases h; simp only [conc, Option.map_eq_some_iff] at hy; obtain ⟨g, _, rfl⟩ := hy; simp [Op.equalIn, run_underlying hu]
      · cases h
    · split at h
      · rename_i hu; cases h; obtain ⟨g, _, _, rfl⟩ := slice_conc hx; simp only [conc, Option.some.injEq] at hy; subst hy; simp [Op.equalIn, run_underlying hu]
      · cases h
    · split at h
      · rename_i hu; cases h; simp only [conc, Option.map_eq_some_iff] at hx; obtain ⟨g, _, rfl⟩ := hx; simp only [conc, Option.some.injEq] at hy; subst hy; simp [Op.equalIn, run_underlying hu]
      · cases h
    · simp only [conc, Option.some.injEq] at hx; subst hx
      split at h
      · rename_i b _ _ hu
        cases h
        cases b with
        | none => simp only [conc, Option.some.injEq] at hy; subst hy; simp [Op.equalIn, run_underlying hu]
        | some p =>
          simp only [conc, Option.map_eq_some_iff] at hy; obtain ⟨g, _, rfl⟩ := hy; simp [Op.equalIn, run_underlying hu]
      · cases h
    · split at h
      · rename_i hu; cases h; simp only [conc, Option.map_eq_some_iff] at hx; obtain ⟨g, _, rfl⟩ := hx; simp only [conc, Option.some.injEq] at hy; subst hy; simp [Op.equalIn, run_underlying hu]
      · cases h
    · simp only [conc, Option.some.injEq] at hx; subst hx
      split at h
      · rename_i hu; cases h; simp only [conc, Option.some.injEq] at hy; subst hy; simp [Op.equalIn, run_underlying hu]
      · rename_i hu; cases h; simp only [conc, Option.bind_eq_some_iff, Option.map_eq_some_iff] at hy; obtain ⟨_, _, _, _, rfl⟩ := hy; simp [Op.equalIn, run_underlying hu]
      · cases h
    · split at h
      · rename_i hu
        cases h
        simp only [conc, Option.some.injEq] at hy; subst hy
        simp only [conc, Option.bind_eq_some_iff, Option.map_eq_some_iff] at hx; obtain ⟨_, _, _, _, rfl⟩ := hx
        simp [Op.equalIn, run_underlying hu]
      · cases h
    · cases h
def isConstO : Operand → Bool
  | .const _ => true
  | _ => false
theorem conc_agg {a : AV} {z : Array Value} (h : conc ρ a = some (.agg z)) : ∃ l, a = .agg l := by
  cases a with
  | agg l => exact ⟨l, rfl⟩
  | ptr p => cases p <;> simp [conc] at h
  | slice p l c =>
    cases p with
    | none => cases c <;> simp [conc] at h
    | some p => obtain ⟨_, _, _, e⟩ := slice_conc h; cases e
  | func fn f c => simp only [conc, Option.bind_eq_some_iff, Option.map_eq_some_iff] at h; obtain ⟨_, _, _, _, e⟩ := h; cases e
  | map p => cases p <;> simp [conc] at h
  | sym k i l r =>
    simp only [conc] at h
    rcases symV_kind h with ⟨n, e⟩ | ⟨b, e⟩ <;> cases e
  | _ => simp [conc] at h
theorem conc_nilIface {a : AV} (h : conc ρ a = some .nilIface) : a = .nilIface := by
  cases a with
  | nilIface => rfl
  | ptr p => cases p <;> simp [conc] at h
  | slice p l c =>
    cases p with
    | none => cases c <;> simp [conc] at h
    | some p => obtain ⟨_, _, _, e⟩ := slice_conc h; cases e
  | func fn f c => simp only [conc, Option.bind_eq_some_iff, Option.map_eq_some_iff] at h; obtain ⟨_, _, _, _, e⟩ := h; cases e
  | map p => cases p <;> simp [conc] at h
  | sym k i l r =>
    simp only [conc] at h
    rcases symV_kind h with ⟨n, e⟩ | ⟨b, e⟩ <;> cases e
  | _ => simp [conc] at h
theorem eqA_ok {t : TypeId} {a b : AV} {x y : Value} {r : Bool} {op : BinOp} {ox oy : Operand} (hop : op = .eql ∨ op = .neq) (hx : conc ρ a = some x) (hy : conc ρ b = some y)
    (h : eqA P t (isConstO ox || isConstO oy) a b = some r) (w : World) : (eqGuard op t ox oy x y).run P w = .ok () w ∧ (Op.equal t x y).run P w = .ok r w := by
  unfold eqA at h
  split at h
  · cases hc : (isConstO ox || isConstO oy) with
    | false => rw [hc, cond_false] at h; cases h
    | true =>
      rw [hc, cond_true] at h
      refine ⟨?_, aeq_ok 10000 t _ _ x y r hx hy h w⟩
      simp only [conc, Option.some.injEq] at hx hy
      subst hx hy
      rcases hop with rfl | rfl <;> cases ox <;> cases oy <;> simp [isConstO] at hc <;> simp [eqGuard]
  · cases hg : P.eqGuardType P.depth t with
    | true => rw [hg, cond_true] at h; cases h
    | false =>
      rw [hg, cond_false] at h
      refine ⟨?_, aeq_ok 10000 t _ _ x y r hx hy h w⟩
      simp only [conc, Option.map_eq_some_iff] at hx hy
      obtain ⟨vx, _, rfl⟩ := hx
      obtain ⟨vy, _, rfl⟩ := hy
      rcases hop with rfl | rfl <;> simp [eqGuard, hg]
  · rename_i h1 h2
    refine ⟨?_, aeq_ok 10000 t _ _ x y r hx hy h w⟩
    have e : (match x, y with | .nilIface, .nilIface => false | .agg _, .agg _ => false | _, _ => true) = true := by
      split
      · rename_i k1 k2; exact (h1 (conc_nilIface k1) (conc_nilIface k2)).elim
      · rename_i k1 k2; obtain ⟨l, e1⟩ := conc_agg k1; obtain ⟨l', e2⟩ := conc_agg k2; exact (h2 _ _ e1 e2).elim
      · rfl
    rcases hop with rfl | rfl
    · unfold eqGuard
      simp only [Bool.not_true, Bool.false_eq_true, if_false]
      split
      · simp at e
      · simp at e
      · rfl
    · unfold eqGuard
      simp only [Bool.not_true, Bool.false_eq_true, if_false]
      split
      · simp at e
      · simp at e
      · rfl
end
end
end Ev
end Go.Proofs.YtddedijencleeaaGreatDoor

/- The evaluator, part 5: all operations that look at no memory, in one word. No condition. -/
set_option linter.all false
namespace Go.Proofs.YtddedijencleeaaGreatDoor
open Go.RowKit

namespace Ev
noncomputable section

/-- What is left to do with a number that is not told. -/
def symR (k : IntKind) (i : Nat) (l : List (BinOp × Int)) (res : Int) : Option AV := match l with | [] => some (.int k res) | q :: l' => (match q with | (.lss, _) => none | _ => some (.sym k (Nat.succ i) (q :: l') res))
/-- A step with a number that is not told. -/
def symA (op : BinOp) (k : IntKind) (i : Nat) (todo : List (BinOp × Int)) (res : Int) (k' : IntKind) (b : Int) : Option AV :=
  match todo with
  | [] => none
  | (o, c) :: l => if k = k' ∧ b = c then (match op, o with
    | .add, .add => symR k i l res
    | .rem, .rem => symR k i l res
    | _, _ => none) else none
/-- Is a number greater that is not told? -/
def lssA (op : BinOp) (k : IntKind) (a : Int) (k' : IntKind) (i : Nat) (l : List (BinOp × Int)) (res : Int) : Option AV :=
  match op, l with
  | .lss, (.and, _) :: _ => if k = k' then (if a < 0 then some (.bool true) else if res ≤ a then some (.bool false) else some (.sym k i [(.lss, a)] 0)) else none
  | _, _ => none
section
variable (P : Program)
def binA (op : BinOp) (t : TypeId) (c : Bool) (x y : AV) : Option AV :=
  match op with
  | .shl => (match x, y with | .int k a, .int _ b => shA .shl k a b | _, _ => none)
  | .shr => (match x, y with | .int k a, .int _ b => shA .shr k a b | _, _ => none)
  | op => (match x with
    | .int k a => (match y with | .int k' b => if k = k' then intA op k a b else none | .sym k' i l r => lssA op k a k' i l r | _ => none)
    | .str a => (match y with | .str b => strA op a b | _ => none)
    | .sym k i l r => (match y with | .int k' b => symA op k i l r k' b | _ => none)
    | x => (match op with
      | .eql => (match eqA P t c x y with | some b => some (.bool b) | none => none)
      | .neq => (match eqA P t c x y with | some b => some (.bool !b) | none => none)
      | _ => none))
def unA (op : UnOp) (x : AV) : Option AV :=
  match op, x with
  | .neg, .int k n => some (.int k (k.wrap (0 - n)))
  | .xor, .int k n => intA .xor k (if k.signed then -1 else k.max) n
  | .not, .bool b => some (.bool !b)
  | _, _ => none
def convA (src dst : TypeId) (x : AV) : Option AV :=
  match x with
  | .int _ n => (match P.underlying src, P.underlying dst with
    | some _, some (.int k) => some (.int k (k.wrap n))
    | _, _ => none)
  | .str s => (match P.underlying src, P.underlying dst with
    | some _, some .string => some (.str s)
    | _, _ => none)
  | .sym _ i l r => (match l, P.underlying src, P.underlying dst with
    | (.and, c) :: _, some _, some (.int .i64) => if r < 128 then some (.sym .i64 i [(.and, c)] r) else none
    | _, _, _ => none)
  | _ => none
def ifaceA (t : TypeId) (x : AV) : Option AV :=
  match P.underlying t with
  | some (.interface _) => none
  | some _ => some (.iface t x)
  | none => none
def lenA (t : TypeId) (x : AV) : Option AV :=
  match P.underlying t with
  | some .string => (match x with | .str s => some (.int .i64 s.length) | _ => none)
  | some (.array n _) => some (.int .i64 n)
  | some (.pointer e) => (match P.underlying e with | some (.array n _) => some (.int .i64 n) | _ => none)
  | some (.slice _) => (match x with | .slice _ n _ => some (.int .i64 n) | .slice0 _ _ _ => some (.int .i64 0) | _ => none)
  | some (.map _ _) => (match x with | .map none => some (.int .i64 0) | _ => none)
  | _ => none
def capA (t : TypeId) (x : AV) : Option AV :=
  match P.underlying t with
  | some (.slice _) => (match x with | .slice _ _ (.known n) => some (.int .i64 n) | _ => none)
  | _ => none
def biA (b : Builtin) (ts : List TypeId) (args : List AV) : Option AV :=
  match b with
  | .len => (match ts, args with | t :: _, [x] => lenA P t x | _, _ => none)
  | .cap => (match ts, args with | t :: _, [x] => capA P t x | _, _ => none)
  | .min => (match args with | [.int k x, .int _ y] => some (.int k (if y < x then y else x)) | _ => none)
  | .max => (match args with | [.int k x, .int _ y] => some (.int k (if y > x then y else x)) | _ => none)
  | _ => none
def optO (f : Operand → Option AV) : Option Operand → Option (Option AV)
  | none => some none
  | some y => match f y with
    | none => none
    | some v => some (some v)
/-- AN OPERATION THAT LOOKS AT NO MEMORY. -/
def pop (op : Op) (f : Operand → Option AV) : Option AV :=
  match op with
  | .move x => f x
  | .assign x => f x
  | .pick c a b => (match f c with | some (.bool t) => bif t then f a else f b | _ => none)
  | .build t ps => (match partsO f ps.toList with | none => none | some r => buildA P t r)
  | .field t x i => (match f x with | none => none | some v => fieldA P t v i)
  | .fieldAddr t x i => (match f x with | none => none | some v => fieldAddrA P t v i)
  | .indexAddr t x i => (match f x, f i with | some v, some j => indexAddrA P t v j | _, _ => none)
  | .index t x i => (match f x, f i with | some v, some j => indexA P t v j | _, _ => none)
  | .slice t x lo hi none => (match f x, optO f lo, optO f hi with | some v, some l, some h => sliceA P t v l h | _, _, _ => none)
  | .binOp op t x y _ => (match f x, f y with | some a, some b => binA P op t (isConstO x || isConstO y) a b | _, _ => none)
  | .unOp op _ x => (match f x with | some a => unA op a | none => none)
  | .convert s d x => (match f x with | some a => convA P s d a | none => none)
  | .makeInterface t x => (match f x with | some a => ifaceA P t a | none => none)
  | .makeFunc fn a b => (match listO f a.toList, listO f b.toList with | some l, some r => some (.func fn l r) | _, _ => none)
  | .extract x i => (match f x with | some (.tuple l) => l[i]? | _ => none)
  | .nilCheck x => (match f x with | some (.ptr (some p)) => some (.ptr (some p)) | some (.func (.func g) a b) => some (.func (.func g) a b) | _ => none)
  | .call c => (match c.callee with
    | .builtin b => (match listO f c.args.toList with | some l => biA P b c.argTypes.toList l | none => none)
    | _ => none)
  | _ => none
end

section
variable {P : Program} {ρ : Env}
theorem intA_ok {op : BinOp} {k : IntKind} {a b : Int} {r : AV} (h : intA op k a b = some r) (hs : op ≠ .shl ∧ op ≠ .shr) (t : TypeId) :
    ∃ x, conc ρ r = some x ∧ ∀ w, (binOp op t (.int k a) (.int k b)).run P w = .ok x w := by
  unfold intA at h
  cases op <;> simp at h
  case quo =>
    by_cases hb : b = 0
    · simp [hb] at h
    · simp [hb] at h; subst h; exact ⟨_, rfl, fun w => by simp [binOp, Op.intDiv, hb]⟩
  case rem =>
    by_cases hb : b = 0
    · simp [hb] at h
    · simp [hb] at h; subst h; exact ⟨_, rfl, fun w => by simp [binOp, Op.intDiv, hb]⟩
  all_goals (subst h; exact ⟨_, rfl, fun w => by simp [binOp, Op.intArith, Op.intBits, Op.intCmp]⟩)
theorem wrap_64 {n : Int} (h0 : 0 ≤ n) (h : n < 9223372036854775808) : IntKind.wrap .i64 n = n := by
  unfold IntKind.wrap
  have e1 : (2 ^ IntKind.i64.bits : Int) = 18446744073709551616 := by decide
  have e2 : (2 ^ (IntKind.i64.bits - 1) : Int) = 9223372036854775808 := by decide
  rw [e1, e2]
  have e3 : n % 18446744073709551616 = n := Int.emod_eq_of_lt (by omega) (by omega)
  simp only [e3]
  rw [if_neg]
  simp only [Bool.and_eq_true, decide_eq_true_eq, not_and]
  intro _
  omega
theorem symA_ok {op : BinOp} {k k' : IntKind} {i : Nat} {l : List (BinOp × Int)} {res b : Int} {x : Value} {r : AV} (hx : conc ρ (.sym k i l res) = some x) (h : symA op k i l res k' b = some r) (t : TypeId) :
    ∃ n, x = .int k n ∧ ∃ z, conc ρ r = some z ∧ ∀ w, (binOp op t x (.int k' b)).run P w = .ok z w := by
  simp only [conc] at hx
  cases l with
  | nil => cases h
  | cons q l =>
    obtain ⟨o, c⟩ := q
    unfold symA at h
    simp only at h
    split at h
    case isFalse => cases h
    rename_i hkb
    obtain ⟨rfl, rfl⟩ := hkb
    have fin : (op ≠ .shl ∧ op ≠ .shr) → intA op k (ρ.y i) b = some (.int k (ρ.y (Nat.succ i))) → symOK k ρ.y (Nat.succ i) l res = true → x = .int k (ρ.y i) → symR k i l res = some r →
        ∃ n, x = .int k n ∧ ∃ z, conc ρ r = some z ∧ ∀ w, (binOp op t x (.int k b)).run P w = .ok z w := by
      intro hs hi h2 hxe hr
      subst hxe
      refine ⟨_, rfl, ?_⟩
      obtain ⟨z, hz, hrun⟩ := intA_ok (P := P) (ρ := ρ) hi hs t
      simp only [conc, Option.some.injEq] at hz
      subst hz
      unfold symR at hr
      split at hr
      · simp only [symOK, decide_eq_true_eq] at h2
        cases hr
        exact ⟨_, by rw [← h2]; rfl, hrun⟩
      · rename_i q l'
        split at hr
        · cases hr
        · rename_i hne
          cases hr
          refine ⟨_, ?_, hrun⟩
          simp only [conc]
          unfold symV
          split
          · rename_i a l'' e; cases e; exact absurd rfl (hne a)
          · rw [if_pos h2]
    split at h
    · simp only [symV] at hx
      split at hx
      case isFalse => cases hx
      rename_i hok
      cases hx
      simp only [symOK, Bool.and_eq_true, decide_eq_true_eq, symStep, Option.some.injEq] at hok
      exact fin ⟨by decide, by decide⟩ (by simp [intA, hok.1]) hok.2 rfl h
    · simp only [symV] at hx
      split at hx
      case isFalse => cases hx
      rename_i hok
      cases hx
      simp only [symOK, Bool.and_eq_true, decide_eq_true_eq, symStep] at hok
      obtain ⟨h1, h2⟩ := hok
      split at h1
      · cases h1
      · rename_i hb
        simp only [Option.some.injEq, decide_eq_true_eq] at h1
        exact fin ⟨by decide, by decide⟩ (by rw [← h1]; simp [intA, hb]) h2 rfl h
    · cases h
theorem lssA_ok {op : BinOp} {k k' : IntKind} {a : Int} {i : Nat} {l : List (BinOp × Int)} {res : Int} {y : Value} {r : AV} (hy : conc ρ (.sym k' i l res) = some y) (h : lssA op k a k' i l res = some r) (t : TypeId) :
    ∃ n, y = .int k' n ∧ ∃ z, conc ρ r = some z ∧ ∀ w, (binOp op t (.int k a) y).run P w = .ok z w := by
  unfold lssA at h
  split at h
  case h_2 => cases h
  simp only [conc, symV] at hy
  split at hy
  case isFalse => cases hy
  rename_i hok
  cases hy
  simp only [symOK, Bool.and_eq_true, decide_eq_true_eq] at hok
  refine ⟨_, rfl, ?_⟩
  split at h
  case isFalse => cases h
  rename_i hk
  subst hk
  have run : ∀ w, (binOp .lss t (.int k a) (.int k (ρ.y i))).run P w = .ok (.bool (decide (a < ρ.y i))) w := fun w => by simp [binOp, Op.intCmp]
  split at h
  · cases h; rename_i h0; exact ⟨_, rfl, fun w => by rw [run, decide_eq_true (by omega)]⟩
  · split at h
    · cases h; rename_i h0; exact ⟨_, rfl, fun w => by rw [run, decide_eq_false (by omega)]⟩
    · cases h; exact ⟨_, rfl, run⟩
theorem shA_ok {op : BinOp} {k : IntKind} {a b : Int} {r : AV} (hs : op = .shl ∨ op = .shr) (h : shA op k a b = some r) (t : TypeId) (k' : IntKind) :
    ∃ x, conc ρ r = some x ∧ ∀ w, (binOp op t (.int k a) (.int k' b)).run P w = .ok x w := by
  unfold shA at h
  by_cases hb : b < 0
  · simp [hb] at h
  · rw [decide_eq_false hb, cond_false] at h
    rcases hs with rfl | rfl
    · simp only [Option.some.injEq] at h; subst h; exact ⟨_, rfl, fun w => by simp [binOp, Op.shift, hb]⟩
    · simp only [Option.some.injEq] at h; subst h; exact ⟨_, rfl, fun w => by simp [binOp, Op.shift, hb]⟩
theorem strA_ok {op : BinOp} {a b : List UInt8} {r : AV} (h : strA op a b = some r) (t : TypeId) :
    ∃ x, conc ρ r = some x ∧ ∀ w, (binOp op t (.string ⟨a.toArray⟩) (.string ⟨b.toArray⟩)).run P w = .ok x w := by
  unfold strA at h
  cases op <;> simp at h
  case add =>
    by_cases hl : a.length + b.length ≤ 9223372036854775807
    · have : Nat.ble (a.length + b.length) 9223372036854775807 = true := by rw [Nat.ble_eq]; exact hl
      rw [this, cond_true] at h
      cases h
      refine ⟨.string ⟨(a ++ b).toArray⟩, rfl, fun w => ?_⟩
      have hm : ¬ (((a.length + b.length : Nat) : Int) > IntKind.i64.max) := by simp [IntKind.max, IntKind.signed, IntKind.bits]; omega
      have he : (ByteArray.mk a.toArray) ++ (ByteArray.mk b.toArray) = ⟨(a ++ b).toArray⟩ := by
        apply ByteArray.ext; simp [ByteArray.data_append]
      simp only [binOp, Op.stringOp, size_mk, hm, if_false, he]
      rfl
    · have : Nat.ble (a.length + b.length) 9223372036854775807 = false := by rw [← Bool.not_eq_true, Nat.ble_eq]; exact hl
      rw [this, cond_false] at h; cases h
  all_goals (subst h; exact ⟨_, rfl, fun w => by simp [binOp, Op.stringOp, toList_mk]⟩)
def nonnum : Value → Bool
  | .int _ _ => false
  | .float _ _ => false
  | .complex _ _ _ => false
  | .string _ => false
  | _ => true
theorem conc_nonnum {a : AV} {x : Value} (h1 : ∀ k n, a ≠ .int k n) (h2 : ∀ s, a ≠ .str s) (h3 : ∀ k i l r, a ≠ .sym k i l r) (h : conc ρ a = some x) : nonnum x = true := by
  cases a with
  | sym k i l r => exact absurd rfl (h3 k i l r)
  | int k n => exact absurd rfl (h1 k n)
  | str s => exact absurd rfl (h2 s)
  | bool b => simp only [conc, Option.some.injEq] at h; subst h; rfl
  | nilFunc => simp only [conc, Option.some.injEq] at h; subst h; rfl
  | nilIface => simp only [conc, Option.some.injEq] at h; subst h; rfl
  | ptr p =>
    cases p with
    | none => simp only [conc, Option.some.injEq] at h; subst h; rfl
    | some p => obtain ⟨_, _, rfl⟩ := ptr_conc h; rfl
  | slice p l c =>
    cases p with
    | none => cases c <;> simp [conc] at h; subst h; rfl
    | some p => obtain ⟨_, _, _, rfl⟩ := slice_conc h; rfl
  | slice0 p q d => simp only [conc, Option.map_eq_some_iff] at h; obtain ⟨_, _, rfl⟩ := h; rfl
  | map p =>
    cases p with
    | none => simp only [conc, Option.some.injEq] at h; subst h; rfl
    | some p => simp only [conc, Option.map_eq_some_iff] at h; obtain ⟨_, _, rfl⟩ := h; rfl
  | func fn f c => simp only [conc, Option.bind_eq_some_iff, Option.map_eq_some_iff] at h; obtain ⟨_, _, _, _, rfl⟩ := h; rfl
  | iface t v => simp only [conc, Option.map_eq_some_iff] at h; obtain ⟨_, _, rfl⟩ := h; rfl
  | agg l => simp only [conc, Option.map_eq_some_iff] at h; obtain ⟨_, _, rfl⟩ := h; rfl
  | tuple l => simp only [conc, Option.map_eq_some_iff] at h; obtain ⟨_, _, rfl⟩ := h; rfl
theorem binOp_eql {x : Value} (h : nonnum x = true) (t : TypeId) (y : Value) : binOp .eql t x y = (do pure (.bool (← Op.equal t x y))) := by
  cases x <;> simp [nonnum] at h <;> cases y <;> rfl
theorem binOp_neq {x : Value} (h : nonnum x = true) (t : TypeId) (y : Value) : binOp .neq t x y = (do pure (.bool (!(← Op.equal t x y)))) := by
  cases x <;> simp [nonnum] at h <;> cases y <;> rfl
theorem binA_ok {op : BinOp} {t : TypeId} {a b : AV} {x y : Value} {r : AV} {ox oy : Operand} (hx : conc ρ a = some x) (hy : conc ρ b = some y) (h : binA P op t (isConstO ox || isConstO oy) a b = some r) :
    ∃ z, conc ρ r = some z ∧ ∀ w, (do eqGuard op t ox oy x y; binOp op t x y : Sem Value).run P w = .ok z w := by
  have guardFree : ∀ {op : BinOp} {x y : Value}, (op ≠ .eql ∧ op ≠ .neq) → ∀ w, (eqGuard op t ox oy x y).run P w = .ok () w := by
    intro op x y hn w
    cases op <;> first | exact absurd rfl hn.1 | exact absurd rfl hn.2 | simp [eqGuard]
  have guardInt : ∀ {op : BinOp} {k k' : IntKind} {m n : Int} w, (eqGuard op t ox oy (.int k m) (.int k' n)).run P w = .ok () w := by
    intro op k k' m n w
    cases op <;> simp [eqGuard]
  have guardStr : ∀ {op : BinOp} {m n : ByteArray} w, (eqGuard op t ox oy (.string m) (.string n)).run P w = .ok () w := by
    intro op m n w
    cases op <;> simp [eqGuard]
  unfold binA at h
  split at h
  · split at h
    · rename_i k1 _ k2 _
      simp only [conc, Option.some.injEq] at hx hy; subst hx hy
      obtain ⟨z, hz, hr⟩ := shA_ok (P := P) (ρ := ρ) (.inl rfl) h t k2
      exact ⟨z, hz, fun w => by simp only [Sem.run_bind, guardInt, Result.andThen_ok, hr]⟩
    · cases h
  · split at h
    · rename_i k1 _ k2 _
      simp only [conc, Option.some.injEq] at hx hy; subst hx hy
      obtain ⟨z, hz, hr⟩ := shA_ok (P := P) (ρ := ρ) (.inr rfl) h t k2
      exact ⟨z, hz, fun w => by simp only [Sem.run_bind, guardInt, Result.andThen_ok, hr]⟩
    · cases h
  · rename_i op' h1 h2
    split at h
    · split at h
      case h_3 => cases h
      case h_2 =>
        simp only [conc, Option.some.injEq] at hx; subst hx
        obtain ⟨n, rfl, z, hz, hr⟩ := lssA_ok (P := P) hy h t
        exact ⟨z, hz, fun w => by simp only [Sem.run_bind, guardInt, Result.andThen_ok, hr]⟩
      simp only [conc, Option.some.injEq] at hx hy; subst hx hy
      split at h
      · rename_i hk
        subst hk
        obtain ⟨z, hz, hr⟩ := intA_ok (P := P) (ρ := ρ) h ⟨fun e => h1 e, fun e => h2 e⟩ t
        exact ⟨z, hz, fun w => by simp only [Sem.run_bind, guardInt, Result.andThen_ok, hr]⟩
      · cases h
    · split at h
      case h_2 => cases h
      simp only [conc, Option.some.injEq] at hx hy; subst hx hy
      obtain ⟨z, hz, hr⟩ := strA_ok (P := P) (ρ := ρ) h t
      exact ⟨z, hz, fun w => by simp only [Sem.run_bind, guardStr, Result.andThen_ok, hr]⟩
    · split at h
      case h_2 => cases h
      simp only [conc, Option.some.injEq] at hy; subst hy
      obtain ⟨n, rfl, z, hz, hr⟩ := symA_ok (P := P) hx h t
      exact ⟨z, hz, fun w => by simp only [Sem.run_bind, guardInt, Result.andThen_ok, hr]⟩
    · rename_i n1 n2 n3
      have hnn := conc_nonnum (fun k n e => n1 k n e) (fun s e => n2 s e) (fun k i l r e => n3 k i l r e) hx
      split at h
      · split at h
        · rename_i b hb
          cases h
          have := fun w => eqA_ok (op := .eql) (ox := ox) (oy := oy) (.inl rfl) hx hy hb w
          exact ⟨.bool b, rfl, fun w => by simp only [Sem.run_bind, (this w).1, Result.andThen_ok, binOp_eql hnn, (this w).2]; rfl⟩
        · cases h
      · split at h
        · rename_i b hb
          cases h
          have := fun w => eqA_ok (op := .neq) (ox := ox) (oy := oy) (.inr rfl) hx hy hb w
          exact ⟨.bool !b, rfl, fun w => by simp only [Sem.run_bind, (this w).1, Result.andThen_ok, binOp_neq hnn, (this w).2]; rfl⟩
        · cases h
      · cases h
theorem unA_ok {op : UnOp} {a r : AV} {x : Value} (hx : conc ρ a = some x) (h : unA op a = some r) : ∃ z, conc ρ r = some z ∧ ∀ w, (Op.unary op x).run P w = .ok z w := by
  unfold unA at h
  split at h
  · simp only [conc, Option.some.injEq] at hx; subst hx
    cases h
    exact ⟨_, rfl, fun w => rfl⟩
  · simp only [conc, Option.some.injEq] at hx; subst hx
    simp only [intA, Option.some.injEq] at h
    subst h
    exact ⟨_, rfl, fun w => rfl⟩
  · simp only [conc, Option.some.injEq] at hx; subst hx
    cases h
    exact ⟨_, rfl, fun w => rfl⟩
  · cases h
theorem convA_ok {s d : TypeId} {a r : AV} {x : Value} (hx : conc ρ a = some x) (h : convA P s d a = some r) : ∃ z, conc ρ r = some z ∧ ∀ w, (convert s d x).run P w = .ok z w := by
  unfold convA at h
  split at h
  · simp only [conc, Option.some.injEq] at hx; subst hx
    split at h
    · rename_i h1 h2
      cases h
      exact ⟨_, rfl, fun w => by simp [convert, run_underlying h1, run_underlying h2, Conv.intToInt]⟩
    · cases h
  · simp only [conc, Option.some.injEq] at hx; subst hx
    split at h
    · rename_i h1 h2
      cases h
      exact ⟨_, rfl, fun w => by simp [convert, run_underlying h1, run_underlying h2]⟩
    · cases h
  · split at h
    case h_2 => cases h
    rename_i h1 h2
    split at h
    case isFalse => cases h
    rename_i hr
    cases h
    simp only [conc, symV] at hx
    split at hx
    case isFalse => cases hx
    rename_i hok
    cases hx
    have hok' := hok
    simp only [symOK, Bool.and_eq_true, decide_eq_true_eq] at hok
    have hw := wrap_64 hok.1 (Int.lt_of_le_of_lt hok.2 (show _ < (9223372036854775808 : Int) by omega))
    refine ⟨.int .i64 _, ?_, fun w => by simp only [convert, run_underlying h1, run_underlying h2, Sem.run_bind, Result.andThen_ok, Conv.intToInt, hw]; rfl⟩
    simp only [conc, symV]
    rw [if_pos (by simp only [symOK, Bool.and_eq_true, decide_eq_true_eq]; exact hok)]
  · cases h
theorem ifaceA_ok {t : TypeId} {a r : AV} {x : Value} (hx : conc ρ a = some x) (h : ifaceA P t a = some r) : ∃ z, conc ρ r = some z ∧ ∀ w, (Instr.makeInterface t x).run P w = .ok z w := by
  unfold ifaceA at h
  split at h
  · cases h
  · rename_i d hn hu
    cases h
    refine ⟨.iface t x, by simp [conc, hx], fun w => ?_⟩
    simp only [Instr.makeInterface, Sem.run_bind, run_underlying hu, Result.andThen_ok]
    cases d <;> first | rfl | exact (hn _ rfl).elim
  · cases h
theorem lenA_ok {t ty : TypeId} {ts : List TypeId} {a r : AV} {x : Value} (hx : conc ρ a = some x) (h : lenA P t a = some r) : ∃ z, conc ρ r = some z ∧ ∀ w, (Builtin.len_ (t :: ts).toArray ty #[x]).run P w = .ok z w := by
  unfold lenA at h
  split at h
  · rename_i hu
    split at h
    · simp only [conc, Option.some.injEq] at hx; subst hx
      cases h
      exact ⟨_, rfl, fun w => by simp [Builtin.len_, run_underlying hu, goInt, size_mk]⟩
    · cases h
  · rename_i hu; cases h; exact ⟨_, rfl, fun w => by simp [Builtin.len_, run_underlying hu, goInt]⟩
  · rename_i e hu
    split at h
    · rename_i n _ hu2
      cases h; exact ⟨_, rfl, fun w => by simp [Builtin.len_, run_underlying hu, run_underlying hu2, goInt]⟩
    · cases h
  · rename_i e hu
    split at h
    · rename_i p n c
      cases h
      cases p with
      | none => cases c <;> simp [conc] at hx; subst hx; exact ⟨_, rfl, fun w => by simp [Builtin.len_, run_underlying hu, goInt]⟩
      | some p => obtain ⟨_, _, _, rfl⟩ := slice_conc hx; exact ⟨_, rfl, fun w => by simp [Builtin.len_, run_underlying hu, goInt]⟩
    · cases h; simp only [conc, Option.map_eq_some_iff] at hx; obtain ⟨_, _, rfl⟩ := hx; exact ⟨_, rfl, fun w => by simp [Builtin.len_, run_underlying hu, goInt]⟩
    · cases h
  · rename_i hu
    split at h
    · simp only [conc, Option.some.injEq] at hx; subst hx
      cases h
      exact ⟨_, rfl, fun w => by simp [Builtin.len_, run_underlying hu, goInt]⟩
    · cases h
  · cases h
theorem capA_ok {t ty : TypeId} {ts : List TypeId} {a r : AV} {x : Value} (hx : conc ρ a = some x) (h : capA P t a = some r) : ∃ z, conc ρ r = some z ∧ ∀ w, (Builtin.cap_ (t :: ts).toArray ty #[x]).run P w = .ok z w := by
  unfold capA at h
  split at h
  · rename_i e hu
    split at h
    · rename_i p _ n
      cases h
      cases p with
      | none => simp only [conc, Option.some.injEq] at hx; subst hx; exact ⟨_, rfl, fun w => by simp [Builtin.cap_, run_underlying hu, goInt]⟩
      | some p => obtain ⟨_, _, _, rfl⟩ := slice_conc hx; exact ⟨_, rfl, fun w => by simp [Builtin.cap_, run_underlying hu, goInt, Cap.conc]⟩
    · cases h
  · cases h
theorem biA_ok {b : Builtin} {ts : Array TypeId} {ty : TypeId} {args : List AV} {r : AV} {xs : List Value} (hx : concL ρ args = some xs) (h : biA P b ts.toList args = some r) :
    ∃ z, conc ρ r = some z ∧ ∀ cs w, (builtin b ts ty cs xs.toArray).run P w = .ok (.value z) w := by
  obtain ⟨ts⟩ := ts
  simp only at h
  unfold biA at h
  split at h
  · split at h
    · rename_i tail _
      obtain ⟨x, y, h1, h2, rfl⟩ := concL_cons hx
      simp only [concL, Option.some.injEq] at h2; subst h2
      obtain ⟨z, hz, hr⟩ := lenA_ok (ty := ty) (ts := tail) h1 h
      exact ⟨z, hz, fun cs w => by simp [builtin, hr w]⟩
    · cases h
  · split at h
    · rename_i tail _
      obtain ⟨x, y, h1, h2, rfl⟩ := concL_cons hx
      simp only [concL, Option.some.injEq] at h2; subst h2
      obtain ⟨z, hz, hr⟩ := capA_ok (ty := ty) (ts := tail) h1 h
      exact ⟨z, hz, fun cs w => by simp [builtin, hr w]⟩
    · cases h
  · split at h
    · obtain ⟨x, y, h1, h2, rfl⟩ := concL_cons hx
      obtain ⟨x', y', h1', h2', rfl⟩ := concL_cons h2
      simp only [concL, Option.some.injEq] at h2'; subst h2'
      simp only [conc, Option.some.injEq] at h1 h1'; subst h1 h1'
      cases h
      exact ⟨_, rfl, fun cs w => by simp [builtin, Builtin.min_, Builtin.min2]⟩
    · cases h
  · split at h
    · obtain ⟨x, y, h1, h2, rfl⟩ := concL_cons hx
      obtain ⟨x', y', h1', h2', rfl⟩ := concL_cons h2
      simp only [concL, Option.some.injEq] at h2'; subst h2'
      simp only [conc, Option.some.injEq] at h1 h1'; subst h1 h1'
      cases h
      exact ⟨_, rfl, fun cs w => by simp [builtin, Builtin.max_, Builtin.max2]⟩
    · cases h
  · cases h
theorem map_toList {α β : Type} (g : α → β) (a : Array α) : a.map g = (a.toList.map g).toArray := by
  apply Array.ext'
  simp
theorem optO_ok' {f : Operand → Option AV} {ev : Operand → Value} {x : Option Operand} {u : Option AV} (hx : ∀ y, x = some y → ∀ u, f y = some u → conc ρ u = some (ev y)) (h : optO f x = some u) : OptC ρ u (x.map ev) := by
  cases x with
  | none => simp [optO] at h; subst h; trivial
  | some y =>
    simp only [optO] at h
    split at h
    · cases h
    · rename_i v hv
      cases h
      exact hx y rfl v hv

/-- WHAT 'pop' TELLS THE MODEL DOES. -/
theorem pop_ok {f : Operand → Option AV} {ev : Operand → Value} {o : Oper} {r : AV} (hf : ∀ x ∈ o.op.operands, ∀ u, f x = some u → conc ρ u = some (ev x)) (h : pop P o.op f = some r) :
    ∃ z, conc ρ r = some z ∧ ∀ w, (execOp ev o).run P w = .ok (.value z) w := by
  obtain ⟨dst, op, ty, pos, aft, gd⟩ := o
  simp only at hf h
  unfold pop at h
  split at h
  · rename_i x; exact ⟨_, hf x (by simp [Op.operands]) _ h, fun w => by simp [execOp]⟩
  · rename_i x; exact ⟨_, hf x (by simp [Op.operands]) _ h, fun w => by simp [execOp]⟩
  · rename_i c a b
    split at h
    · rename_i t hc
      have hcc := hf c (by simp [Op.operands]) _ hc
      simp only [conc, Option.some.injEq] at hcc
      cases t with
      | true => rw [cond_true] at h; exact ⟨_, hf a (by simp [Op.operands]) _ h, fun w => by simp [execOp, ← hcc, asBool]⟩
      | false => rw [cond_false] at h; exact ⟨_, hf b (by simp [Op.operands]) _ h, fun w => by simp [execOp, ← hcc, asBool]⟩
    · cases h
  · rename_i t ps
    split at h
    · cases h
    · rename_i q hq
      obtain ⟨h1, h2⟩ := partsO_ok (ρ := ρ) (ev := ev) (fun x hx => hf x (by simpa [Op.operands] using hx)) hq
      obtain ⟨z, hz, hr⟩ := buildA_ok (P := P) h1 h2 h
      refine ⟨z, hz, fun w => ?_⟩
      have : (ps.map fun (i, x) => (i, ev x)) = (ps.toList.map fun p => (p.1, ev p.2)).toArray := map_toList _ _
      simp only [execOp, this, Sem.run_bind, hr, Result.andThen_ok, Sem.run_pure]
  · rename_i t x i
    split at h
    · cases h
    · rename_i v hv
      obtain ⟨z, hz, hr⟩ := fieldA_ok (hf x (by simp [Op.operands]) _ hv) h
      exact ⟨z, hz, fun w => by simp [execOp, hr]⟩
  · rename_i t x i
    split at h
    · cases h
    · rename_i v hv
      obtain ⟨z, hz, hr⟩ := fieldAddrA_ok (hf x (by simp [Op.operands]) _ hv) h
      exact ⟨z, hz, fun w => by simp [execOp, hr]⟩
  · rename_i t x i
    split at h
    · rename_i v j hv hj
      obtain ⟨z, hz, hr⟩ := indexAddrA_ok (hf x (by simp [Op.operands]) _ hv) (hf i (by simp [Op.operands]) _ hj) h
      exact ⟨z, hz, fun w => by simp [execOp, hr]⟩
    · cases h
  · rename_i t x i
    split at h
    · rename_i v j hv hj
      obtain ⟨z, hz, hr⟩ := indexA_ok (hf x (by simp [Op.operands]) _ hv) (hf i (by simp [Op.operands]) _ hj) h
      exact ⟨z, hz, fun w => by simp [execOp, hr]⟩
    · cases h
  · rename_i t x lo hi
    split at h
    · rename_i v l h' hv hl hh
      obtain ⟨z, hz, hr⟩ := sliceA_ok (hf x (by simp [Op.operands]) _ hv) (optO_ok' (ev := ev) (fun y hy => hf y (by simp [Op.operands, hy])) hl) (optO_ok' (ev := ev) (fun y hy => hf y (by simp [Op.operands, hy])) hh) h
      exact ⟨z, hz, fun w => by simp [execOp, hr]⟩
    · cases h
  · rename_i op t x y _
    split at h
    · rename_i a b ha hb
      obtain ⟨z, hz, hr⟩ := binA_ok (hf x (by simp [Op.operands]) _ ha) (hf y (by simp [Op.operands]) _ hb) h
      refine ⟨z, hz, fun w => ?_⟩
      have := hr w
      simp only [execOp, Sem.run_bind] at this ⊢
      rw [this]
      rfl
    · cases h
  · rename_i op _ x
    split at h
    · rename_i a ha
      obtain ⟨z, hz, hr⟩ := unA_ok (P := P) (hf x (by simp [Op.operands]) _ ha) h
      exact ⟨z, hz, fun w => by simp [execOp, hr]⟩
    · cases h
  · rename_i s d x
    split at h
    · rename_i a ha
      obtain ⟨z, hz, hr⟩ := convA_ok (P := P) (hf x (by simp [Op.operands]) _ ha) h
      exact ⟨z, hz, fun w => by simp [execOp, hr]⟩
    · cases h
  · rename_i t x
    split at h
    · rename_i a ha
      obtain ⟨z, hz, hr⟩ := ifaceA_ok (P := P) (hf x (by simp [Op.operands]) _ ha) h
      exact ⟨z, hz, fun w => by simp [execOp, hr]⟩
    · cases h
  · rename_i fn a b
    split at h
    · rename_i l q hl hq
      cases h
      have h1 := listO_ok (ρ := ρ) (ev := ev) (fun x hx => hf x (Array.mem_append.2 (.inl (Array.mem_toList_iff.1 hx)))) hl
      have h2 := listO_ok (ρ := ρ) (ev := ev) (fun x hx => hf x (Array.mem_append.2 (.inr (Array.mem_toList_iff.1 hx)))) hq
      refine ⟨.func fn (a.toList.map ev).toArray (b.toList.map ev).toArray, by simp [conc, h1, h2], fun w => by simp only [execOp, Instr.makeFunc, map_toList]; rfl⟩
    · cases h
  · rename_i x i
    split at h
    · rename_i l hl
      have := hf x (by simp [Op.operands]) _ hl
      simp only [conc, Option.map_eq_some_iff] at this
      obtain ⟨vs, hvs, he⟩ := this
      obtain ⟨v, hv, hc⟩ := concL_get hvs h
      exact ⟨v, hc, fun w => by simp [execOp, ← he, Instr.extract, hv]⟩
    · cases h
  · rename_i x
    split at h
    · rename_i p hp
      cases h
      have := hf x (by simp [Op.operands]) _ hp
      obtain ⟨g, hg, he⟩ := ptr_conc this
      exact ⟨_, this, fun w => by simp [execOp, he]⟩
    · rename_i g a b hp
      cases h
      have := hf x (by simp [Op.operands]) _ hp
      have he := this
      simp only [conc, Option.bind_eq_some_iff, Option.map_eq_some_iff] at he
      obtain ⟨_, _, _, _, he⟩ := he
      exact ⟨_, this, fun w => by simp [execOp, ← he]⟩
    · cases h
  · rename_i c
    split at h
    · rename_i b hb
      split at h
      · rename_i l hl
        have h1 := listO_ok (ρ := ρ) (ev := ev) (fun x hx => hf x (Array.mem_append.2 (.inr (Array.mem_toList_iff.1 hx)))) hl
        obtain ⟨z, hz, hr⟩ := biA_ok (P := P) (ty := ty) h1 h
        refine ⟨z, hz, fun w => ?_⟩
        have e : c.args.map ev = (c.args.toList.map ev).toArray := map_toList _ _
        simp only [execOp, resolve, hb, Sem.run_bind, Sem.run_pure, Result.andThen_ok, invoke, e, hr]
      · cases h
    · cases h
  · cases h
end
end
end Ev
end Go.Proofs.YtddedijencleeaaGreatDoor

/- The evaluator, part 6: loads, stores, new blocks. No condition. -/
set_option linter.all false
namespace Go.Proofs.YtddedijencleeaaGreatDoor
open Go.RowKit

namespace Ev
noncomputable section

section
variable (P : Program)
def cellsAt (m : Mem) (p : Nat × Nat) (n : Nat) : Option (List AV) :=
  match m.get p.1 with
  | some (.cells c _ _) => bif Nat.ble (p.2 + n) c.length then some ((c.drop p.2).take n) else none
  | _ => none
def loadA (m : Mem) (t : TypeId) (v : AV) : Option (AV × Nat) :=
  match v with
  | .ptr (some p) => (match aggT P t with
    | some true => (match sizeT P t with
      | none => none
      | some n => match cellsAt m p n with
        | none => none
        | some l => some (.agg l, p.1))
    | some false => (match m.get p.1 with
      | some (.cells c _ _) => (match c[p.2]? with
        | none => none
        | some a => some (a, p.1))
      | _ => none)
    | none => none)
  | _ => none
def numsOf : List AV → Option (List Int)
  | [] => some []
  | .int .u8 n :: l => (match numsOf l with | none => none | some r => some (n :: r))
  | _ :: _ => none
/-- The bytes of a slice as a text; the block that it looked at. -/
def bytesStrA (m : Mem) (s d : TypeId) (v : AV) : Option (AV × Nat) :=
  match P.underlying s, P.underlying d with
  | some (.slice e), some .string => (match P.underlying e with
    | some (.int .u8) => (match v with
      | .slice none 0 (.known 0) => some (.str [], 0)
      | .slice0 p _ _ => (match m.get p.1 with
        | some (.cells _ _ _) => some (.str [], p.1)
        | _ => none)
      | .slice (some p) n _ => (match cellsAt m p n with
        | none => none
        | some l => match numsOf l with
          | none => none
          | some xs => some (.str (xs.map fun n => UInt8.ofNat n.toNat), p.1))
      | _ => none)
    | _ => none)
  | _, _ => none
/-- Keys that are plain. -/
def keyT (t : TypeId) : Bool := match P.underlying t with | some (.int _) => true | some .string => true | _ => false
def findA (k : AV) : List (AV × AV × Nat) → Nat → Option (Option (Nat × AV))
  | [], _ => some none
  | (k', v, _) :: l, i => match k, k' with
    | .int x a, .int y b => if x = y then (bif decide (a = b) then some (some (i, v)) else findA k l (Nat.succ i)) else none
    | .str a, .str b => bif a == b then some (some (i, v)) else findA k l (Nat.succ i)
    | _, _ => none
def plainKey (t : TypeId) (k : AV) : Bool := match P.underlying t, k with | some (.int _), .int _ _ => true | some .string, .str _ => true | _, _ => false
def lookupA (m : Mem) (t : TypeId) (x k : AV) (ok : Bool) : Option (AV × Nat) :=
  match P.underlying t with
  | some (.map kt et) => bif plainKey P kt k then (match zeroT P et with
    | none => none
    | some z => (match x with
      | .map none => some (bif ok then .tuple [z, .bool false] else z, 0)
      | .map (some i) => (match m.get i with
        | some (.mp es _) => (match findA k es 0 with
          | none => none
          | some none => some (bif ok then .tuple [z, .bool false] else z, i)
          | some (some r) => some (bif ok then .tuple [r.2, .bool true] else r.2, i))
        | _ => none)
      | _ => none)) else none
  | _ => none
def lenMapA (m : Mem) (t : TypeId) (x : AV) : Option (AV × Nat) :=
  match P.underlying t, x with
  | some (.map _ _), .map (some i) => (match m.get i with
    | some (.mp es _) => some (.int .i64 es.length, i)
    | _ => none)
  | _, _ => none
/-- AN OPERATION THAT LOOKS AT ONE BLOCK: what it yields, the block. -/
def lop (m : Mem) (op : Op) (f : Operand → Option AV) : Option (AV × Nat) :=
  match op with
  | .load t x => (match f x with | none => none | some v => loadA P m t v)
  | .convert s d x => (match f x with | none => none | some v => bytesStrA P m s d v)
  | .lookup t x k ok => (match f x, f k with | some x, some k => lookupA P m t x k ok | _, _ => none)
  | .call c => (match c.callee with
    | .builtin .len => (match c.argTypes.toList, listO f c.args.toList with | t :: _, some [x] => lenMapA P m t x | _, _ => none)
    | _ => none)
  | _ => none
end
section
variable {P : Program} {ρ : Env} {m : Mem} {w : World}
theorem Rep.cells (h : Rep ρ m w) {i : Nat} {c : List AV} {e : TypeId} {op : Option Nat} (hi : m.get i = some (.cells c e op)) :
    ∃ g vs extra fr, ρ.σ i = some g ∧ concL ρ c = some vs ∧ w.heap[g]? = some (.cells (vs ++ extra).toArray e fr) ∧ (∀ o, o < (vs ++ extra).length → ¬ (fr.1 ≤ o ∧ o < fr.2)) ∧ Room ρ i op extra (vs ++ extra).length := by
  obtain ⟨g, hg, vs, ex, fr, h1, h2, h3, h4⟩ := h.blk i _ hi
  exact ⟨g, vs, ex, fr, hg, h1, h2, h3, h4⟩
theorem Rep.cell (h : Rep ρ m w) {p : Nat × Nat} {c : List AV} {e : TypeId} {op : Option Nat} {g : Nat} (hi : m.get p.1 = some (.cells c e op)) (hg : ρ.σ p.1 = some g) {a : AV} (ha : c[p.2]? = some a) :
    ∃ v, conc ρ a = some v ∧ w.cell? ⟨g, p.2, none⟩ = some v := by
  obtain ⟨g', vs, ex, fr, h0, h1, h2, _, _⟩ := h.cells hi
  rw [hg] at h0
  cases h0
  obtain ⟨v, hv, hc⟩ := concL_get h1 ha
  refine ⟨v, hc, ?_⟩
  rw [cell_of_row w g p.2 _ e fr h2]
  have hl := (List.getElem?_eq_some_iff.1 hv).1
  simp only [List.getElem?_toArray]
  rw [List.getElem?_append_left hl]
  exact hv
theorem cellsAt_ok (h : Rep ρ m w) {p : Nat × Nat} {n : Nat} {l : List AV} {g : Nat} (hg : ρ.σ p.1 = some g) (hl : cellsAt m p n = some l) :
    ∃ vs, concL ρ l = some vs ∧ vs.length = n ∧ ∀ w' : World, w'.heap = w.heap → ∀ j v, vs[j]? = some v → w'.cell? ((⟨g, p.2, none⟩ : Addr).add j) = some v := by
  unfold cellsAt at hl
  split at hl
  · rename_i c e op hi
    cases hb : Nat.ble (p.2 + n) c.length with
    | false => rw [hb, cond_false] at hl; cases hl
    | true =>
      rw [hb, cond_true] at hl
      cases hl
      rw [Nat.ble_eq] at hb
      obtain ⟨g', vs, ex, fr, h0, h1, h2, _, _⟩ := h.cells hi
      rw [hg] at h0
      cases h0
      have hlen := concL_length h1
      refine ⟨(vs.drop p.2).take n, concL_take _ (concL_drop _ h1), by simp; omega, fun w' hw j v hj => ?_⟩
      rw [Addr.add_lit, cell_of_row w' g (p.2 + j) _ e fr (by rw [hw]; exact h2)]
      rw [List.getElem?_take] at hj
      split at hj
      · rw [List.getElem?_drop] at hj
        have hl := (List.getElem?_eq_some_iff.1 hj).1
        simp only [List.getElem?_toArray]
        rw [List.getElem?_append_left hl]
        exact hj
      · cases hj
  · cases hl
theorem loadA_ok (h : Rep ρ m w) {t : TypeId} {v a : AV} {x : Value} {i : Nat} (hv : conc ρ v = some x) (hl : loadA P m t v = some (a, i)) :
    ∃ z, conc ρ a = some z ∧ (Instr.loadAt t x).run P w = .ok z w := by
  unfold loadA at hl
  split at hl
  · rename_i p
    obtain ⟨g, hg, rfl⟩ := ptr_conc hv
    split at hl
    · rename_i hag
      split at hl
      · cases hl
      · rename_i n hn
        split at hl
        · cases hl
        · rename_i l hcl
          cases hl
          obtain ⟨vs, h1, h2, h3⟩ := cellsAt_ok h hg hcl
          refine ⟨.agg vs.toArray, by simp [conc, h1], ?_⟩
          have := run_loadCells_list (P := P) w ⟨g, p.2, none⟩ vs (h3 w rfl)
          rw [h2] at this
          simp [Instr.loadAt, Instr.sureAddr, loadVar, aggT_ok hag, sizeT_ok hn, this]
    · rename_i hag
      split at hl
      · rename_i c e op hi
        split at hl
        · cases hl
        · rename_i b hb
          cases hl
          obtain ⟨z, hz, hc⟩ := h.cell hi hg hb
          refine ⟨z, hz, ?_⟩
          simp [Instr.loadAt, Instr.sureAddr, loadVar, aggT_ok hag, hc]
      · cases hl
    · cases hl
  · cases hl
theorem numsOf_ok : ∀ {l : List AV} {xs : List Int}, numsOf l = some xs → l = xs.map (AV.int .u8)
  | [], xs, h => by simp [numsOf] at h; subst h; rfl
  | a :: l, xs, h => by
    unfold numsOf at h
    split at h
    · cases ‹_ :: _ = []›
    · rename_i n l' e
      cases e
      split at h
      · cases h
      · rename_i r hr
        cases h
        simp [numsOf_ok hr]
    · cases h
theorem concL_nums : ∀ (xs : List Int), concL ρ (xs.map (AV.int .u8)) = some (xs.map (Value.int .u8))
  | [] => rfl
  | x :: xs => concL_cons_mk rfl (concL_nums xs)
theorem bytesStrA_ok (h : Rep ρ m w) {s d : TypeId} {v a : AV} {x : Value} {i : Nat} (hv : conc ρ v = some x) (hl : bytesStrA P m s d v = some (a, i)) :
    ∃ z, conc ρ a = some z ∧ (convert s d x).run P w = .ok z w := by
  unfold bytesStrA at hl
  split at hl
  · rename_i e hs hd
    split at hl
    · rename_i he
      split at hl
      · cases hl
        simp only [conc, Option.some.injEq] at hv; subst hv
        refine ⟨_, rfl, ?_⟩
        rw [run_convert_bytes_string w s d e _ 0 0 hs he hd]
        rfl
      · rename_i p q dd
        split at hl
        · rename_i hi
          cases hl
          simp only [conc, Option.map_eq_some_iff] at hv
          obtain ⟨g, hg, rfl⟩ := hv
          refine ⟨_, rfl, ?_⟩
          have := run_convert_bytes_arg (P := P) w s e hs he g (if ρ.κ p.1 - dd = 0 then p.2 else q) 0 (ρ.κ p.1 - dd) [] rfl (fun i hi => absurd hi (by omega)) d hd
          exact this
        · cases hl
      · rename_i p n c
        obtain ⟨g, hg, _, rfl⟩ := slice_conc hv
        split at hl
        · cases hl
        · rename_i l hcl
          split at hl
          · cases hl
          · rename_i xs hxs
            cases hl
            obtain ⟨vs, h1, h2, h3⟩ := cellsAt_ok h hg hcl
            rw [numsOf_ok hxs, concL_nums] at h1
            cases h1
            refine ⟨.string (strOfNums xs), rfl, ?_⟩
            refine run_convert_bytes_arg (P := P) w s e hs he g p.2 n _ xs (by simpa using h2) (fun i hi => ?_) d hd
            have := h3 w rfl i (.int .u8 (xs.getD i 0)) (by
              have : i < xs.length := by simp at h2; omega
              simp [List.getD, this])
            rwa [Addr.add_lit] at this
      · cases hl
    · cases hl
  · cases hl
theorem Rep.mp (h : Rep ρ m w) {i : Nat} {es : List (AV × AV × Nat)} {cl : Nat} (hi : m.get i = some (.mp es cl)) : ∃ g ves, ρ.σ i = some g ∧ concE ρ es = some ves ∧ w.heap[g]? = some (.map ves.toArray cl) := by
  obtain ⟨g, hg, ves, h1, h2⟩ := h.blk i _ hi
  exact ⟨g, ves, hg, h1, h2⟩
theorem concE_length : ∀ {l : List (AV × AV × Nat)} {vs : List MapEntry}, concE ρ l = some vs → vs.length = l.length
  | [], vs, h => by simp [concE] at h; subst h; rfl
  | (k, v, n) :: l, vs, h => by
    simp only [concE, Option.bind_eq_some_iff, Option.map_eq_some_iff] at h
    obtain ⟨_, _, _, _, z, hz, rfl⟩ := h
    simp [concE_length hz]
/-- What a search among a map's entries comes to. -/
def Found (ρ : Env) (d : TypeDesc) (K : Value) (l : List (AV × AV × Nat)) (vs : List MapEntry) (i : Nat) : Option (Nat × AV) → Prop
  | none => Instr.findNow d K vs i = some none
  | some (j, v) => ∃ V, conc ρ v = some V ∧ Instr.findNow d K vs i = some (some (j, V)) ∧ i ≤ j ∧ ∃ e, vs[j - i]? = some e ∧ e.key = K ∧ ∃ k' n', l[j - i]? = some (k', v, n')
theorem findA_ok {kt : TypeId} {d : TypeDesc} {k : AV} {K : Value} (hd : P.underlying kt = some d) (hp : plainKey P kt k = true) (hk : conc ρ k = some K) : ∀ {l : List (AV × AV × Nat)} {vs : List MapEntry} {i : Nat} {r : Option (Nat × AV)}, concE ρ l = some vs → findA k l i = some r →
    Found ρ d K l vs i r
  | [], vs, i, r, hv, h => by
    simp only [findA, Option.some.injEq] at h
    subst h
    simp only [concE, Option.some.injEq] at hv
    subst hv
    rfl
  | (k', v, n) :: l, vs, i, r, hv, h => by
    simp only [concE, Option.bind_eq_some_iff, Option.map_eq_some_iff] at hv
    obtain ⟨K', hK', V, hV, z, hz, rfl⟩ := hv
    unfold findA at h
    have next : findA k l (Nat.succ i) = some r → Instr.sameNow d K K' = some false → Found ρ d K ((k', v, n) :: l) (⟨K', V, n⟩ :: z) i r := by
      intro h1 h2
      have ih := findA_ok hd hp hk (i := Nat.succ i) hz h1
      cases r with
      | none => show Instr.findNow d K _ i = _; simp only [Instr.findNow, h2]; exact ih
      | some q =>
        obtain ⟨j, u⟩ := q
        obtain ⟨U, u1, u2, u3, e, u4, u5, k1, n1, u6⟩ := ih
        have u3' : i + 1 ≤ j := u3
        refine ⟨U, u1, ?_, by omega, e, ?_, u5, k1, n1, ?_⟩
        · simp only [Instr.findNow, h2]; exact u2
        · rw [show j - i = (j - Nat.succ i) + 1 by have : Nat.succ i = i + 1 := rfl; omega, List.getElem?_cons_succ]; exact u4
        · rw [show j - i = (j - Nat.succ i) + 1 by have : Nat.succ i = i + 1 := rfl; omega, List.getElem?_cons_succ]; exact u6
    have here : r = some (i, v) → K' = K → Instr.sameNow d K K' = some true → Found ρ d K ((k', v, n) :: l) (⟨K', V, n⟩ :: z) i r := by
      rintro rfl e1 h2
      refine ⟨V, hV, by simp only [Instr.findNow, h2], Nat.le_refl _, ⟨K', V, n⟩, by simp, e1, k', n, by simp⟩
    cases k with
    | int x a =>
      cases k' with
      | int y b =>
        simp only [conc, Option.some.injEq] at hk hK'
        subst hk hK'
        simp only at h
        by_cases hxy : x = y
        · subst hxy
          rw [if_pos rfl] at h
          have hdi : ∃ q, d = .int q := by
            unfold plainKey at hp
            rw [hd] at hp
            cases d <;> simp at hp
            exact ⟨_, rfl⟩
          obtain ⟨q, rfl⟩ := hdi
          by_cases hab : a = b
          · rw [decide_eq_true hab, cond_true] at h
            exact here (by cases h; rfl) (by rw [hab]) (by simp [Instr.sameNow, hab])
          · rw [decide_eq_false hab, cond_false] at h
            exact next h (by simp [Instr.sameNow, hab])
        · rw [if_neg hxy] at h; cases h
      | _ => simp at h
    | str a =>
      cases k' with
      | str b =>
        simp only [conc, Option.some.injEq] at hk hK'
        subst hk hK'
        simp only at h
        have hds : d = .string := by
          unfold plainKey at hp
          rw [hd] at hp
          cases d <;> simp at hp
          rfl
        subst hds
        have hbeq : ((ByteArray.mk a.toArray) == (ByteArray.mk b.toArray)) = (a == b) := by rw [beq_toListBytes, toList_mk, toList_mk]
        cases hab : (a == b) with
        | true =>
          rw [hab, cond_true] at h
          exact here (by cases h; rfl) (by rw [eq_of_beq hab]) (by simp [Instr.sameNow, hbeq, hab])
        | false =>
          rw [hab, cond_false] at h
          exact next h (by simp [Instr.sameNow, hbeq, hab])
      | _ => simp at h
    | _ => simp at h
theorem run_getObj_of {g : Nat} {es : Array MapEntry} {cl : Nat} (h : w.heap[g]? = some (.map es cl)) : (getObj g).run P w = .ok (.map es cl) w := by
  simp [getObj, Sem.run, h]
theorem checkKey_succ {kt : TypeId} {k : AV} {K : Value} (hp : plainKey P kt k = true) (hk : conc ρ k = some K) (b : Bool) (n : Nat) : (Instr.checkKey b (n + 1) kt K).run P w = .ok () w := by
  unfold plainKey at hp
  split at hp
  · rename_i hu; simp only [conc, Option.some.injEq] at hk; subst hk; simp only [Instr.checkKey, Sem.run_bind, run_underlying hu, Result.andThen_ok]; rfl
  · rename_i hu; simp only [conc, Option.some.injEq] at hk; subst hk; simp only [Instr.checkKey, Sem.run_bind, run_underlying hu, Result.andThen_ok]; rfl
  · cases hp
theorem checkKey_ok {kt : TypeId} {k : AV} {K : Value} (hp : plainKey P kt k = true) (hk : conc ρ k = some K) (b : Bool) : (Instr.checkKey b 10000 kt K).run P w = .ok () w := checkKey_succ hp hk b 9999
theorem plainKey_desc {kt : TypeId} {k : AV} (hp : plainKey P kt k = true) : ∃ d, P.underlying kt = some d := by
  unfold plainKey at hp
  cases hu : P.underlying kt with
  | none => rw [hu] at hp; cases hp
  | some d => exact ⟨d, rfl⟩
theorem okB_ok {z : AV} {Z : Value} (hz : conc ρ z = some Z) (ok b : Bool) : conc ρ (bif ok then .tuple [z, .bool b] else z) = some (if ok then .tuple #[Z, .bool b] else Z) := by
  cases ok with
  | true => simp [conc, concL, hz]
  | false => simpa using hz
theorem lookupA_ok (h : Rep ρ m w) {t : TypeId} {x k a : AV} {X K : Value} {ok : Bool} {i : Nat} (hx : conc ρ x = some X) (hk : conc ρ k = some K) (hl : lookupA P m t x k ok = some (a, i)) :
    ∃ z, conc ρ a = some z ∧ (Instr.lookup t X K ok).run P w = .ok z w := by
  unfold lookupA at hl
  split at hl
  · rename_i kt et hu
    cases hp : plainKey P kt k with
    | false => rw [hp, cond_false] at hl; cases hl
    | true =>
      rw [hp, cond_true] at hl
      obtain ⟨d, hd⟩ := plainKey_desc hp
      split at hl
      · cases hl
      · rename_i z hz
        obtain ⟨Z, hZ, hzr⟩ := zeroT_ok (ρ := ρ) hz
        split at hl
        · cases hl
          simp only [conc, Option.some.injEq] at hx; subst hx
          refine ⟨_, okB_ok hZ ok false, ?_⟩
          have hck := checkKey_ok (P := P) (w := w) hp hk true
          simp only [Instr.lookup, Sem.run_bind, run_underlying hu, Result.andThen_ok, Sem.run_pure]
          simp only [show (#[] : Array MapEntry).isEmpty = true from rfl, hck, Result.andThen_ok, Instr.findKey, Sem.run_bind, run_underlying hd, show (#[] : Array MapEntry).toList = [] from rfl, Instr.findNow, Sem.run_pure, hzr]
        · rename_i j
          simp only [conc, Option.map_eq_some_iff] at hx
          obtain ⟨g, hg, rfl⟩ := hx
          split at hl
          · rename_i es cl hes
            obtain ⟨g', ves, h1, h2, h3⟩ := h.mp hes
            rw [hg] at h1; cases h1
            have hgo : (getObj g).run P w = .ok (.map ves.toArray cl) w := run_getObj_of h3
            have hck := checkKey_ok (P := P) (w := w) hp hk ves.toArray.isEmpty
            split at hl
            · cases hl
            · rename_i hf
              cases hl
              have hfn : Instr.findNow d K ves 0 = some none := findA_ok hd hp hk h2 hf
              refine ⟨_, okB_ok hZ ok false, ?_⟩
              simp only [Instr.lookup, Sem.run_bind, run_underlying hu, Result.andThen_ok, hgo, Sem.run_pure, hck, Instr.findKey, run_underlying hd, hfn, hzr]
            · rename_i r hf
              cases hl
              obtain ⟨V, v1, v2, _⟩ := findA_ok hd hp hk h2 hf
              refine ⟨_, okB_ok v1 ok true, ?_⟩
              simp only [Instr.lookup, Sem.run_bind, run_underlying hu, Result.andThen_ok, hgo, Sem.run_pure, hck, Instr.findKey, run_underlying hd, v2]
          · cases hl
        · cases hl
  · cases hl
theorem lenMapA_ok (h : Rep ρ m w) {t ty : TypeId} {ts : List TypeId} {x a : AV} {X : Value} {i : Nat} (hx : conc ρ x = some X) (hl : lenMapA P m t x = some (a, i)) :
    ∃ z, conc ρ a = some z ∧ (Builtin.len_ (t :: ts).toArray ty #[X]).run P w = .ok z w := by
  unfold lenMapA at hl
  split at hl
  · rename_i j _ _ hu
    simp only [conc, Option.map_eq_some_iff] at hx
    obtain ⟨g, hg, rfl⟩ := hx
    split at hl
    · rename_i es cl hes
      cases hl
      obtain ⟨g', ves, h1, h2, h3⟩ := h.mp hes
      rw [hg] at h1; cases h1
      have hgo : (getObj g).run P w = .ok (.map ves.toArray cl) w := run_getObj_of h3
      refine ⟨_, rfl, ?_⟩
      simp [Builtin.len_, run_underlying hu, hgo, goInt, concE_length h2]
    · cases hl
  · cases hl
theorem lop_ok (h : Rep ρ m w) {f : Operand → Option AV} {ev : Operand → Value} {o : Oper} {r : AV} {i : Nat} (hf : ∀ x ∈ o.op.operands, ∀ u, f x = some u → conc ρ u = some (ev x)) (hl : lop P m o.op f = some (r, i)) :
    ∃ z, conc ρ r = some z ∧ (execOp ev o).run P w = .ok (.value z) w := by
  obtain ⟨dst, op, ty, pos, aft, gd⟩ := o
  simp only at hf hl
  unfold lop at hl
  split at hl
  · rename_i t x
    split at hl
    · cases hl
    · rename_i v hv
      obtain ⟨z, hz, hr⟩ := loadA_ok h (hf x (by simp [Op.operands]) _ hv) hl
      exact ⟨z, hz, by simp [execOp, hr]⟩
  · rename_i s d x
    split at hl
    · cases hl
    · rename_i v hv
      obtain ⟨z, hz, hr⟩ := bytesStrA_ok h (hf x (by simp [Op.operands]) _ hv) hl
      exact ⟨z, hz, by simp [execOp, hr]⟩
  · rename_i t x k ok
    split at hl
    · rename_i x' k' hx hk
      obtain ⟨z, hz, hr⟩ := lookupA_ok h (hf x (by simp [Op.operands]) _ hx) (hf k (by simp [Op.operands]) _ hk) hl
      exact ⟨z, hz, by simp [execOp, hr]⟩
    · cases hl
  · rename_i c
    split at hl
    · rename_i hcb
      split at hl
      · rename_i t ts x hts hxs
        have h1 := listO_ok (ρ := ρ) (ev := ev) (fun x hx => hf x (Array.mem_append.2 (.inr (Array.mem_toList_iff.1 hx)))) hxs
        obtain ⟨X, y, k1, k2, e1⟩ := concL_cons h1
        simp only [concL, Option.some.injEq] at k2
        subst k2
        obtain ⟨z, hz, hr⟩ := lenMapA_ok (P := P) (ty := ty) (ts := ts) h k1 hl
        have ea : c.args.map ev = #[X] := Array.ext' (by simpa using e1)
        have et : c.argTypes = (t :: ts).toArray := Array.ext' (by simpa using hts)
        exact ⟨z, hz, by simp only [execOp, resolve, hcb, ea, et, pure_bind, invoke, builtin, Sem.run_bind, hr, Result.andThen_ok, Sem.run_pure]⟩
      · cases hl
    · cases hl
  · cases hl
/-- What it yields hangs on that block alone. -/
theorem lop_congr {m' : Mem} {op : Op} {f : Operand → Option AV} {r : AV} {i : Nat} (hl : lop P m op f = some (r, i)) (he : m'.get i = m.get i) : lop P m' op f = some (r, i) := by
  have hca : ∀ p n l, cellsAt m p n = some l → p.1 = i → cellsAt m' p n = some l := fun p n l h e => by
    unfold cellsAt at h ⊢
    rw [e, he, ← e]
    exact h
  unfold lop at hl ⊢
  split at hl
  · split at hl
    · cases hl
    · rename_i v hv
      unfold loadA at hl ⊢
      split at hl
      · rename_i p
        split at hl
        · split at hl
          · cases hl
          · split at hl
            · cases hl
            · rename_i l hcl; cases hl; simp only [*, hca _ _ _ hcl rfl]
        · split at hl
          · rename_i hi
            split at hl
            · cases hl
            · cases hl; simp only [*]
          · cases hl
        · cases hl
      · cases hl
  · split at hl
    · cases hl
    · rename_i v hv
      unfold bytesStrA at hl ⊢
      split at hl
      · split at hl
        · split at hl
          · exact hl
          · split at hl
            · rename_i hi
              cases hl
              simp only [*]
            · cases hl
          · split at hl
            · cases hl
            · rename_i l hcl
              split at hl
              · cases hl
              · cases hl; simp only [*, hca _ _ _ hcl rfl]
          · cases hl
        · cases hl
      · cases hl
  · split at hl
    · rename_i x k hx hk
      unfold lookupA at hl ⊢
      split at hl
      · cases hp : plainKey P _ k with
        | false => rw [hp, cond_false] at hl; cases hl
        | true =>
          rw [hp, cond_true] at hl
          simp only [hp, cond_true]
          split at hl
          · cases hl
          · rename_i z hz
            split at hl
            · exact hl
            · rename_i j
              split at hl
              · rename_i es cl hes
                have hji : j = i := by
                  split at hl
                  · cases hl
                  · cases hl; rfl
                  · cases hl; rfl
                subst hji
                rw [he, hes]
                exact hl
              · cases hl
            · cases hl
      · cases hl
    · cases hl
  · split at hl
    · split at hl
      · unfold lenMapA at hl ⊢
        split at hl
        · split at hl
          · rename_i es cl hes
            cases hl
            simp only [*]
          · cases hl
        · cases hl
      · cases hl
    · cases hl
  · cases hl
end
end
end Ev
end Go.Proofs.YtddedijencleeaaGreatDoor

/- The evaluator, part 7: stores and new blocks. No condition. -/
set_option linter.all false
namespace Go.Proofs.YtddedijencleeaaGreatDoor
open Go.RowKit

namespace Ev
noncomputable section

def upd (w : World) (g : Nat) (o : Obj) : World := { w with heap := w.heap.setIfInBounds g o }
theorem upd_size (w : World) (g : Nat) (o : Obj) : (upd w g o).heap.size = w.heap.size := by simp [upd]
theorem upd_same {w : World} {g : Nat} {o' : Obj} (h : w.heap[g]? = some o') (o : Obj) : (upd w g o).heap[g]? = some o := by
  have := (Array.getElem?_eq_some_iff.1 h).1
  simp [upd, this]
theorem upd_other (w : World) {g k : Nat} (o : Obj) (h : k ≠ g) : (upd w g o).heap[k]? = w.heap[k]? := by
  simp [upd, Array.getElem?_setIfInBounds_ne (Ne.symm h)]
theorem upd_upd (w : World) (g : Nat) (o o' : Obj) : upd (upd w g o) g o' = upd w g o' := by
  simp [upd, Array.setIfInBounds_setIfInBounds]
theorem upd_self {w : World} {g : Nat} {o : Obj} (h : w.heap[g]? = some o) : upd w g o = w := by
  obtain ⟨hl, he⟩ := Array.getElem?_eq_some_iff.1 h
  have : w.heap.setIfInBounds g o = w.heap := by
    apply Array.ext (by simp)
    intro i h1 h2
    by_cases e : g = i
    · subst e; simp [← he]
    · rw [Array.getElem_setIfInBounds (by simpa using h2)]; simp [e]
  unfold upd
  rw [this]

section
variable {ρ : Env} {m : Mem} {w : World}
/-- A block is written over. -/
theorem Stp.write (h : Rep ρ m w) {i g : Nat} {b b' : Blk} {o : Obj} (hi : m.get i = some b) (hσ : ρ.σ i = some g) (hb : BlkOK ρ i b' (upd w g o) g) : Stp ρ m w ρ (m.write i (some b')) (upd w g o) [i] where
  le := Env.le.refl ρ
  rep := by
    refine ⟨fun j bj hj => ?_, fun j k bj bk x hj hk ej ek => ?_, h.dom, fun j x hj => (by rw [upd_size]; exact h.low j x hj), fun j bj x hj ej => ?_, base.stays w _ h.ok fun k hk => upd_other w o (by rintro rfl; exact h.sep i b _ hi hσ hk)⟩
    · rw [Mem.get_write] at hj
      by_cases e : j = i
      · rw [if_pos e] at hj; cases hj; subst e; exact ⟨g, hσ, hb⟩
      · rw [if_neg e] at hj
        obtain ⟨x, hx, hok⟩ := h.blk j bj hj
        have hne : x ≠ g := by rintro rfl; exact e (h.inj j i bj b _ hj hi hx hσ)
        exact ⟨x, hx, hok.mono (Env.le.refl ρ) hx (upd_other w o hne)⟩
    · rw [Mem.get_write] at hj hk
      have lift : ∀ l bl, (if l = i then some b' else m.get l) = some bl → ∃ bl', m.get l = some bl' := fun l bl hl => by
        by_cases e : l = i
        · subst e; exact ⟨b, hi⟩
        · rw [if_neg e] at hl; exact ⟨bl, hl⟩
      obtain ⟨bj', hj'⟩ := lift j bj hj
      obtain ⟨bk', hk'⟩ := lift k bk hk
      exact h.inj j k bj' bk' x hj' hk' ej ek
    · rw [Mem.get_write] at hj
      by_cases e : j = i
      · subst e; exact h.sep _ b x hi ej
      · rw [if_neg e] at hj; exact h.sep j bj x hj ej
  os := rfl
  tape := rfl
  output := rfl
  size := by rw [upd_size]; exact Nat.le_refl _
  frame := fun x _ hn => upd_other w o (by rintro rfl; exact hn i (List.mem_singleton.2 rfl) hσ)
  fresh := fun _ _ e => .inl e
/-- A block goes over to a new one that lies at the same place. -/
theorem Stp.move (h : Rep ρ m w) {i g k : Nat} {b b' : Blk} {o : Obj} (hi : m.get i = some b) (hσ : ρ.σ i = some g) (hb : BlkOK (ρ.add m.next g k) m.next b' (upd w g o) g) :
    Stp ρ m w (ρ.add m.next g k) ((m.write i none).new b') (upd w g o) [i] := by
  have hn := h.dom m.next (Nat.le_refl _)
  have hle := Env.le_add hn g k
  have hin := h.lt hi
  have hg := h.low i g hσ
  have back : ∀ j bj, ((m.write i none).new b').get j = some bj → (j = m.next ∧ bj = b') ∨ (j ≠ m.next ∧ j ≠ i ∧ m.get j = some bj) := fun j bj hj => by
    rw [Mem.get_new] at hj
    by_cases e : j = (m.write i none).next
    · rw [if_pos e] at hj; cases hj; exact .inl ⟨e, rfl⟩
    · rw [if_neg e, Mem.get_write] at hj
      by_cases e2 : j = i
      · rw [if_pos e2] at hj; cases hj
      · rw [if_neg e2] at hj; exact .inr ⟨e, e2, hj⟩
  have sg : ∀ j, j ≠ m.next → (ρ.add m.next g k).σ j = ρ.σ j := fun j hj => by simp [Env.add, hj]
  refine ⟨hle, ⟨fun j bj hj => ?_, fun j l bj bl x hj hl ej el => ?_, fun j hj => ?_, fun j x hj => ?_, fun j bj x hj ej => ?_, base.stays w _ h.ok fun k hk => upd_other w o (by rintro rfl; exact h.sep i b _ hi hσ hk)⟩, rfl, rfl, rfl, by rw [upd_size]; exact Nat.le_refl _, fun x _ hx => upd_other w o (by rintro rfl; exact hx i (List.mem_singleton.2 rfl) hσ), fun j x e => ?_⟩
  · rcases back j bj hj with ⟨rfl, rfl⟩ | ⟨h1, h2, h3⟩
    · exact ⟨g, Env.add_σ _ _ _ _, hb⟩
    · obtain ⟨x, hx, hok⟩ := h.blk j bj h3
      have hne : x ≠ g := by rintro rfl; exact h2 (h.inj j i bj b _ h3 hi hx hσ)
      exact ⟨x, by rw [sg j h1]; exact hx, hok.mono hle hx (upd_other w o hne)⟩
  · rcases back j bj hj with ⟨rfl, rfl⟩ | ⟨h1, h2, h3⟩ <;> rcases back l bl hl with ⟨rfl, rfl⟩ | ⟨k1, k2, k3⟩
    · rfl
    · rw [Env.add_σ] at ej; cases ej
      rw [sg l k1] at el
      exact absurd (h.inj l i bl b _ k3 hi el hσ) k2
    · rw [Env.add_σ] at el; cases el
      rw [sg j h1] at ej
      exact absurd (h.inj j i bj b _ h3 hi ej hσ) h2
    · rw [sg j h1] at ej; rw [sg l k1] at el
      exact h.inj j l bj bl x h3 k3 ej el
  · have hj' : m.next < j := hj
    rw [sg j (by omega)]; exact h.dom j (by omega)
  · rw [upd_size]
    by_cases e : j = m.next
    · subst e; rw [Env.add_σ] at hj; cases hj; exact hg
    · rw [sg j e] at hj; exact h.low j x hj
  · rcases back j bj hj with ⟨rfl, rfl⟩ | ⟨h1, h2, h3⟩
    · rw [Env.add_σ] at ej; cases ej; exact h.sep i b _ hi hσ
    · rw [sg j h1] at ej; exact h.sep j bj x h3 ej
  · by_cases e1 : j = m.next
    · subst e1; rw [Env.add_σ] at e; cases e; exact .inr (.inr ⟨i, List.mem_singleton.2 rfl, hσ⟩)
    · rw [sg j e1] at e; exact .inl e
/-- A block is given up. -/
theorem Rep.drop (h : Rep ρ m w) (i : Nat) : Rep ρ (m.write i none) w := by
  have back : ∀ j bj, (m.write i none).get j = some bj → m.get j = some bj := fun j bj hj => by
    rw [Mem.get_write] at hj
    by_cases e : j = i
    · rw [if_pos e] at hj; cases hj
    · rwa [if_neg e] at hj
  exact ⟨fun j bj hj => h.blk j bj (back j bj hj), fun j k bj bk x hj hk => h.inj j k bj bk x (back j bj hj) (back k bk hk), h.dom, h.low, fun j bj x hj ej => h.sep j bj x (back j bj hj) ej, h.ok⟩
theorem Stp.drop (h : Rep ρ m w) (i : Nat) : Stp ρ m w ρ (m.write i none) w [i] :=
  ⟨Env.le.refl ρ, h.drop i, rfl, rfl, rfl, Nat.le_refl _, fun _ _ _ => rfl, fun _ _ h => .inl h⟩
end

variable {α : Type}
/-- The cells of a block with some of them written over. -/
def over (c : List α) (o : Nat) (vs : List α) : List α := c.take o ++ vs ++ c.drop (o + vs.length)
theorem over_length {c : List α} {o : Nat} {vs : List α} (h : o + vs.length ≤ c.length) : (over c o vs).length = c.length := by
  simp [over]; omega
theorem concL_over {ρ : Env} {c vs : List AV} {xs ys : List Value} {o : Nat} (h : concL ρ c = some xs) (k : concL ρ vs = some ys) : concL ρ (over c o vs) = some (over xs o ys) := by
  unfold over
  rw [concL_length k]
  exact concL_append (concL_append (concL_take _ h) k) (concL_drop _ h)
theorem over_append {c x vs : List α} {o : Nat} (h : o + vs.length ≤ c.length) : over (c ++ x) o vs = over c o vs ++ x := by
  unfold over
  rw [List.take_append_of_le_length (by omega), List.drop_append_of_le_length h]
  simp [List.append_assoc]
theorem over_get {c vs : List α} {o : Nat} (h : o + vs.length ≤ c.length) (k : Nat) : (over c o vs)[k]? = if k < o then c[k]? else if k < o + vs.length then vs[k - o]? else c[k]? := by
  have hm : (c.take o).length = o := by rw [List.length_take]; omega
  unfold over
  by_cases c1 : k < o
  · rw [if_pos c1, List.append_assoc, List.getElem?_append_left (by rw [hm]; exact c1), List.getElem?_take_of_lt c1]
  · rw [if_neg c1]
    by_cases c2 : k < o + vs.length
    · rw [if_pos c2, List.append_assoc, List.getElem?_append_right (by rw [hm]; omega), hm, List.getElem?_append_left (by omega)]
    · rw [if_neg c2, List.getElem?_append_right (by rw [List.length_append, hm]; omega), List.length_append, hm, List.getElem?_drop]
      congr 1; omega
theorem over_set {c vs : List α} {o : Nat} {v : α} (h : o + (vs.length + 1) ≤ c.length) : over (c.set o v) (o + 1) vs = over c o (v :: vs) := by
  apply List.ext_getElem?
  intro k
  rw [over_get (by rw [List.length_set]; omega), over_get (by rw [List.length_cons]; omega), List.length_cons]
  by_cases c1 : k < o
  · rw [if_pos (by omega), if_pos c1, List.getElem?_set_ne (by omega)]
  · by_cases c2 : k = o
    · subst c2
      rw [if_pos (by omega), if_neg (by omega), if_pos (by omega), List.getElem?_set_self (by omega), Nat.sub_self]; rfl
    · rw [if_neg (show ¬ k < o + 1 by omega), if_neg (show ¬ k < o by omega), List.getElem?_set_ne (by omega)]
      by_cases c3 : k < o + 1 + vs.length
      · rw [if_pos c3, if_pos (show k < o + (vs.length + 1) by omega), show k - o = (k - (o + 1)) + 1 by omega, List.getElem?_cons_succ]
      · rw [if_neg c3, if_neg (show ¬ k < o + (vs.length + 1) by omega)]
theorem setCell_upd {w : World} {g o : Nat} {cs : Array Value} {e : TypeId} {fr : Nat × Nat} (h : w.heap[g]? = some (.cells cs e fr)) (v : Value) :
    w.setCell ⟨g, o, none⟩ v = upd w g (.cells (cs.setIfInBounds o v) e fr) := by
  unfold World.setCell upd
  congr 1
  apply Array.ext'
  apply List.ext_getElem?
  intro k
  simp only [Array.getElem?_toList, Array.getElem?_modify, Array.getElem?_setIfInBounds]
  by_cases hk : g = k
  · subst hk
    obtain ⟨hl, he⟩ := Array.getElem?_eq_some_iff.1 h
    simp [he, hl]
  · simp [hk]
theorem run_storeCells_upd {P : Program} (g o : Nat) (e : TypeId) (fr : Nat × Nat) : ∀ (vs : List Value) (i : Nat) (cs : List Value) (w : World), w.heap[g]? = some (.cells cs.toArray e fr) → o + i + vs.length ≤ cs.length →
    (∀ v ∈ vs, v.oneCell' = true) → (∀ k, k < cs.length → ¬ (fr.1 ≤ k ∧ k < fr.2)) →
    (storeCells ⟨g, o, none⟩ vs i).run P w = .ok () (upd w g (.cells (over cs (o + i) vs).toArray e fr))
  | [], i, cs, w, h, hl, _, _ => by
    have : over cs (o + i) [] = cs := by simp [over]
    rw [this, upd_self h]
    simp [storeCells]
  | v :: vs, i, cs, w, h, hl, h1, hf => by
    simp only [List.length_cons] at hl
    have hc : w.cell? ⟨g, o + i, none⟩ = some (cs[o + i]'(by omega)) := by
      rw [cell_of_row w g _ _ e fr h]
      simp [List.getElem?_eq_getElem (show o + i < cs.length by omega)]
    have hfz : w.frozen? ⟨g, o + i, none⟩ = false := by
      have := hf (o + i) (by omega)
      simp only [World.frozen?, h]
      simpa using this
    have ih := run_storeCells_upd (P := P) g o e fr vs (i + 1) (cs.set (o + i) v) (upd w g (.cells (cs.set (o + i) v).toArray e fr)) (upd_same h _) (by simp; omega) (fun u hu => h1 u (List.mem_cons_of_mem _ hu)) (by simpa using hf)
    rw [upd_upd] at ih
    simp only [storeCells, Sem.run_bind, Addr.add_lit, run_store P w _ v .plain (h1 v (List.mem_cons_self ..)), hc, hfz, Bool.false_eq_true, if_false, Result.andThen_ok, setCell_upd h]
    have e1 : (cs.toArray.setIfInBounds (o + i) v) = (cs.set (o + i) v).toArray := by simp
    rw [e1, ih]
    rw [show o + (i + 1) = o + i + 1 by omega, over_set (by omega)]

/-- A cell's own value. -/
def AV.one : AV → Bool
  | .agg _ => false
  | .tuple _ => false
  | _ => true
theorem one_ok {ρ : Env} {a : AV} {x : Value} (h : conc ρ a = some x) (h1 : a.one = true) : x.oneCell' = true := by
  cases a with
  | agg l => cases h1
  | tuple l => cases h1
  | bool b => simp only [conc, Option.some.injEq] at h; subst h; rfl
  | int k n => simp only [conc, Option.some.injEq] at h; subst h; rfl
  | str s => simp only [conc, Option.some.injEq] at h; subst h; rfl
  | nilFunc => simp only [conc, Option.some.injEq] at h; subst h; rfl
  | nilIface => simp only [conc, Option.some.injEq] at h; subst h; rfl
  | ptr p =>
    cases p with
    | none => simp only [conc, Option.some.injEq] at h; subst h; rfl
    | some p => obtain ⟨_, _, rfl⟩ := ptr_conc h; rfl
  | slice p l c =>
    cases p with
    | none => cases c <;> simp [conc] at h; subst h; rfl
    | some p => obtain ⟨_, _, _, rfl⟩ := slice_conc h; rfl
  | slice0 p q d => simp only [conc, Option.map_eq_some_iff] at h; obtain ⟨_, _, rfl⟩ := h; rfl
  | map p =>
    cases p with
    | none => simp only [conc, Option.some.injEq] at h; subst h; rfl
    | some p => simp only [conc, Option.map_eq_some_iff] at h; obtain ⟨_, _, rfl⟩ := h; rfl
  | func fn f c => simp only [conc, Option.bind_eq_some_iff, Option.map_eq_some_iff] at h; obtain ⟨_, _, _, _, rfl⟩ := h; rfl
  | iface t v => simp only [conc, Option.map_eq_some_iff] at h; obtain ⟨_, _, rfl⟩ := h; rfl
  | sym k i l r =>
    simp only [conc] at h
    rcases symV_kind h with ⟨n, rfl⟩ | ⟨b, rfl⟩ <;> rfl
def allOne : List AV → Bool
  | [] => true
  | a :: l => a.one && allOne l
theorem allOne_ok {ρ : Env} : ∀ {l : List AV} {vs : List Value}, concL ρ l = some vs → allOne l = true → ∀ v ∈ vs, v.oneCell' = true
  | [], vs, h, _ => by simp [concL] at h; subst h; simp
  | a :: l, vs, h, h1 => by
    obtain ⟨x, y, hx, hy, rfl⟩ := concL_cons h
    simp only [allOne, Bool.and_eq_true] at h1
    intro v hv
    rcases List.mem_cons.1 hv with rfl | hv
    · exact one_ok hx h1.1
    · exact allOne_ok hy h1.2 v hv

/-- What an operation with an effect came to. -/
structure Did (P : Program) (ev : Operand → Value) (o : Oper) (ρ : Env) (m : Mem) (w : World) (r : AV) (m' : Mem) : Prop where
  ex : ∃ ρ' w' z L, Stp ρ m w ρ' m' w' L ∧ Lg m m' L ∧ conc ρ' r = some z ∧ ((execOp ev o).run P w = .ok (.value z) w' ∨ ((execOp ev o).run P w = .ok .skip w' ∧ z = undef))

section
variable (P : Program)
/-- A store over cells of a block. -/
def putA (m : Mem) (p : Nat × Nat) (vs : List AV) : Option Mem :=
  match m.get p.1 with
  | some (.cells c e op) => bif Nat.ble (p.2 + vs.length) c.length && allOne vs then some (m.write p.1 (some (.cells (over c p.2 vs) e op))) else none
  | _ => none
def storeA (m : Mem) (t : TypeId) (a x : AV) : Option Mem :=
  match a with
  | .ptr (some p) => (match sizeT P t with
    | none => none
    | some n => bif Nat.beq x.cells.length n then putA m p x.cells else none)
  | _ => none
end
section
variable {P : Program} {ρ : Env} {m : Mem} {w : World}
theorem putA_ok (h : Rep ρ m w) {p : Nat × Nat} {vs : List AV} {xs : List Value} {m' : Mem} {g : Nat} (hg : ρ.σ p.1 = some g) (hx : concL ρ vs = some xs) (hp : putA m p vs = some m') :
    ∃ w', Stp ρ m w ρ m' w' [p.1] ∧ Lg m m' [p.1] ∧ (storeCells ⟨g, p.2, none⟩ xs 0).run P w = .ok () w' := by
  unfold putA at hp
  split at hp
  · rename_i c e op hi
    cases hb : (Nat.ble (p.2 + vs.length) c.length && allOne vs) with
    | false => rw [hb, cond_false] at hp; cases hp
    | true =>
      rw [hb, cond_true] at hp
      cases hp
      simp only [Bool.and_eq_true, Nat.ble_eq] at hb
      obtain ⟨g', cs, ex, fr, h0, h1, h2, h3, h4⟩ := h.cells hi
      rw [hg] at h0; cases h0
      have l1 := concL_length h1
      have l2 := concL_length hx
      have hle : p.2 + xs.length ≤ cs.length := by omega
      have hr := run_storeCells_upd (P := P) g p.2 e fr xs 0 (cs ++ ex) w h2 (by simp; omega) (allOne_ok hx hb.2) h3
      rw [Nat.add_zero, over_append hle] at hr
      refine ⟨_, Stp.write h hi hg ?_, Lg.write _ _ _, hr⟩
      have hol := over_length hle
      refine ⟨over cs p.2 xs, ex, fr, concL_over h1 hx, upd_same h2 _, ?_, ?_⟩
      · intro o ho; exact h3 o (by simpa [hol] using ho)
      · have : (over cs p.2 xs ++ ex).length = (cs ++ ex).length := by simp [hol]
        rw [this]; exact h4
  · cases hp
theorem storeA_ok (h : Rep ρ m w) {t : TypeId} {a v : AV} {x y : Value} {m' : Mem} (ha : conc ρ a = some x) (hv : conc ρ v = some y) (hs : storeA P m t a v = some m') :
    ∃ w' i, Stp ρ m w ρ m' w' [i] ∧ Lg m m' [i] ∧ (Instr.storeAt t x y).run P w = .ok () w' := by
  unfold storeA at hs
  split at hs
  · rename_i p
    obtain ⟨g, hg, rfl⟩ := ptr_conc ha
    split at hs
    · cases hs
    · rename_i n hn
      cases hb : Nat.beq v.cells.length n with
      | false => rw [hb, cond_false] at hs; cases hs
      | true =>
        rw [hb, cond_true] at hs
        rw [Nat.beq_eq] at hb
        obtain ⟨w', h1, h2, h3⟩ := putA_ok (P := P) h hg (cells_ok hv) hs
        refine ⟨w', p.1, h1, h2, ?_⟩
        have hl := concL_length (cells_ok hv)
        simp only [Array.length_toList] at hl
        simp only [Instr.storeAt, Instr.sureAddr, Sem.run_bind, Sem.run_pure, Result.andThen_ok, storeVar, sizeT_ok hn]
        rw [if_neg (by omega)]
        exact h3
  · cases hs
/-- A new block of just these cells. -/
theorem new_ok (h : Rep ρ m w) {c : List AV} {vs : List Value} (e : TypeId) (hc : concL ρ c = some vs) :
    Stp ρ m w (ρ.add m.next w.heap.size 0) (m.new (.cells c e none)) (w.alloc (.cells vs.toArray e)) [] := by
  refine Stp.alloc h _ _ 0 ⟨vs, [], (0, 0), concL_mono (Env.le_add (h.dom m.next (Nat.le_refl _)) _ _) _ _ hc, ?_, fun o _ => by simp, rfl⟩
  rw [List.append_nil]; exact heap_alloc_new w _
/-- A new block with room behind. -/
theorem newOpen_ok (h : Rep ρ m w) {c : List AV} {vs ex : List Value} (e : TypeId) (fr : Nat × Nat) {k sz : Nat} (hc : concL ρ c = some vs) (hl : (vs ++ ex).length = k * sz) (hf : ∀ o, o < (vs ++ ex).length → ¬ (fr.1 ≤ o ∧ o < fr.2)) :
    Stp ρ m w (ρ.add m.next w.heap.size k) (m.new (.cells c e (some sz))) (w.alloc (.cells (vs ++ ex).toArray e fr)) [] := by
  refine Stp.alloc h _ _ k ⟨vs, ex, fr, concL_mono (Env.le_add (h.dom m.next (Nat.le_refl _)) _ _) _ _ hc, heap_alloc_new w _, hf, ?_⟩
  simp [Room, Env.add, hl]
end
end
end Ev
end Go.Proofs.YtddedijencleeaaGreatDoor

/- The evaluator, part 8: all operations with an effect that call nothing. No condition. -/
set_option linter.all false
namespace Go.Proofs.YtddedijencleeaaGreatDoor
open Go.RowKit

namespace Ev
noncomputable section

section
variable (P : Program)
def allocA (m : Mem) (t : TypeId) : Option (AV × Mem) :=
  match zeroT P t with
  | some z => some (.ptr (some (m.next, 0)), m.new (.cells z.cells t none))
  | none => none
def repA (z : List AV) (n : Nat) : List AV := (List.range n).map fun i => (z[Nat.mod i z.length]?).getD (.bool false)
def zerosA (e : TypeId) (n : Nat) : Option (List AV) :=
  bif Nat.beq n 0 then some [] else match zeroT P e with
  | some z => bif Nat.beq z.cells.length 0 then none else some (repA z.cells n)
  | none => none
def buildSliceA (m : Mem) (t : TypeId) (len : Nat) (ps : List (Nat × AV)) : Option (AV × Mem) :=
  match P.underlying t with
  | some (.slice e) => (match sizeT P e with
    | none => none
    | some sz => bif Nat.ble (len * sz) 16777216 then (match zerosA P e (len * sz) with
      | none => none
      | some z => match fillA (fun i => some (i * sz, sz)) z ps with
        | none => none
        | some r => some (.slice (some (m.next, 0)) len (.known len), m.new (.cells r e none))) else none)
  | _ => none
def bytesT (t : TypeId) : Option Nat := match P.info? t with | some i => some i.bytes | none => none
def makeSliceA (m : Mem) (t : TypeId) (l c : AV) : Option (AV × Mem) :=
  match l, c with
  | .int _ l, .int _ c => (match P.underlying t with
    | some (.slice e) => (match sizeT P e, bytesT P e with
      | some sz, some by_ => bif decide (0 ≤ l) && decide (l ≤ c) && decide (c ≤ 4611686018427387904) && decide (by_ * c ≤ 281474976710656) then (match zeroT P e with
        | none => none
        | some z => bif Nat.beq z.cells.length 0 then none else some (.slice (some (m.next, 0)) l.toNat (.known c.toNat), m.new (.cells (repA z.cells (c.toNat * sz)) e none))) else none
      | _, _ => none)
    | _ => none)
  | _, _ => none
def strBytesA (m : Mem) (s d : TypeId) (v : AV) : Option (AV × Mem) :=
  match v with
  | .str l => (match P.underlying s, P.underlying d with
    | some .string, some (.slice e) => (match P.underlying e with
      | some (.int .u8) => some (.slice (some (m.next, 0)) l.length (.opn 0), m.new (.cells (l.map fun b => .int .u8 b.toNat) e (some 1)))
      | _ => none)
    | _, _ => none)
  | _ => none
def newsA (m : Mem) (sz : Nat) (x : AV) : Option (Nat × List AV) :=
  match x with
  | .slice none 0 (.known 0) => some (0, [])
  | .slice0 _ _ _ => some (0, [])
  | .slice (some p) n _ => (match cellsAt m p (n * sz) with | none => none | some l => some (n, l))
  | .str s => bif Nat.beq sz 1 then some (s.length, s.map fun b => .int .u8 b.toNat) else none
  | _ => none
def fitsB (need by_ : Nat) : Bool := Nat.ble need 9223372036854775807 && Nat.ble (need * by_) 140737488355328
/-- append(s, x...). -/
def appendA (m : Mem) (t u : TypeId) (s x : AV) : Option (AV × Mem) :=
  match P.underlying t, P.underlying u with
  | some (.slice e), some du => bif (match du with | .slice _ => true | .string => true | _ => false) then
    (match P.info? e, zeroT P e with
    | some i, some z => bif Nat.beq i.size 0 || !(Nat.beq z.cells.length i.size) then none else
      (match newsA m i.size x with
      | none => none
      | some (n, news) => (match s with
        | .slice none 0 (.known 0) => bif Nat.beq n 0 then some (s, m) else
            bif fitsB n i.bytes then some (.slice (some (m.next, 0)) n (.opn 0), m.new (.cells news e (some i.size))) else none
        | .slice (some p) l (.known c) => bif Nat.ble (l + n) c then (bif Nat.beq n 0 then some (s, m) else match putA m (p.1, p.2 + l * i.size) news with
            | none => none
            | some m' => some (.slice (some p) (l + n) (.known c), m')) else
            bif fitsB (l + n) i.bytes then (match cellsAt m p (l * i.size) with
              | none => none
              | some olds => some (.slice (some (m.next, 0)) (l + n) (.opn 0), m.new (.cells (olds ++ news) e (some i.size)))) else none
        | .slice (some p) l (.opn d) => bif Nat.beq n 0 then some (s, m) else (match m.get p.1 with
          | some (.cells c e' (some sz')) => bif Nat.beq d 0 && Nat.beq p.2 0 && Nat.beq sz' i.size && Nat.beq e' e && Nat.beq c.length (l * i.size) && allOne news && fitsB (l + n) i.bytes then
              some (.slice (some (m.next, 0)) (l + n) (.opn 0), (m.write p.1 none).new (.cells (c ++ news) e (some i.size))) else none
          | _ => none)
        | .slice0 _ _ _ => bif Nat.beq n 0 then some (s, m) else none
        | _ => none))
    | _, _ => none) else none
  | _, _ => none
def copyA (m : Mem) (t : TypeId) (d x : AV) : Option (AV × Mem) :=
  match P.underlying t with
  | some (.slice e) => (match sizeT P e with
    | none => none
    | some sz => (match d with
      | .slice (some p) l _ => (match x with
        | .slice (some q) n _ => (match cellsAt m q (min n l * sz) with
          | none => none
          | some vs => match putA m p vs with
            | none => none
            | some m' => some (.int .i64 (min n l : Nat), m'))
        | _ => none)
      | _ => none))
  | _ => none
def setE : List (AV × AV × Nat) → Nat → AV → AV → List (AV × AV × Nat)
  | [], _, _, _ => []
  | (_, _, n) :: l, 0, k, v => (k, v, n) :: l
  | x :: l, i + 1, k, v => x :: setE l i k v
def mapPutA (m : Mem) (t : TypeId) (x k v : AV) : Option Mem :=
  match P.underlying t, x with
  | some (.map kt _), .map (some i) => bif plainKey P kt k then (match m.get i with
    | some (.mp es cl) => (match findA k es 0 with
      | none => none
      | some none => some (m.write i (some (.mp (es ++ [(k, v, cl)]) (Nat.succ cl))))
      | some (some r) => some (m.write i (some (.mp (setE es r.1 k v) cl))))
    | _ => none) else none
  | _, _ => none
/-- AN OPERATION WITH AN EFFECT THAT CALLS NOTHING. -/
def eop (m : Mem) (op : Op) (f : Operand → Option AV) : Option (AV × Mem) :=
  match op with
  | .alloc t => allocA P m t
  | .box t x => (match f x with | some v => some (.ptr (some (m.next, 0)), m.new (.cells v.cells t none)) | none => none)
  | .buildSlice t len ps => (match partsO f ps.toList with | some r => buildSliceA P m t len r | none => none)
  | .store t a x => (match f a, f x with
    | some a, some x => (match storeA P m t a x with | some m' => some (.tuple [], m') | none => none)
    | _, _ => none)
  | .makeSlice t l c => (match f l, f c with | some l, some c => makeSliceA P m t l c | _, _ => none)
  | .makeMap _ none => some (.map (some m.next), m.new (.mp [] 0))
  | .mapUpdate t x k v => (match f x, f k, f v with
    | some x, some k, some v => (match mapPutA P m t x k v with | some m' => some (.tuple [], m') | none => none)
    | _, _, _ => none)
  | .insert t x k v => (match f x, f k, f v with
    | some x, some k, some v => (match mapPutA P m t x k v with | some m' => some (.tuple [], m') | none => none)
    | _, _, _ => none)
  | .convert s d x => (match f x with | some v => strBytesA P m s d v | none => none)
  | .call c => (match c.callee with
    | .builtin .append => (match c.argTypes.toList, listO f c.args.toList with | [t, u], some [s, x] => appendA P m t u s x | _, _ => none)
    | .builtin .copy => (match c.argTypes.toList, listO f c.args.toList with | t :: _, some [s, x] => copyA P m t s x | _, _ => none)
    | _ => none)
  | _ => none
end

section
variable {P : Program} {ρ : Env} {m : Mem} {w : World}
theorem allocA_ok (h : Rep ρ m w) {t : TypeId} {r : AV} {m' : Mem} (ha : allocA P m t = some (r, m')) :
    ∃ ρ' w' z, Stp ρ m w ρ' m' w' [] ∧ Lg m m' [] ∧ conc ρ' r = some z ∧ (Instr.alloc t true (.tuple #[])).run P w = .ok z w' := by
  unfold allocA at ha
  split at ha
  · rename_i z hz
    cases ha
    obtain ⟨x, hx, hr⟩ := zeroT_ok (ρ := ρ) hz
    refine ⟨_, _, .pointer (some ⟨w.heap.size, 0, none⟩), new_ok h t (cells_ok hx), Lg.new _ _, by simp [conc, Env.add], ?_⟩
    simp [Instr.alloc, hr, newVar, newRow]
  · cases ha
theorem box_ok (h : Rep ρ m w) {t : TypeId} {v : AV} {x : Value} (hv : conc ρ v = some x) :
    ∃ ρ' w' z, Stp ρ m w ρ' (m.new (.cells v.cells t none)) w' [] ∧ Lg m (m.new (.cells v.cells t none)) [] ∧ conc ρ' (.ptr (some (m.next, 0))) = some z ∧ (Instr.box t x).run P w = .ok z w' := by
  refine ⟨_, _, .pointer (some ⟨w.heap.size, 0, none⟩), new_ok h t (cells_ok hv), Lg.new _ _, by simp [conc, Env.add], ?_⟩
  simp [Instr.box, newVar, newRow]
theorem repA_ok {z : List AV} {zs : List Value} (hz : concL ρ z = some zs) (hne : z.length ≠ 0) (n : Nat) : concL ρ (repA z n) = some ((Array.range n).map (zs.toArray[· % zs.toArray.size]!)).toList := by
  have hl := concL_length hz
  have key : ∀ l : List Nat, concL ρ (l.map fun i => (z[Nat.mod i z.length]?).getD (.bool false)) = some (l.map fun i => zs.toArray[i % zs.toArray.size]!) := by
    intro l
    induction l with
    | nil => rfl
    | cons i l ih =>
      refine concL_cons_mk ?_ ih
      have hi : i % z.length < z.length := Nat.mod_lt _ (by omega)
      have hg : z[i % z.length]? = some z[i % z.length] := List.getElem?_eq_getElem hi
      obtain ⟨v, hv, hc⟩ := concL_get hz hg
      show conc ρ ((z[i % z.length]?).getD (.bool false)) = some (zs.toArray[i % zs.toArray.size]!)
      rw [hg, Option.getD_some, hc]
      congr 1
      simp only [List.size_toArray, hl]
      obtain ⟨h1, h2⟩ := List.getElem?_eq_some_iff.1 hv
      simp [h1, h2]
  have := key (List.range n)
  unfold repA
  rw [this]
  congr 1
  simp
theorem zerosA_ok {e : TypeId} {n : Nat} {l : List AV} (h : zerosA P e n = some l) :
    ∃ zs : Array Value, concL ρ l = some ((Array.range n).map (zs[· % zs.size]!)).toList ∧ ((n = 0 ∧ zs = #[]) ∨ (n ≠ 0 ∧ ∃ x, zs = x.cells ∧ ∀ w, (zeroValue e).run P w = .ok x w)) := by
  unfold zerosA at h
  by_cases h0 : n = 0
  · subst h0
    simp [Nat.beq] at h
    subst h
    exact ⟨#[], by simp [concL], .inl ⟨rfl, rfl⟩⟩
  · rw [Tr.beq0 h0, cond_false] at h
    split at h
    · rename_i z hz
      obtain ⟨x, hx, hr⟩ := zeroT_ok (ρ := ρ) hz
      by_cases hl : z.cells.length = 0
      · rw [hl] at h; simp [Nat.beq] at h
      · rw [Tr.beq0 hl, cond_false] at h
        cases h
        refine ⟨x.cells, ?_, .inr ⟨h0, x, rfl, hr⟩⟩
        have := repA_ok (cells_ok hx) hl n
        simpa using this
    · cases h
theorem buildSliceA_new {t : TypeId} {len : Nat} {ps : List (Nat × AV)} {r : AV} {m m' : Mem} (hb : buildSliceA P m t len ps = some (r, m')) :
    ∃ b r', m' = m.new b ∧ r = r' ∧ ∀ (ρ : Env) (qs : List (Nat × Value)), ps.map (·.1) = qs.map (·.1) → concL ρ (ps.map (·.2)) = some (qs.map (·.2)) →
      r' = .slice (some (m.next, 0)) len (.known len) ∧ ∃ c e vs, b = .cells c e none ∧ concL ρ c = some vs ∧ ∀ w, (Instr.buildSlice t len qs.toArray).run P w = .ok (.slice (some ⟨w.heap.size, 0, none⟩) len len) (w.alloc (.cells vs.toArray e)) := by
  unfold buildSliceA at hb
  split at hb
  · rename_i e hu
    split at hb
    · cases hb
    · rename_i sz hsz
      cases hs : Nat.ble (len * sz) 16777216 with
      | false => rw [hs, cond_false] at hb; cases hb
      | true =>
        rw [hs, cond_true] at hb
        rw [Nat.ble_eq] at hs
        split at hb
        · cases hb
        · rename_i z hz
          split at hb
          · cases hb
          · rename_i q hq
            cases hb
            refine ⟨_, _, rfl, rfl, fun ρ qs h1 h2 => ⟨rfl, ?_⟩⟩
            obtain ⟨zs, hzs, hrun⟩ := zerosA_ok (ρ := ρ) hz
            obtain ⟨rs, e1, e2⟩ := fillA_ok (ρ := ρ) (cs := (Array.range (len * sz)).map (zs[· % zs.size]!)) hzs h1 h2 hq
            refine ⟨_, _, _, rfl, e2, fun w => ?_⟩
            have hno : ¬ len * sz > 2 ^ 24 := by omega
            rcases hrun with ⟨h0, rfl⟩ | ⟨h0, x, rfl, hx⟩
            · simp only [Instr.buildSlice, Sem.run_bind, run_underlying hu, Result.andThen_ok, sizeT_ok hsz, Sem.run_ite, hno, if_false, h0, if_true, Sem.run_pure]
              rw [h0] at e1
              simp only [e1]
              simp [newRow]
            · simp only [Instr.buildSlice, Sem.run_bind, run_underlying hu, Result.andThen_ok, sizeT_ok hsz, Sem.run_ite, hno, if_false, h0, Sem.run_pure, hx]
              simp only [e1]
              simp [newRow]
  · cases hb
theorem buildSliceA_ok (h : Rep ρ m w) {t : TypeId} {len : Nat} {ps : List (Nat × AV)} {qs : List (Nat × Value)} {r : AV} {m' : Mem} (h1 : ps.map (·.1) = qs.map (·.1)) (h2 : concL ρ (ps.map (·.2)) = some (qs.map (·.2)))
    (hb : buildSliceA P m t len ps = some (r, m')) : ∃ ρ' w' z, Stp ρ m w ρ' m' w' [] ∧ Lg m m' [] ∧ conc ρ' r = some z ∧ (Instr.buildSlice t len qs.toArray).run P w = .ok z w' := by
  unfold buildSliceA at hb
  split at hb
  · rename_i e hu
    split at hb
    · cases hb
    · rename_i sz hsz
      cases hs : Nat.ble (len * sz) 16777216 with
      | false => rw [hs, cond_false] at hb; cases hb
      | true =>
        rw [hs, cond_true] at hb
        rw [Nat.ble_eq] at hs
        split at hb
        · cases hb
        · rename_i z hz
          split at hb
          · cases hb
          · rename_i q hq
            cases hb
            obtain ⟨zs, hzs, hrun⟩ := zerosA_ok (ρ := ρ) hz
            obtain ⟨rs, e1, e2⟩ := fillA_ok (ρ := ρ) (cs := (Array.range (len * sz)).map (zs[· % zs.size]!)) hzs h1 h2 hq
            refine ⟨_, _, .slice (some ⟨w.heap.size, 0, none⟩) len len, new_ok h e e2, Lg.new _ _, by simp [conc, Env.add, Cap.fits, Cap.conc], ?_⟩
            have hno : ¬ len * sz > 2 ^ 24 := by omega
            rcases hrun with ⟨h0, rfl⟩ | ⟨h0, x, rfl, hx⟩
            · simp only [Instr.buildSlice, Sem.run_bind, run_underlying hu, Result.andThen_ok, sizeT_ok hsz, Sem.run_ite, hno, if_false, h0, if_true, Sem.run_pure]
              rw [h0] at e1
              simp only [e1]
              simp [newRow]
            · simp only [Instr.buildSlice, Sem.run_bind, run_underlying hu, Result.andThen_ok, sizeT_ok hsz, Sem.run_ite, hno, if_false, h0, Sem.run_pure, hx]
              simp only [e1]
              simp [newRow]
  · cases hb
theorem makeSliceA_ok (h : Rep ρ m w) {t : TypeId} {l c r : AV} {x y : Value} {m' : Mem} (hl : conc ρ l = some x) (hc : conc ρ c = some y) (hm : makeSliceA P m t l c = some (r, m')) :
    ∃ ρ' w' z, Stp ρ m w ρ' m' w' [] ∧ Lg m m' [] ∧ conc ρ' r = some z ∧ (Instr.makeSlice t x y).run P w = .ok z w' := by
  unfold makeSliceA at hm
  split at hm
  · rename_i k1 l k2 c
    simp only [conc, Option.some.injEq] at hl hc; subst hl hc
    split at hm
    · rename_i e hu
      split at hm
      · rename_i sz by_ hsz hby
        cases hb : (decide (0 ≤ l) && decide (l ≤ c) && decide (c ≤ 4611686018427387904) && decide (by_ * c ≤ 281474976710656)) with
        | false => rw [hb, cond_false] at hm; cases hm
        | true =>
          rw [hb, cond_true] at hm
          simp only [Bool.and_eq_true, decide_eq_true_eq] at hb
          obtain ⟨⟨⟨b1, b2⟩, b3⟩, b4⟩ := hb
          split at hm
          · cases hm
          · rename_i z hz
            by_cases hl : z.cells.length = 0
            · rw [hl] at hm; simp [Nat.beq] at hm
            · rw [Tr.beq0 hl, cond_false] at hm
              cases hm
              unfold zeroT at hz
              unfold bytesT at hby
              obtain ⟨i, hi, hsize⟩ := sizeT_info hsz
              rw [hi] at hz hby
              simp only [Option.some.injEq] at hz hby
              split at hz
              · rename_i zv hzv
                have hzc := cells_ok (absV_ok (ρ := ρ) hz)
                have hrep := repA_ok hzc hl (c.toNat * sz)
                subst hsize hby
                have hr := run_make (P := P) w t e i zv hu hi hzv k1 k2 l c b1 b2 b4 (by omega)
                refine ⟨_, _, .slice (some ⟨w.heap.size, 0, none⟩) l.toNat c.toNat, new_ok h e hrep, Lg.new _ _, by simp [conc, Env.add, Cap.fits, Cap.conc], ?_⟩
                rw [hr]
                unfold madeCells
                simp only [Array.toArray_toList]
              · cases hz
      · cases hm
    · cases hm
  · cases hm
theorem concL_bytes : ∀ (l : List UInt8), concL ρ (l.map fun b => AV.int .u8 b.toNat) = some (l.map fun b => Value.int .u8 b.toNat)
  | [] => rfl
  | _ :: l => concL_cons_mk rfl (concL_bytes l)
theorem strBytesA_ok (h : Rep ρ m w) {s d : TypeId} {v r : AV} {x : Value} {m' : Mem} (hv : conc ρ v = some x) (hm : strBytesA P m s d v = some (r, m')) :
    ∃ ρ' w' z, Stp ρ m w ρ' m' w' [] ∧ Lg m m' [] ∧ conc ρ' r = some z ∧ (convert s d x).run P w = .ok z w' := by
  unfold strBytesA at hm
  split at hm
  · rename_i l
    simp only [conc, Option.some.injEq] at hv; subst hv
    split at hm
    · rename_i e hs hd
      split at hm
      · rename_i he
        cases hm
        have hge := grownCap_ge w l.length 0 e
        have hr := run_bytes_of_string (P := P) w s d e ⟨l.toArray⟩ hs hd he
        rw [size_mk] at hr
        have hrow : bytesRow ⟨l.toArray⟩ (grownCap w l.length 0 e) = ((l.map fun b => Value.int .u8 b.toNat) ++ List.replicate (grownCap w l.length 0 e - l.length) (Value.int .u8 0)).toArray := by
          apply Array.ext'; simp [bytesRow, size_mk]
        have hsz : (bytesRow ⟨l.toArray⟩ (grownCap w l.length 0 e)).size = grownCap w l.length 0 e := by rw [hrow]; simp; omega
        rw [hsz, hrow] at hr
        generalize grownCap w l.length 0 e = cap at *
        have hd1 := Stp.drawn h (w.drawn + 1)
        have hn := newOpen_ok (h.drawn (w.drawn + 1)) e (cap, cap + 1) (k := cap) (sz := 1) (ex := List.replicate (cap - l.length) (.int .u8 0)) (concL_bytes l) (by simp; omega) (fun o ho => by simp at ho ⊢; omega)
        exact ⟨_, _, .slice (some ⟨w.heap.size, 0, none⟩) l.length cap, hd1.trans hn, Lg.new _ _, by simp [conc, Env.add, Cap.fits, Cap.conc, hge], hr⟩
      · cases hm
    · cases hm
  · cases hm
theorem newsA_ok (h : Rep ρ m w) {sz n : Nat} {x : AV} {X : Value} {news : List AV} (hx : conc ρ x = some X) (hn : newsA m sz x = some (n, news)) :
    ∃ vs, concL ρ news = some vs ∧ vs.length = n * sz ∧ (∀ w' : World, (Builtin.lenOf X).run P w' = .ok n w') ∧ ∀ w' : World, w'.heap = w.heap → (Builtin.firstCells sz n X).run P w' = .ok vs.toArray w' := by
  unfold newsA at hn
  split at hn
  · simp only [conc, Option.some.injEq] at hx; subst hx
    cases hn
    exact ⟨[], rfl, by simp, fun _ => rfl, fun _ _ => by simp [Builtin.firstCells]⟩
  · simp only [conc, Option.map_eq_some_iff] at hx
    obtain ⟨g, hg, rfl⟩ := hx
    cases hn
    exact ⟨[], rfl, by simp, fun _ => rfl, fun w' _ => by simp [Builtin.firstCells, loadCells, loadCellsFrom]⟩
  · rename_i p k c
    obtain ⟨g, hg, _, rfl⟩ := slice_conc hx
    split at hn
    · cases hn
    · rename_i l hl
      cases hn
      obtain ⟨vs, h1, h2, h3⟩ := cellsAt_ok h hg hl
      refine ⟨vs, h1, h2, fun _ => rfl, fun w' hw => ?_⟩
      exact run_firstCells_some (P := P) w' sz n ⟨g, p.2, none⟩ n _ vs h2 (h3 w' hw)
  · rename_i s
    simp only [conc, Option.some.injEq] at hx; subst hx
    cases hb : Nat.beq sz 1 with
    | false => rw [hb, cond_false] at hn; cases hn
    | true =>
      rw [hb, cond_true] at hn
      cases hn
      rw [Nat.beq_eq] at hb
      subst hb
      refine ⟨_, concL_bytes s, by simp, fun _ => by simp [Builtin.lenOf, size_mk], fun w' _ => ?_⟩
      have : (ByteArray.mk s.toArray).extract 0 s.length = ⟨s.toArray⟩ := by rw [extract_toArray]; simp
      simp [Builtin.firstCells, this]
  · cases hn
theorem run_append_room' {t u ty e : TypeId} {i : TypeInfo} {du : TypeDesc} (ht : P.underlying t = some (.slice e)) (hi : P.info? e = some i) (hu : P.underlying u = some du) (hdu : (∃ e', du = .slice e') ∨ du = .string)
    (base : Option Addr) (sLen sCap n : Nat) (X : Value) (news : Array Value) (hn : (Builtin.lenOf X).run P w = .ok n w) (hf : (Builtin.firstCells i.size n X).run P w = .ok news w) (hroom : sLen + n ≤ sCap) :
    (Builtin.append_ #[t, u] ty #[.slice base sLen sCap, X]).run P w = ((match base with | some a => storeCells (a.add (sLen * i.size)) news.toList | none => pure () : Sem Unit).run P w).andThen fun _ w' => .ok (.slice base (sLen + n) sCap) w' := by
  rcases hdu with ⟨e', rfl⟩ | rfl <;> cases base <;> simp [Builtin.append_, run_underlying ht, run_underlying hu, sizeOf, typeInfo, hi, hn, hroom, hf]
theorem run_append_grow' {t u ty e : TypeId} {i : TypeInfo} {z : Value} {du : TypeDesc} (ht : P.underlying t = some (.slice e)) (hi : P.info? e = some i) (hzz : i.zero = some z) (hu : P.underlying u = some du) (hdu : (∃ e', du = .slice e') ∨ du = .string)
    (base : Option Addr) (sLen sCap n : Nat) (X : Value) (olds news : Array Value) (hn : ∀ w' : World, (Builtin.lenOf X).run P w' = .ok n w') (hf : (Builtin.firstCells i.size n X).run P w.drew = .ok news w.drew)
    (ho : (Builtin.firstCells i.size sLen (.slice base sLen sCap)).run P w.drew = .ok olds w.drew) (hg : sCap < sLen + n) (h63 : ((sLen + n : Nat) : Int) ≤ 9223372036854775807) (hfit : Builtin.nextslicecap (sLen + n) sCap * i.bytes ≤ 281474976710656) :
    (Builtin.append_ #[t, u] ty #[.slice base sLen sCap, X]).run P w = .ok (.slice (some ⟨w.heap.size, 0, none⟩) (sLen + n) (grownCap w (sLen + n) sCap e))
      (w.drew.alloc (.cells (olds ++ news ++ Builtin.zeroCells z.cells (grownCap w (sLen + n) sCap e - (sLen + n))) e)) := by
  have hno : ¬ (sLen + n ≤ sCap) := by omega
  have h63' : ¬ (9223372036854775807 < ((sLen : Int) + (n : Int))) := by omega
  have h48' : ¬ (281474976710656 < Builtin.nextslicecap (sLen + n) sCap * i.bytes) := by omega
  rcases hdu with ⟨e', rfl⟩ | rfl <;> simp [Builtin.append_, run_underlying ht, run_underlying hu, sizeOf, typeInfo, zeroValue, hi, hzz, hn, hno, h63', h48', Question.forced, hf, ho, newRow, grownCap]
theorem appendA_ok (h : Rep ρ m w) {t u ty : TypeId} {s x r : AV} {S X : Value} {m' : Mem} (hs : conc ρ s = some S) (hx : conc ρ x = some X) (ha : appendA P m t u s x = some (r, m')) :
    ∃ ρ' w' z L, Stp ρ m w ρ' m' w' L ∧ Lg m m' L ∧ conc ρ' r = some z ∧ (Builtin.append_ #[t, u] ty #[S, X]).run P w = .ok z w' := by
  unfold appendA at ha
  split at ha
  · rename_i e du ht hu
    cases hdb : (match du with | .slice _ => true | .string => true | _ => false) with
    | false => rw [hdb, cond_false] at ha; cases ha
    | true =>
    rw [hdb, cond_true] at ha
    have hdu : (∃ e', du = .slice e') ∨ du = .string := by
      cases du <;> simp at hdb <;> first | exact .inl ⟨_, rfl⟩ | exact .inr rfl
    clear hdb
    split at ha
    · rename_i i z hi hz
      cases hc : (Nat.beq i.size 0 || !(Nat.beq z.cells.length i.size)) with
      | true => rw [hc, cond_true] at ha; cases ha
      | false =>
      rw [hc, cond_false] at ha
      simp only [Bool.or_eq_false_iff, Bool.not_eq_false', Nat.beq_eq] at hc
      obtain ⟨hc0, hzl⟩ := hc
      have hi0 : i.size ≠ 0 := fun e => by rw [e] at hc0; simp [Nat.beq] at hc0
      unfold zeroT at hz
      rw [hi] at hz
      simp only at hz
      split at hz
      case h_2 => cases hz
      rename_i zv hzv
      have hzc := cells_ok (absV_ok (ρ := ρ) hz)
      have hzs : zv.cells.size = i.size := by have := concL_length hzc; simp at this; omega
      split at ha
      · cases ha
      · rename_i n news hnews
        obtain ⟨vs, v1, v2, v3, v4⟩ := newsA_ok (P := P) h hx hnews
        have same : ∀ (base : Option Addr) (l c : Nat), S = .slice base l c → l + n ≤ c → n = 0 → ∃ ρ' w' z L, Stp ρ m w ρ' m w' L ∧ Lg m m L ∧ conc ρ' s = some z ∧ (Builtin.append_ #[t, u] ty #[S, X]).run P w = .ok z w' := by
          intro base l c hS hle hn0
          subst hn0
          have hv0 : vs = [] := List.eq_nil_of_length_eq_zero (by simpa using v2)
          subst hv0
          refine ⟨ρ, w, S, [], Stp.refl h, Lg.refl m, hs, ?_⟩
          subst hS
          rw [run_append_room' (P := P) ht hi hu hdu base l c 0 X #[] (v3 w) (by simpa using v4 w rfl) hle]
          cases base <;> simp [storeCells]
        have grow : ∀ (base : Option Addr) (l c : Nat) (olds : List AV) (os : List Value), S = .slice base l c → concL ρ olds = some os → os.length = l * i.size → (∀ w' : World, w'.heap = w.heap → (Builtin.firstCells i.size l (.slice base l c)).run P w' = .ok os.toArray w') → c < l + n → fitsB (l + n) i.bytes = true →
            ∃ k w', Stp ρ m w (ρ.add m.next w.heap.size k) (m.new (.cells (olds ++ news) e (some i.size))) w' [] ∧ Lg m (m.new (.cells (olds ++ news) e (some i.size))) [] ∧ conc (ρ.add m.next w.heap.size k) (.slice (some (m.next, 0)) (l + n) (.opn 0)) = some (.slice (some ⟨w.heap.size, 0, none⟩) (l + n) k) ∧
              (Builtin.append_ #[t, u] ty #[S, X]).run P w = .ok (.slice (some ⟨w.heap.size, 0, none⟩) (l + n) k) w' ∧ l + n ≤ k ∧ w'.heap[w.heap.size]? = some (.cells ((os ++ vs) ++ (Builtin.zeroCells zv.cells (k - (l + n))).toList).toArray e (0, 0)) ∧ ((os ++ vs) ++ (Builtin.zeroCells zv.cells (k - (l + n))).toList).length = k * i.size := by
          intro base l c olds os hS ho hol hof hlt hfit
          simp only [fitsB, Bool.and_eq_true, Nat.ble_eq] at hfit
          have hge := grownCap_ge w (l + n) c e
          have hr := run_append_grow' (P := P) (w := w) (ty := ty) ht hi hzv hu hdu base l c n X os.toArray vs.toArray v3 (v4 w.drew rfl) (hof w.drew rfl) hlt (by omega) (growslice_fits hlt hfit.2)
          generalize grownCap w (l + n) c e = k at *
          have hlen : ((os ++ vs) ++ (Builtin.zeroCells zv.cells (k - (l + n))).toList).length = k * i.size := by
            simp only [List.length_append, Array.length_toList, size_zeroCells, hol, v2, hzs]
            rw [← Nat.add_mul, ← Nat.add_mul]; congr 1; omega
          have hd1 := Stp.drawn h (w.drawn + 1)
          have hn := newOpen_ok (h.drawn (w.drawn + 1)) e (0, 0) (k := k) (sz := i.size) (ex := (Builtin.zeroCells zv.cells (k - (l + n))).toList) (concL_append ho v1) hlen (fun o _ => by simp)
          have harr : ((os ++ vs) ++ (Builtin.zeroCells zv.cells (k - (l + n))).toList).toArray = os.toArray ++ vs.toArray ++ Builtin.zeroCells zv.cells (k - (l + n)) := by
            apply Array.ext'; simp
          refine ⟨k, _, hd1.trans hn, Lg.new _ _, by simp [conc, Env.add, Cap.fits, Cap.conc, hge], ?_, hge, heap_alloc_new _ _, hlen⟩
          rw [hS, hr, harr]
          rfl
        split at ha
        · -- a nil slice
          simp only [conc, Option.some.injEq] at hs
          cases hn : Nat.beq n 0 with
          | true => rw [hn, cond_true] at ha; cases ha; rw [Nat.beq_eq] at hn; exact same none 0 0 hs.symm (by omega) hn
          | false =>
            rw [hn, cond_false] at ha
            have hn0 : n ≠ 0 := fun e => by rw [e] at hn; simp [Nat.beq] at hn
            cases hf : fitsB n i.bytes with
            | false => rw [hf, cond_false] at ha; cases ha
            | true =>
              rw [hf, cond_true] at ha
              cases ha
              obtain ⟨k, w', g1, g2, g3, g4, _⟩ := grow none 0 0 [] [] hs.symm rfl (by simp) (fun _ _ => by simp [Builtin.firstCells]) (by omega) (by simpa using hf)
              simp only [Nat.zero_add, List.nil_append] at g1 g2 g3 g4
              exact ⟨_, _, _, _, g1, g2, g3, g4⟩
        · rename_i p l c
          obtain ⟨g, hg, _, hS⟩ := slice_conc hs
          cases hr : Nat.ble (l + n) c with
          | true =>
            rw [hr, cond_true] at ha
            rw [Nat.ble_eq] at hr
            cases hn : Nat.beq n 0 with
            | true => rw [hn, cond_true] at ha; cases ha; rw [Nat.beq_eq] at hn; exact same _ l c hS hr hn
            | false =>
              rw [hn, cond_false] at ha
              split at ha
              · cases ha
              · rename_i m1 hm1
                cases ha
                obtain ⟨w', s1, s2, s3⟩ := putA_ok (P := P) h (p := (p.1, p.2 + l * i.size)) hg v1 hm1
                refine ⟨ρ, w', .slice (some ⟨g, p.2, none⟩) (l + n) c, [p.1], s1, s2, by simp [conc, hg, Cap.fits, Cap.conc], ?_⟩
                subst hS
                simp only [Cap.conc]
                rw [run_append_room' (P := P) ht hi hu hdu _ l c n X vs.toArray (v3 w) (v4 w rfl) hr]
                simp only [Addr.add_lit]
                rw [s3]
                rfl
          | false =>
            rw [hr, cond_false] at ha
            have hr' : c < l + n := by
              rcases Nat.lt_or_ge c (l + n) with h1 | h1
              · exact h1
              · have : Nat.ble (l + n) c = true := by rw [Nat.ble_eq]; exact h1
                rw [this] at hr; cases hr
            cases hf : fitsB (l + n) i.bytes with
            | false => rw [hf, cond_false] at ha; cases ha
            | true =>
              rw [hf, cond_true] at ha
              split at ha
              · cases ha
              · rename_i olds holds
                cases ha
                obtain ⟨os, o1, o2, o3⟩ := cellsAt_ok h hg holds
                obtain ⟨k, w', g1, g2, g3, g4, _⟩ := grow _ l c olds os hS o1 o2 (fun w' hw => run_firstCells_some (P := P) w' i.size l _ l _ os o2 (o3 w' hw)) hr' hf
                exact ⟨_, _, _, _, g1, g2, g3, g4⟩
        · rename_i p l d
          obtain ⟨g, hg, hfit, hS⟩ := slice_conc hs
          simp only [Cap.conc] at hS
          have hfit' : l ≤ ρ.κ p.1 - d := by simpa [Cap.fits] using hfit
          cases hn : Nat.beq n 0 with
          | true => rw [hn, cond_true] at ha; cases ha; rw [Nat.beq_eq] at hn; exact same _ l _ hS (by omega) hn
          | false =>
            rw [hn, cond_false] at ha
            split at ha
            · rename_i c e' sz' hp
              cases hb : (Nat.beq d 0 && Nat.beq p.2 0 && Nat.beq sz' i.size && Nat.beq e' e && Nat.beq c.length (l * i.size) && allOne news && fitsB (l + n) i.bytes) with
              | false => rw [hb, cond_false] at ha; cases ha
              | true =>
                rw [hb, cond_true] at ha
                cases ha
                simp only [Bool.and_eq_true, Nat.beq_eq] at hb
                obtain ⟨⟨⟨⟨⟨⟨b1, b2⟩, b3⟩, b4⟩, b5⟩, b6⟩, b7⟩ := hb
                subst b1 b3 b4
                obtain ⟨g', cs, ex, fr, h0, h1, h2, h3, h4⟩ := h.cells hp
                rw [hg] at h0; cases h0
                have l1 := concL_length h1
                by_cases hroom : l + n ≤ ρ.κ p.1
                · -- in place
                  have hroomL : (cs ++ ex).length = ρ.κ p.1 * i.size := h4
                  have hle : l * i.size + vs.length ≤ (cs ++ ex).length := by
                    rw [hroomL, v2, ← Nat.add_mul]; exact Nat.mul_le_mul_right _ hroom
                  have hst := run_storeCells_upd (P := P) g (l * i.size) e' fr vs 0 (cs ++ ex) w h2 (by simpa using hle) (allOne_ok v1 b6) h3
                  rw [Nat.add_zero] at hst
                  have hov : over (cs ++ ex) (l * i.size) vs = (cs ++ vs) ++ ex.drop vs.length := by
                    have e5 : cs.length = l * i.size := by omega
                    unfold over
                    rw [← e5, List.take_left, List.drop_append]
                    simp
                  rw [hov] at hst
                  have hlen : ((cs ++ vs) ++ ex.drop vs.length).length = ρ.κ p.1 * i.size := by
                    rw [← hroomL, ← hov]; exact over_length hle
                  refine ⟨_, _, .slice (some ⟨g, 0, none⟩) (l + n) (ρ.κ p.1), [p.1], Stp.move h (k := ρ.κ p.1) (b' := .cells (c ++ news) e' (some i.size)) (o := .cells ((cs ++ vs) ++ ex.drop vs.length).toArray e' fr) hp hg ?_, ?_, ?_, ?_⟩
                  · refine ⟨cs ++ vs, ex.drop vs.length, fr, concL_mono (Env.le_add (h.dom m.next (Nat.le_refl _)) _ _) _ _ (concL_append h1 v1), upd_same h2 _, fun o ho => h3 o (by rw [hroomL, ← hlen]; exact ho), ?_⟩
                    simp only [Room, Env.add, if_true]
                    exact hlen
                  · exact (Lg.write m p.1 none).trans (Lg.new _ _)
                  · simp [conc, Env.add, Cap.fits, Cap.conc, hroom]
                  · subst hS
                    rw [run_append_room' (P := P) ht hi hu hdu _ l (ρ.κ p.1 - 0) n X vs.toArray (v3 w) (v4 w rfl) (by omega)]
                    simp only [Addr.add_lit, b2, Nat.zero_add] at hst ⊢
                    rw [hst]
                    rfl
                · have hcl : cellsAt m p (l * i.size) = some c := by
                    unfold cellsAt
                    rw [hp]
                    simp only [b2, Nat.zero_add, List.drop_zero]
                    have : Nat.ble (l * i.size) c.length = true := by rw [Nat.ble_eq]; omega
                    rw [this, cond_true, List.take_of_length_le (by omega)]
                  obtain ⟨os, o1, o2, o3⟩ := cellsAt_ok h hg hcl
                  obtain ⟨k, w', g1, g2, g3, g4, g5, g6, g7⟩ := grow _ l _ c os hS o1 o2 (fun w' hw => run_firstCells_some (P := P) w' i.size l _ l _ os o2 (o3 w' hw)) (by omega) b7
                  refine ⟨_, w', _, [p.1], ?_, (Lg.write m p.1 none).trans (Lg.new _ _), g3, g4⟩
                  have hdr := Stp.drop h p.1
                  refine ⟨g1.le, ⟨fun j bj hj => ?_, fun j q bj bq x hj hq ej eq => ?_, g1.rep.dom, g1.rep.low, fun j bj x hj ej => ?_, g1.rep.ok⟩, g1.os, g1.tape, g1.output, g1.size, fun x hx _ => g1.frame x hx (fun _ hi => by cases hi), fun j x hj => ?_⟩
                  · rw [Mem.get_new] at hj
                    refine g1.rep.blk j bj ?_
                    rw [Mem.get_new]
                    by_cases ej : j = m.next
                    · rw [if_pos (show j = (m.write p.1 none).next from ej)] at hj; rw [if_pos ej]; exact hj
                    · rw [if_neg (show ¬ j = (m.write p.1 none).next from ej), Mem.get_write] at hj
                      rw [if_neg ej]
                      split at hj
                      · cases hj
                      · exact hj
                  · have lift : ∀ a ba, ((m.write p.1 none).new (.cells (c ++ news) e' (some i.size))).get a = some ba → (m.new (.cells (c ++ news) e' (some i.size))).get a = some ba := fun a ba ha => by
                      rw [Mem.get_new] at ha ⊢
                      by_cases ej : a = m.next
                      · rw [if_pos (show a = (m.write p.1 none).next from ej)] at ha; rw [if_pos ej]; exact ha
                      · rw [if_neg (show ¬ a = (m.write p.1 none).next from ej), Mem.get_write] at ha
                        rw [if_neg ej]
                        split at ha
                        · cases ha
                        · exact ha
                    exact g1.rep.inj j q bj bq x (lift j bj hj) (lift q bq hq) ej eq
                  · refine g1.rep.sep j bj x ?_ ej
                    rw [Mem.get_new] at hj ⊢
                    by_cases ej : j = m.next
                    · rw [if_pos (show j = (m.write p.1 none).next from ej)] at hj; rw [if_pos ej]; exact hj
                    · rw [if_neg (show ¬ j = (m.write p.1 none).next from ej), Mem.get_write] at hj
                      rw [if_neg ej]
                      split at hj
                      · cases hj
                      · exact hj
                  · rcases g1.fresh j x hj with h1 | h1 | ⟨_, h1, _⟩
                    · exact .inl h1
                    · exact .inr (.inl h1)
                    · cases h1
            · cases ha
        · rename_i p q d
          cases hn : Nat.beq n 0 with
          | true =>
            rw [hn, cond_true] at ha; cases ha; rw [Nat.beq_eq] at hn
            have hs' := hs
            simp only [conc, Option.map_eq_some_iff] at hs'
            obtain ⟨g, hg, hS⟩ := hs'
            exact same _ 0 _ hS.symm (by omega) hn
          | false => rw [hn, cond_false] at ha; cases ha
        · cases ha
    · cases ha
  · cases ha
theorem copyA_ok (h : Rep ρ m w) {t ty : TypeId} {ts : List TypeId} {d x r : AV} {D X : Value} {m' : Mem} (hd : conc ρ d = some D) (hx : conc ρ x = some X) (hc : copyA P m t d x = some (r, m')) :
    ∃ ρ' w' z L, Stp ρ m w ρ' m' w' L ∧ Lg m m' L ∧ conc ρ' r = some z ∧ (Builtin.copy_ (t :: ts).toArray ty #[D, X]).run P w = .ok z w' := by
  unfold copyA at hc
  split at hc
  · rename_i e hu
    split at hc
    · cases hc
    · rename_i sz hsz
      split at hc
      · rename_i p l _
        obtain ⟨g, hg, _, rfl⟩ := slice_conc hd
        split at hc
        · rename_i q n _
          obtain ⟨g2, hg2, _, rfl⟩ := slice_conc hx
          split at hc
          · cases hc
          · rename_i vs hvs
            split at hc
            · cases hc
            · rename_i m1 hm1
              cases hc
              obtain ⟨xs, x1, x2, x3⟩ := cellsAt_ok h hg2 hvs
              obtain ⟨w', s1, s2, s3⟩ := putA_ok (P := P) h hg x1 hm1
              refine ⟨ρ, w', .int .i64 (min n l : Nat), [p.1], s1, s2, rfl, ?_⟩
              have hf := fun c => run_firstCells_some (P := P) w sz (min n l) ⟨g2, q.2, none⟩ n c xs x2 (x3 w rfl)
              simp only [Builtin.copy_, Sem.run_bind, List.getElem?_toArray, List.getElem?_cons_zero, List.getElem?_cons_succ, run_underlying hu, Result.andThen_ok, Builtin.lenOf, Sem.run_pure, sizeT_ok hsz]
              rw [show Nat.min n l = min n l from rfl, hf]
              simp only [Result.andThen_ok, s3]
              rfl
        · cases hc
      · cases hc
  · cases hc
theorem concE_append : ∀ {l l' : List (AV × AV × Nat)} {vs vs' : List MapEntry}, concE ρ l = some vs → concE ρ l' = some vs' → concE ρ (l ++ l') = some (vs ++ vs')
  | [], _, vs, _, h, k => by simp [concE] at h; subst h; simpa using k
  | (a, b, n) :: l, l', vs, vs', h, k => by
    simp only [concE, Option.bind_eq_some_iff, Option.map_eq_some_iff] at h
    obtain ⟨x, hx, y, hy, z, hz, rfl⟩ := h
    simp [concE, hx, hy, concE_append hz k]
theorem setE_ok : ∀ {l : List (AV × AV × Nat)} {vs : List MapEntry} {i : Nat} {k v : AV} {K V : Value}, concE ρ l = some vs → conc ρ k = some K → conc ρ v = some V → concE ρ (setE l i k v) = some (vs.modify i fun e => { e with key := K, val := V })
  | [], vs, i, k, v, K, V, h, _, _ => by simp [concE] at h; subst h; simp [setE, concE]
  | (a, b, n) :: l, vs, 0, k, v, K, V, h, hk, hv => by
    simp only [concE, Option.bind_eq_some_iff, Option.map_eq_some_iff] at h
    obtain ⟨x, hx, y, hy, z, hz, rfl⟩ := h
    simp [setE, concE, hk, hv, hz]
  | (a, b, n) :: l, vs, i + 1, k, v, K, V, h, hk, hv => by
    simp only [concE, Option.bind_eq_some_iff, Option.map_eq_some_iff] at h
    obtain ⟨x, hx, y, hy, z, hz, rfl⟩ := h
    simp [setE, concE, hx, hy, setE_ok hz hk hv]
theorem sameBits_plain {kt : TypeId} {k : AV} {K : Value} (hp : plainKey P kt k = true) (hk : conc ρ k = some K) : Instr.sameBits 10000 K K = true := by
  unfold plainKey at hp
  split at hp
  · simp only [conc, Option.some.injEq] at hk; subst hk; simp [Instr.sameBits]
  · simp only [conc, Option.some.injEq] at hk; subst hk
    simp only [Instr.sameBits]
    rw [beq_toListBytes]
    exact beq_self_eq_true _
  · cases hp
theorem run_setObj_map {g : Nat} {o o' : Obj} (h : w.heap[g]? = some o') (hm : ∃ es cl, o' = .map es cl) : (setObj g o).run P w = .ok () (upd w g o) := by
  obtain ⟨es, cl, rfl⟩ := hm
  show (match w.heap[g]? with | some (.cells ..) => _ | some _ => _ | none => _) = _
  rw [h]
  rfl
theorem mapPutA_ok (h : Rep ρ m w) {t : TypeId} {x k v : AV} {X K V : Value} {m' : Mem} (hx : conc ρ x = some X) (hk : conc ρ k = some K) (hv : conc ρ v = some V) (hp : mapPutA P m t x k v = some m') :
    ∃ w' i, Stp ρ m w ρ m' w' [i] ∧ Lg m m' [i] ∧ (Instr.mapUpdate t X K V).run P w = .ok () w' := by
  unfold mapPutA at hp
  split at hp
  · rename_i kt et j hu
    simp only [conc, Option.map_eq_some_iff] at hx
    obtain ⟨g, hg, rfl⟩ := hx
    cases hpk : plainKey P kt k with
    | false => rw [hpk, cond_false] at hp; cases hp
    | true =>
      rw [hpk, cond_true] at hp
      obtain ⟨d, hd⟩ := plainKey_desc hpk
      split at hp
      · rename_i es cl hes
        obtain ⟨g', ves, h1, h2, h3⟩ := h.mp hes
        rw [hg] at h1; cases h1
        have hgo : (getObj g).run P w = .ok (.map ves.toArray cl) w := run_getObj_of h3
        have hck := checkKey_ok (P := P) (w := w) hpk hk false
        split at hp
        · cases hp
        · rename_i hf
          cases hp
          have hfn : Instr.findNow d K ves 0 = some none := findA_ok hd hpk hk h2 hf
          have hset := run_setObj_map (P := P) (o := .map (ves.toArray.push { key := K, val := V, born := cl }) (cl + 1)) h3 ⟨_, _, rfl⟩
          refine ⟨upd w g (.map (ves.toArray.push { key := K, val := V, born := cl }) (cl + 1)), j, Stp.write h hes hg ⟨ves ++ [⟨K, V, cl⟩], concE_append h2 (by simp [concE, hk, hv]), ?_⟩, Lg.write _ _ _, ?_⟩
          · rw [upd_same h3]; congr 2; apply Array.ext'; simp
          · simp only [Instr.mapUpdate, Sem.run_bind, run_underlying hu, Result.andThen_ok, hgo, hck, Instr.findKey, run_underlying hd, hfn, Sem.run_pure]
            exact hset
        · rename_i r hf
          cases hp
          obtain ⟨U, u1, u2, _, e, u4, u5, _⟩ := findA_ok hd hpk hk h2 hf
          have hset := run_setObj_map (P := P) (o := .map (ves.toArray.modify r.1 fun e => { e with key := K, val := V }) cl) h3 ⟨_, _, rfl⟩
          refine ⟨upd w g (.map (ves.toArray.modify r.1 fun e => { e with key := K, val := V }) cl), j, Stp.write h hes hg ⟨_, setE_ok h2 hk hv, ?_⟩, Lg.write _ _ _, ?_⟩
          · rw [upd_same h3]; congr 2; apply Array.ext'; simp
          · have hold : ((ves.toArray[r.1]?).map (·.key)).getD K = K := by
              have : ves[r.1]? = some e := by simpa using u4
              simp [this, u5]
            simp only [Instr.mapUpdate, Sem.run_bind, run_underlying hu, Result.andThen_ok, hgo, hck, Instr.findKey, run_underlying hd, u2, Sem.run_pure, hold, Instr.keyThatStays, sameBits_plain hpk hk, if_true]
            exact hset
      · cases hp
  · cases hp
/-- WHAT 'eop' TELLS THE MODEL DOES. -/
theorem eop_ok (h : Rep ρ m w) {f : Operand → Option AV} {ev : Operand → Value} {o : Oper} {r : AV} {m' : Mem} (hf : ∀ x ∈ o.op.operands, ∀ u, f x = some u → conc ρ u = some (ev x)) (he : eop P m o.op f = some (r, m')) :
    Did P ev o ρ m w r m' := by
  obtain ⟨dst, op, ty, pos, aft, gd⟩ := o
  simp only at hf he
  have val : ∀ {s : Sem Value}, (∃ ρ' w' z L, Stp ρ m w ρ' m' w' L ∧ Lg m m' L ∧ conc ρ' r = some z ∧ s.run P w = .ok z w') → execOp ev ⟨dst, op, ty, pos, aft, gd⟩ = (do pure (.value (← s))) → Did P ev ⟨dst, op, ty, pos, aft, gd⟩ ρ m w r m' := by
    rintro s ⟨ρ', w', z, L, h1, h2, h3, h4⟩ e
    exact ⟨ρ', w', z, L, h1, h2, h3, .inl (by rw [e]; simp [h4])⟩
  unfold eop at he
  split at he
  · obtain ⟨ρ', w', z, h1, h2, h3, h4⟩ := allocA_ok h he
    exact val ⟨ρ', w', z, [], h1, h2, h3, h4⟩ rfl
  · rename_i t x
    split at he
    · rename_i v hv
      cases he
      obtain ⟨ρ', w', z, h1, h2, h3, h4⟩ := box_ok (P := P) h (t := t) (hf x (by simp [Op.operands]) _ hv)
      exact val ⟨ρ', w', z, [], h1, h2, h3, h4⟩ rfl
    · cases he
  · rename_i t len ps
    split at he
    · rename_i q hq
      obtain ⟨h1, h2⟩ := partsO_ok (ρ := ρ) (ev := ev) (fun x hx => hf x (by simpa [Op.operands] using hx)) hq
      obtain ⟨ρ', w', z, k1, k2, k3, k4⟩ := buildSliceA_ok (P := P) h h1 h2 he
      refine val ⟨ρ', w', z, [], k1, k2, k3, k4⟩ ?_
      have : (ps.map fun (i, x) => (i, ev x)) = (ps.toList.map fun p => (p.1, ev p.2)).toArray := map_toList _ _
      simp only [execOp, this]
    · cases he
  · rename_i t a x
    split at he
    · rename_i a' x' ha hx
      split at he
      · rename_i m1 hm1
        cases he
        obtain ⟨w', i, k1, k2, k3⟩ := storeA_ok (P := P) h (hf a (by simp [Op.operands]) _ ha) (hf x (by simp [Op.operands]) _ hx) hm1
        exact ⟨ρ, w', undef, [i], k1, k2, rfl, .inr ⟨by simp [execOp, k3], rfl⟩⟩
      · cases he
    · cases he
  · rename_i t l c
    split at he
    · rename_i l' c' hl hc
      obtain ⟨ρ', w', z, k1, k2, k3, k4⟩ := makeSliceA_ok (P := P) h (hf l (by simp [Op.operands]) _ hl) (hf c (by simp [Op.operands]) _ hc) he
      exact val ⟨ρ', w', z, [], k1, k2, k3, k4⟩ rfl
    · cases he
  · cases he
    refine val ⟨_, _, .map (some w.heap.size), [], Stp.alloc h (.mp [] 0) (.map #[] 0) 0 ⟨[], rfl, heap_alloc_new w _⟩, Lg.new _ _, by simp [conc, Env.add], ?_⟩ rfl
    simp [Instr.makeMap]
  · rename_i t x k v
    split at he
    · rename_i x' k' v' hx hk hv
      split at he
      · rename_i m1 hm1
        cases he
        obtain ⟨w', i, k1, k2, k3⟩ := mapPutA_ok (P := P) h (hf x (by simp [Op.operands]) _ hx) (hf k (by simp [Op.operands]) _ hk) (hf v (by simp [Op.operands]) _ hv) hm1
        exact ⟨ρ, w', undef, [i], k1, k2, rfl, .inr ⟨by simp [execOp, k3], rfl⟩⟩
      · cases he
    · cases he
  · rename_i t x k v
    split at he
    · rename_i x' k' v' hx hk hv
      split at he
      · rename_i m1 hm1
        cases he
        obtain ⟨w', i, k1, k2, k3⟩ := mapPutA_ok (P := P) h (hf x (by simp [Op.operands]) _ hx) (hf k (by simp [Op.operands]) _ hk) (hf v (by simp [Op.operands]) _ hv) hm1
        exact ⟨ρ, w', undef, [i], k1, k2, rfl, .inr ⟨by simp [execOp, k3], rfl⟩⟩
      · cases he
    · cases he
  · rename_i s d x
    split at he
    · rename_i v hv
      obtain ⟨ρ', w', z, k1, k2, k3, k4⟩ := strBytesA_ok (P := P) h (hf x (by simp [Op.operands]) _ hv) he
      exact val ⟨ρ', w', z, [], k1, k2, k3, k4⟩ rfl
    · cases he
  · rename_i c
    have hargs : ∀ l, listO f c.args.toList = some l → concL ρ l = some (c.args.map ev).toList := fun l hl => by
      have := listO_ok (ρ := ρ) (ev := ev) (fun x hx => hf x (Array.mem_append.2 (.inr (Array.mem_toList_iff.1 hx)))) hl
      rw [this]; simp
    split at he
    · rename_i hcb
      split at he
      · rename_i t u s x hts hl
        have h1 := hargs _ hl
        obtain ⟨S, y, k1, k2, e1⟩ := concL_cons h1
        obtain ⟨X, y', k3, k4, e2⟩ := concL_cons k2
        simp only [concL, Option.some.injEq] at k4
        subst k4 e2
        obtain ⟨ρ', w', z, L, q1, q2, q3, q4⟩ := appendA_ok (P := P) (ty := ty) h k1 k3 he
        refine val ⟨ρ', w', z, L, q1, q2, q3, q4⟩ ?_
        have ea : c.args.map ev = #[S, X] := Array.ext' (by simpa using e1)
        have et : c.argTypes = #[t, u] := Array.ext' (by simpa using hts)
        simp only [execOp, resolve, hcb, ea, et, pure_bind, invoke, builtin]
      · cases he
    · rename_i hcb
      split at he
      · rename_i t ts s x hts hl
        have h1 := hargs _ hl
        obtain ⟨S, y, k1, k2, e1⟩ := concL_cons h1
        obtain ⟨X, y', k3, k4, e2⟩ := concL_cons k2
        simp only [concL, Option.some.injEq] at k4
        subst k4 e2
        obtain ⟨ρ', w', z, L, q1, q2, q3, q4⟩ := copyA_ok (P := P) (ty := ty) (ts := ts) h k1 k3 he
        refine val ⟨ρ', w', z, L, q1, q2, q3, q4⟩ ?_
        have ea : c.args.map ev = #[S, X] := Array.ext' (by simpa using e1)
        have et : c.argTypes = (t :: ts).toArray := Array.ext' (by simpa using hts)
        simp only [execOp, resolve, hcb, ea, et, pure_bind, invoke, builtin]
      · cases he
    · cases he
  · cases he
end
end
end Ev
end Go.Proofs.YtddedijencleeaaGreatDoor
