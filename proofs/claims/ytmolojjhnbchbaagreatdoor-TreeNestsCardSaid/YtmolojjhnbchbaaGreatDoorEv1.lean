/- An evaluator of the language on abstract values and an abstract memory (no program in sight), part 1: values, memory, how they stand for the model's. No condition. -/
import Derived.Test.YtmolojjhnbchbaaGreatDoorTr
import Derived.Calls
import Derived.Orders
import Derived.LoopN
import Derived.Laws.Sem
import Derived.Laws.World
import Derived.Laws.Rows
import Derived.Below
set_option linter.all false
namespace Go.Proofs.YtmolojjhnbchbaaGreatDoor
open Go.RowKit

namespace Ev
noncomputable section

/-- The room of a slice: known, or what the block has behind so many of its elements. -/
inductive Cap where
  | known (c : Nat)
  | opn (d : Nat)
  deriving Inhabited, DecidableEq

inductive AV where
  | bool (b : Bool)
  | int (k : IntKind) (n : Int)
  | str (s : List UInt8)
  | ptr (p : Option (Nat × Nat))
  | slice (p : Option (Nat × Nat)) (len : Nat) (cap : Cap)
  | slice0 (p : Nat × Nat) (q d : Nat)
  | map (r : Option Nat)
  | func (fn : Fn) (first captured : List AV)
  | nilFunc
  | iface (t : TypeId) (v : AV)
  | nilIface
  | agg (l : List AV)
  | tuple (l : List AV)
  | sym (k : IntKind) (i : Nat) (todo : List (BinOp × Int)) (res : Int)
  deriving Inhabited

/-- Where the abstract blocks lie; how much room an open one has (in elements). -/
structure Env where
  σ : Nat → Option Nat
  κ : Nat → Nat
  y : Nat → Int

/-- One step of reckoning with a number that is not told. -/
def symStep (k : IntKind) (o : BinOp) (a c : Int) : Option Int := match o with
  | .add => some (k.wrap (a + c))
  | .rem => if c = 0 then none else some (a.tmod c)
  | _ => none
/-- A number that is not told, of which is known what some steps make of it. -/
def symOK (k : IntKind) (y : Nat → Int) : Nat → List (BinOp × Int) → Int → Bool
  | i, [], res => decide (y i = res)
  | i, (.and, _) :: _, res => decide (0 ≤ y i) && decide (y i ≤ res)
  | i, (o, c) :: l, res => decide (symStep k o (y i) c = some (y (Nat.succ i))) && symOK k y (Nat.succ i) l res
/-- Its value. A step '.and' says that it is from 0 to 'res'; a step '.lss', that it is the truth whether the number is greater than one. -/
def symV (k : IntKind) (y : Nat → Int) (i : Nat) (l : List (BinOp × Int)) (res : Int) : Option Value := match l with
  | (.lss, a) :: _ => some (.bool (decide (a < y i)))
  | l => if symOK k y i l res = true then some (.int k (y i)) else none
theorem symV_kind {k : IntKind} {y : Nat → Int} {i : Nat} {l : List (BinOp × Int)} {res : Int} {v : Value} (h : symV k y i l res = some v) : (∃ n, v = .int k n) ∨ ∃ b, v = .bool b := by
  unfold symV at h
  split at h
  · cases h; exact .inr ⟨_, rfl⟩
  · split at h
    · cases h; exact .inl ⟨_, rfl⟩
    · cases h

def Cap.conc (c : Cap) (k : Nat) : Nat := match c with | .known c => c | .opn d => k - d
def Cap.fits (c : Cap) (k l : Nat) : Bool := match c with | .known _ => true | .opn d => decide (l ≤ k - d)

mutual
def conc (ρ : Env) : AV → Option Value
  | .bool b => some (.bool b)
  | .int k n => some (.int k n)
  | .str s => some (.string ⟨s.toArray⟩)
  | .ptr none => some (.pointer none)
  | .ptr (some p) => (ρ.σ p.1).map fun b => .pointer (some ⟨b, p.2, none⟩)
  | .slice none l c => match c with | .known c => some (.slice none l c) | .opn _ => none
  | .slice (some p) l c => (ρ.σ p.1).bind fun b => if c.fits (ρ.κ p.1) l = true then some (.slice (some ⟨b, p.2, none⟩) l (c.conc (ρ.κ p.1))) else none
  | .slice0 p q d => (ρ.σ p.1).map fun b => .slice (some ⟨b, if ρ.κ p.1 - d = 0 then p.2 else q, none⟩) 0 (ρ.κ p.1 - d)
  | .map none => some (.map none)
  | .map (some i) => (ρ.σ i).map fun b => .map (some b)
  | .func fn f c => (concL ρ f).bind fun f => (concL ρ c).map fun c => .func fn f.toArray c.toArray
  | .nilFunc => some .nilFunc
  | .iface t v => (conc ρ v).map (.iface t)
  | .nilIface => some .nilIface
  | .agg l => (concL ρ l).map fun l => .agg l.toArray
  | .tuple l => (concL ρ l).map fun l => .tuple l.toArray
  | .sym k i todo res => symV k ρ.y i todo res
def concL (ρ : Env) : List AV → Option (List Value)
  | [] => some []
  | v :: l => (conc ρ v).bind fun x => (concL ρ l).map (x :: ·)
end

/-- More blocks are known. -/
structure Env.le (ρ ρ' : Env) : Prop where
  σ : ∀ i b, ρ.σ i = some b → ρ'.σ i = some b
  κ : ∀ i b, ρ.σ i = some b → ρ'.κ i = ρ.κ i
  y : ρ'.y = ρ.y
theorem Env.le.refl (ρ : Env) : ρ.le ρ := ⟨fun _ _ h => h, fun _ _ _ => rfl, rfl⟩
theorem Env.le.trans {a b c : Env} (h : a.le b) (k : b.le c) : a.le c := ⟨fun i x hx => k.σ i x (h.σ i x hx), fun i x hx => (k.κ i x (h.σ i x hx)).trans (h.κ i x hx), k.y.trans h.y⟩

mutual
theorem conc_mono {ρ ρ' : Env} (h : ρ.le ρ') : ∀ (a : AV) (v : Value), conc ρ a = some v → conc ρ' a = some v
  | .bool _, _, e => e
  | .int _ _, _, e => e
  | .str _, _, e => e
  | .ptr none, _, e => e
  | .ptr (some p), v, e => by
    simp only [conc, Option.map_eq_some_iff] at e ⊢
    obtain ⟨b, hb, rfl⟩ := e
    exact ⟨b, h.σ _ _ hb, rfl⟩
  | .slice none _ c, _, e => by cases c <;> simpa [conc] using e
  | .slice (some p) l c, v, e => by
    simp only [conc, Option.bind_eq_some_iff] at e ⊢
    obtain ⟨b, hb, e⟩ := e
    exact ⟨b, h.σ _ _ hb, by rw [h.κ _ _ hb]; exact e⟩
  | .slice0 p q d, v, e => by
    simp only [conc, Option.map_eq_some_iff] at e ⊢
    obtain ⟨b, hb, rfl⟩ := e
    exact ⟨b, h.σ _ _ hb, by rw [h.κ _ _ hb]⟩
  | .map none, _, e => e
  | .map (some i), v, e => by
    simp only [conc, Option.map_eq_some_iff] at e ⊢
    obtain ⟨b, hb, rfl⟩ := e
    exact ⟨b, h.σ _ _ hb, rfl⟩
  | .func fn f c, v, e => by
    simp only [conc, Option.bind_eq_some_iff, Option.map_eq_some_iff] at e ⊢
    obtain ⟨x, hx, y, hy, rfl⟩ := e
    exact ⟨x, concL_mono h f x hx, y, concL_mono h c y hy, rfl⟩
  | .nilFunc, _, e => e
  | .iface t a, v, e => by
    simp only [conc, Option.map_eq_some_iff] at e ⊢
    obtain ⟨x, hx, rfl⟩ := e
    exact ⟨x, conc_mono h a x hx, rfl⟩
  | .nilIface, _, e => e
  | .agg l, v, e => by
    simp only [conc, Option.map_eq_some_iff] at e ⊢
    obtain ⟨x, hx, rfl⟩ := e
    exact ⟨x, concL_mono h l x hx, rfl⟩
  | .tuple l, v, e => by
    simp only [conc, Option.map_eq_some_iff] at e ⊢
    obtain ⟨x, hx, rfl⟩ := e
    exact ⟨x, concL_mono h l x hx, rfl⟩
  | .sym k i todo res, v, e => by simp only [conc] at e ⊢; rw [h.y]; exact e
theorem concL_mono {ρ ρ' : Env} (h : ρ.le ρ') : ∀ (l : List AV) (vs : List Value), concL ρ l = some vs → concL ρ' l = some vs
  | [], _, e => e
  | a :: l, vs, e => by
    simp only [concL, Option.bind_eq_some_iff, Option.map_eq_some_iff] at e ⊢
    obtain ⟨x, hx, y, hy, rfl⟩ := e
    exact ⟨x, conc_mono h a x hx, y, concL_mono h l y hy, rfl⟩
end

section
variable {ρ : Env}
theorem concL_cons {a : AV} {l : List AV} {vs : List Value} (h : concL ρ (a :: l) = some vs) : ∃ x y, conc ρ a = some x ∧ concL ρ l = some y ∧ vs = x :: y := by
  simp only [concL, Option.bind_eq_some_iff, Option.map_eq_some_iff] at h
  obtain ⟨x, hx, y, hy, rfl⟩ := h
  exact ⟨x, y, hx, hy, rfl⟩
theorem concL_cons_mk {a : AV} {l : List AV} {x : Value} {y : List Value} (h : conc ρ a = some x) (k : concL ρ l = some y) : concL ρ (a :: l) = some (x :: y) := by simp [concL, h, k]
theorem concL_length : ∀ {l : List AV} {vs : List Value}, concL ρ l = some vs → vs.length = l.length
  | [], vs, h => by simp [concL] at h; subst h; rfl
  | a :: l, vs, h => by
    obtain ⟨x, y, _, hy, rfl⟩ := concL_cons h
    simp [concL_length hy]
theorem concL_get : ∀ {l : List AV} {vs : List Value} {i : Nat} {a : AV}, concL ρ l = some vs → l[i]? = some a → ∃ v, vs[i]? = some v ∧ conc ρ a = some v
  | [], _, i, a, _, hi => by simp at hi
  | b :: l, vs, i, a, h, hi => by
    obtain ⟨x, y, hx, hy, rfl⟩ := concL_cons h
    cases i with
    | zero => simp at hi; subst hi; exact ⟨x, rfl, hx⟩
    | succ i => simp at hi ⊢; exact concL_get hy hi
theorem concL_append : ∀ {l l' : List AV} {vs vs' : List Value}, concL ρ l = some vs → concL ρ l' = some vs' → concL ρ (l ++ l') = some (vs ++ vs')
  | [], _, vs, _, h, k => by simp [concL] at h; subst h; simpa using k
  | a :: l, l', vs, vs', h, k => by
    obtain ⟨x, y, hx, hy, rfl⟩ := concL_cons h
    exact concL_cons_mk hx (concL_append hy k)
theorem concL_take : ∀ {l : List AV} {vs : List Value} (n : Nat), concL ρ l = some vs → concL ρ (l.take n) = some (vs.take n)
  | [], vs, n, h => by simp [concL] at h; subst h; simp [concL]
  | a :: l, vs, 0, h => by simp [concL]
  | a :: l, vs, n + 1, h => by
    obtain ⟨x, y, hx, hy, rfl⟩ := concL_cons h
    exact concL_cons_mk hx (concL_take n hy)
theorem concL_drop : ∀ {l : List AV} {vs : List Value} (n : Nat), concL ρ l = some vs → concL ρ (l.drop n) = some (vs.drop n)
  | [], vs, n, h => by simp [concL] at h; subst h; simp [concL]
  | a :: l, vs, 0, h => by simpa using h
  | a :: l, vs, n + 1, h => by
    obtain ⟨x, y, hx, hy, rfl⟩ := concL_cons h
    exact concL_drop n hy
theorem concL_set : ∀ {l : List AV} {vs : List Value} (n : Nat) {a : AV} {x : Value}, concL ρ l = some vs → conc ρ a = some x → concL ρ (l.set n a) = some (vs.set n x)
  | [], vs, n, _, _, h, _ => by simp [concL] at h; subst h; simp [concL]
  | b :: l, vs, 0, a, x, h, ha => by
    obtain ⟨_, y, _, hy, rfl⟩ := concL_cons h
    exact concL_cons_mk ha hy
  | b :: l, vs, n + 1, a, x, h, ha => by
    obtain ⟨z, y, hz, hy, rfl⟩ := concL_cons h
    exact concL_cons_mk hz (concL_set n hy ha)
theorem concL_replicate (n : Nat) {a : AV} {x : Value} (h : conc ρ a = some x) : concL ρ (List.replicate n a) = some (List.replicate n x) := by
  induction n with
  | zero => simp [concL]
  | succ n ih => exact concL_cons_mk h ih
end

/-- A block. 'op': behind its cells it may have room, in elements of so many cells. -/
inductive Blk where
  | cells (c : List AV) (elem : TypeId) (op : Option Nat)
  | mp (es : List (AV × AV × Nat)) (clock : Nat)

structure Mem where
  next : Nat
  t : Tr Blk
  log : List Nat
def Mem.get (m : Mem) (i : Nat) : Option Blk := m.t.get i
def Mem.new (m : Mem) (b : Blk) : Mem := ⟨Nat.succ m.next, m.t.put m.next (some b), m.log⟩
def Mem.write (m : Mem) (i : Nat) (b : Option Blk) : Mem := ⟨m.next, m.t.put i b, i :: m.log⟩
def Mem.empty : Mem := ⟨0, .nil, []⟩
theorem Mem.get_new (m : Mem) (b : Blk) (i : Nat) : (m.new b).get i = if i = m.next then some b else m.get i := Tr.get_put _ _ _ _
theorem Mem.get_write (m : Mem) (j : Nat) (b : Option Blk) (i : Nat) : (m.write j b).get i = if i = j then b else m.get i := Tr.get_put _ _ _ _
theorem Mem.get_empty (i : Nat) : Mem.empty.get i = none := Tr.get_nil i

/-- Entries of a map. -/
def concE (ρ : Env) : List (AV × AV × Nat) → Option (List MapEntry)
  | [] => some []
  | (k, v, b) :: l => (conc ρ k).bind fun k => (conc ρ v).bind fun v => (concE ρ l).map (⟨k, v, b⟩ :: ·)
theorem concE_mono {ρ ρ' : Env} (h : ρ.le ρ') : ∀ (l : List (AV × AV × Nat)) (vs : List MapEntry), concE ρ l = some vs → concE ρ' l = some vs
  | [], _, e => e
  | (a, b, n) :: l, vs, e => by
    simp only [concE, Option.bind_eq_some_iff, Option.map_eq_some_iff] at e ⊢
    obtain ⟨x, hx, y, hy, z, hz, rfl⟩ := e
    exact ⟨x, conc_mono h a x hx, y, conc_mono h b y hy, z, concE_mono h l z hz, rfl⟩

/-- What a block has behind its cells: nothing, or as many cells as its elements have in all. -/
def Room (ρ : Env) (i : Nat) (op : Option Nat) (extra : List Value) (n : Nat) : Prop := match op with | none => extra = [] | some sz => n = ρ.κ i * sz
/-- Block g of the world is what the abstract one says. -/
def BlkOK (ρ : Env) (i : Nat) (b : Blk) (w : World) (g : Nat) : Prop :=
  match b with
  | .cells c e op => ∃ vs extra fr, concL ρ c = some vs ∧ w.heap[g]? = some (.cells (vs ++ extra).toArray e fr) ∧ (∀ o, o < (vs ++ extra).length → ¬ (fr.1 ≤ o ∧ o < fr.2)) ∧ Room ρ i op extra (vs ++ extra).length
  | .mp es clock => ∃ ves, concE ρ es = some ves ∧ w.heap[g]? = some (.map ves.toArray clock)
theorem BlkOK.lt {ρ : Env} {i : Nat} {b : Blk} {w : World} {g : Nat} (h : BlkOK ρ i b w g) : g < w.heap.size := by
  cases b with
  | cells c e op => obtain ⟨vs, ex, fr, _, h, _⟩ := h; exact (Array.getElem?_eq_some_iff.1 h).1
  | mp es cl => obtain ⟨ves, _, h⟩ := h; exact (Array.getElem?_eq_some_iff.1 h).1
theorem BlkOK.mono {ρ ρ' : Env} {i : Nat} {b : Blk} {w w' : World} {g : Nat} (h : BlkOK ρ i b w g) (hρ : ρ.le ρ') (hi : ρ.σ i = some g) (hw : w'.heap[g]? = w.heap[g]?) : BlkOK ρ' i b w' g := by
  cases b with
  | cells c e op =>
    obtain ⟨vs, ex, fr, h1, h2, h3, h4⟩ := h
    refine ⟨vs, ex, fr, concL_mono hρ _ _ h1, hw.trans h2, h3, ?_⟩
    cases op with
    | none => exact h4
    | some sz => simp only [Room] at h4 ⊢; rw [hρ.κ i g hi]; exact h4
  | mp es cl => obtain ⟨ves, h1, h2⟩ := h; exact ⟨ves, concE_mono hρ _ _ h1, hw.trans h2⟩

/-- The abstract memory stands for the world's blocks. -/
structure Rep (ρ : Env) (m : Mem) (w : World) : Prop where
  blk : ∀ i b, m.get i = some b → ∃ g, ρ.σ i = some g ∧ BlkOK ρ i b w g
  inj : ∀ i j bi bj g, m.get i = some bi → m.get j = some bj → ρ.σ i = some g → ρ.σ j = some g → i = j
  dom : ∀ i, m.next ≤ i → ρ.σ i = none
  low : ∀ i g, ρ.σ i = some g → g < w.heap.size
  sep : ∀ i b g, m.get i = some b → ρ.σ i = some g → ¬ base.keep g
  ok : base.ok w

theorem Rep.empty {w : World} (y : Nat → Int) (hw : base.ok w) : Rep ⟨fun _ => none, fun _ => 0, y⟩ Mem.empty w :=
  ⟨fun i b h => (by rw [Mem.get_empty] at h; cases h), fun i j bi bj g h => (by rw [Mem.get_empty] at h; cases h), fun _ _ => rfl, fun _ _ h => (by cases h), fun i b g h => (by rw [Mem.get_empty] at h; cases h), hw⟩
theorem Rep.lt {ρ : Env} {m : Mem} {w : World} (h : Rep ρ m w) {i : Nat} {b : Blk} (hi : m.get i = some b) : i < m.next := by
  obtain ⟨g, hg, _⟩ := h.blk i b hi
  rcases Nat.lt_or_ge i m.next with h1 | h1
  · exact h1
  · rw [h.dom i h1] at hg; cases hg
theorem Rep.lt_of_σ {ρ : Env} {m : Mem} {w : World} (h : Rep ρ m w) {i g : Nat} (hi : ρ.σ i = some g) : i < m.next := by
  rcases Nat.lt_or_ge i m.next with h1 | h1
  · exact h1
  · rw [h.dom i h1] at hi; cases hi

/-- One way from a world to a later one: what is known stays known; blocks but those of the list 'L' (and those that are new) are as they were. -/
structure Stp (ρ : Env) (m : Mem) (w : World) (ρ' : Env) (m' : Mem) (w' : World) (L : List Nat) : Prop where
  le : ρ.le ρ'
  rep : Rep ρ' m' w'
  os : w'.os = w.os
  tape : w'.tape = w.tape
  output : w'.output = w.output
  size : w.heap.size ≤ w'.heap.size
  frame : ∀ g, g < w.heap.size → (∀ i ∈ L, ρ.σ i ≠ some g) → w'.heap[g]? = w.heap[g]?
  fresh : ∀ i g, ρ'.σ i = some g → ρ.σ i = some g ∨ w.heap.size ≤ g ∨ ∃ j ∈ L, ρ.σ j = some g

/-- What the log says of the memory itself. -/
structure Lg (m m' : Mem) (L : List Nat) : Prop where
  next : m.next ≤ m'.next
  log : m'.log = L ++ m.log
  get : ∀ i, i < m.next → i ∉ L → m'.get i = m.get i
theorem Lg.refl (m : Mem) : Lg m m [] := ⟨Nat.le_refl _, rfl, fun _ _ _ => rfl⟩
theorem Lg.trans {a b c : Mem} {L L' : List Nat} (h : Lg a b L) (k : Lg b c L') : Lg a c (L' ++ L) :=
  ⟨Nat.le_trans h.next k.next, by rw [k.log, h.log, List.append_assoc], fun i hi hn => by
    rw [List.mem_append, not_or] at hn
    exact (k.get i (Nat.lt_of_lt_of_le hi h.next) hn.1).trans (h.get i hi hn.2)⟩
theorem Lg.new (m : Mem) (b : Blk) : Lg m (m.new b) [] := ⟨Nat.le_succ _, rfl, fun i hi _ => by rw [Mem.get_new, if_neg (by omega)]⟩
theorem Lg.write (m : Mem) (i : Nat) (b : Option Blk) : Lg m (m.write i b) [i] := ⟨Nat.le_refl _, rfl, fun j _ hn => by rw [Mem.get_write, if_neg (by simpa using hn)]⟩

section
variable {ρ ρ' ρ'' : Env} {m m' m'' : Mem} {w w' w'' : World} {L L' : List Nat}
theorem Stp.refl (h : Rep ρ m w) : Stp ρ m w ρ m w [] := ⟨Env.le.refl ρ, h, rfl, rfl, rfl, Nat.le_refl _, fun _ _ _ => rfl, fun _ _ h => .inl h⟩
theorem Stp.trans (h : Stp ρ m w ρ' m' w' L) (k : Stp ρ' m' w' ρ'' m'' w'' L') : Stp ρ m w ρ'' m'' w'' (L' ++ L) where
  le := h.le.trans k.le
  rep := k.rep
  os := k.os.trans h.os
  tape := k.tape.trans h.tape
  output := k.output.trans h.output
  size := Nat.le_trans h.size k.size
  frame := fun g hg hn => by
    refine (k.frame g (Nat.lt_of_lt_of_le hg h.size) fun i hi e => ?_).trans (h.frame g hg fun i hi => hn i (List.mem_append.2 (.inr hi)))
    rcases h.fresh i g e with h1 | h1 | ⟨j, hj, h1⟩
    · exact hn i (List.mem_append.2 (.inl hi)) h1
    · omega
    · exact hn j (List.mem_append.2 (.inr hj)) h1
  fresh := fun i g e => by
    rcases k.fresh i g e with h1 | h1 | ⟨j, hj, h1⟩
    · rcases h.fresh i g h1 with h2 | h2 | ⟨j, hj, h2⟩
      · exact .inl h2
      · exact .inr (.inl h2)
      · exact .inr (.inr ⟨j, List.mem_append.2 (.inr hj), h2⟩)
    · exact .inr (.inl (Nat.le_trans h.size h1))
    · rcases h.fresh j g h1 with h2 | h2 | ⟨l, hl, h2⟩
      · exact .inr (.inr ⟨j, List.mem_append.2 (.inl hj), h2⟩)
      · exact .inr (.inl h2)
      · exact .inr (.inr ⟨l, List.mem_append.2 (.inr hl), h2⟩)
/-- A list may be longer, and need not tell what wasn't there. -/
theorem Stp.mono_list (h : Stp ρ m w ρ' m' w' L) (hL : ∀ i g, i ∈ L → ρ.σ i = some g → i ∈ L') : Stp ρ m w ρ' m' w' L' :=
  { h with
    frame := fun g hg hn => h.frame g hg fun i hi e => hn i (hL i g hi e) e
    fresh := fun i g e => (h.fresh i g e).imp id (·.imp id fun ⟨j, hj, e⟩ => ⟨j, hL j g hj e, e⟩) }
/-- A draw. -/
theorem Rep.drawn (h : Rep ρ m w) (n : Nat) : Rep ρ m { w with drawn := n } := ⟨h.blk, h.inj, h.dom, h.low, h.sep, base.stays w _ h.ok fun _ _ => rfl⟩
theorem Stp.drawn (h : Rep ρ m w) (n : Nat) : Stp ρ m w ρ m { w with drawn := n } [] := ⟨Env.le.refl ρ, h.drawn n, rfl, rfl, rfl, Nat.le_refl _, fun _ _ _ => rfl, fun _ _ h => .inl h⟩

def Env.add (ρ : Env) (i g k : Nat) : Env := ⟨fun j => if j = i then some g else ρ.σ j, fun j => if j = i then k else ρ.κ j, ρ.y⟩
theorem Env.le_add {i : Nat} (h : ρ.σ i = none) (g k : Nat) : ρ.le (ρ.add i g k) :=
  ⟨fun j b hj => by
    have : j ≠ i := by rintro rfl; rw [h] at hj; cases hj
    simp [Env.add, this, hj], fun j b hj => by
    have : j ≠ i := by rintro rfl; rw [h] at hj; cases hj
    simp [Env.add, this], rfl⟩
theorem Env.add_σ (ρ : Env) (i g k : Nat) : (ρ.add i g k).σ i = some g := by simp [Env.add]

/-- A new block. 'o': what it is in the world. -/
theorem Stp.alloc (h : Rep ρ m w) (b : Blk) (o : Obj) (k : Nat) (hb : BlkOK (ρ.add m.next w.heap.size k) m.next b (w.alloc o) w.heap.size) :
    Stp ρ m w (ρ.add m.next w.heap.size k) (m.new b) (w.alloc o) [] := by
  have hn := h.dom m.next (Nat.le_refl _)
  have hle := Env.le_add hn w.heap.size k
  have hold : ∀ g, g < w.heap.size → (w.alloc o).heap[g]? = w.heap[g]? := fun g hg => heap_alloc_old w o g hg
  refine ⟨hle, ⟨fun i bi hi => ?_, fun i j bi bj g hi hj ei ej => ?_, fun i hi => ?_, fun i g hi => ?_, fun i bi g hi ei => ?_, base.stays w _ h.ok fun g hg => hold g (base.lt w g h.ok hg)⟩, rfl, rfl, rfl, by simp, fun g hg _ => hold g hg, fun i g e => ?_⟩
  · rw [Mem.get_new] at hi
    by_cases e : i = m.next
    · rw [if_pos e] at hi
      cases hi
      subst e
      exact ⟨_, Env.add_σ _ _ _ _, hb⟩
    · rw [if_neg e] at hi
      obtain ⟨g, hg, hok⟩ := h.blk i bi hi
      exact ⟨g, hle.σ i g hg, hok.mono hle hg (hold g hok.lt)⟩
  · rw [Mem.get_new] at hi hj
    simp only [Env.add] at ei ej
    by_cases e1 : i = m.next <;> by_cases e2 : j = m.next
    · rw [e1, e2]
    · rw [if_pos e1] at ei
      rw [if_neg e2] at ej
      cases ei
      exact absurd (h.low j _ ej) (by omega)
    · rw [if_neg e1] at ei
      rw [if_pos e2] at ej
      cases ej
      exact absurd (h.low i _ ei) (by omega)
    · rw [if_neg e1] at hi ei
      rw [if_neg e2] at hj ej
      exact h.inj i j bi bj g hi hj ei ej
  · have : m.next ≤ i := Nat.le_of_lt hi
    have hne : i ≠ m.next := by have : m.next < i := hi; omega
    simp [Env.add, hne, h.dom i this]
  · simp only [Env.add] at hi
    by_cases e : i = m.next
    · rw [if_pos e] at hi; cases hi; simp
    · rw [if_neg e] at hi; have := h.low i g hi; simp; omega
  · rw [Mem.get_new] at hi
    simp only [Env.add] at ei
    by_cases e : i = m.next
    · rw [if_pos e] at ei; cases ei; exact fun hk => by have := base.lt w _ h.ok hk; omega
    · rw [if_neg e] at hi ei; exact h.sep i bi g hi ei
  · simp only [Env.add] at e
    by_cases e1 : i = m.next
    · rw [if_pos e1] at e; cases e; exact .inr (.inl (Nat.le_refl _))
    · rw [if_neg e1] at e; exact .inl e
end
end
end Ev
end Go.Proofs.YtmolojjhnbchbaaGreatDoor
