/- The evaluator made quick for the kernel, part 1: operations. No condition. -/
import Derived.Test.YtmolojjhnbchbaaGreatDoorEv16
set_option linter.all false
namespace Go.Proofs.YtmolojjhnbchbaaGreatDoor
open Go.RowKit

namespace Ev
noncomputable section

/-- A box: what stands in it is made once. -/
structure Bx (α : Type) where
  run : α
abbrev CallT := FuncId → List AV → Mem → Option (AV × Mem)

def ob {α β : Type} (x : Option α) (k : α → Option β) : Option β := Option.rec (motive := fun _ => Option β) none k x
theorem ob_some {α β : Type} {x : Option α} {k : α → Option β} {r : β} : ob x k = some r ↔ ∃ v, x = some v ∧ k v = some r := by
  cases x with
  | none => exact ⟨fun h => (by cases h), fun ⟨_, h, _⟩ => (by cases h)⟩
  | some v => exact ⟨fun h => ⟨v, rfl, h⟩, fun ⟨u, h, k⟩ => (by cases h; exact k)⟩

section
variable {α : Type}
def chA (t : Tr α) : Tr α := Tr.rec (motive := fun _ => Tr α) .nil (fun _ a _ _ _ _ _ _ _ => a) t
def chB (t : Tr α) : Tr α := Tr.rec (motive := fun _ => Tr α) .nil (fun _ _ b _ _ _ _ _ _ => b) t
def chC (t : Tr α) : Tr α := Tr.rec (motive := fun _ => Tr α) .nil (fun _ _ _ c _ _ _ _ _ => c) t
def chD (t : Tr α) : Tr α := Tr.rec (motive := fun _ => Tr α) .nil (fun _ _ _ _ d _ _ _ _ => d) t
/-- The way to a place, made once. -/
def getC : List D4 → Bx (Tr α → Option α)
  | [] => ⟨fun t => Tr.val t⟩
  | x :: p => match getC p with
    | ⟨k⟩ => match x with
      | .a => ⟨fun t => k (chA t)⟩
      | .b => ⟨fun t => k (chB t)⟩
      | .c => ⟨fun t => k (chC t)⟩
      | .d => ⟨fun t => k (chD t)⟩
theorem getC_eq : ∀ (p : List D4) (t : Tr α), (getC p).run t = Tr.getP p t
  | [], t => rfl
  | x :: p, t => by
    have := getC_eq p
    unfold getC
    cases hk : (getC p : Bx (Tr α → Option α)) with
    | mk k =>
      rw [hk] at this
      rw [Tr.getP_cons, ← this]
      cases x <;> cases t <;> rfl
def setC : List D4 → Bx (Tr α → Option α → Tr α)
  | [] => ⟨fun t y => Tr.rec (motive := fun _ => Tr α) (.node y .nil .nil .nil .nil) (fun _ a b c d _ _ _ _ => .node y a b c d) t⟩
  | x :: p => match setC p with
    | ⟨k⟩ => match x with
      | .a => ⟨fun t y => Tr.rec (motive := fun _ => Tr α) (.node none (k .nil y) .nil .nil .nil) (fun v a b c d _ _ _ _ => .node v (k a y) b c d) t⟩
      | .b => ⟨fun t y => Tr.rec (motive := fun _ => Tr α) (.node none .nil (k .nil y) .nil .nil) (fun v a b c d _ _ _ _ => .node v a (k b y) c d) t⟩
      | .c => ⟨fun t y => Tr.rec (motive := fun _ => Tr α) (.node none .nil .nil (k .nil y) .nil) (fun v a b c d _ _ _ _ => .node v a b (k c y) d) t⟩
      | .d => ⟨fun t y => Tr.rec (motive := fun _ => Tr α) (.node none .nil .nil .nil (k .nil y)) (fun v a b c d _ _ _ _ => .node v a b c (k d y)) t⟩
theorem setC_eq : ∀ (p : List D4) (t : Tr α) (y : Option α), (setC p).run t y = Tr.setP p t y
  | [], t, y => by cases t <;> rfl
  | x :: p, t, y => by
    have := setC_eq p
    unfold setC
    cases hk : (setC p : Bx (Tr α → Option α → Tr α)) with
    | mk k =>
      rw [hk] at this
      have e : k = fun t y => Tr.setP p t y := funext fun t => funext fun y => this t y
      subst e
      cases x <;> cases t <;> rfl
end
def stO (x : Operand) : Bx (Tr AV → Option AV) := match x with
  | .tmp t => getC (Tr.path t)
  | .const v => ⟨fun _ => absV v⟩
  | .global _ => ⟨fun _ => none⟩
  | .func g => ⟨fun _ => some (.func (.func g) [] [])⟩
def evS (e : Tr AV) (x : Operand) : Option AV := (stO x).run e
theorem evS_eq (e : Tr AV) : evS e = evalO e := funext fun x => by
  cases x with
  | tmp t => exact getC_eq _ _
  | _ => rfl
theorem stO_eq (e : Tr AV) (x : Operand) : (stO x).run e = evalO e x := congrFun (evS_eq e) x

def wrapF (k : IntKind) (n : Int) : Int := match k, n with
  | .i64, .ofNat m => bif Nat.blt m 9223372036854775808 then .ofNat m else IntKind.wrap .i64 (.ofNat m)
  | k, n => k.wrap n
theorem wrapF_eq (k : IntKind) (n : Int) : wrapF k n = k.wrap n := by
  unfold wrapF
  split
  · rename_i m
    cases h : Nat.blt m 9223372036854775808 with
    | false => rfl
    | true =>
      rw [cond_true]
      unfold Nat.blt at h
      rw [Nat.ble_eq] at h
      show (m : Int) = IntKind.wrap .i64 (m : Int)
      unfold IntKind.wrap
      have e1 : (2 ^ IntKind.i64.bits : Int) = 18446744073709551616 := by decide
      have e2 : (2 ^ (IntKind.i64.bits - 1) : Int) = 9223372036854775808 := by decide
      rw [e1, e2]
      have e3 : (m : Int) % 18446744073709551616 = m := Int.emod_eq_of_lt (by omega) (by omega)
      simp only [e3]
      rw [if_neg]
      simp only [Bool.and_eq_true, decide_eq_true_eq, not_and]
      intro _
      omega
  · rfl
def addF (a b : Int) : Int := match a, b with | .ofNat m, .ofNat n => .ofNat (Nat.add m n) | a, b => a + b
theorem addF_eq (a b : Int) : addF a b = a + b := by unfold addF; split <;> rfl
def subF (a b : Int) : Int := match a, b with | .ofNat m, .ofNat n => bif Nat.ble n m then .ofNat (Nat.sub m n) else .ofNat m - .ofNat n | a, b => a - b
theorem subF_eq (a b : Int) : subF a b = a - b := by
  unfold subF
  split
  · rename_i m n
    cases h : Nat.ble n m with
    | false => rfl
    | true =>
      rw [Nat.ble_eq] at h
      rw [cond_true]
      show ((m - n : Nat) : Int) = (m : Int) - (n : Int)
      omega
  · rfl
def ltF (a b : Int) : Bool := match a, b with | .ofNat m, .ofNat n => Nat.blt m n | a, b => decide (a < b)
theorem ltF_eq (a b : Int) : ltF a b = decide (a < b) := by
  unfold ltF
  split
  · rename_i m n
    rw [Bool.eq_iff_iff, decide_eq_true_eq]
    unfold Nat.blt
    rw [Nat.ble_eq]
    show m + 1 ≤ n ↔ (m : Int) < (n : Int)
    omega
  · rfl
def eqF (a b : Int) : Bool := match a, b with | .ofNat m, .ofNat n => Nat.beq m n | a, b => a == b
theorem eqF_eq (a b : Int) : eqF a b = (a == b) := by
  unfold eqF
  split
  · rename_i m n
    rw [Bool.eq_iff_iff, Nat.beq_eq, beq_iff_eq]
    show m = n ↔ (m : Int) = (n : Int)
    omega
  · rfl
def intS (o : BinOp) : Bx (IntKind → Int → Int → Option AV) := match o with
  | .add => ⟨fun k a b => some (.int k (wrapF k (addF a b)))⟩
  | .sub => ⟨fun k a b => some (.int k (wrapF k (subF a b)))⟩
  | .eql => ⟨fun _ a b => some (.bool (eqF a b))⟩
  | .neq => ⟨fun _ a b => some (.bool !(eqF a b))⟩
  | .lss => ⟨fun _ a b => some (.bool (ltF a b))⟩
  | .leq => ⟨fun _ a b => some (.bool !(ltF b a))⟩
  | .gtr => ⟨fun _ a b => some (.bool (ltF b a))⟩
  | .geq => ⟨fun _ a b => some (.bool !(ltF a b))⟩
  | o => ⟨intA o⟩
theorem intS_eq (o : BinOp) (k : IntKind) (a b : Int) : (intS o).run k a b = intA o k a b := by
  have hn : ∀ a b : Int, (!decide (a < b)) = decide (b ≤ a) := fun a b => by
    rw [Bool.eq_iff_iff, Bool.not_eq_true', decide_eq_false_iff_not, decide_eq_true_eq]
    omega
  cases o <;> simp [intS, intA, wrapF_eq, addF_eq, subF_eq, eqF_eq, ltF_eq, hn, bne]
def eqS : List UInt8 → List UInt8 → Bool
  | [], [] => true
  | x :: l, y :: r => bif Nat.beq x.toNat y.toNat then eqS l r else false
  | _, _ => false
theorem eqS_eq : ∀ l r : List UInt8, eqS l r = (l == r)
  | [], [] => rfl
  | x :: l, y :: r => by
    unfold eqS
    rw [eqS_eq l r]
    rw [Bool.eq_iff_iff, beq_iff_eq]
    cases h : Nat.beq x.toNat y.toNat with
    | true =>
      have : x = y := UInt8.toNat_inj.1 (by rwa [Nat.beq_eq] at h)
      subst this
      rw [cond_true, beq_iff_eq]
      simp
    | false =>
      have : x ≠ y := fun e => by rw [e, Nat.beq_refl] at h; cases h
      rw [cond_false]
      simp [this]
  | [], y :: r => by unfold eqS; simp
  | x :: l, [] => by unfold eqS; simp
def strS (o : BinOp) : Bx (List UInt8 → List UInt8 → Option AV) := match o with
  | .eql => ⟨fun a b => some (.bool (eqS a b))⟩
  | .neq => ⟨fun a b => some (.bool !(eqS a b))⟩
  | o => ⟨strA o⟩
theorem strS_eq (o : BinOp) (a b : List UInt8) : (strS o).run a b = strA o a b := by
  cases o <;> simp [strS, strA, eqS_eq]
section
variable (P : Program)
def kindI : IntKind → Nat
  | .i64 => 0
  | .u8 => 1
  | _ => 2
/-- Are they of one kind? Only the common ones are told. -/
def kEq (k k' : IntKind) : Bool := Nat.beq (kindI k) (kindI k') && !(Nat.beq (kindI k) 2)
theorem kEq_eq {k k' : IntKind} (h : kEq k k' = true) : k = k' := by
  cases k <;> cases k' <;> first | rfl | (exact absurd h (by decide))
def stBin (o : BinOp) (t : TypeId) (c : Bool) : Bx (AV → AV → Option AV) := match o with
  | .shl => ⟨binA P .shl t c⟩
  | .shr => ⟨binA P .shr t c⟩
  | o => match intS o, strS o with
    | ⟨gi⟩, ⟨gs⟩ => ⟨fun x y => match x with
      | .int k a => (match y with | .int k' b => bif kEq k k' then gi k a b else binA P o t c (.int k a) (.int k' b) | y => binA P o t c (.int k a) y)
      | .str a => (match y with | .str b => gs a b | _ => none)
      | x => binA P o t c x y⟩
theorem stBin_eq (o : BinOp) (t : TypeId) (c : Bool) (x y : AV) : (stBin P o t c).run x y = binA P o t c x y := by
  have gen : (o ≠ .shl ∧ o ≠ .shr) → (match intS o, strS o with
    | ⟨gi⟩, ⟨gs⟩ => (⟨fun x y => match x with
      | .int k a => (match y with | .int k' b => bif kEq k k' then gi k a b else binA P o t c (.int k a) (.int k' b) | y => binA P o t c (.int k a) y)
      | .str a => (match y with | .str b => gs a b | _ => none)
      | x => binA P o t c x y⟩ : Bx (AV → AV → Option AV))).run x y = binA P o t c x y := by
    intro hs
    show (match x with
      | .int k a => (match y with | .int k' b => bif kEq k k' then (intS o).run k a b else binA P o t c (.int k a) (.int k' b) | y => binA P o t c (.int k a) y)
      | .str a => (match y with | .str b => (strS o).run a b | _ => none)
      | x => binA P o t c x y) = binA P o t c x y
    cases x with
    | int k a =>
      cases y with
      | int k' b =>
        simp only
        cases hk : kEq k k' with
        | false => rfl
        | true =>
          rw [cond_true, intS_eq]
          have := kEq_eq hk
          subst this
          unfold binA
          split
          · exact absurd rfl hs.1
          · exact absurd rfl hs.2
          · simp
      | _ => rfl
    | str a =>
      simp only [strS_eq]
      cases o <;> first | exact absurd rfl hs.1 | exact absurd rfl hs.2 | (cases y <;> rfl)
    | _ => rfl
  cases o <;> first | rfl | exact gen ⟨by decide, by decide⟩

abbrev OpT := CallT → Tr AV → Mem → Option (AV × Mem × DK)
def asPu (m : Mem) (v : AV) : Option (AV × Mem × DK) := some (v, m, .pu)
def asEf (m : Mem) (r : AV × Mem) : Option (AV × Mem × DK) := some (r.1, r.2, .ef m.next (r.2.log.take (r.2.log.length - m.log.length)))
def stOp (op : Op) : Bx OpT := match op with
  | .move x => (match stO x with | ⟨a⟩ => ⟨fun _ e m => ob (a e) (asPu m)⟩)
  | .assign x => (match stO x with | ⟨a⟩ => ⟨fun _ e m => ob (a e) (asPu m)⟩)
  | .binOp o t x y _ => (match stBin P o t (isConstO x || isConstO y), stO x, stO y with | ⟨g⟩, ⟨a⟩, ⟨b⟩ => ⟨fun _ e m => ob (a e) fun u => ob (b e) fun v => ob (g u v) (asPu m)⟩)
  | .field t x i => (match stO x with | ⟨a⟩ => ⟨fun _ e m => ob (a e) fun v => ob (fieldA P t v i) (asPu m)⟩)
  | .fieldAddr t x i => (match stO x with | ⟨a⟩ => ⟨fun _ e m => ob (a e) fun v => ob (fieldAddrA P t v i) (asPu m)⟩)
  | .indexAddr t x i => (match stO x, stO i with | ⟨a⟩, ⟨b⟩ => ⟨fun _ e m => ob (a e) fun v => ob (b e) fun j => ob (indexAddrA P t v j) (asPu m)⟩)
  | .index t x i => (match stO x, stO i with | ⟨a⟩, ⟨b⟩ => ⟨fun _ e m => ob (a e) fun v => ob (b e) fun j => ob (indexA P t v j) (asPu m)⟩)
  | .extract x i => (match stO x with | ⟨a⟩ => ⟨fun _ e m => ob (a e) fun v => match v with | .tuple l => ob l[i]? (asPu m) | _ => none⟩)
  | .load t x => (match stO x with | ⟨a⟩ => ⟨fun _ e m => ob (a e) fun v => ob (loadA P m t v) fun r => some (r.1, m, .ld r.2)⟩)
  | .store t d x => (match stO d, stO x with | ⟨a⟩, ⟨b⟩ => ⟨fun _ e m => ob (a e) fun u => ob (b e) fun x => ob (storeA P m t u x) fun m' => asEf m (.tuple [], m')⟩)
  | .call c => (match c.callee with
    | .value (.func g) => ⟨fun call e m => ob (listO (evS e) c.args.toList) fun l => ob (call g l m) (asEf m)⟩
    | _ => ⟨fun call e m => opStepD P call (.call c) (evS e) m⟩)
  | op => ⟨fun call e m => opStepD P call op (evS e) m⟩
end
section
variable {P : Program}
theorem opD_pu {call : CallT} {op : Op} {f : Operand → Option AV} {m : Mem} {v : AV} {r : AV × Mem × DK} (h : pop P op f = some v) (hr : asPu m v = some r) : opStepD P call op f m = some r := by
  unfold opStepD; rw [h]; exact hr
theorem stOp_ok {call : CallT} {op : Op} {e : Tr AV} {m : Mem} {r : AV × Mem × DK} (h : (stOp P op).run call e m = some r) : opStepD P call op (evalO e) m = some r := by
  unfold stOp at h
  split at h
  · obtain ⟨v, h1, h2⟩ := ob_some.1 h; rw [stO_eq] at h1; exact opD_pu (by simpa [pop] using h1) h2
  · obtain ⟨v, h1, h2⟩ := ob_some.1 h; rw [stO_eq] at h1; exact opD_pu (by simpa [pop] using h1) h2
  · rename_i o t x y yt
    have h : ob ((stO x).run e) (fun a => ob ((stO y).run e) fun b => ob ((stBin P o t (isConstO x || isConstO y)).run a b) (asPu m)) = some r := h
    obtain ⟨a, h1, h⟩ := ob_some.1 h
    obtain ⟨b, h2, h⟩ := ob_some.1 h
    obtain ⟨v, h3, h⟩ := ob_some.1 h
    rw [stO_eq] at h1 h2
    rw [stBin_eq] at h3
    exact opD_pu (by simp [pop, h1, h2, h3]) h
  · obtain ⟨a, h1, h⟩ := ob_some.1 h
    obtain ⟨v, h3, h⟩ := ob_some.1 h
    rw [stO_eq] at h1
    exact opD_pu (by simp [pop, h1, h3]) h
  · obtain ⟨a, h1, h⟩ := ob_some.1 h
    obtain ⟨v, h3, h⟩ := ob_some.1 h
    rw [stO_eq] at h1
    exact opD_pu (by simp [pop, h1, h3]) h
  · obtain ⟨a, h1, h⟩ := ob_some.1 h
    obtain ⟨b, h2, h⟩ := ob_some.1 h
    obtain ⟨v, h3, h⟩ := ob_some.1 h
    rw [stO_eq] at h1 h2
    exact opD_pu (by simp [pop, h1, h2, h3]) h
  · obtain ⟨a, h1, h⟩ := ob_some.1 h
    obtain ⟨b, h2, h⟩ := ob_some.1 h
    obtain ⟨v, h3, h⟩ := ob_some.1 h
    rw [stO_eq] at h1 h2
    exact opD_pu (by simp [pop, h1, h2, h3]) h
  · obtain ⟨a, h1, h⟩ := ob_some.1 h
    rw [stO_eq] at h1
    split at h
    · obtain ⟨v, h3, h⟩ := ob_some.1 h
      exact opD_pu (by simp [pop, h1, h3]) h
    · cases h
  · obtain ⟨a, h1, h⟩ := ob_some.1 h
    obtain ⟨v, h3, h⟩ := ob_some.1 h
    rw [stO_eq] at h1
    rw [← h]
    simp [opStepD, pop, lop, h1, h3]
  · obtain ⟨a, h1, h⟩ := ob_some.1 h
    obtain ⟨b, h2, h⟩ := ob_some.1 h
    obtain ⟨v, h3, h⟩ := ob_some.1 h
    rw [stO_eq] at h1 h2
    rw [← h]
    simp [opStepD, opStep, pop, lop, eop, isNew, asEf, h1, h2, h3]
  · rename_i c
    split at h
    · rename_i g hg
      obtain ⟨l, h1, h⟩ := ob_some.1 h
      obtain ⟨v, h3, h⟩ := ob_some.1 h
      rw [evS_eq] at h1
      have hf : evalO e (.func g) = some (.func (.func g) [] []) := rfl
      rw [← h]
      simp [opStepD, opStep, pop, lop, eop, isNew, asEf, callStep, callee, hg, hf, h1, h3]
    · have h : opStepD P call (.call c) (evS e) m = some r := h
      rwa [evS_eq] at h
  · have h : opStepD P call op (evS e) m = some r := h
    rwa [evS_eq] at h
end
end
end Ev
end Go.Proofs.YtmolojjhnbchbaaGreatDoor
