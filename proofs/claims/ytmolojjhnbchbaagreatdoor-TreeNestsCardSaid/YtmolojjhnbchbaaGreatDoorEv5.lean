/- The evaluator, part 5: all operations that look at no memory, in one word. No condition. -/
import Derived.Test.YtmolojjhnbchbaaGreatDoorEv4
set_option linter.all false
namespace Go.Proofs.YtmolojjhnbchbaaGreatDoor
open Go.RowKit

namespace Ev
noncomputable section

/-- What is left to do with a number that is not told. -/
def symR (k : IntKind) (i : Nat) (l : List (BinOp × Int)) (res : Int) : Option AV := match l with | [] => some (.int k res) | q :: l' => (match q with | (.lss, _) => none | _ => some (.sym k (Nat.succ i) (q :: l') res))
/-- A step with a number that is not told. -/
def symA (op : BinOp) (k : IntKind) (i : Nat) (todo : List (BinOp × Int)) (res : Int) (k' : IntKind) (b : Int) : Option AV :=
  match todo with
  | [] => none
  | (o, c) :: l => if k = k' ∧ b = c then (match op, o with
    | .add, .add => symR k i l res
    | .rem, .rem => symR k i l res
    | _, _ => none) else none
/-- Is a number greater that is not told? -/
def lssA (op : BinOp) (k : IntKind) (a : Int) (k' : IntKind) (i : Nat) (l : List (BinOp × Int)) (res : Int) : Option AV :=
  match op, l with
  | .lss, (.and, _) :: _ => if k = k' then (if a < 0 then some (.bool true) else if res ≤ a then some (.bool false) else some (.sym k i [(.lss, a)] 0)) else none
  | _, _ => none
section
variable (P : Program)
def binA (op : BinOp) (t : TypeId) (c : Bool) (x y : AV) : Option AV :=
  match op with
  | .shl => (match x, y with | .int k a, .int _ b => shA .shl k a b | _, _ => none)
  | .shr => (match x, y with | .int k a, .int _ b => shA .shr k a b | _, _ => none)
  | op => (match x with
    | .int k a => (match y with | .int k' b => if k = k' then intA op k a b else none | .sym k' i l r => lssA op k a k' i l r | _ => none)
    | .str a => (match y with | .str b => strA op a b | _ => none)
    | .sym k i l r => (match y with | .int k' b => symA op k i l r k' b | _ => none)
    | x => (match op with
      | .eql => (match eqA P t c x y with | some b => some (.bool b) | none => none)
      | .neq => (match eqA P t c x y with | some b => some (.bool !b) | none => none)
      | _ => none))
def unA (op : UnOp) (x : AV) : Option AV :=
  match op, x with
  | .neg, .int k n => some (.int k (k.wrap (0 - n)))
  | .xor, .int k n => intA .xor k (if k.signed then -1 else k.max) n
  | .not, .bool b => some (.bool !b)
  | _, _ => none
def convA (src dst : TypeId) (x : AV) : Option AV :=
  match x with
  | .int _ n => (match P.underlying src, P.underlying dst with
    | some _, some (.int k) => some (.int k (k.wrap n))
    | _, _ => none)
  | .str s => (match P.underlying src, P.underlying dst with
    | some _, some .string => some (.str s)
    | _, _ => none)
  | .sym _ i l r => (match l, P.underlying src, P.underlying dst with
    | (.and, c) :: _, some _, some (.int .i64) => if r < 128 then some (.sym .i64 i [(.and, c)] r) else none
    | _, _, _ => none)
  | _ => none
def ifaceA (t : TypeId) (x : AV) : Option AV :=
  match P.underlying t with
  | some (.interface _) => none
  | some _ => some (.iface t x)
  | none => none
def lenA (t : TypeId) (x : AV) : Option AV :=
  match P.underlying t with
  | some .string => (match x with | .str s => some (.int .i64 s.length) | _ => none)
  | some (.array n _) => some (.int .i64 n)
  | some (.pointer e) => (match P.underlying e with | some (.array n _) => some (.int .i64 n) | _ => none)
  | some (.slice _) => (match x with | .slice _ n _ => some (.int .i64 n) | .slice0 _ _ _ => some (.int .i64 0) | _ => none)
  | some (.map _ _) => (match x with | .map none => some (.int .i64 0) | _ => none)
  | _ => none
def capA (t : TypeId) (x : AV) : Option AV :=
  match P.underlying t with
  | some (.slice _) => (match x with | .slice _ _ (.known n) => some (.int .i64 n) | _ => none)
  | _ => none
def biA (b : Builtin) (ts : List TypeId) (args : List AV) : Option AV :=
  match b with
  | .len => (match ts, args with | t :: _, [x] => lenA P t x | _, _ => none)
  | .cap => (match ts, args with | t :: _, [x] => capA P t x | _, _ => none)
  | .min => (match args with | [.int k x, .int _ y] => some (.int k (if y < x then y else x)) | _ => none)
  | .max => (match args with | [.int k x, .int _ y] => some (.int k (if y > x then y else x)) | _ => none)
  | _ => none
def optO (f : Operand → Option AV) : Option Operand → Option (Option AV)
  | none => some none
  | some y => match f y with
    | none => none
    | some v => some (some v)
/-- AN OPERATION THAT LOOKS AT NO MEMORY. -/
def pop (op : Op) (f : Operand → Option AV) : Option AV :=
  match op with
  | .move x => f x
  | .assign x => f x
  | .pick c a b => (match f c with | some (.bool t) => bif t then f a else f b | _ => none)
  | .build t ps => (match partsO f ps.toList with | none => none | some r => buildA P t r)
  | .field t x i => (match f x with | none => none | some v => fieldA P t v i)
  | .fieldAddr t x i => (match f x with | none => none | some v => fieldAddrA P t v i)
  | .indexAddr t x i => (match f x, f i with | some v, some j => indexAddrA P t v j | _, _ => none)
  | .index t x i => (match f x, f i with | some v, some j => indexA P t v j | _, _ => none)
  | .slice t x lo hi none => (match f x, optO f lo, optO f hi with | some v, some l, some h => sliceA P t v l h | _, _, _ => none)
  | .binOp op t x y _ => (match f x, f y with | some a, some b => binA P op t (isConstO x || isConstO y) a b | _, _ => none)
  | .unOp op _ x => (match f x with | some a => unA op a | none => none)
  | .convert s d x => (match f x with | some a => convA P s d a | none => none)
  | .makeInterface t x => (match f x with | some a => ifaceA P t a | none => none)
  | .makeFunc fn a b => (match listO f a.toList, listO f b.toList with | some l, some r => some (.func fn l r) | _, _ => none)
  | .extract x i => (match f x with | some (.tuple l) => l[i]? | _ => none)
  | .nilCheck x => (match f x with | some (.ptr (some p)) => some (.ptr (some p)) | some (.func (.func g) a b) => some (.func (.func g) a b) | _ => none)
  | .call c => (match c.callee with
    | .builtin b => (match listO f c.args.toList with | some l => biA P b c.argTypes.toList l | none => none)
    | _ => none)
  | _ => none
end

section
variable {P : Program} {ρ : Env}
theorem intA_ok {op : BinOp} {k : IntKind} {a b : Int} {r : AV} (h : intA op k a b = some r) (hs : op ≠ .shl ∧ op ≠ .shr) (t : TypeId) :
    ∃ x, conc ρ r = some x ∧ ∀ w, (binOp op t (.int k a) (.int k b)).run P w = .ok x w := by
  unfold intA at h
  cases op <;> simp at h
  case quo =>
    by_cases hb : b = 0
    · simp [hb] at h
    · simp [hb] at h; subst h; exact ⟨_, rfl, fun w => by simp [binOp, Op.intDiv, hb]⟩
  case rem =>
    by_cases hb : b = 0
    · simp [hb] at h
    · simp [hb] at h; subst h; exact ⟨_, rfl, fun w => by simp [binOp, Op.intDiv, hb]⟩
  all_goals (subst h; exact ⟨_, rfl, fun w => by simp [binOp, Op.intArith, Op.intBits, Op.intCmp]⟩)
theorem wrap_64 {n : Int} (h0 : 0 ≤ n) (h : n < 9223372036854775808) : IntKind.wrap .i64 n = n := by
  unfold IntKind.wrap
  have e1 : (2 ^ IntKind.i64.bits : Int) = 18446744073709551616 := by decide
  have e2 : (2 ^ (IntKind.i64.bits - 1) : Int) = 9223372036854775808 := by decide
  rw [e1, e2]
  have e3 : n % 18446744073709551616 = n := Int.emod_eq_of_lt (by omega) (by omega)
  simp only [e3]
  rw [if_neg]
  simp only [Bool.and_eq_true, decide_eq_true_eq, not_and]
  intro _
  omega
theorem symA_ok {op : BinOp} {k k' : IntKind} {i : Nat} {l : List (BinOp × Int)} {res b : Int} {x : Value} {r : AV} (hx : conc ρ (.sym k i l res) = some x) (h : symA op k i l res k' b = some r) (t : TypeId) :
    ∃ n, x = .int k n ∧ ∃ z, conc ρ r = some z ∧ ∀ w, (binOp op t x (.int k' b)).run P w = .ok z w := by
  simp only [conc] at hx
  cases l with
  | nil => cases h
  | cons q l =>
    obtain ⟨o, c⟩ := q
    unfold symA at h
    simp only at h
    split at h
    case isFalse => cases h
    rename_i hkb
    obtain ⟨rfl, rfl⟩ := hkb
    have fin : (op ≠ .shl ∧ op ≠ .shr) → intA op k (ρ.y i) b = some (.int k (ρ.y (Nat.succ i))) → symOK k ρ.y (Nat.succ i) l res = true → x = .int k (ρ.y i) → symR k i l res = some r →
        ∃ n, x = .int k n ∧ ∃ z, conc ρ r = some z ∧ ∀ w, (binOp op t x (.int k b)).run P w = .ok z w := by
      intro hs hi h2 hxe hr
      subst hxe
      refine ⟨_, rfl, ?_⟩
      obtain ⟨z, hz, hrun⟩ := intA_ok (P := P) (ρ := ρ) hi hs t
      simp only [conc, Option.some.injEq] at hz
      subst hz
      unfold symR at hr
      split at hr
      · simp only [symOK, decide_eq_true_eq] at h2
        cases hr
        exact ⟨_, by rw [← h2]; rfl, hrun⟩
      · rename_i q l'
        split at hr
        · cases hr
        · rename_i hne
          cases hr
          refine ⟨_, ?_, hrun⟩
          simp only [conc]
          unfold symV
          split
          · rename_i a l'' e; cases e; exact absurd rfl (hne a)
          · rw [if_pos h2]
    split at h
    · simp only [symV] at hx
      split at hx
      case isFalse => cases hx
      rename_i hok
      cases hx
      simp only [symOK, Bool.and_eq_true, decide_eq_true_eq, symStep, Option.some.injEq] at hok
      exact fin ⟨by decide, by decide⟩ (by simp [intA, hok.1]) hok.2 rfl h
    · simp only [symV] at hx
      split at hx
      case isFalse => cases hx
      rename_i hok
      cases hx
      simp only [symOK, Bool.and_eq_true, decide_eq_true_eq, symStep] at hok
      obtain ⟨h1, h2⟩ := hok
      split at h1
      · cases h1
      · rename_i hb
        simp only [Option.some.injEq, decide_eq_true_eq] at h1
        exact fin ⟨by decide, by decide⟩ (by rw [← h1]; simp [intA, hb]) h2 rfl h
    · cases h
theorem lssA_ok {op : BinOp} {k k' : IntKind} {a : Int} {i : Nat} {l : List (BinOp × Int)} {res : Int} {y : Value} {r : AV} (hy : conc ρ (.sym k' i l res) = some y) (h : lssA op k a k' i l res = some r) (t : TypeId) :
    ∃ n, y = .int k' n ∧ ∃ z, conc ρ r = some z ∧ ∀ w, (binOp op t (.int k a) y).run P w = .ok z w := by
  unfold lssA at h
  split at h
  case h_2 => cases h
  simp only [conc, symV] at hy
  split at hy
  case isFalse => cases hy
  rename_i hok
  cases hy
  simp only [symOK, Bool.and_eq_true, decide_eq_true_eq] at hok
  refine ⟨_, rfl, ?_⟩
  split at h
  case isFalse => cases h
  rename_i hk
  subst hk
  have run : ∀ w, (binOp .lss t (.int k a) (.int k (ρ.y i))).run P w = .ok (.bool (decide (a < ρ.y i))) w := fun w => by simp [binOp, Op.intCmp]
  split at h
  · cases h; rename_i h0; exact ⟨_, rfl, fun w => by rw [run, decide_eq_true (by omega)]⟩
  · split at h
    · cases h; rename_i h0; exact ⟨_, rfl, fun w => by rw [run, decide_eq_false (by omega)]⟩
    · cases h; exact ⟨_, rfl, run⟩
theorem shA_ok {op : BinOp} {k : IntKind} {a b : Int} {r : AV} (hs : op = .shl ∨ op = .shr) (h : shA op k a b = some r) (t : TypeId) (k' : IntKind) :
    ∃ x, conc ρ r = some x ∧ ∀ w, (binOp op t (.int k a) (.int k' b)).run P w = .ok x w := by
  unfold shA at h
  by_cases hb : b < 0
  · simp [hb] at h
  · rw [decide_eq_false hb, cond_false] at h
    rcases hs with rfl | rfl
    · simp only [Option.some.injEq] at h; subst h; exact ⟨_, rfl, fun w => by simp [binOp, Op.shift, hb]⟩
    · simp only [Option.some.injEq] at h; subst h; exact ⟨_, rfl, fun w => by simp [binOp, Op.shift, hb]⟩
theorem strA_ok {op : BinOp} {a b : List UInt8} {r : AV} (h : strA op a b = some r) (t : TypeId) :
    ∃ x, conc ρ r = some x ∧ ∀ w, (binOp op t (.string ⟨a.toArray⟩) (.string ⟨b.toArray⟩)).run P w = .ok x w := by
  unfold strA at h
  cases op <;> simp at h
  case add =>
    by_cases hl : a.length + b.length ≤ 9223372036854775807
    · have : Nat.ble (a.length + b.length) 9223372036854775807 = true := by rw [Nat.ble_eq]; exact hl
      rw [this, cond_true] at h
      cases h
      refine ⟨.string ⟨(a ++ b).toArray⟩, rfl, fun w => ?_⟩
      have hm : ¬ (((a.length + b.length : Nat) : Int) > IntKind.i64.max) := by simp [IntKind.max, IntKind.signed, IntKind.bits]; omega
      have he : (ByteArray.mk a.toArray) ++ (ByteArray.mk b.toArray) = ⟨(a ++ b).toArray⟩ := by
        apply ByteArray.ext; simp [ByteArray.data_append]
      simp only [binOp, Op.stringOp, size_mk, hm, if_false, he]
      rfl
    · have : Nat.ble (a.length + b.length) 9223372036854775807 = false := by rw [← Bool.not_eq_true, Nat.ble_eq]; exact hl
      rw [this, cond_false] at h; cases h
  all_goals (subst h; exact ⟨_, rfl, fun w => by simp [binOp, Op.stringOp, toList_mk]⟩)
def nonnum : Value → Bool
  | .int _ _ => false
  | .float _ _ => false
  | .complex _ _ _ => false
  | .string _ => false
  | _ => true
theorem conc_nonnum {a : AV} {x : Value} (h1 : ∀ k n, a ≠ .int k n) (h2 : ∀ s, a ≠ .str s) (h3 : ∀ k i l r, a ≠ .sym k i l r) (h : conc ρ a = some x) : nonnum x = true := by
  cases a with
  | sym k i l r => exact absurd rfl (h3 k i l r)
  | int k n => exact absurd rfl (h1 k n)
  | str s => exact absurd rfl (h2 s)
  | bool b => simp only [conc, Option.some.injEq] at h; subst h; rfl
  | nilFunc => simp only [conc, Option.some.injEq] at h; subst h; rfl
  | nilIface => simp only [conc, Option.some.injEq] at h; subst h; rfl
  | ptr p =>
    cases p with
    | none => simp only [conc, Option.some.injEq] at h; subst h; rfl
    | some p => obtain ⟨_, _, rfl⟩ := ptr_conc h; rfl
  | slice p l c =>
    cases p with
    | none => cases c <;> simp [conc] at h; subst h; rfl
    | some p => obtain ⟨_, _, _, rfl⟩ := slice_conc h; rfl
  | slice0 p q d => simp only [conc, Option.map_eq_some_iff] at h; obtain ⟨_, _, rfl⟩ := h; rfl
  | map p =>
    cases p with
    | none => simp only [conc, Option.some.injEq] at h; subst h; rfl
    | some p => simp only [conc, Option.map_eq_some_iff] at h; obtain ⟨_, _, rfl⟩ := h; rfl
  | func fn f c => simp only [conc, Option.bind_eq_some_iff, Option.map_eq_some_iff] at h; obtain ⟨_, _, _, _, rfl⟩ := h; rfl
  | iface t v => simp only [conc, Option.map_eq_some_iff] at h; obtain ⟨_, _, rfl⟩ := h; rfl
  | agg l => simp only [conc, Option.map_eq_some_iff] at h; obtain ⟨_, _, rfl⟩ := h; rfl
  | tuple l => simp only [conc, Option.map_eq_some_iff] at h; obtain ⟨_, _, rfl⟩ := h; rfl
theorem binOp_eql {x : Value} (h : nonnum x = true) (t : TypeId) (y : Value) : binOp .eql t x y = (do pure (.bool (← Op.equal t x y))) := by
  cases x <;> simp [nonnum] at h <;> cases y <;> rfl
theorem binOp_neq {x : Value} (h : nonnum x = true) (t : TypeId) (y : Value) : binOp .neq t x y = (do pure (.bool (!(← Op.equal t x y)))) := by
  cases x <;> simp [nonnum] at h <;> cases y <;> rfl
theorem binA_ok {op : BinOp} {t : TypeId} {a b : AV} {x y : Value} {r : AV} {ox oy : Operand} (hx : conc ρ a = some x) (hy : conc ρ b = some y) (h : binA P op t (isConstO ox || isConstO oy) a b = some r) :
    ∃ z, conc ρ r = some z ∧ ∀ w, (do eqGuard op t ox oy x y; binOp op t x y : Sem Value).run P w = .ok z w := by
  have guardFree : ∀ {op : BinOp} {x y : Value}, (op ≠ .eql ∧ op ≠ .neq) → ∀ w, (eqGuard op t ox oy x y).run P w = .ok () w := by
    intro op x y hn w
    cases op <;> first | exact absurd rfl hn.1 | exact absurd rfl hn.2 | simp [eqGuard]
  have guardInt : ∀ {op : BinOp} {k k' : IntKind} {m n : Int} w, (eqGuard op t ox oy (.int k m) (.int k' n)).run P w = .ok () w := by
    intro op k k' m n w
    cases op <;> simp [eqGuard]
  have guardStr : ∀ {op : BinOp} {m n : ByteArray} w, (eqGuard op t ox oy (.string m) (.string n)).run P w = .ok () w := by
    intro op m n w
    cases op <;> simp [eqGuard]
  unfold binA at h
  split at h
  · split at h
    · rename_i k1 _ k2 _
      simp only [conc, Option.some.injEq] at hx hy; subst hx hy
      obtain ⟨z, hz, hr⟩ := shA_ok (P := P) (ρ := ρ) (.inl rfl) h t k2
      exact ⟨z, hz, fun w => by simp only [Sem.run_bind, guardInt, Result.andThen_ok, hr]⟩
    · cases h
  · split at h
    · rename_i k1 _ k2 _
      simp only [conc, Option.some.injEq] at hx hy; subst hx hy
      obtain ⟨z, hz, hr⟩ := shA_ok (P := P) (ρ := ρ) (.inr rfl) h t k2
      exact ⟨z, hz, fun w => by simp only [Sem.run_bind, guardInt, Result.andThen_ok, hr]⟩
    · cases h
  · rename_i op' h1 h2
    split at h
    · split at h
      case h_3 => cases h
      case h_2 =>
        simp only [conc, Option.some.injEq] at hx; subst hx
        obtain ⟨n, rfl, z, hz, hr⟩ := lssA_ok (P := P) hy h t
        exact ⟨z, hz, fun w => by simp only [Sem.run_bind, guardInt, Result.andThen_ok, hr]⟩
      simp only [conc, Option.some.injEq] at hx hy; subst hx hy
      split at h
      · rename_i hk
        subst hk
        obtain ⟨z, hz, hr⟩ := intA_ok (P := P) (ρ := ρ) h ⟨fun e => h1 e, fun e => h2 e⟩ t
        exact ⟨z, hz, fun w => by simp only [Sem.run_bind, guardInt, Result.andThen_ok, hr]⟩
      · cases h
    · split at h
      case h_2 => cases h
      simp only [conc, Option.some.injEq] at hx hy; subst hx hy
      obtain ⟨z, hz, hr⟩ := strA_ok (P := P) (ρ := ρ) h t
      exact ⟨z, hz, fun w => by simp only [Sem.run_bind, guardStr, Result.andThen_ok, hr]⟩
    · split at h
      case h_2 => cases h
      simp only [conc, Option.some.injEq] at hy; subst hy
      obtain ⟨n, rfl, z, hz, hr⟩ := symA_ok (P := P) hx h t
      exact ⟨z, hz, fun w => by simp only [Sem.run_bind, guardInt, Result.andThen_ok, hr]⟩
    · rename_i n1 n2 n3
      have hnn := conc_nonnum (fun k n e => n1 k n e) (fun s e => n2 s e) (fun k i l r e => n3 k i l r e) hx
      split at h
      · split at h
        · rename_i b hb
          cases h
          have := fun w => eqA_ok (op := .eql) (ox := ox) (oy := oy) (.inl rfl) hx hy hb w
          exact ⟨.bool b, rfl, fun w => by simp only [Sem.run_bind, (this w).1, Result.andThen_ok, binOp_eql hnn, (this w).2]; rfl⟩
        · cases h
      · split at h
        · rename_i b hb
          cases h
          have := fun w => eqA_ok (op := .neq) (ox := ox) (oy := oy) (.inr rfl) hx hy hb w
          exact ⟨.bool !b, rfl, fun w => by simp only [Sem.run_bind, (this w).1, Result.andThen_ok, binOp_neq hnn, (this w).2]; rfl⟩
        · cases h
      · cases h
theorem unA_ok {op : UnOp} {a r : AV} {x : Value} (hx : conc ρ a = some x) (h : unA op a = some r) : ∃ z, conc ρ r = some z ∧ ∀ w, (Op.unary op x).run P w = .ok z w := by
  unfold unA at h
  split at h
  · simp only [conc, Option.some.injEq] at hx; subst hx
    cases h
    exact ⟨_, rfl, fun w => rfl⟩
  · simp only [conc, Option.some.injEq] at hx; subst hx
    simp only [intA, Option.some.injEq] at h
    subst h
    exact ⟨_, rfl, fun w => rfl⟩
  · simp only [conc, Option.some.injEq] at hx; subst hx
    cases h
    exact ⟨_, rfl, fun w => rfl⟩
  · cases h
theorem convA_ok {s d : TypeId} {a r : AV} {x : Value} (hx : conc ρ a = some x) (h : convA P s d a = some r) : ∃ z, conc ρ r = some z ∧ ∀ w, (convert s d x).run P w = .ok z w := by
  unfold convA at h
  split at h
  · simp only [conc, Option.some.injEq] at hx; subst hx
    split at h
    · rename_i h1 h2
      cases h
      exact ⟨_, rfl, fun w => by simp [convert, run_underlying h1, run_underlying h2, Conv.intToInt]⟩
    · cases h
  · simp only [conc, Option.some.injEq] at hx; subst hx
    split at h
    · rename_i h1 h2
      cases h
      exact ⟨_, rfl, fun w => by simp [convert, run_underlying h1, run_underlying h2]⟩
    · cases h
  · split at h
    case h_2 => cases h
    rename_i h1 h2
    split at h
    case isFalse => cases h
    rename_i hr
    cases h
    simp only [conc, symV] at hx
    split at hx
    case isFalse => cases hx
    rename_i hok
    cases hx
    have hok' := hok
    simp only [symOK, Bool.and_eq_true, decide_eq_true_eq] at hok
    have hw := wrap_64 hok.1 (Int.lt_of_le_of_lt hok.2 (show _ < (9223372036854775808 : Int) by omega))
    refine ⟨.int .i64 _, ?_, fun w => by simp only [convert, run_underlying h1, run_underlying h2, Sem.run_bind, Result.andThen_ok, Conv.intToInt, hw]; rfl⟩
    simp only [conc, symV]
    rw [if_pos (by simp only [symOK, Bool.and_eq_true, decide_eq_true_eq]; exact hok)]
  · cases h
theorem ifaceA_ok {t : TypeId} {a r : AV} {x : Value} (hx : conc ρ a = some x) (h : ifaceA P t a = some r) : ∃ z, conc ρ r = some z ∧ ∀ w, (Instr.makeInterface t x).run P w = .ok z w := by
  unfold ifaceA at h
  split at h
  · cases h
  · rename_i d hn hu
    cases h
    refine ⟨.iface t x, by simp [conc, hx], fun w => ?_⟩
    simp only [Instr.makeInterface, Sem.run_bind, run_underlying hu, Result.andThen_ok]
    cases d <;> first | rfl | exact (hn _ rfl).elim
  · cases h
theorem lenA_ok {t ty : TypeId} {ts : List TypeId} {a r : AV} {x : Value} (hx : conc ρ a = some x) (h : lenA P t a = some r) : ∃ z, conc ρ r = some z ∧ ∀ w, (Builtin.len_ (t :: ts).toArray ty #[x]).run P w = .ok z w := by
  unfold lenA at h
  split at h
  · rename_i hu
    split at h
    · simp only [conc, Option.some.injEq] at hx; subst hx
      cases h
      exact ⟨_, rfl, fun w => by simp [Builtin.len_, run_underlying hu, goInt, size_mk]⟩
    · cases h
  · rename_i hu; cases h; exact ⟨_, rfl, fun w => by simp [Builtin.len_, run_underlying hu, goInt]⟩
  · rename_i e hu
    split at h
    · rename_i n _ hu2
      cases h; exact ⟨_, rfl, fun w => by simp [Builtin.len_, run_underlying hu, run_underlying hu2, goInt]⟩
    · cases h
  · rename_i e hu
    split at h
    · rename_i p n c
      cases h
      cases p with
      | none => cases c <;> simp [conc] at hx; subst hx; exact ⟨_, rfl, fun w => by simp [Builtin.len_, run_underlying hu, goInt]⟩
      | some p => obtain ⟨_, _, _, rfl⟩ := slice_conc hx; exact ⟨_, rfl, fun w => by simp [Builtin.len_, run_underlying hu, goInt]⟩
    · cases h; simp only [conc, Option.map_eq_some_iff] at hx; obtain ⟨_, _, rfl⟩ := hx; exact ⟨_, rfl, fun w => by simp [Builtin.len_, run_underlying hu, goInt]⟩
    · cases h
  · rename_i hu
    split at h
    · simp only [conc, Option.some.injEq] at hx; subst hx
      cases h
      exact ⟨_, rfl, fun w => by simp [Builtin.len_, run_underlying hu, goInt]⟩
    · cases h
  · cases h
theorem capA_ok {t ty : TypeId} {ts : List TypeId} {a r : AV} {x : Value} (hx : conc ρ a = some x) (h : capA P t a = some r) : ∃ z, conc ρ r = some z ∧ ∀ w, (Builtin.cap_ (t :: ts).toArray ty #[x]).run P w = .ok z w := by
  unfold capA at h
  split at h
  · rename_i e hu
    split at h
    · rename_i p _ n
      cases h
      cases p with
      | none => simp only [conc, Option.some.injEq] at hx; subst hx; exact ⟨_, rfl, fun w => by simp [Builtin.cap_, run_underlying hu, goInt]⟩
      | some p => obtain ⟨_, _, _, rfl⟩ := slice_conc hx; exact ⟨_, rfl, fun w => by simp [Builtin.cap_, run_underlying hu, goInt, Cap.conc]⟩
    · cases h
  · cases h
theorem biA_ok {b : Builtin} {ts : Array TypeId} {ty : TypeId} {args : List AV} {r : AV} {xs : List Value} (hx : concL ρ args = some xs) (h : biA P b ts.toList args = some r) :
    ∃ z, conc ρ r = some z ∧ ∀ cs w, (builtin b ts ty cs xs.toArray).run P w = .ok (.value z) w := by
  obtain ⟨ts⟩ := ts
  simp only at h
  unfold biA at h
  split at h
  · split at h
    · rename_i tail _
      obtain ⟨x, y, h1, h2, rfl⟩ := concL_cons hx
      simp only [concL, Option.some.injEq] at h2; subst h2
      obtain ⟨z, hz, hr⟩ := lenA_ok (ty := ty) (ts := tail) h1 h
      exact ⟨z, hz, fun cs w => by simp [builtin, hr w]⟩
    · cases h
  · split at h
    · rename_i tail _
      obtain ⟨x, y, h1, h2, rfl⟩ := concL_cons hx
      simp only [concL, Option.some.injEq] at h2; subst h2
      obtain ⟨z, hz, hr⟩ := capA_ok (ty := ty) (ts := tail) h1 h
      exact ⟨z, hz, fun cs w => by simp [builtin, hr w]⟩
    · cases h
  · split at h
    · obtain ⟨x, y, h1, h2, rfl⟩ := concL_cons hx
      obtain ⟨x', y', h1', h2', rfl⟩ := concL_cons h2
      simp only [concL, Option.some.injEq] at h2'; subst h2'
      simp only [conc, Option.some.injEq] at h1 h1'; subst h1 h1'
      cases h
      exact ⟨_, rfl, fun cs w => by simp [builtin, Builtin.min_, Builtin.min2]⟩
    · cases h
  · split at h
    · obtain ⟨x, y, h1, h2, rfl⟩ := concL_cons hx
      obtain ⟨x', y', h1', h2', rfl⟩ := concL_cons h2
      simp only [concL, Option.some.injEq] at h2'; subst h2'
      simp only [conc, Option.some.injEq] at h1 h1'; subst h1 h1'
      cases h
      exact ⟨_, rfl, fun cs w => by simp [builtin, Builtin.max_, Builtin.max2]⟩
    · cases h
  · cases h
theorem map_toList {α β : Type} (g : α → β) (a : Array α) : a.map g = (a.toList.map g).toArray := by
  apply Array.ext'
  simp
theorem optO_ok' {f : Operand → Option AV} {ev : Operand → Value} {x : Option Operand} {u : Option AV} (hx : ∀ y, x = some y → ∀ u, f y = some u → conc ρ u = some (ev y)) (h : optO f x = some u) : OptC ρ u (x.map ev) := by
  cases x with
  | none => simp [optO] at h; subst h; trivial
  | some y =>
    simp only [optO] at h
    split at h
    · cases h
    · rename_i v hv
      cases h
      exact hx y rfl v hv

/-- WHAT 'pop' TELLS THE MODEL DOES. -/
theorem pop_ok {f : Operand → Option AV} {ev : Operand → Value} {o : Oper} {r : AV} (hf : ∀ x ∈ o.op.operands, ∀ u, f x = some u → conc ρ u = some (ev x)) (h : pop P o.op f = some r) :
    ∃ z, conc ρ r = some z ∧ ∀ w, (execOp ev o).run P w = .ok (.value z) w := by
  obtain ⟨dst, op, ty, pos, aft, gd⟩ := o
  simp only at hf h
  unfold pop at h
  split at h
  · rename_i x; exact ⟨_, hf x (by simp [Op.operands]) _ h, fun w => by simp [execOp]⟩
  · rename_i x; exact ⟨_, hf x (by simp [Op.operands]) _ h, fun w => by simp [execOp]⟩
  · rename_i c a b
    split at h
    · rename_i t hc
      have hcc := hf c (by simp [Op.operands]) _ hc
      simp only [conc, Option.some.injEq] at hcc
      cases t with
      | true => rw [cond_true] at h; exact ⟨_, hf a (by simp [Op.operands]) _ h, fun w => by simp [execOp, ← hcc, asBool]⟩
      | false => rw [cond_false] at h; exact ⟨_, hf b (by simp [Op.operands]) _ h, fun w => by simp [execOp, ← hcc, asBool]⟩
    · cases h
  · rename_i t ps
    split at h
    · cases h
    · rename_i q hq
      obtain ⟨h1, h2⟩ := partsO_ok (ρ := ρ) (ev := ev) (fun x hx => hf x (by simpa [Op.operands] using hx)) hq
      obtain ⟨z, hz, hr⟩ := buildA_ok (P := P) h1 h2 h
      refine ⟨z, hz, fun w => ?_⟩
      have : (ps.map fun (i, x) => (i, ev x)) = (ps.toList.map fun p => (p.1, ev p.2)).toArray := map_toList _ _
      simp only [execOp, this, Sem.run_bind, hr, Result.andThen_ok, Sem.run_pure]
  · rename_i t x i
    split at h
    · cases h
    · rename_i v hv
      obtain ⟨z, hz, hr⟩ := fieldA_ok (hf x (by simp [Op.operands]) _ hv) h
      exact ⟨z, hz, fun w => by simp [execOp, hr]⟩
  · rename_i t x i
    split at h
    · cases h
    · rename_i v hv
      obtain ⟨z, hz, hr⟩ := fieldAddrA_ok (hf x (by simp [Op.operands]) _ hv) h
      exact ⟨z, hz, fun w => by simp [execOp, hr]⟩
  · rename_i t x i
    split at h
    · rename_i v j hv hj
      obtain ⟨z, hz, hr⟩ := indexAddrA_ok (hf x (by simp [Op.operands]) _ hv) (hf i (by simp [Op.operands]) _ hj) h
      exact ⟨z, hz, fun w => by simp [execOp, hr]⟩
    · cases h
  · rename_i t x i
    split at h
    · rename_i v j hv hj
      obtain ⟨z, hz, hr⟩ := indexA_ok (hf x (by simp [Op.operands]) _ hv) (hf i (by simp [Op.operands]) _ hj) h
      exact ⟨z, hz, fun w => by simp [execOp, hr]⟩
    · cases h
  · rename_i t x lo hi
    split at h
    · rename_i v l h' hv hl hh
      obtain ⟨z, hz, hr⟩ := sliceA_ok (hf x (by simp [Op.operands]) _ hv) (optO_ok' (ev := ev) (fun y hy => hf y (by simp [Op.operands, hy])) hl) (optO_ok' (ev := ev) (fun y hy => hf y (by simp [Op.operands, hy])) hh) h
      exact ⟨z, hz, fun w => by simp [execOp, hr]⟩
    · cases h
  · rename_i op t x y _
    split at h
    · rename_i a b ha hb
      obtain ⟨z, hz, hr⟩ := binA_ok (hf x (by simp [Op.operands]) _ ha) (hf y (by simp [Op.operands]) _ hb) h
      refine ⟨z, hz, fun w => ?_⟩
      have := hr w
      simp only [execOp, Sem.run_bind] at this ⊢
      rw [this]
      rfl
    · cases h
  · rename_i op _ x
    split at h
    · rename_i a ha
      obtain ⟨z, hz, hr⟩ := unA_ok (P := P) (hf x (by simp [Op.operands]) _ ha) h
      exact ⟨z, hz, fun w => by simp [execOp, hr]⟩
    · cases h
  · rename_i s d x
    split at h
    · rename_i a ha
      obtain ⟨z, hz, hr⟩ := convA_ok (P := P) (hf x (by simp [Op.operands]) _ ha) h
      exact ⟨z, hz, fun w => by simp [execOp, hr]⟩
    · cases h
  · rename_i t x
    split at h
    · rename_i a ha
      obtain ⟨z, hz, hr⟩ := ifaceA_ok (P := P) (hf x (by simp [Op.operands]) _ ha) h
      exact ⟨z, hz, fun w => by simp [execOp, hr]⟩
    · cases h
  · rename_i fn a b
    split at h
    · rename_i l q hl hq
      cases h
      have h1 := listO_ok (ρ := ρ) (ev := ev) (fun x hx => hf x (Array.mem_append.2 (.inl (Array.mem_toList_iff.1 hx)))) hl
      have h2 := listO_ok (ρ := ρ) (ev := ev) (fun x hx => hf x (Array.mem_append.2 (.inr (Array.mem_toList_iff.1 hx)))) hq
      refine ⟨.func fn (a.toList.map ev).toArray (b.toList.map ev).toArray, by simp [conc, h1, h2], fun w => by simp only [execOp, Instr.makeFunc, map_toList]; rfl⟩
    · cases h
  · rename_i x i
    split at h
    · rename_i l hl
      have := hf x (by simp [Op.operands]) _ hl
      simp only [conc, Option.map_eq_some_iff] at this
      obtain ⟨vs, hvs, he⟩ := this
      obtain ⟨v, hv, hc⟩ := concL_get hvs h
      exact ⟨v, hc, fun w => by simp [execOp, ← he, Instr.extract, hv]⟩
    · cases h
  · rename_i x
    split at h
    · rename_i p hp
      cases h
      have := hf x (by simp [Op.operands]) _ hp
      obtain ⟨g, hg, he⟩ := ptr_conc this
      exact ⟨_, this, fun w => by simp [execOp, he]⟩
    · rename_i g a b hp
      cases h
      have := hf x (by simp [Op.operands]) _ hp
      have he := this
      simp only [conc, Option.bind_eq_some_iff, Option.map_eq_some_iff] at he
      obtain ⟨_, _, _, _, he⟩ := he
      exact ⟨_, this, fun w => by simp [execOp, ← he]⟩
    · cases h
  · rename_i c
    split at h
    · rename_i b hb
      split at h
      · rename_i l hl
        have h1 := listO_ok (ρ := ρ) (ev := ev) (fun x hx => hf x (Array.mem_append.2 (.inr (Array.mem_toList_iff.1 hx)))) hl
        obtain ⟨z, hz, hr⟩ := biA_ok (P := P) (ty := ty) h1 h
        refine ⟨z, hz, fun w => ?_⟩
        have e : c.args.map ev = (c.args.toList.map ev).toArray := map_toList _ _
        simp only [execOp, resolve, hb, Sem.run_bind, Sem.run_pure, Result.andThen_ok, invoke, e, hr]
      · cases h
    · cases h
  · cases h
end
end
end Ev
end Go.Proofs.YtmolojjhnbchbaaGreatDoor
