/- The evaluator, part 4: arithmetic, comparing, conversions, builtins; all operations that look at no memory. No condition. -/
import Derived.Test.YtmolojjhnbchbaaGreatDoorEv3
import Derived.Laws.StructEq
set_option linter.all false
namespace Go.Proofs.YtmolojjhnbchbaaGreatDoor
open Go.RowKit

namespace Ev
noncomputable section

def intA (op : BinOp) (k : IntKind) (a b : Int) : Option AV :=
  match op with
  | .add => some (.int k (k.wrap (a + b)))
  | .sub => some (.int k (k.wrap (a - b)))
  | .mul => some (.int k (k.wrap (a * b)))
  | .quo => bif decide (b = 0) then none else some (.int k (k.wrap (a.tdiv b)))
  | .rem => bif decide (b = 0) then none else some (.int k (a.tmod b))
  | .and => some (.int k (k.wrap (BitVec.ofInt k.bits a &&& BitVec.ofInt k.bits b).toNat))
  | .or => some (.int k (k.wrap (BitVec.ofInt k.bits a ||| BitVec.ofInt k.bits b).toNat))
  | .xor => some (.int k (k.wrap (BitVec.ofInt k.bits a ^^^ BitVec.ofInt k.bits b).toNat))
  | .andNot => some (.int k (k.wrap (BitVec.ofInt k.bits a &&& ~~~(BitVec.ofInt k.bits b)).toNat))
  | .eql => some (.bool (a == b))
  | .neq => some (.bool (a != b))
  | .lss => some (.bool (decide (a < b)))
  | .leq => some (.bool (decide (a ≤ b)))
  | .gtr => some (.bool (decide (a > b)))
  | .geq => some (.bool (decide (a ≥ b)))
  | _ => none
def shA (op : BinOp) (k : IntKind) (a b : Int) : Option AV :=
  bif decide (b < 0) then none else
  match op with
  | .shl => some (.int k (k.wrap (a * 2 ^ (min b.toNat k.bits))))
  | .shr => some (.int k (a.fdiv (2 ^ (min b.toNat k.bits))))
  | _ => none
def strA (op : BinOp) (a b : List UInt8) : Option AV :=
  match op with
  | .add => bif Nat.ble (a.length + b.length) 9223372036854775807 then some (.str (a ++ b)) else none
  | .eql => some (.bool (a == b))
  | .neq => some (.bool !(a == b))
  | .lss => some (.bool (Op.bytesLess a b))
  | .leq => some (.bool (Op.bytesLess a b || (a == b)))
  | .gtr => some (.bool !(Op.bytesLess a b || (a == b)))
  | .geq => some (.bool !(Op.bytesLess a b))
  | _ => none

section
variable (P : Program)
/-- Fields of two structs, one behind the other. -/
def aeqF (eq : TypeId → AV → AV → Option Bool) : List Field → List AV → List AV → Option Bool
  | [], _, _ => some true
  | f :: fs, xs, ys => if f.name = "_" then aeqF eq fs xs ys else
    match partA P f.type xs f.offset, partA P f.type ys f.offset with
    | some a, some b => (match eq f.type a b with
      | some true => aeqF eq fs xs ys
      | some false => some false
      | none => none)
    | _, _ => none
def aeq : Nat → TypeId → AV → AV → Option Bool
  | 0, _, _, _ => none
  | d + 1, t, x, y =>
    match x with
    | .bool a => (match y, P.underlying t with | .bool b, some .bool => some (a == b) | _, _ => none)
    | .int k a => (match y, P.underlying t with | .int k' b, some (.int _) => if k = k' then some (a == b) else none | _, _ => none)
    | .str a => (match y, P.underlying t with | .str b, some .string => some (a == b) | _, _ => none)
    | .ptr none => (match y, P.underlying t with | .ptr b, some (.pointer _) => some b.isNone | _, _ => none)
    | .ptr (some _) => (match y, P.underlying t with | .ptr none, some (.pointer _) => some false | _, _ => none)
    | .nilIface => (match y, P.underlying t with | .nilIface, some (.interface _) => some true | .iface _ _, some (.interface _) => some false | _, _ => none)
    | .iface t1 v => (match y, P.underlying t with
      | .nilIface, some (.interface _) => some false
      | .iface u z, some (.interface _) => if t1 = u then (match P.info? t1 with
        | some i => bif i.comparable then aeq d t1 v z else none
        | none => none) else some false
      | _, _ => none)
    | .agg xs => (match y, P.underlying t with | .agg ys, some (.struct fs) => bif P.stoodInHeld t then none else aeqF P (aeq d) fs.toList xs ys | _, _ => none)
    | .slice none _ (.known _) => (match y, P.underlying t with | .slice b _ (.known _), some (.slice _) => some b.isNone | .slice (some _) _ _, some (.slice _) => some false | .slice0 _ _ _, some (.slice _) => some false | _, _ => none)
    | .slice (some _) _ _ => (match y, P.underlying t with | .slice none _ (.known _), some (.slice _) => some false | _, _ => none)
    | .slice0 _ _ _ => (match y, P.underlying t with | .slice none _ (.known _), some (.slice _) => some false | _, _ => none)
    | .map none => (match y, P.underlying t with | .map b, some (.map _ _) => some b.isNone | _, _ => none)
    | .map (some _) => (match y, P.underlying t with | .map none, some (.map _ _) => some false | _, _ => none)
    | .nilFunc => (match y, P.underlying t with | .nilFunc, some (.func _ _ _) => some true | .func _ _ _, some (.func _ _ _) => some false | _, _ => none)
    | .func _ _ _ => (match y, P.underlying t with | .nilFunc, some (.func _ _ _) => some false | _, _ => none)
    | _ => none
/-- == on values of a type; 'c': one of the operands is a literal. -/
def eqA (t : TypeId) (c : Bool) (x y : AV) : Option Bool :=
  match x, y with
  | .nilIface, .nilIface => bif c then aeq P 10000 t x y else none
  | .agg _, .agg _ => bif P.eqGuardType P.depth t then none else aeq P 10000 t x y
  | _, _ => aeq P 10000 t x y
end
section
variable {P : Program} {ρ : Env}
theorem toList_mk (l : List UInt8) : (ByteArray.mk l.toArray).toList = l := by rw [ByteArray.toList_eq]
theorem size_mk (l : List UInt8) : (ByteArray.mk l.toArray).size = l.length := by simp [ByteArray.size]
theorem aeqF_ok {d : Nat} {eq : TypeId → AV → AV → Option Bool}
    (heq : ∀ t a b x y r, conc ρ a = some x → conc ρ b = some y → eq t a b = some r → ∀ w, (Op.equalIn d t x y).run P w = .ok r w)
    {xs ys : List AV} {vx vy : List Value} (hx : concL ρ xs = some vx) (hy : concL ρ ys = some vy) (w : World) :
    ∀ (fs : List Field) (r : Bool), aeqF P eq fs xs ys = some r →
    ((forIn fs ((none, ()) : Option Bool × Unit) fun f _ => do
        if f.name ≠ "_" then
          if !(← Op.equalIn d f.type (← part f.type vx.toArray f.offset) (← part f.type vy.toArray f.offset)) then pure (.done (some false, ())) else pure (.yield (none, ()))
        else pure (.yield (none, ())) : Sem (Option Bool × Unit)).run P w) = .ok (if r then none else some false, ()) w
  | [], r, h => by simp [aeqF] at h; subst h; rfl
  | f :: fs, r, h => by
    rw [List.forIn_cons]
    unfold aeqF at h
    by_cases hn : f.name = "_"
    · rw [if_pos hn] at h
      have ih := aeqF_ok heq hx hy w fs r h
      simp only [hn, ne_eq, not_true_eq_false, if_false, pure_bind]
      exact ih
    · rw [if_neg hn] at h
      split at h
      · rename_i a b ha hb
        obtain ⟨va, hva, ra⟩ := partA_ok hx ha
        obtain ⟨vb, hvb, rb⟩ := partA_ok hy hb
        split at h
        · rename_i he
          have ih := aeqF_ok heq hx hy w fs r h
          have := heq _ _ _ _ _ _ hva hvb he w
          simp only [hn, ne_eq, not_false_eq_true, if_true, Sem.run_bind, ra, rb, Result.andThen_ok, this, Bool.not_true, Bool.false_eq_true, if_false, Sem.run_pure]
          exact ih
        · rename_i he
          cases h
          have := heq _ _ _ _ _ _ hva hvb he w
          simp only [hn, ne_eq, not_false_eq_true, if_true, Sem.run_bind, ra, rb, Result.andThen_ok, this, Bool.not_false, Sem.run_pure, Bool.false_eq_true, if_false]
        · cases h
      · cases h
set_option maxHeartbeats 2000000 in
theorem aeq_ok : ∀ (d : Nat) (t : TypeId) (a b : AV) (x y : Value) (r : Bool), conc ρ a = some x → conc ρ b = some y → aeq P d t a b = some r → ∀ w, (Op.equalIn d t x y).run P w = .ok r w
  | 0, _, _, _, _, _, _, _, _, h, _ => by simp [aeq] at h
  | d + 1, t, a, b, x, y, r, hx, hy, h, w => by
    unfold aeq at h
    split at h
    · -- bool
      split at h
      · rename_i hu; cases h; simp only [conc, Option.some.injEq] at hx hy; subst hx hy; simp [Op.equalIn, run_underlying hu]
      · cases h
    · split at h
      · rename_i hu
        split at h
        · rename_i hk; subst hk; cases h; simp only [conc, Option.some.injEq] at hx hy; subst hx hy; simp [Op.equalIn, run_underlying hu]
        · cases h
      · cases h
    · split at h
      · rename_i s1 _ s2 hu
        cases h
        simp only [conc, Option.some.injEq] at hx hy
        subst hx hy
        simp only [Op.equalIn, Sem.run_bind, run_underlying hu, Result.andThen_ok, Sem.run_pure]
        rw [beq_toListBytes, toList_mk, toList_mk]
      · cases h
    · split at h
      · rename_i b' _ hu
        cases h; simp only [conc, Option.some.injEq] at hx; subst hx
        cases b' with
        | none => simp only [conc, Option.some.injEq] at hy; subst hy; simp [Op.equalIn, run_underlying hu]
        | some p => obtain ⟨g, hg, rfl⟩ := ptr_conc hy; simp [Op.equalIn, run_underlying hu]
      · cases h
    · split at h
      · rename_i hu
        cases h
        obtain ⟨g, hg, rfl⟩ := ptr_conc hx
        simp only [conc, Option.some.injEq] at hy; subst hy
        simp [Op.equalIn, run_underlying hu]
      · cases h
    · simp only [conc, Option.some.injEq] at hx; subst hx
      split at h
      · rename_i hu; cases h; simp only [conc, Option.some.injEq] at hy; subst hy; simp [Op.equalIn, run_underlying hu]
      · rename_i hu; cases h; simp only [conc, Option.map_eq_some_iff] at hy; obtain ⟨z, _, rfl⟩ := hy; simp [Op.equalIn, run_underlying hu]
      · cases h
    · rename_i t1 v
      simp only [conc, Option.map_eq_some_iff] at hx
      obtain ⟨xv, hxv, rfl⟩ := hx
      split at h
      · rename_i hu; cases h; simp only [conc, Option.some.injEq] at hy; subst hy; simp [Op.equalIn, run_underlying hu]
      · rename_i u z _ hu
        simp only [conc, Option.map_eq_some_iff] at hy
        obtain ⟨yv, hyv, rfl⟩ := hy
        split at h
        · rename_i htu
          subst htu
          split at h
          · rename_i i hi
            cases hc : i.comparable with
            | false => rw [hc, cond_false] at h; cases h
            | true =>
              rw [hc, cond_true] at h
              have := aeq_ok d t1 v z xv yv r hxv hyv h w
              simp [Op.equalIn, run_underlying hu, typeInfo, hi, hc, this]
          · cases h
        · rename_i htu; cases h; simp [Op.equalIn, run_underlying hu, htu]
      · cases h
    · rename_i xs
      simp only [conc, Option.map_eq_some_iff] at hx
      obtain ⟨vx, hvx, rfl⟩ := hx
      split at h
      · rename_i ys fs hu
        simp only [conc, Option.map_eq_some_iff] at hy
        obtain ⟨vy, hvy, rfl⟩ := hy
        cases hs : P.stoodInHeld t with
        | true => rw [hs, cond_true] at h; cases h
        | false =>
          rw [hs, cond_false] at h
          have := aeqF_ok (P := P) (d := d) (aeq_ok d) hvx hvy w fs.toList r h
          simp only [Op.equalIn, Sem.run_bind, run_underlying hu, Result.andThen_ok, run_program, hs, Bool.false_eq_true, if_false]
          rw [← Array.forIn_toList]
          rw [this]
          cases r <;> rfl
      · cases h
    · -- a nil slice
      simp only [conc, Option.some.injEq] at hx; subst hx
      split at h
      · rename_i b _ _ _ hu
        cases h
        cases b with
        | none => simp only [conc, Option.some.injEq] at hy; subst hy; simp [Op.equalIn, run_underlying hu]
        | some p => obtain ⟨g, _, _, rfl⟩ := slice_conc hy; simp [Op.equalIn, run_underlying hu]
      · rename_i hu; cases h; obtain ⟨g, _, _, rfl⟩ := slice_conc hy; simp [Op.equalIn, run_underlying hu]
      · rename_i hu; cases h; simp only [conc, Option.map_eq_some_iff] at hy; obtain ⟨g, _, rfl⟩ := hy; simp [Op.equalIn, run_underlying hu]
      · cases h
    · split at h
      · rename_i hu; cases h; obtain ⟨g, _, _, rfl⟩ := slice_conc hx; simp only [conc, Option.some.injEq] at hy; subst hy; simp [Op.equalIn, run_underlying hu]
      · cases h
    · split at h
      · rename_i hu; cases h; simp only [conc, Option.map_eq_some_iff] at hx; obtain ⟨g, _, rfl⟩ := hx; simp only [conc, Option.some.injEq] at hy; subst hy; simp [Op.equalIn, run_underlying hu]
      · cases h
    · simp only [conc, Option.some.injEq] at hx; subst hx
      split at h
      · rename_i b _ _ hu
        cases h
        cases b with
        | none => simp only [conc, Option.some.injEq] at hy; subst hy; simp [Op.equalIn, run_underlying hu]
        | some p =>
          simp only [conc, Option.map_eq_some_iff] at hy; obtain ⟨g, _, rfl⟩ := hy; simp [Op.equalIn, run_underlying hu]
      · cases h
    · split at h
      · rename_i hu; cases h; simp only [conc, Option.map_eq_some_iff] at hx; obtain ⟨g, _, rfl⟩ := hx; simp only [conc, Option.some.injEq] at hy; subst hy; simp [Op.equalIn, run_underlying hu]
      · cases h
    · simp only [conc, Option.some.injEq] at hx; subst hx
      split at h
      · rename_i hu; cases h; simp only [conc, Option.some.injEq] at hy; subst hy; simp [Op.equalIn, run_underlying hu]
      · rename_i hu; cases h; simp only [conc, Option.bind_eq_some_iff, Option.map_eq_some_iff] at hy; obtain ⟨_, _, _, _, rfl⟩ := hy; simp [Op.equalIn, run_underlying hu]
      · cases h
    · split at h
      · rename_i hu
        cases h
        simp only [conc, Option.some.injEq] at hy; subst hy
        simp only [conc, Option.bind_eq_some_iff, Option.map_eq_some_iff] at hx; obtain ⟨_, _, _, _, rfl⟩ := hx
        simp [Op.equalIn, run_underlying hu]
      · cases h
    · cases h
def isConstO : Operand → Bool
  | .const _ => true
  | _ => false
theorem conc_agg {a : AV} {z : Array Value} (h : conc ρ a = some (.agg z)) : ∃ l, a = .agg l := by
  cases a with
  | agg l => exact ⟨l, rfl⟩
  | ptr p => cases p <;> simp [conc] at h
  | slice p l c =>
    cases p with
    | none => cases c <;> simp [conc] at h
    | some p => obtain ⟨_, _, _, e⟩ := slice_conc h; cases e
  | func fn f c => simp only [conc, Option.bind_eq_some_iff, Option.map_eq_some_iff] at h; obtain ⟨_, _, _, _, e⟩ := h; cases e
  | map p => cases p <;> simp [conc] at h
  | sym k i l r =>
    simp only [conc] at h
    rcases symV_kind h with ⟨n, e⟩ | ⟨b, e⟩ <;> cases e
  | _ => simp [conc] at h
theorem conc_nilIface {a : AV} (h : conc ρ a = some .nilIface) : a = .nilIface := by
  cases a with
  | nilIface => rfl
  | ptr p => cases p <;> simp [conc] at h
  | slice p l c =>
    cases p with
    | none => cases c <;> simp [conc] at h
    | some p => obtain ⟨_, _, _, e⟩ := slice_conc h; cases e
  | func fn f c => simp only [conc, Option.bind_eq_some_iff, Option.map_eq_some_iff] at h; obtain ⟨_, _, _, _, e⟩ := h; cases e
  | map p => cases p <;> simp [conc] at h
  | sym k i l r =>
    simp only [conc] at h
    rcases symV_kind h with ⟨n, e⟩ | ⟨b, e⟩ <;> cases e
  | _ => simp [conc] at h
theorem eqA_ok {t : TypeId} {a b : AV} {x y : Value} {r : Bool} {op : BinOp} {ox oy : Operand} (hop : op = .eql ∨ op = .neq) (hx : conc ρ a = some x) (hy : conc ρ b = some y)
    (h : eqA P t (isConstO ox || isConstO oy) a b = some r) (w : World) : (eqGuard op t ox oy x y).run P w = .ok () w ∧ (Op.equal t x y).run P w = .ok r w := by
  unfold eqA at h
  split at h
  · cases hc : (isConstO ox || isConstO oy) with
    | false => rw [hc, cond_false] at h; cases h
    | true =>
      rw [hc, cond_true] at h
      refine ⟨?_, aeq_ok 10000 t _ _ x y r hx hy h w⟩
      simp only [conc, Option.some.injEq] at hx hy
      subst hx hy
      rcases hop with rfl | rfl <;> cases ox <;> cases oy <;> simp [isConstO] at hc <;> simp [eqGuard]
  · cases hg : P.eqGuardType P.depth t with
    | true => rw [hg, cond_true] at h; cases h
    | false =>
      rw [hg, cond_false] at h
      refine ⟨?_, aeq_ok 10000 t _ _ x y r hx hy h w⟩
      simp only [conc, Option.map_eq_some_iff] at hx hy
      obtain ⟨vx, _, rfl⟩ := hx
      obtain ⟨vy, _, rfl⟩ := hy
      rcases hop with rfl | rfl <;> simp [eqGuard, hg]
  · rename_i h1 h2
    refine ⟨?_, aeq_ok 10000 t _ _ x y r hx hy h w⟩
    have e : (match x, y with | .nilIface, .nilIface => false | .agg _, .agg _ => false | _, _ => true) = true := by
      split
      · rename_i k1 k2; exact (h1 (conc_nilIface k1) (conc_nilIface k2)).elim
      · rename_i k1 k2; obtain ⟨l, e1⟩ := conc_agg k1; obtain ⟨l', e2⟩ := conc_agg k2; exact (h2 _ _ e1 e2).elim
      · rfl
    rcases hop with rfl | rfl
    · unfold eqGuard
      simp only [Bool.not_true, Bool.false_eq_true, if_false]
      split
      · simp at e
      · simp at e
      · rfl
    · unfold eqGuard
      simp only [Bool.not_true, Bool.false_eq_true, if_false]
      split
      · simp at e
      · simp at e
      · rfl
end
end
end Ev
end Go.Proofs.YtmolojjhnbchbaaGreatDoor
