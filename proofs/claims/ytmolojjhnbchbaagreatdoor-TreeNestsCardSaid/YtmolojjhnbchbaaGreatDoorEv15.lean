/- The evaluator, part 15: functions; what they leave of memory. No condition. -/
import Derived.Test.YtmolojjhnbchbaaGreatDoorEv14
set_option linter.all false
namespace Go.Proofs.YtmolojjhnbchbaaGreatDoor
open Go.RowKit

namespace Ev
noncomputable section

/-- The number under which a block goes on: below b its own, else its place among 'olds'. -/
def posN (i : Nat) : List Nat → Nat → Option Nat
  | [], _ => none
  | j :: l, k => bif Nat.beq j i then some k else posN i l (Nat.succ k)
def renI (b : Nat) (olds : List Nat) (i : Nat) : Option Nat := bif Nat.blt i b then some i else posN i olds b
mutual
def renA (b : Nat) (olds : List Nat) : AV → Option AV
  | .bool x => some (.bool x)
  | .int k n => some (.int k n)
  | .str s => some (.str s)
  | .ptr none => some (.ptr none)
  | .ptr (some p) => match renI b olds p.1 with | none => none | some i => some (.ptr (some (i, p.2)))
  | .slice none l c => some (.slice none l c)
  | .slice (some p) l c => match renI b olds p.1 with | none => none | some i => some (.slice (some (i, p.2)) l c)
  | .slice0 p q d => match renI b olds p.1 with | none => none | some i => some (.slice0 (i, p.2) q d)
  | .map none => some (.map none)
  | .map (some j) => match renI b olds j with | none => none | some i => some (.map (some i))
  | .func fn f c => match renL b olds f, renL b olds c with | some f, some c => some (.func fn f c) | _, _ => none
  | .nilFunc => some .nilFunc
  | .iface t v => match renA b olds v with | none => none | some v => some (.iface t v)
  | .nilIface => some .nilIface
  | .agg l => match renL b olds l with | none => none | some l => some (.agg l)
  | .tuple l => match renL b olds l with | none => none | some l => some (.tuple l)
  | .sym k i l r => some (.sym k i l r)
def renL (b : Nat) (olds : List Nat) : List AV → Option (List AV)
  | [] => some []
  | a :: l => match renA b olds a with
    | none => none
    | some a => match renL b olds l with
      | none => none
      | some l => some (a :: l)
end
def renE (b : Nat) (olds : List Nat) : List (AV × AV × Nat) → Option (List (AV × AV × Nat))
  | [] => some []
  | (k, v, n) :: l => match renA b olds k, renA b olds v, renE b olds l with
    | some k, some v, some l => some ((k, v, n) :: l)
    | _, _, _ => none
def renB (b : Nat) (olds : List Nat) : Blk → Option Blk
  | .cells c e op => match renL b olds c with | none => none | some c => some (.cells c e op)
  | .mp es cl => match renE b olds es with | none => none | some es => some (.mp es cl)
/-- New blocks that go on. -/
def keepN (m' : Mem) (b : Nat) (olds : List Nat) : List Nat → Mem → Option Mem
  | [], acc => some acc
  | j :: l, acc => match m'.get j with
    | none => none
    | some x => match renB b olds x with
      | none => none
      | some x => keepN m' b olds l (acc.new x)
/-- Old blocks that were written. -/
def keepW (m' : Mem) (b : Nat) (olds : List Nat) : List Nat → Mem → Option Mem
  | [], acc => some acc
  | j :: l, acc => bif Nat.blt j b then (match m'.get j with
    | none => keepW m' b olds l (acc.write j none)
    | some x => match renB b olds x with
      | none => none
      | some x => keepW m' b olds l (acc.write j (some x))) else keepW m' b olds l acc
def nodupB : List Nat → Bool
  | [] => true
  | j :: l => !(elemN j l) && nodupB l
def allGe (b : Nat) : List Nat → Bool
  | [] => true
  | j :: l => Nat.ble b j && allGe b l
/-- What of a call's memory goes on: the old blocks; the new ones of the list. -/
def gcM (m m' : Mem) (olds : List Nat) (r : AV) : Option (AV × Mem) :=
  bif nodupB olds && allGe m.next olds then
    match renA m.next olds r with
    | none => none
    | some r => match keepN m' m.next olds olds m with
      | none => none
      | some a => match keepW m' m.next olds m'.log a with
        | none => none
        | some a => some (r, a)
  else none

mutual
/-- The new blocks that a value leads to. -/
def idsA (b : Nat) : AV → List Nat → List Nat
  | .ptr (some p), acc => bif Nat.blt p.1 b || elemN p.1 acc then acc else p.1 :: acc
  | .slice (some p) _ _, acc => bif Nat.blt p.1 b || elemN p.1 acc then acc else p.1 :: acc
  | .slice0 p _ _, acc => bif Nat.blt p.1 b || elemN p.1 acc then acc else p.1 :: acc
  | .map (some j), acc => bif Nat.blt j b || elemN j acc then acc else j :: acc
  | .func _ f c, acc => idsL b f (idsL b c acc)
  | .iface _ v, acc => idsA b v acc
  | .agg l, acc => idsL b l acc
  | .tuple l, acc => idsL b l acc
  | _, acc => acc
def idsL (b : Nat) : List AV → List Nat → List Nat
  | [], acc => acc
  | a :: l, acc => idsL b l (idsA b a acc)
end
def idsE (b : Nat) : List (AV × AV × Nat) → List Nat → List Nat
  | [], acc => acc
  | (k, v, _) :: l, acc => idsE b l (idsA b v (idsA b k acc))
def idsB (b : Nat) : Option Blk → List Nat → List Nat
  | some (.cells c _ _), acc => idsL b c acc
  | some (.mp es _), acc => idsE b es acc
  | _, acc => acc
/-- All new blocks that are led to: 'todo' those whose cells were not looked at. -/
def reach (m' : Mem) (b : Nat) : Nat → List Nat → List Nat → List Nat
  | 0, _, seen => seen
  | f + 1, [], seen => seen
  | f + 1, j :: todo, seen => bif elemN j seen then reach m' b f todo seen else reach m' b f (idsB b (m'.get j) todo) (j :: seen)
def rootsW (m' : Mem) (b : Nat) : List Nat → List Nat → List Nat
  | [], acc => acc
  | j :: l, acc => bif Nat.blt j b then rootsW m' b l (idsB b (m'.get j) acc) else rootsW m' b l acc
def gcA (m m' : Mem) (r : AV) : Option (AV × Mem) :=
  gcM m m' (reach m' m.next 100000 (idsA m.next r (rootsW m' m.next m'.log [])) []) r

/-- The worlds' blocks under their new numbers. -/
def Env.gc (ρ : Env) (b : Nat) (olds : List Nat) : Env :=
  ⟨fun i => if i < b then ρ.σ i else match olds[i - b]? with | none => none | some j => ρ.σ j, fun i => if i < b then ρ.κ i else match olds[i - b]? with | none => 0 | some j => ρ.κ j, ρ.y⟩
theorem posN_ok : ∀ {olds : List Nat} {i k r : Nat}, posN i olds k = some r → ∃ j, r = k + j ∧ olds[j]? = some i
  | [], i, k, r, h => by simp [posN] at h
  | x :: l, i, k, r, h => by
    unfold posN at h
    cases hx : Nat.beq x i with
    | true => rw [hx, cond_true] at h; cases h; rw [Nat.beq_eq] at hx; exact ⟨0, rfl, by simp [hx]⟩
    | false =>
      rw [hx, cond_false] at h
      obtain ⟨j, h1, h2⟩ := posN_ok h
      exact ⟨j + 1, by rw [h1]; omega, by simpa using h2⟩
theorem renI_ok {ρ : Env} {b : Nat} {olds : List Nat} {i r : Nat} (h : renI b olds i = some r) : (ρ.gc b olds).σ r = ρ.σ i ∧ (ρ.gc b olds).κ r = ρ.κ i := by
  unfold renI at h
  cases hb : Nat.blt i b with
  | true =>
    rw [hb, cond_true] at h; cases h
    unfold Nat.blt at hb; rw [Nat.ble_eq] at hb
    have : i < b := hb
    simp [Env.gc, this]
  | false =>
    rw [hb, cond_false] at h
    obtain ⟨j, rfl, h2⟩ := posN_ok h
    have h1 : ¬ b + j < b := by omega
    simp [Env.gc, h1, h2]
mutual
theorem renA_ok {ρ : Env} {b : Nat} {olds : List Nat} : ∀ (a r : AV), renA b olds a = some r → conc (ρ.gc b olds) r = conc ρ a
  | .bool _, r, h => by simp only [renA, Option.some.injEq] at h; subst h; rfl
  | .int _ _, r, h => by simp only [renA, Option.some.injEq] at h; subst h; rfl
  | .str _, r, h => by simp only [renA, Option.some.injEq] at h; subst h; rfl
  | .ptr none, r, h => by simp only [renA, Option.some.injEq] at h; subst h; rfl
  | .ptr (some p), r, h => by
    simp only [renA] at h
    split at h
    · cases h
    · rename_i i hi
      cases h
      obtain ⟨h1, _⟩ := renI_ok (ρ := ρ) hi
      simp only [conc, h1]
  | .slice none l c, r, h => by simp only [renA, Option.some.injEq] at h; subst h; cases c <;> rfl
  | .slice (some p) l c, r, h => by
    simp only [renA] at h
    split at h
    · cases h
    · rename_i i hi
      cases h
      obtain ⟨h1, h2⟩ := renI_ok (ρ := ρ) hi
      simp only [conc, h1, h2]
  | .slice0 p q d, r, h => by
    simp only [renA] at h
    split at h
    · cases h
    · rename_i i hi
      cases h
      obtain ⟨h1, h2⟩ := renI_ok (ρ := ρ) hi
      simp only [conc, h1, h2]
  | .map none, r, h => by simp only [renA, Option.some.injEq] at h; subst h; rfl
  | .map (some j), r, h => by
    simp only [renA] at h
    split at h
    · cases h
    · rename_i i hi
      cases h
      obtain ⟨h1, h2⟩ := renI_ok (ρ := ρ) hi
      simp only [conc, h1]
  | .func fn f c, r, h => by
    simp only [renA] at h
    split at h
    · rename_i f' c' h1 h2
      cases h
      simp only [conc, renL_ok f f' h1, renL_ok c c' h2]
    · cases h
  | .nilFunc, r, h => by simp only [renA, Option.some.injEq] at h; subst h; rfl
  | .iface t v, r, h => by
    simp only [renA] at h
    split at h
    · cases h
    · rename_i v' h1
      cases h
      simp only [conc, renA_ok v v' h1]
  | .nilIface, r, h => by simp only [renA, Option.some.injEq] at h; subst h; rfl
  | .sym .., r, h => by simp only [renA, Option.some.injEq] at h; subst h; rfl
  | .agg l, r, h => by
    simp only [renA] at h
    split at h
    · cases h
    · rename_i l' h1
      cases h
      simp only [conc, renL_ok l l' h1]
  | .tuple l, r, h => by
    simp only [renA] at h
    split at h
    · cases h
    · rename_i l' h1
      cases h
      simp only [conc, renL_ok l l' h1]
theorem renL_ok {ρ : Env} {b : Nat} {olds : List Nat} : ∀ (l r : List AV), renL b olds l = some r → concL (ρ.gc b olds) r = concL ρ l
  | [], r, h => by simp only [renL, Option.some.injEq] at h; subst h; rfl
  | a :: l, r, h => by
    simp only [renL] at h
    split at h
    · cases h
    · rename_i a' h1
      split at h
      · cases h
      · rename_i l' h2
        cases h
        simp only [concL, renA_ok a a' h1, renL_ok l l' h2]
end
theorem renE_ok {ρ : Env} {b : Nat} {olds : List Nat} : ∀ (l r : List (AV × AV × Nat)), renE b olds l = some r → concE (ρ.gc b olds) r = concE ρ l
  | [], r, h => by simp only [renE, Option.some.injEq] at h; subst h; rfl
  | (k, v, n) :: l, r, h => by
    unfold renE at h
    split at h
    · rename_i k' v' l' h1 h2 h3
      cases h
      simp only [concE, renA_ok k k' h1, renA_ok v v' h2, renE_ok l l' h3]
    · cases h
theorem renB_ok {ρ : Env} {b : Nat} {olds : List Nat} {x y : Blk} {i r : Nat} {w : World} {g : Nat} (h : renB b olds x = some y) (hk : (ρ.gc b olds).κ r = ρ.κ i) (hb : BlkOK ρ i x w g) : BlkOK (ρ.gc b olds) r y w g := by
  cases x with
  | mp es cl =>
    simp only [renB] at h
    split at h
    · cases h
    · rename_i es' he
      cases h
      obtain ⟨vs, h1, h2⟩ := hb
      exact ⟨vs, by rw [renE_ok es es' he]; exact h1, h2⟩
  | cells c e op =>
    simp only [renB] at h
    split at h
    · cases h
    · rename_i c' hc
      cases h
      obtain ⟨vs, ex, fr, h1, h2, h3, h4⟩ := hb
      refine ⟨vs, ex, fr, by rw [renL_ok c c' hc]; exact h1, h2, h3, ?_⟩
      cases op with
      | none => exact h4
      | some sz => simp only [Room] at h4 ⊢; rw [hk]; exact h4
theorem elemN_false {i : Nat} {l : List Nat} (h : elemN i l = false) : i ∉ l := fun e => by rw [elemN_iff.2 e] at h; cases h
theorem nodupB_ok : ∀ {l : List Nat}, nodupB l = true → l.Nodup
  | [], _ => List.nodup_nil
  | j :: l, h => by
    simp only [nodupB, Bool.and_eq_true, Bool.not_eq_true'] at h
    exact List.nodup_cons.2 ⟨elemN_false h.1, nodupB_ok h.2⟩
theorem allGe_ok {b : Nat} : ∀ {l : List Nat}, allGe b l = true → ∀ j ∈ l, b ≤ j
  | [], _, j, hj => by cases hj
  | x :: l, h, j, hj => by
    simp only [allGe, Bool.and_eq_true, Nat.ble_eq] at h
    rcases List.mem_cons.1 hj with rfl | hj
    · exact h.1
    · exact allGe_ok h.2 j hj
/-- What 'keepN' leaves. -/
theorem keepN_ok {m' : Mem} {b : Nat} {olds : List Nat} : ∀ (l : List Nat) (acc a : Mem), keepN m' b olds l acc = some a →
    a.next = acc.next + l.length ∧ a.log = acc.log ∧ (∀ i, i < acc.next → a.get i = acc.get i) ∧ (∀ k j, l[k]? = some j → ∃ x y, m'.get j = some x ∧ renB b olds x = some y ∧ a.get (acc.next + k) = some y) ∧ (∀ i, acc.next + l.length ≤ i → a.get i = acc.get i)
  | [], acc, a, h => by
    simp only [keepN, Option.some.injEq] at h
    subst h
    exact ⟨rfl, rfl, fun _ _ => rfl, fun k j hk => by simp at hk, fun _ _ => rfl⟩
  | x :: l, acc, a, h => by
    unfold keepN at h
    split at h
    · cases h
    · rename_i y hy
      split at h
      · cases h
      · rename_i z hz
        obtain ⟨h1, h2, h3, h4, h5⟩ := keepN_ok l _ a h
        have hn : (acc.new z).next = acc.next + 1 := rfl
        refine ⟨by rw [h1, hn, List.length_cons]; omega, h2, fun i hi => ?_, fun k j hk => ?_, fun i hi => ?_⟩
        · rw [h3 i (by omega), Mem.get_new, if_neg (by omega)]
        · cases k with
          | zero =>
            simp only [List.getElem?_cons_zero, Option.some.injEq] at hk
            subst hk
            refine ⟨y, z, hy, hz, ?_⟩
            rw [Nat.add_zero, h3 acc.next (by omega), Mem.get_new, if_pos rfl]
          | succ k =>
            simp only [List.getElem?_cons_succ] at hk
            obtain ⟨p, q, k1, k2, k3⟩ := h4 k j hk
            refine ⟨p, q, k1, k2, ?_⟩
            rw [← k3, hn]; congr 1; omega
        · rw [List.length_cons] at hi
          rw [h5 i (by omega), Mem.get_new, if_neg (by omega)]
theorem keepW_ok {m' : Mem} {b : Nat} {olds : List Nat} : ∀ (l : List Nat) (acc a : Mem), keepW m' b olds l acc = some a →
    a.next = acc.next ∧ (∃ L, a.log = L ++ acc.log ∧ (∀ i ∈ L, i ∈ l) ∧ ∀ i ∈ l, i < b → i ∈ L) ∧ (∀ i, (i ∉ l ∨ b ≤ i) → a.get i = acc.get i) ∧ (∀ i ∈ l, i < b → (m'.get i = none ∧ a.get i = none) ∨ ∃ x y, m'.get i = some x ∧ renB b olds x = some y ∧ a.get i = some y)
  | [], acc, a, h => by
    simp only [keepW, Option.some.injEq] at h
    subst h
    exact ⟨rfl, ⟨[], rfl, fun _ h => (by cases h), fun _ h => (by cases h)⟩, fun _ _ => rfl, fun _ h => (by cases h)⟩
  | j :: l, acc, a, h => by
    have go : ∀ v : Option Blk, j < b → ((m'.get j = none ∧ v = none) ∨ ∃ x y, m'.get j = some x ∧ renB b olds x = some y ∧ v = some y) → keepW m' b olds l (acc.write j v) = some a →
        a.next = acc.next ∧ (∃ L, a.log = L ++ acc.log ∧ (∀ i ∈ L, i ∈ j :: l) ∧ ∀ i ∈ j :: l, i < b → i ∈ L) ∧ (∀ i, (i ∉ j :: l ∨ b ≤ i) → a.get i = acc.get i) ∧ (∀ i ∈ j :: l, i < b → (m'.get i = none ∧ a.get i = none) ∨ ∃ x y, m'.get i = some x ∧ renB b olds x = some y ∧ a.get i = some y) := by
      intro v hj hv hk
      obtain ⟨h1, ⟨L, h2, h3, h3'⟩, h4, h5⟩ := keepW_ok l _ a hk
      refine ⟨h1, ⟨L ++ [j], by rw [h2]; simp [Mem.write], fun i hi => ?_, fun i hi hib => ?_⟩, fun i hi => ?_, fun i hi hib => ?_⟩
      · rcases List.mem_append.1 hi with hi | hi
        · exact List.mem_cons_of_mem _ (h3 i hi)
        · rw [List.mem_singleton.1 hi]; exact List.mem_cons_self ..
      · rcases List.mem_cons.1 hi with rfl | hi
        · exact List.mem_append.2 (.inr (List.mem_singleton.2 rfl))
        · exact List.mem_append.2 (.inl (h3' i hi hib))
      · have hne : i ≠ j := by
          rintro rfl
          rcases hi with hi | hi
          · exact hi (List.mem_cons_self ..)
          · omega
        rw [h4 i (hi.imp (fun q e => q (List.mem_cons_of_mem _ e)) id), Mem.get_write, if_neg hne]
      · by_cases hil : i ∈ l
        · exact h5 i hil hib
        · have hij : i = j := (List.mem_cons.1 hi).resolve_right hil
          subst hij
          rw [h4 i (.inl hil), Mem.get_write, if_pos rfl]
          rcases hv with ⟨q1, rfl⟩ | ⟨x, y, q1, q2, rfl⟩
          · exact .inl ⟨q1, rfl⟩
          · exact .inr ⟨x, y, q1, q2, rfl⟩
    unfold keepW at h
    cases hb : Nat.blt j b with
    | true =>
      rw [hb, cond_true] at h
      have hj : j < b := by unfold Nat.blt at hb; rw [Nat.ble_eq] at hb; exact hb
      split at h
      · rename_i hn; exact go none hj (.inl ⟨hn, rfl⟩) h
      · rename_i x hx
        split at h
        · cases h
        · rename_i y hy; exact go (some y) hj (.inr ⟨x, y, hx, hy, rfl⟩) h
    | false =>
      rw [hb, cond_false] at h
      have hj : b ≤ j := by
        rcases Nat.lt_or_ge j b with q | q
        · have : Nat.blt j b = true := by unfold Nat.blt; rw [Nat.ble_eq]; exact q
          rw [this] at hb; cases hb
        · exact q
      obtain ⟨h1, ⟨L, h2, h3, h3'⟩, h4, h5⟩ := keepW_ok l _ a h
      refine ⟨h1, ⟨L, h2, fun i hi => List.mem_cons_of_mem _ (h3 i hi), fun i hi hib => ?_⟩, fun i hi => h4 i (hi.imp (fun q e => q (List.mem_cons_of_mem _ e)) id), fun i hi hib => ?_⟩
      · rcases List.mem_cons.1 hi with rfl | hi
        · omega
        · exact h3' i hi hib
      · rcases List.mem_cons.1 hi with rfl | hi
        · omega
        · exact h5 i hi hib
end
end Ev
end Go.Proofs.YtmolojjhnbchbaaGreatDoor
