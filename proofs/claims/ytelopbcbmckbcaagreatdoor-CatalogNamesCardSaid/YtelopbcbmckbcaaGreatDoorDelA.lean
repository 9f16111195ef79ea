/- slices.Delete of one element, told at once on an abstract memory. No condition. -/
import Derived.Test.YtelopbcbmckbcaaGreatDoorDelS
set_option linter.all false
namespace Go.Proofs.YtelopbcbmckbcaaGreatDoor
open Go.RowKit

namespace Ev
noncomputable section
def capN (n : Nat) : Cap → Bool
  | .known k => Nat.ble n k
  | .opn 0 => true
  | .opn (_ + 1) => false
/-- Of n elements of sz cells each, from a block's beginning on, the i-th is cut out; z: a zero element. -/
def delA (sz : Nat) (z : List AV) (m : Mem) (x a b : AV) : Option (AV × Mem) :=
  match x, a, b with
  | .slice (some p) n c, .int .i64 i, .int .i64 j =>
    bif Nat.beq p.2 0 && decide (0 ≤ i) && decide (j = i + 1) && decide (j ≤ (n : Int)) && Nat.ble n 1000 && capN n c then
      (match cellsAt m (p.1, (i.toNat + 1) * sz) ((n - (i.toNat + 1)) * sz) with
      | none => none
      | some news => match putA m (p.1, i.toNat * sz) news with
        | none => none
        | some m1 => match putA m1 (p.1, (n - 1) * sz) z with
          | none => none
          | some m2 => some (.slice (some p) (n - 1) c, m2))
    else none
  | _, _, _ => none
theorem capN_ok {ρ : Env} {k n : Nat} {c : Cap} (h : capN n c = true) (hf : c.fits (ρ.κ k) n = true) : n ≤ c.conc (ρ.κ k) := by
  cases c with
  | known c => simpa [capN, Cap.conc] using h
  | opn d => simpa [Cap.fits, Cap.conc] using hf
theorem fits_less {ρ : Env} {k n : Nat} {c : Cap} (hf : c.fits (ρ.κ k) n = true) : c.fits (ρ.κ k) (n - 1) = true := by
  cases c with
  | known c => rfl
  | opn d => simp only [Cap.fits, decide_eq_true_eq] at hf ⊢; omega
theorem add0 (g j : Nat) : (⟨g, 0, none⟩ : Addr).add j = ⟨g, j, none⟩ := by unfold Addr.add; split <;> simp_all
theorem putA_lg {m m1 : Mem} {p : Nat × Nat} {vs : List AV} (h : putA m p vs = some m1) : Lg m m1 [p.1] := by
  unfold putA at h
  split at h
  · cases hb : (Nat.ble (p.2 + vs.length) _ && allOne vs) with
    | false => rw [hb, cond_false] at h; cases h
    | true => rw [hb, cond_true] at h; cases h; exact Lg.write m p.1 _
  · cases h
theorem delA_lg {sz : Nat} {z : List AV} {m m2 : Mem} {x a b r : AV} (hd : delA sz z m x a b = some (r, m2)) : ∃ p n c, x = .slice (some p) n c ∧ Lg m m2 [p.1, p.1] := by
  unfold delA at hd
  split at hd
  case h_2 => cases hd
  rename_i p n c i0 j0
  refine ⟨p, n, c, rfl, ?_⟩
  cases hb : (Nat.beq p.2 0 && decide (0 ≤ i0) && decide (j0 = i0 + 1) && decide (j0 ≤ (n : Int)) && Nat.ble n 1000 && capN n c) with
  | false => rw [hb, cond_false] at hd; cases hd
  | true =>
    rw [hb, cond_true] at hd
    split at hd
    · cases hd
    rename_i news hnews
    split at hd
    · cases hd
    rename_i m1 hm1
    split at hd
    · cases hd
    rename_i m2' hm2
    cases hd
    exact (putA_lg hm1).trans (putA_lg hm2)
section
variable {P : Program} {ρ : Env} {m : Mem} {w : World}
/-- What the two steps do: the append in place, the clearing. -/
theorem delA_ok (h : Rep ρ m w) {t e : TypeId} {i : TypeInfo} {zv : Value} (ht : P.underlying t = some (.slice e)) (hi : P.info? e = some i) (hz : i.zero = some zv) {sz : Nat} (hsz : i.size = sz) {z : List AV} (hzc : concL ρ z = some (Builtin.zeroCells zv.cells 1).toList)
    {x a b r : AV} {m2 : Mem} (hd : delA sz z m x a b = some (r, m2)) {xs : List Value} (hx : concL ρ [x, a, b] = some xs) :
    ∃ (g n C k : Nat) (w1 w2 : World), xs = [.slice (some ⟨g, 0, none⟩) n C, .int .i64 (k : Int), .int .i64 ((k : Int) + 1)] ∧ n ≤ C ∧ k + 1 ≤ n ∧ n ≤ 1000 ∧
      (∀ ty, (Builtin.append_ #[t, t] ty #[.slice (some ⟨g, 0, none⟩) k C, .slice (if C = k + 1 then some ⟨g, 0, none⟩ else some ⟨g, (k + 1) * sz, none⟩) (n - (k + 1)) (C - (k + 1))]).run P w.drew = .ok (.slice (some ⟨g, 0, none⟩) (n - 1) C) w1) ∧
      (∀ ty, (Builtin.clear_ #[t] ty #[.slice (some ⟨g, (n - 1) * sz, none⟩) (n - (n - 1)) (C - (n - 1))]).run P w1 = .ok (.tuple #[]) w2) ∧
      ∃ p n' c', x = .slice (some p) n' c' ∧ Stp ρ m w ρ m2 w2 [p.1, p.1] ∧ conc ρ r = some (.slice (some ⟨g, 0, none⟩) (n - 1) C) := by
  unfold delA at hd
  split at hd
  case h_2 => cases hd
  rename_i p n c i0 j0
  cases hb : (Nat.beq p.2 0 && decide (0 ≤ i0) && decide (j0 = i0 + 1) && decide (j0 ≤ (n : Int)) && Nat.ble n 1000 && capN n c) with
  | false => rw [hb, cond_false] at hd; cases hd
  | true =>
    rw [hb, cond_true] at hd
    simp only [Bool.and_eq_true, Nat.beq_eq, decide_eq_true_eq, Nat.ble_eq] at hb
    obtain ⟨⟨⟨⟨⟨b1, b2⟩, b3⟩, b4⟩, b5⟩, b6⟩ := hb
    obtain ⟨k, rfl⟩ := Int.eq_ofNat_of_zero_le b2
    subst b3
    simp only [Int.toNat_natCast] at hd
    split at hd
    · cases hd
    rename_i news hnews
    split at hd
    · cases hd
    rename_i m1 hm1
    split at hd
    · cases hd
    rename_i m2' hm2
    cases hd
    obtain ⟨v0, l0, e0, h0, rfl⟩ := concL_cons hx
    obtain ⟨v1, l1, e1, h1, rfl⟩ := concL_cons h0
    obtain ⟨v2, l2, e2, h2, rfl⟩ := concL_cons h1
    simp only [concL, Option.some.injEq] at h2
    subst h2
    simp only [conc, Option.some.injEq] at e1 e2
    subst e1 e2
    obtain ⟨g, hg, hf, rfl⟩ := slice_conc e0
    have hnC := capN_ok b6 hf
    have hkn : k + 1 ≤ n := by omega
    obtain ⟨p1, p2⟩ := p
    simp only at b1 hg hnews hm1 hm2 hf hnC
    subst b1
    generalize hC : c.conc (ρ.κ p1) = C at *
    -- the row behind the element
    obtain ⟨vs, u1, u2, u3, u4⟩ : ∃ vs, concL ρ news = some vs ∧ vs.length = (n - (k + 1)) * sz ∧ (∀ w' : World, (Builtin.lenOf (.slice (if C = k + 1 then some ⟨g, 0, none⟩ else some ⟨g, (k + 1) * sz, none⟩) (n - (k + 1)) (C - (k + 1)))).run P w' = .ok (n - (k + 1)) w') ∧
        ∀ w' : World, w'.heap = w.heap → (Builtin.firstCells sz (n - (k + 1)) (.slice (if C = k + 1 then some ⟨g, 0, none⟩ else some ⟨g, (k + 1) * sz, none⟩) (n - (k + 1)) (C - (k + 1)))).run P w' = .ok vs.toArray w' := by
      by_cases hq : C = k + 1
      · have hn0 : n - (k + 1) = 0 := by omega
        have hnn : news = [] := by
          obtain ⟨vs, a1, a2, _⟩ := cellsAt_ok h hg hnews
          rw [hn0, Nat.zero_mul] at a2
          have := concL_length a1
          exact List.eq_nil_of_length_eq_zero (by omega)
        subst hnn
        rw [if_pos hq, hn0]
        have hl : cellsAt m (p1, 0) (0 * sz) = some [] := by
          obtain ⟨cs, e', op', hget⟩ : ∃ cs e' op', m.get p1 = some (.cells cs e' op') := by
            unfold cellsAt at hnews
            split at hnews
            · exact ⟨_, _, _, by assumption⟩
            · cases hnews
          unfold cellsAt
          simp only [hget, Nat.zero_mul, Nat.add_zero]
          rw [show Nat.ble 0 cs.length = true from by rw [Nat.ble_eq]; omega]
          simp
        have hcx : conc ρ (.slice (some (p1, 0)) 0 (.known (C - (k + 1)))) = some (.slice (some ⟨g, 0, none⟩) 0 (C - (k + 1))) := by simp [conc, hg, Cap.fits, Cap.conc]
        have hnw : newsA m sz (.slice (some (p1, 0)) 0 (.known (C - (k + 1)))) = some (0, []) := by
          unfold newsA
          simp only [hl]
        obtain ⟨vs, a1, a2, a3, a4⟩ := newsA_ok (P := P) h hcx hnw
        exact ⟨vs, a1, a2, a3, a4⟩
      · rw [if_neg hq]
        have hcx : conc ρ (.slice (some (p1, (k + 1) * sz)) (n - (k + 1)) (.known (C - (k + 1)))) = some (.slice (some ⟨g, (k + 1) * sz, none⟩) (n - (k + 1)) (C - (k + 1))) := by simp [conc, hg, Cap.fits, Cap.conc]
        have hnw : newsA m sz (.slice (some (p1, (k + 1) * sz)) (n - (k + 1)) (.known (C - (k + 1)))) = some (n - (k + 1), news) := by
          unfold newsA
          simp only [hnews]
        obtain ⟨vs, a1, a2, a3, a4⟩ := newsA_ok (P := P) h hcx hnw
        exact ⟨vs, a1, a2, a3, a4⟩
    subst hsz
    obtain ⟨w1, s1, l1', r1⟩ := putA_ok (P := P) (h.drawn (w.drawn + 1)) (p := (p1, k * i.size)) hg u1 hm1
    obtain ⟨w2, s2, l2', r2⟩ := putA_ok (P := P) s1.rep (p := (p1, (n - 1) * i.size)) hg hzc hm2
    refine ⟨g, n, C, k, w1, w2, rfl, hnC, hkn, b5, fun ty => ?_, fun ty => ?_, _, _, _, rfl, ((Stp.drawn h (w.drawn + 1)).trans s1).trans s2, ?_⟩
    · rw [run_append_room' (P := P) ht hi ht (.inl ⟨_, rfl⟩) (some ⟨g, 0, none⟩) k C (n - (k + 1)) _ vs.toArray (u3 w.drew) (u4 w.drew rfl) (by omega)]
      show ((storeCells ((⟨g, 0, none⟩ : Addr).add (k * i.size)) vs.toArray.toList).run P w.drew).andThen _ = _
      rw [add0]
      have r1' : (storeCells ⟨g, k * i.size, none⟩ vs.toArray.toList).run P w.drew = .ok () w1 := r1
      simp only [r1', Result.andThen_ok]
      rw [show k + (n - (k + 1)) = n - 1 by omega]
    · have e1 : n - (n - 1) = 1 := by omega
      rw [e1]
      simp only [Builtin.clear_, run_underlying ht, Sem.run_bind, Result.andThen_ok, List.getElem?_toArray, List.getElem?_cons_zero]
      simp [zeroValue, typeInfo, hi, hz, r2]
    · simp only [conc, hg, Option.bind_some, fits_less hf, if_true, hC]
end
end
end Ev
end Go.Proofs.YtelopbcbmckbcaaGreatDoor
