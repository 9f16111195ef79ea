/- What is held in memory, told under other numbers and with open ends; calls at what is held. No condition. -/
import Derived.Test.YtelopbcbmckbcaaGreatDoorStmtK
set_option linter.all false
namespace Go.Proofs.YtelopbcbmckbcaaGreatDoor
open Go.RowKit

namespace Ev
noncomputable section

/-- The i-th of a list is n. -/
def atIs : List Nat → Nat → Nat → Bool
  | [], _, _ => false
  | x :: _, 0, n => Nat.beq x n
  | _ :: l, i + 1, n => atIs l i n
theorem atIs_ok : ∀ {l : List Nat} {i n : Nat}, atIs l i n = true → l[i]? = some n
  | [], _, _, h => by cases h
  | x :: _, 0, n, h => by simp only [atIs, Nat.beq_eq] at h; subst h; rfl
  | _ :: l, i + 1, n, h => by simpa using atIs_ok (l := l) h
/-- How a room is told: by the end that is told (so many elements), or open as it was. -/
def capOK (kn : List (Option Nat)) (k l : Nat) : Cap → Bool
  | .opn 0 => match kn[k]? with | some none => true | _ => false
  | .opn (_ + 1) => false
  | .known c => match kn[k]? with | some (some r) => Nat.beq c r && Nat.ble l c | _ => false
section
variable (π : List Nat) (kn : List (Option Nat))
mutual
def mtA : AV → AV → Bool
  | .bool a, .bool b => a == b
  | .int k n, .int k' n' => decide (k = k') && decide (n = n')
  | .str s, .str t => eqS s t
  | .ptr none, .ptr none => true
  | .ptr (some p), .ptr (some q) => atIs π p.1 q.1 && Nat.beq p.2 q.2
  | .slice none l (.known c), .slice none l' (.known c') => Nat.beq l l' && Nat.beq c c'
  | .slice (some p) l (.opn 0), .slice (some q) l' c' => atIs π p.1 q.1 && Nat.beq p.2 q.2 && Nat.beq l l' && capOK kn p.1 l c'
  | .nilIface, .nilIface => true
  | .iface t v, .iface t' v' => Nat.beq t t' && mtA v v'
  | .agg l, .agg l' => mtL l l'
  | .tuple l, .tuple l' => mtL l l'
  | _, _ => false
def mtL : List AV → List AV → Bool
  | [], [] => true
  | a :: l, b :: r => mtA a b && mtL l r
  | _, _ => false
end
def envOf (ρ : Env) : Env := ⟨fun k => (π[k]?).bind ρ.σ, fun k => match kn[k]? with | some (some r) => r | _ => match π[k]? with | some i => ρ.κ i | none => 0, ρ.y⟩
variable {π kn} {ρ : Env}
theorem capOK_ok {k l i : Nat} {c : Cap} (hi : π[k]? = some i) (h : capOK kn k l c = true) : (c.fits (ρ.κ i) l = true → l ≤ (envOf π kn ρ).κ k) ∧ (envOf π kn ρ).κ k = c.conc (ρ.κ i) := by
  cases c with
  | known c =>
    cases hk : kn[k]? with
    | none => simp [capOK, hk] at h
    | some x => cases x with
      | none => simp [capOK, hk] at h
      | some r =>
        simp only [capOK, hk, Bool.and_eq_true, Nat.beq_eq, Nat.ble_eq] at h
        simp only [envOf, hk, Cap.conc, Cap.fits]
        exact ⟨fun _ => by omega, by omega⟩
  | opn d =>
    cases d with
    | succ d => simp [capOK] at h
    | zero =>
      cases hk : kn[k]? with
      | none => simp [capOK, hk] at h
      | some x => cases x with
        | some r => simp [capOK, hk] at h
        | none =>
          simp only [envOf, hk, hi, Cap.conc, Cap.fits, Nat.sub_zero, decide_eq_true_eq]
          exact ⟨id, trivial⟩
mutual
theorem mtA_ok : ∀ (a b : AV) (v : Value), mtA π kn a b = true → conc ρ b = some v → conc (envOf π kn ρ) a = some v
  | .bool a, b, v, h, e => by
    cases b <;> simp only [mtA, Bool.false_eq_true] at h
    rw [beq_iff_eq] at h; subst h; exact e
  | .int k n, b, v, h, e => by
    cases b <;> simp only [mtA, Bool.false_eq_true] at h
    simp only [Bool.and_eq_true, decide_eq_true_eq] at h
    obtain ⟨rfl, rfl⟩ := h
    exact e
  | .str s, b, v, h, e => by
    cases b <;> simp only [mtA, Bool.false_eq_true] at h
    rw [eqS_eq, beq_iff_eq] at h; subst h; exact e
  | .ptr none, b, v, h, e => by
    cases b with
    | ptr q => cases q with
      | none => exact e
      | some q => simp [mtA] at h
    | _ => simp [mtA] at h
  | .ptr (some p), b, v, h, e => by
    cases b with
    | ptr q => cases q with
      | none => simp [mtA] at h
      | some q =>
        simp only [mtA, Bool.and_eq_true, Nat.beq_eq] at h
        have hp := atIs_ok h.1
        simp only [conc] at e ⊢
        rw [show (envOf π kn ρ).σ p.1 = ρ.σ q.1 by simp [envOf, hp], h.2]
        exact e
    | _ => simp [mtA] at h
  | .slice none l c, b, v, h, e => by
    cases c with
    | opn d => cases b <;> simp [mtA] at h
    | known c =>
      cases b with
      | slice q l' c' => cases q with
        | some q => simp [mtA] at h
        | none => cases c' with
          | opn d => simp [mtA] at h
          | known c' =>
            simp only [mtA, Bool.and_eq_true, Nat.beq_eq] at h
            obtain ⟨rfl, rfl⟩ := h
            exact e
      | _ => simp [mtA] at h
  | .slice (some p) l c, b, v, h, e => by
    cases c with
    | known c => cases b <;> simp [mtA] at h
    | opn d => cases d with
      | succ d => cases b <;> simp [mtA] at h
      | zero =>
        cases b with
        | slice q l' c' => cases q with
          | none => simp [mtA] at h
          | some q =>
            simp only [mtA, Bool.and_eq_true, Nat.beq_eq] at h
            obtain ⟨⟨⟨h1, h2⟩, h3⟩, h4⟩ := h
            have hp := atIs_ok h1
            obtain ⟨k1, k2⟩ := capOK_ok (ρ := ρ) hp h4
            subst h3
            simp only [conc, Option.bind_eq_some_iff] at e ⊢
            obtain ⟨g, hg, e⟩ := e
            refine ⟨g, by rw [show (envOf π kn ρ).σ p.1 = ρ.σ q.1 by simp [envOf, hp]]; exact hg, ?_⟩
            split at e
            · rename_i hf
              have := k1 hf
              rw [if_pos (by simp [Cap.fits, this])]
              rw [← e, h2]
              simp [Cap.conc, k2]
            · cases e
        | _ => simp [mtA] at h
  | .nilIface, b, v, h, e => by
    cases b <;> simp only [mtA, Bool.false_eq_true] at h
    exact e
  | .iface t a, b, v, h, e => by
    cases b <;> simp only [mtA, Bool.false_eq_true] at h
    simp only [Bool.and_eq_true, Nat.beq_eq] at h
    obtain ⟨rfl, h⟩ := h
    simp only [conc, Option.map_eq_some_iff] at e ⊢
    obtain ⟨x, hx, rfl⟩ := e
    exact ⟨x, mtA_ok a _ x h hx, rfl⟩
  | .agg l, b, v, h, e => by
    cases b <;> simp only [mtA, Bool.false_eq_true] at h
    simp only [conc, Option.map_eq_some_iff] at e ⊢
    obtain ⟨x, hx, rfl⟩ := e
    exact ⟨x, mtL_ok l _ x h hx, rfl⟩
  | .tuple l, b, v, h, e => by
    cases b <;> simp only [mtA, Bool.false_eq_true] at h
    simp only [conc, Option.map_eq_some_iff] at e ⊢
    obtain ⟨x, hx, rfl⟩ := e
    exact ⟨x, mtL_ok l _ x h hx, rfl⟩
  | .slice0 _ _ _, b, v, h, e => by cases b <;> simp [mtA] at h
  | .map _, b, v, h, e => by cases b <;> simp [mtA] at h
  | .func _ _ _, b, v, h, e => by cases b <;> simp [mtA] at h
  | .nilFunc, b, v, h, e => by cases b <;> simp [mtA] at h
  | .sym _ _ _ _, b, v, h, e => by cases b <;> simp [mtA] at h
theorem mtL_ok : ∀ (l r : List AV) (vs : List Value), mtL π kn l r = true → concL ρ r = some vs → concL (envOf π kn ρ) l = some vs
  | [], r, vs, h, e => by
    cases r <;> simp only [mtL, Bool.false_eq_true] at h
    exact e
  | a :: l, r, vs, h, e => by
    cases r with
    | nil => simp [mtL] at h
    | cons b r =>
      simp only [mtL, Bool.and_eq_true] at h
      obtain ⟨x, y, hx, hy, rfl⟩ := concL_cons e
      exact concL_cons_mk (mtA_ok a b x h.1 hx) (mtL_ok l r y h.2 hy)
end
end
/-- Block k, told so, of a block. -/
def mtB (π : List Nat) (kn : List (Option Nat)) (k : Nat) : Blk → Blk → Bool
  | .cells C e (some sz), .cells C' e' op => Nat.beq e e' && Nat.ble C.length C'.length && mtL π kn C (C'.take C.length) && (match op, kn[k]? with
    | some sz', some none => Nat.beq sz sz'
    | none, some (some r) => Nat.beq C'.length (r * sz)
    | _, _ => false)
  | .cells C e none, .cells C' e' none => Nat.beq e e' && mtL π kn C C'
  | _, _ => false
def chkG (M m : Mem) (π : List Nat) (kn : List (Option Nat)) : Nat → Bool
  | 0 => true
  | k + 1 => (match M.get k with
    | none => true
    | some b => match π[k]? with
      | none => false
      | some i => match m.get i with
        | none => false
        | some b' => mtB π kn k b b') && chkG M m π kn k
def nodupN : List Nat → Bool
  | [] => true
  | x :: l => !(l.any (Nat.beq x)) && nodupN l
theorem nodupN_ok : ∀ {l : List Nat}, nodupN l = true → l.Nodup
  | [], _ => List.nodup_nil
  | x :: l, h => by
    simp only [nodupN, Bool.and_eq_true, Bool.not_eq_true', List.any_eq_false, Nat.beq_eq] at h
    exact List.nodup_cons.2 ⟨fun hm => h.1 x hm rfl, nodupN_ok h.2⟩
/-- The whole check: value A with memory M tells what a with memory m tells. -/
def canonB (A : AV) (M : Mem) (a : AV) (m : Mem) (π : List Nat) (kn : List (Option Nat)) : Bool :=
  mtA π kn A a && chkG M m π kn M.next && Nat.beq π.length M.next && nodupN π
theorem chkG_ok {M m : Mem} {π : List Nat} {kn : List (Option Nat)} : ∀ {n k : Nat}, chkG M m π kn n = true → k < n → ∀ b, M.get k = some b → ∃ i b', π[k]? = some i ∧ m.get i = some b' ∧ mtB π kn k b b' = true
  | 0, k, _, hk, _, _ => by omega
  | n + 1, k, h, hk, b, hb => by
    unfold chkG at h
    rw [Bool.and_eq_true] at h
    by_cases e : k = n
    · subst e
      have h1 := h.1
      rw [hb] at h1
      dsimp only at h1
      cases hi : π[k]? with
      | none => rw [hi] at h1; cases h1
      | some i =>
        rw [hi] at h1
        dsimp only at h1
        cases hb' : m.get i with
        | none => rw [hb'] at h1; cases h1
        | some b' => rw [hb'] at h1; exact ⟨i, b', rfl, hb', h1⟩
    · exact chkG_ok h.2 (by omega) b hb
theorem mtB_ok {π : List Nat} {kn : List (Option Nat)} {ρ : Env} {k i : Nat} {b b' : Blk} {w : World} {g : Nat} (hi : π[k]? = some i) (h : mtB π kn k b b' = true) (hb : BlkOK ρ i b' w g) : BlkOK (envOf π kn ρ) k b w g := by
  cases b with
  | mp _ _ => cases b' <;> simp [mtB] at h
  | cells C e op =>
    cases b' with
    | mp _ _ => cases op <;> simp [mtB] at h
    | cells C' e' op' =>
      obtain ⟨vs, ex, fr, h1, h2, h3, h4⟩ := hb
      cases op with
      | none =>
        cases op' with
        | some sz' => simp [mtB] at h
        | none =>
          simp only [mtB, Bool.and_eq_true, Nat.beq_eq] at h
          obtain ⟨rfl, h⟩ := h
          exact ⟨vs, ex, fr, mtL_ok _ _ _ h h1, h2, h3, h4⟩
      | some sz =>
        simp only [mtB, Bool.and_eq_true, Nat.beq_eq, Nat.ble_eq] at h
        obtain ⟨⟨⟨rfl, hl⟩, hm⟩, hr⟩ := h
        have hv := concL_length h1
        have ht := mtL_ok _ _ _ hm (concL_take C.length h1)
        refine ⟨vs.take C.length, vs.drop C.length ++ ex, fr, ht, ?_, ?_, ?_⟩
        · rw [← List.append_assoc, List.take_append_drop]; exact h2
        · rw [← List.append_assoc, List.take_append_drop]; exact h3
        · rw [← List.append_assoc, List.take_append_drop]
          simp only [Room]
          split at hr
          · rename_i sz' hk
            rw [Nat.beq_eq] at hr
            subst hr
            simp only [Room] at h4
            rw [h4]
            simp [envOf, hk, hi]
          · rename_i r hk
            rw [Nat.beq_eq] at hr
            simp only [Room] at h4
            subst h4
            rw [List.append_nil, hv, hr]
            simp [envOf, hk]
          · cases hr
theorem ofT_get : ∀ (l : List (Option Blk)) (i : Nat) (t : Tr Blk) (k : Nat), i + l.length ≤ k → (ofT l i t).get k = t.get k
  | [], i, t, k, _ => rfl
  | none :: l, i, t, k, h => by
    simp only [List.length_cons] at h
    unfold ofT
    exact ofT_get l (Nat.succ i) t k (by omega)
  | some b :: l, i, t, k, h => by
    simp only [List.length_cons] at h
    unfold ofT
    rw [ofT_get l (Nat.succ i) _ k (by omega), Tr.get_put, if_neg (by omega)]
theorem ofL_lt {l : List (Option Blk)} {k : Nat} {b : Blk} (h : (ofL l).get k = some b) : k < (ofL l).next := by
  show k < l.length
  rcases Nat.lt_or_ge k l.length with q | q
  · exact q
  · have e : (ofL l).get k = (Tr.nil : Tr Blk).get k := ofT_get l 0 .nil k (by omega)
    rw [e, Tr.get_nil] at h
    cases h
theorem canon_ok {A : AV} {M : Mem} (hM : ∀ k b, M.get k = some b → k < M.next) {a : AV} {m : Mem} {π : List Nat} {kn : List (Option Nat)} {ρ : Env} {w : World} {v : Value} (h : canonB A M a m π kn = true) (hr : Rep ρ m w) (hv : conc ρ a = some v) :
    Rep (envOf π kn ρ) M w ∧ conc (envOf π kn ρ) A = some v := by
  simp only [canonB, Bool.and_eq_true, Nat.beq_eq] at h
  obtain ⟨⟨⟨h1, h2⟩, h3⟩, h4⟩ := h
  have hnd := nodupN_ok h4
  refine ⟨⟨fun k b hk => ?_, fun i j bi bj g hi hj ei ej => ?_, fun k hk => ?_, fun k g hk => ?_, fun k b g hk ek => ?_, hr.ok⟩, mtA_ok _ _ _ h1 hv⟩
  · have hlt := hM k b hk
    obtain ⟨i, b', p1, p2, p3⟩ := chkG_ok h2 hlt b hk
    obtain ⟨g, g1, g2⟩ := hr.blk i b' p2
    exact ⟨g, by simp [envOf, p1, g1], mtB_ok p1 p3 g2⟩
  · simp only [envOf, Option.bind_eq_some_iff] at ei ej
    obtain ⟨i1, p1, q1⟩ := ei
    obtain ⟨j1, p2, q2⟩ := ej
    obtain ⟨i2, b2, r1, r2, _⟩ := chkG_ok h2 (hM i bi hi) bi hi
    obtain ⟨j2, b3, s1, s2, _⟩ := chkG_ok h2 (hM j bj hj) bj hj
    rw [p1] at r1
    rw [p2] at s1
    cases r1
    cases s1
    have e := hr.inj i1 j1 b2 b3 g r2 s2 q1 q2
    subst e
    exact (List.getElem?_inj (List.getElem?_eq_some_iff.1 p1).1 hnd).1 (p1.trans p2.symm)
  · simp only [envOf]
    rw [List.getElem?_eq_none (by omega)]
    rfl
  · simp only [envOf, Option.bind_eq_some_iff] at hk
    obtain ⟨i1, p1, q1⟩ := hk
    exact hr.low i1 g q1
  · simp only [envOf, Option.bind_eq_some_iff] at ek
    obtain ⟨i1, p1, q1⟩ := ek
    obtain ⟨i2, b2, r1, r2, _⟩ := chkG_ok h2 (hM k b hk) b hk
    rw [p1] at r1
    cases r1
    exact hr.sep i1 b2 g r2 q1
end
end Ev
end Go.Proofs.YtelopbcbmckbcaaGreatDoor
