/- Plain laws on rows' keys: keys of rows of one length stand as the rows do. No program in sight. -/
import Derived.Test.YtpmjpbndpnmdlaaDoorKeyLaw
import Derived.Test.YtpmjpbndpnmdlaaDoorKey5
set_option linter.all false
namespace Go.Proofs.YtpmjpbndpnmdlaaDoor
open Go.RowKit

def by8 (n : Int) : UInt8 := UInt8.ofNat n.toNat
def eb (v : V) : List UInt8 := (encI v).map by8
def kb (l : List V) : List UInt8 := (keyI l).map by8
theorem kb_cons (v : V) (l : List V) : kb (v :: l) = eb v ++ kb l := by
  have e : keyI (v :: l) = encI v ++ keyI l := rfl
  unfold kb eb
  rw [e, List.map_append]
theorem byte_of (N s : Nat) : by8 ((N : Int) / 2 ^ s % 256) = UInt8.ofNat (N / 2 ^ s) := by
  have e : ((N : Int) / 2 ^ s % 256) = ((N / 2 ^ s % 256 : Nat) : Int) := by simp
  unfold by8
  rw [e, Int.toNat_natCast, ofNat_eq, Nat.mod_mod]
theorem eb2 {n : Int} (t : ByteArray) (hn : In64 n) : eb ⟨2, n, t⟩ = 2 :: big8 (n + 9223372036854775808).toNat := by
  unfold In64 at hn
  obtain ⟨N, hN⟩ := Int.eq_ofNat_of_zero_le (show 0 ≤ n + 9223372036854775808 by omega)
  unfold eb
  rw [encI2, hN, Int.toNat_natCast]
  unfold bigI big8
  simp only [List.range, List.range.loop, List.map_cons, List.map_nil, byte_of, Nat.mul_zero, Nat.sub_zero, Nat.reduceMul, Nat.reduceSub]
  rfl
theorem eb3 (n : Int) (t : ByteArray) : eb ⟨3, n, t⟩ = 3 :: (t.data.toList ++ [0]) := by
  unfold eb
  rw [encI3]
  have := bytesOf_txt t
  unfold Lib.bytesOf txtI at this
  rw [List.map_cons, List.map_append]
  rw [show (List.map by8 (t.data.toList.map fun b => (b.toNat : Int))) = t.data.toList from this]
  rfl
theorem cmpV_is {u v : V} (hu : mayB u.k u.n u.t = true) (hv : mayB v.k v.n v.t = true) : cmpV u v = cmp3 u.k u.n u.t.toList v.k v.n v.t.toList := by
  unfold cmpV compareV normK normI normT
  rw [if_pos hu, if_pos hu, if_pos hu, if_pos hv, if_pos hv, if_pos hv]
/-- What kinds may be. -/
theorem may_cases {v : V} (hv : mayB v.k v.n v.t = true) : (v.k = 0 ∧ v.n = 0 ∧ v.t.toList = []) ∨ (v.k = 1 ∧ (v.n = 0 ∨ v.n = 1) ∧ v.t.toList = []) ∨ (v.k = 2 ∧ v.t.toList = []) ∨ (v.k = 3 ∧ v.n = 0) := by
  unfold mayB at hv
  by_cases h0 : v.k = 0
  · rw [if_pos h0] at hv; simp only [Bool.and_eq_true, decide_eq_true_eq, List.isEmpty_iff] at hv; exact .inl ⟨h0, hv.1, hv.2⟩
  · rw [if_neg h0] at hv
    by_cases h1 : v.k = 1
    · rw [if_pos h1] at hv; simp only [Bool.and_eq_true, Bool.or_eq_true, decide_eq_true_eq, List.isEmpty_iff] at hv; exact .inr (.inl ⟨h1, hv.1, hv.2⟩)
    · rw [if_neg h1] at hv
      by_cases h2 : v.k = 2
      · rw [if_pos h2] at hv; simp only [List.isEmpty_iff] at hv; exact .inr (.inr (.inl ⟨h2, hv⟩))
      · rw [if_neg h2] at hv
        by_cases h3 : v.k = 3
        · rw [if_pos h3] at hv; simp only [Bool.and_eq_true, decide_eq_true_eq] at hv; exact .inr (.inr (.inr ⟨h3, hv.1⟩))
        · rw [if_neg h3] at hv; cases hv
theorem enc_lt {u v : V} (hu : mayB u.k u.n u.t = true) (hv : mayB v.k v.n v.t = true) (nu : In64 u.n) (nv : In64 v.n) (h : cmpV u v < 0) (x y : List UInt8) : eb u ++ x < eb v ++ y := by
  rw [cmpV_is hu hv, cmp3_neg] at h
  have cu := may_cases hu
  have cv := may_cases hv
  have head : ∀ w : V, eb w = by8 w.k :: (bodyI w).map by8 := fun _ => rfl
  rcases h with h | ⟨hk, h⟩
  · rw [head u, head v, List.cons_append, List.cons_append, cons_lt]
    left
    unfold by8
    rw [ofNat_lt (by omega) (by omega)]
    omega
  · obtain ⟨k, n, t⟩ := u
    obtain ⟨k', n', t'⟩ := v
    simp only at hk h cu cv nu nv hu hv
    subst hk
    rcases cu with ⟨rfl, h1, h2⟩ | ⟨rfl, h1, h2⟩ | ⟨rfl, h2⟩ | ⟨rfl, h1⟩
    · have cv' : n' = 0 ∧ t'.toList = [] := by
        rcases cv with ⟨_, a, b⟩ | ⟨a, _⟩ | ⟨a, _⟩ | ⟨a, _⟩
        · exact ⟨a, b⟩
        · omega
        · omega
        · omega
      rw [h1, h2, cv'.1, cv'.2] at h
      rcases h with h | ⟨_, h⟩
      · omega
      · exact absurd h (less_irrefl _)
    · have cv' : (n' = 0 ∨ n' = 1) ∧ t'.toList = [] := by
        rcases cv with ⟨a, _⟩ | ⟨_, a, b⟩ | ⟨a, _⟩ | ⟨a, _⟩
        · omega
        · exact ⟨a, b⟩
        · omega
        · omega
      rcases h with h | ⟨_, h⟩
      · have a1 : n = 0 := by omega
        have a2 : n' = 1 := by omega
        subst a1 a2
        show [by8 1, by8 0] ++ x < [by8 1, by8 1] ++ y
        simp only [List.cons_append, List.nil_append]
        rw [cons_lt]
        refine .inr ⟨rfl, ?_⟩
        rw [cons_lt]
        exact .inl (by decide)
      · rw [h2, cv'.2] at h
        exact absurd h (less_irrefl _)
    · have cv' : t'.toList = [] := by
        rcases cv with ⟨a, _⟩ | ⟨a, _⟩ | ⟨_, b⟩ | ⟨a, _⟩
        · omega
        · omega
        · exact b
        · omega
      rcases h with h | ⟨_, h⟩
      · rw [eb2 t nu, eb2 t' nv, List.cons_append, List.cons_append, cons_lt]
        refine .inr ⟨rfl, ?_⟩
        unfold In64 at nu nv
        exact big8_lt x y (by omega) (by omega) (by omega)
      · rw [h2, cv'] at h
        exact absurd h (less_irrefl _)
    · have cv' : n' = 0 := by
        rcases cv with ⟨a, _⟩ | ⟨a, _⟩ | ⟨a, _⟩ | ⟨_, b⟩
        · omega
        · omega
        · omega
        · exact b
      subst h1 cv'
      rcases h with h | ⟨_, h⟩
      · omega
      · rw [eb3, eb3, List.cons_append, List.cons_append, cons_lt]
        refine .inr ⟨rfl, ?_⟩
        rw [ByteArray.toList_eq, ByteArray.toList_eq] at h
        exact text_lt x y (may3_plain hu) (may3_plain hv) h
theorem V.ext' {u v : V} (h1 : u.k = v.k) (h2 : u.n = v.n) (h3 : u.t.toList = v.t.toList) : u = v := by
  obtain ⟨k, n, t⟩ := u
  obtain ⟨k', n', t'⟩ := v
  simp only at h1 h2 h3
  subst h1 h2
  have : t = t' := by
    rw [ByteArray.toList_eq, ByteArray.toList_eq] at h3
    apply ByteArray.ext
    exact Array.toList_inj.1 h3
  rw [this]
theorem append_lt {x y : List UInt8} (h : x < y) : ∀ p : List UInt8, p ++ x < p ++ y
  | [] => h
  | a :: p => by rw [List.cons_append, List.cons_append, cons_lt]; exact .inr ⟨rfl, append_lt h p⟩
/-- Keys stand as rows do. -/
theorem kb_lt : ∀ {a b : List V}, a.length = b.length → (∀ v ∈ a, mayB v.k v.n v.t = true ∧ In64 v.n) → (∀ v ∈ b, mayB v.k v.n v.t = true ∧ In64 v.n) → (rowsV a b < 0 → kb a < kb b) ∧ (rowsV a b = 0 → a = b) ∧ (0 < rowsV a b → kb b < kb a)
  | [], [], _, _, _ => ⟨fun h => by simp [rowsV] at h, fun _ => rfl, fun h => by simp [rowsV] at h⟩
  | u :: a, v :: b, hl, ha, hb => by
    obtain ⟨i1, i2, i3⟩ := kb_lt (a := a) (b := b) (by simpa using hl) (fun w hw => ha w (List.mem_cons_of_mem _ hw)) (fun w hw => hb w (List.mem_cons_of_mem _ hw))
    have hu := ha u (List.mem_cons_self ..)
    have hv := hb v (List.mem_cons_self ..)
    have e : compareV u.k u.n u.t v.k v.n v.t = cmpV u v := rfl
    rw [rowsV, e, kb_cons, kb_cons]
    by_cases h0 : cmpV u v = 0
    · rw [if_pos h0]
      have huv : u = v := by
        rw [cmpV_is hu.1 hv.1, cmp3_zero] at h0
        exact V.ext' h0.1 h0.2.1 h0.2.2
      subst huv
      exact ⟨fun h => append_lt (i1 h) _, fun h => by rw [i2 h], fun h => append_lt (i3 h) _⟩
    · rw [if_neg h0]
      refine ⟨fun h => enc_lt hu.1 hv.1 hu.2 hv.2 h _ _, fun h => absurd h h0, fun h => enc_lt hv.1 hu.1 hv.2 hu.2 ?_ _ _⟩
      rw [cmpV_anti]
      omega
  | [], _ :: _, hl, _, _ => by simp at hl
  | _ :: _, [], hl, _, _ => by simp at hl
theorem kb_rows {a b : List V} (hl : a.length = b.length) (ha : ∀ v ∈ a, mayB v.k v.n v.t = true ∧ In64 v.n) (hb : ∀ v ∈ b, mayB v.k v.n v.t = true ∧ In64 v.n) : (decide (rowsV a b < 0) = decide (kb a < kb b)) ∧ (decide (rowsV a b = 0) = decide (kb a = kb b)) := by
  obtain ⟨h1, h2, h3⟩ := kb_lt hl ha hb
  have tri : rowsV a b < 0 ∨ rowsV a b = 0 ∨ 0 < rowsV a b := by omega
  rcases tri with h | h | h
  · have hk := h1 h
    refine ⟨by rw [decide_eq_true h, decide_eq_true hk], ?_⟩
    rw [decide_eq_false (by omega), decide_eq_false (fun e => by rw [e] at hk; exact less_irrefl _ hk)]
  · have hab := h2 h
    subst hab
    refine ⟨?_, by rw [decide_eq_true h, decide_eq_true rfl]⟩
    rw [decide_eq_false (by omega), decide_eq_false (less_irrefl _)]
  · have hk := h3 h
    refine ⟨?_, ?_⟩
    · rw [decide_eq_false (by omega), decide_eq_false (fun e => less_irrefl _ (less_trans e hk))]
    · rw [decide_eq_false (by omega), decide_eq_false (fun e => by rw [e] at hk; exact less_irrefl _ hk)]
end Go.Proofs.YtpmjpbndpnmdlaaDoor
