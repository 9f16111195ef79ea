/- Plain laws on rows' keys: what stands in a key, how keys compare, how they are read back. No program in sight. -/
import Derived.Test.YtpmjpbndpnmdlaaDoorOrd
import Derived.Test.YtpmjpbndpnmdlaaDoorRw3
set_option linter.all false
namespace Go.Proofs.YtpmjpbndpnmdlaaDoor
open Go.RowKit

/-- A number's eight bytes, the highest first. -/
def big8 (u : Nat) : List UInt8 := [56, 48, 40, 32, 24, 16, 8, 0].map fun s => UInt8.ofNat (u / 2 ^ s)
def bodyB (v : V) : List UInt8 :=
  if v.k = 1 then [UInt8.ofNat v.n.toNat] else if v.k = 2 then big8 (v.n + 9223372036854775808).toNat else if v.k = 3 then v.t.toList ++ [0] else []
def encB (v : V) : List UInt8 := UInt8.ofNat v.k.toNat :: bodyB v
def keyB (l : List V) : List UInt8 := l.flatMap encB

theorem cons_lt {a b : UInt8} {l l' : List UInt8} : a :: l < b :: l' ↔ a < b ∨ (a = b ∧ l < l') := List.cons_lt_cons_iff
theorem ofNat_lt {a b : Nat} (ha : a < 256) (hb : b < 256) : UInt8.ofNat a < UInt8.ofNat b ↔ a < b := by
  rw [UInt8.lt_iff_toNat_lt, UInt8.toNat_ofNat', UInt8.toNat_ofNat', Nat.mod_eq_of_lt ha, Nat.mod_eq_of_lt hb]
theorem ofNat_eq {a b : Nat} : UInt8.ofNat a = UInt8.ofNat b ↔ a % 256 = b % 256 := by
  rw [← UInt8.toNat_inj, UInt8.toNat_ofNat', UInt8.toNat_ofNat']
theorem ofNat_lt' {a b : Nat} : UInt8.ofNat a < UInt8.ofNat b ↔ a % 256 < b % 256 := by
  rw [UInt8.lt_iff_toNat_lt, UInt8.toNat_ofNat', UInt8.toNat_ofNat']

/-- Bytes of numbers, the highest first, compare as the numbers do. -/
theorem digits_lt (x y : List UInt8) : ∀ (ss : List Nat) (s : Nat) (u u' : Nat), ss = (List.range s).reverse.map (8 * ·) → u < 2 ^ (8 * s) → u' < 2 ^ (8 * s) → u < u' →
    (ss.map fun s => UInt8.ofNat (u / 2 ^ s)) ++ x < (ss.map fun s => UInt8.ofNat (u' / 2 ^ s)) ++ y := by
  intro ss s
  induction s generalizing ss with
  | zero => intro u u' _ h1 h2 h3; simp at h1 h2; omega
  | succ s ih =>
    intro u u' hss h1 h2 h3
    rw [List.range_succ, List.reverse_append] at hss
    simp only [List.reverse_singleton, List.singleton_append, List.map_cons] at hss
    subst hss
    simp only [List.map_cons, List.cons_append]
    rw [cons_lt]
    have e : 2 ^ (8 * (s + 1)) = 256 * 2 ^ (8 * s) := by rw [Nat.mul_add, Nat.pow_add]; omega
    rw [e] at h1 h2
    have hp : 0 < 2 ^ (8 * s) := Nat.pow_pos (by omega)
    have d1 : u / 2 ^ (8 * s) < 256 := (Nat.div_lt_iff_lt_mul hp).2 h1
    have d2 : u' / 2 ^ (8 * s) < 256 := (Nat.div_lt_iff_lt_mul hp).2 h2
    rw [ofNat_lt', ofNat_eq, Nat.mod_eq_of_lt d1, Nat.mod_eq_of_lt d2]
    have hle : u / 2 ^ (8 * s) ≤ u' / 2 ^ (8 * s) := Nat.div_le_div_right (Nat.le_of_lt h3)
    rcases Nat.lt_or_ge (u / 2 ^ (8 * s)) (u' / 2 ^ (8 * s)) with h | h
    · exact .inl h
    · right
      have he : u / 2 ^ (8 * s) = u' / 2 ^ (8 * s) := Nat.le_antisymm hle h
      refine ⟨he, ?_⟩
      have low : ∀ (u : Nat) (t : Nat), t ∈ (List.range s).reverse.map (8 * ·) → UInt8.ofNat (u / 2 ^ t) = UInt8.ofNat (u % 2 ^ (8 * s) / 2 ^ t) := by
        intro u t ht
        simp only [List.mem_map, List.mem_reverse, List.mem_range] at ht
        obtain ⟨k, hk, rfl⟩ := ht
        rw [ofNat_eq]
        have e1 : 2 ^ (8 * s) = 2 ^ (8 * k) * (256 * 2 ^ (8 * (s - k - 1))) := by
          rw [show (256 : Nat) = 2 ^ 8 from rfl, ← Nat.pow_add, ← Nat.pow_add]; congr 1; omega
        rw [e1, Nat.mod_mul_right_div_self, Nat.mod_mul_right_mod]
      have map_low : ∀ u : Nat, ((List.range s).reverse.map (8 * ·)).map (fun t => UInt8.ofNat (u / 2 ^ t)) = ((List.range s).reverse.map (8 * ·)).map (fun t => UInt8.ofNat (u % 2 ^ (8 * s) / 2 ^ t)) := fun u => List.map_congr_left fun t ht => low u t ht
      rw [map_low u, map_low u']
      refine ih _ _ _ rfl (Nat.mod_lt _ hp) (Nat.mod_lt _ hp) ?_
      have a1 := Nat.div_add_mod u (2 ^ (8 * s))
      have a2 := Nat.div_add_mod u' (2 ^ (8 * s))
      rw [he] at a1
      omega
theorem big8_lt {u u' : Nat} (x y : List UInt8) (h : u < 2 ^ 64) (h' : u' < 2 ^ 64) (hl : u < u') : big8 u ++ x < big8 u' ++ y :=
  digits_lt x y _ 8 u u' rfl h h' hl

theorem text_lt (x y : List UInt8) : ∀ {a b : List UInt8}, (∀ c ∈ a, c ≠ 0) → (∀ c ∈ b, c ≠ 0) → a < b → (a ++ [0]) ++ x < (b ++ [0]) ++ y
  | [], [], _, _, h => absurd h (List.lt_irrefl _)
  | [], c :: b, _, hb, _ => by
    show (0 : UInt8) :: x < c :: _
    rw [cons_lt]
    left
    have := hb c (List.mem_cons_self ..)
    rw [UInt8.lt_iff_toNat_lt]
    have : c.toNat ≠ 0 := fun e => this (UInt8.toNat_inj.1 e)
    show 0 < c.toNat
    omega
  | c :: a, [], _, _, h => by simp at h
  | c :: a, d :: b, ha, hb, h => by
    rw [cons_lt] at h
    simp only [List.cons_append]
    rw [cons_lt]
    exact h.imp id fun ⟨e, h⟩ => ⟨e, text_lt x y (fun c hc => ha c (List.mem_cons_of_mem _ hc)) (fun c hc => hb c (List.mem_cons_of_mem _ hc)) h⟩
end Go.Proofs.YtpmjpbndpnmdlaaDoor
