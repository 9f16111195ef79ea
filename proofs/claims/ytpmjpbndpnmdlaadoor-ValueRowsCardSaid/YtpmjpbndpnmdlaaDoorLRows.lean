/- consistorylaw6.ValueRows: the walk: true for every two rows and all bytes. -/
import Derived.Test.YtpmjpbndpnmdlaaDoorLKeys
import Derived.Test.YtpmjpbndpnmdlaaDoorKeyA
import Derived.Test.YtpmjpbndpnmdlaaDoorRw5
set_option linter.all false
namespace Go.Proofs.YtpmjpbndpnmdlaaDoor
open Go.RowKit

def kx (l : List V) : List Int := if l.length ≤ 16 ∧ badB l = false then keyI l else []
def kc (l : List V) : Int := if l.length ≤ 16 ∧ badB l = false then 0 else 20
theorem key_any (A : Option Addr) (n c : Nat) (l : List V) (w : World) (hn : n ≤ 9223372036854775807) (ht : ∀ v, v ∈ l → v.t.size ≤ 9223372036854775807) (h64 : ∀ v, v ∈ l → In64 v.n) (h : Reads w 3 A n (vcells l)) :
    Calls Tryd.prog 22 #[.slice A n c] w fun e w' => ∃ A' c' v, e = .returned (.tuple #[.slice A' (kx l).length c', v]) ∧ Reads w' 1 A' (kx l).length (nums (kx l)) ∧ IsErr w' v (kc l) ∧ Below w.heap.size w w' :=
  (value_Key A n c l w hn ht h64 h).mono fun e w' hp => by
    unfold KPost at hp
    unfold kx kc
    split at hp
    · next hc =>
      obtain ⟨A', c', rfl, hr, _, hb⟩ := hp
      rw [if_pos hc, if_pos hc]
      exact ⟨A', c', _, rfl, hr, IsErr.ok0 _, hb⟩
    · next hc =>
      obtain ⟨v, rfl, he, hb⟩ := hp
      rw [if_neg hc, if_neg hc]
      exact ⟨none, 0, v, rfl, Reads.none_, he, hb⟩
theorem key6_any (A : Option Addr) (n c : Nat) (l : List V) (w : World) (hn : n ≤ 9223372036854775807) (ht : ∀ v, v ∈ l → v.t.size ≤ 9223372036854775807) (h64 : ∀ v, v ∈ l → In64 v.n) (h : Reads w 3 A n (vcells l)) :
    Calls Tryd.prog 23 #[.slice A n c] w fun e w' => ∃ A' c', e = .returned (.tuple #[.slice A' (kx l).length c', .int .i64 (kc l)]) ∧ Reads w' 1 A' (kx l).length (nums (kx l)) ∧ Below w.heap.size w w' :=
  (ref6_Key A n c l w hn ht h64 h).mono fun e w' hp => by
    unfold K6Post at hp
    unfold kx kc
    split at hp
    · next hc =>
      obtain ⟨A', c', rfl, hr, _, hb⟩ := hp
      rw [if_pos hc, if_pos hc]
      exact ⟨A', c', rfl, hr, hb⟩
    · next hc =>
      obtain ⟨rfl, hb⟩ := hp
      rw [if_neg hc, if_neg hc]
      exact ⟨none, 0, rfl, Reads.none_, hb⟩
def ux : Option (List V) → List V
  | some l => l
  | none => []
def uc : Option (List V) → Int
  | some _ => 0
  | none => 20
theorem unkey_any (A : Option Addr) (m c : Nat) (xs : List Int) (D : Option (List V)) (w : World) (hx : InB xs) (hD : Told D xs) (hm : m ≤ 9223372036854775807) (hc : m ≤ c) (h : Reads w 1 A m (nums xs)) :
    Calls Tryd.prog 24 #[.slice A m c] w fun e w' => ∃ A' c' v, e = .returned (.tuple #[.slice A' (ux D).length c', v]) ∧ Reads w' 3 A' (ux D).length (vcells (ux D)) ∧ IsErr w' v (uc D) ∧ Below w.heap.size w w' := by
  cases D with
  | some l =>
    obtain ⟨h1, h2, rfl⟩ := hD
    refine (value_Unkey A m c l w h1 (fun v hv => (h2 v hv).1) (fun v hv => (h2 v hv).2.1) (fun v hv => (h2 v hv).2.2) hm hc h).mono ?_
    rintro e w' ⟨A', c', rfl, hr, hb⟩
    exact ⟨A', c', _, rfl, hr, IsErr.ok0 _, hb⟩
  | none =>
    refine (value_Unkey_bad A m c xs w hx hD hm hc h).mono ?_
    rintro e w' ⟨v, rfl, he, hb⟩
    exact ⟨none, 0, v, rfl, Reads.none_, he, hb⟩
theorem unkey6_any (A : Option Addr) (m c : Nat) (xs : List Int) (D : Option (List V)) (w : World) (hx : InB xs) (hD : Told D xs) (hm : m ≤ 9223372036854770000) (hc : m ≤ c) (h : Reads w 1 A m (nums xs)) :
    Calls Tryd.prog 25 #[.slice A m c] w fun e w' => ∃ A' c', e = .returned (.tuple #[.slice A' (ux D).length c', .int .i64 (uc D)]) ∧ Reads w' 3 A' (ux D).length (vcells (ux D)) ∧ Below w.heap.size w w' :=
  (ref6_Unkey A m c xs D w hx hD hm hc h).mono fun e w' hp => by
    cases D with
    | some l =>
      obtain ⟨A', c', rfl, hr, hb⟩ := hp
      exact ⟨A', c', rfl, hr, hb⟩
    | none =>
      obtain ⟨rfl, hb⟩ := hp
      exact ⟨none, 0, rfl, Reads.none_, hb⟩
theorem told_any (xs : List Int) : ∃ D, Told D xs ∧ (ux D).length ≤ 16 := by
  by_cases h : ∃ l : List V, l.length ≤ 16 ∧ (∀ v, v ∈ l → Good1 v) ∧ xs = keyI l
  · obtain ⟨l, h⟩ := h
    exact ⟨some l, h, h.1⟩
  · exact ⟨none, fun l h1 h2 h3 => h ⟨l, h1, h2, h3⟩, by simp [ux]⟩
theorem Class_any (v : Value) (n : Int) (w : World) (hg : OkW w) (h : IsErr w v n) : Calls Tryd.prog 18 #[v] w fun e w' => e = .returned (.int .i64 n) ∧ Below w.heap.size w w' := by
  rcases h with ⟨rfl, rfl⟩ | ⟨_, d, hE⟩
  · refine (Class_nil w).mono ?_
    rintro e w' ⟨rfl, rfl⟩
    exact ⟨rfl, Below.refl _ _⟩
  · exact Class_err d v n w hg hE


set_option maxRecDepth 100000 in
set_option maxHeartbeats 1000000 in
theorem rows_walk (A : Option Addr) (n c : Nat) (A' : Option Addr) (n' c' : Nat) (B : Option Addr) (m d : Nat) (a b : List V) (xs : List Int) (w : World) (hg : OkW w) (hn : n ≤ 9223372036854775807) (hn' : n' ≤ 9223372036854775807) (hm : m ≤ 9223372036854775807) (hmd : m ≤ d)
    (hta : ∀ v, v ∈ a → v.t.size ≤ 9223372036854775807) (htb : ∀ v, v ∈ b → v.t.size ≤ 9223372036854775807) (hna : ∀ v, v ∈ a → In64 v.n) (hnb : ∀ v, v ∈ b → In64 v.n) (hx : InB xs)
    (ha : Reads w 3 A n (vcells a)) (hb : Reads w 3 A' n' (vcells b)) (hk : Reads w 1 B m (nums xs)) :
    Calls Tryd.prog 9 #[.slice A n c, .slice A' n' c', .slice B m d] w fun e w' => e = .returned (.bool true) ∧ Below w.heap.size w w' := by
  obtain ⟨D, hD, hD16⟩ := told_any xs
  have HG := hide hg
  have HK := hide (known6 w hg)
  have HF1 := fun W (h : Below w.heap.size w W) => hide (help_Few A n c a 20 W hn (ha.below h) fun i v h => hta v (List.mem_of_getElem? h))
  have HF2 := fun W (h : Below w.heap.size w W) => hide (help_Few A' n' c' b 20 W hn' (hb.below h) fun i v h => htb v (List.mem_of_getElem? h))
  have HK1 := fun W (h : Below w.heap.size w W) => hide (key_any A n c a W hn hta hna (ha.below h))
  have HK2 := fun W (h : Below w.heap.size w W) => hide (key6_any A n c a W hn hta hna (ha.below h))
  have HU1 := fun W (h : Below w.heap.size w W) => hide (unkey_any B m d xs D W hx hD hm hmd (hk.below h))
  have HU2 := fun W (h : Below w.heap.size w W) (h5 : m ≤ 500) => hide (unkey6_any B m d xs D W hx hD (by omega) hmd (hk.below h))
  have HR1 := fun W (h : Below w.heap.size w W) => hide (value_Rows A n c A' n' c' a b W hn hta htb (ha.below h) (hb.below h))
  have HR2 := fun W (h : Below w.heap.size w W) => hide (ref6_Rows A n c A' n' c' a b W hn hn' hta htb (ha.below h) (hb.below h))
  clear ha hb hk hta htb hna hnb hx hD
  cases hf1 : fewB a 20 with
  | false =>
    rw [hf1] at HF1
    clear HF2 HK1 HK2 HU1 HU2 HR1 HR2
    go_enter Tryd.func9, Tryd.ntmps9
    go_wp2_with fail
    refine (unhide HK).mono ?_
    rintro e w1 ⟨rfl, hb1⟩
    have HBW := hide hb1
    clear hb1
    go_wp2_with (go_at_call 12; refine (unhide (HF1 _ (unhide HBW))).mono ?_; rintro e w2 ⟨rfl, rfl⟩)
    go_ret
    exact ⟨rfl, unhide HBW⟩
  | true =>
    rw [hf1] at HF1
    cases hf2 : fewB b 20 with
    | false =>
      rw [hf2] at HF2
      clear HK1 HK2 HU1 HU2 HR1 HR2
      go_enter Tryd.func9, Tryd.ntmps9
      go_wp2_with fail
      refine (unhide HK).mono ?_
      rintro e w1 ⟨rfl, hb1⟩
      have HBW := hide hb1
      clear hb1
      go_wp2_with fail
      refine (unhide (HF1 _ (unhide HBW))).mono ?_
      rintro e w2 ⟨rfl, rfl⟩
      go_wp2_with fail
      refine (unhide (HF2 _ (unhide HBW))).mono ?_
      rintro e w2 ⟨rfl, rfl⟩
      go_wp2
      go_ret
      exact ⟨rfl, unhide HBW⟩
    | true =>
      rw [hf2] at HF2
      by_cases h5 : m ≤ 500
      · have q5 : decide ((500 : Int) < (m : Int)) = false := decide_eq_false (by omega)
        replace HU2 := fun W h => HU2 W h h5
        go_enter Tryd.func9, Tryd.ntmps9
        go_wp2_with fail
        refine (unhide HK).mono ?_
        rintro e w1 ⟨rfl, hb1⟩
        have HBW := hide hb1
        clear hb1
        go_wp2_with fail
        refine (unhide (HF1 _ (unhide HBW))).mono ?_
        rintro e w2 ⟨rfl, rfl⟩
        go_wp2_with fail
        refine (unhide (HF2 _ (unhide HBW))).mono ?_
        rintro e w2 ⟨rfl, rfl⟩
        go_wp2_with fail
        refine (unhide (HK1 _ (unhide HBW))).mono ?_
        rintro e w3 ⟨A3, c3, v3, rfl, hr3, he3, hb3⟩
        replace HBW := hide (Below.andThen (unhide HBW) hb3)
        have HR3 := hide hr3
        have HE3 := hide he3
        clear hb3 hr3 he3
        go_wp2_with fail
        refine (unhide (HK2 _ (unhide HBW))).mono ?_
        rintro e w4 ⟨A4, c4, rfl, hr4, hb4⟩
        replace HBW := hide (Below.andThen (unhide HBW) hb4)
        have HX := hide hb4
        have HR4 := hide hr4
        clear hb4 hr4
        go_wp2_with fail
        refine (unhide (HU1 _ (unhide HBW))).mono ?_
        rintro e w5 ⟨A5, c5, v5, rfl, hr5, he5, hb5⟩
        replace HBW := hide (Below.andThen (unhide HBW) hb5)
        replace HX := hide (Below.andThen (unhide HX) hb5)
        have HY := hide hb5
        have HR5 := hide hr5
        have HE5 := hide he5
        clear hb5 hr5 he5
        go_wp2_with fail
        refine (unhide (HU2 _ (unhide HBW))).mono ?_
        rintro e w6 ⟨A6, c6, rfl, hr6, hb6⟩
        replace HBW := hide (Below.andThen (unhide HBW) hb6)
        replace HX := hide (Below.andThen (unhide HX) hb6)
        replace HY := hide (Below.andThen (unhide HY) hb6)
        have HR6 := hide hr6
        have HZ := hide hb6
        clear hb6 hr6 HK1 HK2 HU1 HU2
        go_wp2_with fail
        refine (unhide (HR1 _ (unhide HBW))).mono ?_
        rintro e w7 ⟨rfl, hb7⟩
        replace HBW := hide (Below.andThen (unhide HBW) hb7)
        replace HX := hide (Below.andThen (unhide HX) hb7)
        replace HY := hide (Below.andThen (unhide HY) hb7)
        replace HZ := hide (Below.andThen (unhide HZ) hb7)
        have HT := hide hb7
        clear hb7
        go_wp2_with fail
        refine (unhide (HR2 _ (unhide HBW))).mono ?_
        rintro e w8 ⟨rfl, hb8⟩
        replace HBW := hide (Below.andThen (unhide HBW) hb8)
        replace HX := hide (Below.andThen (unhide HX) hb8)
        replace HY := hide (Below.andThen (unhide HY) hb8)
        replace HZ := hide (Below.andThen (unhide HZ) hb8)
        replace HT := hide (Below.andThen (unhide HT) hb8)
        clear hb8 HR1 HR2
        have HB1 := hide (help_Bytes A3 _ c3 A4 _ c4 _ _ w8 ((unhide HR3).below (unhide HX)) ((unhide HR4).below (unhide HY)))
        have HL1 := fun W (h : Below w8.heap.size w8 W) => hide (help_Values A5 _ c5 A6 _ c6 _ _ W (by omega) (by omega) (((unhide HR5).below (unhide HZ)).below h) (((unhide HR6).below (unhide HT)).below h))
        have HC1 := fun W (h : Below w8.heap.size w8 W) => hide (Class_any v3 _ W (((unhide HG).below (unhide HBW)).below h) (((unhide HE3).below (unhide HX)).below h))
        have HC2 := fun W (h : Below w8.heap.size w8 W) => hide (Class_any v5 _ W (((unhide HG).below (unhide HBW)).below h) (((unhide HE5).below (unhide HZ)).below h))
        clear HX HY HZ HT HR3 HR4 HR5 HR6 HE3 HE5
        have hbB : ((strOfNums (kx a)).toList == (strOfNums (kx a)).toList) = true := beq_self_eq_true _
        rw [hbB] at HB1
        have hvB := valuesB_self (ux D)
        rw [hvB] at HL1
        clear hbB hvB
        generalize rowsV a b = rv at *
        generalize kc a = ca at *
        generalize uc D = cd at *
        go_wp2_with fail
        refine (unhide HB1).mono ?_
        rintro e w9 ⟨rfl, rfl⟩
        go_wp2_with fail
        refine (unhide (HC1 _ (Below.refl _ _))).mono ?_
        rintro e w10 ⟨rfl, hb10⟩
        have HN := hide hb10
        clear hb10
        go_wp2_with fail
        refine (unhide (HL1 _ (unhide HN))).mono ?_
        rintro e w11 ⟨rfl, hb11⟩
        replace HN := hide (Below.andThen (unhide HN) hb11)
        clear hb11
        go_wp2_with fail
        refine (unhide (HC2 _ (unhide HN))).mono ?_
        rintro e w12 ⟨rfl, hb12⟩
        replace HN := hide (Below.andThen (unhide HN) hb12)
        clear hb12
        go_wp2
        go_ret
        exact ⟨rfl, Below.andThen (unhide HBW) (unhide HN)⟩
      · have q5 : decide ((500 : Int) < (m : Int)) = true := decide_eq_true (by omega)
        clear HK1 HK2 HU1 HU2 HR1 HR2
        go_enter Tryd.func9, Tryd.ntmps9
        go_wp2_with fail
        refine (unhide HK).mono ?_
        rintro e w1 ⟨rfl, hb1⟩
        have HBW := hide hb1
        clear hb1
        go_wp2_with fail
        refine (unhide (HF1 _ (unhide HBW))).mono ?_
        rintro e w2 ⟨rfl, rfl⟩
        go_wp2_with fail
        refine (unhide (HF2 _ (unhide HBW))).mono ?_
        rintro e w2 ⟨rfl, rfl⟩
        go_wp2
        go_ret
        exact ⟨rfl, unhide HBW⟩
end Go.Proofs.YtpmjpbndpnmdlaaDoor
