/- consistoryref6.Key: contract. -/
import Derived.Test.YtpmjpbndpnmdlaaDoorKey1
import Derived.Test.YtpmjpbndpnmdlaaDoorRw3
set_option linter.all false
namespace Go.Proofs.YtpmjpbndpnmdlaaDoor
open Go.RowKit Go.Lib

def K6Post (w : World) (l : List V) (e : Ending) (w' : World) : Prop :=
  if l.length ≤ 16 ∧ badB l = false then ∃ A c, e = .returned (.tuple #[.slice A (keyI l).length c, .int .i64 0]) ∧ Reads w' 1 A (keyI l).length (nums (keyI l)) ∧ (keyI l).length ≤ c ∧ Below w.heap.size w w'
  else e = .returned (.tuple #[.slice none 0 0, .int .i64 20]) ∧ Below w.heap.size w w'
theorem big_next {X : List Value} {N c : Int} {j : Nat} (h : c = bigI N j) : (X ++ (List.range j).map fun q => Value.int .u8 (bigI N q)) ++ [Value.int .u8 c] = X ++ (List.range (j + 1)).map fun q => Value.int .u8 (bigI N q) := by
  rw [List.range_succ, List.map_append, List.append_assoc, h]
  rfl
theorem up_to {l : List V} {k : Nat} {v : V} (h : ∀ (j : Nat) (u : V), j < k → l[j]? = some u → mayB u.k u.n u.t = true) (hv : l[k]? = some v) (hm : mayB v.k v.n v.t = true) : ∀ (j : Nat) (u : V), j < k + 1 → l[j]? = some u → mayB u.k u.n u.t = true := fun j u hj hu => by
  by_cases hjk : j < k
  · exact h j u hjk hu
  · have : j = k := by omega
    subst this
    rw [hv] at hu
    cases hu
    exact hm
theorem badB_of {l : List V} {v : V} (hv : v ∈ l) (hm : mayB v.k v.n v.t = false) : badB l = true := by
  cases h : badB l with
  | true => rfl
  | false => rw [badB_false h v hv] at hm; cases hm
theorem badB_all {l : List V} (h : ∀ (j : Nat) (u : V), j < l.length → l[j]? = some u → mayB u.k u.n u.t = true) : badB l = false := by
  unfold badB
  rw [badIdx_none (k := l.length) h rfl]
  rfl
theorem keyI_take_len {l : List V} {k : Nat} (hk : k ≤ 16) (h : ∀ (j : Nat) (u : V), j < k → l[j]? = some u → mayB u.k u.n u.t = true) : (keyI (l.take k)).length ≤ 700 := by
  have h1 := keyI_len (l := l.take k) fun v hv => by
    obtain ⟨j, hj⟩ := List.getElem?_of_mem hv
    rw [List.getElem?_take] at hj
    split at hj
    · exact h j v (by assumption) hj
    · cases hj
  have h2 : (l.take k).length ≤ k := by rw [List.length_take]; omega
  omega

set_option maxRecDepth 100000 in
set_option maxHeartbeats 1000000 in
theorem ref6_Key (A : Option Addr) (n c : Nat) (l : List V) (w : World) (hn : n ≤ 9223372036854775807) (ht : ∀ v, v ∈ l → v.t.size ≤ 9223372036854775807) (h64 : ∀ v, v ∈ l → In64 v.n) (h : Reads w 3 A n (vcells l)) :
    Calls Tryd.prog 23 #[.slice A n c] w (K6Post w l) := by
  have hlen := h.vlen
  by_cases h16 : n ≤ 16
  · obtain ⟨i0, hi, hz0, hz1, hz2⟩ := info_parts info5
    have HL := hide h
    have HT := hide ht
    have H64 := hide h64
    clear h ht h64
    go_enter Tryd.func23, Tryd.ntmps23
    go_wp2
    go_loopw [4, 5] (fun o i wr => ∃ k : Nat, k ≤ n ∧ i = .int .i64 k ∧ OwnBuf w.heap.size 5 o (keyI (l.take k)).length (nums (keyI (l.take k))) w wr ∧ Hid (∀ (j : Nat) (u : V), j < k → l[j]? = some u → mayB u.k u.n u.t = true)) (fun _ i _ => n - (RowKit.intOf i).toNat)
    case atStart => exact ⟨0, Nat.zero_le _, rfl, ⟨World.ownsRowF_nil _ _ _ _, Below.refl _ _, Nat.le_refl _⟩, hide (fun j u hj => absurd hj (by omega))⟩
    case round =>
      obtain ⟨k, hk, rfl, hown, HUP⟩ := hrel
      by_cases hlt : k < n
      · obtain ⟨b, o', v, rfl, hv, d0, d1, d2⟩ := (unhide HL).val hlt
        have KC : Hid (∀ W, Below w.heap.size w W → W.cell? ⟨b, o' + k * 3, none⟩ = some (.int .i64 v.k) ∧ W.cell? ⟨b, o' + k * 3 + 1, none⟩ = some (.int .i64 v.n) ∧ W.cell? ⟨b, o' + k * 3 + 2, none⟩ = some (.string v.t)) := fun W hb =>
          ⟨(hb.cell (p := ⟨b, o' + k * 3, none⟩) (lt_of_cell d0)).trans d0, (hb.cell (p := ⟨b, o' + k * 3 + 1, none⟩) (lt_of_cell d1)).trans d1, (hb.cell (p := ⟨b, o' + k * 3 + 2, none⟩) (lt_of_cell d2)).trans d2⟩
        have hvn := (unhide H64) v (List.mem_of_getElem? hv)
        have HE := hide (keyI_take hv)
        have hlk : (keyI (l.take k)).length ≤ 700 := keyI_take_len (by omega) (unhide HUP)
        have HI := fun w => hide (ref1_Is v.k v.n v.t w ((unhide HT) v (List.mem_of_getElem? hv)))
        have HV := hide hv
        clear hv d0 d1 d2
        obtain ⟨c0, c1, c2⟩ := (unhide KC) _ hown.2.1
        cases hm : mayB v.k v.n v.t with
        | false =>
          rw [hm] at HI
          have hbad := badB_of (List.mem_of_getElem? (unhide HV)) hm
          have HB := hide hown.2.1
          clear hown HE hvn hlk hm
          go_wp2_with fail
          refine (unhide (HI _)).mono ?_
          rintro e w2 ⟨rfl, hb2⟩
          have HB2 := hide ((unhide HB).trans (hb2.mono (unhide HB).size))
          clear hb2 c0 c1 c2
          go_wp2
          go_ret2
          unfold K6Post
          rw [if_neg (by rw [hbad]; simp)]
          exact ⟨rfl, unhide HB2⟩
        | true =>
          rw [hm] at HI
          have HM := hide hm
          obtain ⟨vk, vn, vt⟩ := v
          have hcase := hm
          simp only at hcase
          have hkv : vk = 0 ∨ (vk = 1 ∧ (vn = 0 ∨ vn = 1)) ∨ vk = 2 ∨ (vk = 3 ∧ vt.size ≤ 40) := by
            unfold mayB at hcase
            by_cases h0 : vk = 0
            · exact .inl h0
            · by_cases h1 : vk = 1
              · subst h1; simp at hcase; exact .inr (.inl ⟨rfl, hcase.1⟩)
              · by_cases h2 : vk = 2
                · exact .inr (.inr (.inl h2))
                · by_cases h3 : vk = 3
                  · subst h3; simp at hcase; exact .inr (.inr (.inr ⟨rfl, by omega⟩))
                  · simp [h0, h1, h2, h3] at hcase
          have HOWN0 := hide hown
          clear hm hcase hown
          go_wp2_with fail
          refine (unhide (HI _)).mono ?_
          rintro e w0 ⟨rfl, hb0⟩
          have hown := own_below (unhide HOWN0) hb0
          clear c0 c1 c2 hb0 HOWN0
          obtain ⟨c0, c1, c2⟩ := (unhide KC) _ hown.2.1
          have HOWN := hide hown
          clear hown
          rcases hkv with rfl | ⟨rfl, rfl | rfl⟩ | rfl | ⟨rfl, hsz⟩
          · go_wp2_with (first | (at_builtin; refine app_byte rfl _ _ 49 rfl w.heap.size 5 i0 Tryd.underlying49 hi hz0 hz1 hz2 u4 _ _ rfl w _ _ (unhide HOWN) rfl (by omega) ?_; rintro v1 w1 ho hg; have HO1 := hide ho; have ex := (unhide KC) _ ho.2.1; clear c0 c1 c2; obtain ⟨c0, c1, c2⟩ := ex; clear ho hg))
            refine ⟨⟨k + 1, by omega, by go_num, own_to (unhide HO1) (by rw [unhide HE]; simp [encI, bodyI, ByteArray.size, Nat.add_assoc]) (by rw [unhide HE]; simp [encI, bodyI, nums, strCells, Function.comp_def]), hide (up_to (unhide HUP) (unhide HV) (unhide HM))⟩, by simp [RowKit.intOf]; omega⟩
          · go_wp2_with (first | (at_builtin; refine app_byte rfl _ _ 49 rfl w.heap.size 5 i0 Tryd.underlying49 hi hz0 hz1 hz2 u4 _ _ rfl w _ _ (unhide HOWN) rfl (by omega) ?_; rintro v1 w1 ho hg; have HO1 := hide ho; have ex := (unhide KC) _ ho.2.1; clear c0 c1 c2; obtain ⟨c0, c1, c2⟩ := ex; clear ho hg) | (at_builtin; refine app_byte rfl _ _ 49 rfl w.heap.size 5 i0 Tryd.underlying49 hi hz0 hz1 hz2 v1 _ _ rfl w _ _ (unhide HO1) rfl (by omega) ?_; rintro v2 w2 ho hg; have HO3 := hide ho; clear ho hg))
            refine ⟨⟨k + 1, by omega, by go_num, own_to (unhide HO3) (by rw [unhide HE]; simp [encI, bodyI, ByteArray.size, Nat.add_assoc]) (by rw [unhide HE]; simp [encI, bodyI, nums, strCells, Function.comp_def]), hide (up_to (unhide HUP) (unhide HV) (unhide HM))⟩, by simp [RowKit.intOf]; omega⟩
          · go_wp2_with (first | (at_builtin; refine app_byte rfl _ _ 49 rfl w.heap.size 5 i0 Tryd.underlying49 hi hz0 hz1 hz2 u4 _ _ rfl w _ _ (unhide HOWN) rfl (by omega) ?_; rintro v1 w1 ho hg; have HO1 := hide ho; have ex := (unhide KC) _ ho.2.1; clear c0 c1 c2; obtain ⟨c0, c1, c2⟩ := ex; clear ho hg) | (at_builtin; refine app_byte rfl _ _ 49 rfl w.heap.size 5 i0 Tryd.underlying49 hi hz0 hz1 hz2 v1 _ _ rfl w _ _ (unhide HO1) rfl (by omega) ?_; rintro v2 w2 ho hg; have HO3 := hide ho; clear ho hg))
            refine ⟨⟨k + 1, by omega, by go_num, own_to (unhide HO3) (by rw [unhide HE]; simp [encI, bodyI, ByteArray.size, Nat.add_assoc]) (by rw [unhide HE]; simp [encI, bodyI, nums, strCells, Function.comp_def]), hide (up_to (unhide HUP) (unhide HV) (unhide HM))⟩, by simp [RowKit.intOf]; omega⟩
          · obtain ⟨N, hN⟩ : ∃ N : Int, vn + 9223372036854775808 = N := ⟨_, rfl⟩
            have HN := hide hN
            have hsum := wrap_sum hvn
            rw [hN] at hsum
            unfold In64 at hvn
            have hN0 : 0 ≤ N := by omega
            have hN1 : N < 18446744073709551616 := by omega
            clear hN hvn
            go_wp2_with (first | (at_builtin; refine app_byte rfl _ _ 49 rfl w.heap.size 5 i0 Tryd.underlying49 hi hz0 hz1 hz2 u4 _ _ rfl w _ _ (unhide HOWN) rfl (by omega) ?_; rintro v1 w1 ho hg; have HO1 := hide ho; have ex := (unhide KC) _ ho.2.1; clear c0 c1 c2; obtain ⟨c0, c1, c2⟩ := ex; clear ho hg))
            go_loopw [4, 7] (fun o i wr => ∃ j : Nat, j ≤ 8 ∧ i = .int .i64 (7 - (j : Int)) ∧ OwnBuf w.heap.size 5 o ((keyI (l.take k)).length + 1 + j) (nums (keyI (l.take k)) ++ [.int .u8 2] ++ (List.range j).map fun q => Value.int .u8 (bigI N q)) w wr) (fun _ i _ => (RowKit.intOf i + 1).toNat)
            case atStart => exact ⟨0, by omega, by simp, by simpa using unhide HO1⟩
            case round =>
              obtain ⟨j, hj, rfl, hoj⟩ := hrel
              have HJ := hide hoj
              clear hoj
              have hj' : j = 0 ∨ j = 1 ∨ j = 2 ∨ j = 3 ∨ j = 4 ∨ j = 5 ∨ j = 6 ∨ j = 7 ∨ j = 8 := by omega
              rcases hj' with rfl | rfl | rfl | rfl | rfl | rfl | rfl | rfl | rfl
              · go_wp2_with (first | (at_builtin; refine app_byte rfl _ _ 49 rfl w.heap.size 5 i0 Tryd.underlying49 hi hz0 hz1 hz2 u4 _ _ rfl w _ _ (unhide HJ) rfl (by omega) ?_; rintro v2 w2 ho hg; have HO3 := hide ho; clear ho hg))
                refine ⟨⟨1, by omega, by go_num, own_to (unhide HO3) (by omega) (big_next (by simp only [bigI, Nat.reduceMul, Nat.reduceSub, Int.reducePow]; try omega))⟩, by simp [RowKit.intOf]⟩
              · go_wp2_with (first | (at_builtin; refine app_byte rfl _ _ 49 rfl w.heap.size 5 i0 Tryd.underlying49 hi hz0 hz1 hz2 u4 _ _ rfl w _ _ (unhide HJ) rfl (by omega) ?_; rintro v2 w2 ho hg; have HO3 := hide ho; clear ho hg))
                refine ⟨⟨2, by omega, by go_num, own_to (unhide HO3) (by omega) (big_next (by simp only [bigI, Nat.reduceMul, Nat.reduceSub, Int.reducePow]; try omega))⟩, by simp [RowKit.intOf]⟩
              · go_wp2_with (first | (at_builtin; refine app_byte rfl _ _ 49 rfl w.heap.size 5 i0 Tryd.underlying49 hi hz0 hz1 hz2 u4 _ _ rfl w _ _ (unhide HJ) rfl (by omega) ?_; rintro v2 w2 ho hg; have HO3 := hide ho; clear ho hg))
                refine ⟨⟨3, by omega, by go_num, own_to (unhide HO3) (by omega) (big_next (by simp only [bigI, Nat.reduceMul, Nat.reduceSub, Int.reducePow]; try omega))⟩, by simp [RowKit.intOf]⟩
              · go_wp2_with (first | (at_builtin; refine app_byte rfl _ _ 49 rfl w.heap.size 5 i0 Tryd.underlying49 hi hz0 hz1 hz2 u4 _ _ rfl w _ _ (unhide HJ) rfl (by omega) ?_; rintro v2 w2 ho hg; have HO3 := hide ho; clear ho hg))
                refine ⟨⟨4, by omega, by go_num, own_to (unhide HO3) (by omega) (big_next (by simp only [bigI, Nat.reduceMul, Nat.reduceSub, Int.reducePow]; try omega))⟩, by simp [RowKit.intOf]⟩
              · go_wp2_with (first | (at_builtin; refine app_byte rfl _ _ 49 rfl w.heap.size 5 i0 Tryd.underlying49 hi hz0 hz1 hz2 u4 _ _ rfl w _ _ (unhide HJ) rfl (by omega) ?_; rintro v2 w2 ho hg; have HO3 := hide ho; clear ho hg))
                refine ⟨⟨5, by omega, by go_num, own_to (unhide HO3) (by omega) (big_next (by simp only [bigI, Nat.reduceMul, Nat.reduceSub, Int.reducePow]; try omega))⟩, by simp [RowKit.intOf]⟩
              · go_wp2_with (first | (at_builtin; refine app_byte rfl _ _ 49 rfl w.heap.size 5 i0 Tryd.underlying49 hi hz0 hz1 hz2 u4 _ _ rfl w _ _ (unhide HJ) rfl (by omega) ?_; rintro v2 w2 ho hg; have HO3 := hide ho; clear ho hg))
                refine ⟨⟨6, by omega, by go_num, own_to (unhide HO3) (by omega) (big_next (by simp only [bigI, Nat.reduceMul, Nat.reduceSub, Int.reducePow]; try omega))⟩, by simp [RowKit.intOf]⟩
              · go_wp2_with (first | (at_builtin; refine app_byte rfl _ _ 49 rfl w.heap.size 5 i0 Tryd.underlying49 hi hz0 hz1 hz2 u4 _ _ rfl w _ _ (unhide HJ) rfl (by omega) ?_; rintro v2 w2 ho hg; have HO3 := hide ho; clear ho hg))
                refine ⟨⟨7, by omega, by go_num, own_to (unhide HO3) (by omega) (big_next (by simp only [bigI, Nat.reduceMul, Nat.reduceSub, Int.reducePow]; try omega))⟩, by simp [RowKit.intOf]⟩
              · go_wp2_with (first | (at_builtin; refine app_byte rfl _ _ 49 rfl w.heap.size 5 i0 Tryd.underlying49 hi hz0 hz1 hz2 u4 _ _ rfl w _ _ (unhide HJ) rfl (by omega) ?_; rintro v2 w2 ho hg; have HO3 := hide ho; clear ho hg))
                refine ⟨⟨8, by omega, by go_num, own_to (unhide HO3) (by omega) (big_next (by simp only [bigI, Nat.reduceMul, Nat.reduceSub, Int.reducePow]; try omega))⟩, by simp [RowKit.intOf]⟩
              · go_wp2
                refine ⟨⟨k + 1, by omega, by go_num, own_to (unhide HJ) (by rw [unhide HE, List.length_append, encI2_len]; try omega) (by rw [unhide HE, nums_append, encI2_nums, unhide HN]; simp), hide (up_to (unhide HUP) (unhide HV) (unhide HM))⟩, by simp [RowKit.intOf]; omega⟩
          · go_wp2_with (first | (at_builtin; refine app_byte rfl _ _ 49 rfl w.heap.size 5 i0 Tryd.underlying49 hi hz0 hz1 hz2 u4 _ _ rfl w _ _ (unhide HOWN) rfl (by omega) ?_; rintro v1 w1 ho hg; have HO1 := hide ho; have ex := (unhide KC) _ ho.2.1; clear c0 c1 c2; obtain ⟨c0, c1, c2⟩ := ex; clear ho hg) | (at_builtin; refine app_text rfl _ _ 49 9 rfl w.heap.size 5 i0 Tryd.underlying49 Tryd.underlying9 hi hz0 hz1 hz2 v1 _ _ rfl w (unhide HO1) vt rfl (by omega) ?_; rintro v2 w2 ho hg; have HO3 := hide ho; clear ho hg) | (at_builtin; refine app_byte rfl _ _ 49 rfl w.heap.size 5 i0 Tryd.underlying49 hi hz0 hz1 hz2 v2 _ _ rfl w _ _ (unhide HO3) rfl (by omega) ?_; rintro v3 w3 ho hg; have HO4 := hide ho; clear ho hg))
            refine ⟨⟨k + 1, by omega, by go_num, own_to (unhide HO4) (by rw [unhide HE, List.length_append, encI3_len]; omega) (by rw [unhide HE, nums_append, encI3_nums]; simp), hide (up_to (unhide HUP) (unhide HV) (unhide HM))⟩, by simp [RowKit.intOf]; omega⟩
      · have hkn : k = n := by omega
        have ht : l.take k = l := List.take_of_length_le (by omega)
        rw [ht] at hown
        have hgood : badB l = false := badB_all (by rw [hlen, ← hkn]; exact unhide HUP)
        obtain ⟨A1, c1, rfl, hcap, hr⟩ := owns_reads hown.1
        have HCAP := hide hcap
        have HR := hide hr
        have HB := hide hown.2.1
        clear hr hown ht hcap
        go_wp2
        go_ret2
        unfold K6Post
        rw [if_pos ⟨by omega, hgood⟩]
        exact ⟨A1, c1, rfl, unhide HR, unhide HCAP, unhide HB⟩
  · clear h ht h64
    go_enter Tryd.func23, Tryd.ntmps23
    go_wp2
    go_ret2
    unfold K6Post
    rw [if_neg (by omega)]
    exact ⟨rfl, Below.refl _ _⟩
end Go.Proofs.YtpmjpbndpnmdlaaDoor
