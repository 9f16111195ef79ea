/- consistorylaw6.ValueKeys: the walk: true for every two rows. -/
import Derived.Test.YtpmjpbndpnmdlaaDoorKn6
import Derived.Test.YtpmjpbndpnmdlaaDoorKeyLaw2
set_option linter.all false
namespace Go.Proofs.YtpmjpbndpnmdlaaDoor
open Go.RowKit

theorem strOf_kb (l : List V) : (strOfNums (keyI l)).toList = kb l := by rw [ByteArray.toList_eq]; exact strOfNums_data _
theorem valuesB_self (l : List V) : valuesB l l = true := by
  unfold valuesB
  rw [decide_eq_true rfl, zip_all (fun i v v' h h' => by rw [h] at h'; cases h'; simp [V.same])]
  rfl
theorem KPost.good {w w' : World} {l : List V} {e : Ending} (h : KPost w l e w') (h1 : l.length ≤ 16) (h2 : badB l = false) : ∃ A c, e = .returned (.tuple #[.slice A (keyI l).length c, .nilIface]) ∧ Reads w' 1 A (keyI l).length (nums (keyI l)) ∧ (keyI l).length ≤ c ∧ Below w.heap.size w w' := by
  unfold KPost at h
  rwa [if_pos ⟨h1, h2⟩] at h
theorem KPost.bad {w w' : World} {l : List V} {e : Ending} (h : KPost w l e w') (h2 : badB l = true) : ∃ v, e = .returned (.tuple #[.slice none 0 0, v]) ∧ IsErr w' v 20 ∧ Below w.heap.size w w' := by
  unfold KPost at h
  rwa [if_neg (by rw [h2]; simp)] at h

set_option maxRecDepth 100000 in
set_option maxHeartbeats 1000000 in
theorem keys_walk (A : Option Addr) (n c : Nat) (A' : Option Addr) (n' c' : Nat) (a b : List V) (w : World) (hg : OkW w) (hn : n ≤ 9223372036854775807) (hn' : n' ≤ 9223372036854775807)
    (hta : ∀ v, v ∈ a → v.t.size ≤ 9223372036854775807) (htb : ∀ v, v ∈ b → v.t.size ≤ 9223372036854775807) (hna : ∀ v, v ∈ a → In64 v.n) (hnb : ∀ v, v ∈ b → In64 v.n)
    (ha : Reads w 3 A n (vcells a)) (hb : Reads w 3 A' n' (vcells b)) :
    Calls Tryd.prog 10 #[.slice A n c, .slice A' n' c'] w fun e w' => e = .returned (.bool true) ∧ Below w.heap.size w w' := by
  have hla := ha.vlen
  have hlb := hb.vlen
  have HA := hide ha
  have HB := hide hb
  have HG := hide hg
  have HK := hide (known6 w hg)
  have HF1 := fun W (h : Below w.heap.size w W) => hide (help_Few A n c a 16 W hn (ha.below h) fun i v h => hta v (List.mem_of_getElem? h))
  have HF2 := fun W (h : Below w.heap.size w W) => hide (help_Few A' n' c' b 16 W hn' (hb.below h) fun i v h => htb v (List.mem_of_getElem? h))
  have HK1 := fun W (h : Below w.heap.size w W) => hide (value_Key A n c a W hn hta hna (ha.below h))
  have HK2 := fun W (h : Below w.heap.size w W) => hide (value_Key A' n' c' b W hn' htb hnb (hb.below h))
  have HR := fun W (h : Below w.heap.size w W) => hide (value_Rows A n c A' n' c' a b W hn hta htb (ha.below h) (hb.below h))
  have HV := fun W (h : Below w.heap.size w W) A2 c2 (hl : Reads W 3 A2 n (vcells a)) => hide (help_Values A2 n c2 A n c a a W hn hn hl (ha.below h))
  clear ha hb
  cases hf1 : fewB a 16 with
  | false =>
    rw [hf1] at HF1
    clear hta htb hna hnb HK1 HK2 HR HV HF2
    go_enter Tryd.func10, Tryd.ntmps10
    go_wp2_with fail
    refine (unhide HK).mono ?_
    rintro e w1 ⟨rfl, hb1⟩
    have HBW := hide hb1
    clear hb1
    go_wp2_with (go_at_call 12; refine (unhide (HF1 _ (unhide HBW))).mono ?_; rintro e w2 ⟨rfl, rfl⟩)
    go_ret
    exact ⟨rfl, unhide HBW⟩
  | true =>
    rw [hf1] at HF1
    cases hf2 : fewB b 16 with
    | false =>
      rw [hf2] at HF2
      clear hta htb hna hnb HK1 HK2 HR HV
      go_enter Tryd.func10, Tryd.ntmps10
      go_wp2_with fail
      refine (unhide HK).mono ?_
      rintro e w1 ⟨rfl, hb1⟩
      have HBW := hide hb1
      clear hb1
      go_wp2_with fail
      refine (unhide (HF1 _ (unhide HBW))).mono ?_
      rintro e w2 ⟨rfl, rfl⟩
      go_wp2_with fail
      refine (unhide (HF2 _ (unhide HBW))).mono ?_
      rintro e w2 ⟨rfl, rfl⟩
      go_wp2
      go_ret
      exact ⟨rfl, unhide HBW⟩
    | true =>
      rw [hf2] at HF2
      by_cases hll : n = n'
      · have h16 : a.length ≤ 16 := by unfold fewB at hf1; simp only [Bool.and_eq_true, decide_eq_true_eq] at hf1; omega
        have h16' : b.length ≤ 16 := by unfold fewB at hf2; simp only [Bool.and_eq_true, decide_eq_true_eq] at hf2; omega
        subst hll
        cases hba : badB a with
        | true =>
          clear hta htb hna hnb HR HV
          cases hbb : badB b with
          | true =>
            go_enter Tryd.func10, Tryd.ntmps10
            go_wp2_with fail
            refine (unhide HK).mono ?_
            rintro e w1 ⟨rfl, hb1⟩
            have HBW := hide hb1
            clear hb1
            go_wp2_with fail
            refine (unhide (HF1 _ (unhide HBW))).mono ?_
            rintro e w2 ⟨rfl, rfl⟩
            go_wp2_with fail
            refine (unhide (HF2 _ (unhide HBW))).mono ?_
            rintro e w2 ⟨rfl, rfl⟩
            go_wp2_with fail
            refine (unhide (HK1 _ (unhide HBW))).mono ?_
            intro e w3 hk1
            obtain ⟨v3, rfl, he3, hb3⟩ := hk1.bad hba
            obtain ⟨T3, x3, rfl⟩ := he3.held (by decide)
            replace HBW := hide (Below.andThen (unhide HBW) hb3)
            clear hb3 hk1
            go_wp2_with fail
            refine (unhide (HK2 _ (unhide HBW))).mono ?_
            intro e w4 hk2
            obtain ⟨v4, rfl, he4, hb4⟩ := hk2.bad hbb
            obtain ⟨T4, x4, rfl⟩ := he4.held (by decide)
            obtain ⟨d, hE⟩ := ((he3.below hb4).resolve_left (fun h => absurd h.1 (by decide))).2
            replace HBW := hide (Below.andThen (unhide HBW) hb4)
            have HC := hide (Class_err d _ 20 w4 ((unhide HG).below (unhide HBW)) hE)
            clear hb4 hk2 he3 he4 hE
            go_wp2_with fail
            refine (unhide HC).mono ?_
            rintro e w5 ⟨rfl, hb5⟩
            go_wp2
            go_ret
            exact ⟨rfl, Below.andThen (unhide HBW) hb5⟩
          | false =>
            go_enter Tryd.func10, Tryd.ntmps10
            go_wp2_with fail
            refine (unhide HK).mono ?_
            rintro e w1 ⟨rfl, hb1⟩
            have HBW := hide hb1
            clear hb1
            go_wp2_with fail
            refine (unhide (HF1 _ (unhide HBW))).mono ?_
            rintro e w2 ⟨rfl, rfl⟩
            go_wp2_with fail
            refine (unhide (HF2 _ (unhide HBW))).mono ?_
            rintro e w2 ⟨rfl, rfl⟩
            go_wp2_with fail
            refine (unhide (HK1 _ (unhide HBW))).mono ?_
            intro e w3 hk1
            obtain ⟨v3, rfl, he3, hb3⟩ := hk1.bad hba
            obtain ⟨T3, x3, rfl⟩ := he3.held (by decide)
            replace HBW := hide (Below.andThen (unhide HBW) hb3)
            clear hb3 hk1
            go_wp2_with fail
            refine (unhide (HK2 _ (unhide HBW))).mono ?_
            intro e w4 hk2
            obtain ⟨A4, c4, rfl, _, _, hb4⟩ := hk2.good h16' hbb
            obtain ⟨d, hE⟩ := ((he3.below hb4).resolve_left (fun h => absurd h.1 (by decide))).2
            replace HBW := hide (Below.andThen (unhide HBW) hb4)
            have HC := hide (Class_err d _ 20 w4 ((unhide HG).below (unhide HBW)) hE)
            clear hb4 hk2 he3 hE
            go_wp2_with fail
            refine (unhide HC).mono ?_
            rintro e w5 ⟨rfl, hb5⟩
            go_wp2
            go_ret
            exact ⟨rfl, Below.andThen (unhide HBW) hb5⟩
        | false =>
          cases hbb : badB b with
          | true =>
            clear hta htb hna hnb HR HV
            have HN := fun w => hide (Class_nil w)
            go_enter Tryd.func10, Tryd.ntmps10
            go_wp2_with fail
            refine (unhide HK).mono ?_
            rintro e w1 ⟨rfl, hb1⟩
            have HBW := hide hb1
            clear hb1
            go_wp2_with fail
            refine (unhide (HF1 _ (unhide HBW))).mono ?_
            rintro e w2 ⟨rfl, rfl⟩
            go_wp2_with fail
            refine (unhide (HF2 _ (unhide HBW))).mono ?_
            rintro e w2 ⟨rfl, rfl⟩
            go_wp2_with fail
            refine (unhide (HK1 _ (unhide HBW))).mono ?_
            intro e w3 hk1
            obtain ⟨A3, c3, rfl, _, _, hb3⟩ := hk1.good h16 hba
            replace HBW := hide (Below.andThen (unhide HBW) hb3)
            clear hb3 hk1
            go_wp2_with fail
            refine (unhide (HK2 _ (unhide HBW))).mono ?_
            intro e w4 hk2
            obtain ⟨v4, rfl, he4, hb4⟩ := hk2.bad hbb
            obtain ⟨T4, x4, rfl⟩ := he4.held (by decide)
            obtain ⟨d, hE⟩ := (he4.resolve_left (fun h => absurd h.1 (by decide))).2
            replace HBW := hide (Below.andThen (unhide HBW) hb4)
            have HC := hide (Class_err d _ 20 w4 ((unhide HG).below (unhide HBW)) hE)
            clear hb4 hk2 he4 hE
            go_wp2_with fail
            refine (unhide (HN _)).mono ?_
            rintro e w5 ⟨rfl, rfl⟩
            go_wp2_with fail
            refine (unhide HC).mono ?_
            rintro e w5 ⟨rfl, hb5⟩
            go_wp2
            go_ret
            exact ⟨rfl, Below.andThen (unhide HBW) hb5⟩
          | false =>
            have hva := badB_false hba
            have hvb := badB_false hbb
            obtain ⟨q1, q2⟩ := kb_rows (a := a) (b := b) (by omega) (fun v hv => ⟨hva v hv, hna v hv⟩) (fun v hv => ⟨hvb v hv, hnb v hv⟩)
            have hlen : (keyI a).length ≤ 700 := by have := keyI_len hva; omega
            have HU := fun W A3 c3 (hc : (keyI a).length ≤ c3) (h : Reads W 1 A3 (keyI a).length (nums (keyI a))) => hide (value_Unkey A3 _ c3 a W h16 hva hna hta (by omega) hc h)
            have Q1 : Hid (Op.bytesLess (strOfNums (keyI a)).toList (strOfNums (keyI b)).toList = decide (rowsV a b < 0)) := by
              rw [strOf_kb, strOf_kb, q1, bytesLess_eq]
              exact hide rfl
            have Q2 : Hid (((strOfNums (keyI a)).toList == (strOfNums (keyI b)).toList) = (rowsV a b == 0)) := by
              rw [strOf_kb, strOf_kb]
              have e1 : (kb a == kb b) = decide (kb a = kb b) := by rw [Bool.eq_iff_iff, beq_iff_eq, decide_eq_true_eq]
              have e2 : (rowsV a b == 0) = decide (rowsV a b = 0) := by rw [Bool.eq_iff_iff, beq_iff_eq, decide_eq_true_eq]
              rw [e1, e2]
              exact hide q2.symm
            clear hta htb hna hnb q1 q2 hva hvb
            go_enter Tryd.func10, Tryd.ntmps10
            go_wp2_with fail
            refine (unhide HK).mono ?_
            rintro e w1 ⟨rfl, hb1⟩
            have HBW := hide hb1
            clear hb1
            go_wp2_with fail
            refine (unhide (HF1 _ (unhide HBW))).mono ?_
            rintro e w2 ⟨rfl, rfl⟩
            go_wp2_with fail
            refine (unhide (HF2 _ (unhide HBW))).mono ?_
            rintro e w2 ⟨rfl, rfl⟩
            go_wp2_with fail
            refine (unhide (HK1 _ (unhide HBW))).mono ?_
            intro e w3 hk1
            obtain ⟨A3, c3, rfl, hr3, hc3, hb3⟩ := hk1.good h16 hba
            replace HBW := hide (Below.andThen (unhide HBW) hb3)
            have HR3 := hide hr3
            have HC3 := hide hc3
            clear hb3 hk1 hr3 hc3
            go_wp2_with fail
            refine (unhide (HK2 _ (unhide HBW))).mono ?_
            intro e w4 hk2
            obtain ⟨A4, c4, rfl, hr4, _, hb4⟩ := hk2.good h16' hbb
            replace HBW := hide (Below.andThen (unhide HBW) hb4)
            replace HR3 := hide ((unhide HR3).below hb4)
            have HR4 := hide hr4
            clear hb4 hk2 hr4
            go_wp2_with fail
            refine (unhide (HU _ _ _ (unhide HC3) (unhide HR3))).mono ?_
            rintro e w5 ⟨A5, c5, rfl, hr5, hb5⟩
            replace HBW := hide (Below.andThen (unhide HBW) hb5)
            replace HR3 := hide ((unhide HR3).below hb5)
            replace HR4 := hide ((unhide HR4).below hb5)
            rw [hla] at hr5
            have HR5 := hide hr5
            clear hb5 hr5
            go_wp2_with fail
            refine (unhide (HR _ (unhide HBW))).mono ?_
            rintro e w6 ⟨rfl, hb6⟩
            replace HBW := hide (Below.andThen (unhide HBW) hb6)
            replace HR3 := hide ((unhide HR3).below hb6)
            replace HR4 := hide ((unhide HR4).below hb6)
            replace HR5 := hide ((unhide HR5).below hb6)
            clear hb6
            go_wp2_with fail
            refine (unhide (HV _ (unhide HBW) _ _ (unhide HR5))).mono ?_
            rw [valuesB_self]
            rintro e w7 ⟨rfl, hb7⟩
            replace HBW := hide (Below.andThen (unhide HBW) hb7)
            have k1 := ((unhide HR3).below hb7).conv (P := Tryd.prog) 49 5 Tryd.underlying49 Tryd.underlying5 c3 9 Tryd.underlying9
            have k2 := ((unhide HR4).below hb7).conv (P := Tryd.prog) 49 5 Tryd.underlying49 Tryd.underlying5 c4 9 Tryd.underlying9
            clear hb7 HR3 HR4 HR5 HV HR HU HK1 HK2
            have u1 := unhide Q1
            have u2 := unhide Q2
            clear Q1 Q2
            generalize strOfNums (keyI a) = s1 at *
            generalize strOfNums (keyI b) = s2 at *
            generalize rowsV a b = cv at *
            go_wp2
            go_ret
            exact ⟨rfl, unhide HBW⟩
      · have hne : ((n : Int) == (n' : Int)) = false := by rw [beq_eq_false_iff_ne]; omega
        clear hta htb hna hnb HK1 HK2 HR HV
        go_enter Tryd.func10, Tryd.ntmps10
        go_wp2_with fail
        refine (unhide HK).mono ?_
        rintro e w1 ⟨rfl, hb1⟩
        have HBW := hide hb1
        clear hb1
        go_wp2_with fail
        refine (unhide (HF1 _ (unhide HBW))).mono ?_
        rintro e w2 ⟨rfl, rfl⟩
        go_wp2_with fail
        refine (unhide (HF2 _ (unhide HBW))).mono ?_
        rintro e w2 ⟨rfl, rfl⟩
        go_wp2
        go_ret
        exact ⟨rfl, unhide HBW⟩
end Go.Proofs.YtpmjpbndpnmdlaaDoor
