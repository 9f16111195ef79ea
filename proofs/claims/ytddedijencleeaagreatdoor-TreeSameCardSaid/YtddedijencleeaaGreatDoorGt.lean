/- consistoryref9.Exactly: contract. -/
import Derived.Test.YtddedijencleeaaGreatDoorGr
import Derived.Test.YtddedijencleeaaGreatDoorGl
import Derived.Test.YtddedijencleeaaGreatDoorGn
import Derived.Test.YtddedijencleeaaGreatDoorGf
set_option linter.all false
namespace Go.Proofs.YtddedijencleeaaGreatDoor
open Go.RowKit Go.Lib RC

noncomputable abbrev cEx : Code := bodyOf Tryz.f19
noncomputable abbrev nEx : Nat := Tryz.f19.ntmps
theorem sb_kind {r : E → E → Bool} {a b : S} (h : (a.kind == b.kind) = false) : sameSB r a b = false := by simp only [sameSB, h, Bool.and_false, Bool.false_and]
theorem sb_tab {r : E → E → Bool} {a b : S} (h : (sameTa a.tab b.tab) = false) : sameSB r a b = false := by simp only [sameSB, h, Bool.and_false, Bool.false_and]
theorem sb_kc {r : E → E → Bool} {a b : S} (h : (eqN a.nkc b.nkc (fun i => sameNa (a.kc i) (b.kc i))) = false) : sameSB r a b = false := by simp only [sameSB, h, Bool.and_false, Bool.false_and]
theorem sb_nm {r : E → E → Bool} {a b : S} (h : (strB a.nm b.nm) = false) : sameSB r a b = false := by simp only [sameSB, h, Bool.and_false, Bool.false_and]
theorem sb_ix {r : E → E → Bool} {a b : S} (h : (strB a.ix b.ix) = false) : sameSB r a b = false := by simp only [sameSB, h, Bool.and_false, Bool.false_and]
theorem sb_un {r : E → E → Bool} {a b : S} (h : (a.un == b.un) = false) : sameSB r a b = false := by simp only [sameSB, h, Bool.and_false, Bool.false_and]
theorem sb_cl {r : E → E → Bool} {a b : S} (h : (sameNa a.cl b.cl) = false) : sameSB r a b = false := by simp only [sameSB, h, Bool.and_false, Bool.false_and]
theorem sb_rw {r : E → E → Bool} {a b : S} (h : (eqN a.nrw b.nrw (fun i => sameEs r (a.rw i) (b.rw i))) = false) : sameSB r a b = false := by simp only [sameSB, h, Bool.and_false, Bool.false_and]
theorem sb_st {r : E → E → Bool} {a b : S} (h : (eqN a.nst b.nst (fun i => sameSt r (a.st i) (b.st i))) = false) : sameSB r a b = false := by simp only [sameSB, h, Bool.and_false, Bool.false_and]
theorem sb_it {r : E → E → Bool} {a b : S} (h : (eqN a.nit b.nit (fun i => sameIt r (a.it i) (b.it i))) = false) : sameSB r a b = false := by simp only [sameSB, h, Bool.and_false, Bool.false_and]
theorem sb_fr {r : E → E → Bool} {a b : S} (h : (eqN a.nfr b.nfr (fun i => sameSo r (a.fr i) (b.fr i))) = false) : sameSB r a b = false := by simp only [sameSB, h, Bool.and_false, Bool.false_and]
theorem sb_od {r : E → E → Bool} {a b : S} (h : (eqN a.nor b.nor (fun i => sameOd r (a.od i) (b.od i))) = false) : sameSB r a b = false := by simp only [sameSB, h, Bool.and_false, Bool.false_and]
theorem sb_wh {r : E → E → Bool} {a b : S} (h : (r a.wh b.wh) = false) : sameSB r a b = false := by simp only [sameSB, h, Bool.and_false, Bool.false_and]
theorem sb_gr {r : E → E → Bool} {a b : S} (h : (sameEs r a.gr b.gr) = false) : sameSB r a b = false := by simp only [sameSB, h, Bool.and_false, Bool.false_and]
theorem sb_hv {r : E → E → Bool} {a b : S} (h : (r a.hv b.hv) = false) : sameSB r a b = false := by simp only [sameSB, h, Bool.and_false, Bool.false_and]
theorem sb_di {r : E → E → Bool} {a b : S} (h : (a.di == b.di) = false) : sameSB r a b = false := by simp only [sameSB, h, Bool.and_false, Bool.false_and]
theorem sb_li {r : E → E → Bool} {a b : S} (h : (a.li == b.li) = false) : sameSB r a b = false := by simp only [sameSB, h, Bool.and_false, Bool.false_and]
theorem StIn.len {W : World} {x : St} {cs : List Value} (h : StIn W x cs) : ∃ es, cs = .string x.nm :: es ∧ EIn W x.e es ∧ es.length = 10 := by
  obtain ⟨_, es, h1, h2⟩ := h
  exact ⟨es, h1, h2, h2.len⟩
set_option maxHeartbeats 4000000 in
set_option maxRecDepth 100000 in
theorem exactly_ok (a b : S) (ca cb : List Value) (W : World) (ha : SIn W a ca) (hb : SIn W b cb) :
    Calls Tryz.prog 19 #[.agg ca.toArray, .agg cb.toArray] W fun r W' => r = .returned (.bool (sameSB alikeE a b)) ∧ Below W.heap.size W W' := by
  obtain ⟨ta, vkc, vcl, vrw, vst, wh, vit, vfr, vgr, hv, vor, rfl, ia⟩ := ha
  obtain ⟨ta', vkc', vcl', vrw', vst', wh', vit', vfr', vgr', hv', vor', rfl, ib⟩ := hb
  obtain ⟨zC1, hC1⟩ : ∃ z, (sameTa a.tab b.tab) = z := ⟨_, rfl⟩
  have C1 : Said.ok Tryz.prog W.heap.size W (.call 55 [.agg ta.toArray, .agg ta'.toArray] (.bool zC1)) := by
    rw [← hC1]
    exact Said.of Tryz.func55 rfl (by kernel_rfl) (fun w hw => ref_sameTable a.tab b.tab ta ta' w (ia.tab.sub (.below hw)) (ib.tab.sub (.below hw)))
  obtain ⟨zC3, hC3⟩ : ∃ z, (sameNa a.cl b.cl) = z := ⟨_, rfl⟩
  have C3 : Said.ok Tryz.prog W.heap.size W (.call 56 [vcl, vcl'] (.bool zC3)) := by
    rw [← hC3]
    exact Said.of Tryz.func56 rfl (by kernel_rfl) (fun w hw => ref_strings (ia.cl.sub (.below hw)) (ib.cl.sub (.below hw)))
  obtain ⟨zC9, hC9⟩ : ∃ z, (alikeE a.wh b.wh) = z := ⟨_, rfl⟩
  have C9 : Said.ok Tryz.prog W.heap.size W (.call 58 [.agg wh.toArray, .agg wh'.toArray] (.bool zC9)) := by
    rw [← hC9]
    exact Said.of Tryz.func58 rfl (by kernel_rfl) (fun w hw => alike_ok a.wh b.wh wh wh' w (ia.wh.sub (.below hw)) (ib.wh.sub (.below hw)))
  obtain ⟨zC11, hC11⟩ : ∃ z, (alikeE a.hv b.hv) = z := ⟨_, rfl⟩
  have C11 : Said.ok Tryz.prog W.heap.size W (.call 58 [.agg hv.toArray, .agg hv'.toArray] (.bool zC11)) := by
    rw [← hC11]
    exact Said.of Tryz.func58 rfl (by kernel_rfl) (fun w hw => alike_ok a.hv b.hv hv hv' w (ia.hv.sub (.below hw)) (ib.hv.sub (.below hw)))
  obtain ⟨zC10, hC10⟩ : ∃ z, (sameEs alikeE a.gr b.gr) = z := ⟨_, rfl⟩
  have C10 : Said.ok Tryz.prog W.heap.size W (.call 57 [vgr, vgr'] (.bool zC10)) := by
    rw [← hC10]
    exact Said.of Tryz.func57 rfl (by kernel_rfl) (fun w hw => alikes_ok (ia.gr.sub (.below hw)) (ib.gr.sub (.below hw)))
  obtain ⟨zT0, hT0⟩ : ∃ z, (a.kind != b.kind) = z := ⟨_, rfl⟩
  have T0 := Said.intNe (P := Tryz.prog) (N := W.heap.size) (W := W) (t := 3) (k := .i64) hT0
  obtain ⟨zT3, hT3⟩ : ∃ z, (!(a.nm.toList == b.nm.toList)) = z := ⟨_, rfl⟩
  have T3 := Said.strNe (P := Tryz.prog) (N := W.heap.size) (W := W) (t := 9) hT3
  obtain ⟨zT4, hT4⟩ : ∃ z, (!(a.ix.toList == b.ix.toList)) = z := ⟨_, rfl⟩
  have T4 := Said.strNe (P := Tryz.prog) (N := W.heap.size) (W := W) (t := 9) hT4
  obtain ⟨zT5, hT5⟩ : ∃ z, (a.un != b.un) = z := ⟨_, rfl⟩
  have T5 := Said.boolNe (P := Tryz.prog) (N := W.heap.size) (W := W) (t := 4) Tryz.underlying4 hT5
  obtain ⟨zT6, hT6⟩ : ∃ z, (a.di != b.di) = z := ⟨_, rfl⟩
  have T6 := Said.boolNe (P := Tryz.prog) (N := W.heap.size) (W := W) (t := 4) Tryz.underlying4 hT6
  obtain ⟨zT7, hT7⟩ : ∃ z, (a.li != b.li) = z := ⟨_, rfl⟩
  have T7 := Said.intNe (P := Tryz.prog) (N := W.heap.size) (W := W) (t := 2) (k := .i64) hT7
  obtain ⟨zL0, hL0⟩ : ∃ z, ((a.nkc : Int) != (b.nkc : Int)) = z := ⟨_, rfl⟩
  have L0 := Said.intNe (P := Tryz.prog) (N := W.heap.size) (W := W) (t := 3) (k := .i64) hL0
  obtain ⟨zL1, hL1⟩ : ∃ z, ((a.nrw : Int) != (b.nrw : Int)) = z := ⟨_, rfl⟩
  have L1 := Said.intNe (P := Tryz.prog) (N := W.heap.size) (W := W) (t := 3) (k := .i64) hL1
  obtain ⟨zL2, hL2⟩ : ∃ z, ((a.nst : Int) != (b.nst : Int)) = z := ⟨_, rfl⟩
  have L2 := Said.intNe (P := Tryz.prog) (N := W.heap.size) (W := W) (t := 3) (k := .i64) hL2
  obtain ⟨zL3, hL3⟩ : ∃ z, ((a.nit : Int) != (b.nit : Int)) = z := ⟨_, rfl⟩
  have L3 := Said.intNe (P := Tryz.prog) (N := W.heap.size) (W := W) (t := 3) (k := .i64) hL3
  obtain ⟨zL4, hL4⟩ : ∃ z, ((a.nfr : Int) != (b.nfr : Int)) = z := ⟨_, rfl⟩
  have L4 := Said.intNe (P := Tryz.prog) (N := W.heap.size) (W := W) (t := 3) (k := .i64) hL4
  obtain ⟨zL5, hL5⟩ : ∃ z, ((a.nor : Int) != (b.nor : Int)) = z := ⟨_, rfl⟩
  have L5 := Said.intNe (P := Tryz.prog) (N := W.heap.size) (W := W) (t := 3) (k := .i64) hL5
  obtain ⟨tA, tn, tc, tB, tm, td, rfl⟩ := ia.tab.form
  have s1 := ia.kc
  obtain ⟨A1, c1, rfl⟩ := ia.kc.form
  have s2 := ia.cl
  obtain ⟨A2, c2, rfl⟩ := ia.cl.form
  have s3 := ia.rw
  obtain ⟨A3, c3, rfl⟩ := ia.rw.form
  have s4 := ia.st
  obtain ⟨A4, c4, rfl⟩ := ia.st.form
  have s5 := ia.it
  obtain ⟨A5, c5, rfl⟩ := ia.it.form
  have s6 := ia.fr
  obtain ⟨A6, c6, rfl⟩ := ia.fr.form
  have s7 := ia.gr
  obtain ⟨A7, c7, rfl⟩ := ia.gr.form
  have s8 := ia.od
  obtain ⟨A8, c8, rfl⟩ := ia.od.form
  obtain ⟨wk, wo, wvk, wvn, wvt, wtb, wnm, wA, wn, wc, wpl, wty, rfl⟩ := ia.wh.form
  obtain ⟨hk, ho, hvk, hvn, hvt, htb, hnm, hA, hn, hc, hpl, hty, rfl⟩ := ia.hv.form
  obtain ⟨tA', tn', tc', tB', tm', td', rfl⟩ := ib.tab.form
  have s1' := ib.kc
  obtain ⟨A1', c1', rfl⟩ := ib.kc.form
  have s2' := ib.cl
  obtain ⟨A2', c2', rfl⟩ := ib.cl.form
  have s3' := ib.rw
  obtain ⟨A3', c3', rfl⟩ := ib.rw.form
  have s4' := ib.st
  obtain ⟨A4', c4', rfl⟩ := ib.st.form
  have s5' := ib.it
  obtain ⟨A5', c5', rfl⟩ := ib.it.form
  have s6' := ib.fr
  obtain ⟨A6', c6', rfl⟩ := ib.fr.form
  have s7' := ib.gr
  obtain ⟨A7', c7', rfl⟩ := ib.gr.form
  have s8' := ib.od
  obtain ⟨A8', c8', rfl⟩ := ib.od.form
  obtain ⟨wk', wo', wvk', wvn', wvt', wtb', wnm', wA', wn', wc', wpl', wty', rfl⟩ := ib.wh.form
  obtain ⟨hk', ho', hvk', hvn', hvt', htb', hnm', hA', hn', hc', hpl', hty', rfl⟩ := ib.hv.form
  have e1 := s1.len
  have e3 := s3.len
  have e4 := s4.len
  have e5 := s5.len
  have e6 := s6.len
  have e8 := s8.len
  clear ia ib
  refine calls_rd (c := cEx) Tryz.func19 rfl (by kernel_rfl) fun a0 hst => ?_
  cases zT0
  rotate_left
  · exact goE hst (okC T0 okN) (vs := [.bool false]) (by as_aux_lemma => kernel_rfl) fun w' hw => ⟨by rw [sb_kind (by simpa using hT0)]; rfl, hw⟩
  cases zC1
  · exact goE hst (okC T0 (okC C1 okN)) (vs := [.bool false]) (by as_aux_lemma => kernel_rfl) fun w' hw => ⟨by rw [sb_tab (hC1)]; rfl, hw⟩
  cases zT3
  rotate_left
  · exact goE hst (okC T0 (okC C1 (okC T3 okN))) (vs := [.bool false]) (by as_aux_lemma => kernel_rfl) fun w' hw => ⟨by rw [sb_nm (by simp only [strB]; simpa using hT3)]; rfl, hw⟩
  cases zT4
  rotate_left
  · exact goE hst (okC T0 (okC C1 (okC T3 (okC T4 okN)))) (vs := [.bool false]) (by as_aux_lemma => kernel_rfl) fun w' hw => ⟨by rw [sb_ix (by simp only [strB]; simpa using hT4)]; rfl, hw⟩
  cases zT5
  rotate_left
  · exact goE hst (okC T0 (okC C1 (okC T3 (okC T4 (okC T5 okN))))) (vs := [.bool false]) (by as_aux_lemma => kernel_rfl) fun w' hw => ⟨by rw [sb_un (by simpa using hT5)]; rfl, hw⟩
  cases zC3
  · exact goE hst (okC T0 (okC C1 (okC T3 (okC T4 (okC T5 (okC C3 okN)))))) (vs := [.bool false]) (by as_aux_lemma => kernel_rfl) fun w' hw => ⟨by rw [sb_cl (hC3)]; rfl, hw⟩
  cases zT6
  rotate_left
  · exact goE hst (okC T0 (okC C1 (okC T3 (okC T4 (okC T5 (okC C3 (okC T6 okN))))))) (vs := [.bool false]) (by as_aux_lemma => kernel_rfl) fun w' hw => ⟨by rw [sb_di (by simpa using hT6)]; rfl, hw⟩
  cases zT7
  rotate_left
  · exact goE hst (okC T0 (okC C1 (okC T3 (okC T4 (okC T5 (okC C3 (okC T6 (okC T7 okN)))))))) (vs := [.bool false]) (by as_aux_lemma => kernel_rfl) fun w' hw => ⟨by rw [sb_li (by simpa using hT7)]; rfl, hw⟩
  cases zL0
  rotate_left
  · exact goE hst (okC T0 (okC C1 (okC T3 (okC T4 (okC T5 (okC C3 (okC T6 (okC T7 (okC L0 okN))))))))) (vs := [.bool false]) (by as_aux_lemma => kernel_rfl) fun w' hw => ⟨by rw [sb_kc (eqN_no (by simp at hL0; omega))]; rfl, hw⟩
  cases zL1
  rotate_left
  · exact goE hst (okC T0 (okC C1 (okC T3 (okC T4 (okC T5 (okC C3 (okC T6 (okC T7 (okC L0 (okC L1 okN)))))))))) (vs := [.bool false]) (by as_aux_lemma => kernel_rfl) fun w' hw => ⟨by rw [sb_rw (eqN_no (by simp at hL1; omega))]; rfl, hw⟩
  cases zL2
  rotate_left
  · exact goE hst (okC T0 (okC C1 (okC T3 (okC T4 (okC T5 (okC C3 (okC T6 (okC T7 (okC L0 (okC L1 (okC L2 okN))))))))))) (vs := [.bool false]) (by as_aux_lemma => kernel_rfl) fun w' hw => ⟨by rw [sb_st (eqN_no (by simp at hL2; omega))]; rfl, hw⟩
  cases zL3
  rotate_left
  · exact goE hst (okC T0 (okC C1 (okC T3 (okC T4 (okC T5 (okC C3 (okC T6 (okC T7 (okC L0 (okC L1 (okC L2 (okC L3 okN)))))))))))) (vs := [.bool false]) (by as_aux_lemma => kernel_rfl) fun w' hw => ⟨by rw [sb_it (eqN_no (by simp at hL3; omega))]; rfl, hw⟩
  cases zL4
  rotate_left
  · exact goE hst (okC T0 (okC C1 (okC T3 (okC T4 (okC T5 (okC C3 (okC T6 (okC T7 (okC L0 (okC L1 (okC L2 (okC L3 (okC L4 okN))))))))))))) (vs := [.bool false]) (by as_aux_lemma => kernel_rfl) fun w' hw => ⟨by rw [sb_fr (eqN_no (by simp at hL4; omega))]; rfl, hw⟩
  cases zL5
  rotate_left
  · exact goE hst (okC T0 (okC C1 (okC T3 (okC T4 (okC T5 (okC C3 (okC T6 (okC T7 (okC L0 (okC L1 (okC L2 (okC L3 (okC L4 (okC L5 okN)))))))))))))) (vs := [.bool false]) (by as_aux_lemma => kernel_rfl) fun w' hw => ⟨by rw [sb_od (eqN_no (by simp at hL5; omega))]; rfl, hw⟩
  simp only [bne_eq_false_iff_eq] at hT0 hT5 hT6 hT7 hL0 hL1 hL2 hL3 hL4 hL5
  refine go (.loop 0) (k' := stackAt cEx (.loop 0)) (e := .nrm) [(5, .v (.int .i64 (0 : Nat))), (2, .p 0 0), (3, .p 1 0), (4, .v (.bool false))] [bx (sCells a [.string a.tab.nm, .slice tA tn tc, .slice tB tm td] (.slice A1 a.nkc c1) (.slice A2 a.cl.n c2) (.slice A3 a.nrw c3) (.slice A4 a.nst c4) [.int .i64 wk, .int .i64 wo, .int .i64 wvk, .int .i64 wvn, .string wvt, .string wtb, .string wnm, .slice wA wn wc, .int .i64 wpl, .int .i64 wty] (.slice A5 a.nit c5) (.slice A6 a.nfr c6) (.slice A7 a.gr.n c7) [.int .i64 hk, .int .i64 ho, .int .i64 hvk, .int .i64 hvn, .string hvt, .string htb, .string hnm, .slice hA hn hc, .int .i64 hpl, .int .i64 hty] (.slice A8 a.nor c8)), bx (sCells b [.string b.tab.nm, .slice tA' tn' tc', .slice tB' tm' td'] (.slice A1' b.nkc c1') (.slice A2' b.cl.n c2') (.slice A3' b.nrw c3') (.slice A4' b.nst c4') [.int .i64 wk', .int .i64 wo', .int .i64 wvk', .int .i64 wvn', .string wvt', .string wtb', .string wnm', .slice wA' wn' wc', .int .i64 wpl', .int .i64 wty'] (.slice A5' b.nit c5') (.slice A6' b.nfr c6') (.slice A7' b.gr.n c7') [.int .i64 hk', .int .i64 ho', .int .i64 hvk', .int .i64 hvn', .string hvt', .string htb', .string hnm', .slice hA' hn' hc', .int .i64 hpl', .int .i64 hty'] (.slice A8' b.nor c8'))] hst (okC T0 (okC C1 (okC T3 (okC T4 (okC T5 (okC C3 (okC T6 (okC T7 (okC L0 (okC L1 (okC L2 (okC L3 (okC L4 (okC L5 okN)))))))))))))) (by as_aux_lemma => kernel_rfl) fun g1 a1 w1 hst1 _ => ?_
  clear hst T0 C1 T3 T4 T5 C3 T6 T7 L0 L1 L2 L3 L4 L5 
  refine cmpLoop cEx 0 5 4 3 a.nkc (fun i => sameNa (a.kc i) (b.kc i)) (.bool false) (by omega) (by as_aux_lemma => kernel_rfl) hst1 (fun i hi hq => ?_) (fun i hi hq => ?_) (by as_aux_lemma => kernel_rfl) rfl (by kernel_rfl) (fun i hi hq bs9 g9 a9 w9 hst => end_at hst (vs := [.v (.bool false)]) (by kernel_rfl) ⟨by rw [sb_kc (by rw [show a.nkc = b.nkc by omega] at hi ⊢; exact eqN_at (r := fun i => sameNa (a.kc i) (b.kc i)) hi hq)]; rfl, hst.rp.below⟩) fun hl0 g2 a2 w2 hstG => ?_
  · obtain ⟨b1, o1, d1, cs1, q1, l1, l1', p1, r1⟩ := s1.at hi
    obtain ⟨b2, o2, d2, cs2, q2, l2, l2', p2, r2⟩ := s1'.at (i := i) (by omega)
    cases q1
    cases q2
    have G1 := Said.elem (P := Tryz.prog) (N := W.heap.size) (W := W) (t := 26) (e := 27) (b := b1) (o := o1) (n := a.nkc) (c := c1) (size := 1) (i := i) (k := .i64) Tryz.underlying26 (by kernel_rfl) hi
    have G2 := Said.elem (P := Tryz.prog) (N := W.heap.size) (W := W) (t := 26) (e := 27) (b := b2) (o := o2) (n := b.nkc) (c := c1') (size := 1) (i := i) (k := .i64) Tryz.underlying26 (by kernel_rfl) (by omega)
    obtain ⟨v1, rfl, x1⟩ := p1
    obtain ⟨v2, rfl, x2⟩ := p2
    have G3 := Said.cell (P := Tryz.prog) (N := W.heap.size) (W := W) (t := 27) (by kernel_rfl) (r1 0 _ rfl) l1 (Nat.le_refl _)
    have G4 := Said.cell (P := Tryz.prog) (N := W.heap.size) (W := W) (t := 27) (by kernel_rfl) (r2 0 _ rfl) l2 (Nat.le_refl _)
    have G5 : Said.ok Tryz.prog W.heap.size W (.call 56 [v1, v2] (.bool true)) := by
      rw [← hq]
      exact Said.of Tryz.func56 rfl (by kernel_rfl) (fun w hw => ref_strings (x1.sub (.below hw)) (x2.sub (.below hw)))
    exact ⟨_, (okC G1 (okC G3 (okC G2 (okC G4 (okC G5 okN))))), by as_aux_lemma => kernel_rfl⟩
  · obtain ⟨b1, o1, d1, cs1, q1, l1, l1', p1, r1⟩ := s1.at hi
    obtain ⟨b2, o2, d2, cs2, q2, l2, l2', p2, r2⟩ := s1'.at (i := i) (by omega)
    cases q1
    cases q2
    have G1 := Said.elem (P := Tryz.prog) (N := W.heap.size) (W := W) (t := 26) (e := 27) (b := b1) (o := o1) (n := a.nkc) (c := c1) (size := 1) (i := i) (k := .i64) Tryz.underlying26 (by kernel_rfl) hi
    have G2 := Said.elem (P := Tryz.prog) (N := W.heap.size) (W := W) (t := 26) (e := 27) (b := b2) (o := o2) (n := b.nkc) (c := c1') (size := 1) (i := i) (k := .i64) Tryz.underlying26 (by kernel_rfl) (by omega)
    obtain ⟨v1, rfl, x1⟩ := p1
    obtain ⟨v2, rfl, x2⟩ := p2
    have G3 := Said.cell (P := Tryz.prog) (N := W.heap.size) (W := W) (t := 27) (by kernel_rfl) (r1 0 _ rfl) l1 (Nat.le_refl _)
    have G4 := Said.cell (P := Tryz.prog) (N := W.heap.size) (W := W) (t := 27) (by kernel_rfl) (r2 0 _ rfl) l2 (Nat.le_refl _)
    have G5 : Said.ok Tryz.prog W.heap.size W (.call 56 [v1, v2] (.bool false)) := by
      rw [← hq]
      exact Said.of Tryz.func56 rfl (by kernel_rfl) (fun w hw => ref_strings (x1.sub (.below hw)) (x2.sub (.below hw)))
    exact ⟨_, (okC G1 (okC G3 (okC G2 (okC G4 (okC G5 okN))))), by as_aux_lemma => kernel_rfl⟩
  refine goK (.loop 2) (k' := stackAt cEx (.loop 2)) (e := .nrm) [(6, .v (.int .i64 (0 : Nat))), (2, .p 0 0), (3, .p 1 0), (4, .v (.bool false))] hstG okN (by as_aux_lemma => kernel_rfl) fun g1 a1 w1 hst2 _ => ?_
  clear hst1 hstG
  refine cmpLoop cEx 2 6 4 3 a.nrw (fun i => sameEs alikeE (a.rw i) (b.rw i)) (.bool false) (by omega) (by as_aux_lemma => kernel_rfl) hst2 (fun i hi hq => ?_) (fun i hi hq => ?_) (by as_aux_lemma => kernel_rfl) rfl (by kernel_rfl) (fun i hi hq bs9 g9 a9 w9 hst => end_at hst (vs := [.v (.bool false)]) (by kernel_rfl) ⟨by rw [sb_rw (by rw [show a.nrw = b.nrw by omega] at hi ⊢; exact eqN_at (r := fun i => sameEs alikeE (a.rw i) (b.rw i)) hi hq)]; rfl, hst.rp.below⟩) fun hl1 g2 a2 w2 hstG => ?_
  · obtain ⟨b1, o1, d1, cs1, q1, l1, l1', p1, r1⟩ := s3.at hi
    obtain ⟨b2, o2, d2, cs2, q2, l2, l2', p2, r2⟩ := s3'.at (i := i) (by omega)
    cases q1
    cases q2
    have G1 := Said.elem (P := Tryz.prog) (N := W.heap.size) (W := W) (t := 28) (e := 32) (b := b1) (o := o1) (n := a.nrw) (c := c3) (size := 1) (i := i) (k := .i64) Tryz.underlying28 (by kernel_rfl) hi
    have G2 := Said.elem (P := Tryz.prog) (N := W.heap.size) (W := W) (t := 28) (e := 32) (b := b2) (o := o2) (n := b.nrw) (c := c3') (size := 1) (i := i) (k := .i64) Tryz.underlying28 (by kernel_rfl) (by omega)
    obtain ⟨v1, rfl, x1⟩ := p1
    obtain ⟨v2, rfl, x2⟩ := p2
    have G3 := Said.cell (P := Tryz.prog) (N := W.heap.size) (W := W) (t := 32) (by kernel_rfl) (r1 0 _ rfl) l1 (Nat.le_refl _)
    have G4 := Said.cell (P := Tryz.prog) (N := W.heap.size) (W := W) (t := 32) (by kernel_rfl) (r2 0 _ rfl) l2 (Nat.le_refl _)
    have G5 : Said.ok Tryz.prog W.heap.size W (.call 57 [v1, v2] (.bool true)) := by
      rw [← hq]
      exact Said.of Tryz.func57 rfl (by kernel_rfl) (fun w hw => alikes_ok (x1.sub (.below hw)) (x2.sub (.below hw)))
    exact ⟨_, (okC G1 (okC G3 (okC G2 (okC G4 (okC G5 okN))))), by as_aux_lemma => kernel_rfl⟩
  · obtain ⟨b1, o1, d1, cs1, q1, l1, l1', p1, r1⟩ := s3.at hi
    obtain ⟨b2, o2, d2, cs2, q2, l2, l2', p2, r2⟩ := s3'.at (i := i) (by omega)
    cases q1
    cases q2
    have G1 := Said.elem (P := Tryz.prog) (N := W.heap.size) (W := W) (t := 28) (e := 32) (b := b1) (o := o1) (n := a.nrw) (c := c3) (size := 1) (i := i) (k := .i64) Tryz.underlying28 (by kernel_rfl) hi
    have G2 := Said.elem (P := Tryz.prog) (N := W.heap.size) (W := W) (t := 28) (e := 32) (b := b2) (o := o2) (n := b.nrw) (c := c3') (size := 1) (i := i) (k := .i64) Tryz.underlying28 (by kernel_rfl) (by omega)
    obtain ⟨v1, rfl, x1⟩ := p1
    obtain ⟨v2, rfl, x2⟩ := p2
    have G3 := Said.cell (P := Tryz.prog) (N := W.heap.size) (W := W) (t := 32) (by kernel_rfl) (r1 0 _ rfl) l1 (Nat.le_refl _)
    have G4 := Said.cell (P := Tryz.prog) (N := W.heap.size) (W := W) (t := 32) (by kernel_rfl) (r2 0 _ rfl) l2 (Nat.le_refl _)
    have G5 : Said.ok Tryz.prog W.heap.size W (.call 57 [v1, v2] (.bool false)) := by
      rw [← hq]
      exact Said.of Tryz.func57 rfl (by kernel_rfl) (fun w hw => alikes_ok (x1.sub (.below hw)) (x2.sub (.below hw)))
    exact ⟨_, (okC G1 (okC G3 (okC G2 (okC G4 (okC G5 okN))))), by as_aux_lemma => kernel_rfl⟩
  refine goK (.loop 4) (k' := stackAt cEx (.loop 4)) (e := .nrm) [(7, .v (.int .i64 (0 : Nat))), (2, .p 0 0), (3, .p 1 0), (4, .v (.bool false))] hstG okN (by as_aux_lemma => kernel_rfl) fun g1 a1 w1 hst3 _ => ?_
  clear hst2 hstG
  refine cmpLoop cEx 4 7 4 3 a.nst (fun i => sameSt alikeE (a.st i) (b.st i)) (.bool false) (by omega) (by as_aux_lemma => kernel_rfl) hst3 (fun i hi hq => ?_) (fun i hi hq => ?_) (by as_aux_lemma => kernel_rfl) rfl (by kernel_rfl) (fun i hi hq bs9 g9 a9 w9 hst => end_at hst (vs := [.v (.bool false)]) (by kernel_rfl) ⟨by rw [sb_st (by rw [show a.nst = b.nst by omega] at hi ⊢; exact eqN_at (r := fun i => sameSt alikeE (a.st i) (b.st i)) hi hq)]; rfl, hst.rp.below⟩) fun hl2 g2 a2 w2 hstG => ?_
  · obtain ⟨b1, o1, d1, cs1, q1, l1, l1', p1, r1⟩ := s4.at hi
    obtain ⟨b2, o2, d2, cs2, q2, l2, l2', p2, r2⟩ := s4'.at (i := i) (by omega)
    cases q1
    cases q2
    have G1 := Said.elem (P := Tryz.prog) (N := W.heap.size) (W := W) (t := 29) (e := 61) (b := b1) (o := o1) (n := a.nst) (c := c4) (size := 11) (i := i) (k := .i64) Tryz.underlying29 (by kernel_rfl) hi
    have G2 := Said.elem (P := Tryz.prog) (N := W.heap.size) (W := W) (t := 29) (e := 61) (b := b2) (o := o2) (n := b.nst) (c := c4') (size := 11) (i := i) (k := .i64) Tryz.underlying29 (by kernel_rfl) (by omega)
    obtain ⟨_, es1, rfl, x1⟩ := p1
    obtain ⟨_, es2, rfl, x2⟩ := p2
    have G3 := Said.cell (P := Tryz.prog) (N := W.heap.size) (W := W) (t := 9) (by kernel_rfl) (r1 0 _ rfl) l1 (Nat.le_refl _)
    have G4 := Said.cell (P := Tryz.prog) (N := W.heap.size) (W := W) (t := 9) (by kernel_rfl) (r2 0 _ rfl) l2 (Nat.le_refl _)
    have G5 := Said.row (P := Tryz.prog) (N := W.heap.size) (W := W) (t := 34) (by kernel_rfl) (by rw [x1.len]; kernel_rfl) (range_tail r1) l1 (Nat.le_refl _)
    have G6 := Said.row (P := Tryz.prog) (N := W.heap.size) (W := W) (t := 34) (by kernel_rfl) (by rw [x2.len]; kernel_rfl) (range_tail r2) l2 (Nat.le_refl _)
    obtain ⟨w9, y9⟩ : ∃ z, (alikeE (a.st i).e (b.st i).e) = z := ⟨_, rfl⟩
    obtain ⟨wy0, y0⟩ : ∃ z, (!((a.st i).nm.toList == (b.st i).nm.toList)) = z := ⟨_, rfl⟩
    have Y0 := Said.strNe (P := Tryz.prog) (N := W.heap.size) (W := W) (t := 9) y0
    cases w9
    · exfalso; revert hq; simp only [sameSt, strB, y9]; simp
    have G9 : Said.ok Tryz.prog W.heap.size W (.call 58 [.agg es1.toArray, .agg es2.toArray] (.bool true)) := by
      rw [← y9]
      exact Said.of Tryz.func58 rfl (by kernel_rfl) (fun w hw => alike_ok _ _ es1 es2 w (x1.sub (.below hw)) (x2.sub (.below hw)))
    cases wy0
    rotate_left
    · exfalso; revert hq y0; simp only [sameSt, strB]; simp +contextual
    exact ⟨_, (okC G1 (okC G3 (okC G2 (okC G4 (okC Y0 (okC G1 (okC G5 (okC G2 (okC G6 (okC G9 okN)))))))))), by as_aux_lemma => kernel_rfl⟩
  · obtain ⟨b1, o1, d1, cs1, q1, l1, l1', p1, r1⟩ := s4.at hi
    obtain ⟨b2, o2, d2, cs2, q2, l2, l2', p2, r2⟩ := s4'.at (i := i) (by omega)
    cases q1
    cases q2
    have G1 := Said.elem (P := Tryz.prog) (N := W.heap.size) (W := W) (t := 29) (e := 61) (b := b1) (o := o1) (n := a.nst) (c := c4) (size := 11) (i := i) (k := .i64) Tryz.underlying29 (by kernel_rfl) hi
    have G2 := Said.elem (P := Tryz.prog) (N := W.heap.size) (W := W) (t := 29) (e := 61) (b := b2) (o := o2) (n := b.nst) (c := c4') (size := 11) (i := i) (k := .i64) Tryz.underlying29 (by kernel_rfl) (by omega)
    obtain ⟨_, es1, rfl, x1⟩ := p1
    obtain ⟨_, es2, rfl, x2⟩ := p2
    have G3 := Said.cell (P := Tryz.prog) (N := W.heap.size) (W := W) (t := 9) (by kernel_rfl) (r1 0 _ rfl) l1 (Nat.le_refl _)
    have G4 := Said.cell (P := Tryz.prog) (N := W.heap.size) (W := W) (t := 9) (by kernel_rfl) (r2 0 _ rfl) l2 (Nat.le_refl _)
    have G5 := Said.row (P := Tryz.prog) (N := W.heap.size) (W := W) (t := 34) (by kernel_rfl) (by rw [x1.len]; kernel_rfl) (range_tail r1) l1 (Nat.le_refl _)
    have G6 := Said.row (P := Tryz.prog) (N := W.heap.size) (W := W) (t := 34) (by kernel_rfl) (by rw [x2.len]; kernel_rfl) (range_tail r2) l2 (Nat.le_refl _)
    obtain ⟨w9, y9⟩ : ∃ z, (alikeE (a.st i).e (b.st i).e) = z := ⟨_, rfl⟩
    obtain ⟨wy0, y0⟩ : ∃ z, (!((a.st i).nm.toList == (b.st i).nm.toList)) = z := ⟨_, rfl⟩
    have Y0 := Said.strNe (P := Tryz.prog) (N := W.heap.size) (W := W) (t := 9) y0
    have G9 : Said.ok Tryz.prog W.heap.size W (.call 58 [.agg es1.toArray, .agg es2.toArray] (.bool w9)) := by
      rw [← y9]
      exact Said.of Tryz.func58 rfl (by kernel_rfl) (fun w hw => alike_ok _ _ es1 es2 w (x1.sub (.below hw)) (x2.sub (.below hw)))
    cases wy0
    rotate_left
    · exact ⟨_, (okC G1 (okC G3 (okC G2 (okC G4 (okC Y0 okN))))), by as_aux_lemma => kernel_rfl⟩
    cases w9
    · exact ⟨_, (okC G1 (okC G3 (okC G2 (okC G4 (okC Y0 (okC G1 (okC G5 (okC G2 (okC G6 (okC G9 okN)))))))))), by as_aux_lemma => kernel_rfl⟩
    · exfalso; revert hq; simp only [sameSt, strB, y9]; simp at y0; simp [*]
  refine goK (.loop 6) (k' := stackAt cEx (.loop 6)) (e := .nrm) [(8, .v (.int .i64 (0 : Nat))), (2, .p 0 0), (3, .p 1 0), (4, .v (.bool false))] hstG okN (by as_aux_lemma => kernel_rfl) fun g1 a1 w1 hst4 _ => ?_
  clear hst3 hstG
  refine cmpLoop cEx 6 8 4 3 a.nit (fun i => sameIt alikeE (a.it i) (b.it i)) (.bool false) (by omega) (by as_aux_lemma => kernel_rfl) hst4 (fun i hi hq => ?_) (fun i hi hq => ?_) (by as_aux_lemma => kernel_rfl) rfl (by kernel_rfl) (fun i hi hq bs9 g9 a9 w9 hst => end_at hst (vs := [.v (.bool false)]) (by kernel_rfl) ⟨by rw [sb_it (by rw [show a.nit = b.nit by omega] at hi ⊢; exact eqN_at (r := fun i => sameIt alikeE (a.it i) (b.it i)) hi hq)]; rfl, hst.rp.below⟩) fun hl3 g2 a2 w2 hstG => ?_
  · obtain ⟨b1, o1, d1, cs1, q1, l1, l1', p1, r1⟩ := s5.at hi
    obtain ⟨b2, o2, d2, cs2, q2, l2, l2', p2, r2⟩ := s5'.at (i := i) (by omega)
    cases q1
    cases q2
    have G1 := Said.elem (P := Tryz.prog) (N := W.heap.size) (W := W) (t := 35) (e := 63) (b := b1) (o := o1) (n := a.nit) (c := c5) (size := 12) (i := i) (k := .i64) Tryz.underlying35 (by kernel_rfl) hi
    have G2 := Said.elem (P := Tryz.prog) (N := W.heap.size) (W := W) (t := 35) (e := 63) (b := b2) (o := o2) (n := b.nit) (c := c5') (size := 12) (i := i) (k := .i64) Tryz.underlying35 (by kernel_rfl) (by omega)
    obtain ⟨_, es1, rfl, x1⟩ := p1
    obtain ⟨_, es2, rfl, x2⟩ := p2
    have G3 := Said.cell (P := Tryz.prog) (N := W.heap.size) (W := W) (t := 4) (by kernel_rfl) (r1 0 _ rfl) l1 (Nat.le_refl _)
    have G4 := Said.cell (P := Tryz.prog) (N := W.heap.size) (W := W) (t := 4) (by kernel_rfl) (r2 0 _ rfl) l2 (Nat.le_refl _)
    have G7 := Said.cell (P := Tryz.prog) (N := W.heap.size) (W := W) (t := 9) (by kernel_rfl) (r1 11 (.string (a.it i).nm) (by rw [List.getElem?_cons_succ, List.getElem?_append_right (by rw [x1.len]; omega), x1.len]; rfl)) l1 (Nat.le_refl _)
    have G8 := Said.cell (P := Tryz.prog) (N := W.heap.size) (W := W) (t := 9) (by kernel_rfl) (r2 11 (.string (b.it i).nm) (by rw [List.getElem?_cons_succ, List.getElem?_append_right (by rw [x2.len]; omega), x2.len]; rfl)) l2 (Nat.le_refl _)
    have G5 := Said.row (P := Tryz.prog) (N := W.heap.size) (W := W) (t := 34) (by kernel_rfl) (by rw [x1.len]; kernel_rfl) (range_init (range_tail r1)) l1 (Nat.le_refl _)
    have G6 := Said.row (P := Tryz.prog) (N := W.heap.size) (W := W) (t := 34) (by kernel_rfl) (by rw [x2.len]; kernel_rfl) (range_init (range_tail r2)) l2 (Nat.le_refl _)
    obtain ⟨w9, y9⟩ : ∃ z, (alikeE (a.it i).e (b.it i).e) = z := ⟨_, rfl⟩
    obtain ⟨wy0, y0⟩ : ∃ z, ((a.it i).star != (b.it i).star) = z := ⟨_, rfl⟩
    have Y0 := Said.boolNe (P := Tryz.prog) (N := W.heap.size) (W := W) (t := 4) Tryz.underlying4 y0
    obtain ⟨wy1, y1⟩ : ∃ z, (!((a.it i).nm.toList == (b.it i).nm.toList)) = z := ⟨_, rfl⟩
    have Y1 := Said.strNe (P := Tryz.prog) (N := W.heap.size) (W := W) (t := 9) y1
    cases w9
    · exfalso; revert hq; simp only [sameIt, strB, y9]; simp
    have G9 : Said.ok Tryz.prog W.heap.size W (.call 58 [.agg es1.toArray, .agg es2.toArray] (.bool true)) := by
      rw [← y9]
      exact Said.of Tryz.func58 rfl (by kernel_rfl) (fun w hw => alike_ok _ _ es1 es2 w (x1.sub (.below hw)) (x2.sub (.below hw)))
    cases wy0
    rotate_left
    · exfalso; revert hq y0; simp only [sameIt, strB]; simp +contextual
    cases wy1
    rotate_left
    · exfalso; revert hq y1; simp only [sameIt, strB]; simp +contextual
    exact ⟨_, (okC G1 (okC G3 (okC G2 (okC G4 (okC Y0 (okC G1 (okC G7 (okC G2 (okC G8 (okC Y1 (okC G1 (okC G5 (okC G2 (okC G6 (okC G9 okN))))))))))))))), by as_aux_lemma => kernel_rfl⟩
  · obtain ⟨b1, o1, d1, cs1, q1, l1, l1', p1, r1⟩ := s5.at hi
    obtain ⟨b2, o2, d2, cs2, q2, l2, l2', p2, r2⟩ := s5'.at (i := i) (by omega)
    cases q1
    cases q2
    have G1 := Said.elem (P := Tryz.prog) (N := W.heap.size) (W := W) (t := 35) (e := 63) (b := b1) (o := o1) (n := a.nit) (c := c5) (size := 12) (i := i) (k := .i64) Tryz.underlying35 (by kernel_rfl) hi
    have G2 := Said.elem (P := Tryz.prog) (N := W.heap.size) (W := W) (t := 35) (e := 63) (b := b2) (o := o2) (n := b.nit) (c := c5') (size := 12) (i := i) (k := .i64) Tryz.underlying35 (by kernel_rfl) (by omega)
    obtain ⟨_, es1, rfl, x1⟩ := p1
    obtain ⟨_, es2, rfl, x2⟩ := p2
    have G3 := Said.cell (P := Tryz.prog) (N := W.heap.size) (W := W) (t := 4) (by kernel_rfl) (r1 0 _ rfl) l1 (Nat.le_refl _)
    have G4 := Said.cell (P := Tryz.prog) (N := W.heap.size) (W := W) (t := 4) (by kernel_rfl) (r2 0 _ rfl) l2 (Nat.le_refl _)
    have G7 := Said.cell (P := Tryz.prog) (N := W.heap.size) (W := W) (t := 9) (by kernel_rfl) (r1 11 (.string (a.it i).nm) (by rw [List.getElem?_cons_succ, List.getElem?_append_right (by rw [x1.len]; omega), x1.len]; rfl)) l1 (Nat.le_refl _)
    have G8 := Said.cell (P := Tryz.prog) (N := W.heap.size) (W := W) (t := 9) (by kernel_rfl) (r2 11 (.string (b.it i).nm) (by rw [List.getElem?_cons_succ, List.getElem?_append_right (by rw [x2.len]; omega), x2.len]; rfl)) l2 (Nat.le_refl _)
    have G5 := Said.row (P := Tryz.prog) (N := W.heap.size) (W := W) (t := 34) (by kernel_rfl) (by rw [x1.len]; kernel_rfl) (range_init (range_tail r1)) l1 (Nat.le_refl _)
    have G6 := Said.row (P := Tryz.prog) (N := W.heap.size) (W := W) (t := 34) (by kernel_rfl) (by rw [x2.len]; kernel_rfl) (range_init (range_tail r2)) l2 (Nat.le_refl _)
    obtain ⟨w9, y9⟩ : ∃ z, (alikeE (a.it i).e (b.it i).e) = z := ⟨_, rfl⟩
    obtain ⟨wy0, y0⟩ : ∃ z, ((a.it i).star != (b.it i).star) = z := ⟨_, rfl⟩
    have Y0 := Said.boolNe (P := Tryz.prog) (N := W.heap.size) (W := W) (t := 4) Tryz.underlying4 y0
    obtain ⟨wy1, y1⟩ : ∃ z, (!((a.it i).nm.toList == (b.it i).nm.toList)) = z := ⟨_, rfl⟩
    have Y1 := Said.strNe (P := Tryz.prog) (N := W.heap.size) (W := W) (t := 9) y1
    have G9 : Said.ok Tryz.prog W.heap.size W (.call 58 [.agg es1.toArray, .agg es2.toArray] (.bool w9)) := by
      rw [← y9]
      exact Said.of Tryz.func58 rfl (by kernel_rfl) (fun w hw => alike_ok _ _ es1 es2 w (x1.sub (.below hw)) (x2.sub (.below hw)))
    cases wy0
    rotate_left
    · exact ⟨_, (okC G1 (okC G3 (okC G2 (okC G4 (okC Y0 okN))))), by as_aux_lemma => kernel_rfl⟩
    cases wy1
    rotate_left
    · exact ⟨_, (okC G1 (okC G3 (okC G2 (okC G4 (okC Y0 (okC G1 (okC G7 (okC G2 (okC G8 (okC Y1 okN)))))))))), by as_aux_lemma => kernel_rfl⟩
    cases w9
    · exact ⟨_, (okC G1 (okC G3 (okC G2 (okC G4 (okC Y0 (okC G1 (okC G7 (okC G2 (okC G8 (okC Y1 (okC G1 (okC G5 (okC G2 (okC G6 (okC G9 okN))))))))))))))), by as_aux_lemma => kernel_rfl⟩
    · exfalso; revert hq; simp only [sameIt, strB, y9]; simp at y0 y1; simp [*]
  refine goK (.loop 8) (k' := stackAt cEx (.loop 8)) (e := .nrm) [(9, .v (.int .i64 (0 : Nat))), (2, .p 0 0), (3, .p 1 0), (4, .v (.bool false))] hstG okN (by as_aux_lemma => kernel_rfl) fun g1 a1 w1 hst5 _ => ?_
  clear hst4 hstG
  refine cmpLoop cEx 8 9 4 3 a.nfr (fun i => sameSo alikeE (a.fr i) (b.fr i)) (.bool false) (by omega) (by as_aux_lemma => kernel_rfl) hst5 (fun i hi hq => ?_) (fun i hi hq => ?_) (by as_aux_lemma => kernel_rfl) rfl (by kernel_rfl) (fun i hi hq bs9 g9 a9 w9 hst => end_at hst (vs := [.v (.bool false)]) (by kernel_rfl) ⟨by rw [sb_fr (by rw [show a.nfr = b.nfr by omega] at hi ⊢; exact eqN_at (r := fun i => sameSo alikeE (a.fr i) (b.fr i)) hi hq)]; rfl, hst.rp.below⟩) fun hl4 g2 a2 w2 hstG => ?_
  · obtain ⟨b1, o1, d1, cs1, q1, l1, l1', p1, r1⟩ := s6.at hi
    obtain ⟨b2, o2, d2, cs2, q2, l2, l2', p2, r2⟩ := s6'.at (i := i) (by omega)
    cases q1
    cases q2
    have G1 := Said.elem (P := Tryz.prog) (N := W.heap.size) (W := W) (t := 36) (e := 65) (b := b1) (o := o1) (n := a.nfr) (c := c6) (size := 13) (i := i) (k := .i64) Tryz.underlying36 (by kernel_rfl) hi
    have G2 := Said.elem (P := Tryz.prog) (N := W.heap.size) (W := W) (t := 36) (e := 65) (b := b2) (o := o2) (n := b.nfr) (c := c6') (size := 13) (i := i) (k := .i64) Tryz.underlying36 (by kernel_rfl) (by omega)
    obtain ⟨_, _, es1, rfl, x1⟩ := p1
    obtain ⟨_, _, es2, rfl, x2⟩ := p2
    have G5 := Said.row (P := Tryz.prog) (N := W.heap.size) (W := W) (t := 65) (by kernel_rfl) (by rw [l1']; kernel_rfl) r1 l1 (Nat.le_refl _)
    have G6 := Said.row (P := Tryz.prog) (N := W.heap.size) (W := W) (t := 65) (by kernel_rfl) (by rw [l2']; kernel_rfl) r2 l2 (Nat.le_refl _)
    obtain ⟨w9, y9⟩ : ∃ z, (alikeE (a.fr i).e (b.fr i).e) = z := ⟨_, rfl⟩
    obtain ⟨wy0, y0⟩ : ∃ z, (!((a.fr i).nm.toList == (b.fr i).nm.toList)) = z := ⟨_, rfl⟩
    have Y0 := Said.strNe (P := Tryz.prog) (N := W.heap.size) (W := W) (t := 9) y0
    obtain ⟨wy1, y1⟩ : ∃ z, (!((a.fr i).al.toList == (b.fr i).al.toList)) = z := ⟨_, rfl⟩
    have Y1 := Said.strNe (P := Tryz.prog) (N := W.heap.size) (W := W) (t := 9) y1
    obtain ⟨wy2, y2⟩ : ∃ z, ((a.fr i).left != (b.fr i).left) = z := ⟨_, rfl⟩
    have Y2 := Said.boolNe (P := Tryz.prog) (N := W.heap.size) (W := W) (t := 4) Tryz.underlying4 y2
    cases w9
    · exfalso; revert hq; simp only [sameSo, strB, y9]; simp
    have G9 : Said.ok Tryz.prog W.heap.size W (.call 58 [.agg es1.toArray, .agg es2.toArray] (.bool true)) := by
      rw [← y9]
      exact Said.of Tryz.func58 rfl (by kernel_rfl) (fun w hw => alike_ok _ _ es1 es2 w (x1.sub (.below hw)) (x2.sub (.below hw)))
    obtain ⟨ak, ao, avk, avn, avt, atb, anm, aA, an, ac, apl, aty, rfl⟩ := x1.form
    obtain ⟨bk, bo, bvk, bvn, bvt, btb, bnm, bA, bn, bc, bpl, bty, rfl⟩ := x2.form
    cases wy0
    rotate_left
    · exfalso; revert hq y0; simp only [sameSo, strB]; simp +contextual
    cases wy1
    rotate_left
    · exfalso; revert hq y1; simp only [sameSo, strB]; simp +contextual
    cases wy2
    rotate_left
    · exfalso; revert hq y2; simp only [sameSo, strB]; simp +contextual
    exact ⟨_, (okC G1 (okC G5 (okC G2 (okC G6 (okC Y0 (okC Y1 (okC Y2 (okC G9 okN)))))))), by as_aux_lemma => kernel_rfl⟩
  · obtain ⟨b1, o1, d1, cs1, q1, l1, l1', p1, r1⟩ := s6.at hi
    obtain ⟨b2, o2, d2, cs2, q2, l2, l2', p2, r2⟩ := s6'.at (i := i) (by omega)
    cases q1
    cases q2
    have G1 := Said.elem (P := Tryz.prog) (N := W.heap.size) (W := W) (t := 36) (e := 65) (b := b1) (o := o1) (n := a.nfr) (c := c6) (size := 13) (i := i) (k := .i64) Tryz.underlying36 (by kernel_rfl) hi
    have G2 := Said.elem (P := Tryz.prog) (N := W.heap.size) (W := W) (t := 36) (e := 65) (b := b2) (o := o2) (n := b.nfr) (c := c6') (size := 13) (i := i) (k := .i64) Tryz.underlying36 (by kernel_rfl) (by omega)
    obtain ⟨_, _, es1, rfl, x1⟩ := p1
    obtain ⟨_, _, es2, rfl, x2⟩ := p2
    have G5 := Said.row (P := Tryz.prog) (N := W.heap.size) (W := W) (t := 65) (by kernel_rfl) (by rw [l1']; kernel_rfl) r1 l1 (Nat.le_refl _)
    have G6 := Said.row (P := Tryz.prog) (N := W.heap.size) (W := W) (t := 65) (by kernel_rfl) (by rw [l2']; kernel_rfl) r2 l2 (Nat.le_refl _)
    obtain ⟨w9, y9⟩ : ∃ z, (alikeE (a.fr i).e (b.fr i).e) = z := ⟨_, rfl⟩
    obtain ⟨wy0, y0⟩ : ∃ z, (!((a.fr i).nm.toList == (b.fr i).nm.toList)) = z := ⟨_, rfl⟩
    have Y0 := Said.strNe (P := Tryz.prog) (N := W.heap.size) (W := W) (t := 9) y0
    obtain ⟨wy1, y1⟩ : ∃ z, (!((a.fr i).al.toList == (b.fr i).al.toList)) = z := ⟨_, rfl⟩
    have Y1 := Said.strNe (P := Tryz.prog) (N := W.heap.size) (W := W) (t := 9) y1
    obtain ⟨wy2, y2⟩ : ∃ z, ((a.fr i).left != (b.fr i).left) = z := ⟨_, rfl⟩
    have Y2 := Said.boolNe (P := Tryz.prog) (N := W.heap.size) (W := W) (t := 4) Tryz.underlying4 y2
    have G9 : Said.ok Tryz.prog W.heap.size W (.call 58 [.agg es1.toArray, .agg es2.toArray] (.bool w9)) := by
      rw [← y9]
      exact Said.of Tryz.func58 rfl (by kernel_rfl) (fun w hw => alike_ok _ _ es1 es2 w (x1.sub (.below hw)) (x2.sub (.below hw)))
    obtain ⟨ak, ao, avk, avn, avt, atb, anm, aA, an, ac, apl, aty, rfl⟩ := x1.form
    obtain ⟨bk, bo, bvk, bvn, bvt, btb, bnm, bA, bn, bc, bpl, bty, rfl⟩ := x2.form
    cases wy0
    rotate_left
    · exact ⟨_, (okC G1 (okC G5 (okC G2 (okC G6 (okC Y0 okN))))), by as_aux_lemma => kernel_rfl⟩
    cases wy1
    rotate_left
    · exact ⟨_, (okC G1 (okC G5 (okC G2 (okC G6 (okC Y0 (okC Y1 okN)))))), by as_aux_lemma => kernel_rfl⟩
    cases wy2
    rotate_left
    · exact ⟨_, (okC G1 (okC G5 (okC G2 (okC G6 (okC Y0 (okC Y1 (okC Y2 okN))))))), by as_aux_lemma => kernel_rfl⟩
    cases w9
    · exact ⟨_, (okC G1 (okC G5 (okC G2 (okC G6 (okC Y0 (okC Y1 (okC Y2 (okC G9 okN)))))))), by as_aux_lemma => kernel_rfl⟩
    · exfalso; revert hq; simp only [sameSo, strB, y9]; simp at y0 y1 y2; simp [*]
  refine goK (.loop 10) (k' := stackAt cEx (.loop 10)) (e := .nrm) [(12, .v (.int .i64 (0 : Nat))), (2, .p 0 0), (3, .p 1 0), (4, .v (.bool false))] hstG okN (by as_aux_lemma => kernel_rfl) fun g1 a1 w1 hst6 _ => ?_
  clear hst5 hstG
  refine cmpLoop cEx 10 12 4 3 a.nor (fun i => sameOd alikeE (a.od i) (b.od i)) (.bool false) (by omega) (by as_aux_lemma => kernel_rfl) hst6 (fun i hi hq => ?_) (fun i hi hq => ?_) (by as_aux_lemma => kernel_rfl) rfl (by kernel_rfl) (fun i hi hq bs9 g9 a9 w9 hst => end_at hst (vs := [.v (.bool false)]) (by kernel_rfl) ⟨by rw [sb_od (by rw [show a.nor = b.nor by omega] at hi ⊢; exact eqN_at (r := fun i => sameOd alikeE (a.od i) (b.od i)) hi hq)]; rfl, hst.rp.below⟩) fun hl5 g2 a2 w2 hstG => ?_
  · obtain ⟨b1, o1, d1, cs1, q1, l1, l1', p1, r1⟩ := s8.at hi
    obtain ⟨b2, o2, d2, cs2, q2, l2, l2', p2, r2⟩ := s8'.at (i := i) (by omega)
    cases q1
    cases q2
    have G1 := Said.elem (P := Tryz.prog) (N := W.heap.size) (W := W) (t := 37) (e := 67) (b := b1) (o := o1) (n := a.nor) (c := c8) (size := 11) (i := i) (k := .i64) Tryz.underlying37 (by kernel_rfl) hi
    have G2 := Said.elem (P := Tryz.prog) (N := W.heap.size) (W := W) (t := 37) (e := 67) (b := b2) (o := o2) (n := b.nor) (c := c8') (size := 11) (i := i) (k := .i64) Tryz.underlying37 (by kernel_rfl) (by omega)
    obtain ⟨es1, rfl, x1⟩ := p1
    obtain ⟨es2, rfl, x2⟩ := p2
    have G3 := Said.cell (P := Tryz.prog) (N := W.heap.size) (W := W) (t := 4) (by kernel_rfl) (r1 10 (.bool (a.od i).desc) (by rw [List.getElem?_append_right (by rw [x1.len]; omega), x1.len]; rfl)) l1 (Nat.le_refl _)
    have G4 := Said.cell (P := Tryz.prog) (N := W.heap.size) (W := W) (t := 4) (by kernel_rfl) (r2 10 (.bool (b.od i).desc) (by rw [List.getElem?_append_right (by rw [x2.len]; omega), x2.len]; rfl)) l2 (Nat.le_refl _)
    have G5 := Said.row (P := Tryz.prog) (N := W.heap.size) (W := W) (t := 34) (by kernel_rfl) (by rw [x1.len]; kernel_rfl) (range_init r1) l1 (Nat.le_refl _)
    have G6 := Said.row (P := Tryz.prog) (N := W.heap.size) (W := W) (t := 34) (by kernel_rfl) (by rw [x2.len]; kernel_rfl) (range_init r2) l2 (Nat.le_refl _)
    obtain ⟨w9, y9⟩ : ∃ z, (alikeE (a.od i).e (b.od i).e) = z := ⟨_, rfl⟩
    obtain ⟨wy0, y0⟩ : ∃ z, ((a.od i).desc != (b.od i).desc) = z := ⟨_, rfl⟩
    have Y0 := Said.boolNe (P := Tryz.prog) (N := W.heap.size) (W := W) (t := 4) Tryz.underlying4 y0
    cases w9
    · exfalso; revert hq; simp only [sameOd, y9]; simp
    have G9 : Said.ok Tryz.prog W.heap.size W (.call 58 [.agg es1.toArray, .agg es2.toArray] (.bool true)) := by
      rw [← y9]
      exact Said.of Tryz.func58 rfl (by kernel_rfl) (fun w hw => alike_ok _ _ es1 es2 w (x1.sub (.below hw)) (x2.sub (.below hw)))
    cases wy0
    rotate_left
    · exfalso; revert hq y0; simp only [sameOd]; simp +contextual
    exact ⟨_, (okC G1 (okC G3 (okC G2 (okC G4 (okC Y0 (okC G1 (okC G5 (okC G2 (okC G6 (okC G9 okN)))))))))), by as_aux_lemma => kernel_rfl⟩
  · obtain ⟨b1, o1, d1, cs1, q1, l1, l1', p1, r1⟩ := s8.at hi
    obtain ⟨b2, o2, d2, cs2, q2, l2, l2', p2, r2⟩ := s8'.at (i := i) (by omega)
    cases q1
    cases q2
    have G1 := Said.elem (P := Tryz.prog) (N := W.heap.size) (W := W) (t := 37) (e := 67) (b := b1) (o := o1) (n := a.nor) (c := c8) (size := 11) (i := i) (k := .i64) Tryz.underlying37 (by kernel_rfl) hi
    have G2 := Said.elem (P := Tryz.prog) (N := W.heap.size) (W := W) (t := 37) (e := 67) (b := b2) (o := o2) (n := b.nor) (c := c8') (size := 11) (i := i) (k := .i64) Tryz.underlying37 (by kernel_rfl) (by omega)
    obtain ⟨es1, rfl, x1⟩ := p1
    obtain ⟨es2, rfl, x2⟩ := p2
    have G3 := Said.cell (P := Tryz.prog) (N := W.heap.size) (W := W) (t := 4) (by kernel_rfl) (r1 10 (.bool (a.od i).desc) (by rw [List.getElem?_append_right (by rw [x1.len]; omega), x1.len]; rfl)) l1 (Nat.le_refl _)
    have G4 := Said.cell (P := Tryz.prog) (N := W.heap.size) (W := W) (t := 4) (by kernel_rfl) (r2 10 (.bool (b.od i).desc) (by rw [List.getElem?_append_right (by rw [x2.len]; omega), x2.len]; rfl)) l2 (Nat.le_refl _)
    have G5 := Said.row (P := Tryz.prog) (N := W.heap.size) (W := W) (t := 34) (by kernel_rfl) (by rw [x1.len]; kernel_rfl) (range_init r1) l1 (Nat.le_refl _)
    have G6 := Said.row (P := Tryz.prog) (N := W.heap.size) (W := W) (t := 34) (by kernel_rfl) (by rw [x2.len]; kernel_rfl) (range_init r2) l2 (Nat.le_refl _)
    obtain ⟨w9, y9⟩ : ∃ z, (alikeE (a.od i).e (b.od i).e) = z := ⟨_, rfl⟩
    obtain ⟨wy0, y0⟩ : ∃ z, ((a.od i).desc != (b.od i).desc) = z := ⟨_, rfl⟩
    have Y0 := Said.boolNe (P := Tryz.prog) (N := W.heap.size) (W := W) (t := 4) Tryz.underlying4 y0
    have G9 : Said.ok Tryz.prog W.heap.size W (.call 58 [.agg es1.toArray, .agg es2.toArray] (.bool w9)) := by
      rw [← y9]
      exact Said.of Tryz.func58 rfl (by kernel_rfl) (fun w hw => alike_ok _ _ es1 es2 w (x1.sub (.below hw)) (x2.sub (.below hw)))
    cases wy0
    rotate_left
    · exact ⟨_, (okC G1 (okC G3 (okC G2 (okC G4 (okC Y0 okN))))), by as_aux_lemma => kernel_rfl⟩
    cases w9
    · exact ⟨_, (okC G1 (okC G3 (okC G2 (okC G4 (okC Y0 (okC G1 (okC G5 (okC G2 (okC G6 (okC G9 okN)))))))))), by as_aux_lemma => kernel_rfl⟩
    · exfalso; revert hq; simp only [sameOd, y9]; simp at y0; simp [*]
  have fin1 : sameSB alikeE a b = (alikeE a.wh b.wh && alikeE a.hv b.hv && sameEs alikeE a.gr b.gr) := by
    have q1 := eqN_yes hl0
    have q2 := eqN_yes hl1
    have q3 := eqN_yes hl2
    have q4 := eqN_yes hl3
    have q5 := eqN_yes hl4
    have q6 := eqN_yes hl5
    simp only [sameSB, hC1, hC3, ← (show a.nkc = b.nkc by omega), ← (show a.nrw = b.nrw by omega), ← (show a.nst = b.nst by omega), ← (show a.nit = b.nit by omega), ← (show a.nfr = b.nfr by omega), ← (show a.nor = b.nor by omega), q1, q2, q3, q4, q5, q6, hT0, hT5, hT6, hT7, beq_self_eq_true, Bool.and_true, Bool.true_and]
    simp only [strB]
    simp at hT3 hT4
    simp only [hT3, hT4, beq_self_eq_true, Bool.and_true, Bool.true_and]
    cases alikeE a.wh b.wh <;> cases alikeE a.hv b.hv <;> cases sameEs alikeE a.gr b.gr <;> rfl
  rw [fin1, hC9, hC11, hC10]
  cases zC9
  · exact goE hstG (okC C9 okN) (vs := [.bool false]) (by as_aux_lemma => kernel_rfl) fun w' hw => ⟨rfl, hw⟩
  cases zC11
  · exact goE hstG (okC C9 (okC C11 okN)) (vs := [.bool false]) (by as_aux_lemma => kernel_rfl) fun w' hw => ⟨rfl, hw⟩
  cases zC10
  · exact goE hstG (okC C9 (okC C11 (okC C10 okN))) (vs := [.bool false]) (by as_aux_lemma => kernel_rfl) fun w' hw => ⟨rfl, hw⟩
  · exact goE hstG (okC C9 (okC C11 (okC C10 okN))) (vs := [.bool true]) (by as_aux_lemma => kernel_rfl) fun w' hw => ⟨rfl, hw⟩
end Go.Proofs.YtddedijencleeaaGreatDoor
