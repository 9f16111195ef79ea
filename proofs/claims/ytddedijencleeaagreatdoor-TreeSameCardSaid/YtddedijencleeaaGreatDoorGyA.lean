/- ref9.Bare, ref9.Same: contracts. -/
import Derived.Test.YtddedijencleeaaGreatDoorGv
import Derived.Test.YtddedijencleeaaGreatDoorGt
import Derived.Test.YtddedijencleeaaGreatDoorNtKn
set_option linter.all false
namespace Go.Proofs.YtddedijencleeaaGreatDoor
open Go.RowKit Go.Lib RC

noncomputable abbrev cRb : Code := bodyOf Tryz.f21
noncomputable abbrev cRs : Code := bodyOf Tryz.f23
theorem SIn.ones {W : World} {a : S} {ca : List Value} (ha : SIn W a ca) : ca.length = 37 ∧ ∀ v ∈ ca, v.oneCell' = true := by
  obtain ⟨ta, vkc, vcl, vrw, vst, wh, vit, vfr, vgr, hv, vor, rfl, ia⟩ := ha
  obtain ⟨tA, tc, tB, td, rfl, t1, t2⟩ := TaIn.form' ia.tab
  obtain ⟨A1, c1, rfl⟩ := ia.kc.form
  obtain ⟨A2, c2, rfl⟩ := ia.cl.form
  obtain ⟨A3, c3, rfl⟩ := ia.rw.form
  obtain ⟨A4, c4, rfl⟩ := ia.st.form
  obtain ⟨A5, c5, rfl⟩ := ia.it.form
  obtain ⟨A6, c6, rfl⟩ := ia.fr.form
  obtain ⟨A7, c7, rfl⟩ := ia.gr.form
  obtain ⟨A8, c8, rfl⟩ := ia.od.form
  obtain ⟨wk, wo, wvk, wvn, wvt, wtb, wnm, wA, wn, wc, wpl, wty, rfl⟩ := ia.wh.form
  obtain ⟨hk, ho, hvk, hvn, hvt, htb, hnm, hA, hn, hc, hpl, hty, rfl⟩ := ia.hv.form
  refine ⟨rfl, fun v hv => ?_⟩
  simp only [sCells, List.cons_append, List.nil_append, List.append_assoc, List.mem_cons, List.not_mem_nil, or_false] at hv
  rcases hv with rfl | rfl | rfl | rfl | rfl | rfl | rfl | rfl | rfl | rfl | rfl | rfl | rfl | rfl | rfl | rfl | rfl | rfl | rfl | rfl | rfl | rfl | rfl | rfl | rfl | rfl | rfl | rfl | rfl | rfl | rfl | rfl | rfl | rfl | rfl | rfl | rfl <;> rfl
def pS (a : S) : Po := poL (fun w ds => SIn w (bareS a) ds) (fun W1 W2 u hs h => SIn.sub hs h)
set_option maxHeartbeats 4000000 in
set_option maxRecDepth 100000 in
theorem refBare_ok (a : S) (ca : List Value) (W : World) (ha : SIn W a ca) :
    Calls Tryz.prog 21 #[.agg ca.toArray] W fun r W' => ∃ ds, r = .returned (.agg ds.toArray) ∧ SIn (World.only W' fun b => W.heap.size ≤ b) (bareS a) ds ∧ Below W.heap.size W W' := by
  have ha0 := ha
  obtain ⟨ta, vkc, vcl, vrw, vst, wh, vit, vfr, vgr, hv, vor, rfl, ia⟩ := ha
  obtain ⟨tA, tc, tB, td, rfl, t1, t2⟩ := TaIn.form' ia.tab
  obtain ⟨A1, c1, rfl⟩ := ia.kc.form
  obtain ⟨A2, c2, rfl⟩ := ia.cl.form
  obtain ⟨A3, c3, rfl⟩ := ia.rw.form
  obtain ⟨A4, c4, rfl⟩ := ia.st.form
  obtain ⟨A5, c5, rfl⟩ := ia.it.form
  obtain ⟨A6, c6, rfl⟩ := ia.fr.form
  obtain ⟨A7, c7, rfl⟩ := ia.gr.form
  obtain ⟨A8, c8, rfl⟩ := ia.od.form
  obtain ⟨wk, wo, wvk, wvn, wvt, wtb, wnm, wA, wn, wc, wpl, wty, rfl⟩ := ia.wh.form
  obtain ⟨hk, ho, hvk, hvn, hvt, htb, hnm, hA, hn, hc, hpl, hty, rfl⟩ := ia.hv.form
  clear ia t1 t2
  have GC := Said.cells (P := Tryz.prog) (N := W.heap.size) (W := W) (f := 77) (args := [.agg [.int .i64 a.kind, .string a.tab.nm, .slice tA a.tab.nc tc, .slice tB a.tab.nk td, .slice A1 a.nkc c1, .string a.nm, .string a.ix, .bool a.un, .slice A2 a.cl.n c2, .slice A3 a.nrw c3, .slice A4 a.nst c4, .int .i64 wk, .int .i64 wo, .int .i64 wvk, .int .i64 wvn, .string wvt, .string wtb, .string wnm, .slice wA wn wc, .int .i64 wpl, .int .i64 wty, .bool a.di, .slice A5 a.nit c5, .slice A6 a.nfr c6, .slice A7 a.gr.n c7, .int .i64 hk, .int .i64 ho, .int .i64 hvk, .int .i64 hvn, .string hvt, .string htb, .string hnm, .slice hA hn hc, .int .i64 hpl, .int .i64 hty, .slice A8 a.nor c8, .int .i64 a.li].toArray, .bool true]) (m := 37) (q := fun w ds => SIn w (bareS a) ds) (fun W1 W2 u hs h => SIn.sub hs h) Tryz.func77 rfl (by kernel_rfl) (fun w ds h => SIn.ones h) (by exact fun w hw => copy_ok a _ w (SIn.sub (.below hw) ha0))
  refine calls_rd (c := cRb) Tryz.func21 rfl (by kernel_rfl) fun a0 hst => ?_
  refine goX [.box [.v (.int .i64 a.kind), .v (.string a.tab.nm), .v (.slice tA a.tab.nc tc), .v (.slice tB a.tab.nk td), .v (.slice A1 a.nkc c1), .v (.string a.nm), .v (.string a.ix), .v (.bool a.un), .v (.slice A2 a.cl.n c2), .v (.slice A3 a.nrw c3), .v (.slice A4 a.nst c4), .v (.int .i64 wk), .v (.int .i64 wo), .v (.int .i64 wvk), .v (.int .i64 wvn), .v (.string wvt), .v (.string wtb), .v (.string wnm), .v (.slice wA wn wc), .v (.int .i64 wpl), .v (.int .i64 wty), .v (.bool a.di), .v (.slice A5 a.nit c5), .v (.slice A6 a.nfr c6), .v (.slice A7 a.gr.n c7), .v (.int .i64 hk), .v (.int .i64 ho), .v (.int .i64 hvk), .v (.int .i64 hvn), .v (.string hvt), .v (.string htb), .v (.string hnm), .v (.slice hA hn hc), .v (.int .i64 hpl), .v (.int .i64 hty), .v (.slice A8 a.nor c8), .v (.int .i64 a.li)], .box (xsN 2 37), .unk 37 (poL (fun w ds => SIn w (bareS a) ds) (fun W1 W2 u hs h => SIn.sub hs h))] hst (okC GC okN) (vs := [.agg (xsN 2 37)]) (by as_aux_lemma => kernel_rfl) fun G w hr _ => ?_
  obtain ⟨v2, q2⟩ := Rp.cells hr (i := 2) (m := 37) (q := fun w ds => SIn w (bareS a) ds) (hq := fun W1 W2 u hs h => SIn.sub hs h) rfl
  refine ⟨G.u 2, ?_, q2, hr.below⟩
  simp only [concL, RV.conc, xsN_conc rfl v2]
  rfl
/-- What is known of a call's values. -/
theorem Knows.mem {G : Env} {w : World} {i m : Nat} {po : Po} : ∀ {l : List (Nat × Res)}, Knows G w l → (i, Res.unk m po) ∈ l → (G.u i).length = m ∧ po.p (G.u i) w
  | (j, .box cs) :: l, h, q => by
    rcases List.mem_cons.1 q with e | q
    · cases e
    · exact Knows.mem h.2 q
  | (j, .unk m' po') :: l, h, q => by
    rcases List.mem_cons.1 q with e | q
    · cases e
      exact h.1
    · exact Knows.mem h.2 q
set_option maxHeartbeats 4000000 in
set_option maxRecDepth 100000 in
theorem refSame_ok (a b : S) (ca cb : List Value) (W : World) (ha : SIn W a ca) (hb : SIn W b cb) :
    Calls Tryz.prog 23 #[.agg ca.toArray, .agg cb.toArray] W fun r W' => r = .returned (.bool (sameSB sameE a b)) ∧ Below W.heap.size W W' := by
  have hs : sameSB alikeE (bareS a) (bareS b) = sameSB sameE a b := by
    rw [Bool.eq_iff_iff, sameSB_iff, sameSB_iff, same_iff]
  rw [← hs]
  have ha0 := ha
  have hb0 := hb
  obtain ⟨ta, vkc, vcl, vrw, vst, wh, vit, vfr, vgr, hv, vor, rfl, ia⟩ := ha
  obtain ⟨tA, tc, tB, td, rfl, t1, t2⟩ := TaIn.form' ia.tab
  obtain ⟨A1, c1, rfl⟩ := ia.kc.form
  obtain ⟨A2, c2, rfl⟩ := ia.cl.form
  obtain ⟨A3, c3, rfl⟩ := ia.rw.form
  obtain ⟨A4, c4, rfl⟩ := ia.st.form
  obtain ⟨A5, c5, rfl⟩ := ia.it.form
  obtain ⟨A6, c6, rfl⟩ := ia.fr.form
  obtain ⟨A7, c7, rfl⟩ := ia.gr.form
  obtain ⟨A8, c8, rfl⟩ := ia.od.form
  obtain ⟨wk, wo, wvk, wvn, wvt, wtb, wnm, wA, wn, wc, wpl, wty, rfl⟩ := ia.wh.form
  obtain ⟨hk, ho, hvk, hvn, hvt, htb, hnm, hA, hn, hc, hpl, hty, rfl⟩ := ia.hv.form
  obtain ⟨ta', vkc', vcl', vrw', vst', wh', vit', vfr', vgr', hv', vor', rfl, ib⟩ := hb
  obtain ⟨tA', tc', tB', td', rfl, t1', t2'⟩ := TaIn.form' ib.tab
  obtain ⟨A1', c1', rfl⟩ := ib.kc.form
  obtain ⟨A2', c2', rfl⟩ := ib.cl.form
  obtain ⟨A3', c3', rfl⟩ := ib.rw.form
  obtain ⟨A4', c4', rfl⟩ := ib.st.form
  obtain ⟨A5', c5', rfl⟩ := ib.it.form
  obtain ⟨A6', c6', rfl⟩ := ib.fr.form
  obtain ⟨A7', c7', rfl⟩ := ib.gr.form
  obtain ⟨A8', c8', rfl⟩ := ib.od.form
  obtain ⟨wk', wo', wvk', wvn', wvt', wtb', wnm', wA', wn', wc', wpl', wty', rfl⟩ := ib.wh.form
  obtain ⟨hk', ho', hvk', hvn', hvt', htb', hnm', hA', hn', hc', hpl', hty', rfl⟩ := ib.hv.form
  clear ia t1 t2 ib t1' t2'
  have GA := Said.cells (P := Tryz.prog) (N := W.heap.size) (W := W) (f := 21) (args := [.agg [.int .i64 a.kind, .string a.tab.nm, .slice tA a.tab.nc tc, .slice tB a.tab.nk td, .slice A1 a.nkc c1, .string a.nm, .string a.ix, .bool a.un, .slice A2 a.cl.n c2, .slice A3 a.nrw c3, .slice A4 a.nst c4, .int .i64 wk, .int .i64 wo, .int .i64 wvk, .int .i64 wvn, .string wvt, .string wtb, .string wnm, .slice wA wn wc, .int .i64 wpl, .int .i64 wty, .bool a.di, .slice A5 a.nit c5, .slice A6 a.nfr c6, .slice A7 a.gr.n c7, .int .i64 hk, .int .i64 ho, .int .i64 hvk, .int .i64 hvn, .string hvt, .string htb, .string hnm, .slice hA hn hc, .int .i64 hpl, .int .i64 hty, .slice A8 a.nor c8, .int .i64 a.li].toArray]) (m := 37) (q := fun w ds => SIn w (bareS a) ds) (fun W1 W2 u hs h => SIn.sub hs h) Tryz.func21 rfl (by kernel_rfl) (fun w ds h => SIn.ones h) (by exact fun w hw => refBare_ok a _ w (SIn.sub (.below hw) ha0))
  have GB := Said.cells (P := Tryz.prog) (N := W.heap.size) (W := W) (f := 21) (args := [.agg [.int .i64 b.kind, .string b.tab.nm, .slice tA' b.tab.nc tc', .slice tB' b.tab.nk td', .slice A1' b.nkc c1', .string b.nm, .string b.ix, .bool b.un, .slice A2' b.cl.n c2', .slice A3' b.nrw c3', .slice A4' b.nst c4', .int .i64 wk', .int .i64 wo', .int .i64 wvk', .int .i64 wvn', .string wvt', .string wtb', .string wnm', .slice wA' wn' wc', .int .i64 wpl', .int .i64 wty', .bool b.di, .slice A5' b.nit c5', .slice A6' b.nfr c6', .slice A7' b.gr.n c7', .int .i64 hk', .int .i64 ho', .int .i64 hvk', .int .i64 hvn', .string hvt', .string htb', .string hnm', .slice hA' hn' hc', .int .i64 hpl', .int .i64 hty', .slice A8' b.nor c8', .int .i64 b.li].toArray]) (m := 37) (q := fun w ds => SIn w (bareS b) ds) (fun W1 W2 u hs h => SIn.sub hs h) Tryz.func21 rfl (by kernel_rfl) (fun w ds h => SIn.ones h) (by exact fun w hw => refBare_ok b _ w (SIn.sub (.below hw) hb0))
  have GE : Said.ok Tryz.prog W.heap.size W (.callR 19 [.agg (xsN 2 37), .agg (xsN 3 37)] (List.replicate 37 (2, Res.unk 37 (poL (fun w ds => SIn w (bareS a) ds) (fun W1 W2 u hs h => SIn.sub hs h))) ++ List.replicate 37 (3, Res.unk 37 (poL (fun w ds => SIn w (bareS b) ds) (fun W1 W2 u hs h => SIn.sub hs h)))) (.bool (sameSB alikeE (bareS a) (bareS b)))) := by
    refine ⟨⟨_, _, Tryz.func19, rfl, by kernel_rfl⟩, fun G w hw hk => ?_⟩
    obtain ⟨l1, k1⟩ := Knows.mem (i := 2) (m := 37) (po := (poL (fun w ds => SIn w (bareS a) ds) (fun W1 W2 u hs h => SIn.sub hs h))) hk (List.mem_append_left _ (List.mem_replicate.2 ⟨by decide, rfl⟩))
    obtain ⟨l2, k2⟩ := Knows.mem (i := 3) (m := 37) (po := (poL (fun w ds => SIn w (bareS b) ds) (fun W1 W2 u hs h => SIn.sub hs h))) hk (List.mem_append_right _ (List.mem_replicate.2 ⟨by decide, rfl⟩))
    have := exactly_ok (bareS a) (bareS b) (G.u 2) (G.u 3) w k1 k2
    simp only [concL, RV.conc, xsN_conc rfl l1, xsN_conc rfl l2]
    exact this
  refine calls_rd (c := cRs) Tryz.func23 rfl (by kernel_rfl) fun a0 hst => ?_
  refine goX [.box [.v (.int .i64 a.kind), .v (.string a.tab.nm), .v (.slice tA a.tab.nc tc), .v (.slice tB a.tab.nk td), .v (.slice A1 a.nkc c1), .v (.string a.nm), .v (.string a.ix), .v (.bool a.un), .v (.slice A2 a.cl.n c2), .v (.slice A3 a.nrw c3), .v (.slice A4 a.nst c4), .v (.int .i64 wk), .v (.int .i64 wo), .v (.int .i64 wvk), .v (.int .i64 wvn), .v (.string wvt), .v (.string wtb), .v (.string wnm), .v (.slice wA wn wc), .v (.int .i64 wpl), .v (.int .i64 wty), .v (.bool a.di), .v (.slice A5 a.nit c5), .v (.slice A6 a.nfr c6), .v (.slice A7 a.gr.n c7), .v (.int .i64 hk), .v (.int .i64 ho), .v (.int .i64 hvk), .v (.int .i64 hvn), .v (.string hvt), .v (.string htb), .v (.string hnm), .v (.slice hA hn hc), .v (.int .i64 hpl), .v (.int .i64 hty), .v (.slice A8 a.nor c8), .v (.int .i64 a.li)], .box [.v (.int .i64 b.kind), .v (.string b.tab.nm), .v (.slice tA' b.tab.nc tc'), .v (.slice tB' b.tab.nk td'), .v (.slice A1' b.nkc c1'), .v (.string b.nm), .v (.string b.ix), .v (.bool b.un), .v (.slice A2' b.cl.n c2'), .v (.slice A3' b.nrw c3'), .v (.slice A4' b.nst c4'), .v (.int .i64 wk'), .v (.int .i64 wo'), .v (.int .i64 wvk'), .v (.int .i64 wvn'), .v (.string wvt'), .v (.string wtb'), .v (.string wnm'), .v (.slice wA' wn' wc'), .v (.int .i64 wpl'), .v (.int .i64 wty'), .v (.bool b.di), .v (.slice A5' b.nit c5'), .v (.slice A6' b.nfr c6'), .v (.slice A7' b.gr.n c7'), .v (.int .i64 hk'), .v (.int .i64 ho'), .v (.int .i64 hvk'), .v (.int .i64 hvn'), .v (.string hvt'), .v (.string htb'), .v (.string hnm'), .v (.slice hA' hn' hc'), .v (.int .i64 hpl'), .v (.int .i64 hty'), .v (.slice A8' b.nor c8'), .v (.int .i64 b.li)], .unk 37 (poL (fun w ds => SIn w (bareS a) ds) (fun W1 W2 u hs h => SIn.sub hs h)), .unk 37 (poL (fun w ds => SIn w (bareS b) ds) (fun W1 W2 u hs h => SIn.sub hs h))] hst (okC GA (okC GB (okC GE okN))) (vs := [.v (.bool (sameSB alikeE (bareS a) (bareS b)))]) (by as_aux_lemma => kernel_rfl) fun G w hr _ => ⟨rfl, hr.below⟩
end Go.Proofs.YtddedijencleeaaGreatDoor

/- consistoryhelp.parts, Light, LightStmt: what they answer. -/
set_option linter.all false
namespace Go.Proofs.YtddedijencleeaaGreatDoor
open Go.RowKit Go.Lib RC

namespace RC
/-- A loop that counts up to n and goes out with an answer at the first that isn't so. -/
theorem cmpLoopP {P : Program} {N : Nat} {W : World} {Q : Exit → Act → World → Prop} {nn : Nat} {pre : List Said} (hp : allOk P N W pre) (c : Code) (id s r : Nat) (ti : TypeId) (n : Nat) (q : Nat → Bool) {lv : Fr} {bs : List Res} (ans : Value) {G : Env} {a : Act} {w : World} (hn : n ≤ 9223372036854775807)
    (hk : stackAt c (.loop id) = .c (.loop (loopAt c id)) :: .b id :: stackAt c (.out id)) (hst : St N W nn ((s, .v (.int .i64 (0 : Nat))) :: lv) bs G a w)
    (yes : ∀ i, i < n → q i = true → ∃ mid, allOk P N W mid ∧ runT P nn .fin [.c (loopAt c id)] ((s, .v (.int .i64 i)) :: lv) bs (anss (pre ++ (sLt ti i n true :: mid ++ [sInc ti i]))) (s :: keysOf lv) = some (.nrm, [], some (.v (.int .i64 ((i + 1 : Nat) : Int))) :: slotsOf lv, bs, pre ++ (sLt ti i n true :: mid ++ [sInc ti i])))
    (no : ∀ i, i < n → q i = false → ∃ mid, allOk P N W mid ∧ runN P nn .fin [.c (loopAt c id)] ((s, .v (.int .i64 i)) :: lv) bs (anss (pre ++ sLt ti i n true :: mid)) [r] = some (.ret, [], [some (.v ans)], pre ++ sLt ti i n true :: mid))
    (ends : runV P nn .fin [.c (loopAt c id)] ((s, .v (.int .i64 n)) :: lv) bs (anss (pre ++ [sLt ti n n false])) (keysOf lv) = some (.ex id, [], slotsOf lv, bs, pre ++ [sLt ti n n false]))
    (cl : okF bs.length lv = true) (clb : okB bs = true)
    (bad : ∀ i, i < n → q i = false → ∀ bs' G a w, St N W nn [(r, .v ans)] bs' G a w → Q .ret a w)
    (good : (∀ i, i < n → q i = true) → ∀ G a w, St N W nn lv bs G a w → wpX P Q (stackAt c (.out id)) .normal a w) : wpX P Q (stackAt c (.loop id)) .normal a w := by
  refine loopC c id hk n (fun i a' w' => (∃ G, St N W nn ((s, .v (.int .i64 (i : Nat))) :: lv) bs G a' w') ∧ ∀ j, j < i → q j = true) ⟨⟨G, hst⟩, fun j hj => by omega⟩ ?_ ?_
  · rintro i hi a2 w2 ⟨⟨g2, hs2⟩, hall⟩
    cases hq : q i with
    | true =>
      obtain ⟨mid, hm, hrun⟩ := yes i hi hq
      refine goT .fin ((s, .v (.int .i64 ((i + 1 : Nat) : Int))) :: lv) hs2 (allOk_app hp (okC (Said.ltN (by simp; exact hi)) (allOk_app hm (okC (Said.inc (by omega)) okN)))) hrun (by simpa [okF, RV.lt, RV.all] using cl) clb fun g3 a3 w3 hst3 _ => ?_
      refine ⟨⟨g3, hst3⟩, fun j hj => ?_⟩
      by_cases e : j = i
      · rw [e]; exact hq
      · exact hall j (by omega)
    | false =>
      obtain ⟨mid, hm, hrun⟩ := no i hi hq
      exact goN .fin [(r, .v ans)] hs2 (allOk_app hp (okC (Said.ltN (by simp; exact hi)) hm)) hrun fun bs' g3 a3 w3 hst3 => outs (bad i hi hq bs' g3 a3 w3 hst3)
  · rintro a2 w2 ⟨⟨g2, hs2⟩, hall⟩
    exact go .fin lv bs hs2 (allOk_app hp (okC (Said.ltN (by simp)) okN)) ends fun g3 a3 w3 hst3 _ => brk (good hall g3 a3 w3 hst3)
end RC
noncomputable abbrev cPa : Code := bodyOf Tryz.f24
noncomputable abbrev nPa : Nat := Tryz.f24.ntmps
noncomputable abbrev cLs : Code := bodyOf Tryz.f6
noncomputable abbrev nLs : Nat := Tryz.f6.ntmps
theorem Said.quo {P : Program} {N : Nat} {W : World} {t : TypeId} {k : IntKind} {a b c : Int} (hb : b ≠ 0) (h : k.wrap (a.tdiv b) = c) : Said.ok P N W (.bin .quo t (.int k a) (.int k b) (.int k c)) := fun ox oy w => by
  rw [Sem.run_bind, eqg_int]; simp [binOp, Op.intDiv, hb, h]
theorem Said.subInt {P : Program} {N : Nat} {W : World} {t : TypeId} {k : IntKind} {a b c : Int} (h : k.wrap (a - b) = c) : Said.ok P N W (.bin .sub t (.int k a) (.int k b) (.int k c)) := fun ox oy w => by
  rw [Sem.run_bind, eqg_int]; simp [binOp, Op.intArith, h]
def wr (z : Int) : Int := IntKind.wrap .i64 z
def hund (s : ByteArray) : Int := wr ((s.size : Int).tdiv 100)
def p0 (vt nm tb : ByteArray) : Int := wr (wr (wr (1 + hund vt) + hund nm) + hund tb)
def foldN : Nat → (Nat → Int → Int) → Int → Int
  | 0, _, q => q
  | n + 1, f, q => f n (foldN n f q)
theorem fold_stay {n j : Nat} {f : Nat → Int → Int} {q : Int} (hj : j ≤ n) (h : ∀ i, f i (foldN j f q) = foldN j f q) : foldN n f q = foldN j f q := by
  induction n with
  | zero => rw [show j = 0 by omega]
  | succ n ih =>
    by_cases e : j = n + 1
    · rw [e]
    · rw [foldN, ih (by omega), h]
/-- Parts of an expression, as the program counts them. -/
def partsF : E → Int → Int
  | .no, _ => 0
  | .mk k op vk vn vt tb nm n args pl ty, m => foldN n (fun i q => bif decide (q ≤ m) then wr (q + partsF (args i) (wr (m - q))) else q) (p0 vt nm tb)
def lightE (e : E) (m : Int) : Bool := decide (partsF e m ≤ m)
set_option maxHeartbeats 4000000 in
set_option maxRecDepth 100000 in
theorem partsF_ok : ∀ (e : E) (cs : List Value) (W : World) (m : Int), EIn W e cs →
    Calls Tryz.prog 24 #[.agg cs.toArray, .int .i64 m] W fun r W' => r = .returned (.int .i64 (partsF e m)) ∧ Below W.heap.size W W'
  | .no, _, _, _, h => False.elim h
  | .mk k op vk vn vt tb nm n args pl ty, cs, W, m, h => by
    have HF := fun (i : Nat) (cs : List Value) (h : EIn W (args i) cs) (z : Int) (w : World) (hb : Below W.heap.size W w) => partsF_ok (args i) cs w z (EIn.sub (.below hb) h)
    obtain ⟨wf, v, rfl, hv⟩ := h
    have hsl : SlF W 10 120 n v (fun i ds => EIn W (args i) ds) := hv
    clear hv wf
    obtain ⟨A, c, rfl⟩ := SlF.form hsl
    have hn := hsl.len
    rw [partsF]
    generalize hF : (fun i q => bif decide (q ≤ m) then wr (q + partsF (args i) (wr (m - q))) else q) = F
    have Q1 := Said.quo (P := Tryz.prog) (N := W.heap.size) (W := W) (t := 3) (k := .i64) (a := vt.size) (b := 100) (c := hund vt) (by decide) rfl
    have Q2 := Said.quo (P := Tryz.prog) (N := W.heap.size) (W := W) (t := 3) (k := .i64) (a := nm.size) (b := 100) (c := hund nm) (by decide) rfl
    have Q3 := Said.quo (P := Tryz.prog) (N := W.heap.size) (W := W) (t := 3) (k := .i64) (a := tb.size) (b := 100) (c := hund tb) (by decide) rfl
    have D1 := Said.addInt (P := Tryz.prog) (N := W.heap.size) (W := W) (t := 3) (k := .i64) (a := 1) (b := hund vt) (c := wr (1 + hund vt)) rfl
    have D2 := Said.addInt (P := Tryz.prog) (N := W.heap.size) (W := W) (t := 3) (k := .i64) (a := wr (1 + hund vt)) (b := hund nm) (c := wr (wr (1 + hund vt) + hund nm)) rfl
    have D3 := Said.addInt (P := Tryz.prog) (N := W.heap.size) (W := W) (t := 3) (k := .i64) (a := wr (wr (1 + hund vt) + hund nm)) (b := hund tb) (c := p0 vt nm tb) rfl
    refine calls_rd (c := cPa) Tryz.func24 rfl (by kernel_rfl) fun a0 hst => ?_
    refine go (.loop 0) (k' := stackAt cPa (.loop 0)) (e := .nrm) [(6, .v (.int .i64 (0 : Nat))), (5, .v (.int .i64 (foldN 0 F (p0 vt nm tb)))), (1, .v (.int .i64 m)), (2, .p 0 0)] [bx (eCells k op vk vn vt tb nm (.slice A n c) pl ty)] hst (okC Q1 (okC D1 (okC Q2 (okC D2 (okC Q3 (okC D3 okN)))))) (by as_aux_lemma => kernel_rfl) fun G1 a1 w1 hst1 _ => ?_
    clear hst Q1 Q2 Q3 D1 D2 D3
    generalize p0 vt nm tb = q0 at hst1 ⊢
    refine loopC cPa 0 (by as_aux_lemma => kernel_rfl) n (fun i a w => ∃ G, RC.St W.heap.size W nPa [(6, .v (.int .i64 (i : Nat))), (5, .v (.int .i64 (foldN i F q0))), (1, .v (.int .i64 m)), (2, .p 0 0)] [bx (eCells k op vk vn vt tb nm (.slice A n c) pl ty)] G a w) ⟨G1, hst1⟩ (fun i hi a w hG => ?_) (fun a w hG => ?_)
    · obtain ⟨G, hs⟩ := hG
      obtain ⟨q, hq⟩ : ∃ q, foldN i F q0 = q := ⟨_, rfl⟩
      have T1 := Said.ltN (P := Tryz.prog) (N := W.heap.size) (W := W) (t := 3) (i := i) (n := n) (z := true) (by simp; omega)
      obtain ⟨z, hz⟩ : ∃ z, decide (q ≤ m) = z := ⟨_, rfl⟩
      have T2 := Said.intLe (P := Tryz.prog) (N := W.heap.size) (W := W) (t := 3) (k := .i64) (a := q) (b := m) hz
      rw [hq] at hs
      cases z with
      | true =>
        obtain ⟨b1, o1, d1, cs1, q1, l1, l1', p1, r1⟩ := hsl.at hi
        cases q1
        have GI := Said.elem (P := Tryz.prog) (N := W.heap.size) (W := W) (t := 32) (e := 34) (b := b1) (o := o1) (n := n) (c := c) (size := 10) (i := i) (k := .i64) Tryz.underlying32 (by kernel_rfl) hi
        have GR := Said.row (P := Tryz.prog) (N := W.heap.size) (W := W) (t := 34) (by kernel_rfl) (by rw [l1']; kernel_rfl) r1 l1 (Nat.le_refl _)
        have GS := Said.subInt (P := Tryz.prog) (N := W.heap.size) (W := W) (t := 3) (k := .i64) (a := m) (b := q) (c := wr (m - q)) rfl
        have GC : Said.ok Tryz.prog W.heap.size W (.call 24 [.agg cs1.toArray, .int .i64 (wr (m - q))] (.int .i64 (partsF (args i) (wr (m - q))))) := Said.of Tryz.func24 rfl (by kernel_rfl) (fun w hw => HF i cs1 p1 _ w hw)
        have GA := Said.addInt (P := Tryz.prog) (N := W.heap.size) (W := W) (t := 3) (k := .i64) (a := q) (b := partsF (args i) (wr (m - q))) (c := wr (q + partsF (args i) (wr (m - q)))) rfl
        have GN := Said.inc (P := Tryz.prog) (N := W.heap.size) (W := W) (t := 3) (i := i) (by omega)
        refine goK .fin (k' := []) (e := .nrm) [(6, .v (.int .i64 ((i + 1 : Nat) : Int))), (5, .v (.int .i64 (wr (q + partsF (args i) (wr (m - q)))))), (1, .v (.int .i64 m)), (2, .p 0 0)] hs (okC T1 (okC T2 (okC GI (okC GR (okC GS (okC GC (okC GA (okC GN okN)))))))) (by as_aux_lemma => kernel_rfl) fun G2 a2 w2 h2 _ => ?_
        refine ⟨G2, ?_⟩
        have : foldN (i + 1) F q0 = wr (q + partsF (args i) (wr (m - q))) := by
          rw [foldN, hq, ← hF]
          simp only [hz, cond_true]
        rw [this]
        exact h2
      | false =>
        refine goK .fin (k' := []) (e := .ex 0) [(5, .v (.int .i64 q))] hs (okC T1 (okC T2 okN)) (by as_aux_lemma => kernel_rfl) fun G2 a2 w2 h2 _ => brk ?_
        have : foldN n F q0 = q := by
          rw [fold_stay (j := i) (by omega), hq]
          intro j
          rw [hq, ← hF]
          simp only [hz, cond_false]
        exact goE h2 okN (vs := [.int .i64 q]) (by as_aux_lemma => kernel_rfl) fun w' hw => ⟨by rw [this]; rfl, hw⟩
    · obtain ⟨G, hs⟩ := hG
      obtain ⟨q, hq⟩ : ∃ q, foldN n F q0 = q := ⟨_, rfl⟩
      have T1 := Said.ltN (P := Tryz.prog) (N := W.heap.size) (W := W) (t := 3) (i := n) (n := n) (z := false) (by simp)
      obtain ⟨z, hz⟩ : ∃ z, decide (q ≤ m) = z := ⟨_, rfl⟩
      have T2 := Said.intLe (P := Tryz.prog) (N := W.heap.size) (W := W) (t := 3) (k := .i64) (a := q) (b := m) hz
      rw [hq] at hs ⊢
      refine goK .fin (k' := []) (e := .ex 0) [(5, .v (.int .i64 q))] hs (okC T1 okN) (by as_aux_lemma => kernel_rfl) fun G2 a2 w2 h2 _ => brk ?_
      exact goE h2 okN (vs := [.int .i64 q]) (by as_aux_lemma => kernel_rfl) fun w' hw => ⟨rfl, hw⟩
set_option maxRecDepth 100000 in
theorem lightE_ok (e : E) (cs : List Value) (W : World) (m : Int) (h : EIn W e cs) :
    Calls Tryz.prog 7 #[.agg cs.toArray, .int .i64 m] W fun r W' => r = .returned (.bool (lightE e m)) ∧ Below W.heap.size W W' := by
  have h0 := h
  obtain ⟨wk, wo, wvk, wvn, wvt, wtb, wnm, wA, wn, wc, wpl, wty, rfl⟩ := h.form
  have GC : Said.ok Tryz.prog W.heap.size W (.call 24 [.agg [.int .i64 wk, .int .i64 wo, .int .i64 wvk, .int .i64 wvn, .string wvt, .string wtb, .string wnm, .slice wA wn wc, .int .i64 wpl, .int .i64 wty].toArray, .int .i64 m] (.int .i64 (partsF e m))) := Said.of Tryz.func24 rfl (by kernel_rfl) (fun w hw => partsF_ok e _ w m (EIn.sub (.below hw) h0))
  have GT := Said.intLe (P := Tryz.prog) (N := W.heap.size) (W := W) (t := 3) (k := .i64) (a := partsF e m) (b := m) (z := lightE e m) rfl
  refine calls_rd (c := bodyOf Tryz.f7) Tryz.func7 rfl (by kernel_rfl) fun a0 hst => ?_
  exact goE hst (okC GC (okC GT okN)) (vs := [.bool (lightE e m)]) (by as_aux_lemma => kernel_rfl) fun w' hw => ⟨rfl, hw⟩
def bigN (n m : Nat) : Bool := decide ((m : Int) < (n : Int))
def lightRow (x : Es) : Bool := !bigN x.n 12 && allN x.n fun k => lightE (x.f k) 60
/-- A statement of few parts. -/
def lightS (a : S) : Bool :=
  !bigN a.nrw 12 && !bigN a.nst 12 && !bigN a.nit 12 && !bigN a.nfr 5 && !bigN a.nor 12 && !bigN a.gr.n 12 && !bigN a.cl.n 12 && !bigN a.nkc 12 && !bigN a.tab.nc 12 && !bigN a.tab.nk 12 && allN a.nkc (fun i => !bigN (a.kc i).n 12) && allN a.tab.nk (fun i => !bigN (a.tab.keys i).n 12) && allN a.nrw (fun i => lightRow (a.rw i)) &&
  allN a.nst (fun i => lightE (a.st i).e 100) && allN a.nit (fun i => lightE (a.it i).e 100) && allN a.nfr (fun i => lightE (a.fr i).e 100) && allN a.nor (fun i => lightE (a.od i).e 100) && allN a.gr.n (fun i => lightE (a.gr.f i) 100) && (lightE a.wh 200 && lightE a.hv 200)
theorem ls_h0 {a : S} (h : bigN a.nrw 12 = true) : lightS a = false := by simp only [lightS, h, Bool.not_true, Bool.and_false, Bool.false_and]
theorem ls_h1 {a : S} (h : bigN a.nst 12 = true) : lightS a = false := by simp only [lightS, h, Bool.not_true, Bool.and_false, Bool.false_and]
theorem ls_h2 {a : S} (h : bigN a.nit 12 = true) : lightS a = false := by simp only [lightS, h, Bool.not_true, Bool.and_false, Bool.false_and]
theorem ls_h3 {a : S} (h : bigN a.nfr 5 = true) : lightS a = false := by simp only [lightS, h, Bool.not_true, Bool.and_false, Bool.false_and]
theorem ls_h4 {a : S} (h : bigN a.nor 12 = true) : lightS a = false := by simp only [lightS, h, Bool.not_true, Bool.and_false, Bool.false_and]
theorem ls_h5 {a : S} (h : bigN a.gr.n 12 = true) : lightS a = false := by simp only [lightS, h, Bool.not_true, Bool.and_false, Bool.false_and]
theorem ls_h6 {a : S} (h : bigN a.cl.n 12 = true) : lightS a = false := by simp only [lightS, h, Bool.not_true, Bool.and_false, Bool.false_and]
theorem ls_h7 {a : S} (h : bigN a.nkc 12 = true) : lightS a = false := by simp only [lightS, h, Bool.not_true, Bool.and_false, Bool.false_and]
theorem ls_h8 {a : S} (h : bigN a.tab.nc 12 = true) : lightS a = false := by simp only [lightS, h, Bool.not_true, Bool.and_false, Bool.false_and]
theorem ls_h9 {a : S} (h : bigN a.tab.nk 12 = true) : lightS a = false := by simp only [lightS, h, Bool.not_true, Bool.and_false, Bool.false_and]
theorem ls_kc {a : S} {i : Nat} (hi : i < a.nkc) (h : (fun i => !bigN (a.kc i).n 12) i = false) : lightS a = false := by
  have := allN_false (r := fun i => !bigN (a.kc i).n 12) hi h
  simp only [lightS, this, Bool.and_false, Bool.false_and]
theorem ls_key {a : S} {i : Nat} (hi : i < a.tab.nk) (h : (fun i => !bigN (a.tab.keys i).n 12) i = false) : lightS a = false := by
  have := allN_false (r := fun i => !bigN (a.tab.keys i).n 12) hi h
  simp only [lightS, this, Bool.and_false, Bool.false_and]
theorem ls_rw {a : S} {i : Nat} (hi : i < a.nrw) (h : (fun i => lightRow (a.rw i)) i = false) : lightS a = false := by
  have := allN_false (r := fun i => lightRow (a.rw i)) hi h
  simp only [lightS, this, Bool.and_false, Bool.false_and]
theorem ls_st {a : S} {i : Nat} (hi : i < a.nst) (h : (fun i => lightE (a.st i).e 100) i = false) : lightS a = false := by
  have := allN_false (r := fun i => lightE (a.st i).e 100) hi h
  simp only [lightS, this, Bool.and_false, Bool.false_and]
theorem ls_it {a : S} {i : Nat} (hi : i < a.nit) (h : (fun i => lightE (a.it i).e 100) i = false) : lightS a = false := by
  have := allN_false (r := fun i => lightE (a.it i).e 100) hi h
  simp only [lightS, this, Bool.and_false, Bool.false_and]
theorem ls_fr {a : S} {i : Nat} (hi : i < a.nfr) (h : (fun i => lightE (a.fr i).e 100) i = false) : lightS a = false := by
  have := allN_false (r := fun i => lightE (a.fr i).e 100) hi h
  simp only [lightS, this, Bool.and_false, Bool.false_and]
theorem ls_od {a : S} {i : Nat} (hi : i < a.nor) (h : (fun i => lightE (a.od i).e 100) i = false) : lightS a = false := by
  have := allN_false (r := fun i => lightE (a.od i).e 100) hi h
  simp only [lightS, this, Bool.and_false, Bool.false_and]
theorem ls_gr {a : S} {i : Nat} (hi : i < a.gr.n) (h : (fun i => lightE (a.gr.f i) 100) i = false) : lightS a = false := by
  have := allN_false (r := fun i => lightE (a.gr.f i) 100) hi h
  simp only [lightS, this, Bool.and_false, Bool.false_and]
set_option maxHeartbeats 8000000 in
set_option maxRecDepth 100000 in
theorem lightS_ok (a : S) (ca : List Value) (W : World) (ha : SIn W a ca) :
    Calls Tryz.prog 6 #[.agg ca.toArray] W fun r W' => r = .returned (.bool (lightS a)) ∧ Below W.heap.size W W' := by
  obtain ⟨ta, vkc, vcl, vrw, vst, wh, vit, vfr, vgr, hv, vor, rfl, ia⟩ := ha
  obtain ⟨tA, tc, tB, td, rfl, t1, t2⟩ := TaIn.form' ia.tab
  have s1 := ia.kc
  obtain ⟨A1, c1, rfl⟩ := ia.kc.form
  have s2 := ia.cl
  obtain ⟨A2, c2, rfl⟩ := ia.cl.form
  have s3 := ia.rw
  obtain ⟨A3, c3, rfl⟩ := ia.rw.form
  have s4 := ia.st
  obtain ⟨A4, c4, rfl⟩ := ia.st.form
  have s5 := ia.it
  obtain ⟨A5, c5, rfl⟩ := ia.it.form
  have s6 := ia.fr
  obtain ⟨A6, c6, rfl⟩ := ia.fr.form
  have s7 := ia.gr
  obtain ⟨A7, c7, rfl⟩ := ia.gr.form
  have s8 := ia.od
  obtain ⟨A8, c8, rfl⟩ := ia.od.form
  have sw := ia.wh
  obtain ⟨wk, wo, wvk, wvn, wvt, wtb, wnm, wA, wn, wc, wpl, wty, rfl⟩ := ia.wh.form
  have sh := ia.hv
  obtain ⟨hk, ho, hvk, hvn, hvt, htb, hnm, hA, hn, hc, hpl, hty, rfl⟩ := ia.hv.form
  have e1 := SlF.len s1
  have e3 := SlF.len s3
  have e4 := SlF.len s4
  have e5 := SlF.len s5
  have e6 := SlF.len s6
  have e7 := SlF.len s7
  have e8 := SlF.len s8
  have et := SlF.len t2
  clear ia
  obtain ⟨z0, x0⟩ : ∃ z, bigN a.nrw 12 = z := ⟨_, rfl⟩
  have H0 := Said.intGt (P := Tryz.prog) (N := W.heap.size) (W := W) (t := 3) (k := .i64) (a := ((a.nrw : Nat) : Int)) (b := 12) (z := z0) x0
  obtain ⟨z1, x1⟩ : ∃ z, bigN a.nst 12 = z := ⟨_, rfl⟩
  have H1 := Said.intGt (P := Tryz.prog) (N := W.heap.size) (W := W) (t := 3) (k := .i64) (a := ((a.nst : Nat) : Int)) (b := 12) (z := z1) x1
  obtain ⟨z2, x2⟩ : ∃ z, bigN a.nit 12 = z := ⟨_, rfl⟩
  have H2 := Said.intGt (P := Tryz.prog) (N := W.heap.size) (W := W) (t := 3) (k := .i64) (a := ((a.nit : Nat) : Int)) (b := 12) (z := z2) x2
  obtain ⟨z3, x3⟩ : ∃ z, bigN a.nfr 5 = z := ⟨_, rfl⟩
  have H3 := Said.intGt (P := Tryz.prog) (N := W.heap.size) (W := W) (t := 3) (k := .i64) (a := ((a.nfr : Nat) : Int)) (b := 5) (z := z3) x3
  obtain ⟨z4, x4⟩ : ∃ z, bigN a.nor 12 = z := ⟨_, rfl⟩
  have H4 := Said.intGt (P := Tryz.prog) (N := W.heap.size) (W := W) (t := 3) (k := .i64) (a := ((a.nor : Nat) : Int)) (b := 12) (z := z4) x4
  obtain ⟨z5, x5⟩ : ∃ z, bigN a.gr.n 12 = z := ⟨_, rfl⟩
  have H5 := Said.intGt (P := Tryz.prog) (N := W.heap.size) (W := W) (t := 3) (k := .i64) (a := ((a.gr.n : Nat) : Int)) (b := 12) (z := z5) x5
  obtain ⟨z6, x6⟩ : ∃ z, bigN a.cl.n 12 = z := ⟨_, rfl⟩
  have H6 := Said.intGt (P := Tryz.prog) (N := W.heap.size) (W := W) (t := 3) (k := .i64) (a := ((a.cl.n : Nat) : Int)) (b := 12) (z := z6) x6
  obtain ⟨z7, x7⟩ : ∃ z, bigN a.nkc 12 = z := ⟨_, rfl⟩
  have H7 := Said.intGt (P := Tryz.prog) (N := W.heap.size) (W := W) (t := 3) (k := .i64) (a := ((a.nkc : Nat) : Int)) (b := 12) (z := z7) x7
  obtain ⟨z8, x8⟩ : ∃ z, bigN a.tab.nc 12 = z := ⟨_, rfl⟩
  have H8 := Said.intGt (P := Tryz.prog) (N := W.heap.size) (W := W) (t := 3) (k := .i64) (a := ((a.tab.nc : Nat) : Int)) (b := 12) (z := z8) x8
  obtain ⟨z9, x9⟩ : ∃ z, bigN a.tab.nk 12 = z := ⟨_, rfl⟩
  have H9 := Said.intGt (P := Tryz.prog) (N := W.heap.size) (W := W) (t := 3) (k := .i64) (a := ((a.tab.nk : Nat) : Int)) (b := 12) (z := z9) x9
  refine calls_rd (c := cLs) Tryz.func6 rfl (by kernel_rfl) fun a0 hst => ?_
  cases z0
  rotate_left
  · exact goE hst (okC H0 okN) (vs := [.bool false]) (by as_aux_lemma => kernel_rfl) fun w' hw => ⟨by rw [ls_h0 x0]; rfl, hw⟩
  cases z1
  rotate_left
  · exact goE hst (okC H0 (okC H1 okN)) (vs := [.bool false]) (by as_aux_lemma => kernel_rfl) fun w' hw => ⟨by rw [ls_h1 x1]; rfl, hw⟩
  cases z2
  rotate_left
  · exact goE hst (okC H0 (okC H1 (okC H2 okN))) (vs := [.bool false]) (by as_aux_lemma => kernel_rfl) fun w' hw => ⟨by rw [ls_h2 x2]; rfl, hw⟩
  cases z3
  rotate_left
  · exact goE hst (okC H0 (okC H1 (okC H2 (okC H3 okN)))) (vs := [.bool false]) (by as_aux_lemma => kernel_rfl) fun w' hw => ⟨by rw [ls_h3 x3]; rfl, hw⟩
  cases z4
  rotate_left
  · exact goE hst (okC H0 (okC H1 (okC H2 (okC H3 (okC H4 okN))))) (vs := [.bool false]) (by as_aux_lemma => kernel_rfl) fun w' hw => ⟨by rw [ls_h4 x4]; rfl, hw⟩
  cases z5
  rotate_left
  · exact goE hst (okC H0 (okC H1 (okC H2 (okC H3 (okC H4 (okC H5 okN)))))) (vs := [.bool false]) (by as_aux_lemma => kernel_rfl) fun w' hw => ⟨by rw [ls_h5 x5]; rfl, hw⟩
  cases z6
  rotate_left
  · exact goE hst (okC H0 (okC H1 (okC H2 (okC H3 (okC H4 (okC H5 (okC H6 okN))))))) (vs := [.bool false]) (by as_aux_lemma => kernel_rfl) fun w' hw => ⟨by rw [ls_h6 x6]; rfl, hw⟩
  cases z7
  rotate_left
  · exact goE hst (okC H0 (okC H1 (okC H2 (okC H3 (okC H4 (okC H5 (okC H6 (okC H7 okN)))))))) (vs := [.bool false]) (by as_aux_lemma => kernel_rfl) fun w' hw => ⟨by rw [ls_h7 x7]; rfl, hw⟩
  cases z8
  rotate_left
  · exact goE hst (okC H0 (okC H1 (okC H2 (okC H3 (okC H4 (okC H5 (okC H6 (okC H7 (okC H8 okN))))))))) (vs := [.bool false]) (by as_aux_lemma => kernel_rfl) fun w' hw => ⟨by rw [ls_h8 x8]; rfl, hw⟩
  cases z9
  rotate_left
  · exact goE hst (okC H0 (okC H1 (okC H2 (okC H3 (okC H4 (okC H5 (okC H6 (okC H7 (okC H8 (okC H9 okN)))))))))) (vs := [.bool false]) (by as_aux_lemma => kernel_rfl) fun w' hw => ⟨by rw [ls_h9 x9]; rfl, hw⟩
  refine go (.loop 0) (k' := stackAt cLs (.loop 0)) (e := .nrm) [(3, .v (.int .i64 (0 : Nat))), (1, .p 0 0), (2, .v (.bool false))] [bx [.int .i64 a.kind, .string a.tab.nm, .slice tA a.tab.nc tc, .slice tB a.tab.nk td, .slice A1 a.nkc c1, .string a.nm, .string a.ix, .bool a.un, .slice A2 a.cl.n c2, .slice A3 a.nrw c3, .slice A4 a.nst c4, .int .i64 wk, .int .i64 wo, .int .i64 wvk, .int .i64 wvn, .string wvt, .string wtb, .string wnm, .slice wA wn wc, .int .i64 wpl, .int .i64 wty, .bool a.di, .slice A5 a.nit c5, .slice A6 a.nfr c6, .slice A7 a.gr.n c7, .int .i64 hk, .int .i64 ho, .int .i64 hvk, .int .i64 hvn, .string hvt, .string htb, .string hnm, .slice hA hn hc, .int .i64 hpl, .int .i64 hty, .slice A8 a.nor c8, .int .i64 a.li]] hst (okC H0 (okC H1 (okC H2 (okC H3 (okC H4 (okC H5 (okC H6 (okC H7 (okC H8 (okC H9 okN)))))))))) (by as_aux_lemma => kernel_rfl) fun g1 a1 w1 hst0 _ => ?_
  clear hst H0 H1 H2 H3 H4 H5 H6 H7 H8 H9
  refine cmpLoop cLs 0 3 2 3 a.nkc (fun i => !bigN (a.kc i).n 12) (.bool false) (by omega) (by as_aux_lemma => kernel_rfl) hst0 (fun i hi hq => ?_) (fun i hi hq => ?_) (by as_aux_lemma => kernel_rfl) rfl (by kernel_rfl) (fun i hi hq bs9 g9 a9 w9 hst => end_at hst (vs := [.v (.bool false)]) (by kernel_rfl) ⟨by rw [ls_kc hi hq]; rfl, hst.rp.below⟩) fun hl0 g2 a2 w2 hstG => ?_
  · obtain ⟨b1, o1, d1, cs1, q1, l1, l1', p1, r1⟩ := s1.at hi
    cases q1
    have G1 := Said.elem (P := Tryz.prog) (N := W.heap.size) (W := W) (t := 26) (e := 27) (b := b1) (o := o1) (n := a.nkc) (c := c1) (size := 1) (i := i) (k := .i64) Tryz.underlying26 (by kernel_rfl) hi
    obtain ⟨v1, rfl, x1⟩ := p1
    obtain ⟨B1, k1, rfl⟩ := x1.form
    have G3 := Said.cell (P := Tryz.prog) (N := W.heap.size) (W := W) (t := 27) (by kernel_rfl) (r1 0 _ rfl) l1 (Nat.le_refl _)
    have G4 := Said.intGt (P := Tryz.prog) (N := W.heap.size) (W := W) (t := 3) (k := .i64) (a := (((a.kc i).n : Nat) : Int)) (b := 12) (z := false) (by simpa [bigN] using hq)
    exact ⟨_, (okC G1 (okC G3 (okC G4 okN))), by as_aux_lemma => kernel_rfl⟩
  · obtain ⟨b1, o1, d1, cs1, q1, l1, l1', p1, r1⟩ := s1.at hi
    cases q1
    have G1 := Said.elem (P := Tryz.prog) (N := W.heap.size) (W := W) (t := 26) (e := 27) (b := b1) (o := o1) (n := a.nkc) (c := c1) (size := 1) (i := i) (k := .i64) Tryz.underlying26 (by kernel_rfl) hi
    obtain ⟨v1, rfl, x1⟩ := p1
    obtain ⟨B1, k1, rfl⟩ := x1.form
    have G3 := Said.cell (P := Tryz.prog) (N := W.heap.size) (W := W) (t := 27) (by kernel_rfl) (r1 0 _ rfl) l1 (Nat.le_refl _)
    have G4 := Said.intGt (P := Tryz.prog) (N := W.heap.size) (W := W) (t := 3) (k := .i64) (a := (((a.kc i).n : Nat) : Int)) (b := 12) (z := true) (by simpa [bigN] using hq)
    exact ⟨_, (okC G1 (okC G3 (okC G4 okN))), by as_aux_lemma => kernel_rfl⟩
  refine goK (.loop 2) (k' := stackAt cLs (.loop 2)) (e := .nrm) [(4, .v (.int .i64 (0 : Nat))), (1, .p 0 0), (2, .v (.bool false))] hstG okN (by as_aux_lemma => kernel_rfl) fun g1 a1 w1 hst1 _ => ?_
  clear hst0 hstG
  refine cmpLoop cLs 2 4 2 3 a.tab.nk (fun i => !bigN (a.tab.keys i).n 12) (.bool false) (by omega) (by as_aux_lemma => kernel_rfl) hst1 (fun i hi hq => ?_) (fun i hi hq => ?_) (by as_aux_lemma => kernel_rfl) rfl (by kernel_rfl) (fun i hi hq bs9 g9 a9 w9 hst => end_at hst (vs := [.v (.bool false)]) (by kernel_rfl) ⟨by rw [ls_key hi hq]; rfl, hst.rp.below⟩) fun hl1 g2 a2 w2 hstG => ?_
  · obtain ⟨b1, o1, d1, cs1, q1, l1, l1', p1, r1⟩ := t2.at hi
    cases q1
    have G1 := Said.elem (P := Tryz.prog) (N := W.heap.size) (W := W) (t := 23) (e := 59) (b := b1) (o := o1) (n := a.tab.nk) (c := td) (size := 4) (i := i) (k := .i64) Tryz.underlying23 (by kernel_rfl) hi
    obtain ⟨_, v1, rfl, x1⟩ := p1
    obtain ⟨B1, k1, rfl⟩ := x1.form
    have G3 := Said.cell (P := Tryz.prog) (N := W.heap.size) (W := W) (t := 57) (by kernel_rfl) (r1 1 _ rfl) l1 (Nat.le_refl _)
    have G4 := Said.intGt (P := Tryz.prog) (N := W.heap.size) (W := W) (t := 3) (k := .i64) (a := (((a.tab.keys i).n : Nat) : Int)) (b := 12) (z := false) (by simpa [bigN] using hq)
    exact ⟨_, (okC G1 (okC G3 (okC G4 okN))), by as_aux_lemma => kernel_rfl⟩
  · obtain ⟨b1, o1, d1, cs1, q1, l1, l1', p1, r1⟩ := t2.at hi
    cases q1
    have G1 := Said.elem (P := Tryz.prog) (N := W.heap.size) (W := W) (t := 23) (e := 59) (b := b1) (o := o1) (n := a.tab.nk) (c := td) (size := 4) (i := i) (k := .i64) Tryz.underlying23 (by kernel_rfl) hi
    obtain ⟨_, v1, rfl, x1⟩ := p1
    obtain ⟨B1, k1, rfl⟩ := x1.form
    have G3 := Said.cell (P := Tryz.prog) (N := W.heap.size) (W := W) (t := 57) (by kernel_rfl) (r1 1 _ rfl) l1 (Nat.le_refl _)
    have G4 := Said.intGt (P := Tryz.prog) (N := W.heap.size) (W := W) (t := 3) (k := .i64) (a := (((a.tab.keys i).n : Nat) : Int)) (b := 12) (z := true) (by simpa [bigN] using hq)
    exact ⟨_, (okC G1 (okC G3 (okC G4 okN))), by as_aux_lemma => kernel_rfl⟩
  refine goK (.loop 4) (k' := stackAt cLs (.loop 4)) (e := .nrm) [(5, .v (.int .i64 (0 : Nat))), (1, .p 0 0), (2, .v (.bool false))] hstG okN (by as_aux_lemma => kernel_rfl) fun g1 a1 w1 hst2 _ => ?_
  clear hst1 hstG
  refine loopC cLs 4 (by as_aux_lemma => kernel_rfl) a.nrw (fun i a' w' => (∃ G, RC.St W.heap.size W nLs [(5, .v (.int .i64 (i : Nat))), (1, .p 0 0), (2, .v (.bool false))] [bx [.int .i64 a.kind, .string a.tab.nm, .slice tA a.tab.nc tc, .slice tB a.tab.nk td, .slice A1 a.nkc c1, .string a.nm, .string a.ix, .bool a.un, .slice A2 a.cl.n c2, .slice A3 a.nrw c3, .slice A4 a.nst c4, .int .i64 wk, .int .i64 wo, .int .i64 wvk, .int .i64 wvn, .string wvt, .string wtb, .string wnm, .slice wA wn wc, .int .i64 wpl, .int .i64 wty, .bool a.di, .slice A5 a.nit c5, .slice A6 a.nfr c6, .slice A7 a.gr.n c7, .int .i64 hk, .int .i64 ho, .int .i64 hvk, .int .i64 hvn, .string hvt, .string htb, .string hnm, .slice hA hn hc, .int .i64 hpl, .int .i64 hty, .slice A8 a.nor c8, .int .i64 a.li]] G a' w') ∧ ∀ j, j < i → lightRow (a.rw j) = true) ⟨⟨_, hst2⟩, fun j hj => by omega⟩ (fun i hi a3 w3 hG => ?_) (fun a3 w3 hG => ?_)
  · obtain ⟨⟨G, hs⟩, hall⟩ := hG
    have T1 := Said.ltN (P := Tryz.prog) (N := W.heap.size) (W := W) (t := 3) (i := i) (n := a.nrw) (z := true) (by simp; omega)
    obtain ⟨b1, o1, d1, cs1, q1, l1, l1', p1, r1⟩ := s3.at hi
    cases q1
    have G1 := Said.elem (P := Tryz.prog) (N := W.heap.size) (W := W) (t := 28) (e := 32) (b := b1) (o := o1) (n := a.nrw) (c := c3) (size := 1) (i := i) (k := .i64) Tryz.underlying28 (by kernel_rfl) hi
    obtain ⟨v1, rfl, x1⟩ := p1
    have x1' : SlF W 10 120 (a.rw i).n v1 (fun j ds => EIn W ((a.rw i).f j) ds) := x1
    have en := x1'.len
    obtain ⟨B1, k1, rfl⟩ := x1.form
    have G3 := Said.cell (P := Tryz.prog) (N := W.heap.size) (W := W) (t := 32) (by kernel_rfl) (r1 0 _ rfl) l1 (Nat.le_refl _)
    obtain ⟨z, hz⟩ : ∃ z, bigN (a.rw i).n 12 = z := ⟨_, rfl⟩
    have G4 := Said.intGt (P := Tryz.prog) (N := W.heap.size) (W := W) (t := 3) (k := .i64) (a := (((a.rw i).n : Nat) : Int)) (b := 12) (z := z) hz
    cases z
    rotate_left
    · refine goN .fin [(2, .v (.bool false))] hs (okC T1 (okC G1 (okC G3 (okC G4 okN)))) (e := .ret) (k' := []) (by as_aux_lemma => kernel_rfl) fun bs9 g9 a9 w9 hst => outs (end_at hst (vs := [.v (.bool false)]) (by kernel_rfl) ⟨by rw [ls_rw hi (by simp only [lightRow, hz, Bool.not_true, Bool.false_and])]; rfl, hst.rp.below⟩)
    refine goK (.loop 6) (k' := stackAt (loopAt cLs 4) (.loop 6)) (e := .nrm) [(6, .v (.int .i64 (0 : Nat))), (5, .v (.int .i64 (i : Nat))), (1, .p 0 0), (2, .v (.bool false))] hs (okC T1 (okC G1 (okC G3 (okC G4 okN)))) (by as_aux_lemma => kernel_rfl) fun g4 a4 w4 hsI _ => ?_
    clear hs
    refine cmpLoopP (okC G1 (okC G3 okN)) (loopAt cLs 4) 6 6 2 3 (a.rw i).n (fun k => lightE ((a.rw i).f k) 60) (.bool false) (by omega) (by as_aux_lemma => kernel_rfl) hsI (fun k hk hq => ?_) (fun k hk hq => ?_) (by as_aux_lemma => kernel_rfl) rfl (by kernel_rfl) (fun k hk hq bs9 g9 a9 w9 hst => outs (end_at hst (vs := [.v (.bool false)]) (by kernel_rfl) ⟨by rw [ls_rw hi (by simp only [lightRow, hz, allN_false (r := fun k => lightE ((a.rw i).f k) 60) hk hq, Bool.and_false])]; rfl, hst.rp.below⟩)) fun hlI g5 a5 w5 hsO => ?_
    · obtain ⟨b2, o2, d2, cs2, q2, l2, l2', p2, r2⟩ := x1'.at hk
      cases q2
      have G6 := Said.elem (P := Tryz.prog) (N := W.heap.size) (W := W) (t := 32) (e := 34) (b := b2) (o := o2) (n := (a.rw i).n) (c := k1) (size := 10) (i := k) (k := .i64) Tryz.underlying32 (by kernel_rfl) hk
      have G7 := Said.row (P := Tryz.prog) (N := W.heap.size) (W := W) (t := 34) (by kernel_rfl) (by rw [l2']; kernel_rfl) r2 l2 (Nat.le_refl _)
      have G8 : Said.ok Tryz.prog W.heap.size W (.call 7 [.agg cs2.toArray, .int .i64 60] (.bool true)) := by
        rw [← hq]
        exact Said.of Tryz.func7 rfl (by kernel_rfl) (fun w hw => lightE_ok ((a.rw i).f k) cs2 w 60 (EIn.sub (.below hw) p2))
      exact ⟨_, (okC G1 (okC G3 (okC G6 (okC G7 (okC G8 okN))))), by as_aux_lemma => kernel_rfl⟩
    · obtain ⟨b2, o2, d2, cs2, q2, l2, l2', p2, r2⟩ := x1'.at hk
      cases q2
      have G6 := Said.elem (P := Tryz.prog) (N := W.heap.size) (W := W) (t := 32) (e := 34) (b := b2) (o := o2) (n := (a.rw i).n) (c := k1) (size := 10) (i := k) (k := .i64) Tryz.underlying32 (by kernel_rfl) hk
      have G7 := Said.row (P := Tryz.prog) (N := W.heap.size) (W := W) (t := 34) (by kernel_rfl) (by rw [l2']; kernel_rfl) r2 l2 (Nat.le_refl _)
      have G8 : Said.ok Tryz.prog W.heap.size W (.call 7 [.agg cs2.toArray, .int .i64 60] (.bool false)) := by
        rw [← hq]
        exact Said.of Tryz.func7 rfl (by kernel_rfl) (fun w hw => lightE_ok ((a.rw i).f k) cs2 w 60 (EIn.sub (.below hw) p2))
      exact ⟨_, (okC G1 (okC G3 (okC G6 (okC G7 (okC G8 okN))))), by as_aux_lemma => kernel_rfl⟩
    · have GN := Said.inc (P := Tryz.prog) (N := W.heap.size) (W := W) (t := 3) (i := i) (by omega)
      refine goK .fin (k' := []) (e := .nrm) [(5, .v (.int .i64 ((i + 1 : Nat) : Int))), (1, .p 0 0), (2, .v (.bool false))] hsO (okC GN okN) (by as_aux_lemma => kernel_rfl) fun g6 a6 w6 h6 _ => ⟨⟨g6, h6⟩, fun j hj => ?_⟩
      by_cases e : j = i
      · rw [e, lightRow, hz, allN_true.2 hlI]; rfl
      · exact hall j (by omega)
  obtain ⟨⟨G, hs⟩, hl2⟩ := hG
  have T1 := Said.ltN (P := Tryz.prog) (N := W.heap.size) (W := W) (t := 3) (i := a.nrw) (n := a.nrw) (z := false) (by simp)
  refine goK .fin (k' := []) (e := .ex 4) [(1, .p 0 0), (2, .v (.bool false))] hs (okC T1 okN) (by as_aux_lemma => kernel_rfl) fun g2 a2 w2 hstG _ => brk ?_
  clear hs T1
  refine goK (.loop 8) (k' := stackAt cLs (.loop 8)) (e := .nrm) [(7, .v (.int .i64 (0 : Nat))), (1, .p 0 0), (2, .v (.bool false))] hstG okN (by as_aux_lemma => kernel_rfl) fun g1 a1 w1 hst3 _ => ?_
  clear hst2 hstG
  refine cmpLoop cLs 8 7 2 3 a.nst (fun i => lightE (a.st i).e 100) (.bool false) (by omega) (by as_aux_lemma => kernel_rfl) hst3 (fun i hi hq => ?_) (fun i hi hq => ?_) (by as_aux_lemma => kernel_rfl) rfl (by kernel_rfl) (fun i hi hq bs9 g9 a9 w9 hst => end_at hst (vs := [.v (.bool false)]) (by kernel_rfl) ⟨by rw [ls_st hi hq]; rfl, hst.rp.below⟩) fun hl3 g2 a2 w2 hstG => ?_
  · obtain ⟨b1, o1, d1, cs1, q1, l1, l1', p1, r1⟩ := s4.at hi
    cases q1
    have G1 := Said.elem (P := Tryz.prog) (N := W.heap.size) (W := W) (t := 29) (e := 61) (b := b1) (o := o1) (n := a.nst) (c := c4) (size := 11) (i := i) (k := .i64) Tryz.underlying29 (by kernel_rfl) hi
    obtain ⟨_, es1, rfl, x1⟩ := p1
    have G3 := Said.row (P := Tryz.prog) (N := W.heap.size) (W := W) (t := 34) (by kernel_rfl) (by rw [x1.len]; kernel_rfl) (range_tail r1) l1 (Nat.le_refl _)
    have G5 : Said.ok Tryz.prog W.heap.size W (.call 7 [.agg es1.toArray, .int .i64 100] (.bool true)) := by
      rw [← hq]
      exact Said.of Tryz.func7 rfl (by kernel_rfl) (fun w hw => lightE_ok (a.st i).e es1 w 100 (x1.sub (.below hw)))
    exact ⟨_, (okC G1 (okC G3 (okC G5 okN))), by as_aux_lemma => kernel_rfl⟩
  · obtain ⟨b1, o1, d1, cs1, q1, l1, l1', p1, r1⟩ := s4.at hi
    cases q1
    have G1 := Said.elem (P := Tryz.prog) (N := W.heap.size) (W := W) (t := 29) (e := 61) (b := b1) (o := o1) (n := a.nst) (c := c4) (size := 11) (i := i) (k := .i64) Tryz.underlying29 (by kernel_rfl) hi
    obtain ⟨_, es1, rfl, x1⟩ := p1
    have G3 := Said.row (P := Tryz.prog) (N := W.heap.size) (W := W) (t := 34) (by kernel_rfl) (by rw [x1.len]; kernel_rfl) (range_tail r1) l1 (Nat.le_refl _)
    have G5 : Said.ok Tryz.prog W.heap.size W (.call 7 [.agg es1.toArray, .int .i64 100] (.bool false)) := by
      rw [← hq]
      exact Said.of Tryz.func7 rfl (by kernel_rfl) (fun w hw => lightE_ok (a.st i).e es1 w 100 (x1.sub (.below hw)))
    exact ⟨_, (okC G1 (okC G3 (okC G5 okN))), by as_aux_lemma => kernel_rfl⟩
  refine goK (.loop 10) (k' := stackAt cLs (.loop 10)) (e := .nrm) [(8, .v (.int .i64 (0 : Nat))), (1, .p 0 0), (2, .v (.bool false))] hstG okN (by as_aux_lemma => kernel_rfl) fun g1 a1 w1 hst4 _ => ?_
  clear hst3 hstG
  refine cmpLoop cLs 10 8 2 3 a.nit (fun i => lightE (a.it i).e 100) (.bool false) (by omega) (by as_aux_lemma => kernel_rfl) hst4 (fun i hi hq => ?_) (fun i hi hq => ?_) (by as_aux_lemma => kernel_rfl) rfl (by kernel_rfl) (fun i hi hq bs9 g9 a9 w9 hst => end_at hst (vs := [.v (.bool false)]) (by kernel_rfl) ⟨by rw [ls_it hi hq]; rfl, hst.rp.below⟩) fun hl4 g2 a2 w2 hstG => ?_
  · obtain ⟨b1, o1, d1, cs1, q1, l1, l1', p1, r1⟩ := s5.at hi
    cases q1
    have G1 := Said.elem (P := Tryz.prog) (N := W.heap.size) (W := W) (t := 35) (e := 63) (b := b1) (o := o1) (n := a.nit) (c := c5) (size := 12) (i := i) (k := .i64) Tryz.underlying35 (by kernel_rfl) hi
    obtain ⟨_, es1, rfl, x1⟩ := p1
    have G3 := Said.row (P := Tryz.prog) (N := W.heap.size) (W := W) (t := 34) (by kernel_rfl) (by rw [x1.len]; kernel_rfl) (range_init (range_tail r1)) l1 (Nat.le_refl _)
    have G5 : Said.ok Tryz.prog W.heap.size W (.call 7 [.agg es1.toArray, .int .i64 100] (.bool true)) := by
      rw [← hq]
      exact Said.of Tryz.func7 rfl (by kernel_rfl) (fun w hw => lightE_ok (a.it i).e es1 w 100 (x1.sub (.below hw)))
    exact ⟨_, (okC G1 (okC G3 (okC G5 okN))), by as_aux_lemma => kernel_rfl⟩
  · obtain ⟨b1, o1, d1, cs1, q1, l1, l1', p1, r1⟩ := s5.at hi
    cases q1
    have G1 := Said.elem (P := Tryz.prog) (N := W.heap.size) (W := W) (t := 35) (e := 63) (b := b1) (o := o1) (n := a.nit) (c := c5) (size := 12) (i := i) (k := .i64) Tryz.underlying35 (by kernel_rfl) hi
    obtain ⟨_, es1, rfl, x1⟩ := p1
    have G3 := Said.row (P := Tryz.prog) (N := W.heap.size) (W := W) (t := 34) (by kernel_rfl) (by rw [x1.len]; kernel_rfl) (range_init (range_tail r1)) l1 (Nat.le_refl _)
    have G5 : Said.ok Tryz.prog W.heap.size W (.call 7 [.agg es1.toArray, .int .i64 100] (.bool false)) := by
      rw [← hq]
      exact Said.of Tryz.func7 rfl (by kernel_rfl) (fun w hw => lightE_ok (a.it i).e es1 w 100 (x1.sub (.below hw)))
    exact ⟨_, (okC G1 (okC G3 (okC G5 okN))), by as_aux_lemma => kernel_rfl⟩
  refine goK (.loop 12) (k' := stackAt cLs (.loop 12)) (e := .nrm) [(9, .v (.int .i64 (0 : Nat))), (1, .p 0 0), (2, .v (.bool false))] hstG okN (by as_aux_lemma => kernel_rfl) fun g1 a1 w1 hst5 _ => ?_
  clear hst4 hstG
  refine cmpLoop cLs 12 9 2 3 a.nfr (fun i => lightE (a.fr i).e 100) (.bool false) (by omega) (by as_aux_lemma => kernel_rfl) hst5 (fun i hi hq => ?_) (fun i hi hq => ?_) (by as_aux_lemma => kernel_rfl) rfl (by kernel_rfl) (fun i hi hq bs9 g9 a9 w9 hst => end_at hst (vs := [.v (.bool false)]) (by kernel_rfl) ⟨by rw [ls_fr hi hq]; rfl, hst.rp.below⟩) fun hl5 g2 a2 w2 hstG => ?_
  · obtain ⟨b1, o1, d1, cs1, q1, l1, l1', p1, r1⟩ := s6.at hi
    cases q1
    have G1 := Said.elem (P := Tryz.prog) (N := W.heap.size) (W := W) (t := 36) (e := 65) (b := b1) (o := o1) (n := a.nfr) (c := c6) (size := 13) (i := i) (k := .i64) Tryz.underlying36 (by kernel_rfl) hi
    obtain ⟨_, _, es1, rfl, x1⟩ := p1
    have G3 := Said.row (P := Tryz.prog) (N := W.heap.size) (W := W) (t := 34) (by kernel_rfl) (by rw [x1.len]; kernel_rfl) (range_tail (range_tail (range_tail r1))) l1 (Nat.le_refl _)
    have G5 : Said.ok Tryz.prog W.heap.size W (.call 7 [.agg es1.toArray, .int .i64 100] (.bool true)) := by
      rw [← hq]
      exact Said.of Tryz.func7 rfl (by kernel_rfl) (fun w hw => lightE_ok (a.fr i).e es1 w 100 (x1.sub (.below hw)))
    exact ⟨_, (okC G1 (okC G3 (okC G5 okN))), by as_aux_lemma => kernel_rfl⟩
  · obtain ⟨b1, o1, d1, cs1, q1, l1, l1', p1, r1⟩ := s6.at hi
    cases q1
    have G1 := Said.elem (P := Tryz.prog) (N := W.heap.size) (W := W) (t := 36) (e := 65) (b := b1) (o := o1) (n := a.nfr) (c := c6) (size := 13) (i := i) (k := .i64) Tryz.underlying36 (by kernel_rfl) hi
    obtain ⟨_, _, es1, rfl, x1⟩ := p1
    have G3 := Said.row (P := Tryz.prog) (N := W.heap.size) (W := W) (t := 34) (by kernel_rfl) (by rw [x1.len]; kernel_rfl) (range_tail (range_tail (range_tail r1))) l1 (Nat.le_refl _)
    have G5 : Said.ok Tryz.prog W.heap.size W (.call 7 [.agg es1.toArray, .int .i64 100] (.bool false)) := by
      rw [← hq]
      exact Said.of Tryz.func7 rfl (by kernel_rfl) (fun w hw => lightE_ok (a.fr i).e es1 w 100 (x1.sub (.below hw)))
    exact ⟨_, (okC G1 (okC G3 (okC G5 okN))), by as_aux_lemma => kernel_rfl⟩
  refine goK (.loop 14) (k' := stackAt cLs (.loop 14)) (e := .nrm) [(10, .v (.int .i64 (0 : Nat))), (1, .p 0 0), (2, .v (.bool false))] hstG okN (by as_aux_lemma => kernel_rfl) fun g1 a1 w1 hst6 _ => ?_
  clear hst5 hstG
  refine cmpLoop cLs 14 10 2 3 a.nor (fun i => lightE (a.od i).e 100) (.bool false) (by omega) (by as_aux_lemma => kernel_rfl) hst6 (fun i hi hq => ?_) (fun i hi hq => ?_) (by as_aux_lemma => kernel_rfl) rfl (by kernel_rfl) (fun i hi hq bs9 g9 a9 w9 hst => end_at hst (vs := [.v (.bool false)]) (by kernel_rfl) ⟨by rw [ls_od hi hq]; rfl, hst.rp.below⟩) fun hl6 g2 a2 w2 hstG => ?_
  · obtain ⟨b1, o1, d1, cs1, q1, l1, l1', p1, r1⟩ := s8.at hi
    cases q1
    have G1 := Said.elem (P := Tryz.prog) (N := W.heap.size) (W := W) (t := 37) (e := 67) (b := b1) (o := o1) (n := a.nor) (c := c8) (size := 11) (i := i) (k := .i64) Tryz.underlying37 (by kernel_rfl) hi
    obtain ⟨es1, rfl, x1⟩ := p1
    have G3 := Said.row (P := Tryz.prog) (N := W.heap.size) (W := W) (t := 34) (by kernel_rfl) (by rw [x1.len]; kernel_rfl) (range_init r1) l1 (Nat.le_refl _)
    have G5 : Said.ok Tryz.prog W.heap.size W (.call 7 [.agg es1.toArray, .int .i64 100] (.bool true)) := by
      rw [← hq]
      exact Said.of Tryz.func7 rfl (by kernel_rfl) (fun w hw => lightE_ok (a.od i).e es1 w 100 (x1.sub (.below hw)))
    exact ⟨_, (okC G1 (okC G3 (okC G5 okN))), by as_aux_lemma => kernel_rfl⟩
  · obtain ⟨b1, o1, d1, cs1, q1, l1, l1', p1, r1⟩ := s8.at hi
    cases q1
    have G1 := Said.elem (P := Tryz.prog) (N := W.heap.size) (W := W) (t := 37) (e := 67) (b := b1) (o := o1) (n := a.nor) (c := c8) (size := 11) (i := i) (k := .i64) Tryz.underlying37 (by kernel_rfl) hi
    obtain ⟨es1, rfl, x1⟩ := p1
    have G3 := Said.row (P := Tryz.prog) (N := W.heap.size) (W := W) (t := 34) (by kernel_rfl) (by rw [x1.len]; kernel_rfl) (range_init r1) l1 (Nat.le_refl _)
    have G5 : Said.ok Tryz.prog W.heap.size W (.call 7 [.agg es1.toArray, .int .i64 100] (.bool false)) := by
      rw [← hq]
      exact Said.of Tryz.func7 rfl (by kernel_rfl) (fun w hw => lightE_ok (a.od i).e es1 w 100 (x1.sub (.below hw)))
    exact ⟨_, (okC G1 (okC G3 (okC G5 okN))), by as_aux_lemma => kernel_rfl⟩
  refine goK (.loop 16) (k' := stackAt cLs (.loop 16)) (e := .nrm) [(11, .v (.int .i64 (0 : Nat))), (1, .p 0 0), (2, .v (.bool false))] hstG okN (by as_aux_lemma => kernel_rfl) fun g1 a1 w1 hst7 _ => ?_
  clear hst6 hstG
  refine cmpLoop cLs 16 11 2 3 a.gr.n (fun i => lightE (a.gr.f i) 100) (.bool false) (by omega) (by as_aux_lemma => kernel_rfl) hst7 (fun i hi hq => ?_) (fun i hi hq => ?_) (by as_aux_lemma => kernel_rfl) rfl (by kernel_rfl) (fun i hi hq bs9 g9 a9 w9 hst => end_at hst (vs := [.v (.bool false)]) (by kernel_rfl) ⟨by rw [ls_gr hi hq]; rfl, hst.rp.below⟩) fun hl7 g2 a2 w2 hstG => ?_
  · obtain ⟨b1, o1, d1, cs1, q1, l1, l1', p1, r1⟩ := s7.at hi
    cases q1
    have G1 := Said.elem (P := Tryz.prog) (N := W.heap.size) (W := W) (t := 32) (e := 34) (b := b1) (o := o1) (n := a.gr.n) (c := c7) (size := 10) (i := i) (k := .i64) Tryz.underlying32 (by kernel_rfl) hi
    have x1 : EIn W (a.gr.f i) cs1 := p1
    obtain ⟨es1, hes⟩ : ∃ es1, es1 = cs1 := ⟨_, rfl⟩
    rw [← hes] at x1 r1
    have G3 := Said.row (P := Tryz.prog) (N := W.heap.size) (W := W) (t := 34) (by kernel_rfl) (by rw [x1.len]; kernel_rfl) r1 l1 (Nat.le_refl _)
    have G5 : Said.ok Tryz.prog W.heap.size W (.call 7 [.agg es1.toArray, .int .i64 100] (.bool true)) := by
      rw [← hq]
      exact Said.of Tryz.func7 rfl (by kernel_rfl) (fun w hw => lightE_ok (a.gr.f i) es1 w 100 (x1.sub (.below hw)))
    exact ⟨_, (okC G1 (okC G3 (okC G5 okN))), by as_aux_lemma => kernel_rfl⟩
  · obtain ⟨b1, o1, d1, cs1, q1, l1, l1', p1, r1⟩ := s7.at hi
    cases q1
    have G1 := Said.elem (P := Tryz.prog) (N := W.heap.size) (W := W) (t := 32) (e := 34) (b := b1) (o := o1) (n := a.gr.n) (c := c7) (size := 10) (i := i) (k := .i64) Tryz.underlying32 (by kernel_rfl) hi
    have x1 : EIn W (a.gr.f i) cs1 := p1
    obtain ⟨es1, hes⟩ : ∃ es1, es1 = cs1 := ⟨_, rfl⟩
    rw [← hes] at x1 r1
    have G3 := Said.row (P := Tryz.prog) (N := W.heap.size) (W := W) (t := 34) (by kernel_rfl) (by rw [x1.len]; kernel_rfl) r1 l1 (Nat.le_refl _)
    have G5 : Said.ok Tryz.prog W.heap.size W (.call 7 [.agg es1.toArray, .int .i64 100] (.bool false)) := by
      rw [← hq]
      exact Said.of Tryz.func7 rfl (by kernel_rfl) (fun w hw => lightE_ok (a.gr.f i) es1 w 100 (x1.sub (.below hw)))
    exact ⟨_, (okC G1 (okC G3 (okC G5 okN))), by as_aux_lemma => kernel_rfl⟩
  obtain ⟨zw, yw⟩ : ∃ z, lightE a.wh 200 = z := ⟨_, rfl⟩
  obtain ⟨zh, yh⟩ : ∃ z, lightE a.hv 200 = z := ⟨_, rfl⟩
  have Cw : Said.ok Tryz.prog W.heap.size W (.call 7 [.agg [.int .i64 wk, .int .i64 wo, .int .i64 wvk, .int .i64 wvn, .string wvt, .string wtb, .string wnm, .slice wA wn wc, .int .i64 wpl, .int .i64 wty].toArray, .int .i64 200] (.bool zw)) := by
    rw [← yw]
    exact Said.of Tryz.func7 rfl (by kernel_rfl) (fun w hw => lightE_ok a.wh _ w 200 (sw.sub (.below hw)))
  have Ch : Said.ok Tryz.prog W.heap.size W (.call 7 [.agg [.int .i64 hk, .int .i64 ho, .int .i64 hvk, .int .i64 hvn, .string hvt, .string htb, .string hnm, .slice hA hn hc, .int .i64 hpl, .int .i64 hty].toArray, .int .i64 200] (.bool zh)) := by
    rw [← yh]
    exact Said.of Tryz.func7 rfl (by kernel_rfl) (fun w hw => lightE_ok a.hv _ w 200 (sh.sub (.below hw)))
  have fin : lightS a = (zw && zh) := by
    simp only [lightS, x0, x1, x2, x3, x4, x5, x6, x7, x8, x9, allN_true.2 hl0, allN_true.2 hl1, allN_true.2 hl2, allN_true.2 hl3, allN_true.2 hl4, allN_true.2 hl5, allN_true.2 hl6, allN_true.2 hl7, yw, yh, Bool.not_false, Bool.true_and]
  rw [fin]
  cases zw
  · exact goE hstG (okC Cw okN) (vs := [.bool false]) (by as_aux_lemma => kernel_rfl) fun w' hw => ⟨rfl, hw⟩
  · exact goE hstG (okC Cw (okC Ch okN)) (vs := [.bool zh]) (by as_aux_lemma => kernel_rfl) fun w' hw => ⟨rfl, hw⟩
end Go.Proofs.YtddedijencleeaaGreatDoor

/- consistorylaw9.TreeSame: the law, walked. -/
set_option linter.all false
namespace Go.Proofs.YtddedijencleeaaGreatDoor
open Go.RowKit Go.Lib RC

noncomputable abbrev cTs : Code := bodyOf Tryz.f4
set_option maxHeartbeats 8000000 in
set_option maxRecDepth 100000 in
theorem treeSame_walk (a b : S) (ca cb : List Value) (W : World) (ha : SIn W a ca) (hb : SIn W b cb) (hok : OkW W) (hg : 0 < W.heap.size) :
    Calls Tryz.prog 4 #[.agg ca.toArray, .agg cb.toArray] W fun r W' => r = .returned (.bool true) ∧ Below W.heap.size W W' := by
  have ha0 := ha
  have hb0 := hb
  have q1 : sameSB sameE a (bareS a) = true := (sameSB_iff sameE a (bareS a)).2 (sameS_bare a)
  have q2 : sameSB sameE a a = true := (sameSB_iff sameE a a).2 (sameS_refl a)
  obtain ⟨z, hz⟩ : ∃ z, sameSB sameE a b = z := ⟨_, rfl⟩
  obtain ⟨la, hla⟩ : ∃ z, lightS a = z := ⟨_, rfl⟩
  obtain ⟨lb, hlb⟩ : ∃ z, lightS b = z := ⟨_, rfl⟩
  obtain ⟨ta, vkc, vcl, vrw, vst, wh, vit, vfr, vgr, hv, vor, rfl, ia⟩ := ha
  obtain ⟨tA, tc, tB, td, rfl, t1, t2⟩ := TaIn.form' ia.tab
  obtain ⟨A1, c1, rfl⟩ := ia.kc.form
  obtain ⟨A2, c2, rfl⟩ := ia.cl.form
  obtain ⟨A3, c3, rfl⟩ := ia.rw.form
  obtain ⟨A4, c4, rfl⟩ := ia.st.form
  obtain ⟨A5, c5, rfl⟩ := ia.it.form
  obtain ⟨A6, c6, rfl⟩ := ia.fr.form
  obtain ⟨A7, c7, rfl⟩ := ia.gr.form
  obtain ⟨A8, c8, rfl⟩ := ia.od.form
  obtain ⟨wk, wo, wvk, wvn, wvt, wtb, wnm, wA, wn, wc, wpl, wty, rfl⟩ := ia.wh.form
  obtain ⟨hk, ho, hvk, hvn, hvt, htb, hnm, hA, hn, hc, hpl, hty, rfl⟩ := ia.hv.form
  obtain ⟨ta', vkc', vcl', vrw', vst', wh', vit', vfr', vgr', hv', vor', rfl, ib⟩ := hb
  obtain ⟨tA', tc', tB', td', rfl, t1', t2'⟩ := TaIn.form' ib.tab
  obtain ⟨A1', c1', rfl⟩ := ib.kc.form
  obtain ⟨A2', c2', rfl⟩ := ib.cl.form
  obtain ⟨A3', c3', rfl⟩ := ib.rw.form
  obtain ⟨A4', c4', rfl⟩ := ib.st.form
  obtain ⟨A5', c5', rfl⟩ := ib.it.form
  obtain ⟨A6', c6', rfl⟩ := ib.fr.form
  obtain ⟨A7', c7', rfl⟩ := ib.gr.form
  obtain ⟨A8', c8', rfl⟩ := ib.od.form
  obtain ⟨wk', wo', wvk', wvn', wvt', wtb', wnm', wA', wn', wc', wpl', wty', rfl⟩ := ib.wh.form
  obtain ⟨hk', ho', hvk', hvn', hvt', htb', hnm', hA', hn', hc', hpl', hty', rfl⟩ := ib.hv.form
  clear ia t1 t2 ib t1' t2'
  have GK : Said.ok Tryz.prog W.heap.size W (.call 5 [] (.bool true)) := Said.of Tryz.func5 rfl (by kernel_rfl) (fun w hw => known9 w (hok.belowB hg hw) (by have := hw.size; omega))
  have LA : Said.ok Tryz.prog W.heap.size W (.call 6 [.agg [.int .i64 a.kind, .string a.tab.nm, .slice tA a.tab.nc tc, .slice tB a.tab.nk td, .slice A1 a.nkc c1, .string a.nm, .string a.ix, .bool a.un, .slice A2 a.cl.n c2, .slice A3 a.nrw c3, .slice A4 a.nst c4, .int .i64 wk, .int .i64 wo, .int .i64 wvk, .int .i64 wvn, .string wvt, .string wtb, .string wnm, .slice wA wn wc, .int .i64 wpl, .int .i64 wty, .bool a.di, .slice A5 a.nit c5, .slice A6 a.nfr c6, .slice A7 a.gr.n c7, .int .i64 hk, .int .i64 ho, .int .i64 hvk, .int .i64 hvn, .string hvt, .string htb, .string hnm, .slice hA hn hc, .int .i64 hpl, .int .i64 hty, .slice A8 a.nor c8, .int .i64 a.li].toArray] (.bool la)) := by
    rw [← hla]
    exact Said.of Tryz.func6 rfl (by kernel_rfl) (fun w hw => lightS_ok a _ w (SIn.sub (.below hw) ha0))
  have LB : Said.ok Tryz.prog W.heap.size W (.call 6 [.agg [.int .i64 b.kind, .string b.tab.nm, .slice tA' b.tab.nc tc', .slice tB' b.tab.nk td', .slice A1' b.nkc c1', .string b.nm, .string b.ix, .bool b.un, .slice A2' b.cl.n c2', .slice A3' b.nrw c3', .slice A4' b.nst c4', .int .i64 wk', .int .i64 wo', .int .i64 wvk', .int .i64 wvn', .string wvt', .string wtb', .string wnm', .slice wA' wn' wc', .int .i64 wpl', .int .i64 wty', .bool b.di, .slice A5' b.nit c5', .slice A6' b.nfr c6', .slice A7' b.gr.n c7', .int .i64 hk', .int .i64 ho', .int .i64 hvk', .int .i64 hvn', .string hvt', .string htb', .string hnm', .slice hA' hn' hc', .int .i64 hpl', .int .i64 hty', .slice A8' b.nor c8', .int .i64 b.li].toArray] (.bool lb)) := by
    rw [← hlb]
    exact Said.of Tryz.func6 rfl (by kernel_rfl) (fun w hw => lightS_ok b _ w (SIn.sub (.below hw) hb0))
  have SM : Said.ok Tryz.prog W.heap.size W (.call 22 [.agg [.int .i64 a.kind, .string a.tab.nm, .slice tA a.tab.nc tc, .slice tB a.tab.nk td, .slice A1 a.nkc c1, .string a.nm, .string a.ix, .bool a.un, .slice A2 a.cl.n c2, .slice A3 a.nrw c3, .slice A4 a.nst c4, .int .i64 wk, .int .i64 wo, .int .i64 wvk, .int .i64 wvn, .string wvt, .string wtb, .string wnm, .slice wA wn wc, .int .i64 wpl, .int .i64 wty, .bool a.di, .slice A5 a.nit c5, .slice A6 a.nfr c6, .slice A7 a.gr.n c7, .int .i64 hk, .int .i64 ho, .int .i64 hvk, .int .i64 hvn, .string hvt, .string htb, .string hnm, .slice hA hn hc, .int .i64 hpl, .int .i64 hty, .slice A8 a.nor c8, .int .i64 a.li].toArray, .agg [.int .i64 b.kind, .string b.tab.nm, .slice tA' b.tab.nc tc', .slice tB' b.tab.nk td', .slice A1' b.nkc c1', .string b.nm, .string b.ix, .bool b.un, .slice A2' b.cl.n c2', .slice A3' b.nrw c3', .slice A4' b.nst c4', .int .i64 wk', .int .i64 wo', .int .i64 wvk', .int .i64 wvn', .string wvt', .string wtb', .string wnm', .slice wA' wn' wc', .int .i64 wpl', .int .i64 wty', .bool b.di, .slice A5' b.nit c5', .slice A6' b.nfr c6', .slice A7' b.gr.n c7', .int .i64 hk', .int .i64 ho', .int .i64 hvk', .int .i64 hvn', .string hvt', .string htb', .string hnm', .slice hA' hn' hc', .int .i64 hpl', .int .i64 hty', .slice A8' b.nor c8', .int .i64 b.li].toArray] (.bool z)) := by
    rw [← hz]
    exact Said.of Tryz.func22 rfl (by kernel_rfl) (fun w hw => same_ok a b _ _ w (SIn.sub (.below hw) ha0) (SIn.sub (.below hw) hb0))
  have SR : Said.ok Tryz.prog W.heap.size W (.call 23 [.agg [.int .i64 a.kind, .string a.tab.nm, .slice tA a.tab.nc tc, .slice tB a.tab.nk td, .slice A1 a.nkc c1, .string a.nm, .string a.ix, .bool a.un, .slice A2 a.cl.n c2, .slice A3 a.nrw c3, .slice A4 a.nst c4, .int .i64 wk, .int .i64 wo, .int .i64 wvk, .int .i64 wvn, .string wvt, .string wtb, .string wnm, .slice wA wn wc, .int .i64 wpl, .int .i64 wty, .bool a.di, .slice A5 a.nit c5, .slice A6 a.nfr c6, .slice A7 a.gr.n c7, .int .i64 hk, .int .i64 ho, .int .i64 hvk, .int .i64 hvn, .string hvt, .string htb, .string hnm, .slice hA hn hc, .int .i64 hpl, .int .i64 hty, .slice A8 a.nor c8, .int .i64 a.li].toArray, .agg [.int .i64 b.kind, .string b.tab.nm, .slice tA' b.tab.nc tc', .slice tB' b.tab.nk td', .slice A1' b.nkc c1', .string b.nm, .string b.ix, .bool b.un, .slice A2' b.cl.n c2', .slice A3' b.nrw c3', .slice A4' b.nst c4', .int .i64 wk', .int .i64 wo', .int .i64 wvk', .int .i64 wvn', .string wvt', .string wtb', .string wnm', .slice wA' wn' wc', .int .i64 wpl', .int .i64 wty', .bool b.di, .slice A5' b.nit c5', .slice A6' b.nfr c6', .slice A7' b.gr.n c7', .int .i64 hk', .int .i64 ho', .int .i64 hvk', .int .i64 hvn', .string hvt', .string htb', .string hnm', .slice hA' hn' hc', .int .i64 hpl', .int .i64 hty', .slice A8' b.nor c8', .int .i64 b.li].toArray] (.bool z)) := by
    rw [← hz]
    exact Said.of Tryz.func23 rfl (by kernel_rfl) (fun w hw => refSame_ok a b _ _ w (SIn.sub (.below hw) ha0) (SIn.sub (.below hw) hb0))
  have SS : Said.ok Tryz.prog W.heap.size W (.call 22 [.agg [.int .i64 a.kind, .string a.tab.nm, .slice tA a.tab.nc tc, .slice tB a.tab.nk td, .slice A1 a.nkc c1, .string a.nm, .string a.ix, .bool a.un, .slice A2 a.cl.n c2, .slice A3 a.nrw c3, .slice A4 a.nst c4, .int .i64 wk, .int .i64 wo, .int .i64 wvk, .int .i64 wvn, .string wvt, .string wtb, .string wnm, .slice wA wn wc, .int .i64 wpl, .int .i64 wty, .bool a.di, .slice A5 a.nit c5, .slice A6 a.nfr c6, .slice A7 a.gr.n c7, .int .i64 hk, .int .i64 ho, .int .i64 hvk, .int .i64 hvn, .string hvt, .string htb, .string hnm, .slice hA hn hc, .int .i64 hpl, .int .i64 hty, .slice A8 a.nor c8, .int .i64 a.li].toArray, .agg [.int .i64 a.kind, .string a.tab.nm, .slice tA a.tab.nc tc, .slice tB a.tab.nk td, .slice A1 a.nkc c1, .string a.nm, .string a.ix, .bool a.un, .slice A2 a.cl.n c2, .slice A3 a.nrw c3, .slice A4 a.nst c4, .int .i64 wk, .int .i64 wo, .int .i64 wvk, .int .i64 wvn, .string wvt, .string wtb, .string wnm, .slice wA wn wc, .int .i64 wpl, .int .i64 wty, .bool a.di, .slice A5 a.nit c5, .slice A6 a.nfr c6, .slice A7 a.gr.n c7, .int .i64 hk, .int .i64 ho, .int .i64 hvk, .int .i64 hvn, .string hvt, .string htb, .string hnm, .slice hA hn hc, .int .i64 hpl, .int .i64 hty, .slice A8 a.nor c8, .int .i64 a.li].toArray] (.bool true)) := by
    rw [← q2]
    exact Said.of Tryz.func22 rfl (by kernel_rfl) (fun w hw => same_ok a a _ _ w (SIn.sub (.below hw) ha0) (SIn.sub (.below hw) ha0))
  have EQ := Said.boolEq (P := Tryz.prog) (N := W.heap.size) (W := W) (t := 4) (a := z) (b := z) (z := true) Tryz.underlying4 (by simp)
  have GB := Said.cells (P := Tryz.prog) (N := W.heap.size) (W := W) (f := 20) (args := [.agg [.int .i64 a.kind, .string a.tab.nm, .slice tA a.tab.nc tc, .slice tB a.tab.nk td, .slice A1 a.nkc c1, .string a.nm, .string a.ix, .bool a.un, .slice A2 a.cl.n c2, .slice A3 a.nrw c3, .slice A4 a.nst c4, .int .i64 wk, .int .i64 wo, .int .i64 wvk, .int .i64 wvn, .string wvt, .string wtb, .string wnm, .slice wA wn wc, .int .i64 wpl, .int .i64 wty, .bool a.di, .slice A5 a.nit c5, .slice A6 a.nfr c6, .slice A7 a.gr.n c7, .int .i64 hk, .int .i64 ho, .int .i64 hvk, .int .i64 hvn, .string hvt, .string htb, .string hnm, .slice hA hn hc, .int .i64 hpl, .int .i64 hty, .slice A8 a.nor c8, .int .i64 a.li].toArray]) (m := 37) (q := fun w ds => SIn w (bareS a) ds) (fun W1 W2 u hs h => SIn.sub hs h) Tryz.func20 rfl (by kernel_rfl) (fun w ds h => SIn.ones h) (by exact fun w hw => treeBare_ok a _ w (SIn.sub (.below hw) ha0))
  have SB : Said.ok Tryz.prog W.heap.size W (.callR 22 [.v (.agg [.int .i64 a.kind, .string a.tab.nm, .slice tA a.tab.nc tc, .slice tB a.tab.nk td, .slice A1 a.nkc c1, .string a.nm, .string a.ix, .bool a.un, .slice A2 a.cl.n c2, .slice A3 a.nrw c3, .slice A4 a.nst c4, .int .i64 wk, .int .i64 wo, .int .i64 wvk, .int .i64 wvn, .string wvt, .string wtb, .string wnm, .slice wA wn wc, .int .i64 wpl, .int .i64 wty, .bool a.di, .slice A5 a.nit c5, .slice A6 a.nfr c6, .slice A7 a.gr.n c7, .int .i64 hk, .int .i64 ho, .int .i64 hvk, .int .i64 hvn, .string hvt, .string htb, .string hnm, .slice hA hn hc, .int .i64 hpl, .int .i64 hty, .slice A8 a.nor c8, .int .i64 a.li].toArray), .agg (xsN 2 37)] (List.replicate 37 (2, Res.unk 37 (poL (fun w ds => SIn w (bareS a) ds) (fun W1 W2 u hs h => SIn.sub hs h)))) (.bool true)) := by
    rw [← q1]
    refine ⟨⟨_, _, Tryz.func22, rfl, by kernel_rfl⟩, fun G w hw hk => ?_⟩
    obtain ⟨l1, k1⟩ := Knows.mem (i := 2) (m := 37) (po := (poL (fun w ds => SIn w (bareS a) ds) (fun W1 W2 u hs h => SIn.sub hs h))) hk (List.mem_replicate.2 ⟨by decide, rfl⟩)
    have := same_ok a (bareS a) _ (G.u 2) w (SIn.sub (.below hw) ha0) k1
    simp only [concL, RV.conc, xsN_conc rfl l1]
    exact this
  refine calls_rd (c := cTs) Tryz.func4 rfl (by kernel_rfl) fun a0 hst => ?_
  cases la
  · exact goE hst (okC GK (okC LA okN)) (vs := [.bool true]) (by as_aux_lemma => kernel_rfl) fun w' hw => ⟨rfl, hw⟩
  cases lb
  · exact goE hst (okC GK (okC LA (okC LB okN))) (vs := [.bool true]) (by as_aux_lemma => kernel_rfl) fun w' hw => ⟨rfl, hw⟩
  exact goE hst (okC GK (okC LA (okC LB (okC SM (okC SR (okC EQ (okC GB (okC SB (okC SS okN))))))))) (vs := [.bool true]) (by as_aux_lemma => kernel_rfl) fun w' hw => ⟨rfl, hw⟩
end Go.Proofs.YtddedijencleeaaGreatDoor
