/- tree.Same: contract. -/
import Derived.Test.YtddedijencleeaaGreatDoorGe
import Derived.Test.YtddedijencleeaaGreatDoorRfA
set_option linter.all false
namespace Go.Proofs.YtddedijencleeaaGreatDoor
open Go.RowKit Go.Lib RC

theorem TaIn.form {W : World} {t : Ta} {cs : List Value} (h : TaIn W t cs) : ∃ A n c A' n' c', cs = [.string t.nm, .slice A n c, .slice A' n' c'] := by
  obtain ⟨_, v, u, rfl, ⟨A, c, rfl, _⟩, A', c', rfl, _⟩ := h
  exact ⟨_, _, _, _, _, _, rfl⟩
theorem SlF.form {W : World} {size bytes n : Nat} {v : Value} {P : Nat → List Value → Prop} (h : SlF W size bytes n v P) : ∃ A c, v = .slice A n c := by
  obtain ⟨A, c, h, _⟩ := h
  exact ⟨A, c, h⟩
theorem NsIn.form {W : World} {n : Nat} {f : Nat → ByteArray} {v : Value} (h : NsIn W n f v) : ∃ A c, v = .slice A n c := SlF.form h
theorem EsIn.form {W : World} {n : Nat} {f : Nat → E} {v : Value} (h : EsIn W n f v) : ∃ A c, v = .slice A n c := SlF.form h
section
variable {W W' : World} (hb : Below W.heap.size W W')
include hb
/-- Rows of rows of texts. -/
theorem same_Kc (n m : Nat) (f g : Nat → Na) (v u : Value) (hv : SlF W 1 24 n v fun i ds => ∃ x, ds = [x] ∧ NsIn W (f i).n (f i).f x) (hu : SlF W 1 24 m u fun i ds => ∃ x, ds = [x] ∧ NsIn W (g i).n (g i).f x) :
    Calls Tryz.prog 79 #[v, u, .func (Fn.func 80) #[] #[]] W' fun e W2 => e = .returned (.bool (eqN n m fun i => sameNa (f i) (g i))) ∧ Below W'.heap.size W' W2 :=
  equalF1_Ns (P := fun i x => NsIn W' (f i).n (f i).f x) (Q := fun i x => NsIn W' (g i).n (g i).f x) (entersG Tryz.func80 (by kernel_rfl) rfl) (fun i x h => let ⟨A, c, h⟩ := h.form; ⟨A, _, c, h⟩) (fun i x h => let ⟨A, c, h⟩ := h.form; ⟨A, _, c, h⟩)
    (hv.both (.below hb) fun _ _ _ ⟨x, h1, h2⟩ => ⟨x, h1, h2.sub (.below hb)⟩) (hu.both (.below hb) fun _ _ _ ⟨x, h1, h2⟩ => ⟨x, h1, h2.sub (.below hb)⟩)
    (fun W2 hb2 i x y _ _ hx hy => equal_string (hx.sub (.below hb2)) (hy.sub (.below hb2)))
theorem same_Rw (n m : Nat) (f g : Nat → Es) (v u : Value) (hv : SlF W 1 24 n v fun i ds => ∃ x, ds = [x] ∧ EsIn W (f i).n (f i).f x) (hu : SlF W 1 24 m u fun i ds => ∃ x, ds = [x] ∧ EsIn W (g i).n (g i).f x) :
    Calls Tryz.prog 81 #[v, u, .func (Fn.func 82) #[] #[]] W' fun e W2 => e = .returned (.bool (eqN n m fun i => sameEs sameE (f i) (g i))) ∧ Below W'.heap.size W' W2 :=
  equalF1_Es (P := fun i x => EsIn W' (f i).n (f i).f x) (Q := fun i x => EsIn W' (g i).n (g i).f x) (entersG Tryz.func82 (by kernel_rfl) rfl) (fun i x h => let ⟨A, c, h⟩ := h.form; ⟨A, _, c, h⟩) (fun i x h => let ⟨A, c, h⟩ := h.form; ⟨A, _, c, h⟩)
    (hv.both (.below hb) fun _ _ _ ⟨x, h1, h2⟩ => ⟨x, h1, h2.sub (.below hb)⟩) (hu.both (.below hb) fun _ _ _ ⟨x, h1, h2⟩ => ⟨x, h1, h2.sub (.below hb)⟩)
    (fun W2 hb2 i x y _ _ hx hy => same_Es _ _ x y W2 (hx.sub (.below hb2)) (hy.sub (.below hb2)))
theorem same_rowSt (n m : Nat) (f g : Nat → St) (v u : Value) (hv : SlF W 11 136 n v fun i ds => StIn W (f i) ds) (hu : SlF W 11 136 m u fun i ds => StIn W (g i) ds) :
    Calls Tryz.prog 85 #[v, u, .func (Fn.func 86) #[] #[]] W' fun e W2 => e = .returned (.bool (eqN n m fun i => sameSt sameE (f i) (g i))) ∧ Below W'.heap.size W' W2 :=
  equalF_Set (q := fun i => sameSt sameE (f i) (g i)) (entersG Tryz.func86 (by kernel_rfl) rfl) (hv.both (.below hb) fun _ _ _ h => StIn.sub (.below hb) h) (hu.both (.below hb) fun _ _ _ h => StIn.sub (.below hb) h)
      (fun W2 hb2 i cs ds _ _ h h' => same_St (f i) (g i) cs ds W2 (StIn.sub (.below hb2) h) (StIn.sub (.below hb2) h'))
theorem same_rowIt (n m : Nat) (f g : Nat → It) (v u : Value) (hv : SlF W 12 144 n v fun i ds => ItIn W (f i) ds) (hu : SlF W 12 144 m u fun i ds => ItIn W (g i) ds) :
    Calls Tryz.prog 87 #[v, u, .func (Fn.func 88) #[] #[]] W' fun e W2 => e = .returned (.bool (eqN n m fun i => sameIt sameE (f i) (g i))) ∧ Below W'.heap.size W' W2 :=
  equalF_Item (q := fun i => sameIt sameE (f i) (g i)) (entersG Tryz.func88 (by kernel_rfl) rfl) (hv.both (.below hb) fun _ _ _ h => ItIn.sub (.below hb) h) (hu.both (.below hb) fun _ _ _ h => ItIn.sub (.below hb) h)
      (fun W2 hb2 i cs ds _ _ h h' => same_It (f i) (g i) cs ds W2 (ItIn.sub (.below hb2) h) (ItIn.sub (.below hb2) h'))
theorem same_rowSo (n m : Nat) (f g : Nat → So) (v u : Value) (hv : SlF W 13 160 n v fun i ds => SoIn W (f i) ds) (hu : SlF W 13 160 m u fun i ds => SoIn W (g i) ds) :
    Calls Tryz.prog 89 #[v, u, .func (Fn.func 90) #[] #[]] W' fun e W2 => e = .returned (.bool (eqN n m fun i => sameSo sameE (f i) (g i))) ∧ Below W'.heap.size W' W2 :=
  equalF_Source (q := fun i => sameSo sameE (f i) (g i)) (entersG Tryz.func90 (by kernel_rfl) rfl) (hv.both (.below hb) fun _ _ _ h => SoIn.sub (.below hb) h) (hu.both (.below hb) fun _ _ _ h => SoIn.sub (.below hb) h)
      (fun W2 hb2 i cs ds _ _ h h' => same_So (f i) (g i) cs ds W2 (SoIn.sub (.below hb2) h) (SoIn.sub (.below hb2) h'))
theorem same_rowOd (n m : Nat) (f g : Nat → Od) (v u : Value) (hv : SlF W 11 128 n v fun i ds => OdIn W (f i) ds) (hu : SlF W 11 128 m u fun i ds => OdIn W (g i) ds) :
    Calls Tryz.prog 91 #[v, u, .func (Fn.func 92) #[] #[]] W' fun e W2 => e = .returned (.bool (eqN n m fun i => sameOd sameE (f i) (g i))) ∧ Below W'.heap.size W' W2 :=
  equalF_Order (q := fun i => sameOd sameE (f i) (g i)) (entersG Tryz.func92 (by kernel_rfl) rfl) (hv.both (.below hb) fun _ _ _ h => OdIn.sub (.below hb) h) (hu.both (.below hb) fun _ _ _ h => OdIn.sub (.below hb) h)
      (fun W2 hb2 i cs ds _ _ h h' => same_Od (f i) (g i) cs ds W2 (OdIn.sub (.below hb2) h) (OdIn.sub (.below hb2) h'))
theorem same_Gr (n m : Nat) (f g : Nat → E) (v u : Value) (hv : EsIn W n f v) (hu : EsIn W m g u) :
    Calls Tryz.prog 83 #[v, u, .func (Fn.func 84) #[] #[]] W' fun e W2 => e = .returned (.bool (eqN n m fun i => sameE (f i) (g i))) ∧ Below W'.heap.size W' W2 :=
  equalF_Expr (W := W') (q := fun i => sameE (f i) (g i)) (entersG Tryz.func84 (by kernel_rfl) rfl) (SlF.both hv (.below hb) fun _ _ _ h => EIn.sub (.below hb) h) (SlF.both hu (.below hb) fun _ _ _ h => EIn.sub (.below hb) h)
      (fun W2 hb2 i cs ds _ _ h h' => sameExpr (f i) (g i) cs ds W2 (EIn.sub (.below hb2) h) (EIn.sub (.below hb2) h'))
end
theorem entf {g : FuncId} {fn : Func} {c : Code} (hf : Tryz.prog.funcs[g]? = some fn) (hb : fn.body = some c) (hn : (fn.name == "runtime.NumGoroutine") = false) : Ent Tryz.prog g := ⟨fn, c, hf, hb, hn⟩
set_option maxHeartbeats 2000000 in
set_option maxRecDepth 100000 in
theorem same_ok (a b : S) (ca cb : List Value) (W : World) (ha : SIn W a ca) (hb : SIn W b cb) :
    Calls Tryz.prog 22 #[.agg ca.toArray, .agg cb.toArray] W fun r W' => r = .returned (.bool (sameSB sameE a b)) ∧ Below W.heap.size W W' := by
  obtain ⟨ta, vkc, vcl, vrw, vst, wh, vit, vfr, vgr, hv, vor, rfl, ia⟩ := ha
  obtain ⟨ta', vkc', vcl', vrw', vst', wh', vit', vfr', vgr', hv', vor', rfl, ib⟩ := hb
  have C1 := hide fun W' (hb : Below W.heap.size W W') => hide (sameTable_ok a.tab b.tab ta ta' W' (ia.tab.sub (.below hb)) (ib.tab.sub (.below hb)))
  have C2 := hide fun W' (hb : Below W.heap.size W W') => hide (same_Kc hb _ _ _ _ _ _ ia.kc ib.kc)
  have C3 := hide fun W' (hb : Below W.heap.size W W') => hide (equal_string (ia.cl.sub (.below hb)) (ib.cl.sub (.below hb)))
  have C4 := hide fun W' (hb : Below W.heap.size W W') => hide (same_Rw hb _ _ _ _ _ _ ia.rw ib.rw)
  have C5 := hide fun W' (hb : Below W.heap.size W W') => hide (same_rowSt hb _ _ _ _ _ _ ia.st ib.st)
  have C6 := hide fun W' (hb : Below W.heap.size W W') => hide (same_rowIt hb _ _ _ _ _ _ ia.it ib.it)
  have C7 := hide fun W' (hb : Below W.heap.size W W') => hide (same_rowSo hb _ _ _ _ _ _ ia.fr ib.fr)
  have C8 := hide fun W' (hb : Below W.heap.size W W') => hide (same_rowOd hb _ _ _ _ _ _ ia.od ib.od)
  have C9 := hide fun W' (hb : Below W.heap.size W W') => hide (sameExpr a.wh b.wh wh wh' W' (ia.wh.sub (.below hb)) (ib.wh.sub (.below hb)))
  have C10 := hide fun W' (hb : Below W.heap.size W W') => hide (same_Gr hb _ _ _ _ _ _ ia.gr ib.gr)
  have C11 := hide fun W' (hb : Below W.heap.size W W') => hide (sameExpr a.hv b.hv hv hv' W' (ia.hv.sub (.below hb)) (ib.hv.sub (.below hb)))
  obtain ⟨tA, tn, tc, tB, tm, td, rfl⟩ := ia.tab.form
  obtain ⟨A1, c1, rfl⟩ := ia.kc.form
  obtain ⟨A2, c2, rfl⟩ := ia.cl.form
  obtain ⟨A3, c3, rfl⟩ := ia.rw.form
  obtain ⟨A4, c4, rfl⟩ := ia.st.form
  obtain ⟨A5, c5, rfl⟩ := ia.it.form
  obtain ⟨A6, c6, rfl⟩ := ia.fr.form
  obtain ⟨A7, c7, rfl⟩ := ia.gr.form
  obtain ⟨A8, c8, rfl⟩ := ia.od.form
  obtain ⟨wk, wo, wvk, wvn, wvt, wtb, wnm, wA, wn, wc, wpl, wty, rfl⟩ := ia.wh.form
  obtain ⟨hk, ho, hvk, hvn, hvt, htb, hnm, hA, hn, hc, hpl, hty, rfl⟩ := ia.hv.form
  obtain ⟨tA', tn', tc', tB', tm', td', rfl⟩ := ib.tab.form
  obtain ⟨A1', c1', rfl⟩ := ib.kc.form
  obtain ⟨A2', c2', rfl⟩ := ib.cl.form
  obtain ⟨A3', c3', rfl⟩ := ib.rw.form
  obtain ⟨A4', c4', rfl⟩ := ib.st.form
  obtain ⟨A5', c5', rfl⟩ := ib.it.form
  obtain ⟨A6', c6', rfl⟩ := ib.fr.form
  obtain ⟨A7', c7', rfl⟩ := ib.gr.form
  obtain ⟨A8', c8', rfl⟩ := ib.od.form
  obtain ⟨wk', wo', wvk', wvn', wvt', wtb', wnm', wA', wn', wc', wpl', wty', rfl⟩ := ib.wh.form
  obtain ⟨hk', ho', hvk', hvn', hvt', htb', hnm', hA', hn', hc', hpl', hty', rfl⟩ := ib.hv.form
  clear ia ib
  unfold sameSB
  generalize sameTa a.tab b.tab = z1 at C1 ⊢
  generalize eqN a.nkc b.nkc (fun i => sameNa (a.kc i) (b.kc i)) = z2 at C2 ⊢
  unfold sameNa
  generalize eqN a.cl.n b.cl.n (fun i => strB (a.cl.f i) (b.cl.f i)) = z3 at C3 ⊢
  generalize eqN a.nrw b.nrw (fun i => sameEs sameE (a.rw i) (b.rw i)) = z4 at C4 ⊢
  generalize eqN a.nst b.nst (fun i => sameSt sameE (a.st i) (b.st i)) = z5 at C5 ⊢
  generalize eqN a.nit b.nit (fun i => sameIt sameE (a.it i) (b.it i)) = z6 at C6 ⊢
  generalize eqN a.nfr b.nfr (fun i => sameSo sameE (a.fr i) (b.fr i)) = z7 at C7 ⊢
  generalize eqN a.nor b.nor (fun i => sameOd sameE (a.od i) (b.od i)) = z8 at C8 ⊢
  generalize sameE a.wh b.wh = z9 at C9 ⊢
  unfold sameEs
  generalize eqN a.gr.n b.gr.n (fun i => sameE (a.gr.f i) (b.gr.f i)) = z10 at C10 ⊢
  generalize sameE a.hv b.hv = z11 at C11 ⊢
  unfold strB
  generalize h0 : (a.kind == b.kind) = b0
  generalize h4 : (a.nm.toList == b.nm.toList) = b4
  generalize h5 : (a.ix.toList == b.ix.toList) = b5
  generalize h6 : (a.un == b.un) = b6
  generalize h17 : (a.di == b.di) = b17
  generalize h18 : (a.li == b.li) = b18
  have F0 := Said.intEq (P := Tryz.prog) (N := W.heap.size) (W := W) (t := 3) (k := .i64) h0
  have F1 := Said.of (P := Tryz.prog) (N := W.heap.size) (W := W) Tryz.func78 rfl (by kernel_rfl) fun w hb => unhide ((unhide C1) w hb)
  have F2 := Said.of (P := Tryz.prog) (N := W.heap.size) (W := W) Tryz.func79 rfl (by kernel_rfl) fun w hb => unhide ((unhide C2) w hb)
  have F3 := Said.strEq (P := Tryz.prog) (N := W.heap.size) (W := W) (t := 9) h4
  have F4 := Said.strEq (P := Tryz.prog) (N := W.heap.size) (W := W) (t := 9) h5
  have F5 := Said.boolEq (P := Tryz.prog) (N := W.heap.size) (W := W) (t := 4) Tryz.underlying4 h6
  have F6 := Said.of (P := Tryz.prog) (N := W.heap.size) (W := W) Tryz.func80 rfl (by kernel_rfl) fun w hb => unhide ((unhide C3) w hb)
  have F7 := Said.of (P := Tryz.prog) (N := W.heap.size) (W := W) Tryz.func81 rfl (by kernel_rfl) fun w hb => unhide ((unhide C4) w hb)
  have F8 := Said.of (P := Tryz.prog) (N := W.heap.size) (W := W) Tryz.func85 rfl (by kernel_rfl) fun w hb => unhide ((unhide C5) w hb)
  have F9 := Said.of (P := Tryz.prog) (N := W.heap.size) (W := W) Tryz.func87 rfl (by kernel_rfl) fun w hb => unhide ((unhide C6) w hb)
  have F10 := Said.of (P := Tryz.prog) (N := W.heap.size) (W := W) Tryz.func89 rfl (by kernel_rfl) fun w hb => unhide ((unhide C7) w hb)
  have F11 := Said.of (P := Tryz.prog) (N := W.heap.size) (W := W) Tryz.func91 rfl (by kernel_rfl) fun w hb => unhide ((unhide C8) w hb)
  have F12 := Said.of (P := Tryz.prog) (N := W.heap.size) (W := W) Tryz.func84 rfl (by kernel_rfl) fun w hb => unhide ((unhide C9) w hb)
  have F13 := Said.of (P := Tryz.prog) (N := W.heap.size) (W := W) Tryz.func83 rfl (by kernel_rfl) fun w hb => unhide ((unhide C10) w hb)
  have F14 := Said.of (P := Tryz.prog) (N := W.heap.size) (W := W) Tryz.func84 rfl (by kernel_rfl) fun w hb => unhide ((unhide C11) w hb)
  have F15 := Said.boolEq (P := Tryz.prog) (N := W.heap.size) (W := W) (t := 4) Tryz.underlying4 h17
  have F16 := Said.intEq (P := Tryz.prog) (N := W.heap.size) (W := W) (t := 2) (k := .i64) h18
  clear C1 C2 C3 C4 C5 C6 C7 C8 C9 C10 C11
  cases b0
  · exact calls_rc Tryz.func22 rfl (by kernel_rfl) (okC F0 okN) (by as_aux_lemma => kernel_rfl)
  cases z1
  · exact calls_rc Tryz.func22 rfl (by kernel_rfl) (okC F0 (okC F1 okN)) (by as_aux_lemma => kernel_rfl)
  cases z2
  · exact calls_rc Tryz.func22 rfl (by kernel_rfl) (okC F0 (okC F1 (okC F2 okN))) (by as_aux_lemma => kernel_rfl)
  cases b4
  · exact calls_rc Tryz.func22 rfl (by kernel_rfl) (okC F0 (okC F1 (okC F2 (okC F3 okN)))) (by as_aux_lemma => kernel_rfl)
  cases b5
  · exact calls_rc Tryz.func22 rfl (by kernel_rfl) (okC F0 (okC F1 (okC F2 (okC F3 (okC F4 okN))))) (by as_aux_lemma => kernel_rfl)
  cases b6
  · exact calls_rc Tryz.func22 rfl (by kernel_rfl) (okC F0 (okC F1 (okC F2 (okC F3 (okC F4 (okC F5 okN)))))) (by as_aux_lemma => kernel_rfl)
  cases z3
  · exact calls_rc Tryz.func22 rfl (by kernel_rfl) (okC F0 (okC F1 (okC F2 (okC F3 (okC F4 (okC F5 (okC F6 okN))))))) (by as_aux_lemma => kernel_rfl)
  cases z4
  · exact calls_rc Tryz.func22 rfl (by kernel_rfl) (okC F0 (okC F1 (okC F2 (okC F3 (okC F4 (okC F5 (okC F6 (okC F7 okN)))))))) (by as_aux_lemma => kernel_rfl)
  cases z5
  · exact calls_rc Tryz.func22 rfl (by kernel_rfl) (okC F0 (okC F1 (okC F2 (okC F3 (okC F4 (okC F5 (okC F6 (okC F7 (okC F8 okN))))))))) (by as_aux_lemma => kernel_rfl)
  cases z6
  · exact calls_rc Tryz.func22 rfl (by kernel_rfl) (okC F0 (okC F1 (okC F2 (okC F3 (okC F4 (okC F5 (okC F6 (okC F7 (okC F8 (okC F9 okN)))))))))) (by as_aux_lemma => kernel_rfl)
  cases z7
  · exact calls_rc Tryz.func22 rfl (by kernel_rfl) (okC F0 (okC F1 (okC F2 (okC F3 (okC F4 (okC F5 (okC F6 (okC F7 (okC F8 (okC F9 (okC F10 okN))))))))))) (by as_aux_lemma => kernel_rfl)
  cases z8
  · exact calls_rc Tryz.func22 rfl (by kernel_rfl) (okC F0 (okC F1 (okC F2 (okC F3 (okC F4 (okC F5 (okC F6 (okC F7 (okC F8 (okC F9 (okC F10 (okC F11 okN)))))))))))) (by as_aux_lemma => kernel_rfl)
  cases z9
  · exact calls_rc Tryz.func22 rfl (by kernel_rfl) (okC F0 (okC F1 (okC F2 (okC F3 (okC F4 (okC F5 (okC F6 (okC F7 (okC F8 (okC F9 (okC F10 (okC F11 (okC F12 okN))))))))))))) (by as_aux_lemma => kernel_rfl)
  cases z10
  · exact calls_rc Tryz.func22 rfl (by kernel_rfl) (okC F0 (okC F1 (okC F2 (okC F3 (okC F4 (okC F5 (okC F6 (okC F7 (okC F8 (okC F9 (okC F10 (okC F11 (okC F12 (okC F13 okN)))))))))))))) (by as_aux_lemma => kernel_rfl)
  cases z11
  · exact calls_rc Tryz.func22 rfl (by kernel_rfl) (okC F0 (okC F1 (okC F2 (okC F3 (okC F4 (okC F5 (okC F6 (okC F7 (okC F8 (okC F9 (okC F10 (okC F11 (okC F12 (okC F13 (okC F14 okN))))))))))))))) (by as_aux_lemma => kernel_rfl)
  cases b17
  · exact calls_rc Tryz.func22 rfl (by kernel_rfl) (okC F0 (okC F1 (okC F2 (okC F3 (okC F4 (okC F5 (okC F6 (okC F7 (okC F8 (okC F9 (okC F10 (okC F11 (okC F12 (okC F13 (okC F14 (okC F15 okN)))))))))))))))) (by as_aux_lemma => kernel_rfl)
  cases b18
  · exact calls_rc Tryz.func22 rfl (by kernel_rfl) (okC F0 (okC F1 (okC F2 (okC F3 (okC F4 (okC F5 (okC F6 (okC F7 (okC F8 (okC F9 (okC F10 (okC F11 (okC F12 (okC F13 (okC F14 (okC F15 (okC F16 okN))))))))))))))))) (by as_aux_lemma => kernel_rfl)
  exact calls_rc Tryz.func22 rfl (by kernel_rfl) (okC F0 (okC F1 (okC F2 (okC F3 (okC F4 (okC F5 (okC F6 (okC F7 (okC F8 (okC F9 (okC F10 (okC F11 (okC F12 (okC F13 (okC F14 (okC F15 (okC F16 okN))))))))))))))))) (by as_aux_lemma => kernel_rfl)
end Go.Proofs.YtddedijencleeaaGreatDoor
