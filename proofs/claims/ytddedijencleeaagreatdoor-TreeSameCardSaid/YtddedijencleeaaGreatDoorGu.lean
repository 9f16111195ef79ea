/- tree.Bare: contract. -/
import Derived.Test.YtddedijencleeaaGreatDoorRfA
import Derived.Test.YtddedijencleeaaGreatDoorGiA
import Derived.Test.YtddedijencleeaaGreatDoorGf
import Derived.Test.YtddedijencleeaaGreatDoorGr
set_option linter.all false
namespace Go.Proofs.YtddedijencleeaaGreatDoor
open Go.RowKit Go.Lib RC

noncomputable abbrev cBa : Code := bodyOf Tryz.f20
theorem SlF.one {W : World} {size bytes n : Nat} {v : Value} {P : Nat → List Value → Prop} (h : SlF W size bytes n v P) : v.oneCell' = true := by
  obtain ⟨A, c, rfl, _⟩ := h
  rfl
theorem EIn.ones {W : World} {e : E} {cs : List Value} (h : EIn W e cs) : cs.length = 10 ∧ ∀ v ∈ cs, v.oneCell' = true := ⟨h.len, fun v hv => all_mem (EIn.one h) v hv⟩
def pB1 (a : S) : Po := po1 (fun w u => SlF w 3 32 a.tab.nc u (fun i ds => CoIn (a.tab.cols i) ds)) (fun W1 W2 u hs h => h.sub hs)
def pB2 (a : S) : Po := po1 (fun w u => SlF w 4 48 a.tab.nk u (fun i ds => KeIn w (a.tab.keys i) ds)) (fun W1 W2 u hs h => h.both hs fun _ _ _ h => KeIn.sub hs h)
def pB3 (a : S) : Po := po1 (fun w u => SlF w 1 24 a.nkc u (fun i ds => ∃ v, ds = [v] ∧ NsIn w (a.kc i).n (a.kc i).f v)) (fun W1 W2 u hs h => h.both hs fun _ _ _ ⟨v, h1, h2⟩ => ⟨v, h1, h2.sub hs⟩)
def pB4 (a : S) : Po := po1 (fun w u => NsIn w a.cl.n a.cl.f u) (fun W1 W2 u hs h => h.sub hs)
def pB5 (a : S) : Po := po1 (fun w u => SlF w 1 24 a.nrw u (fun i ds => ∃ v, ds = [v] ∧ EsIn w (bareEs (a.rw i)).n (bareEs (a.rw i)).f v)) (fun W1 W2 u hs h => h.both hs fun _ _ _ ⟨v, h1, h2⟩ => ⟨v, h1, h2.sub hs⟩)
def pB6 (a : S) : Po := po1 (fun w u => SlF w 11 136 a.nst u (fun i ds => StIn w { a.st i with e := bareE (a.st i).e } ds)) (fun W1 W2 u hs h => h.both hs fun _ _ _ h => StIn.sub hs h)
def pB7 (a : S) : Po := po1 (fun w u => SlF w 12 144 a.nit u (fun i ds => ItIn w { a.it i with e := bareE (a.it i).e } ds)) (fun W1 W2 u hs h => h.both hs fun _ _ _ h => ItIn.sub hs h)
def pB8 (a : S) : Po := po1 (fun w u => SlF w 13 160 a.nfr u (fun i ds => SoIn w { a.fr i with e := bareE (a.fr i).e } ds)) (fun W1 W2 u hs h => h.both hs fun _ _ _ h => SoIn.sub hs h)
def pB9 (a : S) : Po := po1 (fun w u => SlF w 11 128 a.nor u (fun i ds => OdIn w { a.od i with e := bareE (a.od i).e } ds)) (fun W1 W2 u hs h => h.both hs fun _ _ _ h => OdIn.sub hs h)
def pB10 (a : S) : Po := poL (fun w ds => EIn w (bareE a.wh) ds) (fun W1 W2 u hs h => EIn.sub hs h)
def pB11 (a : S) : Po := po1 (fun w u => EsIn w (bareEs a.gr).n (bareEs a.gr).f u) (fun W1 W2 u hs h => h.sub hs)
def pB12 (a : S) : Po := poL (fun w ds => EIn w (bareE a.hv) ds) (fun W1 W2 u hs h => EIn.sub hs h)
set_option maxHeartbeats 4000000 in
set_option maxRecDepth 100000 in
theorem treeBare_ok (a : S) (ca : List Value) (W : World) (ha : SIn W a ca) :
    Calls Tryz.prog 20 #[.agg ca.toArray] W fun r W' => ∃ ds, r = .returned (.agg ds.toArray) ∧ SIn (World.only W' fun b => W.heap.size ≤ b) (bareS a) ds ∧ Below W.heap.size W W' := by
  obtain ⟨ta, vkc, vcl, vrw, vst, wh, vit, vfr, vgr, hv, vor, rfl, ia⟩ := ha
  have wf := ia.wf
  have wt := ia.tab.1
  obtain ⟨tA, tc, tB, td, rfl, t1, t2⟩ := ia.tab.form'
  have s1 := ia.kc
  obtain ⟨A1, c1, rfl⟩ := ia.kc.form
  have s2 := ia.cl
  obtain ⟨A2, c2, rfl⟩ := ia.cl.form
  have s3 := ia.rw
  obtain ⟨A3, c3, rfl⟩ := ia.rw.form
  have s4 := ia.st
  obtain ⟨A4, c4, rfl⟩ := ia.st.form
  have s5 := ia.it
  obtain ⟨A5, c5, rfl⟩ := ia.it.form
  have s6 := ia.fr
  obtain ⟨A6, c6, rfl⟩ := ia.fr.form
  have s7 := ia.gr
  obtain ⟨A7, c7, rfl⟩ := ia.gr.form
  have s8 := ia.od
  obtain ⟨A8, c8, rfl⟩ := ia.od.form
  have sw := ia.wh
  have sh := ia.hv
  obtain ⟨wk, wo, wvk, wvn, wvt, wtb, wnm, wA, wn, wc, wpl, wty, rfl⟩ := ia.wh.form
  obtain ⟨hk, ho, hvk, hvn, hvt, htb, hnm, hA, hn, hc, hpl, hty, rfl⟩ := ia.hv.form
  clear ia
  have G1 : Said.ok Tryz.prog W.heap.size W (.opq 59 [.slice tA a.tab.nc tc] 1 (.x 0 0) (pB1 a)) := Said.one (P := Tryz.prog) (N := W.heap.size) (W := W) (f := 59) (args := [.slice tA a.tab.nc tc]) (q := fun w u => SlF w 3 32 a.tab.nc u (fun i ds => CoIn (a.tab.cols i) ds)) (fun W1 W2 u hs h => h.sub hs) Tryz.func59 rfl (by kernel_rfl) (fun w u h => SlF.one h) (fun w hw => clone_Column (t1.sub (.below hw)))
  have G2 : Said.ok Tryz.prog W.heap.size W (.opq 60 [.slice tB a.tab.nk td, (.func (Fn.func 61) #[] #[])] 1 (.x 0 0) (pB2 a)) := Said.one (P := Tryz.prog) (N := W.heap.size) (W := W) (f := 60) (args := [.slice tB a.tab.nk td, (.func (Fn.func 61) #[] #[])]) (q := fun w u => SlF w 4 48 a.tab.nk u (fun i ds => KeIn w (a.tab.keys i) ds)) (fun W1 W2 u hs h => h.both hs fun _ _ _ h => KeIn.sub hs h) Tryz.func60 rfl (by kernel_rfl) (fun w u h => SlF.one h) (fun w hw => each_Key (Q := fun W1 i cs => KeIn W1 (a.tab.keys i) cs) (entersG Tryz.func61 (by kernel_rfl) rfl) (t2.both (.below hw) fun _ _ _ h => KeIn.sub (.below hw) h) (fun _ _ _ _ hs h => KeIn.sub hs h) (fun W2 hb2 i cs _ h _ => (bare_Ke (a.tab.keys i) cs W2 (KeIn.sub (.below hb2) h)).mono fun e W3 ⟨ds, h1, h2, h3, h4, h5⟩ => ⟨ds, h1, h3, h4, h2, h5⟩))
  have G3 : Said.ok Tryz.prog W.heap.size W (.opq 63 [.slice A1 a.nkc c1, (.func (Fn.func 64) #[] #[])] 1 (.x 0 0) (pB3 a)) := Said.one (P := Tryz.prog) (N := W.heap.size) (W := W) (f := 63) (args := [.slice A1 a.nkc c1, (.func (Fn.func 64) #[] #[])]) (q := fun w u => SlF w 1 24 a.nkc u (fun i ds => ∃ v, ds = [v] ∧ NsIn w (a.kc i).n (a.kc i).f v)) (fun W1 W2 u hs h => h.both hs fun _ _ _ ⟨v, h1, h2⟩ => ⟨v, h1, h2.sub hs⟩) Tryz.func63 rfl (by kernel_rfl) (fun w u h => SlF.one h) (fun w hw => each1_Ns (P := fun i x => NsIn w (a.kc i).n (a.kc i).f x) (Q := fun W1 i ds => ∃ v, ds = [v] ∧ NsIn W1 (a.kc i).n (a.kc i).f v) (entersG Tryz.func64 (by kernel_rfl) rfl) (fun i x h => let ⟨A, c, h⟩ := h.form; ⟨A, _, c, h⟩) (s1.both (.below hw) fun _ _ _ ⟨v, h1, h2⟩ => ⟨v, h1, h2.sub (.below hw)⟩) (fun _ _ _ _ hs ⟨v, h1, h2⟩ => ⟨v, h1, h2.sub hs⟩) (fun W2 hb2 i x _ h => (clone_string (SlF.sub h (.below hb2))).mono fun e W3 ⟨u, h1, h2, h3⟩ => let ⟨A, c, hu⟩ := NsIn.form h2; ⟨A, _, c, hu ▸ h1, ⟨_, hu ▸ rfl, h2⟩, h3⟩))
  have G4 : Said.ok Tryz.prog W.heap.size W (.opq 64 [.slice A2 a.cl.n c2] 1 (.x 0 0) (pB4 a)) := Said.one (P := Tryz.prog) (N := W.heap.size) (W := W) (f := 64) (args := [.slice A2 a.cl.n c2]) (q := fun w u => NsIn w a.cl.n a.cl.f u) (fun W1 W2 u hs h => h.sub hs) Tryz.func64 rfl (by kernel_rfl) (fun w u h => SlF.one h) (fun w hw => clone_string (SlF.sub s2 (.below hw)))
  have G5 : Said.ok Tryz.prog W.heap.size W (.opq 65 [.slice A3 a.nrw c3, (.func (Fn.func 66) #[] #[])] 1 (.x 0 0) (pB5 a)) := Said.one (P := Tryz.prog) (N := W.heap.size) (W := W) (f := 65) (args := [.slice A3 a.nrw c3, (.func (Fn.func 66) #[] #[])]) (q := fun w u => SlF w 1 24 a.nrw u (fun i ds => ∃ v, ds = [v] ∧ EsIn w (bareEs (a.rw i)).n (bareEs (a.rw i)).f v)) (fun W1 W2 u hs h => h.both hs fun _ _ _ ⟨v, h1, h2⟩ => ⟨v, h1, h2.sub hs⟩) Tryz.func65 rfl (by kernel_rfl) (fun w u h => SlF.one h) (fun w hw => each1_Es (P := fun i x => EsIn w (a.rw i).n (a.rw i).f x) (Q := fun W1 i ds => ∃ v, ds = [v] ∧ EsIn W1 (bareEs (a.rw i)).n (bareEs (a.rw i)).f v) (entersG Tryz.func66 (by kernel_rfl) rfl) (fun i x h => let ⟨A, c, h⟩ := h.form; ⟨A, _, c, h⟩) (s3.both (.below hw) fun _ _ _ ⟨v, h1, h2⟩ => ⟨v, h1, h2.sub (.below hw)⟩) (fun _ _ _ _ hs ⟨v, h1, h2⟩ => ⟨v, h1, h2.sub hs⟩) (fun W2 hb2 i x _ h => (bare_Es (a.rw i) x W2 (h.sub (.below hb2))).mono fun e W3 ⟨A, n, c, h1, h2, h3⟩ => ⟨A, n, c, h1, ⟨_, rfl, h2⟩, h3⟩))
  have G6 : Said.ok Tryz.prog W.heap.size W (.opq 69 [.slice A4 a.nst c4, (.func (Fn.func 70) #[] #[])] 1 (.x 0 0) (pB6 a)) := Said.one (P := Tryz.prog) (N := W.heap.size) (W := W) (f := 69) (args := [.slice A4 a.nst c4, (.func (Fn.func 70) #[] #[])]) (q := fun w u => SlF w 11 136 a.nst u (fun i ds => StIn w { a.st i with e := bareE (a.st i).e } ds)) (fun W1 W2 u hs h => h.both hs fun _ _ _ h => StIn.sub hs h) Tryz.func69 rfl (by kernel_rfl) (fun w u h => SlF.one h) (fun w hw => each_Set (Q := fun W1 i cs => StIn W1 { a.st i with e := bareE (a.st i).e } cs) (entersG Tryz.func70 (by kernel_rfl) rfl) (s4.both (.below hw) fun _ _ _ h => StIn.sub (.below hw) h) (fun _ _ _ _ hs h => StIn.sub hs h) (fun W2 hb2 i cs _ h _ => (bare_St (a.st i) cs W2 (StIn.sub (.below hb2) h)).mono fun e W3 ⟨ds, h1, h2, h3, h4, h5⟩ => ⟨ds, h1, h3, h4, h2, h5⟩))
  have G7 : Said.ok Tryz.prog W.heap.size W (.opq 71 [.slice A5 a.nit c5, (.func (Fn.func 72) #[] #[])] 1 (.x 0 0) (pB7 a)) := Said.one (P := Tryz.prog) (N := W.heap.size) (W := W) (f := 71) (args := [.slice A5 a.nit c5, (.func (Fn.func 72) #[] #[])]) (q := fun w u => SlF w 12 144 a.nit u (fun i ds => ItIn w { a.it i with e := bareE (a.it i).e } ds)) (fun W1 W2 u hs h => h.both hs fun _ _ _ h => ItIn.sub hs h) Tryz.func71 rfl (by kernel_rfl) (fun w u h => SlF.one h) (fun w hw => each_Item (Q := fun W1 i cs => ItIn W1 { a.it i with e := bareE (a.it i).e } cs) (entersG Tryz.func72 (by kernel_rfl) rfl) (s5.both (.below hw) fun _ _ _ h => ItIn.sub (.below hw) h) (fun _ _ _ _ hs h => ItIn.sub hs h) (fun W2 hb2 i cs _ h _ => (bare_It (a.it i) cs W2 (ItIn.sub (.below hb2) h)).mono fun e W3 ⟨ds, h1, h2, h3, h4, h5⟩ => ⟨ds, h1, h3, h4, h2, h5⟩))
  have G8 : Said.ok Tryz.prog W.heap.size W (.opq 73 [.slice A6 a.nfr c6, (.func (Fn.func 74) #[] #[])] 1 (.x 0 0) (pB8 a)) := Said.one (P := Tryz.prog) (N := W.heap.size) (W := W) (f := 73) (args := [.slice A6 a.nfr c6, (.func (Fn.func 74) #[] #[])]) (q := fun w u => SlF w 13 160 a.nfr u (fun i ds => SoIn w { a.fr i with e := bareE (a.fr i).e } ds)) (fun W1 W2 u hs h => h.both hs fun _ _ _ h => SoIn.sub hs h) Tryz.func73 rfl (by kernel_rfl) (fun w u h => SlF.one h) (fun w hw => each_Source (Q := fun W1 i cs => SoIn W1 { a.fr i with e := bareE (a.fr i).e } cs) (entersG Tryz.func74 (by kernel_rfl) rfl) (s6.both (.below hw) fun _ _ _ h => SoIn.sub (.below hw) h) (fun _ _ _ _ hs h => SoIn.sub hs h) (fun W2 hb2 i cs _ h _ => (bare_So (a.fr i) cs W2 (SoIn.sub (.below hb2) h)).mono fun e W3 ⟨ds, h1, h2, h3, h4, h5⟩ => ⟨ds, h1, h3, h4, h2, h5⟩))
  have G9 : Said.ok Tryz.prog W.heap.size W (.opq 75 [.slice A8 a.nor c8, (.func (Fn.func 76) #[] #[])] 1 (.x 0 0) (pB9 a)) := Said.one (P := Tryz.prog) (N := W.heap.size) (W := W) (f := 75) (args := [.slice A8 a.nor c8, (.func (Fn.func 76) #[] #[])]) (q := fun w u => SlF w 11 128 a.nor u (fun i ds => OdIn w { a.od i with e := bareE (a.od i).e } ds)) (fun W1 W2 u hs h => h.both hs fun _ _ _ h => OdIn.sub hs h) Tryz.func75 rfl (by kernel_rfl) (fun w u h => SlF.one h) (fun w hw => each_Order (Q := fun W1 i cs => OdIn W1 { a.od i with e := bareE (a.od i).e } cs) (entersG Tryz.func76 (by kernel_rfl) rfl) (s8.both (.below hw) fun _ _ _ h => OdIn.sub (.below hw) h) (fun _ _ _ _ hs h => OdIn.sub hs h) (fun W2 hb2 i cs _ h _ => (bare_Od (a.od i) cs W2 (OdIn.sub (.below hb2) h)).mono fun e W3 ⟨ds, h1, h2, h3, h4, h5⟩ => ⟨ds, h1, h3, h4, h2, h5⟩))
  have G10 := Said.cells (P := Tryz.prog) (N := W.heap.size) (W := W) (f := 68) (args := [.agg [.int .i64 wk, .int .i64 wo, .int .i64 wvk, .int .i64 wvn, .string wvt, .string wtb, .string wnm, .slice wA wn wc, .int .i64 wpl, .int .i64 wty].toArray]) (m := 10) (q := fun w ds => EIn w (bareE a.wh) ds) (fun W1 W2 u hs h => EIn.sub hs h) Tryz.func68 rfl (by kernel_rfl) (fun w ds h => EIn.ones h) (fun w hw => bare_ok a.wh _ w (EIn.sub (.below hw) sw))
  have G11 : Said.ok Tryz.prog W.heap.size W (.opq 67 [.slice A7 a.gr.n c7, (.func (Fn.func 68) #[] #[])] 1 (.x 0 0) (pB11 a)) := Said.one (P := Tryz.prog) (N := W.heap.size) (W := W) (f := 67) (args := [.slice A7 a.gr.n c7, (.func (Fn.func 68) #[] #[])]) (q := fun w u => EsIn w (bareEs a.gr).n (bareEs a.gr).f u) (fun W1 W2 u hs h => h.sub hs) Tryz.func67 rfl (by kernel_rfl) (fun w u h => SlF.one h) (fun w hw => each_Expr (Q := fun W1 i cs => EIn W1 (bareE (a.gr.f i)) cs) (entersG Tryz.func68 (by kernel_rfl) rfl) (SlF.both s7 (.below hw) fun _ _ _ h => EIn.sub (.below hw) h) (fun _ _ _ _ hs h => EIn.sub hs h) (fun W2 hb2 i cs _ h hl => (bare_ok (a.gr.f i) cs W2 (EIn.sub (.below hb2) h)).mono fun e W3 ⟨ds, h1, h2, h3⟩ => ⟨ds, h1, h2.len, EIn.one h2, h2, h3⟩))
  have G12 := Said.cells (P := Tryz.prog) (N := W.heap.size) (W := W) (f := 68) (args := [.agg [.int .i64 hk, .int .i64 ho, .int .i64 hvk, .int .i64 hvn, .string hvt, .string htb, .string hnm, .slice hA hn hc, .int .i64 hpl, .int .i64 hty].toArray]) (m := 10) (q := fun w ds => EIn w (bareE a.hv) ds) (fun W1 W2 u hs h => EIn.sub hs h) Tryz.func68 rfl (by kernel_rfl) (fun w ds h => EIn.ones h) (fun w hw => bare_ok a.hv _ w (EIn.sub (.below hw) sh))
  refine calls_rd (c := cBa) Tryz.func20 rfl (by kernel_rfl) fun a0 hst => ?_
  refine goX [.box (.v (.int .i64 a.kind) :: .v (.string a.tab.nm) :: .x 2 0 :: .x 3 0 :: .x 4 0 :: .v (.string a.nm) :: .v (.string a.ix) :: .v (.bool a.un) :: .x 5 0 :: .x 6 0 :: .x 7 0 :: (xsN 11 10 ++ (.v (.bool a.di) :: .x 8 0 :: .x 9 0 :: .x 12 0 :: (xsN 13 10 ++ [.x 10 0, .v (.int .i64 a.li)])))), .box (.v (.int .i64 a.kind) :: .v (.string a.tab.nm) :: .x 2 0 :: .x 3 0 :: .x 4 0 :: .v (.string a.nm) :: .v (.string a.ix) :: .v (.bool a.un) :: .x 5 0 :: .x 6 0 :: .x 7 0 :: (xsN 11 10 ++ (.v (.bool a.di) :: .x 8 0 :: .x 9 0 :: .x 12 0 :: (xsN 13 10 ++ [.x 10 0, .v (.int .i64 a.li)])))), .unk 1 (pB1 a), .unk 1 (pB2 a), .unk 1 (pB3 a), .unk 1 (pB4 a), .unk 1 (pB5 a), .unk 1 (pB6 a), .unk 1 (pB7 a), .unk 1 (pB8 a), .unk 1 (pB9 a), .unk 10 (poL (fun w ds => EIn w (bareE a.wh) ds) (fun W1 W2 u hs h => EIn.sub hs h)), .unk 1 (pB11 a), .unk 10 (poL (fun w ds => EIn w (bareE a.hv) ds) (fun W1 W2 u hs h => EIn.sub hs h))] hst (okC G1 (okC G2 (okC G3 (okC G4 (okC G5 (okC G6 (okC G7 (okC G8 (okC G9 (okC G10 (okC G11 (okC G12 okN)))))))))))) (vs := [.agg (.v (.int .i64 a.kind) :: .v (.string a.tab.nm) :: .x 2 0 :: .x 3 0 :: .x 4 0 :: .v (.string a.nm) :: .v (.string a.ix) :: .v (.bool a.un) :: .x 5 0 :: .x 6 0 :: .x 7 0 :: (xsN 11 10 ++ (.v (.bool a.di) :: .x 8 0 :: .x 9 0 :: .x 12 0 :: (xsN 13 10 ++ [.x 10 0, .v (.int .i64 a.li)]))))]) (by as_aux_lemma => kernel_rfl) fun G w hr _ => ?_
  obtain ⟨v2, u2, q2⟩ := Rp.one hr (i := 2) rfl
  obtain ⟨v3, u3, q3⟩ := Rp.one hr (i := 3) rfl
  obtain ⟨v4, u4, q4⟩ := Rp.one hr (i := 4) rfl
  obtain ⟨v5, u5, q5⟩ := Rp.one hr (i := 5) rfl
  obtain ⟨v6, u6, q6⟩ := Rp.one hr (i := 6) rfl
  obtain ⟨v7, u7, q7⟩ := Rp.one hr (i := 7) rfl
  obtain ⟨v8, u8, q8⟩ := Rp.one hr (i := 8) rfl
  obtain ⟨v9, u9, q9⟩ := Rp.one hr (i := 9) rfl
  obtain ⟨v10, u10, q10⟩ := Rp.one hr (i := 10) rfl
  obtain ⟨v11, q11⟩ := Rp.cells hr (i := 11) (m := 10) (q := fun w ds => EIn w (bareE a.wh) ds) (hq := fun W1 W2 u hs h => EIn.sub hs h) rfl
  have u11 : G.u 11 = G.u 11 := rfl
  obtain ⟨v12, u12, q12⟩ := Rp.one hr (i := 12) rfl
  obtain ⟨v13, q13⟩ := Rp.cells hr (i := 13) (m := 10) (q := fun w ds => EIn w (bareE a.hv) ds) (hq := fun W1 W2 u hs h => EIn.sub hs h) rfl
  have u13 : G.u 13 = G.u 13 := rfl
  refine ⟨_, rfl, ⟨[.string a.tab.nm, v2, v3], v4, v5, v6, v7, G.u 11, v8, v9, v12, G.u 13, v10, ?_, ?_⟩, hr.below⟩
  · simp only [concL, concL_app, xsN_conc rfl v11, xsN_conc rfl v13, RV.conc, u2, u3, u4, u5, u6, u7, u8, u9, u10, u12]
    rfl
  · exact ⟨⟨wf.kind, wf.nm, wf.ix, wf.li⟩, ⟨wt, v2, v3, rfl, q2, q3⟩, q4, q5, q6, q7, q11, q8, q9, q12, q13, q10⟩
end Go.Proofs.YtddedijencleeaaGreatDoor
