/- consistoryref9.Exactly: contract. -/
import Derived.Test.YtddedijencleeaaGreatDoorSm
import Derived.Test.YtddedijencleeaaGreatDoorMSq
import Derived.Test.YtddedijencleeaaGreatDoorMGl
import Derived.Test.YtddedijencleeaaGreatDoorMGo
import Derived.Test.YtddedijencleeaaGreatDoorMGf
import Derived.Test.YtddedijencleeaaGreatDoorGv
set_option linter.all false
namespace Go.Proofs.YtddedijencleeaaGreatDoor
set_option maxRecDepth 100000
set_option maxHeartbeats 4000000
open Tryz
noncomputable section
open Go.RowKit Go.Lib RC

noncomputable abbrev cEx:Code:=Qt f19
theorem sb_kind {r:E→E→Bool} {a b:S} (h:(a.kind==b.kind)=false):Zu r a b=false:=by simp only [Zu,h,Bool.and_false,Bool.false_and]
theorem sb_tab {r:E→E→Bool} {a b:S} (h:(ZQ a.tab b.tab)=false):Zu r a b=false:=by simp only [Zu,h,Bool.and_false,Bool.false_and]
theorem sb_kc {r:E→E→Bool} {a b:S} (h:(eqN a.nkc b.nkc (fun i=>sameNa (a.kc i) (b.kc i)))=false):Zu r a b=false:=by simp only [Zu,h,Bool.and_false,Bool.false_and]
theorem sb_nm {r:E→E→Bool} {a b:S} (h:(QB a.nm b.nm)=false):Zu r a b=false:=by simp only [Zu,h,Bool.and_false,Bool.false_and]
theorem sb_ix {r:E→E→Bool} {a b:S} (h:(QB a.ix b.ix)=false):Zu r a b=false:=by simp only [Zu,h,Bool.and_false,Bool.false_and]
theorem sb_un {r:E→E→Bool} {a b:S} (h:(a.un==b.un)=false):Zu r a b=false:=by simp only [Zu,h,Bool.and_false,Bool.false_and]
theorem sb_cl {r:E→E→Bool} {a b:S} (h:(sameNa a.cl b.cl)=false):Zu r a b=false:=by simp only [Zu,h,Bool.and_false,Bool.false_and]
theorem sb_rw {r:E→E→Bool} {a b:S} (h:(eqN a.nrw b.nrw (fun i=>sameEs r (a.rw i) (b.rw i)))=false):Zu r a b=false:=by simp only [Zu,h,Bool.and_false,Bool.false_and]
theorem sb_st {r:E→E→Bool} {a b:S} (h:(eqN a.nst b.nst (fun i=>sameSt r (a.st i) (b.st i)))=false):Zu r a b=false:=by simp only [Zu,h,Bool.and_false,Bool.false_and]
theorem sb_it {r:E→E→Bool} {a b:S} (h:(eqN a.nit b.nit (fun i=>sameIt r (a.it i) (b.it i)))=false):Zu r a b=false:=by simp only [Zu,h,Bool.and_false,Bool.false_and]
theorem sb_fr {r:E→E→Bool} {a b:S} (h:(eqN a.nfr b.nfr (fun i=>sameSo r (a.fr i) (b.fr i)))=false):Zu r a b=false:=by simp only [Zu,h,Bool.and_false,Bool.false_and]
theorem sb_od {r:E→E→Bool} {a b:S} (h:(eqN a.nor b.nor (fun i=>sameOd r (a.od i) (b.od i)))=false):Zu r a b=false:=by simp only [Zu,h,Bool.and_false,Bool.false_and]
theorem sb_di {r:E→E→Bool} {a b:S} (h:(a.di==b.di)=false):Zu r a b=false:=by simp only [Zu,h,Bool.and_false,Bool.false_and]
theorem sb_li {r:E→E→Bool} {a b:S} (h:(a.li==b.li)=false):Zu r a b=false:=by simp only [Zu,h,Bool.and_false,Bool.false_and]
theorem StIn.len {W:World} {x:St} {cs:List Value} (h:StIn W x cs): ∃ es,cs= .string x.nm::es∧QI W x.e es∧es.length=10:=by
 obtain ⟨_,es,h1,h2⟩:=h
 exact ⟨es,h1,h2,h2.len⟩
abbrev qa1:Value:=(.int .i64 (0:Nat))
abbrev qa2:Nat × RV:=(4,.v (.bool false))
theorem exactly_ok (a b:S) (ca cb:List Value) (W:World) (ha:Ks W a ca) (hb:Ks W b cb) :
 Calls prog 19 #[.agg ca.toArray,.agg cb.toArray] W fun r W'=>r= .returned (.bool (Zu Zf a b))∧Below W.heap.size W W':=by
 obtain ⟨ta,vkc,vcl,vrw,vst,wh,vit,vfr,vgr,hv,vor,rfl,ia⟩:=ha
 obtain ⟨ta',vkc',vcl',vrw',vst',wh',vit',vfr',vgr',hv',vor',rfl,ib⟩:=hb
 obtain ⟨zC1,hC1⟩: ∃ z,(ZQ a.tab b.tab)=z:=⟨_,rfl⟩
 have C1:Sd W (.call 55 [.agg ta.toArray,.agg ta'.toArray] (.bool zC1)):=by
  rw [← hC1]
  exact Qb.of func55 rfl Qd (fun w hw=>ref_sameTable a.tab b.tab ta ta' w (ia.tab.sub (.below hw)) (ib.tab.sub (.below hw)))
 obtain ⟨zC3,hC3⟩: ∃ z,(sameNa a.cl b.cl)=z:=⟨_,rfl⟩
 have C3:Sd W (.call 56 [vcl,vcl'] (.bool zC3)):=by
  rw [← hC3]
  exact Qb.of func56 rfl Qd (fun w hw=>ref_strings (ia.cl.sub (.below hw)) (ib.cl.sub (.below hw)))
 obtain ⟨zC9,hC9⟩: ∃ z,(Zf a.wh b.wh)=z:=⟨_,rfl⟩
 have C9:Sd W (.call 58 [.agg wh.toArray,.agg wh'.toArray] (.bool zC9)):=by
  rw [← hC9]
  exact Qb.of func58 rfl Qd (fun w hw=>alike_ok a.wh b.wh wh wh' w (ia.wh.sub (.below hw)) (ib.wh.sub (.below hw)))
 obtain ⟨zC11,hC11⟩: ∃ z,(Zf a.hv b.hv)=z:=⟨_,rfl⟩
 have C11:Sd W (.call 58 [.agg hv.toArray,.agg hv'.toArray] (.bool zC11)):=by
  rw [← hC11]
  exact Qb.of func58 rfl Qd (fun w hw=>alike_ok a.hv b.hv hv hv' w (ia.hv.sub (.below hw)) (ib.hv.sub (.below hw)))
 obtain ⟨zC10,hC10⟩: ∃ z,(sameEs Zf a.gr b.gr)=z:=⟨_,rfl⟩
 have C10:Sd W (.call 57 [vgr,vgr'] (.bool zC10)):=by
  rw [← hC10]
  exact Qb.of func57 rfl Qd (fun w hw=>alikes_ok (ia.gr.sub (.below hw)) (ib.gr.sub (.below hw)))
 obtain ⟨zT0,hT0⟩: ∃ z,(a.kind != b.kind)=z:=⟨_,rfl⟩
 have T0:=sd W (Qb.intNe (t:=3) (k:=.i64) hT0)
 obtain ⟨zT3,hT3⟩: ∃ z,(!(a.nm.toList==b.nm.toList))=z:=⟨_,rfl⟩
 have T3:=sd W (Qb.strNe (t:=9) hT3)
 obtain ⟨zT4,hT4⟩: ∃ z,(!(a.ix.toList==b.ix.toList))=z:=⟨_,rfl⟩
 have T4:=sd W (Qb.strNe (t:=9) hT4)
 obtain ⟨zT5,hT5⟩: ∃ z,(a.un != b.un)=z:=⟨_,rfl⟩
 have T5:=sd W (Qb.boolNe (t:=4) underlying4 hT5)
 obtain ⟨zT6,hT6⟩: ∃ z,(a.di != b.di)=z:=⟨_,rfl⟩
 have T6:=sd W (Qb.boolNe (t:=4) underlying4 hT6)
 obtain ⟨zT7,hT7⟩: ∃ z,(a.li != b.li)=z:=⟨_,rfl⟩
 have T7:=sd W (Qb.intNe (t:=2) (k:=.i64) hT7)
 obtain ⟨zL0,hL0⟩: ∃ z,((a.nkc:Int) != (b.nkc:Int))=z:=⟨_,rfl⟩
 have L0:=sd W (Qb.intNe (t:=3) (k:=.i64) hL0)
 obtain ⟨zL1,hL1⟩: ∃ z,((a.nrw:Int) != (b.nrw:Int))=z:=⟨_,rfl⟩
 have L1:=sd W (Qb.intNe (t:=3) (k:=.i64) hL1)
 obtain ⟨zL2,hL2⟩: ∃ z,((a.nst:Int) != (b.nst:Int))=z:=⟨_,rfl⟩
 have L2:=sd W (Qb.intNe (t:=3) (k:=.i64) hL2)
 obtain ⟨zL3,hL3⟩: ∃ z,((a.nit:Int) != (b.nit:Int))=z:=⟨_,rfl⟩
 have L3:=sd W (Qb.intNe (t:=3) (k:=.i64) hL3)
 obtain ⟨zL4,hL4⟩: ∃ z,((a.nfr:Int) != (b.nfr:Int))=z:=⟨_,rfl⟩
 have L4:=sd W (Qb.intNe (t:=3) (k:=.i64) hL4)
 obtain ⟨zL5,hL5⟩: ∃ z,((a.nor:Int) != (b.nor:Int))=z:=⟨_,rfl⟩
 have L5:=sd W (Qb.intNe (t:=3) (k:=.i64) hL5)
 obtain ⟨tA,tn,tc,tB,tm,td,rfl⟩:=ia.tab.form
 have s1:=ia.kc
 obtain ⟨A1,c1,rfl⟩:=ia.kc.form
 have s2:=ia.cl
 obtain ⟨A2,c2,rfl⟩:=ia.cl.form
 have s3:=ia.rw
 obtain ⟨A3,c3,rfl⟩:=ia.rw.form
 have s4:=ia.st
 obtain ⟨A4,c4,rfl⟩:=ia.st.form
 have s5:=ia.it
 obtain ⟨A5,c5,rfl⟩:=ia.it.form
 have s6:=ia.fr
 obtain ⟨A6,c6,rfl⟩:=ia.fr.form
 have s7:=ia.gr
 obtain ⟨A7,c7,rfl⟩:=ia.gr.form
 have s8:=ia.od
 obtain ⟨A8,c8,rfl⟩:=ia.od.form
 obtain ⟨wk,wo,wvk,wvn,wvt,wtb,wnm,wA,wn,wc,wpl,wty,rfl⟩:=ia.wh.form
 obtain ⟨hk,ho,hvk,hvn,hvt,htb,hnm,hA,hn,hc,hpl,hty,rfl⟩:=ia.hv.form
 obtain ⟨tA',tn',tc',tB',tm',td',rfl⟩:=ib.tab.form
 have s1':=ib.kc
 obtain ⟨A1',c1',rfl⟩:=ib.kc.form
 have s2':=ib.cl
 obtain ⟨A2',c2',rfl⟩:=ib.cl.form
 have s3':=ib.rw
 obtain ⟨A3',c3',rfl⟩:=ib.rw.form
 have s4':=ib.st
 obtain ⟨A4',c4',rfl⟩:=ib.st.form
 have s5':=ib.it
 obtain ⟨A5',c5',rfl⟩:=ib.it.form
 have s6':=ib.fr
 obtain ⟨A6',c6',rfl⟩:=ib.fr.form
 have s7':=ib.gr
 obtain ⟨A7',c7',rfl⟩:=ib.gr.form
 have s8':=ib.od
 obtain ⟨A8',c8',rfl⟩:=ib.od.form
 obtain ⟨wk',wo',wvk',wvn',wvt',wtb',wnm',wA',wn',wc',wpl',wty',rfl⟩:=ib.wh.form
 obtain ⟨hk',ho',hvk',hvn',hvt',htb',hnm',hA',hn',hc',hpl',hty',rfl⟩:=ib.hv.form
 have e1:=s1.len
 have e3:=s3.len
 have e4:=s4.len
 have e5:=s5.len
 have e6:=s6.len
 have e8:=s8.len
 clear ia ib
 refine Qj (c:=cEx) func19 rfl (by kernel_rfl) fun a0 hst=> ?_
 cases zT0
 rotate_left
 · exact gE hst (Zg T0) [.bool false] fun w' hw=>⟨by rw [sb_kind (by simpa using hT0)];rfl,hw⟩
 cases zC1
 · exact gE hst (Km T0 C1) [.bool false] fun w' hw=>⟨by rw [sb_tab (hC1)];rfl,hw⟩
 cases zT3
 rotate_left
 · exact gE hst (kE3 T0 C1 T3) [.bool false] fun w' hw=>⟨by rw [sb_nm (by simp only [QB];simpa using hT3)];rfl,hw⟩
 cases zT4
 rotate_left
 · exact gE hst (Jf T0 C1 T3 T4) [.bool false] fun w' hw=>⟨by rw [sb_ix (by simp only [QB];simpa using hT4)];rfl,hw⟩
 cases zT5
 rotate_left
 · exact gE hst (kE5 T0 C1 T3 T4 T5) [.bool false] fun w' hw=>⟨by rw [sb_un (by simpa using hT5)];rfl,hw⟩
 cases zC3
 · exact gE hst (Je T0 C1 T3 T4 T5 C3) [.bool false] fun w' hw=>⟨by rw [sb_cl (hC3)];rfl,hw⟩
 cases zT6
 rotate_left
 · exact gE hst (kE7 T0 C1 T3 T4 T5 C3 T6) [.bool false] fun w' hw=>⟨by rw [sb_di (by simpa using hT6)];rfl,hw⟩
 cases zT7
 rotate_left
 · exact gE hst (kE8 T0 C1 T3 T4 T5 C3 T6 T7) [.bool false] fun w' hw=>⟨by rw [sb_li (by simpa using hT7)];rfl,hw⟩
 cases zL0
 rotate_left
 · exact gE hst (kE9 T0 C1 T3 T4 T5 C3 T6 T7 L0) [.bool false] fun w' hw=>⟨by rw [sb_kc (eqN_no (by simp at hL0;omega))];rfl,hw⟩
 cases zL1
 rotate_left
 · exact gE hst (Kr T0 C1 T3 T4 T5 C3 T6 T7 L0 L1) [.bool false] fun w' hw=>⟨by rw [sb_rw (eqN_no (by simp at hL1;omega))];rfl,hw⟩
 cases zL2
 rotate_left
 · exact gE hst (JD T0 C1 T3 T4 T5 C3 T6 T7 L0 L1 L2) [.bool false] fun w' hw=>⟨by rw [sb_st (eqN_no (by simp at hL2;omega))];rfl,hw⟩
 cases zL3
 rotate_left
 · exact gE hst (kE12 T0 C1 T3 T4 T5 C3 T6 T7 L0 L1 L2 L3) [.bool false] fun w' hw=>⟨by rw [sb_it (eqN_no (by simp at hL3;omega))];rfl,hw⟩
 cases zL4
 rotate_left
 · exact gE hst (kE13 T0 C1 T3 T4 T5 C3 T6 T7 L0 L1 L2 L3 L4) [.bool false] fun w' hw=>⟨by rw [sb_fr (eqN_no (by simp at hL4;omega))];rfl,hw⟩
 cases zL5
 rotate_left
 · exact gE hst (kE14 T0 C1 T3 T4 T5 C3 T6 T7 L0 L1 L2 L3 L4 L5) [.bool false] fun w' hw=>⟨by rw [sb_od (eqN_no (by simp at hL5;omega))];rfl,hw⟩
 simp only [bne_eq_false_iff_eq] at hT0 hT5 hT6 hT7 hL0 hL1 hL2 hL3 hL4 hL5
 refine gO cEx (.loop 0) [(5,.v qa1),(2,.p 0 0),(3,.p 1 0),qa2] [bx (sCells a [.string a.tab.nm,.slice tA tn tc,.slice tB tm td] (.slice A1 a.nkc c1) (.slice A2 a.cl.n c2) (.slice A3 a.nrw c3) (.slice A4 a.nst c4) (eL wk wo wvk wvn wvt wtb wnm wA wn wc wpl wty) (.slice A5 a.nit c5) (.slice A6 a.nfr c6) (.slice A7 a.gr.n c7) (eL hk ho hvk hvn hvt htb hnm hA hn hc hpl hty) (.slice A8 a.nor c8)),bx (sCells b [.string b.tab.nm,.slice tA' tn' tc',.slice tB' tm' td'] (.slice A1' b.nkc c1') (.slice A2' b.cl.n c2') (.slice A3' b.nrw c3') (.slice A4' b.nst c4') [.int .i64 wk',.int .i64 wo',.int .i64 wvk',.int .i64 wvn',.string wvt',.string wtb',.string wnm',.slice wA' wn' wc',.int .i64 wpl',.int .i64 wty'] (.slice A5' b.nit c5') (.slice A6' b.nfr c6') (.slice A7' b.gr.n c7') [.int .i64 hk',.int .i64 ho',.int .i64 hvk',.int .i64 hvn',.string hvt',.string htb',.string hnm',.slice hA' hn' hc',.int .i64 hpl',.int .i64 hty'] (.slice A8' b.nor c8'))] hst (kE14 T0 C1 T3 T4 T5 C3 T6 T7 L0 L1 L2 L3 L4 L5) fun g1 a1 w1 hst1 _=> ?_
 clear hst T0 C1 T3 T4 T5 C3 T6 T7 L0 L1 L2 L3 L4 L5 
 refine Kf cEx 0 5 4 3 a.nkc (fun i=>sameNa (a.kc i) (b.kc i)) (.bool false) (by omega) Qv hst1 (fun i hi hq=> ?_) (fun i hi hq=> ?_) Qv rfl Qd (fun i hi hq bs9 g9 a9 w9 hst=>QS hst (vs:=[.v (.bool false)]) Qd ⟨by rw [sb_kc (by rw [show a.nkc=b.nkc by omega] at hi ⊢;exact eqN_at (r:=fun i=>sameNa (a.kc i) (b.kc i)) hi hq)];rfl,hst.rp.below⟩) fun hl0 g2 a2 w2 hstG=> ?_
 · obtain ⟨b1,o1,d1,cs1,q1,l1,l1',p1,r1⟩:=s1.at hi
   obtain ⟨b2,o2,d2,cs2,q2,l2,l2',p2,r2⟩:=s1'.at (i:=i) (by omega)
   cases q1
   cases q2
   have G1:=sd W (Qb.elem (t:=26) (e:=27) (b:=b1) (o:=o1) (n:=a.nkc) (c:=c1) (size:=1) (i:=i) (k:=.i64) underlying26 Qd hi)
   have G2:=sd W (Qb.elem (t:=26) (e:=27) (b:=b2) (o:=o2) (n:=b.nkc) (c:=c1') (size:=1) (i:=i) (k:=.i64) underlying26 Qd (by omega))
   obtain ⟨v1,rfl,x1⟩:=p1
   obtain ⟨v2,rfl,x2⟩:=p2
   have G3:=sd W (Qb.cell (t:=27) Qd (r1 0 _ rfl) l1 Qo)
   have G4:=sd W (Qb.cell (t:=27) Qd (r2 0 _ rfl) l2 Qo)
   have G5:Sd W (.call 56 [v1,v2] (.bool true)):=by
    rw [← hq]
    exact QTGy
   exact Qi31
 · obtain ⟨b1,o1,d1,cs1,q1,l1,l1',p1,r1⟩:=s1.at hi
   obtain ⟨b2,o2,d2,cs2,q2,l2,l2',p2,r2⟩:=s1'.at (i:=i) (by omega)
   cases q1
   cases q2
   have G1:=sd W (Qb.elem (t:=26) (e:=27) (b:=b1) (o:=o1) (n:=a.nkc) (c:=c1) (size:=1) (i:=i) (k:=.i64) underlying26 Qd hi)
   have G2:=sd W (Qb.elem (t:=26) (e:=27) (b:=b2) (o:=o2) (n:=b.nkc) (c:=c1') (size:=1) (i:=i) (k:=.i64) underlying26 Qd (by omega))
   obtain ⟨v1,rfl,x1⟩:=p1
   obtain ⟨v2,rfl,x2⟩:=p2
   have G3:=sd W (Qb.cell (t:=27) Qd (r1 0 _ rfl) l1 Qo)
   have G4:=sd W (Qb.cell (t:=27) Qd (r2 0 _ rfl) l2 Qo)
   have G5:Sd W (.call 56 [v1,v2] (.bool false)):=by
    rw [← hq]
    exact QTGy
   exact Qi31
 refine goK (.loop 2) (k':=Qc cEx (.loop 2)) (e:=.nrm) [(6,.v qa1),(2,.p 0 0),(3,.p 1 0),qa2] hstG Zk (by kernel_rfl) fun g1 a1 w1 hst2 _=> ?_
 clear hst1 hstG
 refine Kf cEx 2 6 4 3 a.nrw (fun i=>sameEs Zf (a.rw i) (b.rw i)) (.bool false) (by omega) Qv hst2 (fun i hi hq=> ?_) (fun i hi hq=> ?_) Qv rfl Qd (fun i hi hq bs9 g9 a9 w9 hst=>QS hst (vs:=[.v (.bool false)]) Qd ⟨by rw [sb_rw (by rw [show a.nrw=b.nrw by omega] at hi ⊢;exact eqN_at (r:=fun i=>sameEs Zf (a.rw i) (b.rw i)) hi hq)];rfl,hst.rp.below⟩) fun hl1 g2 a2 w2 hstG=> ?_
 · obtain ⟨b1,o1,d1,cs1,q1,l1,l1',p1,r1⟩:=s3.at hi
   obtain ⟨b2,o2,d2,cs2,q2,l2,l2',p2,r2⟩:=s3'.at (i:=i) (by omega)
   cases q1
   cases q2
   have G1:=sd W (Qb.elem (t:=28) (e:=32) (b:=b1) (o:=o1) (n:=a.nrw) (c:=c3) (size:=1) (i:=i) (k:=.i64) underlying28 Qd hi)
   have G2:=sd W (Qb.elem (t:=28) (e:=32) (b:=b2) (o:=o2) (n:=b.nrw) (c:=c3') (size:=1) (i:=i) (k:=.i64) underlying28 Qd (by omega))
   obtain ⟨v1,rfl,x1⟩:=p1
   obtain ⟨v2,rfl,x2⟩:=p2
   have G3:=sd W (Qb.cell (t:=32) Qd (r1 0 _ rfl) l1 Qo)
   have G4:=sd W (Qb.cell (t:=32) Qd (r2 0 _ rfl) l2 Qo)
   have G5:Sd W (.call 57 [v1,v2] (.bool true)):=by
    rw [← hq]
    exact QhGQ
   exact Qi31
 · obtain ⟨b1,o1,d1,cs1,q1,l1,l1',p1,r1⟩:=s3.at hi
   obtain ⟨b2,o2,d2,cs2,q2,l2,l2',p2,r2⟩:=s3'.at (i:=i) (by omega)
   cases q1
   cases q2
   have G1:=sd W (Qb.elem (t:=28) (e:=32) (b:=b1) (o:=o1) (n:=a.nrw) (c:=c3) (size:=1) (i:=i) (k:=.i64) underlying28 Qd hi)
   have G2:=sd W (Qb.elem (t:=28) (e:=32) (b:=b2) (o:=o2) (n:=b.nrw) (c:=c3') (size:=1) (i:=i) (k:=.i64) underlying28 Qd (by omega))
   obtain ⟨v1,rfl,x1⟩:=p1
   obtain ⟨v2,rfl,x2⟩:=p2
   have G3:=sd W (Qb.cell (t:=32) Qd (r1 0 _ rfl) l1 Qo)
   have G4:=sd W (Qb.cell (t:=32) Qd (r2 0 _ rfl) l2 Qo)
   have G5:Sd W (.call 57 [v1,v2] (.bool false)):=by
    rw [← hq]
    exact QhGQ
   exact Qi31
 refine goK (.loop 4) (k':=Qc cEx (.loop 4)) (e:=.nrm) [(7,.v qa1),(2,.p 0 0),(3,.p 1 0),qa2] hstG Zk (by kernel_rfl) fun g1 a1 w1 hst3 _=> ?_
 clear hst2 hstG
 refine Kf cEx 4 7 4 3 a.nst (fun i=>sameSt Zf (a.st i) (b.st i)) (.bool false) (by omega) Qv hst3 (fun i hi hq=> ?_) (fun i hi hq=> ?_) Qv rfl Qd (fun i hi hq bs9 g9 a9 w9 hst=>QS hst (vs:=[.v (.bool false)]) Qd ⟨by rw [sb_st (by rw [show a.nst=b.nst by omega] at hi ⊢;exact eqN_at (r:=fun i=>sameSt Zf (a.st i) (b.st i)) hi hq)];rfl,hst.rp.below⟩) fun hl2 g2 a2 w2 hstG=> ?_
 · obtain ⟨b1,o1,d1,cs1,q1,l1,l1',p1,r1⟩:=s4.at hi
   obtain ⟨b2,o2,d2,cs2,q2,l2,l2',p2,r2⟩:=s4'.at (i:=i) (by omega)
   cases q1
   cases q2
   have G1:=sd W (Qb.elem (t:=29) (e:=61) (b:=b1) (o:=o1) (n:=a.nst) (c:=c4) (size:=11) (i:=i) (k:=.i64) underlying29 Qd hi)
   have G2:=sd W (Qb.elem (t:=29) (e:=61) (b:=b2) (o:=o2) (n:=b.nst) (c:=c4') (size:=11) (i:=i) (k:=.i64) underlying29 Qd (by omega))
   obtain ⟨_,es1,rfl,x1⟩:=p1
   obtain ⟨_,es2,rfl,x2⟩:=p2
   have G3:=sd W (Qb.cell (t:=9) Qd (r1 0 _ rfl) l1 Qo)
   have G4:=sd W (Qb.cell (t:=9) Qd (r2 0 _ rfl) l2 Qo)
   have G5:=sd W (Qb.row (t:=34) Qd QyFn (Zm r1) l1 Qo)
   have G6:=sd W (Qb.row (t:=34) Qd QTFl (Zm r2) l2 Qo)
   obtain ⟨w9,y9⟩: ∃ z,(Zf (a.st i).e (b.st i).e)=z:=⟨_,rfl⟩
   obtain ⟨wy0,y0⟩: ∃ z,(!((a.st i).nm.toList==(b.st i).nm.toList))=z:=⟨_,rfl⟩
   have Y0:=sd W (Qb.strNe (t:=9) y0)
   cases w9
   · exfalso;revert hq;simp only [sameSt,QB,y9];simp
   have G9:Sd W (.call 58 [.agg es1.toArray,.agg es2.toArray] (.bool true)):=by
    rw [← y9]
    exact Quo0
   cases wy0
   rotate_left
   · exfalso;revert hq y0;simp only [sameSt,QB];simp +contextual
   exact QdNn
 · obtain ⟨b1,o1,d1,cs1,q1,l1,l1',p1,r1⟩:=s4.at hi
   obtain ⟨b2,o2,d2,cs2,q2,l2,l2',p2,r2⟩:=s4'.at (i:=i) (by omega)
   cases q1
   cases q2
   have G1:=sd W (Qb.elem (t:=29) (e:=61) (b:=b1) (o:=o1) (n:=a.nst) (c:=c4) (size:=11) (i:=i) (k:=.i64) underlying29 Qd hi)
   have G2:=sd W (Qb.elem (t:=29) (e:=61) (b:=b2) (o:=o2) (n:=b.nst) (c:=c4') (size:=11) (i:=i) (k:=.i64) underlying29 Qd (by omega))
   obtain ⟨_,es1,rfl,x1⟩:=p1
   obtain ⟨_,es2,rfl,x2⟩:=p2
   have G3:=sd W (Qb.cell (t:=9) Qd (r1 0 _ rfl) l1 Qo)
   have G4:=sd W (Qb.cell (t:=9) Qd (r2 0 _ rfl) l2 Qo)
   have G5:=sd W (Qb.row (t:=34) Qd QyFn (Zm r1) l1 Qo)
   have G6:=sd W (Qb.row (t:=34) Qd QTFl (Zm r2) l2 Qo)
   obtain ⟨w9,y9⟩: ∃ z,(Zf (a.st i).e (b.st i).e)=z:=⟨_,rfl⟩
   obtain ⟨wy0,y0⟩: ∃ z,(!((a.st i).nm.toList==(b.st i).nm.toList))=z:=⟨_,rfl⟩
   have Y0:=sd W (Qb.strNe (t:=9) y0)
   have G9:Sd W (.call 58 [.agg es1.toArray,.agg es2.toArray] (.bool w9)):=by
    rw [← y9]
    exact Quo0
   cases wy0
   rotate_left
   · exact QaKw
   cases w9
   · exact QdNn
   exfalso;revert hq;simp only [sameSt,QB,y9];simp at y0;simp [*]
 refine goK (.loop 6) (k':=Qc cEx (.loop 6)) (e:=.nrm) [(8,.v qa1),(2,.p 0 0),(3,.p 1 0),qa2] hstG Zk (by kernel_rfl) fun g1 a1 w1 hst4 _=> ?_
 clear hst3 hstG
 refine Kf cEx 6 8 4 3 a.nit (fun i=>sameIt Zf (a.it i) (b.it i)) (.bool false) (by omega) Qv hst4 (fun i hi hq=> ?_) (fun i hi hq=> ?_) Qv rfl Qd (fun i hi hq bs9 g9 a9 w9 hst=>QS hst (vs:=[.v (.bool false)]) Qd ⟨by rw [sb_it (by rw [show a.nit=b.nit by omega] at hi ⊢;exact eqN_at (r:=fun i=>sameIt Zf (a.it i) (b.it i)) hi hq)];rfl,hst.rp.below⟩) fun hl3 g2 a2 w2 hstG=> ?_
 · obtain ⟨b1,o1,d1,cs1,q1,l1,l1',p1,r1⟩:=s5.at hi
   obtain ⟨b2,o2,d2,cs2,q2,l2,l2',p2,r2⟩:=s5'.at (i:=i) (by omega)
   cases q1
   cases q2
   have G1:=sd W (Qb.elem (t:=35) (e:=63) (b:=b1) (o:=o1) (n:=a.nit) (c:=c5) (size:=12) (i:=i) (k:=.i64) underlying35 Qd hi)
   have G2:=sd W (Qb.elem (t:=35) (e:=63) (b:=b2) (o:=o2) (n:=b.nit) (c:=c5') (size:=12) (i:=i) (k:=.i64) underlying35 Qd (by omega))
   obtain ⟨_,es1,rfl,x1⟩:=p1
   obtain ⟨_,es2,rfl,x2⟩:=p2
   have G3:=sd W (Qb.cell (t:=4) Qd (r1 0 _ rfl) l1 Qo)
   have G4:=sd W (Qb.cell (t:=4) Qd (r2 0 _ rfl) l2 Qo)
   have G7:=sd W (Qb.cell (t:=9) Qd (r1 11 (.string (a.it i).nm) (by rw [List.getElem?_cons_succ,List.getElem?_append_right QqQE,x1.len];rfl)) l1 Qo)
   have G8:=sd W (Qb.cell (t:=9) Qd (r2 11 (.string (b.it i).nm) (by rw [List.getElem?_cons_succ,List.getElem?_append_right QgAR,x2.len];rfl)) l2 Qo)
   have G5:=sd W (Qb.row (t:=34) Qd QyFn (ZJ (Zm r1)) l1 Qo)
   have G6:=sd W (Qb.row (t:=34) Qd QTFl (ZJ (Zm r2)) l2 Qo)
   obtain ⟨w9,y9⟩: ∃ z,(Zf (a.it i).e (b.it i).e)=z:=⟨_,rfl⟩
   obtain ⟨wy0,y0⟩: ∃ z,((a.it i).star != (b.it i).star)=z:=⟨_,rfl⟩
   have Y0:=sd W (Qb.boolNe (t:=4) underlying4 y0)
   obtain ⟨wy1,y1⟩: ∃ z,(!((a.it i).nm.toList==(b.it i).nm.toList))=z:=⟨_,rfl⟩
   have Y1:=sd W (Qb.strNe (t:=9) y1)
   cases w9
   · exfalso;revert hq;simp only [sameIt,QB,y9];simp
   have G9:Sd W (.call 58 [.agg es1.toArray,.agg es2.toArray] (.bool true)):=by
    rw [← y9]
    exact Quo0
   cases wy0
   rotate_left
   · exfalso;revert hq y0;simp only [sameIt,QB];simp +contextual
   cases wy1
   rotate_left
   · exfalso;revert hq y1;simp only [sameIt,QB];simp +contextual
   exact QZkm
 · obtain ⟨b1,o1,d1,cs1,q1,l1,l1',p1,r1⟩:=s5.at hi
   obtain ⟨b2,o2,d2,cs2,q2,l2,l2',p2,r2⟩:=s5'.at (i:=i) (by omega)
   cases q1
   cases q2
   have G1:=sd W (Qb.elem (t:=35) (e:=63) (b:=b1) (o:=o1) (n:=a.nit) (c:=c5) (size:=12) (i:=i) (k:=.i64) underlying35 Qd hi)
   have G2:=sd W (Qb.elem (t:=35) (e:=63) (b:=b2) (o:=o2) (n:=b.nit) (c:=c5') (size:=12) (i:=i) (k:=.i64) underlying35 Qd (by omega))
   obtain ⟨_,es1,rfl,x1⟩:=p1
   obtain ⟨_,es2,rfl,x2⟩:=p2
   have G3:=sd W (Qb.cell (t:=4) Qd (r1 0 _ rfl) l1 Qo)
   have G4:=sd W (Qb.cell (t:=4) Qd (r2 0 _ rfl) l2 Qo)
   have G7:=sd W (Qb.cell (t:=9) Qd (r1 11 (.string (a.it i).nm) (by rw [List.getElem?_cons_succ,List.getElem?_append_right QqQE,x1.len];rfl)) l1 Qo)
   have G8:=sd W (Qb.cell (t:=9) Qd (r2 11 (.string (b.it i).nm) (by rw [List.getElem?_cons_succ,List.getElem?_append_right QgAR,x2.len];rfl)) l2 Qo)
   have G5:=sd W (Qb.row (t:=34) Qd QyFn (ZJ (Zm r1)) l1 Qo)
   have G6:=sd W (Qb.row (t:=34) Qd QTFl (ZJ (Zm r2)) l2 Qo)
   obtain ⟨w9,y9⟩: ∃ z,(Zf (a.it i).e (b.it i).e)=z:=⟨_,rfl⟩
   obtain ⟨wy0,y0⟩: ∃ z,((a.it i).star != (b.it i).star)=z:=⟨_,rfl⟩
   have Y0:=sd W (Qb.boolNe (t:=4) underlying4 y0)
   obtain ⟨wy1,y1⟩: ∃ z,(!((a.it i).nm.toList==(b.it i).nm.toList))=z:=⟨_,rfl⟩
   have Y1:=sd W (Qb.strNe (t:=9) y1)
   have G9:Sd W (.call 58 [.agg es1.toArray,.agg es2.toArray] (.bool w9)):=by
    rw [← y9]
    exact Quo0
   cases wy0
   rotate_left
   · exact QaKw
   cases wy1
   rotate_left
   · exact ⟨_,(Kr G1 G3 G2 G4 Y0 G1 G7 G2 G8 Y1),by kernel_rfl⟩
   cases w9
   · exact QZkm
   exfalso;revert hq;simp only [sameIt,QB,y9];simp at y0 y1;simp [*]
 refine goK (.loop 8) (k':=Qc cEx (.loop 8)) (e:=.nrm) [(9,.v qa1),(2,.p 0 0),(3,.p 1 0),qa2] hstG Zk (by kernel_rfl) fun g1 a1 w1 hst5 _=> ?_
 clear hst4 hstG
 refine Kf cEx 8 9 4 3 a.nfr (fun i=>sameSo Zf (a.fr i) (b.fr i)) (.bool false) (by omega) Qv hst5 (fun i hi hq=> ?_) (fun i hi hq=> ?_) Qv rfl Qd (fun i hi hq bs9 g9 a9 w9 hst=>QS hst (vs:=[.v (.bool false)]) Qd ⟨by rw [sb_fr (by rw [show a.nfr=b.nfr by omega] at hi ⊢;exact eqN_at (r:=fun i=>sameSo Zf (a.fr i) (b.fr i)) hi hq)];rfl,hst.rp.below⟩) fun hl4 g2 a2 w2 hstG=> ?_
 · obtain ⟨b1,o1,d1,cs1,q1,l1,l1',p1,r1⟩:=s6.at hi
   obtain ⟨b2,o2,d2,cs2,q2,l2,l2',p2,r2⟩:=s6'.at (i:=i) (by omega)
   cases q1
   cases q2
   have G1:=sd W (Qb.elem (t:=36) (e:=65) (b:=b1) (o:=o1) (n:=a.nfr) (c:=c6) (size:=13) (i:=i) (k:=.i64) underlying36 Qd hi)
   have G2:=sd W (Qb.elem (t:=36) (e:=65) (b:=b2) (o:=o2) (n:=b.nfr) (c:=c6') (size:=13) (i:=i) (k:=.i64) underlying36 Qd (by omega))
   obtain ⟨_,_,es1,rfl,x1⟩:=p1
   obtain ⟨_,_,es2,rfl,x2⟩:=p2
   have G5:=sd W (Qb.row (t:=65) Qd Qjph r1 l1 Qo)
   have G6:=sd W (Qb.row (t:=65) Qd QQbV r2 l2 Qo)
   obtain ⟨w9,y9⟩: ∃ z,(Zf (a.fr i).e (b.fr i).e)=z:=⟨_,rfl⟩
   obtain ⟨wy0,y0⟩: ∃ z,(!((a.fr i).nm.toList==(b.fr i).nm.toList))=z:=⟨_,rfl⟩
   have Y0:=sd W (Qb.strNe (t:=9) y0)
   obtain ⟨wy1,y1⟩: ∃ z,(!((a.fr i).al.toList==(b.fr i).al.toList))=z:=⟨_,rfl⟩
   have Y1:=sd W (Qb.strNe (t:=9) y1)
   obtain ⟨wy2,y2⟩: ∃ z,((a.fr i).left != (b.fr i).left)=z:=⟨_,rfl⟩
   have Y2:=sd W (Qb.boolNe (t:=4) underlying4 y2)
   cases w9
   · exfalso;revert hq;simp only [sameSo,QB,y9];simp
   have G9:Sd W (.call 58 [.agg es1.toArray,.agg es2.toArray] (.bool true)):=by
    rw [← y9]
    exact Quo0
   obtain ⟨ak,ao,avk,avn,avt,atb,anm,aA,an,ac,apl,aty,rfl⟩:=x1.form
   obtain ⟨bk,bo,bvk,bvn,bvt,btb,bnm,bA,bn,bc,bpl,bty,rfl⟩:=x2.form
   cases wy0
   rotate_left
   · exfalso;revert hq y0;simp only [sameSo,QB];simp +contextual
   cases wy1
   rotate_left
   · exfalso;revert hq y1;simp only [sameSo,QB];simp +contextual
   cases wy2
   rotate_left
   · exfalso;revert hq y2;simp only [sameSo,QB];simp +contextual
   exact QIe4
 · obtain ⟨b1,o1,d1,cs1,q1,l1,l1',p1,r1⟩:=s6.at hi
   obtain ⟨b2,o2,d2,cs2,q2,l2,l2',p2,r2⟩:=s6'.at (i:=i) (by omega)
   cases q1
   cases q2
   have G1:=sd W (Qb.elem (t:=36) (e:=65) (b:=b1) (o:=o1) (n:=a.nfr) (c:=c6) (size:=13) (i:=i) (k:=.i64) underlying36 Qd hi)
   have G2:=sd W (Qb.elem (t:=36) (e:=65) (b:=b2) (o:=o2) (n:=b.nfr) (c:=c6') (size:=13) (i:=i) (k:=.i64) underlying36 Qd (by omega))
   obtain ⟨_,_,es1,rfl,x1⟩:=p1
   obtain ⟨_,_,es2,rfl,x2⟩:=p2
   have G5:=sd W (Qb.row (t:=65) Qd Qjph r1 l1 Qo)
   have G6:=sd W (Qb.row (t:=65) Qd QQbV r2 l2 Qo)
   obtain ⟨w9,y9⟩: ∃ z,(Zf (a.fr i).e (b.fr i).e)=z:=⟨_,rfl⟩
   obtain ⟨wy0,y0⟩: ∃ z,(!((a.fr i).nm.toList==(b.fr i).nm.toList))=z:=⟨_,rfl⟩
   have Y0:=sd W (Qb.strNe (t:=9) y0)
   obtain ⟨wy1,y1⟩: ∃ z,(!((a.fr i).al.toList==(b.fr i).al.toList))=z:=⟨_,rfl⟩
   have Y1:=sd W (Qb.strNe (t:=9) y1)
   obtain ⟨wy2,y2⟩: ∃ z,((a.fr i).left != (b.fr i).left)=z:=⟨_,rfl⟩
   have Y2:=sd W (Qb.boolNe (t:=4) underlying4 y2)
   have G9:Sd W (.call 58 [.agg es1.toArray,.agg es2.toArray] (.bool w9)):=by
    rw [← y9]
    exact Quo0
   obtain ⟨ak,ao,avk,avn,avt,atb,anm,aA,an,ac,apl,aty,rfl⟩:=x1.form
   obtain ⟨bk,bo,bvk,bvn,bvt,btb,bnm,bA,bn,bc,bpl,bty,rfl⟩:=x2.form
   cases wy0
   rotate_left
   · exact ⟨_,(kE5 G1 G5 G2 G6 Y0),by kernel_rfl⟩
   cases wy1
   rotate_left
   · exact ⟨_,(Je G1 G5 G2 G6 Y0 Y1),by kernel_rfl⟩
   cases wy2
   rotate_left
   · exact ⟨_,(kE7 G1 G5 G2 G6 Y0 Y1 Y2),by kernel_rfl⟩
   cases w9
   · exact QIe4
   exfalso;revert hq;simp only [sameSo,QB,y9];simp at y0 y1 y2;simp [*]
 refine goK (.loop 10) (k':=Qc cEx (.loop 10)) (e:=.nrm) [(12,.v qa1),(2,.p 0 0),(3,.p 1 0),qa2] hstG Zk (by kernel_rfl) fun g1 a1 w1 hst6 _=> ?_
 clear hst5 hstG
 refine Kf cEx 10 12 4 3 a.nor (fun i=>sameOd Zf (a.od i) (b.od i)) (.bool false) (by omega) Qv hst6 (fun i hi hq=> ?_) (fun i hi hq=> ?_) Qv rfl Qd (fun i hi hq bs9 g9 a9 w9 hst=>QS hst (vs:=[.v (.bool false)]) Qd ⟨by rw [sb_od (by rw [show a.nor=b.nor by omega] at hi ⊢;exact eqN_at (r:=fun i=>sameOd Zf (a.od i) (b.od i)) hi hq)];rfl,hst.rp.below⟩) fun hl5 g2 a2 w2 hstG=> ?_
 · obtain ⟨b1,o1,d1,cs1,q1,l1,l1',p1,r1⟩:=s8.at hi
   obtain ⟨b2,o2,d2,cs2,q2,l2,l2',p2,r2⟩:=s8'.at (i:=i) (by omega)
   cases q1
   cases q2
   have G1:=sd W (Qb.elem (t:=37) (e:=67) (b:=b1) (o:=o1) (n:=a.nor) (c:=c8) (size:=11) (i:=i) (k:=.i64) underlying37 Qd hi)
   have G2:=sd W (Qb.elem (t:=37) (e:=67) (b:=b2) (o:=o2) (n:=b.nor) (c:=c8') (size:=11) (i:=i) (k:=.i64) underlying37 Qd (by omega))
   obtain ⟨es1,rfl,x1⟩:=p1
   obtain ⟨es2,rfl,x2⟩:=p2
   have G3:=sd W (Qb.cell (t:=4) Qd (r1 10 (.bool (a.od i).desc) (by rw [List.getElem?_append_right QqQE,x1.len];rfl)) l1 Qo)
   have G4:=sd W (Qb.cell (t:=4) Qd (r2 10 (.bool (b.od i).desc) (by rw [List.getElem?_append_right QgAR,x2.len];rfl)) l2 Qo)
   have G5:=sd W (Qb.row (t:=34) Qd QyFn (ZJ r1) l1 Qo)
   have G6:=sd W (Qb.row (t:=34) Qd QTFl (ZJ r2) l2 Qo)
   obtain ⟨w9,y9⟩: ∃ z,(Zf (a.od i).e (b.od i).e)=z:=⟨_,rfl⟩
   obtain ⟨wy0,y0⟩: ∃ z,((a.od i).desc != (b.od i).desc)=z:=⟨_,rfl⟩
   have Y0:=sd W (Qb.boolNe (t:=4) underlying4 y0)
   cases w9
   · exfalso;revert hq;simp only [sameOd,y9];simp
   have G9:Sd W (.call 58 [.agg es1.toArray,.agg es2.toArray] (.bool true)):=by
    rw [← y9]
    exact Quo0
   cases wy0
   rotate_left
   · exfalso;revert hq y0;simp only [sameOd];simp +contextual
   exact QdNn
 · obtain ⟨b1,o1,d1,cs1,q1,l1,l1',p1,r1⟩:=s8.at hi
   obtain ⟨b2,o2,d2,cs2,q2,l2,l2',p2,r2⟩:=s8'.at (i:=i) (by omega)
   cases q1
   cases q2
   have G1:=sd W (Qb.elem (t:=37) (e:=67) (b:=b1) (o:=o1) (n:=a.nor) (c:=c8) (size:=11) (i:=i) (k:=.i64) underlying37 Qd hi)
   have G2:=sd W (Qb.elem (t:=37) (e:=67) (b:=b2) (o:=o2) (n:=b.nor) (c:=c8') (size:=11) (i:=i) (k:=.i64) underlying37 Qd (by omega))
   obtain ⟨es1,rfl,x1⟩:=p1
   obtain ⟨es2,rfl,x2⟩:=p2
   have G3:=sd W (Qb.cell (t:=4) Qd (r1 10 (.bool (a.od i).desc) (by rw [List.getElem?_append_right QqQE,x1.len];rfl)) l1 Qo)
   have G4:=sd W (Qb.cell (t:=4) Qd (r2 10 (.bool (b.od i).desc) (by rw [List.getElem?_append_right QgAR,x2.len];rfl)) l2 Qo)
   have G5:=sd W (Qb.row (t:=34) Qd QyFn (ZJ r1) l1 Qo)
   have G6:=sd W (Qb.row (t:=34) Qd QTFl (ZJ r2) l2 Qo)
   obtain ⟨w9,y9⟩: ∃ z,(Zf (a.od i).e (b.od i).e)=z:=⟨_,rfl⟩
   obtain ⟨wy0,y0⟩: ∃ z,((a.od i).desc != (b.od i).desc)=z:=⟨_,rfl⟩
   have Y0:=sd W (Qb.boolNe (t:=4) underlying4 y0)
   have G9:Sd W (.call 58 [.agg es1.toArray,.agg es2.toArray] (.bool w9)):=by
    rw [← y9]
    exact Quo0
   cases wy0
   rotate_left
   · exact QaKw
   cases w9
   · exact QdNn
   exfalso;revert hq;simp only [sameOd,y9];simp at y0;simp [*]
 have fin1:Zu Zf a b=(Zf a.wh b.wh&&Zf a.hv b.hv&&sameEs Zf a.gr b.gr):=by
  have q1:=JM hl0
  have q2:=JM hl1
  have q3:=JM hl2
  have q4:=JM hl3
  have q5:=JM hl4
  have q6:=JM hl5
  simp only [Zu,hC1,hC3, ← (show a.nkc=b.nkc by omega), ← (show a.nrw=b.nrw by omega), ← (show a.nst=b.nst by omega), ← (show a.nit=b.nit by omega), ← (show a.nfr=b.nfr by omega), ← (show a.nor=b.nor by omega),q1,q2,q3,q4,q5,q6,hT0,hT5,hT6,hT7,beq_self_eq_true,Bool.and_true,Bool.true_and]
  simp only [QB]
  simp at hT3 hT4
  simp only [hT3,hT4,beq_self_eq_true,Bool.and_true,Bool.true_and]
  cases Zf a.wh b.wh <;> cases Zf a.hv b.hv <;> cases sameEs Zf a.gr b.gr <;> rfl
 rw [fin1,hC9,hC11,hC10]
 cases zC9
 · exact gE hstG (Zg C9) [.bool false] fun w' hw=>⟨rfl,hw⟩
 cases zC11
 · exact gE hstG (Km C9 C11) [.bool false] fun w' hw=>⟨rfl,hw⟩
 cases zC10
 · exact gE hstG (kE3 C9 C11 C10) [.bool false] fun w' hw=>⟨rfl,hw⟩
 exact gE hstG (kE3 C9 C11 C10) [.bool true] fun w' hw=>⟨rfl,hw⟩
end
end Go.Proofs.YtddedijencleeaaGreatDoor

/- ref9.Bare, ref9.Same: contracts. -/
set_option linter.all false
namespace Go.Proofs.YtddedijencleeaaGreatDoor
set_option maxRecDepth 100000
set_option maxHeartbeats 4000000
open Tryz
open Go.RowKit Go.Lib RC

noncomputable abbrev cRb:Code:=Qt f21
theorem Ks.ones {W:World} {a:S} {ca:List Value} (ha:Ks W a ca):ca.length=37∧ ∀ v ∈ ca,v.oneCell'=true:=by
 obtain ⟨ta,vkc,vcl,vrw,vst,wh,vit,vfr,vgr,hv,vor,rfl,ia⟩:=ha
 obtain ⟨tA,tc,tB,td,rfl,t1,t2⟩:=TaIn.form' ia.tab
 obtain ⟨A1,c1,rfl⟩:=ia.kc.form
 obtain ⟨A2,c2,rfl⟩:=ia.cl.form
 obtain ⟨A3,c3,rfl⟩:=ia.rw.form
 obtain ⟨A4,c4,rfl⟩:=ia.st.form
 obtain ⟨A5,c5,rfl⟩:=ia.it.form
 obtain ⟨A6,c6,rfl⟩:=ia.fr.form
 obtain ⟨A7,c7,rfl⟩:=ia.gr.form
 obtain ⟨A8,c8,rfl⟩:=ia.od.form
 obtain ⟨wk,wo,wvk,wvn,wvt,wtb,wnm,wA,wn,wc,wpl,wty,rfl⟩:=ia.wh.form
 obtain ⟨hk,ho,hvk,hvn,hvt,htb,hnm,hA,hn,hc,hpl,hty,rfl⟩:=ia.hv.form
 refine ⟨rfl,fun v hv=> ?_⟩
 simp only [sCells,List.cons_append,List.nil_append,List.append_assoc,List.mem_cons,List.not_mem_nil,or_false] at hv
 rcases hv with rfl | rfl | rfl | rfl | rfl | rfl | rfl | rfl | rfl | rfl | rfl | rfl | rfl | rfl | rfl | rfl | rfl | rfl | rfl | rfl | rfl | rfl | rfl | rfl | rfl | rfl | rfl | rfl | rfl | rfl | rfl | rfl | rfl | rfl | rfl | rfl | rfl <;> rfl
theorem refBare_ok (a:S) (ca:List Value) (W:World) (ha:Ks W a ca) :
 Calls prog 21 #[.agg ca.toArray] W fun r W'=> ∃ ds,r= .returned (.agg ds.toArray)∧Ks (World.only W' fun b=>W.heap.size≤b) (JA a) ds∧Below W.heap.size W W':=by
 have ha0:=ha
 obtain ⟨ta,vkc,vcl,vrw,vst,wh,vit,vfr,vgr,hv,vor,rfl,ia⟩:=ha
 obtain ⟨tA,tc,tB,td,rfl,t1,t2⟩:=TaIn.form' ia.tab
 obtain ⟨A1,c1,rfl⟩:=ia.kc.form
 obtain ⟨A2,c2,rfl⟩:=ia.cl.form
 obtain ⟨A3,c3,rfl⟩:=ia.rw.form
 obtain ⟨A4,c4,rfl⟩:=ia.st.form
 obtain ⟨A5,c5,rfl⟩:=ia.it.form
 obtain ⟨A6,c6,rfl⟩:=ia.fr.form
 obtain ⟨A7,c7,rfl⟩:=ia.gr.form
 obtain ⟨A8,c8,rfl⟩:=ia.od.form
 obtain ⟨wk,wo,wvk,wvn,wvt,wtb,wnm,wA,wn,wc,wpl,wty,rfl⟩:=ia.wh.form
 obtain ⟨hk,ho,hvk,hvn,hvt,htb,hnm,hA,hn,hc,hpl,hty,rfl⟩:=ia.hv.form
 clear ia t1 t2
 have GC:=sd W (Qb.cells (f:=77) (args:=[.agg [.int .i64 a.kind,.string a.tab.nm,.slice tA a.tab.nc tc,.slice tB a.tab.nk td,.slice A1 a.nkc c1,.string a.nm,.string a.ix,.bool a.un,.slice A2 a.cl.n c2,.slice A3 a.nrw c3,.slice A4 a.nst c4,.int .i64 wk,.int .i64 wo,.int .i64 wvk,.int .i64 wvn,.string wvt,.string wtb,.string wnm,.slice wA wn wc,.int .i64 wpl,.int .i64 wty,.bool a.di,.slice A5 a.nit c5,.slice A6 a.nfr c6,.slice A7 a.gr.n c7,.int .i64 hk,.int .i64 ho,.int .i64 hvk,.int .i64 hvn,.string hvt,.string htb,.string hnm,.slice hA hn hc,.int .i64 hpl,.int .i64 hty,.slice A8 a.nor c8,.int .i64 a.li].toArray,.bool true]) (m:=37) (q:=fun w ds=>Ks w (JA a) ds) QCrP func77 rfl Qd (fun w ds h=>Ks.ones h) (by exact fun w hw=>copy_ok a _ w (Ks.sub (.below hw) ha0)))
 refine Qj (c:=cRb) func21 rfl (by kernel_rfl) fun a0 hst=> ?_
 refine goX [.box [.v (.int .i64 a.kind),.v (.string a.tab.nm),.v (.slice tA a.tab.nc tc),.v (.slice tB a.tab.nk td),.v (.slice A1 a.nkc c1),.v (.string a.nm),.v (.string a.ix),.v (.bool a.un),.v (.slice A2 a.cl.n c2),.v (.slice A3 a.nrw c3),.v (.slice A4 a.nst c4),.v (.int .i64 wk),.v (.int .i64 wo),.v (.int .i64 wvk),.v (.int .i64 wvn),.v (.string wvt),.v (.string wtb),.v (.string wnm),.v (.slice wA wn wc),.v (.int .i64 wpl),.v (.int .i64 wty),.v (.bool a.di),.v (.slice A5 a.nit c5),.v (.slice A6 a.nfr c6),.v (.slice A7 a.gr.n c7),.v (.int .i64 hk),.v (.int .i64 ho),.v (.int .i64 hvk),.v (.int .i64 hvn),.v (.string hvt),.v (.string htb),.v (.string hnm),.v (.slice hA hn hc),.v (.int .i64 hpl),.v (.int .i64 hty),.v (.slice A8 a.nor c8),.v (.int .i64 a.li)],.box (xsN 2 37),.unk 37 (poL (fun w ds=>Ks w (JA a) ds) QCrP)] hst (Zg GC) (vs:=[.agg (xsN 2 37)]) (by kernel_rfl) fun G w hr _=> ?_
 obtain ⟨v2,q2⟩:=Rp.cells hr (i:=2) (m:=37) (q:=fun w ds=>Ks w (JA a) ds) (hq:=fun W1 W2 u hs h=>Ks.sub hs h) rfl
 refine ⟨G.u 2,?_,q2,hr.below⟩
 simp only [Qu,RV.conc,Kc rfl v2]
 rfl
theorem Knows.mem {G:Env} {w:World} {i m:Nat} {po:Po}: ∀ {l:List (Nat × Zp)},Knows G w l→(i,Zp.unk m po) ∈ l→(G.u i).length=m∧po.p (G.u i) w
 | (j,.box cs)::l,h,q=>by
   rcases List.mem_cons.1 q with e | q
   · cases e
   · exact Knows.mem h.2 q
 | (j,.unk m' po')::l,h,q=>by
   rcases List.mem_cons.1 q with e | q
   · cases e
     exact h.1
   · exact Knows.mem h.2 q
end Go.Proofs.YtddedijencleeaaGreatDoor
