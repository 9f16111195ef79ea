/- consistorylaw9.TreeTells: the law, walked. -/
import Derived.Test.YtddedijencleeaaGreatDoorSm
import Derived.Test.YtddedijencleeaaGreatDoorMSq
import Derived.Test.YtddedijencleeaaGreatDoorMYa
import Derived.Test.YtddedijencleeaaGreatDoorMXt
import Derived.Test.YtddedijencleeaaGreatDoorMGw
set_option linter.all false
namespace Go.Proofs.YtddedijencleeaaGreatDoor
set_option maxRecDepth 100000
set_option maxHeartbeats 8000000
open Tryz
open Go.RowKit Go.Lib RC

theorem zeroE_d {e:E} (h:QH e=true):QQ e=Qf e:=(Jz e h).symm
theorem Class_of {v:Value} {b:Bool} {w w':World} (hok:OkW w) (h:if b=true then v= .nilIface else ErrV w 1 v 20) (hb:Below w.heap.size w w') :
 Calls prog 16 #[v] w' fun e w2=>e= .returned (.int .i64 (if b=true then 0 else 20))∧Below w'.heap.size w' w2:=by
 cases b with
 | true=>
  rw [if_pos rfl] at h ⊢
  subst h
  exact (Class_nil w').mono fun e w2 ⟨h1,h2⟩=>⟨h1,h2 ▸ Below.refl _ _⟩
 | false=>
  rw [if_neg (by decide)] at h ⊢
  exact Class_err 1 v 20 w' (hok.below hb) (h.below hb)
noncomputable abbrev cTl:Code:=Qt f3
theorem treeTells_walk (s:S) (e:E) (cs ce:List Value) (W:World) (h:Ks W s cs) (he:QI W e ce) (hok:OkW W) (hP:PrW W) :
 Calls prog 3 #[.agg cs.toArray,.agg ce.toArray] W fun r W'=>r= .returned (.bool true)∧Below W.heap.size W W':=by
 let x3x:Value:=(.int .i64 (if Zw s=true then 0 else 20))
 have h0:=h
 have he0:=he
 have qB:Zu Zf (JA s) (JA s)=true:=by
  rw [sameSB_iff,same_iff]
  exact sameS_refl s
 obtain ⟨ls,hls⟩: ∃ z,Q6 s=z:=⟨_,rfl⟩
 obtain ⟨le,hle⟩: ∃ z,Zb e 100=z:=⟨_,rfl⟩
 have hsd:Zw s=true→ls=true→QP s≤1000∧(Qy s).length≤140737488355328:=fun h1 h2=>⟨stmtD_light h h1 (hls.trans h2),Nat.le_trans (stmtL_bound h h1 (hls.trans h2)) (by decide)⟩
 have hsb:Zw s=true→ls=true→(∀ i,i<s.nrw→Ql (s.rw i).n (fun j=>Qf ((s.rw i).f j))≤1000000)∧(∀ i,i<s.nst→Qf (s.st i).e≤1000000)∧(Qf s.wh≤1000000)∧(Qf s.hv≤1000000)∧(Ql s.gr.n (fun i=>Qf (s.gr.f i))≤1000000)∧(∀ i,i<s.nit→Qf (s.it i).e≤1000000)∧(∀ i,i<s.nfr→Qf (s.fr i).e≤1000000)∧(∀ i,i<s.nor→Qf (s.od i).e≤1000000):=fun h1 h2=>by
  obtain ⟨b1,b2,b3,b4,b5,b6,b7,b8⟩:=depth_bounds h h1 (hls.trans h2)
  exact ⟨fun i hi=>by have:=b1 i hi;omega,fun i hi=>by have:=b2 i hi;omega,by omega,by omega,by omega,fun i hi=>by have:=b6 i hi;omega,fun i hi=>by have:=b7 i hi;omega,fun i hi=>by have:=b8 i hi;omega⟩
 have hed:QH e=true→le=true→QQ e≤1000∧(Qg e).length≤140737488355328:=fun h1 h2=>⟨by have:=KD he (isE_mayE h1) (hle.trans h2) (by decide) (by decide);rw [zeroE_d h1];omega,Nat.le_trans (txt_light he h1 (hle.trans h2) (by decide) (by decide)) (by decide)⟩
 have hdS:Zw s=true→depS s=QP s:=fun h1=>depS_stmtD s h1
 obtain ⟨ta,vkc,vcl,vrw,vst,whc,vit,vfr,vgr,hvc,vor,rfl,ia⟩:=h
 obtain ⟨tA,tc,tB,td,rfl,t1,t2⟩:=TaIn.form' ia.tab
 obtain ⟨A1,c1,rfl⟩:=ia.kc.form
 obtain ⟨A2,c2,rfl⟩:=ia.cl.form
 obtain ⟨A3,c3,rfl⟩:=ia.rw.form
 obtain ⟨A4,c4,rfl⟩:=ia.st.form
 obtain ⟨A5,c5,rfl⟩:=ia.it.form
 obtain ⟨A6,c6,rfl⟩:=ia.fr.form
 obtain ⟨A7,c7,rfl⟩:=ia.gr.form
 obtain ⟨A8,c8,rfl⟩:=ia.od.form
 obtain ⟨wk,wo,wvk,wvn,wvt,wtb,wnm,wA,wn,wc,wpl,wty,rfl⟩:=ia.wh.form
 obtain ⟨hk,ho,hvk,hvn,hvt,htb,hnm,hA,hn,hc,hpl,hty,rfl⟩:=ia.hv.form
 let x2x:Value:=(.agg (Zs s.kind s.tab.nm tA s.tab.nc tc tB s.tab.nk td A1 s.nkc c1 s.nm s.ix s.un A2 s.cl.n c2 A3 s.nrw c3 A4 s.nst c4 wk wo wvk wvn wvt wtb wnm wA wn wc wpl wty s.di A5 s.nit c5 A6 s.nfr c6 A7 s.gr.n c7 hk ho hvk hvn hvt htb hnm hA hn hc hpl hty A8 s.nor c8 s.li).toArray)
 let x1x:List Value:=[.agg (Zs s.kind s.tab.nm tA s.tab.nc tc tB s.tab.nk td A1 s.nkc c1 s.nm s.ix s.un A2 s.cl.n c2 A3 s.nrw c3 A4 s.nst c4 wk wo wvk wvn wvt wtb wnm wA wn wc wpl wty s.di A5 s.nit c5 A6 s.nfr c6 A7 s.gr.n c7 hk ho hvk hvn hvt htb hnm hA hn hc hpl hty A8 s.nor c8 s.li).toArray]
 obtain ⟨ek,eo,evk,evn,evt,etb,enm,eA,en,ec,epl,ety,rfl⟩:=he.form
 have hcs:sCells s [.string s.tab.nm,.slice tA s.tab.nc tc,.slice tB s.tab.nk td] (.slice A1 s.nkc c1) (.slice A2 s.cl.n c2) (.slice A3 s.nrw c3) (.slice A4 s.nst c4) (eL wk wo wvk wvn wvt wtb wnm wA wn wc wpl wty) (.slice A5 s.nit c5) (.slice A6 s.nfr c6) (.slice A7 s.gr.n c7) (eL hk ho hvk hvn hvt htb hnm hA hn hc hpl hty) (.slice A8 s.nor c8)=Zs s.kind s.tab.nm tA s.tab.nc tc tB s.tab.nk td A1 s.nkc c1 s.nm s.ix s.un A2 s.cl.n c2 A3 s.nrw c3 A4 s.nst c4 wk wo wvk wvn wvt wtb wnm wA wn wc wpl wty s.di A5 s.nit c5 A6 s.nfr c6 A7 s.gr.n c7 hk ho hvk hvn hvt htb hnm hA hn hc hpl hty A8 s.nor c8 s.li:=rfl
 rw [hcs] at h0 ⊢
 have GK:Sd W (.call 5 [] (.bool true)):=Qb.of func5 rfl Qd (fun w hw=>known9 w (hok.below hw) (hP.below hw))
 have LA:Sd W (.call 6 x1x (.bool ls)):=by rw [← hls];exact Qb.of func6 rfl Qd (fun w hw=>lightS_ok s _ w QgdQ)
 have LE:Sd W (.call 7 [eV ek eo evk evn evt etb enm eA en ec epl ety,.int .i64 100] (.bool le)):=by rw [← hle];exact Qb.of func7 rfl Qd (fun w hw=>KU e _ w 100 (QI.sub (.below hw) he0))
 refine Qj (args:=[.agg (Zs s.kind s.tab.nm tA s.tab.nc tc tB s.tab.nk td A1 s.nkc c1 s.nm s.ix s.un A2 s.cl.n c2 A3 s.nrw c3 A4 s.nst c4 wk wo wvk wvn wvt wtb wnm wA wn wc wpl wty s.di A5 s.nit c5 A6 s.nfr c6 A7 s.gr.n c7 hk ho hvk hvn hvt htb hnm hA hn hc hpl hty A8 s.nor c8 s.li).toArray,eV ek eo evk evn evt etb enm eA en ec epl ety]) (c:=cTl) func3 rfl (by kernel_rfl) fun a0 hst=> ?_
 cases ls
 · exact gE hst (Km GK LA) [.bool true] fun w' hw=>⟨rfl,hw⟩
 cases le
 · exact gE hst (kE3 GK LA LE) [.bool true] fun w' hw=>⟨rfl,hw⟩
 have hsd:=fun h=>hsd h rfl
 have hsb:=fun h=>hsb h rfl
 have hed:=fun h=>hed h rfl
 refine gO cTl (.op 5 1) [(24,.v x2x),(2,.p 0 0),(3,.p 1 0)] [bx (Zs s.kind s.tab.nm tA s.tab.nc tc tB s.tab.nk td A1 s.nkc c1 s.nm s.ix s.un A2 s.cl.n c2 A3 s.nrw c3 A4 s.nst c4 wk wo wvk wvn wvt wtb wnm wA wn wc wpl wty s.di A5 s.nit c5 A6 s.nfr c6 A7 s.gr.n c7 hk ho hvk hvn hvt htb hnm hA hn hc hpl hty A8 s.nor c8 s.li),bx (eL ek eo evk evn evt etb enm eA en ec epl ety)] hst (kE3 GK LA LE) fun G1 a1 w1 h1 _=> ?_
 have sa1:=(h1.rp.sb 0 _ rfl).1
 have sb1:=(h1.rp.sb 1 _ rfl).1
 have b1:=h1.rp.below
 refine cV 25 8 (Qc cTl (.op 5 2)) [(2,.p 0 0),(3,.p 1 0)] x1x h1 func8 (treePrint_ok s _ w1 (Ks.sub (.below b1) h0) (hP.below b1) hsd (stmtL_ne s)) fun e w2 hp=> ?_
 obtain ⟨t2,x2,rfl,hq2,b2'⟩:=hp
 have sa2:=sa1.below b2'
 have sb2:=sb1.below b2'
 have b2:=Below.andThen b1 b2'
 refine ⟨_,rfl,fun a2 he2=> ?_⟩
 generalize hg0:G1.g 0=g0 at sa2
 generalize hg1:G1.g 1=g1 at sb2
 have hst2:RC.St w2.heap.size w2 f3.ntmps [(25,.v (.tuple #[.string t2,x2])),(2,.v (.pointer (some ⟨g0,0,none⟩))),(3,.v (.pointer (some ⟨g1,0,none⟩)))] [] env0 a2 w2:=by rw [← hg0, ← hg1];exact he2.st w2
 have ok2:=hok.below b2
 have P2:Sd w2 (.get 39 (.pointer (some ⟨g0,0,none⟩)) x2x):=Qb.row Qd Qd sa2.at_ sa2.lt Qo
 have Q2:Sd w2 (.get 34 (.pointer (some ⟨g1,0,none⟩)) (eV ek eo evk evn evt etb enm eA en ec epl ety)):=Qb.row Qd Qd sb2.at_ sb2.lt Qo
 have R2:Sd w2 (.call 9 x1x (.tuple #[.string (if Zw s=true then ⟨(Qy s).toArray⟩ else ⟨#[]⟩),.int .i64 (if Zw s=true then 0 else 20)])):=Qb.of func9 rfl Qd (fun w hw=>print9_ok s _ w (Ks.sub (.below (Below.andThen b2 hw)) h0) (fun h=>(hsd h).2))
 refine gO cTl (.op 7 1) [(34,.v (eV ek eo evk evn evt etb enm eA en ec epl ety)),(2,.v (.pointer (some ⟨g0,0,none⟩))),(3,.v (.pointer (some ⟨g1,0,none⟩))),(5,.v (.string t2)),(6,.v x2),(7,.v (.string (if Zw s=true then ⟨(Qy s).toArray⟩ else ⟨#[]⟩))),(8,.v x3x)] [] hst2 (kE3 P2 R2 Q2) fun G3 a3 w3 h3 _=> ?_
 have b3':=h3.rp.below
 have b3:=Below.andThen b2 b3'
 have sa3:=sa2.below b3'
 have sb3:=sb2.below b3'
 have hx3:if Zw s=true then x2= .nilIface else ErrV w3 1 x2 20:=by
  cases hI:Zw s with
  | true=>rw [hI,if_pos rfl] at hq2;rw [if_pos rfl];exact hq2.2
  | false=>rw [hI,if_neg (by decide)] at hq2;rw [if_neg (by decide)];exact hq2.2.below b3'
 refine cV 35 10 (Qc cTl (.op 7 2)) [(2,.v (.pointer (some ⟨g0,0,none⟩))),(3,.v (.pointer (some ⟨g1,0,none⟩))),(5,.v (.string t2)),(6,.v x2),(7,.v (.string (if Zw s=true then ⟨(Qy s).toArray⟩ else ⟨#[]⟩))),(8,.v x3x)] [eV ek eo evk evn evt etb enm eA en ec epl ety] h3 func10 (treeExpr_ok e _ w3 (QI.sub (.below b3) he0) (hP.below b3) hed (txtE_ne e)) fun e w4 hp=> ?_
 obtain ⟨t4,x4,rfl,hq4,b4'⟩:=hp
 have b4:=Below.andThen b3 b4'
 have sa4:=sa3.below b4'
 have sb4:=sb3.below b4'
 refine ⟨_,rfl,fun a4 he4=> ?_⟩
 have hst4:=he4.st w4
 have ok4:=hok.below b4
 have ht2:t2=(if Zw s=true then ⟨(Qy s).toArray⟩ else ⟨#[]⟩):=by
  cases hI:Zw s with
  | true=>rw [hI,if_pos rfl] at hq2;rw [if_pos rfl];exact hq2.1
  | false=>rw [hI,if_neg (by decide)] at hq2;rw [if_neg (by decide)];exact hq2.1
 have ht4:t4=(if QH e=true then ⟨(Qg e).toArray⟩ else ⟨#[]⟩):=by
  cases hI:QH e with
  | true=>rw [hI,if_pos rfl] at hq4;rw [if_pos rfl];exact hq4.1
  | false=>rw [hI,if_neg (by decide)] at hq4;rw [if_neg (by decide)];exact hq4.1
 have hx4:if Zw s=true then x2= .nilIface else ErrV w4 1 x2 20:=by
  cases hI:Zw s with
  | true=>rw [hI,if_pos rfl] at hx3;rw [if_pos rfl];exact hx3
  | false=>rw [hI,if_neg (by decide)] at hx3;rw [if_neg (by decide)];exact hx3.below b4'
 have hy4:if QH e=true then x4= .nilIface else ErrV w4 1 x4 20:=by
  cases hI:QH e with
  | true=>rw [hI,if_pos rfl] at hq4;rw [if_pos rfl];exact hq4.2
  | false=>rw [hI,if_neg (by decide)] at hq4;rw [if_neg (by decide)];exact hq4.2
 have hdp:(if Zw s=true then (QP s:Int) else 0)=((if Zw s=true then depS s else 0:Nat):Int):=by
  cases hI:Zw s with
  | true=>rw [if_pos rfl,if_pos rfl,hdS hI]
  | false=>rfl
 have P4:Sd w4 (.get 39 (.pointer (some ⟨g0,0,none⟩)) x2x):=Qb.row Qd Qd sa4.at_ sa4.lt Qo
 have Q4:Sd w4 (.get 34 (.pointer (some ⟨g1,0,none⟩)) (eV ek eo evk evn evt etb enm eA en ec epl ety)):=Qb.row Qd Qd sb4.at_ sb4.lt Qo
 have R4:Sd w4 (.call 11 [eV ek eo evk evn evt etb enm eA en ec epl ety] (.tuple #[.string (if QH e=true then ⟨(Qg e).toArray⟩ else ⟨#[]⟩),.int .i64 (if QH e=true then 0 else 20)])):=Qb.of func11 rfl Qd (fun w hw=>expr9_ok e _ w (QI.sub QPEH he0) (fun h=>(hed h).2))
 have I1:Sd w4 (.call 12 x1x (.bool (Zw s))):=Qb.of func12 rfl Qd (fun w hw=>treeIs_ok s _ w QsOc)
 have I2:Sd w4 (.call 13 x1x (.bool (Zw s))):=by rw [is_one];exact Qb.of func13 rfl Qd (fun w hw=>is9_ok s _ w QsOc)
 have I3:Sd w4 (.call 14 [eV ek eo evk evn evt etb enm eA en ec epl ety] (.bool (QH e))):=Qb.of func14 rfl Qd (fun w hw=>KY e _ w (QI.sub QPEH he0))
 have I4:Sd w4 (.call 15 [eV ek eo evk evn evt etb enm eA en ec epl ety] (.bool (QH e))):=Qb.of func15 rfl Qd (fun w hw=>ZX e _ w (QI.sub QPEH he0))
 have C1:Sd w4 (.call 16 [x2] x3x):=Qb.of func16 rfl Qd (fun w hw=>Class_of ok4 hx4 hw)
 have C2:Sd w4 (.call 16 [x4] (.int .i64 (if QH e=true then 0 else 20))):=Qb.of func16 rfl Qd (fun w hw=>Class_of ok4 hy4 hw)
 have D1:Sd w4 (.call 17 x1x (.int .i64 ((if Zw s=true then depS s else 0:Nat):Int))):=by rw [← hdp];exact Qb.of func17 rfl Qd (fun w hw=>treeDepth_ok s _ w QsOc (hP.below (Below.andThen b4 hw)) hsd)
 have D2:Sd w4 (.call 18 x1x (.int .i64 ((if Zw s=true then depS s else 0:Nat):Int))):=Qb.of func18 rfl Qd (fun w hw=>depth9_ok s _ w QsOc hsb)
 have E1:=sd w4 (Qb.boolNe (t:=4) (a:=Zw s) (b:=Zw s) (z:=false) underlying4 (by simp))
 have E2:=sd w4 (Qb.boolNe (t:=4) (a:=QH e) (b:=QH e) (z:=false) underlying4 (by simp))
 have E3:=sd w4 (Qb.strNe (t:=9) (a:=t2) (b:=(if Zw s=true then ⟨(Qy s).toArray⟩ else ⟨#[]⟩)) (z:=false) (by rw [ht2];simp))
 have E4:=sd w4 (Qb.intNe (t:=3) (k:=.i64) (a:=(if Zw s=true then 0 else 20)) (b:=(if Zw s=true then 0 else 20)) (z:=false) (by simp))
 have E5:=sd w4 (Qb.strNe (t:=9) (a:=t4) (b:=(if QH e=true then ⟨(Qg e).toArray⟩ else ⟨#[]⟩)) (z:=false) (by rw [ht4];simp))
 have E6:=sd w4 (Qb.intNe (t:=3) (k:=.i64) (a:=(if QH e=true then 0 else 20)) (b:=(if QH e=true then 0 else 20)) (z:=false) (by simp))
 have E7:=sd w4 (Qb.intEq (t:=3) (k:=.i64) (a:=((if Zw s=true then depS s else 0:Nat):Int)) (b:=((if Zw s=true then depS s else 0:Nat):Int)) (z:=true) (by simp))
 have GA:=sd w4 (Qb.cells (f:=20) (args:=x1x) (m:=37) (q:=fun w ds=>Ks w (JA s) ds) QCrP func20 rfl Qd (fun w ds h=>Ks.ones h) (by exact fun w hw=>treeBare_ok s _ w QsOc))
 have GB:=sd w4 (Qb.cells (f:=21) (args:=x1x) (m:=37) (q:=fun w ds=>Ks w (JA s) ds) QCrP func21 rfl Qd (fun w ds h=>Ks.ones h) (by exact fun w hw=>refBare_ok s _ w QsOc))
 have GE:Sd w4 (.callR 19 [.agg (xsN 0 37),.agg (xsN 1 37)] (List.replicate 37 (0,Zp.unk 37 (poL (fun w ds=>Ks w (JA s) ds) QCrP))++List.replicate 37 (1,Zp.unk 37 (poL (fun w ds=>Ks w (JA s) ds) QCrP))) (.bool true)):=by
  rw [← qB]
  refine ⟨⟨_,_,func19,rfl,by kernel_rfl⟩,fun G w hw hk=> ?_⟩
  obtain ⟨l0,k0⟩:=Knows.mem (i:=0) (m:=37) (po:=(poL (fun w ds=>Ks w (JA s) ds) QCrP)) hk (List.mem_append_left _ (List.mem_replicate.2 ⟨by decide,rfl⟩))
  obtain ⟨l1,k1⟩:=Knows.mem (i:=1) (m:=37) (po:=(poL (fun w ds=>Ks w (JA s) ds) QCrP)) hk (List.mem_append_right _ (List.mem_replicate.2 ⟨by decide,rfl⟩))
  have:=exactly_ok (JA s) (JA s) (G.u 0) (G.u 1) w k0 k1
  simp only [Qu,RV.conc,Kc rfl l0,Kc rfl l1]
  exact this
 exact gE hst4 (kO12 Q4 R4 P4 I1 P4 I2 E1 Q4 I3 Q4 I4 E2 (Q7 E3 C1 E4 E5 C2 E6 P4 D1 P4 D2 E7 P4 GA P4 GB GE)) [.bool true] fun w' hw=>⟨rfl,Below.andThen b4 hw⟩
end Go.Proofs.YtddedijencleeaaGreatDoor
