/- consistoryhelp.parts, Light, LightStmt: what they answer. -/
import Derived.Test.YtddedijencleeaaGreatDoorSm
import Derived.Test.YtddedijencleeaaGreatDoorMSq
import Derived.Test.YtddedijencleeaaGreatDoorGv
import Derived.Test.YtddedijencleeaaGreatDoorMGw
import Derived.Test.YtddedijencleeaaGreatDoorMXl
set_option linter.all false
namespace Go.Proofs.YtddedijencleeaaGreatDoor
set_option maxRecDepth 100000
set_option maxHeartbeats 8000000
open Tryz
noncomputable section
open Go.RowKit Go.Lib RC

namespace RC
theorem cmpLoopP {P:Program} {N:Nat} {W:World} {Q:Exit→Act→World→Prop} {nn:Nat} {pre:List Qb} (hp:QU P N W pre) (c:Code) (id s r:Nat) (ti:TypeId) (n:Nat) (q:Nat→Bool) {lv:Fr} {bs:List Zp} (ans:Value) {G:Env} {a:Act} {w:World} (hn:n≤9223372036854775807)
 (hk:Qc c (.loop id)= .c (.loop (Qn c id)):: .b id::Qc c (.out id)) (hst:St N W nn ((s,.v (.int .i64 (0:Nat)))::lv) bs G a w)
 (yes: ∀ i,i<n→q i=true→ ∃ mid,QU P N W mid∧runT P nn .fin [.c (Qn c id)] ((s,.v (.int .i64 i))::lv) bs (anss (pre++(sLt ti i n true::mid++[sInc ti i]))) (s::keysOf lv)=some (.nrm,[],some (.v (.int .i64 ((i+1:Nat):Int)))::slotsOf lv,bs,pre++(sLt ti i n true::mid++[sInc ti i])))
 (no: ∀ i,i<n→q i=false→ ∃ mid,QU P N W mid∧runN P nn .fin [.c (Qn c id)] ((s,.v (.int .i64 i))::lv) bs (anss (pre++sLt ti i n true::mid)) [r]=some (.ret,[],[some (.v ans)],pre++sLt ti i n true::mid))
 (ends:runV P nn .fin [.c (Qn c id)] ((s,.v (.int .i64 n))::lv) bs (anss (pre++[sLt ti n n false])) (keysOf lv)=some (.ex id,[],slotsOf lv,bs,pre++[sLt ti n n false]))
 (cl:okF bs.length lv=true) (clb:okB bs=true)
 (bad: ∀ i,i<n→q i=false→ ∀ bs' G a w,St N W nn [(r,.v ans)] bs' G a w→Q .ret a w)
 (good:(∀ i,i<n→q i=true)→ ∀ G a w,St N W nn lv bs G a w→ZZ P Q (Qc c (.out id)) .normal a w):ZZ P Q (Qc c (.loop id)) .normal a w:=by
 refine Kt c id hk n (fun i a' w'=>(∃ G,St N W nn ((s,.v (.int .i64 (i:Nat)))::lv) bs G a' w')∧ ∀ j,j<i→q j=true) ⟨⟨G,hst⟩,fun j hj=>by omega⟩ ?_ ?_
 · rintro i hi a2 w2 ⟨⟨g2,hs2⟩,hall⟩
   cases hq:q i with
   | true=>
    obtain ⟨mid,hm,hrun⟩:=yes i hi hq
    refine goT .fin ((s,.v (.int .i64 ((i+1:Nat):Int)))::lv) hs2 (allOk_app hp (kO1 (Qb.ltN (by simp;exact hi)) (allOk_app hm (Zg (Qb.inc (by omega)))))) hrun (by simpa [okF,RV.lt,RV.all] using cl) clb fun g3 a3 w3 hst3 _=> ?_
    refine ⟨⟨g3,hst3⟩,fun j hj=> ?_⟩
    by_cases e:j=i
    · rw [e];exact hq
    exact hall j (by omega)
   | false=>
    obtain ⟨mid,hm,hrun⟩:=no i hi hq
    exact goN .fin [(r,.v ans)] hs2 (allOk_app hp (kO1 (Qb.ltN (by simp;exact hi)) hm)) hrun fun bs' g3 a3 w3 hst3=>Ki (bad i hi hq bs' g3 a3 w3 hst3)
 rintro a2 w2 ⟨⟨g2,hs2⟩,hall⟩
 exact go .fin lv bs hs2 (allOk_app hp (Zg (Qb.ltN (by simp)))) ends fun g3 a3 w3 hst3 _=>brk (good hall g3 a3 w3 hst3)
end RC
noncomputable abbrev cPa:Code:=Qt f24
noncomputable abbrev nPa:Nat:=f24.ntmps
noncomputable abbrev cLs:Code:=Qt f6
noncomputable abbrev nLs:Nat:=f6.ntmps
theorem Qb.quo {P:Program} {N:Nat} {W:World} {t:TypeId} {k:IntKind} {a b c:Int} (hb:b≠0) (h:k.wrap (a.tdiv b)=c):Qb.ok P N W (.bin .quo t (.int k a) (.int k b) (.int k c)):=fun ox oy w=>by
 rw [Sem.run_bind,JL];simp [binOp,Op.intDiv,hb,h]
theorem Qb.subInt {P:Program} {N:Nat} {W:World} {t:TypeId} {k:IntKind} {a b c:Int} (h:k.wrap (a - b)=c):Qb.ok P N W (.bin .sub t (.int k a) (.int k b) (.int k c)):=fun ox oy w=>by
 rw [Sem.run_bind,JL];simp [binOp,Op.intArith,h]
def wr (z:Int):Int:=IntKind.wrap .i64 z
def hund (s:ByteArray):Int:=wr ((s.size:Int).tdiv 100)
def p0 (vt nm tb:ByteArray):Int:=wr (wr (wr (1+hund vt)+hund nm)+hund tb)
def KN:Nat→(Nat→Int→Int)→Int→Int
 | 0,_,q=>q
 | n+1,f,q=>f n (KN n f q)
theorem fold_stay {n j:Nat} {f:Nat→Int→Int} {q:Int} (hj:j≤n) (h: ∀ i,f i (KN j f q)=KN j f q):KN n f q=KN j f q:=by
 induction n with
 | zero=>rw [show j=0 by omega]
 | succ n ih=>
  by_cases e:j=n+1
  · rw [e]
  rw [KN,ih (by omega),h]
def ZM:E→Int→Int
 | .no,_=>0
 | .mk k op vk vn vt tb nm n args pl ty,m=>KN n (fun i q=>bif decide (q≤m) then wr (q+ZM (args i) (wr (m - q))) else q) (p0 vt nm tb)
def Zb (e:E) (m:Int):Bool:=decide (ZM e m≤m)
abbrev qe2:Value:=(.int .i64 (0:Nat))
theorem partsF_ok: ∀ (e:E) (cs:List Value) (W:World) (m:Int),QI W e cs →
 Calls prog 24 #[.agg cs.toArray,.int .i64 m] W fun r W'=>r= .returned (.int .i64 (ZM e m))∧Below W.heap.size W W'
 | .no,_,_,_,h=>False.elim h
 | .mk k op vk vn vt tb nm n args pl ty,cs,W,m,h=>by
   have HF:=fun (i:Nat) (cs:List Value) (h:QI W (args i) cs) (z:Int) (w:World) (hb:Below W.heap.size W w)=>partsF_ok (args i) cs w z (QI.sub (.below hb) h)
   obtain ⟨wf,v,rfl,hv⟩:=h
   have hsl:QR W 10 120 n v (fun i ds=>QI W (args i) ds):=hv
   clear hv wf
   obtain ⟨A,c,rfl⟩:=QR.form hsl
   have hn:=hsl.len
   rw [ZM]
   generalize hF:(fun i q=>bif decide (q≤m) then wr (q+ZM (args i) (wr (m - q))) else q)=F
   have Q1:=sd W (Qb.quo (t:=3) (k:=.i64) (a:=vt.size) (b:=100) (c:=hund vt) (by decide) rfl)
   have Q2:=sd W (Qb.quo (t:=3) (k:=.i64) (a:=nm.size) (b:=100) (c:=hund nm) (by decide) rfl)
   have Q3:=sd W (Qb.quo (t:=3) (k:=.i64) (a:=tb.size) (b:=100) (c:=hund tb) (by decide) rfl)
   have D1:=sd W (Qb.addInt (t:=3) (k:=.i64) (a:=1) (b:=hund vt) (c:=wr (1+hund vt)) rfl)
   have D2:=sd W (Qb.addInt (t:=3) (k:=.i64) (a:=wr (1+hund vt)) (b:=hund nm) (c:=wr (wr (1+hund vt)+hund nm)) rfl)
   have D3:=sd W (Qb.addInt (t:=3) (k:=.i64) (a:=wr (wr (1+hund vt)+hund nm)) (b:=hund tb) (c:=p0 vt nm tb) rfl)
   refine Qj (c:=cPa) func24 rfl (by kernel_rfl) fun a0 hst=> ?_
   refine gO cPa (.loop 0) [(6,.v qe2),(5,.v (.int .i64 (KN 0 F (p0 vt nm tb)))),(1,.v (.int .i64 m)),(2,.p 0 0)] [bx (ZG k op vk vn vt tb nm (.slice A n c) pl ty)] hst (Je Q1 D1 Q2 D2 Q3 D3) fun G1 a1 w1 hst1 _=> ?_
   clear hst Q1 Q2 Q3 D1 D2 D3
   generalize p0 vt nm tb=q0 at hst1 ⊢
   refine Kt cPa 0 Qv n (fun i a w=> ∃ G,RC.St W.heap.size W nPa [(6,.v (.int .i64 (i:Nat))),(5,.v (.int .i64 (KN i F q0))),(1,.v (.int .i64 m)),(2,.p 0 0)] [bx (ZG k op vk vn vt tb nm (.slice A n c) pl ty)] G a w) ⟨G1,hst1⟩ (fun i hi a w hG=> ?_) (fun a w hG=> ?_)
   · obtain ⟨G,hs⟩:=hG
     obtain ⟨q,hq⟩: ∃ q,KN i F q0=q:=⟨_,rfl⟩
     have T1:=sd W (Qb.ltN (t:=3) (i:=i) (n:=n) (z:=true) QOjj)
     obtain ⟨z,hz⟩: ∃ z,decide (q≤m)=z:=⟨_,rfl⟩
     have T2:=nLe W hz
     rw [hq] at hs
     cases z with
     | true=>
       obtain ⟨b1,o1,d1,cs1,q1,l1,l1',p1,r1⟩:=hsl.at hi
       cases q1
       have GI:=sd W (Qb.elem (t:=32) (e:=34) (b:=b1) (o:=o1) (n:=n) (c:=c) (size:=10) (i:=i) (k:=.i64) underlying32 Qd hi)
       have GR:=sd W (Qb.row (t:=34) Qd Qjph r1 l1 Qo)
       have GS:=sd W (Qb.subInt (t:=3) (k:=.i64) (a:=m) (b:=q) (c:=wr (m - q)) rfl)
       have GC:Sd W (.call 24 [.agg cs1.toArray,.int .i64 (wr (m - q))] (.int .i64 (ZM (args i) (wr (m - q))))):=Qb.of func24 rfl Qd (fun w hw=>HF i cs1 p1 _ w hw)
       have GA:=sd W (Qb.addInt (t:=3) (k:=.i64) (a:=q) (b:=ZM (args i) (wr (m - q))) (c:=wr (q+ZM (args i) (wr (m - q)))) rfl)
       have GN:=sd W (Qb.inc (t:=3) (i:=i) (by omega))
       refine goK .fin (k':=[]) (e:=.nrm) [(6,.v (.int .i64 ((i+1:Nat):Int))),(5,.v (.int .i64 (wr (q+ZM (args i) (wr (m - q)))))),(1,.v (.int .i64 m)),(2,.p 0 0)] hs (kE8 T1 T2 GI GR GS GC GA GN) (by kernel_rfl) fun G2 a2 w2 h2 _=> ?_
       refine ⟨G2,?_⟩
       have:KN (i+1) F q0=wr (q+ZM (args i) (wr (m - q))):=by
        rw [KN,hq, ← hF]
        simp only [hz,cond_true]
       rw [this]
       exact h2
     | false=>
       refine goK .fin (k':=[]) (e:=.ex 0) [(5,.v (.int .i64 q))] hs (Km T1 T2) (by kernel_rfl) fun G2 a2 w2 h2 _=>brk ?_
       have:KN n F q0=q:=by
        rw [fold_stay (j:=i) (by omega),hq]
        intro j
        rw [hq, ← hF]
        simp only [hz,cond_false]
       exact gE h2 Zk [.int .i64 q] fun w' hw=>⟨by rw [this];rfl,hw⟩
   · obtain ⟨G,hs⟩:=hG
     obtain ⟨q,hq⟩: ∃ q,KN n F q0=q:=⟨_,rfl⟩
     have T1:=sd W (Qb.ltN (t:=3) (i:=n) (n:=n) (z:=false) (by simp))
     obtain ⟨z,hz⟩: ∃ z,decide (q≤m)=z:=⟨_,rfl⟩
     have T2:=nLe W hz
     rw [hq] at hs ⊢
     refine goK .fin (k':=[]) (e:=.ex 0) [(5,.v (.int .i64 q))] hs (Zg T1) (by kernel_rfl) fun G2 a2 w2 h2 _=>brk ?_
     exact gE h2 Zk [.int .i64 q] fun w' hw=>⟨rfl,hw⟩
theorem KU (e:E) (cs:List Value) (W:World) (m:Int) (h:QI W e cs) :
 Calls prog 7 #[.agg cs.toArray,.int .i64 m] W fun r W'=>r= .returned (.bool (Zb e m))∧Below W.heap.size W W':=by
 have h0:=h
 obtain ⟨wk,wo,wvk,wvn,wvt,wtb,wnm,wA,wn,wc,wpl,wty,rfl⟩:=h.form
 have GC:Sd W (.call 24 [eV wk wo wvk wvn wvt wtb wnm wA wn wc wpl wty,.int .i64 m] (.int .i64 (ZM e m))):=Qb.of func24 rfl Qd (fun w hw=>partsF_ok e _ w m QFFb)
 have GT:=sd W (Qb.intLe (t:=3) (k:=.i64) (a:=ZM e m) (b:=m) (z:=Zb e m) rfl)
 refine Qj (c:=Qt f7) func7 rfl (by kernel_rfl) fun a0 hst=> ?_
 exact gE hst (Km GC GT) [.bool (Zb e m)] fun w' hw=>⟨rfl,hw⟩
def Kk (n m:Nat):Bool:=decide ((m:Int)<(n:Int))
def Jh (x:Es):Bool:= !Kk x.n 12&&Zd x.n fun k=>Zb (x.f k) 60
def Q6 (a:S):Bool:=
 !Kk a.nrw 12&& !Kk a.nst 12&& !Kk a.nit 12&& !Kk a.nfr 5&& !Kk a.nor 12&& !Kk a.gr.n 12&& !Kk a.cl.n 12&& !Kk a.nkc 12&& !Kk a.tab.nc 12&& !Kk a.tab.nk 12&&Zd a.nkc (fun i=> !Kk (a.kc i).n 12)&&Zd a.tab.nk (fun i=> !Kk (a.tab.keys i).n 12)&&Zd a.nrw (fun i=>Jh (a.rw i)) &&
 Zd a.nst (fun i=>Zb (a.st i).e 100)&&Zd a.nit (fun i=>Zb (a.it i).e 100)&&Zd a.nfr (fun i=>Zb (a.fr i).e 100)&&Zd a.nor (fun i=>Zb (a.od i).e 100)&&Zd a.gr.n (fun i=>Zb (a.gr.f i) 100)&&(Zb a.wh 200&&Zb a.hv 200)
theorem ls_h0 {a:S} (h:Kk a.nrw 12=true):Q6 a=false:=by simp only [Q6,h,Bool.not_true,Bool.and_false,Bool.false_and]
theorem ls_h1 {a:S} (h:Kk a.nst 12=true):Q6 a=false:=by simp only [Q6,h,Bool.not_true,Bool.and_false,Bool.false_and]
theorem ls_h2 {a:S} (h:Kk a.nit 12=true):Q6 a=false:=by simp only [Q6,h,Bool.not_true,Bool.and_false,Bool.false_and]
theorem ls_h3 {a:S} (h:Kk a.nfr 5=true):Q6 a=false:=by simp only [Q6,h,Bool.not_true,Bool.and_false,Bool.false_and]
theorem ls_h4 {a:S} (h:Kk a.nor 12=true):Q6 a=false:=by simp only [Q6,h,Bool.not_true,Bool.and_false,Bool.false_and]
theorem ls_h5 {a:S} (h:Kk a.gr.n 12=true):Q6 a=false:=by simp only [Q6,h,Bool.not_true,Bool.and_false,Bool.false_and]
theorem ls_h6 {a:S} (h:Kk a.cl.n 12=true):Q6 a=false:=by simp only [Q6,h,Bool.not_true,Bool.and_false,Bool.false_and]
theorem ls_h7 {a:S} (h:Kk a.nkc 12=true):Q6 a=false:=by simp only [Q6,h,Bool.not_true,Bool.and_false,Bool.false_and]
theorem ls_h8 {a:S} (h:Kk a.tab.nc 12=true):Q6 a=false:=by simp only [Q6,h,Bool.not_true,Bool.and_false,Bool.false_and]
theorem ls_h9 {a:S} (h:Kk a.tab.nk 12=true):Q6 a=false:=by simp only [Q6,h,Bool.not_true,Bool.and_false,Bool.false_and]
theorem ls_kc {a:S} {i:Nat} (hi:i<a.nkc) (h:(fun i=> !Kk (a.kc i).n 12) i=false):Q6 a=false:=by
 have:=Qw (r:=fun i=> !Kk (a.kc i).n 12) hi h
 simp only [Q6,this,Bool.and_false,Bool.false_and]
theorem ls_key {a:S} {i:Nat} (hi:i<a.tab.nk) (h:(fun i=> !Kk (a.tab.keys i).n 12) i=false):Q6 a=false:=by
 have:=Qw (r:=fun i=> !Kk (a.tab.keys i).n 12) hi h
 simp only [Q6,this,Bool.and_false,Bool.false_and]
theorem ls_rw {a:S} {i:Nat} (hi:i<a.nrw) (h:(fun i=>Jh (a.rw i)) i=false):Q6 a=false:=by
 have:=Qw (r:=fun i=>Jh (a.rw i)) hi h
 simp only [Q6,this,Bool.and_false,Bool.false_and]
theorem ls_st {a:S} {i:Nat} (hi:i<a.nst) (h:(fun i=>Zb (a.st i).e 100) i=false):Q6 a=false:=by
 have:=Qw (r:=fun i=>Zb (a.st i).e 100) hi h
 simp only [Q6,this,Bool.and_false,Bool.false_and]
theorem ls_it {a:S} {i:Nat} (hi:i<a.nit) (h:(fun i=>Zb (a.it i).e 100) i=false):Q6 a=false:=by
 have:=Qw (r:=fun i=>Zb (a.it i).e 100) hi h
 simp only [Q6,this,Bool.and_false,Bool.false_and]
theorem ls_fr {a:S} {i:Nat} (hi:i<a.nfr) (h:(fun i=>Zb (a.fr i).e 100) i=false):Q6 a=false:=by
 have:=Qw (r:=fun i=>Zb (a.fr i).e 100) hi h
 simp only [Q6,this,Bool.and_false,Bool.false_and]
theorem ls_od {a:S} {i:Nat} (hi:i<a.nor) (h:(fun i=>Zb (a.od i).e 100) i=false):Q6 a=false:=by
 have:=Qw (r:=fun i=>Zb (a.od i).e 100) hi h
 simp only [Q6,this,Bool.and_false,Bool.false_and]
theorem ls_gr {a:S} {i:Nat} (hi:i<a.gr.n) (h:(fun i=>Zb (a.gr.f i) 100) i=false):Q6 a=false:=by
 have:=Qw (r:=fun i=>Zb (a.gr.f i) 100) hi h
 simp only [Q6,this,Bool.and_false,Bool.false_and]
abbrev qe1:Nat × RV:=(2,.v (.bool false))
theorem lightS_ok (a:S) (ca:List Value) (W:World) (ha:Ks W a ca) :
 Calls prog 6 #[.agg ca.toArray] W fun r W'=>r= .returned (.bool (Q6 a))∧Below W.heap.size W W':=by
 obtain ⟨ta,vkc,vcl,vrw,vst,wh,vit,vfr,vgr,hv,vor,rfl,ia⟩:=ha
 obtain ⟨tA,tc,tB,td,rfl,t1,t2⟩:=TaIn.form' ia.tab
 have s1:=ia.kc
 obtain ⟨A1,c1,rfl⟩:=ia.kc.form
 have s2:=ia.cl
 obtain ⟨A2,c2,rfl⟩:=ia.cl.form
 have s3:=ia.rw
 obtain ⟨A3,c3,rfl⟩:=ia.rw.form
 have s4:=ia.st
 obtain ⟨A4,c4,rfl⟩:=ia.st.form
 have s5:=ia.it
 obtain ⟨A5,c5,rfl⟩:=ia.it.form
 have s6:=ia.fr
 obtain ⟨A6,c6,rfl⟩:=ia.fr.form
 have s7:=ia.gr
 obtain ⟨A7,c7,rfl⟩:=ia.gr.form
 have s8:=ia.od
 obtain ⟨A8,c8,rfl⟩:=ia.od.form
 have sw:=ia.wh
 obtain ⟨wk,wo,wvk,wvn,wvt,wtb,wnm,wA,wn,wc,wpl,wty,rfl⟩:=ia.wh.form
 have sh:=ia.hv
 obtain ⟨hk,ho,hvk,hvn,hvt,htb,hnm,hA,hn,hc,hpl,hty,rfl⟩:=ia.hv.form
 let x1x:List Zp:=[bx [.int .i64 a.kind,.string a.tab.nm,.slice tA a.tab.nc tc,.slice tB a.tab.nk td,.slice A1 a.nkc c1,.string a.nm,.string a.ix,.bool a.un,.slice A2 a.cl.n c2,.slice A3 a.nrw c3,.slice A4 a.nst c4,.int .i64 wk,.int .i64 wo,.int .i64 wvk,.int .i64 wvn,.string wvt,.string wtb,.string wnm,.slice wA wn wc,.int .i64 wpl,.int .i64 wty,.bool a.di,.slice A5 a.nit c5,.slice A6 a.nfr c6,.slice A7 a.gr.n c7,.int .i64 hk,.int .i64 ho,.int .i64 hvk,.int .i64 hvn,.string hvt,.string htb,.string hnm,.slice hA hn hc,.int .i64 hpl,.int .i64 hty,.slice A8 a.nor c8,.int .i64 a.li]]
 have e1:=QR.len s1
 have e3:=QR.len s3
 have e4:=QR.len s4
 have e5:=QR.len s5
 have e6:=QR.len s6
 have e7:=QR.len s7
 have e8:=QR.len s8
 have et:=QR.len t2
 clear ia
 obtain ⟨z0,x0⟩: ∃ z,Kk a.nrw 12=z:=⟨_,rfl⟩
 have H0:=sd W (Qb.intGt (t:=3) (k:=.i64) (a:=((a.nrw:Nat):Int)) (b:=12) (z:=z0) x0)
 obtain ⟨z1,x1⟩: ∃ z,Kk a.nst 12=z:=⟨_,rfl⟩
 have H1:=sd W (Qb.intGt (t:=3) (k:=.i64) (a:=((a.nst:Nat):Int)) (b:=12) (z:=z1) x1)
 obtain ⟨z2,x2⟩: ∃ z,Kk a.nit 12=z:=⟨_,rfl⟩
 have H2:=sd W (Qb.intGt (t:=3) (k:=.i64) (a:=((a.nit:Nat):Int)) (b:=12) (z:=z2) x2)
 obtain ⟨z3,x3⟩: ∃ z,Kk a.nfr 5=z:=⟨_,rfl⟩
 have H3:=sd W (Qb.intGt (t:=3) (k:=.i64) (a:=((a.nfr:Nat):Int)) (b:=5) (z:=z3) x3)
 obtain ⟨z4,x4⟩: ∃ z,Kk a.nor 12=z:=⟨_,rfl⟩
 have H4:=sd W (Qb.intGt (t:=3) (k:=.i64) (a:=((a.nor:Nat):Int)) (b:=12) (z:=z4) x4)
 obtain ⟨z5,x5⟩: ∃ z,Kk a.gr.n 12=z:=⟨_,rfl⟩
 have H5:=sd W (Qb.intGt (t:=3) (k:=.i64) (a:=((a.gr.n:Nat):Int)) (b:=12) (z:=z5) x5)
 obtain ⟨z6,x6⟩: ∃ z,Kk a.cl.n 12=z:=⟨_,rfl⟩
 have H6:=sd W (Qb.intGt (t:=3) (k:=.i64) (a:=((a.cl.n:Nat):Int)) (b:=12) (z:=z6) x6)
 obtain ⟨z7,x7⟩: ∃ z,Kk a.nkc 12=z:=⟨_,rfl⟩
 have H7:=sd W (Qb.intGt (t:=3) (k:=.i64) (a:=((a.nkc:Nat):Int)) (b:=12) (z:=z7) x7)
 obtain ⟨z8,x8⟩: ∃ z,Kk a.tab.nc 12=z:=⟨_,rfl⟩
 have H8:=sd W (Qb.intGt (t:=3) (k:=.i64) (a:=((a.tab.nc:Nat):Int)) (b:=12) (z:=z8) x8)
 obtain ⟨z9,x9⟩: ∃ z,Kk a.tab.nk 12=z:=⟨_,rfl⟩
 have H9:=sd W (Qb.intGt (t:=3) (k:=.i64) (a:=((a.tab.nk:Nat):Int)) (b:=12) (z:=z9) x9)
 refine Qj (c:=cLs) func6 rfl (by kernel_rfl) fun a0 hst=> ?_
 cases z0
 rotate_left
 · exact gE hst (Zg H0) [.bool false] fun w' hw=>⟨by rw [ls_h0 x0];rfl,hw⟩
 cases z1
 rotate_left
 · exact gE hst (Km H0 H1) [.bool false] fun w' hw=>⟨by rw [ls_h1 x1];rfl,hw⟩
 cases z2
 rotate_left
 · exact gE hst (kE3 H0 H1 H2) [.bool false] fun w' hw=>⟨by rw [ls_h2 x2];rfl,hw⟩
 cases z3
 rotate_left
 · exact gE hst (Jf H0 H1 H2 H3) [.bool false] fun w' hw=>⟨by rw [ls_h3 x3];rfl,hw⟩
 cases z4
 rotate_left
 · exact gE hst (kE5 H0 H1 H2 H3 H4) [.bool false] fun w' hw=>⟨by rw [ls_h4 x4];rfl,hw⟩
 cases z5
 rotate_left
 · exact gE hst (Je H0 H1 H2 H3 H4 H5) [.bool false] fun w' hw=>⟨by rw [ls_h5 x5];rfl,hw⟩
 cases z6
 rotate_left
 · exact gE hst (kE7 H0 H1 H2 H3 H4 H5 H6) [.bool false] fun w' hw=>⟨by rw [ls_h6 x6];rfl,hw⟩
 cases z7
 rotate_left
 · exact gE hst (kE8 H0 H1 H2 H3 H4 H5 H6 H7) [.bool false] fun w' hw=>⟨by rw [ls_h7 x7];rfl,hw⟩
 cases z8
 rotate_left
 · exact gE hst (kE9 H0 H1 H2 H3 H4 H5 H6 H7 H8) [.bool false] fun w' hw=>⟨by rw [ls_h8 x8];rfl,hw⟩
 cases z9
 rotate_left
 · exact gE hst (Kr H0 H1 H2 H3 H4 H5 H6 H7 H8 H9) [.bool false] fun w' hw=>⟨by rw [ls_h9 x9];rfl,hw⟩
 refine gO cLs (.loop 0) [(3,.v qe2),(1,.p 0 0),qe1] x1x hst (Kr H0 H1 H2 H3 H4 H5 H6 H7 H8 H9) fun g1 a1 w1 hst0 _=> ?_
 clear hst H0 H1 H2 H3 H4 H5 H6 H7 H8 H9
 refine Kf cLs 0 3 2 3 a.nkc (fun i=> !Kk (a.kc i).n 12) (.bool false) (by omega) Qv hst0 (fun i hi hq=> ?_) (fun i hi hq=> ?_) Qv rfl Qd (fun i hi hq bs9 g9 a9 w9 hst=>QS hst (vs:=[.v (.bool false)]) Qd ⟨by rw [ls_kc hi hq];rfl,hst.rp.below⟩) fun hl0 g2 a2 w2 hstG=> ?_
 · obtain ⟨b1,o1,d1,cs1,q1,l1,l1',p1,r1⟩:=s1.at hi
   cases q1
   have G1:=sd W (Qb.elem (t:=26) (e:=27) (b:=b1) (o:=o1) (n:=a.nkc) (c:=c1) (size:=1) (i:=i) (k:=.i64) underlying26 Qd hi)
   obtain ⟨v1,rfl,x1⟩:=p1
   obtain ⟨B1,k1,rfl⟩:=x1.form
   have G3:=sd W (Qb.cell (t:=27) Qd (r1 0 _ rfl) l1 Qo)
   have G4:=sd W (Qb.intGt (t:=3) (k:=.i64) (a:=(((a.kc i).n:Nat):Int)) (b:=12) (z:=false) QpXX)
   exact QMSj
 · obtain ⟨b1,o1,d1,cs1,q1,l1,l1',p1,r1⟩:=s1.at hi
   cases q1
   have G1:=sd W (Qb.elem (t:=26) (e:=27) (b:=b1) (o:=o1) (n:=a.nkc) (c:=c1) (size:=1) (i:=i) (k:=.i64) underlying26 Qd hi)
   obtain ⟨v1,rfl,x1⟩:=p1
   obtain ⟨B1,k1,rfl⟩:=x1.form
   have G3:=sd W (Qb.cell (t:=27) Qd (r1 0 _ rfl) l1 Qo)
   have G4:=sd W (Qb.intGt (t:=3) (k:=.i64) (a:=(((a.kc i).n:Nat):Int)) (b:=12) (z:=true) QpXX)
   exact QMSj
 refine goK (.loop 2) (k':=Qc cLs (.loop 2)) (e:=.nrm) [(4,.v qe2),(1,.p 0 0),qe1] hstG Zk (by kernel_rfl) fun g1 a1 w1 hst1 _=> ?_
 clear hst0 hstG
 refine Kf cLs 2 4 2 3 a.tab.nk (fun i=> !Kk (a.tab.keys i).n 12) (.bool false) (by omega) Qv hst1 (fun i hi hq=> ?_) (fun i hi hq=> ?_) Qv rfl Qd (fun i hi hq bs9 g9 a9 w9 hst=>QS hst (vs:=[.v (.bool false)]) Qd ⟨by rw [ls_key hi hq];rfl,hst.rp.below⟩) fun hl1 g2 a2 w2 hstG=> ?_
 · obtain ⟨b1,o1,d1,cs1,q1,l1,l1',p1,r1⟩:=t2.at hi
   cases q1
   have G1:=sd W (Qb.elem (t:=23) (e:=59) (b:=b1) (o:=o1) (n:=a.tab.nk) (c:=td) (size:=4) (i:=i) (k:=.i64) underlying23 Qd hi)
   obtain ⟨_,v1,rfl,x1⟩:=p1
   obtain ⟨B1,k1,rfl⟩:=x1.form
   have G3:=sd W (Qb.cell (t:=57) Qd (r1 1 _ rfl) l1 Qo)
   have G4:=sd W (Qb.intGt (t:=3) (k:=.i64) (a:=(((a.tab.keys i).n:Nat):Int)) (b:=12) (z:=false) QpXX)
   exact QMSj
 · obtain ⟨b1,o1,d1,cs1,q1,l1,l1',p1,r1⟩:=t2.at hi
   cases q1
   have G1:=sd W (Qb.elem (t:=23) (e:=59) (b:=b1) (o:=o1) (n:=a.tab.nk) (c:=td) (size:=4) (i:=i) (k:=.i64) underlying23 Qd hi)
   obtain ⟨_,v1,rfl,x1⟩:=p1
   obtain ⟨B1,k1,rfl⟩:=x1.form
   have G3:=sd W (Qb.cell (t:=57) Qd (r1 1 _ rfl) l1 Qo)
   have G4:=sd W (Qb.intGt (t:=3) (k:=.i64) (a:=(((a.tab.keys i).n:Nat):Int)) (b:=12) (z:=true) QpXX)
   exact QMSj
 refine goK (.loop 4) (k':=Qc cLs (.loop 4)) (e:=.nrm) [(5,.v qe2),(1,.p 0 0),qe1] hstG Zk (by kernel_rfl) fun g1 a1 w1 hst2 _=> ?_
 clear hst1 hstG
 refine Kt cLs 4 Qv a.nrw (fun i a' w'=>(∃ G,RC.St W.heap.size W nLs [(5,.v (.int .i64 (i:Nat))),(1,.p 0 0),qe1] x1x G a' w')∧ ∀ j,j<i→Jh (a.rw j)=true) ⟨⟨_,hst2⟩,fun j hj=>by omega⟩ (fun i hi a3 w3 hG=> ?_) (fun a3 w3 hG=> ?_)
 · obtain ⟨⟨G,hs⟩,hall⟩:=hG
   have T1:=sd W (Qb.ltN (t:=3) (i:=i) (n:=a.nrw) (z:=true) QOjj)
   obtain ⟨b1,o1,d1,cs1,q1,l1,l1',p1,r1⟩:=s3.at hi
   cases q1
   have G1:=sd W (Qb.elem (t:=28) (e:=32) (b:=b1) (o:=o1) (n:=a.nrw) (c:=c3) (size:=1) (i:=i) (k:=.i64) underlying28 Qd hi)
   obtain ⟨v1,rfl,x1⟩:=p1
   have x1':QR W 10 120 (a.rw i).n v1 (fun j ds=>QI W ((a.rw i).f j) ds):=x1
   have en:=x1'.len
   obtain ⟨B1,k1,rfl⟩:=x1.form
   have G3:=sd W (Qb.cell (t:=32) Qd (r1 0 _ rfl) l1 Qo)
   obtain ⟨z,hz⟩: ∃ z,Kk (a.rw i).n 12=z:=⟨_,rfl⟩
   have G4:=nGt W hz
   cases z
   rotate_left
   · refine goN .fin [qe1] hs (Jf T1 G1 G3 G4) (e:=.ret) (k':=[]) (by kernel_rfl) fun bs9 g9 a9 w9 hst=>Ki (QS hst (vs:=[.v (.bool false)]) Qd ⟨by rw [ls_rw hi (by simp only [Jh,hz,Bool.not_true,Bool.false_and])];rfl,hst.rp.below⟩)
   refine goK (.loop 6) (k':=Qc (Qn cLs 4) (.loop 6)) (e:=.nrm) [(6,.v qe2),(5,.v (.int .i64 (i:Nat))),(1,.p 0 0),qe1] hs (Jf T1 G1 G3 G4) (by kernel_rfl) fun g4 a4 w4 hsI _=> ?_
   clear hs
   refine cmpLoopP (Km G1 G3) (Qn cLs 4) 6 6 2 3 (a.rw i).n (fun k=>Zb ((a.rw i).f k) 60) (.bool false) (by omega) Qv hsI (fun k hk hq=> ?_) (fun k hk hq=> ?_) Qv rfl Qd (fun k hk hq bs9 g9 a9 w9 hst=>Ki (QS hst (vs:=[.v (.bool false)]) Qd ⟨by rw [ls_rw hi (by simp only [Jh,hz,Qw (r:=fun k=>Zb ((a.rw i).f k) 60) hk hq,Bool.and_false])];rfl,hst.rp.below⟩)) fun hlI g5 a5 w5 hsO=> ?_
   · obtain ⟨b2,o2,d2,cs2,q2,l2,l2',p2,r2⟩:=x1'.at hk
     cases q2
     have G6:=sd W (Qb.elem (t:=32) (e:=34) (b:=b2) (o:=o2) (n:=(a.rw i).n) (c:=k1) (size:=10) (i:=k) (k:=.i64) underlying32 Qd hk)
     have G7:=sd W (Qb.row (t:=34) Qd QQbV r2 l2 Qo)
     have G8:Sd W (.call 7 [.agg cs2.toArray,.int .i64 60] (.bool true)):=by
      rw [← hq]
      exact Qtj6
     exact QNb1
   · obtain ⟨b2,o2,d2,cs2,q2,l2,l2',p2,r2⟩:=x1'.at hk
     cases q2
     have G6:=sd W (Qb.elem (t:=32) (e:=34) (b:=b2) (o:=o2) (n:=(a.rw i).n) (c:=k1) (size:=10) (i:=k) (k:=.i64) underlying32 Qd hk)
     have G7:=sd W (Qb.row (t:=34) Qd QQbV r2 l2 Qo)
     have G8:Sd W (.call 7 [.agg cs2.toArray,.int .i64 60] (.bool false)):=by
      rw [← hq]
      exact Qtj6
     exact QNb1
   have GN:=sd W (Qb.inc (t:=3) (i:=i) (by omega))
   refine goK .fin (k':=[]) (e:=.nrm) [(5,.v (.int .i64 ((i+1:Nat):Int))),(1,.p 0 0),qe1] hsO (Zg GN) (by kernel_rfl) fun g6 a6 w6 h6 _=>⟨⟨g6,h6⟩,fun j hj=> ?_⟩
   by_cases e:j=i
   · rw [e,Jh,hz,Qx.2 hlI];rfl
   exact hall j (by omega)
 obtain ⟨⟨G,hs⟩,hl2⟩:=hG
 have T1:=sd W (Qb.ltN (t:=3) (i:=a.nrw) (n:=a.nrw) (z:=false) (by simp))
 refine goK .fin (k':=[]) (e:=.ex 4) [(1,.p 0 0),qe1] hs (Zg T1) (by kernel_rfl) fun g2 a2 w2 hstG _=>brk ?_
 clear hs T1
 refine goK (.loop 8) (k':=Qc cLs (.loop 8)) (e:=.nrm) [(7,.v qe2),(1,.p 0 0),qe1] hstG Zk (by kernel_rfl) fun g1 a1 w1 hst3 _=> ?_
 clear hst2 hstG
 refine Kf cLs 8 7 2 3 a.nst (fun i=>Zb (a.st i).e 100) (.bool false) (by omega) Qv hst3 (fun i hi hq=> ?_) (fun i hi hq=> ?_) Qv rfl Qd (fun i hi hq bs9 g9 a9 w9 hst=>QS hst (vs:=[.v (.bool false)]) Qd ⟨by rw [ls_st hi hq];rfl,hst.rp.below⟩) fun hl3 g2 a2 w2 hstG=> ?_
 · obtain ⟨b1,o1,d1,cs1,q1,l1,l1',p1,r1⟩:=s4.at hi
   cases q1
   have G1:=sd W (Qb.elem (t:=29) (e:=61) (b:=b1) (o:=o1) (n:=a.nst) (c:=c4) (size:=11) (i:=i) (k:=.i64) underlying29 Qd hi)
   obtain ⟨_,es1,rfl,x1⟩:=p1
   have G3:=sd W (Qb.row (t:=34) Qd QyFn (Zm r1) l1 Qo)
   have G5:Sd W (.call 7 [.agg es1.toArray,.int .i64 100] (.bool true)):=by
    rw [← hq]
    exact QKNG
   exact Qw0C
 · obtain ⟨b1,o1,d1,cs1,q1,l1,l1',p1,r1⟩:=s4.at hi
   cases q1
   have G1:=sd W (Qb.elem (t:=29) (e:=61) (b:=b1) (o:=o1) (n:=a.nst) (c:=c4) (size:=11) (i:=i) (k:=.i64) underlying29 Qd hi)
   obtain ⟨_,es1,rfl,x1⟩:=p1
   have G3:=sd W (Qb.row (t:=34) Qd QyFn (Zm r1) l1 Qo)
   have G5:Sd W (.call 7 [.agg es1.toArray,.int .i64 100] (.bool false)):=by
    rw [← hq]
    exact QKNG
   exact Qw0C
 refine goK (.loop 10) (k':=Qc cLs (.loop 10)) (e:=.nrm) [(8,.v qe2),(1,.p 0 0),qe1] hstG Zk (by kernel_rfl) fun g1 a1 w1 hst4 _=> ?_
 clear hst3 hstG
 refine Kf cLs 10 8 2 3 a.nit (fun i=>Zb (a.it i).e 100) (.bool false) (by omega) Qv hst4 (fun i hi hq=> ?_) (fun i hi hq=> ?_) Qv rfl Qd (fun i hi hq bs9 g9 a9 w9 hst=>QS hst (vs:=[.v (.bool false)]) Qd ⟨by rw [ls_it hi hq];rfl,hst.rp.below⟩) fun hl4 g2 a2 w2 hstG=> ?_
 · obtain ⟨b1,o1,d1,cs1,q1,l1,l1',p1,r1⟩:=s5.at hi
   cases q1
   have G1:=sd W (Qb.elem (t:=35) (e:=63) (b:=b1) (o:=o1) (n:=a.nit) (c:=c5) (size:=12) (i:=i) (k:=.i64) underlying35 Qd hi)
   obtain ⟨_,es1,rfl,x1⟩:=p1
   have G3:=sd W (Qb.row (t:=34) Qd QyFn (ZJ (Zm r1)) l1 Qo)
   have G5:Sd W (.call 7 [.agg es1.toArray,.int .i64 100] (.bool true)):=by
    rw [← hq]
    exact QvOQ
   exact Qw0C
 · obtain ⟨b1,o1,d1,cs1,q1,l1,l1',p1,r1⟩:=s5.at hi
   cases q1
   have G1:=sd W (Qb.elem (t:=35) (e:=63) (b:=b1) (o:=o1) (n:=a.nit) (c:=c5) (size:=12) (i:=i) (k:=.i64) underlying35 Qd hi)
   obtain ⟨_,es1,rfl,x1⟩:=p1
   have G3:=sd W (Qb.row (t:=34) Qd QyFn (ZJ (Zm r1)) l1 Qo)
   have G5:Sd W (.call 7 [.agg es1.toArray,.int .i64 100] (.bool false)):=by
    rw [← hq]
    exact QvOQ
   exact Qw0C
 refine goK (.loop 12) (k':=Qc cLs (.loop 12)) (e:=.nrm) [(9,.v qe2),(1,.p 0 0),qe1] hstG Zk (by kernel_rfl) fun g1 a1 w1 hst5 _=> ?_
 clear hst4 hstG
 refine Kf cLs 12 9 2 3 a.nfr (fun i=>Zb (a.fr i).e 100) (.bool false) (by omega) Qv hst5 (fun i hi hq=> ?_) (fun i hi hq=> ?_) Qv rfl Qd (fun i hi hq bs9 g9 a9 w9 hst=>QS hst (vs:=[.v (.bool false)]) Qd ⟨by rw [ls_fr hi hq];rfl,hst.rp.below⟩) fun hl5 g2 a2 w2 hstG=> ?_
 · obtain ⟨b1,o1,d1,cs1,q1,l1,l1',p1,r1⟩:=s6.at hi
   cases q1
   have G1:=sd W (Qb.elem (t:=36) (e:=65) (b:=b1) (o:=o1) (n:=a.nfr) (c:=c6) (size:=13) (i:=i) (k:=.i64) underlying36 Qd hi)
   obtain ⟨_,_,es1,rfl,x1⟩:=p1
   have G3:=sd W (Qb.row (t:=34) Qd QyFn (Zm (Zm (Zm r1))) l1 Qo)
   have G5:Sd W (.call 7 [.agg es1.toArray,.int .i64 100] (.bool true)):=by
    rw [← hq]
    exact QVvL
   exact Qw0C
 · obtain ⟨b1,o1,d1,cs1,q1,l1,l1',p1,r1⟩:=s6.at hi
   cases q1
   have G1:=sd W (Qb.elem (t:=36) (e:=65) (b:=b1) (o:=o1) (n:=a.nfr) (c:=c6) (size:=13) (i:=i) (k:=.i64) underlying36 Qd hi)
   obtain ⟨_,_,es1,rfl,x1⟩:=p1
   have G3:=sd W (Qb.row (t:=34) Qd QyFn (Zm (Zm (Zm r1))) l1 Qo)
   have G5:Sd W (.call 7 [.agg es1.toArray,.int .i64 100] (.bool false)):=by
    rw [← hq]
    exact QVvL
   exact Qw0C
 refine goK (.loop 14) (k':=Qc cLs (.loop 14)) (e:=.nrm) [(10,.v qe2),(1,.p 0 0),qe1] hstG Zk (by kernel_rfl) fun g1 a1 w1 hst6 _=> ?_
 clear hst5 hstG
 refine Kf cLs 14 10 2 3 a.nor (fun i=>Zb (a.od i).e 100) (.bool false) (by omega) Qv hst6 (fun i hi hq=> ?_) (fun i hi hq=> ?_) Qv rfl Qd (fun i hi hq bs9 g9 a9 w9 hst=>QS hst (vs:=[.v (.bool false)]) Qd ⟨by rw [ls_od hi hq];rfl,hst.rp.below⟩) fun hl6 g2 a2 w2 hstG=> ?_
 · obtain ⟨b1,o1,d1,cs1,q1,l1,l1',p1,r1⟩:=s8.at hi
   cases q1
   have G1:=sd W (Qb.elem (t:=37) (e:=67) (b:=b1) (o:=o1) (n:=a.nor) (c:=c8) (size:=11) (i:=i) (k:=.i64) underlying37 Qd hi)
   obtain ⟨es1,rfl,x1⟩:=p1
   have G3:=sd W (Qb.row (t:=34) Qd QyFn (ZJ r1) l1 Qo)
   have G5:Sd W (.call 7 [.agg es1.toArray,.int .i64 100] (.bool true)):=by
    rw [← hq]
    exact QxSW
   exact Qw0C
 · obtain ⟨b1,o1,d1,cs1,q1,l1,l1',p1,r1⟩:=s8.at hi
   cases q1
   have G1:=sd W (Qb.elem (t:=37) (e:=67) (b:=b1) (o:=o1) (n:=a.nor) (c:=c8) (size:=11) (i:=i) (k:=.i64) underlying37 Qd hi)
   obtain ⟨es1,rfl,x1⟩:=p1
   have G3:=sd W (Qb.row (t:=34) Qd QyFn (ZJ r1) l1 Qo)
   have G5:Sd W (.call 7 [.agg es1.toArray,.int .i64 100] (.bool false)):=by
    rw [← hq]
    exact QxSW
   exact Qw0C
 refine goK (.loop 16) (k':=Qc cLs (.loop 16)) (e:=.nrm) [(11,.v qe2),(1,.p 0 0),qe1] hstG Zk (by kernel_rfl) fun g1 a1 w1 hst7 _=> ?_
 clear hst6 hstG
 refine Kf cLs 16 11 2 3 a.gr.n (fun i=>Zb (a.gr.f i) 100) (.bool false) (by omega) Qv hst7 (fun i hi hq=> ?_) (fun i hi hq=> ?_) Qv rfl Qd (fun i hi hq bs9 g9 a9 w9 hst=>QS hst (vs:=[.v (.bool false)]) Qd ⟨by rw [ls_gr hi hq];rfl,hst.rp.below⟩) fun hl7 g2 a2 w2 hstG=> ?_
 · obtain ⟨b1,o1,d1,cs1,q1,l1,l1',p1,r1⟩:=s7.at hi
   cases q1
   have G1:=sd W (Qb.elem (t:=32) (e:=34) (b:=b1) (o:=o1) (n:=a.gr.n) (c:=c7) (size:=10) (i:=i) (k:=.i64) underlying32 Qd hi)
   have x1:QI W (a.gr.f i) cs1:=p1
   obtain ⟨es1,hes⟩: ∃ es1,es1=cs1:=⟨_,rfl⟩
   rw [← hes] at x1 r1
   have G3:=sd W (Qb.row (t:=34) Qd QyFn r1 l1 Qo)
   have G5:Sd W (.call 7 [.agg es1.toArray,.int .i64 100] (.bool true)):=by
    rw [← hq]
    exact QJph
   exact Qw0C
 · obtain ⟨b1,o1,d1,cs1,q1,l1,l1',p1,r1⟩:=s7.at hi
   cases q1
   have G1:=sd W (Qb.elem (t:=32) (e:=34) (b:=b1) (o:=o1) (n:=a.gr.n) (c:=c7) (size:=10) (i:=i) (k:=.i64) underlying32 Qd hi)
   have x1:QI W (a.gr.f i) cs1:=p1
   obtain ⟨es1,hes⟩: ∃ es1,es1=cs1:=⟨_,rfl⟩
   rw [← hes] at x1 r1
   have G3:=sd W (Qb.row (t:=34) Qd QyFn r1 l1 Qo)
   have G5:Sd W (.call 7 [.agg es1.toArray,.int .i64 100] (.bool false)):=by
    rw [← hq]
    exact QJph
   exact Qw0C
 obtain ⟨zw,yw⟩: ∃ z,Zb a.wh 200=z:=⟨_,rfl⟩
 obtain ⟨zh,yh⟩: ∃ z,Zb a.hv 200=z:=⟨_,rfl⟩
 have Cw:Sd W (.call 7 [eV wk wo wvk wvn wvt wtb wnm wA wn wc wpl wty,.int .i64 200] (.bool zw)):=by
  rw [← yw]
  exact Qb.of func7 rfl Qd (fun w hw=>KU a.wh _ w 200 (sw.sub (.below hw)))
 have Ch:Sd W (.call 7 [eV hk ho hvk hvn hvt htb hnm hA hn hc hpl hty,.int .i64 200] (.bool zh)):=by
  rw [← yh]
  exact Qb.of func7 rfl Qd (fun w hw=>KU a.hv _ w 200 (sh.sub (.below hw)))
 have fin:Q6 a=(zw&&zh):=by
  simp only [Q6,x0,x1,x2,x3,x4,x5,x6,x7,x8,x9,Qx.2 hl0,Qx.2 hl1,Qx.2 hl2,Qx.2 hl3,Qx.2 hl4,Qx.2 hl5,Qx.2 hl6,Qx.2 hl7,yw,yh,Bool.not_false,Bool.true_and]
 rw [fin]
 cases zw
 · exact gE hstG (Zg Cw) [.bool false] fun w' hw=>⟨rfl,hw⟩
 exact gE hstG (Km Cw Ch) [.bool zh] fun w' hw=>⟨rfl,hw⟩
end
end Go.Proofs.YtddedijencleeaaGreatDoor

/- What light says of texts and depths. No program's code. -/
set_option linter.all false
namespace Go.Proofs.YtddedijencleeaaGreatDoor
open Go.RowKit Go.Lib RC
def Ja:Nat→(Nat→Nat)→Nat
 | 0,_=>0
 | n+1,f=>Ja n f+f n
theorem sumL_shift (f:Nat→Nat): ∀ n,f 0+Ja n (fun i=>f (i+1))=Ja (n+1) f
 | 0=>by simp [Ja]
 | n+1=>by
   rw [Ja,Ja, ← sumL_shift f n];omega
theorem sumL_le {n:Nat} {f g:Nat→Nat} (h: ∀ i,i<n→f i≤g i):Ja n f≤Ja n g:=by
 induction n with
 | zero=>exact Nat.le_refl _
 | succ n ih=>
  have:=ih fun i hi=>h i (by omega)
  have:=h n (by omega)
  rw [Ja,Ja];omega
theorem joinN_len (t:Nat→List UInt8): ∀ n,(Qk n t).length≤Ja n (fun i=>(t i).length)+2*n
 | 0=>by simp [Qk,Ja]
 | n+1=>by
   have:=joinN_len t n
   rw [Qk,Ja]
   split <;> simp <;> omega
theorem casesN_len (t:Nat→List UInt8): ∀ m,(Zo m t).length=Ja (2*m) (fun i=>(t i).length)+12*m
 | 0=>by simp [Zo,Ja]
 | m+1=>by
   have:=casesN_len t m
   rw [Zo,show 2*(m+1)=2*m+1+1 by omega,Ja,Ja]
   simp only [lS]
   omega
theorem concN_len (t:Nat→List UInt8): ∀ n,(ZF n t).length=Ja n (fun i=>(t i).length)
 | 0=>rfl
 | n+1=>by rw [ZF,Ja,List.length_append,concN_len t n]
theorem inB_le (z:Bool) (l:List UInt8):(Kd z l).length≤l.length+2:=by cases z <;> simp [Kd]
theorem sumL_const (f:Nat→Nat) (B:Nat): ∀ n,(∀ i,i<n→f i≤B)→Ja n f≤n*B
 | 0,_=>by simp [Ja]
 | n+1,h=>by
   have:=sumL_const f B n fun i hi=>h i (by omega)
   have:=h n (by omega)
   rw [Ja,Nat.succ_mul];omega
theorem printS_len (k n:Int) (s:ByteArray) (hn:KM n):(Jb k n s).data.toList.length≤2*s.size+40:=by
 unfold Jb
 split
 · simp
 split
 · simp
 split
 · split <;> simp
 split
 · have:=itoa_len n hn;simp;omega
 have:=dbl_len s.data.toList
 have e:=QK s
 simp only [quotedS,Qi,lS]
 omega
theorem unaryL_le (op:Int) (t:List UInt8):(Qp op t).length≤t.length+12:=by
 unfold Qp
 repeat' split
 all_goals (simp only [lS];omega)
theorem aggL_len (op:Int):(aggL op).length≤5:=by
 unfold aggL
 repeat' split
 all_goals simp
theorem node_len {k op vk vn:Int} {vt tb nm:ByteArray} {n:Nat} {args:Nat→E} {pl ty:Int} (hn:KM vn) (h:QH (.mk k op vk vn vt tb nm n args pl ty)=true):(Qg (.mk k op vk vn vt tb nm n args pl ty)).length≤2*vt.size+nm.size+tb.size+60+Ja n (fun i=>(Qg (args i)).length)+12*n:=by
 obtain ⟨_,hk,p3,p4,p5,p6,p7⟩:=Kb h
 clear h
 rw [Qg]
 by_cases k1:k=1
 · subst k1
   have:=printS_len vk vn vt hn
   simp only [beq_self_eq_true,if_true];omega
 by_cases k2:k=2
 · subst k2
   have e1:=QK nm
   have e2:=QK tb
   simp only [show ((2:Int)==1)=false by decide,beq_self_eq_true,if_true,Bool.false_eq_true,if_false]
   split
   · omega
   simp only [lS];omega
 have e1:(k==1)=false:=by rw [beq_eq_false_iff_ne];exact k1
 have e2:(k==2)=false:=by rw [beq_eq_false_iff_ne];exact k2
 simp only [e1,e2,Bool.false_eq_true,if_false]
 by_cases k3:k=3
 · obtain ⟨g,_⟩:=p3 k3
   subst g
   have e3:(k==3)=true:=by rw [beq_iff_eq];exact k3
   have q1:=unaryL_le op (Kd (Qs k op (args 0)) (Qg (args 0)))
   have q2:=inB_le (Qs k op (args 0)) (Qg (args 0))
   simp only [e3,if_true,Ja];omega
 have e3:(k==3)=false:=by rw [beq_eq_false_iff_ne];exact k3
 simp only [e3,Bool.false_eq_true,if_false]
 by_cases k4:k=4
 · obtain ⟨g,_⟩:=p4 k4
   subst g
   have e4:(k==4)=true:=by rw [beq_iff_eq];exact k4
   have q1:=inB_le (Qs k op (args 0)) (Qg (args 0))
   have q2:=inB_le (Qs k op (args 1)) (Qg (args 1))
   have q3:=signL_len op
   simp only [e4,if_true,Ja,lS];omega
 have e4:(k==4)=false:=by rw [beq_eq_false_iff_ne];exact k4
 simp only [e4,Bool.false_eq_true,if_false]
 by_cases k5:k=5
 · have g:=p5 k5
   obtain ⟨m,rfl⟩: ∃ m,n=m+1:=⟨n - 1,by omega⟩
   have e5:(k==5)=true:=by rw [beq_iff_eq];exact k5
   have q1:=inB_le (Qs k op (args 0)) (Qg (args 0))
   have q2:=joinN_len (fun i=>Qg (args (i+1))) m
   have q3:=sumL_shift (fun i=>(Qg (args i)).length) m
   simp only [e5,if_true,show m+1 - 1=m by omega,lS];omega
 have e5:(k==5)=false:=by rw [beq_eq_false_iff_ne];exact k5
 simp only [e5,Bool.false_eq_true,if_false]
 by_cases k6:k=6
 · have e6:(k==6)=true:=by rw [beq_iff_eq];exact k6
   have q1:=casesN_len (fun i=>Qg (args i)) (n / 2)
   simp only [e6,if_true,QC,lS]
   by_cases e:n % 2=1
   · have q2:Ja (2*(n / 2)+1) (fun i=>(Qg (args i)).length)=Ja n (fun i=>(Qg (args i)).length):=by rw [show 2*(n / 2)+1=n by omega]
     rw [Ja] at q2
     rw [if_pos e,show n - 1=2*(n / 2) by omega]
     simp only [lS];omega
   have q2:Ja (2*(n / 2)) (fun i=>(Qg (args i)).length)=Ja n (fun i=>(Qg (args i)).length):=by rw [show 2*(n / 2)=n by omega]
   rw [if_neg e]
   simp only [List.length_nil];omega
 have e6:(k==6)=false:=by rw [beq_eq_false_iff_ne];exact k6
 have e7:(k==7)=true:=by rw [beq_iff_eq];omega
 simp only [e6,e7,Bool.false_eq_true,if_false,if_true,QX,List.length_append]
 have q1:=aggL_len op
 have q2:=joinN_len (fun i=>Qg (args i)) n
 split <;> (simp only [List.length_cons,List.length_nil];omega)
end Go.Proofs.YtddedijencleeaaGreatDoor
