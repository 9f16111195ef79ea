/- consistoryref9.Copy, bared: contract. -/
import Derived.Test.YtddedijencleeaaGreatDoorSm
import Derived.Test.YtddedijencleeaaGreatDoorMSq
import Derived.Test.YtddedijencleeaaGreatDoorMGi
import Derived.Test.YtddedijencleeaaGreatDoorMGl
import Derived.Test.YtddedijencleeaaGreatDoorMGo
set_option linter.all false
namespace Go.Proofs.YtddedijencleeaaGreatDoor
set_option maxRecDepth 100000
set_option maxHeartbeats 8000000
open Tryz
noncomputable section
open Go.RowKit Go.Lib RC

noncomputable abbrev cCo:Code:=Qt f77
noncomputable def zStmt:List RV:=match zerC prog 39 with
 | some cs=>cs
 | none=>[]
abbrev qc1:Nat × RV:=(1,.v (.bool true))
abbrev qc2:Nat × Value:=(1,.bool true)
abbrev qc3:Value:=(.slice none 0 0)
abbrev qc4:Value:=(.int .i64 (0:Nat))
theorem copy_ok (a:S) (ca:List Value) (W:World) (ha:Ks W a ca) :
 Calls prog 77 #[.agg ca.toArray,.bool true] W fun r W'=> ∃ ds,r= .returned (.agg ds.toArray)∧Ks (World.only W' fun b=>W.heap.size≤b) (JA a) ds∧Below W.heap.size W W':=by
 obtain ⟨ta,vkc,vcl,vrw,vst,wh,vit,vfr,vgr,hv,vor,rfl,ia⟩:=ha
 have wf:=ia.wf
 have wt:=ia.tab.1
 obtain ⟨tA,tc,tB,td,rfl,t1,t2⟩:=TaIn.form' ia.tab
 have s1:=ia.kc
 obtain ⟨A1,c1,rfl⟩:=ia.kc.form
 have s2:=ia.cl
 obtain ⟨A2,c2,rfl⟩:=ia.cl.form
 have s3:=ia.rw
 obtain ⟨A3,c3,rfl⟩:=ia.rw.form
 have s4:=ia.st
 obtain ⟨A4,c4,rfl⟩:=ia.st.form
 have s5:=ia.it
 obtain ⟨A5,c5,rfl⟩:=ia.it.form
 have s6:=ia.fr
 obtain ⟨A6,c6,rfl⟩:=ia.fr.form
 have s7:=ia.gr
 obtain ⟨A7,c7,rfl⟩:=ia.gr.form
 have s8:=ia.od
 obtain ⟨A8,c8,rfl⟩:=ia.od.form
 have sw:=ia.wh
 have sh:=ia.hv
 obtain ⟨wk,wo,wvk,wvn,wvt,wtb,wnm,wA,wn,wc,wpl,wty,rfl⟩:=ia.wh.form
 obtain ⟨hk,ho,hvk,hvn,hvt,htb,hnm,hA,hn,hc,hpl,hty,rfl⟩:=ia.hv.form
 clear ia
 have byOf: ∀ {size bytes n:Nat} {v:Value} {P:Nat→List Value→Prop},QR W size bytes n v P→n*bytes≤140737488355328:=fun h=>by obtain ⟨_,_,_,_,_,h,_⟩:=h;exact h
 have K1:Sd W (.app 22 22 qc3 (.slice tA a.tab.nc tc) (pB1 a)):=Qb.appNil underlying22 infc_Column rfl (by decide) t1 rfl
 have K2:Sd W (.app 27 27 qc3 (.slice A2 a.cl.n c2) (pB4 a)):=Qb.appNil underlying27 infc_string rfl (by decide) s2 rfl
 have K3:=sd W (Qb.cells (f:=148) (args:=[eV wk wo wvk wvn wvt wtb wnm wA wn wc wpl wty,.bool true]) (m:=10) (q:=fun w ds=>QI w (QV a.wh) ds) QKfY func148 rfl Qd (fun w ds h=>QI.ones h) (fun w hw=>copied_ok a.wh _ w (QI.sub (.below hw) sw)))
 have K4:=sd W (Qb.cells (f:=148) (args:=[eV hk ho hvk hvn hvt htb hnm hA hn hc hpl hty,.bool true]) (m:=10) (q:=fun w ds=>QI w (QV a.hv) ds) QKfY func148 rfl Qd (fun w ds h=>QI.ones h) (fun w hw=>copied_ok a.hv _ w (QI.sub (.below hw) sh)))
 have K5:Sd W (.opq 147 [.slice A7 a.gr.n c7,.bool true] 1 (.x 0 0) (pB11 a)):=Qb.one (P:=prog) (N:=W.heap.size) (W:=W) (f:=147) (args:=[.slice A7 a.gr.n c7,.bool true]) (q:=fun w u=>Z6 w (ZN a.gr).n (ZN a.gr).f u) QMDu func147 rfl Qd QX7N (fun w hw=>copies_ok (s7.sub (.below hw)))
 refine Qj (c:=cCo) func77 rfl (by kernel_rfl) fun a0 hst=> ?_
 refine gO cCo (.loop 0) [(7,.v qc4),(6,.v qc3),qc1,(2,.p 0 0),(4,.p 1 0),(5,.p 2 0)] [.box (.v (.int .i64 a.kind):: .v (.string a.tab.nm):: .v (.slice tA a.tab.nc tc):: .v (.slice tB a.tab.nk td):: .v (.slice A1 a.nkc c1):: .v (.string a.nm):: .v (.string a.ix):: .v (.bool a.un):: .v (.slice A2 a.cl.n c2):: .v (.slice A3 a.nrw c3):: .v (.slice A4 a.nst c4)::([.v (.int .i64 wk),.v (.int .i64 wo),.v (.int .i64 wvk),.v (.int .i64 wvn),.v (.string wvt),.v (.string wtb),.v (.string wnm),.v (.slice wA wn wc),.v (.int .i64 wpl),.v (.int .i64 wty)]++(.v (.bool a.di):: .v (.slice A5 a.nit c5):: .v (.slice A6 a.nfr c6):: .v (.slice A7 a.gr.n c7)::([.v (.int .i64 hk),.v (.int .i64 ho),.v (.int .i64 hvk),.v (.int .i64 hvn),.v (.string hvt),.v (.string htb),.v (.string hnm),.v (.slice hA hn hc),.v (.int .i64 hpl),.v (.int .i64 hty)]++[.v (.slice A8 a.nor c8),.v (.int .i64 a.li)])))),.box zStmt,.box [.v (.string a.tab.nm),.x 3 0,.v (.slice tB a.tab.nk td)],.unk 1 (pB1 a)] hst (Zg K1) fun gL1 a1 w1 hL1 _=> ?_
 clear hst
 refine rowLoopR cCo 0 7 6 a.tab.nk 59 4 (fun W1 i cs=>KeIn W1 (a.tab.keys i) cs) Qv hL1 (fun i hi row wr a2 css hO hr h2=> ?_) (fun row wr a2 css hO h2=> ?_)
 · have hs0:Jw W wr:=Jw.trans (.below hL1.rp.below) QyAJ
   clear hL1
   generalize gL1=G at hr h2 ⊢
   have hsl:=t2.sub hs0
   obtain ⟨b1,o1,d1,cs1,q1,l1,l1',p1,r1⟩:=hsl.at hi
   cases q1
   have GL:=Qb.ofBox (P:=prog) (W:=W) hr (i:=2) rfl (t:=23) (o:=2) Qd rfl
   have GT:=sd wr (Qb.ltN (t:=3) (i:=i) (n:=a.tab.nk) (z:=true) QOjj)
   have GI:=sd wr (Qb.elem (t:=23) (e:=59) (b:=b1) (o:=o1) (n:=a.tab.nk) (c:=td) (size:=4) (i:=i) (k:=.i64) underlying23 Qd hi)
   obtain ⟨pn,v1,rfl,x1⟩:=p1
   obtain ⟨B1,e1,rfl⟩:=QR.form x1
   replace x1:=QR.sub x1 hs0
   have GR:=sd wr (Qb.row (t:=59) Qd Qjph r1 l1 Qo)
   have GA:Sd wr (.app 57 57 qc3 (.slice B1 (a.tab.keys i).n e1) (po1 (fun w v=>QR w 1 8 (a.tab.keys i).n v (fun j ds=>ds=[.int .i64 ((a.tab.keys i).cols j)]∧KM ((a.tab.keys i).cols j))) QdrA)):=Qb.appNil underlying57 infc_int rfl (by decide) x1 rfl
   have byL:=byOf t2
   refine gO (Qn cCo 0) (.op 9 3) ((45,.v row)::(47,.s 2 0 1 1)::vfr ((7,.int .i64 (i:Nat))::[qc2,(2,.pointer (some ⟨G.g 0,0,none⟩)),(4,.pointer (some ⟨G.g 1,0,none⟩)),(5,.pointer (some ⟨G.g 2,0,none⟩))])) [.box [.v (.string (a.tab.keys i).nm),.x 1 0,.v (.bool (a.tab.keys i).un),.v (.bool (a.tab.keys i).pr)],(.unk 1 (po1 (fun w v=>QR w 1 8 (a.tab.keys i).n v (fun j ds=>ds=[.int .i64 ((a.tab.keys i).cols j)]∧KM ((a.tab.keys i).cols j))) QdrA)),.box [.v (.string (a.tab.keys i).nm),.x 1 0,.v (.bool (a.tab.keys i).un),.v (.bool (a.tab.keys i).pr)]] h2 (Je GL GT GL GI GR GA) fun G3 a3 w3 h3 _=> ?_
   obtain ⟨u,hu,hq⟩:=Rp.one h3.rp (i:=1) rfl
   refine Z5 (te:=23) (e:=59) (z:=(.agg z_Key.toArray)) (bytes:=48) (sA:=45) (sY:=47) (d:=48) (jb:=2) (cs:=[.v (.string (a.tab.keys i).nm),.x 1 0,.v (.bool (a.tab.keys i).un),.v (.bool (a.tab.keys i).pr)]) (k':=Qc (Qn cCo 0) (.op 9 4)) ((7,.int .i64 (i:Nat))::[qc2,(2,.pointer (some ⟨G.g 0,0,none⟩)),(4,.pointer (some ⟨G.g 1,0,none⟩)),(5,.pointer (some ⟨G.g 2,0,none⟩))]) h3 (o:=opOf (Qc (Qn cCo 0) (.op 9 3))) Qv Qv Qv Qd rfl rfl rfl rfl underlying23 inf_Key rfl (by decide) (by omega) (by omega) hO QmeO (rfl) (by simp only [Qu,RV.conc,hu,List.mem_cons,List.not_mem_nil,or_false];rintro x (rfl | rfl | rfl | rfl) <;> first | rfl | exact QR.one hq) (⟨pn,u,by simp only [Qu,RV.conc,hu];rfl,hq⟩) fun v' w' a4 hO4 h4=> ?_
   have GN4:=sd w' (Qb.inc (t:=3) (i:=i) (by omega))
   refine goK .fin (k':=[]) (e:=.nrm) (vfr ((7,.int .i64 ((i+1:Nat):Int))::(6,v')::[qc2,(2,.pointer (some ⟨G.g 0,0,none⟩)),(4,.pointer (some ⟨G.g 1,0,none⟩)),(5,.pointer (some ⟨G.g 2,0,none⟩))])) (h4.st w') (Zg GN4) (by kernel_rfl) fun G5 a5 w5 h5 _=> ?_
   exact ⟨v',_,h5.ev,hO4.keep QmeO h5.rp.below⟩
 have GT:=sd W (Qb.ltN (t:=3) (i:=a.tab.nk) (n:=a.tab.nk) (z:=false) (by simp))
 obtain ⟨G6,h6,_⟩:=St.row (bytes:=48) (pB2 a) (h2.less (fr':=(6,.v row)::(7,.v (.int .i64 (a.tab.nk:Nat)))::[qc1,(2,.p 0 0),(4,.p 1 0),(5,.p 2 0)]) rfl) hL1.rp hO QmeO (byOf t2) (fun w h=>⟨row,rfl,h⟩)
 clear hL1 h2 hO
 refine goK .fin (k':=[]) (e:=.ex 0) [(6,.x 4 0),qc1,(2,.p 0 0),(4,.p 1 0),(5,.p 2 0)] h6 (Zg GT) (by kernel_rfl) fun G5 a5 w5 h5 _=>brk ?_
 clear h6
 refine gO cCo (.loop 2) [(10,.v qc4),(9,.v qc3),qc1,(2,.p 0 0),(4,.p 1 0)] [.box (.v (.int .i64 a.kind):: .v (.string a.tab.nm):: .x 3 0:: .x 4 0:: .v (.slice A1 a.nkc c1):: .v (.string a.nm):: .v (.string a.ix):: .v (.bool a.un):: .v (.slice A2 a.cl.n c2):: .v (.slice A3 a.nrw c3):: .v (.slice A4 a.nst c4)::([.v (.int .i64 wk),.v (.int .i64 wo),.v (.int .i64 wvk),.v (.int .i64 wvn),.v (.string wvt),.v (.string wtb),.v (.string wnm),.v (.slice wA wn wc),.v (.int .i64 wpl),.v (.int .i64 wty)]++(.v (.bool a.di):: .v (.slice A5 a.nit c5):: .v (.slice A6 a.nfr c6):: .v (.slice A7 a.gr.n c7)::([.v (.int .i64 hk),.v (.int .i64 ho),.v (.int .i64 hvk),.v (.int .i64 hvn),.v (.string hvt),.v (.string htb),.v (.string hnm),.v (.slice hA hn hc),.v (.int .i64 hpl),.v (.int .i64 hty)]++[.v (.slice A8 a.nor c8),.v (.int .i64 a.li)])))),.box zStmt,.box [.v (.string a.tab.nm),.x 3 0,.x 4 0],.unk 1 (pB1 a),.unk 1 (pB2 a)] h5 Zk fun gL2 a1 w1 hL2 _=> ?_
 clear h5
 refine rowLoopR cCo 2 10 9 a.nkc 27 1 (fun W1 i cs=> ∃ v,cs=[v]∧ZD W1 (a.kc i).n (a.kc i).f v) Qv hL2 (fun i hi row wr a2 css hO hr h2=> ?_) (fun row wr a2 css hO h2=> ?_)
 · have hs0:Jw W wr:=Jw.trans (.below hL2.rp.below) QyAJ
   clear hL2
   generalize gL2=G at hr h2 ⊢
   have hsl:=s1.sub hs0
   obtain ⟨b1,o1,d1,cs1,q1,l1,l1',p1,r1⟩:=hsl.at hi
   cases q1
   have GL:=Qb.ofBox (P:=prog) (W:=W) hr (i:=0) rfl (t:=26) (o:=4) Qd rfl
   have GT:=sd wr (Qb.ltN (t:=3) (i:=i) (n:=a.nkc) (z:=true) QOjj)
   have GI:=sd wr (Qb.elem (t:=26) (e:=27) (b:=b1) (o:=o1) (n:=a.nkc) (c:=c1) (size:=1) (i:=i) (k:=.i64) underlying26 Qd hi)
   obtain ⟨v1,rfl,x1⟩:=p1
   obtain ⟨B1,e1,rfl⟩:=ZD.form x1
   replace x1:=ZD.sub hs0 x1
   have GR:=sd wr (Qb.cell (t:=27) Qd (r1 0 _ rfl) l1 Qo)
   have GA:Sd wr (.app 27 27 qc3 (.slice B1 (a.kc i).n e1) (po1 (fun w v=>ZD w (a.kc i).n (a.kc i).f v) QdrA)):=Qb.appNil underlying27 infc_string rfl (by decide) x1 rfl
   have byL:=byOf s1
   refine gO (Qn cCo 2) (.op 16 8) ((60,.v row)::(67,.s 1 0 1 1)::vfr ((10,.int .i64 (i:Nat))::[qc2,(2,.pointer (some ⟨G.g 0,0,none⟩)),(4,.pointer (some ⟨G.g 1,0,none⟩))])) [.unk 1 (po1 (fun w v=>ZD w (a.kc i).n (a.kc i).f v) QdrA),.box [.x 0 0]] h2 (Je GL GT GL GI GR GA) fun G3 a3 w3 h3 _=> ?_
   obtain ⟨u,hu,hq⟩:=Rp.one h3.rp (i:=0) rfl
   refine Z5 (te:=26) (e:=27) (z:=qc3) (bytes:=24) (sA:=60) (sY:=67) (d:=68) (jb:=1) (cs:=[.x 0 0]) (k':=Qc (Qn cCo 2) (.op 16 9)) ((10,.int .i64 (i:Nat))::[qc2,(2,.pointer (some ⟨G.g 0,0,none⟩)),(4,.pointer (some ⟨G.g 1,0,none⟩))]) h3 (o:=opOf (Qc (Qn cCo 2) (.op 16 8))) Qv Qv Qv Qd rfl rfl rfl rfl underlying26 inf1_Ns rfl (by decide) (by omega) (by omega) hO QlgO (rfl) QwDR (⟨u,by simp only [Qu,RV.conc,hu];rfl,hq⟩) fun v' w' a4 hO4 h4=> ?_
   have GN4:=sd w' (Qb.inc (t:=3) (i:=i) (by omega))
   refine goK .fin (k':=[]) (e:=.nrm) (vfr ((10,.int .i64 ((i+1:Nat):Int))::(9,v')::[qc2,(2,.pointer (some ⟨G.g 0,0,none⟩)),(4,.pointer (some ⟨G.g 1,0,none⟩))])) (h4.st w') (Zg GN4) (by kernel_rfl) fun G5 a5 w5 h5 _=> ?_
   exact Qcrs
 have GT:=sd W (Qb.ltN (t:=3) (i:=a.nkc) (n:=a.nkc) (z:=false) (by simp))
 obtain ⟨G6,h6,_⟩:=St.row (bytes:=24) (pB3 a) (h2.less (fr':=(9,.v row)::(10,.v (.int .i64 (a.nkc:Nat)))::[qc1,(2,.p 0 0),(4,.p 1 0)]) rfl) hL2.rp hO QlgO (byOf s1) (fun w h=>⟨row,rfl,h⟩)
 clear hL2 h2 hO
 refine goK .fin (k':=[]) (e:=.ex 2) [(9,.x 5 0),qc1,(2,.p 0 0),(4,.p 1 0)] h6 (Zg GT) (by kernel_rfl) fun G5 a5 w5 h5 _=>brk ?_
 clear h6
 refine gO cCo (.loop 4) [(12,.v qc4),(11,.v qc3),qc1,(2,.p 0 0),(4,.p 1 0)] [.box (.v (.int .i64 a.kind):: .v (.string a.tab.nm):: .x 3 0:: .x 4 0:: .x 5 0:: .v (.string a.nm):: .v (.string a.ix):: .v (.bool a.un):: .x 6 0:: .v (.slice A3 a.nrw c3):: .v (.slice A4 a.nst c4)::([.v (.int .i64 wk),.v (.int .i64 wo),.v (.int .i64 wvk),.v (.int .i64 wvn),.v (.string wvt),.v (.string wtb),.v (.string wnm),.v (.slice wA wn wc),.v (.int .i64 wpl),.v (.int .i64 wty)]++(.v (.bool a.di):: .v (.slice A5 a.nit c5):: .v (.slice A6 a.nfr c6):: .v (.slice A7 a.gr.n c7)::([.v (.int .i64 hk),.v (.int .i64 ho),.v (.int .i64 hvk),.v (.int .i64 hvn),.v (.string hvt),.v (.string htb),.v (.string hnm),.v (.slice hA hn hc),.v (.int .i64 hpl),.v (.int .i64 hty)]++[.v (.slice A8 a.nor c8),.v (.int .i64 a.li)])))),.box zStmt,.box [.v (.string a.tab.nm),.x 3 0,.x 4 0],.unk 1 (pB1 a),.unk 1 (pB2 a),.unk 1 (pB3 a),.unk 1 (pB4 a)] h5 (Zg K2) fun gL3 a1 w1 hL3 _=> ?_
 clear h5
 refine rowLoopR cCo 4 12 11 a.nrw 32 1 (fun W1 i cs=> ∃ v,cs=[v]∧Z6 W1 (ZN (a.rw i)).n (ZN (a.rw i)).f v) Qv hL3 (fun i hi row wr a2 css hO hr h2=> ?_) (fun row wr a2 css hO h2=> ?_)
 · have hs0:Jw W wr:=Jw.trans (.below hL3.rp.below) QyAJ
   clear hL3
   generalize gL3=G at hr h2 ⊢
   have hsl:=s3.sub hs0
   obtain ⟨b1,o1,d1,cs1,q1,l1,l1',p1,r1⟩:=hsl.at hi
   cases q1
   have GL:=Qb.ofBox (P:=prog) (W:=W) hr (i:=0) rfl (t:=28) (o:=9) Qd rfl
   have GT:=sd wr (Qb.ltN (t:=3) (i:=i) (n:=a.nrw) (z:=true) QOjj)
   have GI:=sd wr (Qb.elem (t:=28) (e:=32) (b:=b1) (o:=o1) (n:=a.nrw) (c:=c3) (size:=1) (i:=i) (k:=.i64) underlying28 Qd hi)
   obtain ⟨v1,rfl,x1⟩:=p1
   obtain ⟨B1,e1,rfl⟩:=Z6.form x1
   replace x1:=Z6.sub hs0 x1
   have GR:=sd wr (Qb.cell (t:=32) Qd (r1 0 _ rfl) l1 Qo)
   have GA:Sd wr (.opq 147 [.slice B1 (a.rw i).n e1,.bool true] 1 (.x 0 0) (po1 (fun w v=>Z6 w (ZN (a.rw i)).n (ZN (a.rw i)).f v) QdrA)):=Qb.one (P:=prog) (N:=wr.heap.size) (W:=wr) (f:=147) (args:=[.slice B1 (a.rw i).n e1,.bool true]) (q:=fun w v=>Z6 w (ZN (a.rw i)).n (ZN (a.rw i)).f v) QMDu func147 rfl Qd QX7N (fun w hw=>copies_ok (x1.sub (.below hw)))
   have byL:=byOf s3
   refine gO (Qn cCo 4) (.op 23 9) ((82,.v row)::(90,.s 1 0 1 1)::vfr ((12,.int .i64 (i:Nat))::[qc2,(2,.pointer (some ⟨G.g 0,0,none⟩)),(4,.pointer (some ⟨G.g 1,0,none⟩))])) [.unk 1 (po1 (fun w v=>Z6 w (ZN (a.rw i)).n (ZN (a.rw i)).f v) QdrA),.box [.x 0 0]] h2 (Je GL GT GL GI GR GA) fun G3 a3 w3 h3 _=> ?_
   obtain ⟨u,hu,hq⟩:=Rp.one h3.rp (i:=0) rfl
   refine Z5 (te:=28) (e:=32) (z:=qc3) (bytes:=24) (sA:=82) (sY:=90) (d:=91) (jb:=1) (cs:=[.x 0 0]) (k':=Qc (Qn cCo 4) (.op 23 10)) ((12,.int .i64 (i:Nat))::[qc2,(2,.pointer (some ⟨G.g 0,0,none⟩)),(4,.pointer (some ⟨G.g 1,0,none⟩))]) h3 (o:=opOf (Qc (Qn cCo 4) (.op 23 9))) Qv Qv Qv Qd rfl rfl rfl rfl underlying28 inf1_Es rfl (by decide) (by omega) (by omega) hO QlgO (rfl) QwDR (⟨u,by simp only [Qu,RV.conc,hu];rfl,hq⟩) fun v' w' a4 hO4 h4=> ?_
   have GN4:=sd w' (Qb.inc (t:=3) (i:=i) (by omega))
   refine goK .fin (k':=[]) (e:=.nrm) (vfr ((12,.int .i64 ((i+1:Nat):Int))::(11,v')::[qc2,(2,.pointer (some ⟨G.g 0,0,none⟩)),(4,.pointer (some ⟨G.g 1,0,none⟩))])) (h4.st w') (Zg GN4) (by kernel_rfl) fun G5 a5 w5 h5 _=> ?_
   exact Qcrs
 have GT:=sd W (Qb.ltN (t:=3) (i:=a.nrw) (n:=a.nrw) (z:=false) (by simp))
 obtain ⟨G6,h6,_⟩:=St.row (bytes:=24) (pB5 a) (h2.less (fr':=(11,.v row)::(12,.v (.int .i64 (a.nrw:Nat)))::[qc1,(2,.p 0 0),(4,.p 1 0)]) rfl) hL3.rp hO QlgO (byOf s3) (fun w h=>⟨row,rfl,h⟩)
 clear hL3 h2 hO
 refine goK .fin (k':=[]) (e:=.ex 4) [(11,.x 7 0),qc1,(2,.p 0 0),(4,.p 1 0)] h6 (Zg GT) (by kernel_rfl) fun G5 a5 w5 h5 _=>brk ?_
 clear h6
 refine gO cCo (.loop 6) [(14,.v qc4),(13,.v qc3),qc1,(2,.p 0 0),(4,.p 1 0)] [.box (.v (.int .i64 a.kind):: .v (.string a.tab.nm):: .x 3 0:: .x 4 0:: .x 5 0:: .v (.string a.nm):: .v (.string a.ix):: .v (.bool a.un):: .x 6 0:: .x 7 0:: .v (.slice A4 a.nst c4)::([.v (.int .i64 wk),.v (.int .i64 wo),.v (.int .i64 wvk),.v (.int .i64 wvn),.v (.string wvt),.v (.string wtb),.v (.string wnm),.v (.slice wA wn wc),.v (.int .i64 wpl),.v (.int .i64 wty)]++(.v (.bool a.di):: .v (.slice A5 a.nit c5):: .v (.slice A6 a.nfr c6):: .v (.slice A7 a.gr.n c7)::([.v (.int .i64 hk),.v (.int .i64 ho),.v (.int .i64 hvk),.v (.int .i64 hvn),.v (.string hvt),.v (.string htb),.v (.string hnm),.v (.slice hA hn hc),.v (.int .i64 hpl),.v (.int .i64 hty)]++[.v (.slice A8 a.nor c8),.v (.int .i64 a.li)])))),.box zStmt,.box [.v (.string a.tab.nm),.x 3 0,.x 4 0],.unk 1 (pB1 a),.unk 1 (pB2 a),.unk 1 (pB3 a),.unk 1 (pB4 a),.unk 1 (pB5 a)] h5 Zk fun gL4 a1 w1 hL4 _=> ?_
 clear h5
 refine rowLoopR cCo 6 14 13 a.nst 61 11 (fun W1 i cs=>StIn W1 { a.st i with e:=QV (a.st i).e } cs) Qv hL4 (fun i hi row wr a2 css hO hr h2=> ?_) (fun row wr a2 css hO h2=> ?_)
 · have hs0:Jw W wr:=Jw.trans (.below hL4.rp.below) QyAJ
   clear hL4
   generalize gL4=G at hr h2 ⊢
   have hsl:=s4.sub hs0
   obtain ⟨b1,o1,d1,cs1,q1,l1,l1',p1,r1⟩:=hsl.at hi
   cases q1
   have GL:=Qb.ofBox (P:=prog) (W:=W) hr (i:=0) rfl (t:=29) (o:=10) Qd rfl
   have GT:=sd wr (Qb.ltN (t:=3) (i:=i) (n:=a.nst) (z:=true) QOjj)
   have GI:=sd wr (Qb.elem (t:=29) (e:=61) (b:=b1) (o:=o1) (n:=a.nst) (c:=c4) (size:=11) (i:=i) (k:=.i64) underlying29 Qd hi)
   obtain ⟨pn,es1,rfl,x1⟩:=p1
   replace x1:=QI.sub hs0 x1
   have GN:=sd wr (Qb.cell (t:=9) Qd (r1 0 _ rfl) l1 Qo)
   have GR:=sd wr (Qb.row (t:=34) Qd QyFn (Zm r1) l1 Qo)
   have GC:=sd wr (Qb.cells (f:=148) (args:=[.agg es1.toArray,.bool true]) (m:=10) (q:=fun w ds=>QI w (QV (a.st i).e) ds) QKfY func148 rfl Qd (fun w ds h=>QI.ones h) (fun w hw=>copied_ok (a.st i).e _ w QxZi))
   have byL:=byOf s4
   refine gO (Qn cCo 6) (.op 29 17) ((101,.v row)::(117,.s 1 0 1 1)::vfr ((14,.int .i64 (i:Nat))::[qc2,(2,.pointer (some ⟨G.g 0,0,none⟩)),(4,.pointer (some ⟨G.g 1,0,none⟩))])) [.unk 10 (poL (fun w ds=>QI w (QV (a.st i).e) ds) QKfY),.box (.v (.string (a.st i).nm)::xsN 0 10)] h2 (kE9 GL GT GL GI GN GL GI GR GC) fun G3 a3 w3 h3 _=> ?_
   obtain ⟨hu,hq⟩:=Rp.cells h3.rp (i:=0) (m:=10) (q:=fun w ds=>QI w (QV (a.st i).e) ds) (hq:=fun W1 W2 u hs h=>QI.sub hs h) rfl
   refine Z5 (te:=29) (e:=61) (z:=(.agg z_Set.toArray)) (bytes:=136) (sA:=101) (sY:=117) (d:=118) (jb:=1) (cs:=(.v (.string (a.st i).nm)::xsN 0 10)) (k':=Qc (Qn cCo 6) (.op 29 18)) ((14,.int .i64 (i:Nat))::[qc2,(2,.pointer (some ⟨G.g 0,0,none⟩)),(4,.pointer (some ⟨G.g 1,0,none⟩))]) h3 (o:=opOf (Qc (Qn cCo 6) (.op 29 17))) Qv Qv Qv Qd rfl rfl rfl rfl underlying29 inf_Set rfl (by decide) (by omega) (by omega) hO Qomw Qnve Qsz0 (⟨pn,G3.u 0,by simp only [Qu,Kc rfl hu,RV.conc],hq⟩) fun v' w' a4 hO4 h4=> ?_
   have GN4:=sd w' (Qb.inc (t:=3) (i:=i) (by omega))
   refine goK .fin (k':=[]) (e:=.nrm) (vfr ((14,.int .i64 ((i+1:Nat):Int))::(13,v')::[qc2,(2,.pointer (some ⟨G.g 0,0,none⟩)),(4,.pointer (some ⟨G.g 1,0,none⟩))])) (h4.st w') (Zg GN4) (by kernel_rfl) fun G5 a5 w5 h5 _=> ?_
   exact ⟨v',_,h5.ev,hO4.keep Qomw h5.rp.below⟩
 have GT:=sd W (Qb.ltN (t:=3) (i:=a.nst) (n:=a.nst) (z:=false) (by simp))
 obtain ⟨G6,h6,_⟩:=St.row (bytes:=136) (pB6 a) (h2.less (fr':=(13,.v row)::(14,.v (.int .i64 (a.nst:Nat)))::[qc1,(2,.p 0 0),(4,.p 1 0)]) rfl) hL4.rp hO Qomw (byOf s4) (fun w h=>⟨row,rfl,h⟩)
 clear hL4 h2 hO
 refine goK .fin (k':=[]) (e:=.ex 6) [(13,.x 8 0),qc1,(2,.p 0 0),(4,.p 1 0)] h6 (Zg GT) (by kernel_rfl) fun G5 a5 w5 h5 _=>brk ?_
 clear h6
 refine gO cCo (.loop 8) [(16,.v qc4),(15,.v qc3),qc1,(2,.p 0 0),(4,.p 1 0)] [.box (.v (.int .i64 a.kind):: .v (.string a.tab.nm):: .x 3 0:: .x 4 0:: .x 5 0:: .v (.string a.nm):: .v (.string a.ix):: .v (.bool a.un):: .x 6 0:: .x 7 0:: .x 8 0::(xsN 9 10++(.v (.bool a.di):: .v (.slice A5 a.nit c5):: .v (.slice A6 a.nfr c6):: .x 11 0::(xsN 10 10++[.v (.slice A8 a.nor c8),.v (.int .i64 a.li)])))),.box zStmt,.box [.v (.string a.tab.nm),.x 3 0,.x 4 0],.unk 1 (pB1 a),.unk 1 (pB2 a),.unk 1 (pB3 a),.unk 1 (pB4 a),.unk 1 (pB5 a),.unk 1 (pB6 a),.unk 10 (poL (fun w ds=>QI w (QV a.wh) ds) QKfY),.unk 10 (poL (fun w ds=>QI w (QV a.hv) ds) QKfY),.unk 1 (pB11 a)] h5 (kE3 K3 K4 K5) fun gL5 a1 w1 hL5 _=> ?_
 clear h5
 refine rowLoopR cCo 8 16 15 a.nit 63 12 (fun W1 i cs=>ItIn W1 { a.it i with e:=QV (a.it i).e } cs) Qv hL5 (fun i hi row wr a2 css hO hr h2=> ?_) (fun row wr a2 css hO h2=> ?_)
 · have hs0:Jw W wr:=Jw.trans (.below hL5.rp.below) QyAJ
   clear hL5
   generalize gL5=G at hr h2 ⊢
   have hsl:=s5.sub hs0
   obtain ⟨b1,o1,d1,cs1,q1,l1,l1',p1,r1⟩:=hsl.at hi
   cases q1
   have GL:=Qb.ofBox (P:=prog) (W:=W) hr (i:=0) rfl (t:=35) (o:=22) Qd rfl
   have GT:=sd wr (Qb.ltN (t:=3) (i:=i) (n:=a.nit) (z:=true) QOjj)
   have GI:=sd wr (Qb.elem (t:=35) (e:=63) (b:=b1) (o:=o1) (n:=a.nit) (c:=c5) (size:=12) (i:=i) (k:=.i64) underlying35 Qd hi)
   obtain ⟨pn,es1,rfl,x1⟩:=p1
   obtain ⟨ek,eo,evk,evn,evt,etb,enm,eA,en,ec,epl,ety,rfl⟩:=x1.form
   replace x1:=QI.sub hs0 x1
   have GR:=sd wr (Qb.row (t:=63) Qd Qjph r1 l1 Qo)
   have GC:=sd wr (Qb.cells (f:=148) (args:=[eV ek eo evk evn evt etb enm eA en ec epl ety,.bool true]) (m:=10) (q:=fun w ds=>QI w (QV (a.it i).e) ds) QKfY func148 rfl Qd (fun w ds h=>QI.ones h) (fun w hw=>copied_ok (a.it i).e _ w QxZi))
   have byL:=byOf s5
   refine gO (Qn cCo 8) (.op 38 3) ((153,.v row)::(155,.s 2 0 1 1)::vfr ((16,.int .i64 (i:Nat))::[qc2,(2,.pointer (some ⟨G.g 0,0,none⟩)),(4,.pointer (some ⟨G.g 1,0,none⟩))])) [.box (.v (.bool (a.it i).star)::(xsN 1 10++[.v (.string (a.it i).nm)])),.unk 10 (poL (fun w ds=>QI w (QV (a.it i).e) ds) QKfY),.box (.v (.bool (a.it i).star)::(xsN 1 10++[.v (.string (a.it i).nm)]))] h2 (Je GL GT GL GI GR GC) fun G3 a3 w3 h3 _=> ?_
   obtain ⟨hu,hq⟩:=Rp.cells h3.rp (i:=1) (m:=10) (q:=fun w ds=>QI w (QV (a.it i).e) ds) (hq:=fun W1 W2 u hs h=>QI.sub hs h) rfl
   refine Z5 (te:=35) (e:=63) (z:=(.agg z_Item.toArray)) (bytes:=144) (sA:=153) (sY:=155) (d:=156) (jb:=2) (cs:=(.v (.bool (a.it i).star)::(xsN 1 10++[.v (.string (a.it i).nm)]))) (k':=Qc (Qn cCo 8) (.op 38 4)) ((16,.int .i64 (i:Nat))::[qc2,(2,.pointer (some ⟨G.g 0,0,none⟩)),(4,.pointer (some ⟨G.g 1,0,none⟩))]) h3 (o:=opOf (Qc (Qn cCo 8) (.op 38 3))) Qv Qv Qv Qd rfl rfl rfl rfl underlying35 inf_Item rfl (by decide) (by omega) (by omega) hO QOxk Qnve Qsz0 (⟨pn,G3.u 1,by simp only [Kp,Qu,Kc rfl hu,RV.conc],hq⟩) fun v' w' a4 hO4 h4=> ?_
   have GN4:=sd w' (Qb.inc (t:=3) (i:=i) (by omega))
   refine goK .fin (k':=[]) (e:=.nrm) (vfr ((16,.int .i64 ((i+1:Nat):Int))::(15,v')::[qc2,(2,.pointer (some ⟨G.g 0,0,none⟩)),(4,.pointer (some ⟨G.g 1,0,none⟩))])) (h4.st w') (Zg GN4) (by kernel_rfl) fun G5 a5 w5 h5 _=> ?_
   exact ⟨v',_,h5.ev,hO4.keep QOxk h5.rp.below⟩
 have GT:=sd W (Qb.ltN (t:=3) (i:=a.nit) (n:=a.nit) (z:=false) (by simp))
 obtain ⟨G6,h6,_⟩:=St.row (bytes:=144) (pB7 a) (h2.less (fr':=(15,.v row)::(16,.v (.int .i64 (a.nit:Nat)))::[qc1,(2,.p 0 0),(4,.p 1 0)]) rfl) hL5.rp hO QOxk (byOf s5) (fun w h=>⟨row,rfl,h⟩)
 clear hL5 h2 hO
 refine goK .fin (k':=[]) (e:=.ex 8) [(15,.x 12 0),qc1,(2,.p 0 0),(4,.p 1 0)] h6 (Zg GT) (by kernel_rfl) fun G5 a5 w5 h5 _=>brk ?_
 clear h6
 refine gO cCo (.loop 10) [(19,.v qc4),(18,.v qc3),qc1,(2,.p 0 0),(4,.p 1 0)] [.box (.v (.int .i64 a.kind):: .v (.string a.tab.nm):: .x 3 0:: .x 4 0:: .x 5 0:: .v (.string a.nm):: .v (.string a.ix):: .v (.bool a.un):: .x 6 0:: .x 7 0:: .x 8 0::(xsN 9 10++(.v (.bool a.di):: .x 12 0:: .v (.slice A6 a.nfr c6):: .x 11 0::(xsN 10 10++[.v (.slice A8 a.nor c8),.v (.int .i64 a.li)])))),.box zStmt,.box [.v (.string a.tab.nm),.x 3 0,.x 4 0],.unk 1 (pB1 a),.unk 1 (pB2 a),.unk 1 (pB3 a),.unk 1 (pB4 a),.unk 1 (pB5 a),.unk 1 (pB6 a),.unk 10 (poL (fun w ds=>QI w (QV a.wh) ds) QKfY),.unk 10 (poL (fun w ds=>QI w (QV a.hv) ds) QKfY),.unk 1 (pB11 a),.unk 1 (pB7 a)] h5 Zk fun gL6 a1 w1 hL6 _=> ?_
 clear h5
 refine rowLoopR cCo 10 19 18 a.nfr 65 13 (fun W1 i cs=>SoIn W1 { a.fr i with e:=QV (a.fr i).e } cs) Qv hL6 (fun i hi row wr a2 css hO hr h2=> ?_) (fun row wr a2 css hO h2=> ?_)
 · have hs0:Jw W wr:=Jw.trans (.below hL6.rp.below) QyAJ
   clear hL6
   generalize gL6=G at hr h2 ⊢
   have hsl:=s6.sub hs0
   obtain ⟨b1,o1,d1,cs1,q1,l1,l1',p1,r1⟩:=hsl.at hi
   cases q1
   have GL:=Qb.ofBox (P:=prog) (W:=W) hr (i:=0) rfl (t:=36) (o:=23) Qd rfl
   have GT:=sd wr (Qb.ltN (t:=3) (i:=i) (n:=a.nfr) (z:=true) QOjj)
   have GI:=sd wr (Qb.elem (t:=36) (e:=65) (b:=b1) (o:=o1) (n:=a.nfr) (c:=c6) (size:=13) (i:=i) (k:=.i64) underlying36 Qd hi)
   obtain ⟨pn,pn2,es1,rfl,x1⟩:=p1
   obtain ⟨ek,eo,evk,evn,evt,etb,enm,eA,en,ec,epl,ety,rfl⟩:=x1.form
   replace x1:=QI.sub hs0 x1
   have GR:=sd wr (Qb.row (t:=65) Qd Qjph r1 l1 Qo)
   have GC:=sd wr (Qb.cells (f:=148) (args:=[eV ek eo evk evn evt etb enm eA en ec epl ety,.bool true]) (m:=10) (q:=fun w ds=>QI w (QV (a.fr i).e) ds) QKfY func148 rfl Qd (fun w ds h=>QI.ones h) (fun w hw=>copied_ok (a.fr i).e _ w QxZi))
   have byL:=byOf s6
   refine gO (Qn cCo 10) (.op 46 3) ((176,.v row)::(178,.s 2 0 1 1)::vfr ((19,.int .i64 (i:Nat))::[qc2,(2,.pointer (some ⟨G.g 0,0,none⟩)),(4,.pointer (some ⟨G.g 1,0,none⟩))])) [.box (.v (.string (a.fr i).nm):: .v (.string (a.fr i).al):: .v (.bool (a.fr i).left)::xsN 1 10),.unk 10 (poL (fun w ds=>QI w (QV (a.fr i).e) ds) QKfY),.box (.v (.string (a.fr i).nm):: .v (.string (a.fr i).al):: .v (.bool (a.fr i).left)::xsN 1 10)] h2 (Je GL GT GL GI GR GC) fun G3 a3 w3 h3 _=> ?_
   obtain ⟨hu,hq⟩:=Rp.cells h3.rp (i:=1) (m:=10) (q:=fun w ds=>QI w (QV (a.fr i).e) ds) (hq:=fun W1 W2 u hs h=>QI.sub hs h) rfl
   refine Z5 (te:=36) (e:=65) (z:=(.agg KI.toArray)) (bytes:=160) (sA:=176) (sY:=178) (d:=179) (jb:=2) (cs:=(.v (.string (a.fr i).nm):: .v (.string (a.fr i).al):: .v (.bool (a.fr i).left)::xsN 1 10)) (k':=Qc (Qn cCo 10) (.op 46 4)) ((19,.int .i64 (i:Nat))::[qc2,(2,.pointer (some ⟨G.g 0,0,none⟩)),(4,.pointer (some ⟨G.g 1,0,none⟩))]) h3 (o:=opOf (Qc (Qn cCo 10) (.op 46 3))) Qv Qv Qv Qd rfl rfl rfl rfl underlying36 inf_Source rfl (by decide) (by omega) (by omega) hO QacL Qnve Qsz0 (⟨pn,pn2,G3.u 1,by simp only [Kp,Qu,Kc rfl hu,RV.conc],hq⟩) fun v' w' a4 hO4 h4=> ?_
   have GN4:=sd w' (Qb.inc (t:=3) (i:=i) (by omega))
   refine goK .fin (k':=[]) (e:=.nrm) (vfr ((19,.int .i64 ((i+1:Nat):Int))::(18,v')::[qc2,(2,.pointer (some ⟨G.g 0,0,none⟩)),(4,.pointer (some ⟨G.g 1,0,none⟩))])) (h4.st w') (Zg GN4) (by kernel_rfl) fun G5 a5 w5 h5 _=> ?_
   exact ⟨v',_,h5.ev,hO4.keep QacL h5.rp.below⟩
 have GT:=sd W (Qb.ltN (t:=3) (i:=a.nfr) (n:=a.nfr) (z:=false) (by simp))
 obtain ⟨G6,h6,_⟩:=St.row (bytes:=160) (pB8 a) (h2.less (fr':=(18,.v row)::(19,.v (.int .i64 (a.nfr:Nat)))::[qc1,(2,.p 0 0),(4,.p 1 0)]) rfl) hL6.rp hO QacL (byOf s6) (fun w h=>⟨row,rfl,h⟩)
 clear hL6 h2 hO
 refine goK .fin (k':=[]) (e:=.ex 10) [(18,.x 13 0),qc1,(2,.p 0 0),(4,.p 1 0)] h6 (Zg GT) (by kernel_rfl) fun G5 a5 w5 h5 _=>brk ?_
 clear h6
 refine gO cCo (.loop 12) [(22,.v qc4),(21,.v qc3),qc1,(2,.p 0 0),(4,.p 1 0)] [.box (.v (.int .i64 a.kind):: .v (.string a.tab.nm):: .x 3 0:: .x 4 0:: .x 5 0:: .v (.string a.nm):: .v (.string a.ix):: .v (.bool a.un):: .x 6 0:: .x 7 0:: .x 8 0::(xsN 9 10++(.v (.bool a.di):: .x 12 0:: .x 13 0:: .x 11 0::(xsN 10 10++[.v (.slice A8 a.nor c8),.v (.int .i64 a.li)])))),.box zStmt,.box [.v (.string a.tab.nm),.x 3 0,.x 4 0],.unk 1 (pB1 a),.unk 1 (pB2 a),.unk 1 (pB3 a),.unk 1 (pB4 a),.unk 1 (pB5 a),.unk 1 (pB6 a),.unk 10 (poL (fun w ds=>QI w (QV a.wh) ds) QKfY),.unk 10 (poL (fun w ds=>QI w (QV a.hv) ds) QKfY),.unk 1 (pB11 a),.unk 1 (pB7 a),.unk 1 (pB8 a)] h5 Zk fun gL7 a1 w1 hL7 _=> ?_
 clear h5
 refine rowLoopR cCo 12 22 21 a.nor 67 11 (fun W1 i cs=>OdIn W1 { a.od i with e:=QV (a.od i).e } cs) Qv hL7 (fun i hi row wr a2 css hO hr h2=> ?_) (fun row wr a2 css hO h2=> ?_)
 · have hs0:Jw W wr:=Jw.trans (.below hL7.rp.below) QyAJ
   clear hL7
   generalize gL7=G at hr h2 ⊢
   have hsl:=s8.sub hs0
   obtain ⟨b1,o1,d1,cs1,q1,l1,l1',p1,r1⟩:=hsl.at hi
   cases q1
   have GL:=Qb.ofBox (P:=prog) (W:=W) hr (i:=0) rfl (t:=37) (o:=35) Qd rfl
   have GT:=sd wr (Qb.ltN (t:=3) (i:=i) (n:=a.nor) (z:=true) QOjj)
   have GI:=sd wr (Qb.elem (t:=37) (e:=67) (b:=b1) (o:=o1) (n:=a.nor) (c:=c8) (size:=11) (i:=i) (k:=.i64) underlying37 Qd hi)
   obtain ⟨es1,rfl,x1⟩:=p1
   replace x1:=QI.sub hs0 x1
   have GN:=sd wr (Qb.cell (t:=4) Qd (r1 10 (.bool (a.od i).desc) (by rw [List.getElem?_append_right QqQE,x1.len];rfl)) l1 Qo)
   have GR:=sd wr (Qb.row (t:=34) Qd QyFn (ZJ r1) l1 Qo)
   have GC:=sd wr (Qb.cells (f:=148) (args:=[.agg es1.toArray,.bool true]) (m:=10) (q:=fun w ds=>QI w (QV (a.od i).e) ds) QKfY func148 rfl Qd (fun w ds h=>QI.ones h) (fun w hw=>copied_ok (a.od i).e _ w QxZi))
   have byL:=byOf s8
   refine gO (Qn cCo 12) (.op 52 17) ((189,.v row)::(205,.s 1 0 1 1)::vfr ((22,.int .i64 (i:Nat))::[qc2,(2,.pointer (some ⟨G.g 0,0,none⟩)),(4,.pointer (some ⟨G.g 1,0,none⟩))])) [.unk 10 (poL (fun w ds=>QI w (QV (a.od i).e) ds) QKfY),.box (xsN 0 10++[.v (.bool (a.od i).desc)])] h2 (kE9 GL GT GL GI GR GC GL GI GN) fun G3 a3 w3 h3 _=> ?_
   obtain ⟨hu,hq⟩:=Rp.cells h3.rp (i:=0) (m:=10) (q:=fun w ds=>QI w (QV (a.od i).e) ds) (hq:=fun W1 W2 u hs h=>QI.sub hs h) rfl
   refine Z5 (te:=37) (e:=67) (z:=(.agg Jn.toArray)) (bytes:=128) (sA:=189) (sY:=205) (d:=206) (jb:=1) (cs:=(xsN 0 10++[.v (.bool (a.od i).desc)])) (k':=Qc (Qn cCo 12) (.op 52 18)) ((22,.int .i64 (i:Nat))::[qc2,(2,.pointer (some ⟨G.g 0,0,none⟩)),(4,.pointer (some ⟨G.g 1,0,none⟩))]) h3 (o:=opOf (Qc (Qn cCo 12) (.op 52 17))) Qv Qv Qv Qd rfl rfl rfl rfl underlying37 inf_Order rfl (by decide) (by omega) (by omega) hO QrMl Qnve Qsz0 (⟨G3.u 0,by simp only [Kp,Qu,Kc rfl hu,RV.conc],hq⟩) fun v' w' a4 hO4 h4=> ?_
   have GN4:=sd w' (Qb.inc (t:=3) (i:=i) (by omega))
   refine goK .fin (k':=[]) (e:=.nrm) (vfr ((22,.int .i64 ((i+1:Nat):Int))::(21,v')::[qc2,(2,.pointer (some ⟨G.g 0,0,none⟩)),(4,.pointer (some ⟨G.g 1,0,none⟩))])) (h4.st w') (Zg GN4) (by kernel_rfl) fun G5 a5 w5 h5 _=> ?_
   exact ⟨v',_,h5.ev,hO4.keep QrMl h5.rp.below⟩
 have GT:=sd W (Qb.ltN (t:=3) (i:=a.nor) (n:=a.nor) (z:=false) (by simp))
 obtain ⟨G6,h6,_⟩:=St.row (bytes:=128) (pB9 a) (h2.less (fr':=(21,.v row)::(22,.v (.int .i64 (a.nor:Nat)))::[qc1,(2,.p 0 0),(4,.p 1 0)]) rfl) hL7.rp hO QrMl (byOf s8) (fun w h=>⟨row,rfl,h⟩)
 clear hL7 h2 hO
 refine goK .fin (k':=[]) (e:=.ex 12) [(21,.x 14 0),qc1,(2,.p 0 0),(4,.p 1 0)] h6 (Zg GT) (by kernel_rfl) fun G5 a5 w5 h5 _=>brk ?_
 clear h6
 refine goX [.box (.v (.int .i64 a.kind):: .v (.string a.tab.nm):: .x 3 0:: .x 4 0:: .x 5 0:: .v (.string a.nm):: .v (.string a.ix):: .v (.bool a.un):: .x 6 0:: .x 7 0:: .x 8 0::(xsN 9 10++(.v (.bool a.di):: .x 12 0:: .x 13 0:: .x 11 0::(xsN 10 10++[.x 14 0,.v (.int .i64 a.li)])))),.box (.v (.int .i64 a.kind):: .v (.string a.tab.nm):: .x 3 0:: .x 4 0:: .x 5 0:: .v (.string a.nm):: .v (.string a.ix):: .v (.bool a.un):: .x 6 0:: .x 7 0:: .x 8 0::(xsN 9 10++(.v (.bool a.di):: .x 12 0:: .x 13 0:: .x 11 0::(xsN 10 10++[.x 14 0,.v (.int .i64 a.li)])))),.box [.v (.string a.tab.nm),.x 3 0,.x 4 0],.unk 1 (pB1 a),.unk 1 (pB2 a),.unk 1 (pB3 a),.unk 1 (pB4 a),.unk 1 (pB5 a),.unk 1 (pB6 a),.unk 10 (poL (fun w ds=>QI w (QV a.wh) ds) QKfY),.unk 10 (poL (fun w ds=>QI w (QV a.hv) ds) QKfY),.unk 1 (pB11 a),.unk 1 (pB7 a),.unk 1 (pB8 a),.unk 1 (pB9 a)] h5 Zk (vs:=[.agg (.v (.int .i64 a.kind):: .v (.string a.tab.nm):: .x 3 0:: .x 4 0:: .x 5 0:: .v (.string a.nm):: .v (.string a.ix):: .v (.bool a.un):: .x 6 0:: .x 7 0:: .x 8 0::(xsN 9 10++(.v (.bool a.di):: .x 12 0:: .x 13 0:: .x 11 0::(xsN 10 10++[.x 14 0,.v (.int .i64 a.li)]))))]) (by kernel_rfl) fun G w hr _=> ?_
 obtain ⟨v3,u3,q3⟩:=Rp.one hr (i:=3) rfl
 obtain ⟨v4,u4,q4⟩:=Rp.one hr (i:=4) rfl
 obtain ⟨v5,u5,q5⟩:=Rp.one hr (i:=5) rfl
 obtain ⟨v6,u6,q6⟩:=Rp.one hr (i:=6) rfl
 obtain ⟨v7,u7,q7⟩:=Rp.one hr (i:=7) rfl
 obtain ⟨v8,u8,q8⟩:=Rp.one hr (i:=8) rfl
 obtain ⟨v9,q9⟩:=Rp.cells hr (i:=9) (m:=10) (q:=fun w ds=>QI w (QV a.wh) ds) (hq:=fun W1 W2 u hs h=>QI.sub hs h) rfl
 obtain ⟨v10,q10⟩:=Rp.cells hr (i:=10) (m:=10) (q:=fun w ds=>QI w (QV a.hv) ds) (hq:=fun W1 W2 u hs h=>QI.sub hs h) rfl
 obtain ⟨v11,u11,q11⟩:=Rp.one hr (i:=11) rfl
 obtain ⟨v12,u12,q12⟩:=Rp.one hr (i:=12) rfl
 obtain ⟨v13,u13,q13⟩:=Rp.one hr (i:=13) rfl
 obtain ⟨v14,u14,q14⟩:=Rp.one hr (i:=14) rfl
 refine ⟨_,rfl,⟨[.string a.tab.nm,v3,v4],v5,v6,v7,v8,G.u 9,v12,v13,v11,G.u 10,v14,?_,?_⟩,hr.below⟩
 · simp only [Qu,Kp,Kc rfl v9,Kc rfl v10,RV.conc,u3,u4,u5,u6,u7,u8,u11,u12,u13,u14]
   rfl
 exact ⟨⟨wf.kind,wf.nm,wf.ix,wf.li⟩,⟨wt,v3,v4,rfl,q3,q4⟩,q5,q6,q7,q8,q9,q12,q13,q11,q10,q14⟩
end
end Go.Proofs.YtddedijencleeaaGreatDoor
