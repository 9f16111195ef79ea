/- ref9.Depth. -/
import Derived.Test.YtddedijencleeaaGreatDoorSm
import Derived.Test.YtddedijencleeaaGreatDoorMSq
import Derived.Test.YtddedijencleeaaGreatDoorXj
set_option linter.all false
namespace Go.Proofs.YtddedijencleeaaGreatDoor
set_option maxRecDepth 100000
set_option maxHeartbeats 8000000
open Tryz
noncomputable section
open Go.RowKit Go.Lib RC
theorem Qb.maxNat4 {P:Program} {N:Nat} {W:World} {a b c d:Nat}:Qb.ok P N W (.ask (Builtin.max_ #[] 0 [.int .i64 (a:Int),.int .i64 (b:Int),.int .i64 (c:Int),.int .i64 (d:Int)].toArray) (.int .i64 ((max (max (max a b) c) d:Nat):Int))):=fun w _=>by
 have key: ∀ (x y:Nat),(Builtin.max2 (.int .i64 (x:Int)) (.int .i64 (y:Int)):Sem Value)=pure (.int .i64 ((max x y:Nat):Int)):=fun x y=>by
  simp only [Builtin.max2]
  by_cases h:(y:Int)>(x:Int)
  · rw [if_pos h,show max x y=y by omega]
  · rw [if_neg h,show max x y=x by omega]
 simp only [Builtin.max_,List.foldlM,List.toList_toArray]
 simp only [key,pure_bind]
 rfl
def QY (b:Nat) (f:Nat→Nat):Nat→Nat
 | 0=>b
 | n+1=>max (QY b f n) (f n)
theorem Jq (b:Nat) (f:Nat→Nat): ∀ n,QY b f n=max b (Ql n f)
 | 0=>by simp [QY,Ql]
 | n+1=>by rw [QY,Jq b f n,Ql];omega
def depK (s:S):Nat:=if s.kind==1 then (if decide (0<(s.nkc:Int))=true then 2 else 1) else if s.kind==2 then 1 else if s.kind==5 then Ql s.nrw (fun i=>1+Ql (s.rw i).n (fun j=>Qf ((s.rw i).f j))) else 0
def depS (s:S):Nat:=QY (QY (QY (max (max (max (QY (depK s) (fun i=>Qf (s.st i).e) s.nst) (Qf s.wh)) (Qf s.hv)) (Ql s.gr.n (fun i=>Qf (s.gr.f i)))) (fun i=>Qf (s.it i).e) s.nit) (fun i=>Qf (s.fr i).e) s.nfr) (fun i=>Qf (s.od i).e) s.nor

noncomputable abbrev r9Dp:Code:=Qt f18
abbrev qF1(rw_:Nat→Es)(i15:Nat):Value:=(.int .i64 ((max (QY (0) (fun i=>1+Ql (rw_ i).n (fun j=>Qf ((rw_ i).f j))) i15) (1+Ql ((rw_ i15).n) (fun j=>Qf (((rw_ i15).f) j))):Nat):Int))
abbrev qF2:Value:=(.int .i64 ((0:Nat):Int))
abbrev qF3(rw_:Nat→Es)(nrw:Nat):Fr:=[(3,.v (.int .i64 ((QY (0) (fun i=>1+Ql (rw_ i).n (fun j=>Qf ((rw_ i).f j))) nrw:Nat):Int))),(1,.p 0 0)]
theorem depth9_ok (s:S) (cs:List Value) (W:World) (h:Ks W s cs) (HB:Zw s=true→(∀ i,i<s.nrw→Ql (s.rw i).n (fun j=>Qf ((s.rw i).f j))≤1000000)∧(∀ i,i<s.nst→Qf (s.st i).e≤1000000)∧(Qf s.wh≤1000000)∧(Qf s.hv≤1000000)∧(Ql s.gr.n (fun i=>Qf (s.gr.f i))≤1000000)∧(∀ i,i<s.nit→Qf (s.it i).e≤1000000)∧(∀ i,i<s.nfr→Qf (s.fr i).e≤1000000)∧(∀ i,i<s.nor→Qf (s.od i).e≤1000000)):Calls prog 18 #[.agg cs.toArray] W fun r W'=>r= .returned (.int .i64 ((if Zw s=true then depS s else 0:Nat):Int))∧Below W.heap.size W W':=by
 obtain ⟨kind,⟨tnm,tnc,tcols,tnk,tkeys⟩,nkc,kc,nm,ix,un,⟨ncl,cl⟩,nrw,rw_,nst,st,wh,di,nit,it,nfr,fr,⟨ngr,gr⟩,hv,nor,od,li⟩:=s
 obtain ⟨tA,tc,tB,td,A1,c1,A2,c2,A3,c3,A4,c4,A5,c5,A6,c6,A7,c7,A8,c8,wk,wo,wvk,wvn,wvt,wtb,wnm,wA,wn,wc,wpl,wty,hk,ho,hvk,hvn,hvt,htb,hnm,hA,hn,hc,hpl,hty,rfl,h0,ia,t1,t2⟩:=Ks.opn h
 let x2x:List Value:=[.agg (Zs kind tnm tA tnc tc tB tnk td A1 nkc c1 nm ix un A2 ncl c2 A3 nrw c3 A4 nst c4 wk wo wvk wvn wvt wtb wnm wA wn wc wpl wty di A5 nit c5 A6 nfr c6 A7 ngr c7 hk ho hvk hvn hvt htb hnm hA hn hc hpl hty A8 nor c8 li).toArray]
 let x1x:List Zp:=[bx (Zs kind tnm tA tnc tc tB tnk td A1 nkc c1 nm ix un A2 ncl c2 A3 nrw c3 A4 nst c4 wk wo wvk wvn wvt wtb wnm wA wn wc wpl wty di A5 nit c5 A6 nfr c6 A7 ngr c7 hk ho hvk hvn hvt htb hnm hA hn hc hpl hty A8 nor c8 li)]
 have iwh:=ia.wh
 have ihv:=ia.hv
 have iwf:=ia.wf
 have itn:=ia.tab.1
 have hl1:nrw≤140737488355328:=by have q1:nrw*24≤140737488355328:=QR.small ia.rw;omega
 have hl2:nst≤140737488355328:=by have q1:nst*136≤140737488355328:=QR.small ia.st;omega
 have hl3:nit≤140737488355328:=by have q1:nit*144≤140737488355328:=QR.small ia.it;omega
 have hl4:nfr≤140737488355328:=by have q1:nfr*160≤140737488355328:=QR.small ia.fr;omega
 have hl5:nor≤140737488355328:=by have q1:nor*128≤140737488355328:=QR.small ia.od;omega
 refine Qj (args:=x2x) (c:=r9Dp) func18 rfl (by kernel_rfl) fun a0 hst=> ?_
 obtain ⟨z1,hz1⟩: ∃ z,(Zw ⟨kind,⟨tnm,tnc,tcols,tnk,tkeys⟩,nkc,kc,nm,ix,un,⟨ncl,cl⟩,nrw,rw_,nst,st,wh,di,nit,it,nfr,fr,⟨ngr,gr⟩,hv,nor,od,li⟩)=z:=⟨_,rfl⟩
 have C2:Sd W (.call 13 x2x (.bool z1)):=by rw [← hz1,is_one];exact Qb.of func13 rfl Qd (fun w hw=>is9_ok _ _ w QgdQ)
 cases z1
 · exact gE hst (Zg C2) [.int .i64 0] fun w' hw=>⟨by rw [if_neg (by rw [hz1];decide)];rfl,hw⟩
 obtain ⟨hrw,hst_,hwh,hhv,hgr,hit,hfr,hod⟩:=HB hz1
 simp only at hrw hst_ hwh hhv hgr hit hfr hod
 obtain ⟨dk,hdk⟩: ∃ z,z=depK ⟨kind,⟨tnm,tnc,tcols,tnk,tkeys⟩,nkc,kc,nm,ix,un,⟨ncl,cl⟩,nrw,rw_,nst,st,wh,di,nit,it,nfr,fr,⟨ngr,gr⟩,hv,nor,od,li⟩:=⟨_,rfl⟩
 refine joinW (k':=Qc r9Dp (.op 16 0)) (fun aa ww=> ∃ gg,RC.St W.heap.size W f18.ntmps [(3,.v (.int .i64 ((dk:Nat):Int))),(1,.p 0 0)] x1x gg aa ww) (fun aj1 uj1 hj1=> ?_) (fun KJ1=> ?_)
 · obtain ⟨gj1,sj1⟩:=hj1
   refine gO r9Dp (.loop 3) [(5,.v qF2),(3,.v (.int .i64 ((QY (dk) (fun i=>Qf (st i).e) 0:Nat):Int))),(1,.p 0 0)] x1x sj1 Zk fun G2 a2 w2 hst2 _=> ?_
   refine Kt r9Dp 3 (by kernel_rfl) (nst) (fun ii aa ww=> ∃ gg,RC.St W.heap.size W f18.ntmps ((5,.v (.int .i64 ((ii:Nat):Int)))::(3,.v (.int .i64 ((QY (dk) (fun i=>Qf (st i).e) ii:Nat):Int)))::[(1,.p 0 0)]) x1x gg aa ww) ⟨G2,hst2⟩ (fun i2 hi2 b2 u2 hI2=> ?_) (fun b2 u2 hI2=> ?_)
   · obtain ⟨g2,hs2⟩:=hI2
     have htst2:decide (((i2:Nat):Int)<((nst:Nat):Int))=true:=by simp;omega
     obtain ⟨eb3,eo3,ed3,es3,eq3,el3,em3,ep3,er3⟩:=ia.st.at (i:=(i2)) hi2
     have pp3:=ep3
     obtain ⟨sz3,ds3,rfl,ie3⟩:=ep3
     obtain ⟨e3k,e3o,e3vk,e3vn,e3vt,e3tb,e3nm,e3A,e3n,e3c,e3pl,e3ty,rfl⟩:=ie3.form
     have F3:=JE W htst2
     have F4:=nEl W 11 eq3 underlying29 hi2
     have F5:Sd W (.get 34 (.pointer (some ⟨eb3,eo3+i2*11+1,none⟩)) (eV e3k e3o e3vk e3vn e3vt e3tb e3nm e3A e3n e3c e3pl e3ty)):=Qb.part (d:=1) Qd Qd er3 rfl el3 Qo
     have C6:Sd W (.call 54 [eV e3k e3o e3vk e3vn e3vt e3tb e3nm e3A e3n e3c e3pl e3ty] (.int .i64 ((Qf (st i2).e:Nat):Int))):=by exact Qb.of func54 rfl Qd (fun w hw=>deep9_ok (st i2).e _ w QlPV (hst_ i2 hi2))
     have F7:Sd W (.ask (Builtin.max_ #[] 0 [.int .i64 ((QY (dk) (fun i=>Qf (st i).e) i2:Nat):Int),.int .i64 ((Qf (st i2).e:Nat):Int)].toArray) (.int .i64 ((max (QY (dk) (fun i=>Qf (st i).e) i2) (Qf (st i2).e):Nat):Int))):=Qb.maxNat
     have F8:=sd W (Qb.inc (t:=3) (i:=i2) (by omega))
     have e0:max (QY (dk) (fun i=>Qf (st i).e) i2) (Qf (st i2).e)=QY (dk) (fun i=>Qf (st i).e) (i2+1):=by rfl
     exact goT .fin (k':=[]) (e:=.nrm) [(5,.v (.int .i64 ((i2+1:Nat):Int))),(3,.v (.int .i64 ((max (QY (dk) (fun i=>Qf (st i).e) i2) (Qf (st i2).e):Nat):Int))),(1,.p 0 0)] hs2 (Je F3 F4 F5 C6 F7 F8) (by kernel_rfl) rfl (by kernel_rfl) fun g0 a0 w0 h0 _=>⟨g0,by rw [← e0];exact h0⟩
   obtain ⟨g2,hs2⟩:=hI2
   have htst2e:decide (((nst:Nat):Int)<((nst:Nat):Int))=false:=by simp
   have F9:=JE W htst2e
   refine gF (.ex 3) [(3,.v (.int .i64 ((QY (dk) (fun i=>Qf (st i).e) nst:Nat):Int))),(1,.p 0 0)] x1x hs2 (Zg F9) fun G4 a4 w4 hst4 _=>brk ?_
   have C10:Sd W (.call 54 [eV wk wo wvk wvn wvt wtb wnm wA wn wc wpl wty] (.int .i64 ((Qf wh:Nat):Int))):=by exact Qb.of func54 rfl Qd (fun w hw=>deep9_ok wh _ w QOF2 hwh)
   have C11:Sd W (.call 54 [eV hk ho hvk hvn hvt htb hnm hA hn hc hpl hty] (.int .i64 ((Qf hv:Nat):Int))):=by exact Qb.of func54 rfl Qd (fun w hw=>deep9_ok hv _ w QKE7 hhv)
   have C12:Sd W (.call 53 [.slice A7 ngr c7] (.int .i64 ((Ql (ngr) (fun j=>Qf (gr j)):Nat):Int))):=by exact Qb.of func53 rfl Qd (fun w hw=>deepest9_ok (ngr) (gr) _ w (Z6.sub (.below hw) ia.gr) hgr)
   have F13:Sd W (.ask (Builtin.max_ #[] 0 [.int .i64 ((QY (dk) (fun i=>Qf (st i).e) nst:Nat):Int),.int .i64 ((Qf wh:Nat):Int),.int .i64 ((Qf hv:Nat):Int),.int .i64 ((Ql (ngr) (fun j=>Qf (gr j)):Nat):Int)].toArray) (.int .i64 ((max (max (max (QY (dk) (fun i=>Qf (st i).e) nst) (Qf wh)) (Qf hv)) (Ql (ngr) (fun j=>Qf (gr j))):Nat):Int))):=Qb.maxNat4
   refine gO r9Dp (.loop 5) [(6,.v qF2),(3,.v (.int .i64 ((QY (max (max (max (QY (dk) (fun i=>Qf (st i).e) nst) (Qf wh)) (Qf hv)) (Ql (ngr) (fun j=>Qf (gr j)))) (fun i=>Qf (it i).e) 0:Nat):Int))),(1,.p 0 0)] x1x hst4 (Jf C10 C11 C12 F13) fun G5 a5 w5 hst5 _=> ?_
   refine Kt r9Dp 5 (by kernel_rfl) (nit) (fun ii aa ww=> ∃ gg,RC.St W.heap.size W f18.ntmps ((6,.v (.int .i64 ((ii:Nat):Int)))::(3,.v (.int .i64 ((QY (max (max (max (QY (dk) (fun i=>Qf (st i).e) nst) (Qf wh)) (Qf hv)) (Ql (ngr) (fun j=>Qf (gr j)))) (fun i=>Qf (it i).e) ii:Nat):Int)))::[(1,.p 0 0)]) x1x gg aa ww) ⟨G5,hst5⟩ (fun i5 hi5 b5 u5 hI5=> ?_) (fun b5 u5 hI5=> ?_)
   · obtain ⟨g5,hs5⟩:=hI5
     have htst5:decide (((i5:Nat):Int)<((nit:Nat):Int))=true:=by simp;omega
     obtain ⟨eb6,eo6,ed6,es6,eq6,el6,em6,ep6,er6⟩:=ia.it.at (i:=(i5)) hi5
     have pp6:=ep6
     obtain ⟨sz6,ds6,rfl,ie6⟩:=ep6
     obtain ⟨e6k,e6o,e6vk,e6vn,e6vt,e6tb,e6nm,e6A,e6n,e6c,e6pl,e6ty,rfl⟩:=ie6.form
     obtain ⟨y14,hy14⟩: ∃ z,(it i5).star=z:=⟨_,rfl⟩
     rw [hy14] at er6 pp6
     have F15:=JE W htst5
     have F16:=nEl W 12 eq6 underlying35 hi5
     have F17:Sd W (.get 34 (.pointer (some ⟨eb6,eo6+i5*12+1,none⟩)) (eV e6k e6o e6vk e6vn e6vt e6tb e6nm e6A e6n e6c e6pl e6ty)):=Qb.part (d:=1) Qd Qd er6 rfl el6 Qo
     have C18:Sd W (.call 54 [eV e6k e6o e6vk e6vn e6vt e6tb e6nm e6A e6n e6c e6pl e6ty] (.int .i64 ((Qf (it i5).e:Nat):Int))):=by exact Qb.of func54 rfl Qd (fun w hw=>deep9_ok (it i5).e _ w (QI.sub (.below hw) ie6) (hit i5 hi5))
     have F19:Sd W (.ask (Builtin.max_ #[] 0 [.int .i64 ((QY (max (max (max (QY (dk) (fun i=>Qf (st i).e) nst) (Qf wh)) (Qf hv)) (Ql (ngr) (fun j=>Qf (gr j)))) (fun i=>Qf (it i).e) i5:Nat):Int),.int .i64 ((Qf (it i5).e:Nat):Int)].toArray) (.int .i64 ((max (QY (max (max (max (QY (dk) (fun i=>Qf (st i).e) nst) (Qf wh)) (Qf hv)) (Ql (ngr) (fun j=>Qf (gr j)))) (fun i=>Qf (it i).e) i5) (Qf (it i5).e):Nat):Int))):=Qb.maxNat
     have F20:=sd W (Qb.inc (t:=3) (i:=i5) (by omega))
     have e0:max (QY (max (max (max (QY (dk) (fun i=>Qf (st i).e) nst) (Qf wh)) (Qf hv)) (Ql (ngr) (fun j=>Qf (gr j)))) (fun i=>Qf (it i).e) i5) (Qf (it i5).e)=QY (max (max (max (QY (dk) (fun i=>Qf (st i).e) nst) (Qf wh)) (Qf hv)) (Ql (ngr) (fun j=>Qf (gr j)))) (fun i=>Qf (it i).e) (i5+1):=by rfl
     exact goT .fin (k':=[]) (e:=.nrm) [(6,.v (.int .i64 ((i5+1:Nat):Int))),(3,.v (.int .i64 ((max (QY (max (max (max (QY (dk) (fun i=>Qf (st i).e) nst) (Qf wh)) (Qf hv)) (Ql (ngr) (fun j=>Qf (gr j)))) (fun i=>Qf (it i).e) i5) (Qf (it i5).e):Nat):Int))),(1,.p 0 0)] hs5 (Je F15 F16 F17 C18 F19 F20) (by kernel_rfl) rfl (by kernel_rfl) fun g0 a0 w0 h0 _=>⟨g0,by rw [← e0];exact h0⟩
   obtain ⟨g5,hs5⟩:=hI5
   have htst5e:decide (((nit:Nat):Int)<((nit:Nat):Int))=false:=by simp
   have F21:=JE W htst5e
   refine gF (.ex 5) [(3,.v (.int .i64 ((QY (max (max (max (QY (dk) (fun i=>Qf (st i).e) nst) (Qf wh)) (Qf hv)) (Ql (ngr) (fun j=>Qf (gr j)))) (fun i=>Qf (it i).e) nit:Nat):Int))),(1,.p 0 0)] x1x hs5 (Zg F21) fun G7 a7 w7 hst7 _=>brk ?_
   refine gO r9Dp (.loop 7) [(7,.v qF2),(3,.v (.int .i64 ((QY (QY (max (max (max (QY (dk) (fun i=>Qf (st i).e) nst) (Qf wh)) (Qf hv)) (Ql (ngr) (fun j=>Qf (gr j)))) (fun i=>Qf (it i).e) nit) (fun i=>Qf (fr i).e) 0:Nat):Int))),(1,.p 0 0)] x1x hst7 Zk fun G8 a8 w8 hst8 _=> ?_
   refine Kt r9Dp 7 (by kernel_rfl) (nfr) (fun ii aa ww=> ∃ gg,RC.St W.heap.size W f18.ntmps ((7,.v (.int .i64 ((ii:Nat):Int)))::(3,.v (.int .i64 ((QY (QY (max (max (max (QY (dk) (fun i=>Qf (st i).e) nst) (Qf wh)) (Qf hv)) (Ql (ngr) (fun j=>Qf (gr j)))) (fun i=>Qf (it i).e) nit) (fun i=>Qf (fr i).e) ii:Nat):Int)))::[(1,.p 0 0)]) x1x gg aa ww) ⟨G8,hst8⟩ (fun i8 hi8 b8 u8 hI8=> ?_) (fun b8 u8 hI8=> ?_)
   · obtain ⟨g8,hs8⟩:=hI8
     have htst8:decide (((i8:Nat):Int)<((nfr:Nat):Int))=true:=by simp;omega
     obtain ⟨eb9,eo9,ed9,es9,eq9,el9,em9,ep9,er9⟩:=ia.fr.at (i:=(i8)) hi8
     have pp9:=ep9
     obtain ⟨sz9,sa9,ds9,rfl,ie9⟩:=ep9
     obtain ⟨e9k,e9o,e9vk,e9vn,e9vt,e9tb,e9nm,e9A,e9n,e9c,e9pl,e9ty,rfl⟩:=ie9.form
     obtain ⟨y22,hy22⟩: ∃ z,(fr i8).left=z:=⟨_,rfl⟩
     rw [hy22] at er9 pp9
     have F23:=JE W htst8
     have F24:=nEl W 13 eq9 underlying36 hi8
     have F25:Sd W (.get 34 (.pointer (some ⟨eb9,eo9+i8*13+3,none⟩)) (eV e9k e9o e9vk e9vn e9vt e9tb e9nm e9A e9n e9c e9pl e9ty)):=Qb.part (d:=3) Qd Qd er9 rfl el9 Qo
     have C26:Sd W (.call 54 [eV e9k e9o e9vk e9vn e9vt e9tb e9nm e9A e9n e9c e9pl e9ty] (.int .i64 ((Qf (fr i8).e:Nat):Int))):=by exact Qb.of func54 rfl Qd (fun w hw=>deep9_ok (fr i8).e _ w (QI.sub (.below hw) ie9) (hfr i8 hi8))
     have F27:Sd W (.ask (Builtin.max_ #[] 0 [.int .i64 ((QY (QY (max (max (max (QY (dk) (fun i=>Qf (st i).e) nst) (Qf wh)) (Qf hv)) (Ql (ngr) (fun j=>Qf (gr j)))) (fun i=>Qf (it i).e) nit) (fun i=>Qf (fr i).e) i8:Nat):Int),.int .i64 ((Qf (fr i8).e:Nat):Int)].toArray) (.int .i64 ((max (QY (QY (max (max (max (QY (dk) (fun i=>Qf (st i).e) nst) (Qf wh)) (Qf hv)) (Ql (ngr) (fun j=>Qf (gr j)))) (fun i=>Qf (it i).e) nit) (fun i=>Qf (fr i).e) i8) (Qf (fr i8).e):Nat):Int))):=Qb.maxNat
     have F28:=sd W (Qb.inc (t:=3) (i:=i8) (by omega))
     have e0:max (QY (QY (max (max (max (QY (dk) (fun i=>Qf (st i).e) nst) (Qf wh)) (Qf hv)) (Ql (ngr) (fun j=>Qf (gr j)))) (fun i=>Qf (it i).e) nit) (fun i=>Qf (fr i).e) i8) (Qf (fr i8).e)=QY (QY (max (max (max (QY (dk) (fun i=>Qf (st i).e) nst) (Qf wh)) (Qf hv)) (Ql (ngr) (fun j=>Qf (gr j)))) (fun i=>Qf (it i).e) nit) (fun i=>Qf (fr i).e) (i8+1):=by rfl
     exact goT .fin (k':=[]) (e:=.nrm) [(7,.v (.int .i64 ((i8+1:Nat):Int))),(3,.v (.int .i64 ((max (QY (QY (max (max (max (QY (dk) (fun i=>Qf (st i).e) nst) (Qf wh)) (Qf hv)) (Ql (ngr) (fun j=>Qf (gr j)))) (fun i=>Qf (it i).e) nit) (fun i=>Qf (fr i).e) i8) (Qf (fr i8).e):Nat):Int))),(1,.p 0 0)] hs8 (Je F23 F24 F25 C26 F27 F28) (by kernel_rfl) rfl (by kernel_rfl) fun g0 a0 w0 h0 _=>⟨g0,by rw [← e0];exact h0⟩
   obtain ⟨g8,hs8⟩:=hI8
   have htst8e:decide (((nfr:Nat):Int)<((nfr:Nat):Int))=false:=by simp
   have F29:=JE W htst8e
   refine gF (.ex 7) [(3,.v (.int .i64 ((QY (QY (max (max (max (QY (dk) (fun i=>Qf (st i).e) nst) (Qf wh)) (Qf hv)) (Ql (ngr) (fun j=>Qf (gr j)))) (fun i=>Qf (it i).e) nit) (fun i=>Qf (fr i).e) nfr:Nat):Int))),(1,.p 0 0)] x1x hs8 (Zg F29) fun G10 a10 w10 hst10 _=>brk ?_
   refine gO r9Dp (.loop 9) [(8,.v qF2),(3,.v (.int .i64 ((QY (QY (QY (max (max (max (QY (dk) (fun i=>Qf (st i).e) nst) (Qf wh)) (Qf hv)) (Ql (ngr) (fun j=>Qf (gr j)))) (fun i=>Qf (it i).e) nit) (fun i=>Qf (fr i).e) nfr) (fun i=>Qf (od i).e) 0:Nat):Int))),(1,.p 0 0)] x1x hst10 Zk fun G11 a11 w11 hst11 _=> ?_
   refine Kt r9Dp 9 (by kernel_rfl) (nor) (fun ii aa ww=> ∃ gg,RC.St W.heap.size W f18.ntmps ((8,.v (.int .i64 ((ii:Nat):Int)))::(3,.v (.int .i64 ((QY (QY (QY (max (max (max (QY (dk) (fun i=>Qf (st i).e) nst) (Qf wh)) (Qf hv)) (Ql (ngr) (fun j=>Qf (gr j)))) (fun i=>Qf (it i).e) nit) (fun i=>Qf (fr i).e) nfr) (fun i=>Qf (od i).e) ii:Nat):Int)))::[(1,.p 0 0)]) x1x gg aa ww) ⟨G11,hst11⟩ (fun i11 hi11 b11 u11 hI11=> ?_) (fun b11 u11 hI11=> ?_)
   · obtain ⟨g11,hs11⟩:=hI11
     have htst11:decide (((i11:Nat):Int)<((nor:Nat):Int))=true:=by simp;omega
     obtain ⟨eb12,eo12,ed12,es12,eq12,el12,em12,ep12,er12⟩:=ia.od.at (i:=(i11)) hi11
     have pp12:=ep12
     obtain ⟨ds12,rfl,ie12⟩:=ep12
     obtain ⟨e12k,e12o,e12vk,e12vn,e12vt,e12tb,e12nm,e12A,e12n,e12c,e12pl,e12ty,rfl⟩:=ie12.form
     obtain ⟨y30,hy30⟩: ∃ z,(od i11).desc=z:=⟨_,rfl⟩
     rw [hy30] at er12 pp12
     have F31:=JE W htst11
     have F32:=nEl W 11 eq12 underlying37 hi11
     have F33:Sd W (.get 34 (.pointer (some ⟨eb12,eo12+i11*11,none⟩)) (eV e12k e12o e12vk e12vn e12vt e12tb e12nm e12A e12n e12c e12pl e12ty)):=Qb.part (d:=0) Qd Qd er12 rfl el12 Qo
     have C34:Sd W (.call 54 [eV e12k e12o e12vk e12vn e12vt e12tb e12nm e12A e12n e12c e12pl e12ty] (.int .i64 ((Qf (od i11).e:Nat):Int))):=by exact Qb.of func54 rfl Qd (fun w hw=>deep9_ok (od i11).e _ w (QI.sub (.below hw) ie12) (hod i11 hi11))
     have F35:Sd W (.ask (Builtin.max_ #[] 0 [.int .i64 ((QY (QY (QY (max (max (max (QY (dk) (fun i=>Qf (st i).e) nst) (Qf wh)) (Qf hv)) (Ql (ngr) (fun j=>Qf (gr j)))) (fun i=>Qf (it i).e) nit) (fun i=>Qf (fr i).e) nfr) (fun i=>Qf (od i).e) i11:Nat):Int),.int .i64 ((Qf (od i11).e:Nat):Int)].toArray) (.int .i64 ((max (QY (QY (QY (max (max (max (QY (dk) (fun i=>Qf (st i).e) nst) (Qf wh)) (Qf hv)) (Ql (ngr) (fun j=>Qf (gr j)))) (fun i=>Qf (it i).e) nit) (fun i=>Qf (fr i).e) nfr) (fun i=>Qf (od i).e) i11) (Qf (od i11).e):Nat):Int))):=Qb.maxNat
     have F36:=sd W (Qb.inc (t:=3) (i:=i11) (by omega))
     have e0:max (QY (QY (QY (max (max (max (QY (dk) (fun i=>Qf (st i).e) nst) (Qf wh)) (Qf hv)) (Ql (ngr) (fun j=>Qf (gr j)))) (fun i=>Qf (it i).e) nit) (fun i=>Qf (fr i).e) nfr) (fun i=>Qf (od i).e) i11) (Qf (od i11).e)=QY (QY (QY (max (max (max (QY (dk) (fun i=>Qf (st i).e) nst) (Qf wh)) (Qf hv)) (Ql (ngr) (fun j=>Qf (gr j)))) (fun i=>Qf (it i).e) nit) (fun i=>Qf (fr i).e) nfr) (fun i=>Qf (od i).e) (i11+1):=by rfl
     exact goT .fin (k':=[]) (e:=.nrm) [(8,.v (.int .i64 ((i11+1:Nat):Int))),(3,.v (.int .i64 ((max (QY (QY (QY (max (max (max (QY (dk) (fun i=>Qf (st i).e) nst) (Qf wh)) (Qf hv)) (Ql (ngr) (fun j=>Qf (gr j)))) (fun i=>Qf (it i).e) nit) (fun i=>Qf (fr i).e) nfr) (fun i=>Qf (od i).e) i11) (Qf (od i11).e):Nat):Int))),(1,.p 0 0)] hs11 (Je F31 F32 F33 C34 F35 F36) (by kernel_rfl) rfl (by kernel_rfl) fun g0 a0 w0 h0 _=>⟨g0,by rw [← e0];exact h0⟩
   obtain ⟨g11,hs11⟩:=hI11
   have htst11e:decide (((nor:Nat):Int)<((nor:Nat):Int))=false:=by simp
   have F37:=JE W htst11e
   refine gF (.ex 9) [(3,.v (.int .i64 ((QY (QY (QY (max (max (max (QY (dk) (fun i=>Qf (st i).e) nst) (Qf wh)) (Qf hv)) (Ql (ngr) (fun j=>Qf (gr j)))) (fun i=>Qf (it i).e) nit) (fun i=>Qf (fr i).e) nfr) (fun i=>Qf (od i).e) nor:Nat):Int))),(1,.p 0 0)] x1x hs11 (Zg F37) fun G13 a13 w13 hst13 _=>brk ?_
   exact gE hst13 Zk [.int .i64 ((QY (QY (QY (max (max (max (QY (dk) (fun i=>Qf (st i).e) nst) (Qf wh)) (Qf hv)) (Ql (ngr) (fun j=>Qf (gr j)))) (fun i=>Qf (it i).e) nit) (fun i=>Qf (fr i).e) nfr) (fun i=>Qf (od i).e) nor:Nat):Int)] fun w' hw=>⟨by rw [if_pos hz1];show Ending.returned (.int .i64 ((QY (QY (QY (max (max (max (QY (dk) (fun i=>Qf (st i).e) nst) (Qf wh)) (Qf hv)) (Ql (ngr) (fun j=>Qf (gr j)))) (fun i=>Qf (it i).e) nit) (fun i=>Qf (fr i).e) nfr) (fun i=>Qf (od i).e) nor:Nat):Int))=_;subst hdk;simp only [depS,depK,Jq,bS];try simp,hw⟩
 obtain ⟨z38,hz38⟩: ∃ z,(kind==1)=z:=⟨_,rfl⟩
 have F39:=QN W hz38
 cases z38
 rotate_left
 · have he54:=eq_of_beq hz38
   obtain ⟨z55,hz55⟩: ∃ z,(decide (0<((nkc:Nat):Int)))=z:=⟨_,rfl⟩
   have F56:=nGt W hz55
   cases z55
   · have eK20:(.int .i64 1:Value)= .int .i64 ((dk:Nat):Int):=by subst hdk;simp only [depK,Jq,hz38,hz55,bS];try simp
     exact gO r9Dp (.op 16 0) [(3,.v (.int .i64 1)),(1,.p 0 0)] x1x hst (kE3 C2 F39 F56) fun g0 a0 w0 h0 _=>KJ1 _ _ ⟨g0,by rw [← eK20];exact h0⟩
   have eK21:(.int .i64 2:Value)= .int .i64 ((dk:Nat):Int):=by subst hdk;simp only [depK,Jq,hz38,hz55,bS];try simp
   exact gO r9Dp (.op 16 0) [(3,.v (.int .i64 2)),(1,.p 0 0)] x1x hst (kE3 C2 F39 F56) fun g0 a0 w0 h0 _=>KJ1 _ _ ⟨g0,by rw [← eK21];exact h0⟩
 obtain ⟨z40,hz40⟩: ∃ z,(kind==2)=z:=⟨_,rfl⟩
 have F41:=QN W hz40
 cases z40
 rotate_left
 · have he53:=eq_of_beq hz40
   have eK19:(.int .i64 1:Value)= .int .i64 ((dk:Nat):Int):=by subst hdk;simp only [depK,Jq,hz38,hz40,bS];try simp
   exact gO r9Dp (.op 16 0) [(3,.v (.int .i64 1)),(1,.p 0 0)] x1x hst (kE3 C2 F39 F41) fun g0 a0 w0 h0 _=>KJ1 _ _ ⟨g0,by rw [← eK19];exact h0⟩
 obtain ⟨z42,hz42⟩: ∃ z,(kind==5)=z:=⟨_,rfl⟩
 have F43:=QN W hz42
 cases z42
 · have eK14:(.int .i64 0:Value)= .int .i64 ((dk:Nat):Int):=by subst hdk;simp only [depK,Jq,hz38,hz40,hz42,bS];try simp
   exact gO r9Dp (.op 16 0) [(3,.v (.int .i64 0)),(1,.p 0 0)] x1x hst (Jf C2 F39 F41 F43) fun g0 a0 w0 h0 _=>KJ1 _ _ ⟨g0,by rw [← eK14];exact h0⟩
 have he44:=eq_of_beq hz42
 refine gO r9Dp (.loop 1) [(4,.v qF2),(3,.v (.int .i64 ((QY (0) (fun i=>1+Ql (rw_ i).n (fun j=>Qf ((rw_ i).f j))) 0:Nat):Int))),(1,.p 0 0)] x1x hst (Jf C2 F39 F41 F43) fun G15 a15 w15 hst15 _=> ?_
 refine Kt r9Dp 1 (by kernel_rfl) (nrw) (fun ii aa ww=> ∃ gg,RC.St W.heap.size W f18.ntmps ((4,.v (.int .i64 ((ii:Nat):Int)))::(3,.v (.int .i64 ((QY (0) (fun i=>1+Ql (rw_ i).n (fun j=>Qf ((rw_ i).f j))) ii:Nat):Int)))::[(1,.p 0 0)]) x1x gg aa ww) ⟨G15,hst15⟩ (fun i15 hi15 b15 u15 hI15=> ?_) (fun b15 u15 hI15=> ?_)
 · obtain ⟨g15,hs15⟩:=hI15
   have htst15:decide (((i15:Nat):Int)<((nrw:Nat):Int))=true:=by simp;omega
   obtain ⟨eb16,eo16,ed16,es16,eq16,el16,em16,ep16,er16⟩:=ia.rw.at (i:=(i15)) hi15
   have pp16:=ep16
   obtain ⟨kv16,rfl,ks16⟩:=ep16
   obtain ⟨KA16,kc16,rfl⟩:=ks16.form
   have F45:=JE W htst15
   have F46:=nEl W 1 eq16 underlying28 hi15
   have F47:Sd W (.get 32 (.pointer (some ⟨eb16,eo16+i15*1,none⟩)) (.slice KA16 (rw_ i15).n kc16)):=Qb.cellAt (d:=0) Qd er16 rfl el16 Qo
   have C48:Sd W (.call 53 [.slice KA16 (rw_ i15).n kc16] (.int .i64 ((Ql ((rw_ i15).n) (fun j=>Qf (((rw_ i15).f) j)):Nat):Int))):=by exact Qb.of func53 rfl Qd (fun w hw=>deepest9_ok ((rw_ i15).n) ((rw_ i15).f) _ w (Z6.sub (.below hw) ks16) (hrw i15 hi15))
   have F49:Sd W (.bin .add 3 (.int .i64 1) (.int .i64 ((Ql ((rw_ i15).n) (fun j=>Qf (((rw_ i15).f) j)):Nat):Int)) (.int .i64 ((1+Ql ((rw_ i15).n) (fun j=>Qf (((rw_ i15).f) j)):Nat):Int))):=Qb.addN (a:=1) (b:=Ql ((rw_ i15).n) (fun j=>Qf (((rw_ i15).f) j))) (by have hq:=hrw i15 hi15;omega)
   have F50:Sd W (.ask (Builtin.max_ #[] 0 [.int .i64 ((QY (0) (fun i=>1+Ql (rw_ i).n (fun j=>Qf ((rw_ i).f j))) i15:Nat):Int),.int .i64 ((1+Ql ((rw_ i15).n) (fun j=>Qf (((rw_ i15).f) j)):Nat):Int)].toArray) (qF1 rw_ i15)):=Qb.maxNat
   have F51:=sd W (Qb.inc (t:=3) (i:=i15) (by omega))
   have e0:max (QY (0) (fun i=>1+Ql (rw_ i).n (fun j=>Qf ((rw_ i).f j))) i15) (1+Ql ((rw_ i15).n) (fun j=>Qf (((rw_ i15).f) j)))=QY (0) (fun i=>1+Ql (rw_ i).n (fun j=>Qf ((rw_ i).f j))) (i15+1):=by rfl
   exact goT .fin (k':=[]) (e:=.nrm) [(4,.v (.int .i64 ((i15+1:Nat):Int))),(3,.v (qF1 rw_ i15)),(1,.p 0 0)] hs15 (kE7 F45 F46 F47 C48 F49 F50 F51) (by kernel_rfl) rfl (by kernel_rfl) fun g0 a0 w0 h0 _=>⟨g0,by rw [← e0];exact h0⟩
 obtain ⟨g15,hs15⟩:=hI15
 have htst15e:decide (((nrw:Nat):Int)<((nrw:Nat):Int))=false:=by simp
 have F52:=JE W htst15e
 refine gF (.ex 1) (qF3 rw_ nrw) x1x hs15 (Zg F52) fun G17 a17 w17 hst17 _=>brk ?_
 have eK18:(.int .i64 ((QY (0) (fun i=>1+Ql (rw_ i).n (fun j=>Qf ((rw_ i).f j))) nrw:Nat):Int):Value)= .int .i64 ((dk:Nat):Int):=by subst hdk;simp only [depK,Jq,hz38,hz40,hz42,bS];try simp
 exact gO r9Dp (.op 16 0) (qF3 rw_ nrw) x1x hst17 Zk fun g0 a0 w0 h0 _=>KJ1 _ _ ⟨g0,by rw [← eK18];exact h0⟩
end
end Go.Proofs.YtddedijencleeaaGreatDoor

/- What ref9.Depth counts is what the writer's depth is. -/
set_option linter.all false
namespace Go.Proofs.YtddedijencleeaaGreatDoor
open Go.RowKit Go.Lib RC
theorem Jr {e:E} (h:QE e=true):Qf e=0∧QQ e=0:=by
 cases e with
 | no=>simp [QE] at h
 | mk k op vk vn vt tb nm n args pl ty=>
  simp only [QE,ZA,Bool.and_eq_true,beq_iff_eq] at h
  obtain ⟨⟨rfl,_⟩,h2⟩:=h
  obtain rfl:n=0:=by omega
  exact ⟨by simp [Qf,Ql],dpE_none rfl⟩
theorem deepR_may {e:E} (h:Zx e=true):Qf e=QQ e:=by
 cases hz:QE e with
 | true=>obtain ⟨h1,h2⟩:=Jr hz;rw [h1,h2]
 | false=>exact Jz e (isE_of_may h hz)
theorem maxN_one {n:Nat} (h:0<n):Ql n (fun _=>1)=1:=Nat.le_antisymm (JI fun _ _=>Nat.le_refl _) (KV (f:=fun _=>1) h)
theorem depS_base (s:S) (h1:s.nst=0) (h2:s.nit=0) (h3:s.nfr=0) (h4:s.nor=0) (h5:s.gr.n=0) (h6:QE s.wh=true) (h7:QE s.hv=true):depS s=depK s:=by
 simp only [depS,Jq,h1,h2,h3,h4,h5,Ql,(Jr h6).1,(Jr h7).1]
 omega
theorem depS_stmtD (s:S) (h:Zw s=true):depS s=QP s:=by
 obtain ⟨hk,p1,p5,p6,p7,p8⟩:=isT_parts s h
 obtain ⟨m1,m8⟩:=isT_more s h
 unfold Zw at h
 by_cases k1:s.kind=1
 · rw [k1] at h
   simp only [beq_self_eq_true,if_true,Bool.and_eq_true,QO,beq_iff_eq] at h
   obtain ⟨_,⟨⟨⟨⟨⟨⟨⟨⟨_,e⟩,_⟩,_⟩,_⟩,_⟩,hw⟩,hv⟩,_⟩⟩:=h
   rw [depS_base s (by omega) (by omega) (by omega) (by omega) (by omega) hw hv]
   have:=(p1 k1).2
   simp only [depK,QP,Jp,k1,beq_self_eq_true,if_true,maxN_zero,this]
   by_cases h0:0<s.nkc
   · rw [maxN_one h0];simp [h0]
   obtain e0:s.nkc=0:=by omega
   simp [e0,Ql]
 by_cases k2:s.kind=2
 · have q:((2:Int)==1)=false:=by decide
   rw [k2] at h
   simp only [q,beq_self_eq_true,if_true,Bool.false_eq_true,if_false,Bool.and_eq_true,QO,beq_iff_eq] at h
   obtain ⟨_,⟨⟨⟨⟨⟨⟨⟨⟨_,e⟩,_⟩,_⟩,_⟩,_⟩,hw⟩,hv⟩,_⟩⟩:=h
   rw [depS_base s (by omega) (by omega) (by omega) (by omega) (by omega) hw hv]
   simp [depK,QP,k2]
 by_cases k3:s.kind=3
 · have q:((3:Int)==1)=false∧((3:Int)==2)=false:=by decide
   rw [k3] at h
   simp only [q,beq_self_eq_true,if_true,Bool.false_eq_true,if_false,Bool.and_eq_true,QO,beq_iff_eq] at h
   obtain ⟨_,⟨⟨⟨⟨⟨⟨⟨⟨_,e⟩,_⟩,_⟩,_⟩,_⟩,hw⟩,hv⟩,_⟩⟩:=h
   rw [depS_base s (by omega) (by omega) (by omega) (by omega) (by omega) hw hv]
   simp [depK,QP,k3]
 by_cases k4:s.kind=4
 · have q:((4:Int)==1)=false∧((4:Int)==2)=false∧((4:Int)==3)=false:=by decide
   rw [k4] at h
   simp only [q,beq_self_eq_true,if_true,Bool.false_eq_true,if_false,Bool.and_eq_true,QO,beq_iff_eq] at h
   obtain ⟨_,⟨⟨⟨⟨⟨⟨⟨⟨_,e⟩,_⟩,_⟩,_⟩,_⟩,hw⟩,hv⟩,_⟩⟩:=h
   rw [depS_base s (by omega) (by omega) (by omega) (by omega) (by omega) hw hv]
   simp [depK,QP,k4]
 by_cases k5:s.kind=5
 · have q:((5:Int)==1)=false∧((5:Int)==2)=false∧((5:Int)==3)=false∧((5:Int)==4)=false:=by decide
   rw [k5] at h
   simp only [q,beq_self_eq_true,if_true,Bool.false_eq_true,if_false,Bool.and_eq_true,QO,beq_iff_eq] at h
   obtain ⟨⟨_,hr⟩,⟨⟨⟨⟨⟨⟨⟨⟨_,e⟩,_⟩,_⟩,_⟩,_⟩,hw⟩,hv⟩,_⟩⟩:=h
   rw [depS_base s (by omega) (by omega) (by omega) (by omega) (by omega) hw hv]
   simp only [Zn,Bool.and_eq_true,decide_eq_true_eq] at hr
   have e1:Ql s.nrw (fun i=>1+Ql (s.rw i).n (fun j=>Qf ((s.rw i).f j)))=Ql s.nrw (fun i=>Ql (s.rw i).n (fun j=>QQ ((s.rw i).f j))+1):=Kj fun i hi=>by
    rw [Kj (g:=fun j=>QQ ((s.rw i).f j)) fun j hj=>Jz _ (p5 k5 i hi j hj),Nat.add_comm]
   have e2:=KV (f:=fun i=>Ql (s.rw i).n (fun j=>QQ ((s.rw i).f j))+1) (show 0<s.nrw by omega)
   simp only [depK,QP,k5,q,beq_self_eq_true,if_true,Bool.false_eq_true,if_false,e1]
   split <;> omega
 by_cases k6:s.kind=6
 · have q:((6:Int)==1)=false∧((6:Int)==2)=false∧((6:Int)==3)=false∧((6:Int)==4)=false∧((6:Int)==5)=false:=by decide
   rw [k6] at h
   simp only [q,beq_self_eq_true,if_true,Bool.false_eq_true,if_false,Bool.and_eq_true,QO,beq_iff_eq] at h
   obtain ⟨_,⟨⟨⟨⟨⟨⟨⟨⟨_,e⟩,_⟩,_⟩,_⟩,_⟩,_⟩,hv⟩,_⟩⟩:=h
   have e1:Ql s.nst (fun i=>Qf (s.st i).e)=Ql s.nst (fun i=>QQ (s.st i).e):=Kj fun i hi=>Jz _ ((p6 k6).1 i hi)
   simp only [depS,depK,QP,Jq,k6,q,beq_self_eq_true,if_true,Bool.false_eq_true,if_false,e1,deepR_may (p6 k6).2,(Jr hv).1,show s.nit=0 by omega,show s.nfr=0 by omega,show s.nor=0 by omega,show s.gr.n=0 by omega,Ql]
   omega
 by_cases k7:s.kind=7
 · have q:((7:Int)==1)=false∧((7:Int)==2)=false∧((7:Int)==3)=false∧((7:Int)==4)=false∧((7:Int)==5)=false∧((7:Int)==6)=false:=by decide
   rw [k7] at h
   simp only [q,beq_self_eq_true,if_true,Bool.false_eq_true,if_false,Bool.and_eq_true,QO,beq_iff_eq] at h
   obtain ⟨_,⟨⟨⟨⟨⟨⟨⟨⟨_,e⟩,_⟩,_⟩,_⟩,_⟩,_⟩,hv⟩,_⟩⟩:=h
   simp only [depS,depK,QP,Jq,k7,q,beq_self_eq_true,if_true,Bool.false_eq_true,if_false,deepR_may (p7 k7),(Jr hv).1,show s.nst=0 by omega,show s.nit=0 by omega,show s.nfr=0 by omega,show s.nor=0 by omega,show s.gr.n=0 by omega,Ql]
   omega
 obtain k8:s.kind=8:=by omega
 have q:((8:Int)==1)=false∧((8:Int)==2)=false∧((8:Int)==3)=false∧((8:Int)==4)=false∧((8:Int)==5)=false∧((8:Int)==6)=false∧((8:Int)==7)=false:=by decide
 rw [k8] at h
 simp only [q,beq_self_eq_true,if_true,Bool.false_eq_true,if_false,Bool.and_eq_true,QO,beq_iff_eq] at h
 obtain ⟨hs,⟨⟨⟨⟨⟨⟨⟨⟨_,e⟩,_⟩,_⟩,_⟩,_⟩,_⟩,_⟩,_⟩⟩:=h
 obtain ⟨a1,a2,a3,a4,a5,a6⟩:=p8 k8
 have i1:Ql s.nit (fun i=>Qf (s.it i).e)=Ql s.nit (fun i=>itemD (s.it i)):=Kj fun i hi=>by
  unfold itemD
  cases hz:(s.it i).star with
  | false=>simp only [Bool.false_eq_true,if_false];exact Jz _ (a1 i hi hz)
  | true=>
   simp only [Q0,Bool.and_eq_true] at hs
   have:=ZT hs.1.1.1.1.1.1 i hi
   simp only [itemT,hz,if_true,Bool.and_eq_true] at this
   simp only [if_true]
   exact (Jr this.1).1
 have i2:Ql s.nfr (fun i=>Qf (s.fr i).e)=Ql s.nfr (fun i=>QQ (s.fr i).e):=Kj fun i hi=>deepR_may (a2 i hi)
 have i3:Ql s.gr.n (fun i=>Qf (s.gr.f i))=Ql s.gr.n (fun i=>QQ (s.gr.f i)):=Kj fun i hi=>Jz _ (a4 i hi)
 have i4:Ql s.nor (fun i=>Qf (s.od i).e)=Ql s.nor (fun i=>QQ (s.od i).e):=Kj fun i hi=>Jz _ (a6 i hi)
 have j1:(if decide (0<(s.gr.n:Int))=true then Ql s.gr.n (fun i=>QQ (s.gr.f i)) else 0)=Ql s.gr.n (fun i=>QQ (s.gr.f i)):=by
  by_cases h0:0<s.gr.n
  · rw [if_pos QOjj]
  rw [show s.gr.n=0 by omega];simp [Ql]
 have j2:(if decide (0<(s.nor:Int))=true then Ql s.nor (fun i=>QQ (s.od i).e) else 0)=Ql s.nor (fun i=>QQ (s.od i).e):=by
  by_cases h0:0<s.nor
  · rw [if_pos QOjj]
  rw [show s.nor=0 by omega];simp [Ql]
 simp only [depS,depK,QP,Zl,Jq,k8,q,beq_self_eq_true,if_true,Bool.false_eq_true,if_false,i1,i2,i3,i4,j1,j2,deepR_may a3,deepR_may a5,show s.nst=0 by omega,Ql]
 omega
end Go.Proofs.YtddedijencleeaaGreatDoor
