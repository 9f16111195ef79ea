/- ref9.isCreate. -/
import Derived.Test.YtddedijencleeaaGreatDoorSm
import Derived.Test.YtddedijencleeaaGreatDoorMSq
import Derived.Test.YtddedijencleeaaGreatDoorUa
set_option linter.all false
namespace Go.Proofs.YtddedijencleeaaGreatDoor
set_option maxRecDepth 100000
set_option maxHeartbeats 8000000
open Tryz
noncomputable section
open Go.RowKit Go.Lib RC
noncomputable abbrev c9isCreate:Code:=Qt f38
noncomputable def colB (c:Co):Bool:=QD c.nm&& !(decide (c.ty<1))&& !(decide (3<c.ty))
noncomputable def keyB (k:Ke) (l:Na):Bool:=QB k.nm ⟨#[]⟩&& !(decide (0<(k.n:Int)))&&k.un&&JF l.n 1 fun i=>QD (l.f i)
noncomputable def Z7 (s:S):Bool:=
 QD s.tab.nm&& !(decide ((s.tab.nc:Int)<1))&& !(decide (10<(s.tab.nc:Int)))&& !(decide (10<(s.tab.nk:Int)))&&(s.nkc:Int)==(s.tab.nk:Int)&&(Zd s.tab.nc fun i=>colB (s.tab.cols i))&&Zd s.tab.nk fun i=>keyB (s.tab.keys i) (s.kc i)
abbrev qh1:Fr:=[(2,.v (.bool false))]
theorem isCreate9_ok (s:S) (cs:List Value) (W:World) (h:Ks W s cs) :
 Calls prog 38 #[.agg cs.toArray] W fun r W'=>r= .returned (.bool (Z7 s))∧Below W.heap.size W W':=by
 obtain ⟨kind,⟨tnm,tnc,tcols,tnk,tkeys⟩,nkc,kc,nm,ix,un,⟨ncl,cl⟩,nrw,rw_,nst,st,wh,di,nit,it,nfr,fr,⟨ngr,gr⟩,hv,nor,od,li⟩:=s
 obtain ⟨tA,tc,tB,td,A1,c1,A2,c2,A3,c3,A4,c4,A5,c5,A6,c6,A7,c7,A8,c8,wk,wo,wvk,wvn,wvt,wtb,wnm,wA,wn,wc,wpl,wty,hk,ho,hvk,hvn,hvt,htb,hnm,hA,hn,hc,hpl,hty,rfl,h0,ia,t1,t2⟩:=Ks.opn h
 let x1x:List Zp:=[bx (Zs kind tnm tA tnc tc tB tnk td A1 nkc c1 nm ix un A2 ncl c2 A3 nrw c3 A4 nst c4 wk wo wvk wvn wvt wtb wnm wA wn wc wpl wty di A5 nit c5 A6 nfr c6 A7 ngr c7 hk ho hvk hvn hvt htb hnm hA hn hc hpl hty A8 nor c8 li),bx [.string tnm,.slice tA tnc tc,.slice tB tnk td]]
 have iwh:=ia.wh
 have ihv:=ia.hv
 have iwf:=ia.wf
 have itn:=ia.tab.1
 have hn1:tnc≤9223372036854775807:=t1.len
 have hn2:tnk≤9223372036854775807:=t2.len
 refine Qj (args:=[.agg (Zs kind tnm tA tnc tc tB tnk td A1 nkc c1 nm ix un A2 ncl c2 A3 nrw c3 A4 nst c4 wk wo wvk wvn wvt wtb wnm wA wn wc wpl wty di A5 nit c5 A6 nfr c6 A7 ngr c7 hk ho hvk hvn hvt htb hnm hA hn hc hpl hty A8 nor c8 li).toArray]) (c:=c9isCreate) func38 rfl (by kernel_rfl) fun a0 hst=> ?_
 obtain ⟨z1,hz1⟩: ∃ z,(QD tnm)=z:=⟨_,rfl⟩
 have C2:Sd W (.call 37 [.string tnm] (.bool z1)):=by rw [← hz1, ← KK];exact Qb.of func37 rfl Qd (fun w hw=>ZR tnm itn w)
 cases z1
 · exact gE hst (Zg C2) [.bool false] fun w' hw=>⟨by simp only [Z7,hz1,bS];rfl,hw⟩
 obtain ⟨z3,hz3⟩: ∃ z,(decide (((tnc:Nat):Int)<1))=z:=⟨_,rfl⟩
 have F4:=JE W hz3
 cases z3
 rotate_left
 · exact gE hst (Km C2 F4) [.bool false] fun w' hw=>⟨by simp only [Z7,hz1,hz3,bS];rfl,hw⟩
 obtain ⟨z5,hz5⟩: ∃ z,(decide (10<((tnc:Nat):Int)))=z:=⟨_,rfl⟩
 have F6:=nGt W hz5
 cases z5
 rotate_left
 · exact gE hst (kE3 C2 F4 F6) [.bool false] fun w' hw=>⟨by simp only [Z7,hz1,hz3,hz5,bS];rfl,hw⟩
 obtain ⟨z7,hz7⟩: ∃ z,(decide (10<((tnk:Nat):Int)))=z:=⟨_,rfl⟩
 have F8:=nGt W hz7
 cases z7
 rotate_left
 · exact gE hst (Jf C2 F4 F6 F8) [.bool false] fun w' hw=>⟨by simp only [Z7,hz1,hz3,hz5,hz7,bS];rfl,hw⟩
 obtain ⟨z9,hz9⟩: ∃ z,(((nkc:Nat):Int)==((tnk:Nat):Int))=z:=⟨_,rfl⟩
 have F10:=sd W (Qb.intNe (t:=3) (k:=.i64) (a:=((nkc:Nat):Int)) (b:=((tnk:Nat):Int)) (z:=(!z9)) (by rw [bne,hz9];try rfl))
 cases z9
 · exact gE hst (kE5 C2 F4 F6 F8 F10) [.bool false] fun w' hw=>⟨by simp only [Z7,hz1,hz3,hz5,hz7,hz9,bS];rfl,hw⟩
 refine gO c9isCreate (.loop 0) [(4,.v (.int .i64 (0:Nat))),(3,.p 1 0),(1,.p 0 0)] x1x hst (kE5 C2 F4 F6 F8 F10) fun G1 a1 w1 hst1 _=> ?_
 refine eachLoop (P:=prog) (lv:=[(3,.p 1 0),(1,.p 0 0)]) (bs:=x1x) c9isCreate 0 4 3 tnc (fun i=>colB (tcols i)) hn1 Qv hst1 (fun i2 hi2 G2 a2 w2 hst2=> ?_) (by kernel_rfl) fun ha2 g2 b2 v2 hsu2=> ?_
 · have hlt2:decide (((i2:Nat):Int)<((tnc:Nat):Int))=true:=by simp;omega
   obtain ⟨eb3,eo3,ed3,es3,eq3,el3,em3,ep3,er3⟩:=t1.at hi2
   obtain ⟨rfl,sz3,sy3⟩:=ep3
   obtain ⟨y11,hy11⟩: ∃ z,(tcols i2).nn=z:=⟨_,rfl⟩
   rw [hy11] at er3
   have F12:=JE W hlt2
   have F13:=nEl W 3 eq3 underlying22 hi2
   have F14:Sd W (.get 9 (.pointer (some ⟨eb3,eo3+i2*3,none⟩)) (.string (tcols i2).nm)):=Qb.cellAt (d:=0) Qd er3 rfl el3 Qo
   obtain ⟨z15,hz15⟩: ∃ z,(QD (tcols i2).nm)=z:=⟨_,rfl⟩
   have C16:Sd W (.call 37 [.string (tcols i2).nm] (.bool z15)):=by rw [← hz15, ← KK];exact Qb.of func37 rfl Qd (fun w hw=>ZR (tcols i2).nm sz3 w)
   cases z15
   · exact goN .fin (k':=[]) (e:=.ret) qh1 hst2 (Jf F12 F13 F14 C16) (by kernel_rfl) fun bs9 g9 a9 w9 h9=>Ki (QS h9 (vs:=[.v (.bool false)]) Qd ⟨by
      have hq:(fun i=>colB (tcols i)) i2=false:=by simp only [colB,hz1,hz3,hz5,hz7,hz9,hy11,hz15,bS]
      have hal:=Qw (r:=fun i=>colB (tcols i)) hi2 hq
      simp only [Z7,hz1,hz3,hz5,hz7,hz9,hal,bS]
      rfl,h9.rp.below⟩)
   have F17:Sd W (.get 3 (.pointer (some ⟨eb3,eo3+i2*3+1,none⟩)) (.int .i64 (tcols i2).ty)):=Qb.cellAt (d:=1) Qd er3 rfl el3 Qo
   obtain ⟨z18,hz18⟩: ∃ z,(decide ((tcols i2).ty<1))=z:=⟨_,rfl⟩
   have F19:=JE W hz18
   cases z18
   · obtain ⟨z20,hz20⟩: ∃ z,(decide (3<(tcols i2).ty))=z:=⟨_,rfl⟩
     have F21:=nGt W hz20
     cases z20
     · have F22:=sd W (Qb.inc (t:=3) (i:=i2) (by omega))
       exact goT .fin (k':=[]) (e:=.nrm) [(4,.v (.int .i64 ((i2+1:Nat):Int))),(3,.p 1 0),(1,.p 0 0)] hst2 (JD F12 F13 F14 C16 F13 F17 F19 F13 F17 F21 F22) Qv rfl (by kernel_rfl) fun g0 a0 w0 h0 _=>⟨⟨g0,h0⟩,by simp only [colB,hz1,hz3,hz5,hz7,hz9,hy11,hz15,hz18,hz20,bS]⟩
     exact goN .fin (k':=[]) (e:=.ret) qh1 hst2 (Kr F12 F13 F14 C16 F13 F17 F19 F13 F17 F21) (by kernel_rfl) fun bs9 g9 a9 w9 h9=>Ki (QS h9 (vs:=[.v (.bool false)]) Qd ⟨by
      have hq:(fun i=>colB (tcols i)) i2=false:=by simp only [colB,hz1,hz3,hz5,hz7,hz9,hy11,hz15,hz18,hz20,bS]
      have hal:=Qw (r:=fun i=>colB (tcols i)) hi2 hq
      simp only [Z7,hz1,hz3,hz5,hz7,hz9,hal,bS]
      rfl,h9.rp.below⟩)
   exact goN .fin (k':=[]) (e:=.ret) qh1 hst2 (kE7 F12 F13 F14 C16 F13 F17 F19) (by kernel_rfl) fun bs9 g9 a9 w9 h9=>Ki (QS h9 (vs:=[.v (.bool false)]) Qd ⟨by
    have hq:(fun i=>colB (tcols i)) i2=false:=by simp only [colB,hz1,hz3,hz5,hz7,hz9,hy11,hz15,hz18,bS]
    have hal:=Qw (r:=fun i=>colB (tcols i)) hi2 hq
    simp only [Z7,hz1,hz3,hz5,hz7,hz9,hal,bS]
    rfl,h9.rp.below⟩)
 have al23:(Zd tnc fun i=>colB (tcols i))=true:=Qx.2 ha2
 refine gO c9isCreate (.loop 2) [(5,.v (.int .i64 (0:Nat))),(3,.p 1 0),(1,.p 0 0)] x1x hsu2 Zk fun G4 a4 w4 hst4 _=> ?_
 refine eachLoop (P:=prog) (lv:=[(3,.p 1 0),(1,.p 0 0)]) (bs:=x1x) c9isCreate 2 5 3 tnk (fun i=>keyB (tkeys i) (kc i)) hn2 Qv hst4 (fun i5 hi5 G5 a5 w5 hst5=> ?_) (by kernel_rfl) fun ha5 g5 b5 v5 hsu5=> ?_
 · have hlt5:decide (((i5:Nat):Int)<((tnk:Nat):Int))=true:=by simp;omega
   obtain ⟨eb6,eo6,ed6,es6,eq6,el6,em6,ep6,er6⟩:=t2.at hi5
   obtain ⟨sz6,kv6,rfl,ks6⟩:=ep6
   obtain ⟨KA6,kc6,rfl⟩:=ks6.form
   obtain ⟨y24,hy24⟩: ∃ z,(tkeys i5).un=z:=⟨_,rfl⟩
   rw [hy24] at er6
   obtain ⟨y25,hy25⟩: ∃ z,(tkeys i5).pr=z:=⟨_,rfl⟩
   rw [hy25] at er6
   have hik:i5<nkc:=by have:=eq_of_beq hz9;omega
   obtain ⟨eb7,eo7,ed7,es7,eq7,el7,em7,ep7,er7⟩:=ia.kc.at hik
   obtain ⟨kv7,rfl,ks7⟩:=ep7
   obtain ⟨KA7,kc7,rfl⟩:=ks7.form
   have F26:=JE W hlt5
   have F27:=nEl W 4 eq6 underlying23 hi5
   have F28:Sd W (.get 59 (.pointer (some ⟨eb6,eo6+i5*4,none⟩)) (.agg #[.string (tkeys i5).nm,.slice KA6 (tkeys i5).n kc6,.bool y24,.bool y25])):=Qb.row Qd Qd er6 el6 Qo
   obtain ⟨z29,hz29⟩: ∃ z,(QB (tkeys i5).nm ⟨#[]⟩)=z:=⟨_,rfl⟩
   have F30:=sd W (Qb.strNe (t:=9) (a:=(tkeys i5).nm) (b:=⟨#[]⟩) (z:=(!z29)) (by rw [← QB,hz29];try rfl))
   cases z29
   · exact goN .fin (k':=[]) (e:=.ret) qh1 hst5 (Jf F26 F27 F28 F30) (by kernel_rfl) fun bs9 g9 a9 w9 h9=>Ki (QS h9 (vs:=[.v (.bool false)]) Qd ⟨by
      have hq:(fun i=>keyB (tkeys i) (kc i)) i5=false:=by simp only [keyB,hz1,hz3,hz5,hz7,hz9,al23,hy24,hy25,hz29,bS]
      have hal:=Qw (r:=fun i=>keyB (tkeys i) (kc i)) hi5 hq
      simp only [Z7,hz1,hz3,hz5,hz7,hz9,al23,hal,bS]
      rfl,h9.rp.below⟩)
   obtain ⟨z31,hz31⟩: ∃ z,(decide (0<(((tkeys i5).n:Nat):Int)))=z:=⟨_,rfl⟩
   have F32:=nGt W hz31
   cases z31
   · cases y24
     · exact goN .fin (k':=[]) (e:=.ret) qh1 hst5 (kE5 F26 F27 F28 F30 F32) (by kernel_rfl) fun bs9 g9 a9 w9 h9=>Ki (QS h9 (vs:=[.v (.bool false)]) Qd ⟨by
        have hq:(fun i=>keyB (tkeys i) (kc i)) i5=false:=by simp only [keyB,hz1,hz3,hz5,hz7,hz9,al23,hy24,hy25,hz29,hz31,bS]
        have hal:=Qw (r:=fun i=>keyB (tkeys i) (kc i)) hi5 hq
        simp only [Z7,hz1,hz3,hz5,hz7,hz9,al23,hal,bS]
        rfl,h9.rp.below⟩)
     have F33:=nEl W 1 eq7 underlying26 hik
     have F34:Sd W (.get 27 (.pointer (some ⟨eb7,eo7+i5*1,none⟩)) (.slice KA7 (kc i5).n kc7)):=Qb.cellAt (d:=0) Qd er7 rfl el7 Qo
     obtain ⟨z35,hz35⟩: ∃ z,(JF (kc i5).n 1 fun i=>QD ((kc i5).f i))=z:=⟨_,rfl⟩
     have C36:Sd W (.call 39 [.slice KA7 (kc i5).n kc7,.int .i64 1] (.bool z35)):=by rw [← hz35];exact Qb.of func39 rfl Qd (fun w hw=>names_ok (kc i5).n (kc i5).f _ 1 w (ZD.sub (.below hw) ks7))
     cases z35
     · exact goN .fin (k':=[]) (e:=.ret) qh1 hst5 (kE8 F26 F27 F28 F30 F32 F33 F34 C36) (by kernel_rfl) fun bs9 g9 a9 w9 h9=>Ki (QS h9 (vs:=[.v (.bool false)]) Qd ⟨by
        have hq:(fun i=>keyB (tkeys i) (kc i)) i5=false:=by simp only [keyB,hz1,hz3,hz5,hz7,hz9,al23,hy24,hy25,hz29,hz31,hz35,bS]
        have hal:=Qw (r:=fun i=>keyB (tkeys i) (kc i)) hi5 hq
        simp only [Z7,hz1,hz3,hz5,hz7,hz9,al23,hal,bS]
        rfl,h9.rp.below⟩)
     have F37:=sd W (Qb.inc (t:=3) (i:=i5) (by omega))
     exact goT .fin (k':=[]) (e:=.nrm) [(5,.v (.int .i64 ((i5+1:Nat):Int))),(3,.p 1 0),(1,.p 0 0)] hst5 (kE9 F26 F27 F28 F30 F32 F33 F34 C36 F37) Qv rfl (by kernel_rfl) fun g0 a0 w0 h0 _=>⟨⟨g0,h0⟩,by simp only [keyB,hz1,hz3,hz5,hz7,hz9,al23,hy24,hy25,hz29,hz31,hz35,bS]⟩
   exact goN .fin (k':=[]) (e:=.ret) qh1 hst5 (kE5 F26 F27 F28 F30 F32) (by kernel_rfl) fun bs9 g9 a9 w9 h9=>Ki (QS h9 (vs:=[.v (.bool false)]) Qd ⟨by
    have hq:(fun i=>keyB (tkeys i) (kc i)) i5=false:=by simp only [keyB,hz1,hz3,hz5,hz7,hz9,al23,hy24,hy25,hz29,hz31,bS]
    have hal:=Qw (r:=fun i=>keyB (tkeys i) (kc i)) hi5 hq
    simp only [Z7,hz1,hz3,hz5,hz7,hz9,al23,hal,bS]
    rfl,h9.rp.below⟩)
 have al38:(Zd tnk fun i=>keyB (tkeys i) (kc i))=true:=Qx.2 ha5
 exact gE hsu5 Zk [.bool true] fun w' hw=>⟨by simp only [Z7,hz1,hz3,hz5,hz7,hz9,al23,al38,bS];rfl,hw⟩
end
end Go.Proofs.YtddedijencleeaaGreatDoor

/- ref9.isSelect. -/
set_option linter.all false
namespace Go.Proofs.YtddedijencleeaaGreatDoor
set_option maxRecDepth 100000
set_option maxHeartbeats 8000000
open Tryz
noncomputable section
open Go.RowKit Go.Lib RC
noncomputable abbrev Ju:Code:=Qt f42
noncomputable def Jj (x:It):Bool:= !(x.star&&(!(QE x.e)|| !(QB x.nm ⟨#[]⟩)))&& !(!x.star&& !(QH x.e))&& !(!(QB x.nm ⟨#[]⟩)&& !(QD x.nm))
noncomputable def srcB (i:Nat) (x:So):Bool:=QD x.nm&& !(!(QB x.al ⟨#[]⟩)&& !(QD x.al))&& !(((i:Nat):Int)==0&&(x.left|| !(QE x.e)))&& !(decide (0<((i:Nat):Int))&& !(QH x.e))
noncomputable def Zq (s:S):Bool:=
 !(decide ((s.nit:Int)<1))&& !(decide (10<(s.nit:Int)))&& !(decide ((s.nfr:Int)<1))&& !(decide (3<(s.nfr:Int)))&&(JF s.gr.n 0 fun i=>QH (s.gr.f i))&& !(decide (10<(s.nor:Int)))&& !(decide (s.li<(-1)))&&Zx s.wh&&Zx s.hv &&
 (Zd s.nit fun i=>Jj (s.it i))&&(Zd s.nfr fun i=>srcB i (s.fr i))&&Zd s.nor fun i=>QH (s.od i).e
abbrev qi1(i5:Nat):Fr:=[(5,.v (.int .i64 ((i5+1:Nat):Int))),(1,.p 0 0)]
abbrev qi2:Fr:=[(2,.v (.bool false))]
abbrev qi3(i2:Nat):Fr:=[(3,.v (.int .i64 ((i2+1:Nat):Int))),(1,.p 0 0)]
theorem isSelect9_ok (s:S) (cs:List Value) (W:World) (h:Ks W s cs) :
 Calls prog 42 #[.agg cs.toArray] W fun r W'=>r= .returned (.bool (Zq s))∧Below W.heap.size W W':=by
 obtain ⟨kind,⟨tnm,tnc,tcols,tnk,tkeys⟩,nkc,kc,nm,ix,un,⟨ncl,cl⟩,nrw,rw_,nst,st,wh,di,nit,it,nfr,fr,⟨ngr,gr⟩,hv,nor,od,li⟩:=s
 obtain ⟨tA,tc,tB,td,A1,c1,A2,c2,A3,c3,A4,c4,A5,c5,A6,c6,A7,c7,A8,c8,wk,wo,wvk,wvn,wvt,wtb,wnm,wA,wn,wc,wpl,wty,hk,ho,hvk,hvn,hvt,htb,hnm,hA,hn,hc,hpl,hty,rfl,h0,ia,t1,t2⟩:=Ks.opn h
 let x1x:List Zp:=[bx (Zs kind tnm tA tnc tc tB tnk td A1 nkc c1 nm ix un A2 ncl c2 A3 nrw c3 A4 nst c4 wk wo wvk wvn wvt wtb wnm wA wn wc wpl wty di A5 nit c5 A6 nfr c6 A7 ngr c7 hk ho hvk hvn hvt htb hnm hA hn hc hpl hty A8 nor c8 li)]
 have iwh:=ia.wh
 have ihv:=ia.hv
 have iwf:=ia.wf
 have itn:=ia.tab.1
 have hn1:nit≤9223372036854775807:=ia.it.len
 have hn2:nfr≤9223372036854775807:=ia.fr.len
 have hn3:nor≤9223372036854775807:=ia.od.len
 refine Qj (args:=[.agg (Zs kind tnm tA tnc tc tB tnk td A1 nkc c1 nm ix un A2 ncl c2 A3 nrw c3 A4 nst c4 wk wo wvk wvn wvt wtb wnm wA wn wc wpl wty di A5 nit c5 A6 nfr c6 A7 ngr c7 hk ho hvk hvn hvt htb hnm hA hn hc hpl hty A8 nor c8 li).toArray]) (c:=Ju) func42 rfl (by kernel_rfl) fun a0 hst=> ?_
 obtain ⟨z1,hz1⟩: ∃ z,(decide (((nit:Nat):Int)<1))=z:=⟨_,rfl⟩
 have F2:=JE W hz1
 cases z1
 rotate_left
 · exact gE hst (Zg F2) [.bool false] fun w' hw=>⟨by simp only [Zq,hz1,bS];rfl,hw⟩
 obtain ⟨z3,hz3⟩: ∃ z,(decide (10<((nit:Nat):Int)))=z:=⟨_,rfl⟩
 have F4:=nGt W hz3
 cases z3
 rotate_left
 · exact gE hst (Km F2 F4) [.bool false] fun w' hw=>⟨by simp only [Zq,hz1,hz3,bS];rfl,hw⟩
 obtain ⟨z5,hz5⟩: ∃ z,(decide (((nfr:Nat):Int)<1))=z:=⟨_,rfl⟩
 have F6:=JE W hz5
 cases z5
 rotate_left
 · exact gE hst (kE3 F2 F4 F6) [.bool false] fun w' hw=>⟨by simp only [Zq,hz1,hz3,hz5,bS];rfl,hw⟩
 obtain ⟨z7,hz7⟩: ∃ z,(decide (3<((nfr:Nat):Int)))=z:=⟨_,rfl⟩
 have F8:=nGt W hz7
 cases z7
 rotate_left
 · exact gE hst (Jf F2 F4 F6 F8) [.bool false] fun w' hw=>⟨by simp only [Zq,hz1,hz3,hz5,hz7,bS];rfl,hw⟩
 obtain ⟨z9,hz9⟩: ∃ z,(JF ngr 0 fun i=>QH (gr i))=z:=⟨_,rfl⟩
 have C10:Sd W (.call 40 [.slice A7 ngr c7,.int .i64 0] (.bool z9)):=by rw [← hz9];exact Qb.of func40 rfl Qd (fun w hw=>exprs_ok ngr gr _ 0 w (Z6.sub (.below hw) ia.gr))
 cases z9
 · exact gE hst (kE5 F2 F4 F6 F8 C10) [.bool false] fun w' hw=>⟨by simp only [Zq,hz1,hz3,hz5,hz7,hz9,bS];rfl,hw⟩
 obtain ⟨z11,hz11⟩: ∃ z,(decide (10<((nor:Nat):Int)))=z:=⟨_,rfl⟩
 have F12:=nGt W hz11
 cases z11
 rotate_left
 · exact gE hst (Je F2 F4 F6 F8 C10 F12) [.bool false] fun w' hw=>⟨by simp only [Zq,hz1,hz3,hz5,hz7,hz9,hz11,bS];rfl,hw⟩
 obtain ⟨z13,hz13⟩: ∃ z,(decide (li<(-1)))=z:=⟨_,rfl⟩
 have F14:=sd W (Qb.intLt (t:=2) (k:=.i64) (a:=li) (b:=(-1)) hz13)
 cases z13
 rotate_left
 · exact gE hst (kE7 F2 F4 F6 F8 C10 F12 F14) [.bool false] fun w' hw=>⟨by simp only [Zq,hz1,hz3,hz5,hz7,hz9,hz11,hz13,bS];rfl,hw⟩
 obtain ⟨z15,hz15⟩: ∃ z,(Zx wh)=z:=⟨_,rfl⟩
 have C16:Sd W (.call 41 [eV wk wo wvk wvn wvt wtb wnm wA wn wc wpl wty] (.bool z15)):=by rw [← hz15];exact Qb.of func41 rfl Qd Qozy
 cases z15
 · exact gE hst (kE8 F2 F4 F6 F8 C10 F12 F14 C16) [.bool false] fun w' hw=>⟨by simp only [Zq,hz1,hz3,hz5,hz7,hz9,hz11,hz13,hz15,bS];rfl,hw⟩
 obtain ⟨z17,hz17⟩: ∃ z,(Zx hv)=z:=⟨_,rfl⟩
 have C18:Sd W (.call 41 [eV hk ho hvk hvn hvt htb hnm hA hn hc hpl hty] (.bool z17)):=by rw [← hz17];exact Qb.of func41 rfl Qd (fun w hw=>may9_ok hv _ w QKE7)
 cases z17
 · exact gE hst (kE9 F2 F4 F6 F8 C10 F12 F14 C16 C18) [.bool false] fun w' hw=>⟨by simp only [Zq,hz1,hz3,hz5,hz7,hz9,hz11,hz13,hz15,hz17,bS];rfl,hw⟩
 refine gO Ju (.loop 0) [(3,.v (.int .i64 (0:Nat))),(1,.p 0 0)] x1x hst (kE9 F2 F4 F6 F8 C10 F12 F14 C16 C18) fun G1 a1 w1 hst1 _=> ?_
 refine eachLoop (P:=prog) (lv:=[(1,.p 0 0)]) (bs:=x1x) Ju 0 3 3 nit (fun i=>Jj (it i)) hn1 Qv hst1 (fun i2 hi2 G2 a2 w2 hst2=> ?_) (by kernel_rfl) fun ha2 g2 b2 v2 hsu2=> ?_
 · have hlt2:decide (((i2:Nat):Int)<((nit:Nat):Int))=true:=by simp;omega
   obtain ⟨eb3,eo3,ed3,es3,eq3,el3,em3,ep3,er3⟩:=ia.it.at hi2
   obtain ⟨sz3,ds3,rfl,ie3⟩:=ep3
   obtain ⟨e3k,e3o,e3vk,e3vn,e3vt,e3tb,e3nm,e3A,e3n,e3c,e3pl,e3ty,rfl⟩:=ie3.form
   obtain ⟨y19,hy19⟩: ∃ z,(it i2).star=z:=⟨_,rfl⟩
   rw [hy19] at er3
   have F20:=JE W hlt2
   have F21:=nEl W 12 eq3 underlying35 hi2
   have F22:Sd W (.get 63 (.pointer (some ⟨eb3,eo3+i2*12,none⟩)) (.agg #[.bool y19,.int .i64 e3k,.int .i64 e3o,.int .i64 e3vk,.int .i64 e3vn,.string e3vt,.string e3tb,.string e3nm,.slice e3A e3n e3c,.int .i64 e3pl,.int .i64 e3ty,.string (it i2).nm])):=Qb.row Qd Qd er3 el3 Qo
   cases y19
   · obtain ⟨z23,hz23⟩: ∃ z,(QH (it i2).e)=z:=⟨_,rfl⟩
     have C24:Sd W (.call 15 [eV e3k e3o e3vk e3vn e3vt e3tb e3nm e3A e3n e3c e3pl e3ty] (.bool z23)):=by rw [← hz23];exact Qb.of func15 rfl Qd (fun w hw=>ZX (it i2).e _ w QlPV)
     cases z23
     · exact goN .fin (k':=[]) (e:=.ret) qi2 hst2 (Jf F20 F21 F22 C24) (by kernel_rfl) fun bs9 g9 a9 w9 h9=>Ki (QS h9 (vs:=[.v (.bool false)]) Qd ⟨by
        have hq:(fun i=>Jj (it i)) i2=false:=by simp only [Jj,hz1,hz3,hz5,hz7,hz9,hz11,hz13,hz15,hz17,hy19,hz23,bS]
        have hal:=Qw (r:=fun i=>Jj (it i)) hi2 hq
        simp only [Zq,hz1,hz3,hz5,hz7,hz9,hz11,hz13,hz15,hz17,hal,bS]
        rfl,h9.rp.below⟩)
     obtain ⟨z25,hz25⟩: ∃ z,(QB (it i2).nm ⟨#[]⟩)=z:=⟨_,rfl⟩
     have F26:=sd W (Qb.strNe (t:=9) (a:=(it i2).nm) (b:=⟨#[]⟩) (z:=(!z25)) (by rw [← QB,hz25];try rfl))
     cases z25
     · obtain ⟨z27,hz27⟩: ∃ z,(QD (it i2).nm)=z:=⟨_,rfl⟩
       have C28:Sd W (.call 37 [.string (it i2).nm] (.bool z27)):=by rw [← hz27, ← KK];exact Qb.of func37 rfl Qd (fun w hw=>ZR (it i2).nm sz3 w)
       cases z27
       · exact goN .fin (k':=[]) (e:=.ret) qi2 hst2 (Je F20 F21 F22 C24 F26 C28) (by kernel_rfl) fun bs9 g9 a9 w9 h9=>Ki (QS h9 (vs:=[.v (.bool false)]) Qd ⟨by
          have hq:(fun i=>Jj (it i)) i2=false:=by simp only [Jj,hz1,hz3,hz5,hz7,hz9,hz11,hz13,hz15,hz17,hy19,hz23,hz25,hz27,bS]
          have hal:=Qw (r:=fun i=>Jj (it i)) hi2 hq
          simp only [Zq,hz1,hz3,hz5,hz7,hz9,hz11,hz13,hz15,hz17,hal,bS]
          rfl,h9.rp.below⟩)
       have F29:=sd W (Qb.inc (t:=3) (i:=i2) (by omega))
       exact goT .fin (k':=[]) (e:=.nrm) (qi3 i2) hst2 (kE7 F20 F21 F22 C24 F26 C28 F29) Qv rfl (by kernel_rfl) fun g0 a0 w0 h0 _=>⟨⟨g0,h0⟩,by simp only [Jj,hz1,hz3,hz5,hz7,hz9,hz11,hz13,hz15,hz17,hy19,hz23,hz25,hz27,bS]⟩
     have F30:=sd W (Qb.inc (t:=3) (i:=i2) (by omega))
     exact goT .fin (k':=[]) (e:=.nrm) (qi3 i2) hst2 (Je F20 F21 F22 C24 F26 F30) Qv rfl (by kernel_rfl) fun g0 a0 w0 h0 _=>⟨⟨g0,h0⟩,by simp only [Jj,hz1,hz3,hz5,hz7,hz9,hz11,hz13,hz15,hz17,hy19,hz23,hz25,bS]⟩
   obtain ⟨z31,hz31⟩: ∃ z,(QE (it i2).e)=z:=⟨_,rfl⟩
   have C32:Sd W (.call 118 [eV e3k e3o e3vk e3vn e3vt e3tb e3nm e3A e3n e3c e3pl e3ty] (.bool z31)):=by rw [← hz31];exact Qb.of func118 rfl Qd (fun w hw=>zeroE_ref (it i2).e _ w QlPV)
   cases z31
   · exact goN .fin (k':=[]) (e:=.ret) qi2 hst2 (Jf F20 F21 F22 C32) (by kernel_rfl) fun bs9 g9 a9 w9 h9=>Ki (QS h9 (vs:=[.v (.bool false)]) Qd ⟨by
      have hq:(fun i=>Jj (it i)) i2=false:=by simp only [Jj,hz1,hz3,hz5,hz7,hz9,hz11,hz13,hz15,hz17,hy19,hz31,bS]
      have hal:=Qw (r:=fun i=>Jj (it i)) hi2 hq
      simp only [Zq,hz1,hz3,hz5,hz7,hz9,hz11,hz13,hz15,hz17,hal,bS]
      rfl,h9.rp.below⟩)
   obtain ⟨z33,hz33⟩: ∃ z,(QB (it i2).nm ⟨#[]⟩)=z:=⟨_,rfl⟩
   have F34:=sd W (Qb.strNe (t:=9) (a:=(it i2).nm) (b:=⟨#[]⟩) (z:=(!z33)) QP7e)
   cases z33
   · exact goN .fin (k':=[]) (e:=.ret) qi2 hst2 (kE5 F20 F21 F22 C32 F34) (by kernel_rfl) fun bs9 g9 a9 w9 h9=>Ki (QS h9 (vs:=[.v (.bool false)]) Qd ⟨by
      have hq:(fun i=>Jj (it i)) i2=false:=by simp only [Jj,hz1,hz3,hz5,hz7,hz9,hz11,hz13,hz15,hz17,hy19,hz31,hz33,bS]
      have hal:=Qw (r:=fun i=>Jj (it i)) hi2 hq
      simp only [Zq,hz1,hz3,hz5,hz7,hz9,hz11,hz13,hz15,hz17,hal,bS]
      rfl,h9.rp.below⟩)
   have F35:=sd W (Qb.strNe (t:=9) (a:=(it i2).nm) (b:=⟨#[]⟩) (z:=false) QP7e)
   have F36:=sd W (Qb.inc (t:=3) (i:=i2) (by omega))
   exact goT .fin (k':=[]) (e:=.nrm) (qi3 i2) hst2 (kE7 F20 F21 F22 C32 F34 F35 F36) Qv rfl (by kernel_rfl) fun g0 a0 w0 h0 _=>⟨⟨g0,h0⟩,by simp only [Jj,hz1,hz3,hz5,hz7,hz9,hz11,hz13,hz15,hz17,hy19,hz31,hz33,bS]⟩
 have al37:(Zd nit fun i=>Jj (it i))=true:=Qx.2 ha2
 refine gO Ju (.loop 2) [(5,.v (.int .i64 (0:Nat))),(1,.p 0 0)] x1x hsu2 Zk fun G4 a4 w4 hst4 _=> ?_
 refine eachLoop (P:=prog) (lv:=[(1,.p 0 0)]) (bs:=x1x) Ju 2 5 3 nfr (fun i=>srcB i (fr i)) hn2 Qv hst4 (fun i5 hi5 G5 a5 w5 hst5=> ?_) (by kernel_rfl) fun ha5 g5 b5 v5 hsu5=> ?_
 · have hlt5:decide (((i5:Nat):Int)<((nfr:Nat):Int))=true:=by simp;omega
   obtain ⟨eb6,eo6,ed6,es6,eq6,el6,em6,ep6,er6⟩:=ia.fr.at hi5
   obtain ⟨sz6,sa6,ds6,rfl,ie6⟩:=ep6
   obtain ⟨e6k,e6o,e6vk,e6vn,e6vt,e6tb,e6nm,e6A,e6n,e6c,e6pl,e6ty,rfl⟩:=ie6.form
   obtain ⟨y38,hy38⟩: ∃ z,(fr i5).left=z:=⟨_,rfl⟩
   rw [hy38] at er6
   have F39:=JE W hlt5
   have F40:=nEl W 13 eq6 underlying36 hi5
   have F41:Sd W (.get 65 (.pointer (some ⟨eb6,eo6+i5*13,none⟩)) (.agg #[.string (fr i5).nm,.string (fr i5).al,.bool y38,.int .i64 e6k,.int .i64 e6o,.int .i64 e6vk,.int .i64 e6vn,.string e6vt,.string e6tb,.string e6nm,.slice e6A e6n e6c,.int .i64 e6pl,.int .i64 e6ty])):=Qb.row Qd Qd er6 el6 Qo
   obtain ⟨z42,hz42⟩: ∃ z,(QD (fr i5).nm)=z:=⟨_,rfl⟩
   have C43:Sd W (.call 37 [.string (fr i5).nm] (.bool z42)):=by rw [← hz42, ← KK];exact Qb.of func37 rfl Qd (fun w hw=>ZR (fr i5).nm sz6 w)
   cases z42
   · exact goN .fin (k':=[]) (e:=.ret) qi2 hst5 (Jf F39 F40 F41 C43) (by kernel_rfl) fun bs9 g9 a9 w9 h9=>Ki (QS h9 (vs:=[.v (.bool false)]) Qd ⟨by
      have hq:(fun i=>srcB i (fr i)) i5=false:=by simp only [srcB,hz1,hz3,hz5,hz7,hz9,hz11,hz13,hz15,hz17,al37,hy38,hz42,bS]
      have hal:=Qw (r:=fun i=>srcB i (fr i)) hi5 hq
      simp only [Zq,hz1,hz3,hz5,hz7,hz9,hz11,hz13,hz15,hz17,al37,hal,bS]
      rfl,h9.rp.below⟩)
   obtain ⟨z44,hz44⟩: ∃ z,(QB (fr i5).al ⟨#[]⟩)=z:=⟨_,rfl⟩
   have F45:=sd W (Qb.strNe (t:=9) (a:=(fr i5).al) (b:=⟨#[]⟩) (z:=(!z44)) (by rw [← QB,hz44];try rfl))
   cases z44
   · obtain ⟨z46,hz46⟩: ∃ z,(QD (fr i5).al)=z:=⟨_,rfl⟩
     have C47:Sd W (.call 37 [.string (fr i5).al] (.bool z46)):=by rw [← hz46, ← KK];exact Qb.of func37 rfl Qd (fun w hw=>ZR (fr i5).al sa6 w)
     cases z46
     · exact goN .fin (k':=[]) (e:=.ret) qi2 hst5 (Je F39 F40 F41 C43 F45 C47) (by kernel_rfl) fun bs9 g9 a9 w9 h9=>Ki (QS h9 (vs:=[.v (.bool false)]) Qd ⟨by
        have hq:(fun i=>srcB i (fr i)) i5=false:=by simp only [srcB,hz1,hz3,hz5,hz7,hz9,hz11,hz13,hz15,hz17,al37,hy38,hz42,hz44,hz46,bS]
        have hal:=Qw (r:=fun i=>srcB i (fr i)) hi5 hq
        simp only [Zq,hz1,hz3,hz5,hz7,hz9,hz11,hz13,hz15,hz17,al37,hal,bS]
        rfl,h9.rp.below⟩)
     obtain ⟨z48,hz48⟩: ∃ z,(((i5:Nat):Int)==0)=z:=⟨_,rfl⟩
     have F49:=QN W hz48
     cases z48
     · obtain ⟨z50,hz50⟩: ∃ z,(decide (0<((i5:Nat):Int)))=z:=⟨_,rfl⟩
       have F51:=nGt W hz50
       cases z50
       · have F52:=sd W (Qb.inc (t:=3) (i:=i5) (by omega))
         exact goT .fin (k':=[]) (e:=.nrm) (qi1 i5) hst5 (kE9 F39 F40 F41 C43 F45 C47 F49 F51 F52) Qv rfl (by kernel_rfl) fun g0 a0 w0 h0 _=>⟨⟨g0,h0⟩,by simp only [srcB,hz1,hz3,hz5,hz7,hz9,hz11,hz13,hz15,hz17,al37,hy38,hz42,hz44,hz46,hz48,hz50,bS]⟩
       obtain ⟨z53,hz53⟩: ∃ z,(QH (fr i5).e)=z:=⟨_,rfl⟩
       have C54:Sd W (.call 15 [eV e6k e6o e6vk e6vn e6vt e6tb e6nm e6A e6n e6c e6pl e6ty] (.bool z53)):=by rw [← hz53];exact Qb.of func15 rfl Qd QnJZ
       cases z53
       · exact goN .fin (k':=[]) (e:=.ret) qi2 hst5 (kE9 F39 F40 F41 C43 F45 C47 F49 F51 C54) (by kernel_rfl) fun bs9 g9 a9 w9 h9=>Ki (QS h9 (vs:=[.v (.bool false)]) Qd ⟨by
          have hq:(fun i=>srcB i (fr i)) i5=false:=by simp only [srcB,hz1,hz3,hz5,hz7,hz9,hz11,hz13,hz15,hz17,al37,hy38,hz42,hz44,hz46,hz48,hz50,hz53,bS]
          have hal:=Qw (r:=fun i=>srcB i (fr i)) hi5 hq
          simp only [Zq,hz1,hz3,hz5,hz7,hz9,hz11,hz13,hz15,hz17,al37,hal,bS]
          rfl,h9.rp.below⟩)
       have F55:=sd W (Qb.inc (t:=3) (i:=i5) (by omega))
       exact goT .fin (k':=[]) (e:=.nrm) (qi1 i5) hst5 (Kr F39 F40 F41 C43 F45 C47 F49 F51 C54 F55) Qv rfl (by kernel_rfl) fun g0 a0 w0 h0 _=>⟨⟨g0,h0⟩,by simp only [srcB,hz1,hz3,hz5,hz7,hz9,hz11,hz13,hz15,hz17,al37,hy38,hz42,hz44,hz46,hz48,hz50,hz53,bS]⟩
     cases y38
     rotate_left
     · exact goN .fin (k':=[]) (e:=.ret) qi2 hst5 (kE7 F39 F40 F41 C43 F45 C47 F49) (by kernel_rfl) fun bs9 g9 a9 w9 h9=>Ki (QS h9 (vs:=[.v (.bool false)]) Qd ⟨by
        have hq:(fun i=>srcB i (fr i)) i5=false:=by simp only [srcB,hz1,hz3,hz5,hz7,hz9,hz11,hz13,hz15,hz17,al37,hy38,hz42,hz44,hz46,hz48,bS]
        have hal:=Qw (r:=fun i=>srcB i (fr i)) hi5 hq
        simp only [Zq,hz1,hz3,hz5,hz7,hz9,hz11,hz13,hz15,hz17,al37,hal,bS]
        rfl,h9.rp.below⟩)
     obtain ⟨z56,hz56⟩: ∃ z,(QE (fr i5).e)=z:=⟨_,rfl⟩
     have C57:Sd W (.call 118 [eV e6k e6o e6vk e6vn e6vt e6tb e6nm e6A e6n e6c e6pl e6ty] (.bool z56)):=by rw [← hz56];exact Qb.of func118 rfl Qd QIu1
     cases z56
     · exact goN .fin (k':=[]) (e:=.ret) qi2 hst5 (kE8 F39 F40 F41 C43 F45 C47 F49 C57) (by kernel_rfl) fun bs9 g9 a9 w9 h9=>Ki (QS h9 (vs:=[.v (.bool false)]) Qd ⟨by
        have hq:(fun i=>srcB i (fr i)) i5=false:=by simp only [srcB,hz1,hz3,hz5,hz7,hz9,hz11,hz13,hz15,hz17,al37,hy38,hz42,hz44,hz46,hz48,hz56,bS]
        have hal:=Qw (r:=fun i=>srcB i (fr i)) hi5 hq
        simp only [Zq,hz1,hz3,hz5,hz7,hz9,hz11,hz13,hz15,hz17,al37,hal,bS]
        rfl,h9.rp.below⟩)
     obtain ⟨z58,hz58⟩: ∃ z,(decide (0<((i5:Nat):Int)))=z:=⟨_,rfl⟩
     have F59:=nGt W hz58
     cases z58
     · have F60:=sd W (Qb.inc (t:=3) (i:=i5) (by omega))
       exact goT .fin (k':=[]) (e:=.nrm) (qi1 i5) hst5 (Kr F39 F40 F41 C43 F45 C47 F49 C57 F59 F60) Qv rfl (by kernel_rfl) fun g0 a0 w0 h0 _=>⟨⟨g0,h0⟩,by simp only [srcB,hz1,hz3,hz5,hz7,hz9,hz11,hz13,hz15,hz17,al37,hy38,hz42,hz44,hz46,hz48,hz56,hz58,bS]⟩
     obtain ⟨z61,hz61⟩: ∃ z,(QH (fr i5).e)=z:=⟨_,rfl⟩
     have C62:Sd W (.call 15 [eV e6k e6o e6vk e6vn e6vt e6tb e6nm e6A e6n e6c e6pl e6ty] (.bool z61)):=by rw [← hz61];exact Qb.of func15 rfl Qd QnJZ
     cases z61
     · exact goN .fin (k':=[]) (e:=.ret) qi2 hst5 (Kr F39 F40 F41 C43 F45 C47 F49 C57 F59 C62) (by kernel_rfl) fun bs9 g9 a9 w9 h9=>Ki (QS h9 (vs:=[.v (.bool false)]) Qd ⟨by
        have hq:(fun i=>srcB i (fr i)) i5=false:=by simp only [srcB,hz1,hz3,hz5,hz7,hz9,hz11,hz13,hz15,hz17,al37,hy38,hz42,hz44,hz46,hz48,hz56,hz58,hz61,bS]
        have hal:=Qw (r:=fun i=>srcB i (fr i)) hi5 hq
        simp only [Zq,hz1,hz3,hz5,hz7,hz9,hz11,hz13,hz15,hz17,al37,hal,bS]
        rfl,h9.rp.below⟩)
     have F63:=sd W (Qb.inc (t:=3) (i:=i5) (by omega))
     exact goT .fin (k':=[]) (e:=.nrm) (qi1 i5) hst5 (JD F39 F40 F41 C43 F45 C47 F49 C57 F59 C62 F63) Qv rfl (by kernel_rfl) fun g0 a0 w0 h0 _=>⟨⟨g0,h0⟩,by simp only [srcB,hz1,hz3,hz5,hz7,hz9,hz11,hz13,hz15,hz17,al37,hy38,hz42,hz44,hz46,hz48,hz56,hz58,hz61,bS]⟩
   obtain ⟨z64,hz64⟩: ∃ z,(((i5:Nat):Int)==0)=z:=⟨_,rfl⟩
   have F65:=QN W hz64
   cases z64
   · obtain ⟨z66,hz66⟩: ∃ z,(decide (0<((i5:Nat):Int)))=z:=⟨_,rfl⟩
     have F67:=nGt W hz66
     cases z66
     · have F68:=sd W (Qb.inc (t:=3) (i:=i5) (by omega))
       exact goT .fin (k':=[]) (e:=.nrm) (qi1 i5) hst5 (kE8 F39 F40 F41 C43 F45 F65 F67 F68) Qv rfl (by kernel_rfl) fun g0 a0 w0 h0 _=>⟨⟨g0,h0⟩,by simp only [srcB,hz1,hz3,hz5,hz7,hz9,hz11,hz13,hz15,hz17,al37,hy38,hz42,hz44,hz64,hz66,bS]⟩
     obtain ⟨z69,hz69⟩: ∃ z,(QH (fr i5).e)=z:=⟨_,rfl⟩
     have C70:Sd W (.call 15 [eV e6k e6o e6vk e6vn e6vt e6tb e6nm e6A e6n e6c e6pl e6ty] (.bool z69)):=by rw [← hz69];exact Qb.of func15 rfl Qd QnJZ
     cases z69
     · exact goN .fin (k':=[]) (e:=.ret) qi2 hst5 (kE8 F39 F40 F41 C43 F45 F65 F67 C70) (by kernel_rfl) fun bs9 g9 a9 w9 h9=>Ki (QS h9 (vs:=[.v (.bool false)]) Qd ⟨by
        have hq:(fun i=>srcB i (fr i)) i5=false:=by simp only [srcB,hz1,hz3,hz5,hz7,hz9,hz11,hz13,hz15,hz17,al37,hy38,hz42,hz44,hz64,hz66,hz69,bS]
        have hal:=Qw (r:=fun i=>srcB i (fr i)) hi5 hq
        simp only [Zq,hz1,hz3,hz5,hz7,hz9,hz11,hz13,hz15,hz17,al37,hal,bS]
        rfl,h9.rp.below⟩)
     have F71:=sd W (Qb.inc (t:=3) (i:=i5) (by omega))
     exact goT .fin (k':=[]) (e:=.nrm) (qi1 i5) hst5 (kE9 F39 F40 F41 C43 F45 F65 F67 C70 F71) Qv rfl (by kernel_rfl) fun g0 a0 w0 h0 _=>⟨⟨g0,h0⟩,by simp only [srcB,hz1,hz3,hz5,hz7,hz9,hz11,hz13,hz15,hz17,al37,hy38,hz42,hz44,hz64,hz66,hz69,bS]⟩
   cases y38
   rotate_left
   · exact goN .fin (k':=[]) (e:=.ret) qi2 hst5 (Je F39 F40 F41 C43 F45 F65) (by kernel_rfl) fun bs9 g9 a9 w9 h9=>Ki (QS h9 (vs:=[.v (.bool false)]) Qd ⟨by
      have hq:(fun i=>srcB i (fr i)) i5=false:=by simp only [srcB,hz1,hz3,hz5,hz7,hz9,hz11,hz13,hz15,hz17,al37,hy38,hz42,hz44,hz64,bS]
      have hal:=Qw (r:=fun i=>srcB i (fr i)) hi5 hq
      simp only [Zq,hz1,hz3,hz5,hz7,hz9,hz11,hz13,hz15,hz17,al37,hal,bS]
      rfl,h9.rp.below⟩)
   obtain ⟨z72,hz72⟩: ∃ z,(QE (fr i5).e)=z:=⟨_,rfl⟩
   have C73:Sd W (.call 118 [eV e6k e6o e6vk e6vn e6vt e6tb e6nm e6A e6n e6c e6pl e6ty] (.bool z72)):=by rw [← hz72];exact Qb.of func118 rfl Qd QIu1
   cases z72
   · exact goN .fin (k':=[]) (e:=.ret) qi2 hst5 (kE7 F39 F40 F41 C43 F45 F65 C73) (by kernel_rfl) fun bs9 g9 a9 w9 h9=>Ki (QS h9 (vs:=[.v (.bool false)]) Qd ⟨by
      have hq:(fun i=>srcB i (fr i)) i5=false:=by simp only [srcB,hz1,hz3,hz5,hz7,hz9,hz11,hz13,hz15,hz17,al37,hy38,hz42,hz44,hz64,hz72,bS]
      have hal:=Qw (r:=fun i=>srcB i (fr i)) hi5 hq
      simp only [Zq,hz1,hz3,hz5,hz7,hz9,hz11,hz13,hz15,hz17,al37,hal,bS]
      rfl,h9.rp.below⟩)
   obtain ⟨z74,hz74⟩: ∃ z,(decide (0<((i5:Nat):Int)))=z:=⟨_,rfl⟩
   have F75:=nGt W hz74
   cases z74
   · have F76:=sd W (Qb.inc (t:=3) (i:=i5) (by omega))
     exact goT .fin (k':=[]) (e:=.nrm) (qi1 i5) hst5 (kE9 F39 F40 F41 C43 F45 F65 C73 F75 F76) Qv rfl (by kernel_rfl) fun g0 a0 w0 h0 _=>⟨⟨g0,h0⟩,by simp only [srcB,hz1,hz3,hz5,hz7,hz9,hz11,hz13,hz15,hz17,al37,hy38,hz42,hz44,hz64,hz72,hz74,bS]⟩
   obtain ⟨z77,hz77⟩: ∃ z,(QH (fr i5).e)=z:=⟨_,rfl⟩
   have C78:Sd W (.call 15 [eV e6k e6o e6vk e6vn e6vt e6tb e6nm e6A e6n e6c e6pl e6ty] (.bool z77)):=by rw [← hz77];exact Qb.of func15 rfl Qd QnJZ
   cases z77
   · exact goN .fin (k':=[]) (e:=.ret) qi2 hst5 (kE9 F39 F40 F41 C43 F45 F65 C73 F75 C78) (by kernel_rfl) fun bs9 g9 a9 w9 h9=>Ki (QS h9 (vs:=[.v (.bool false)]) Qd ⟨by
      have hq:(fun i=>srcB i (fr i)) i5=false:=by simp only [srcB,hz1,hz3,hz5,hz7,hz9,hz11,hz13,hz15,hz17,al37,hy38,hz42,hz44,hz64,hz72,hz74,hz77,bS]
      have hal:=Qw (r:=fun i=>srcB i (fr i)) hi5 hq
      simp only [Zq,hz1,hz3,hz5,hz7,hz9,hz11,hz13,hz15,hz17,al37,hal,bS]
      rfl,h9.rp.below⟩)
   have F79:=sd W (Qb.inc (t:=3) (i:=i5) (by omega))
   exact goT .fin (k':=[]) (e:=.nrm) (qi1 i5) hst5 (Kr F39 F40 F41 C43 F45 F65 C73 F75 C78 F79) Qv rfl (by kernel_rfl) fun g0 a0 w0 h0 _=>⟨⟨g0,h0⟩,by simp only [srcB,hz1,hz3,hz5,hz7,hz9,hz11,hz13,hz15,hz17,al37,hy38,hz42,hz44,hz64,hz72,hz74,hz77,bS]⟩
 have al80:(Zd nfr fun i=>srcB i (fr i))=true:=Qx.2 ha5
 refine gO Ju (.loop 4) [(7,.v (.int .i64 (0:Nat))),(1,.p 0 0)] x1x hsu5 Zk fun G7 a7 w7 hst7 _=> ?_
 refine eachLoop (P:=prog) (lv:=[(1,.p 0 0)]) (bs:=x1x) Ju 4 7 3 nor (fun i=>QH (od i).e) hn3 Qv hst7 (fun i8 hi8 G8 a8 w8 hst8=> ?_) (by kernel_rfl) fun ha8 g8 b8 v8 hsu8=> ?_
 · have hlt8:decide (((i8:Nat):Int)<((nor:Nat):Int))=true:=by simp;omega
   obtain ⟨eb9,eo9,ed9,es9,eq9,el9,em9,ep9,er9⟩:=ia.od.at hi8
   obtain ⟨ds9,rfl,ie9⟩:=ep9
   obtain ⟨e9k,e9o,e9vk,e9vn,e9vt,e9tb,e9nm,e9A,e9n,e9c,e9pl,e9ty,rfl⟩:=ie9.form
   obtain ⟨y81,hy81⟩: ∃ z,(od i8).desc=z:=⟨_,rfl⟩
   rw [hy81] at er9
   have F82:=JE W hlt8
   have F83:=nEl W 11 eq9 underlying37 hi8
   have F84:Sd W (.get 34 (.pointer (some ⟨eb9,eo9+i8*11,none⟩)) (eV e9k e9o e9vk e9vn e9vt e9tb e9nm e9A e9n e9c e9pl e9ty)):=Qb.part (d:=0) Qd Qd er9 rfl el9 Qo
   obtain ⟨z85,hz85⟩: ∃ z,(QH (od i8).e)=z:=⟨_,rfl⟩
   have C86:Sd W (.call 15 [eV e9k e9o e9vk e9vn e9vt e9tb e9nm e9A e9n e9c e9pl e9ty] (.bool z85)):=by rw [← hz85];exact Qb.of func15 rfl Qd (fun w hw=>ZX (od i8).e _ w (QI.sub (.below hw) ie9))
   cases z85
   · exact goN .fin (k':=[]) (e:=.ret) qi2 hst8 (Jf F82 F83 F84 C86) (by kernel_rfl) fun bs9 g9 a9 w9 h9=>Ki (QS h9 (vs:=[.v (.bool false)]) Qd ⟨by
      have hq:(fun i=>QH (od i).e) i8=false:=by simp only [hz1,hz3,hz5,hz7,hz9,hz11,hz13,hz15,hz17,al37,al80,hy81,hz85,bS]
      have hal:=Qw (r:=fun i=>QH (od i).e) hi8 hq
      simp only [Zq,hz1,hz3,hz5,hz7,hz9,hz11,hz13,hz15,hz17,al37,al80,hal,bS]
      rfl,h9.rp.below⟩)
   have F87:=sd W (Qb.inc (t:=3) (i:=i8) (by omega))
   exact goT .fin (k':=[]) (e:=.nrm) [(7,.v (.int .i64 ((i8+1:Nat):Int))),(1,.p 0 0)] hst8 (kE5 F82 F83 F84 C86 F87) Qv rfl (by kernel_rfl) fun g0 a0 w0 h0 _=>⟨⟨g0,h0⟩,by simp only [hz1,hz3,hz5,hz7,hz9,hz11,hz13,hz15,hz17,al37,al80,hy81,hz85,bS]⟩
 have al88:(Zd nor fun i=>QH (od i).e)=true:=Qx.2 ha8
 exact gE hsu8 Zk [.bool true] fun w' hw=>⟨by simp only [Zq,hz1,hz3,hz5,hz7,hz9,hz11,hz13,hz15,hz17,al37,al80,al88,bS];rfl,hw⟩
end
end Go.Proofs.YtddedijencleeaaGreatDoor
