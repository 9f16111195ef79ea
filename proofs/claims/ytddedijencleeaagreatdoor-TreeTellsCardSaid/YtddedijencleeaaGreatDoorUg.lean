/- tree.created, sources, selected. -/
import Derived.Test.YtddedijencleeaaGreatDoorSm
import Derived.Test.YtddedijencleeaaGreatDoorMSq
import Derived.Test.YtddedijencleeaaGreatDoorMUf
set_option linter.all false
namespace Go.Proofs.YtddedijencleeaaGreatDoor
set_option maxRecDepth 100000
set_option maxHeartbeats 8000000
open Tryz
noncomputable section
open Go.RowKit Go.Lib RC
noncomputable abbrev c9created:Code:=Qt f93
noncomputable def ZU (s:S):Bool:=QD s.tab.nm&&(s.tab.nk:Int)==(s.nkc:Int)&& !(decide (10<(s.tab.nk:Int)))&&(Zn s.tab.nc fun i=>colT (s.tab.cols i))&&(Zd s.tab.nk fun i=>keyT (s.tab.keys i))&&Zd s.nkc fun i=>Zn (s.kc i).n fun j=>QD ((s.kc i).f j)
theorem created_ok (s:S) (cs:List Value) (W:World) (h:Ks W s cs) :
 Calls prog 93 #[.agg cs.toArray] W fun r W'=>r= .returned (.bool (ZU s))∧Below W.heap.size W W':=by
 obtain ⟨kind,⟨tnm,tnc,tcols,tnk,tkeys⟩,nkc,kc,nm,ix,un,⟨ncl,cl⟩,nrw,rw_,nst,st,wh,di,nit,it,nfr,fr,⟨ngr,gr⟩,hv,nor,od,li⟩:=s
 obtain ⟨tA,tc,tB,td,A1,c1,A2,c2,A3,c3,A4,c4,A5,c5,A6,c6,A7,c7,A8,c8,wk,wo,wvk,wvn,wvt,wtb,wnm,wA,wn,wc,wpl,wty,hk,ho,hvk,hvn,hvt,htb,hnm,hA,hn,hc,hpl,hty,rfl,h0,ia,t1,t2⟩:=Ks.opn h
 have iwh:=ia.wh
 have ihv:=ia.hv
 have iwf:=ia.wf
 have itn:=ia.tab.1
 refine Qj (args:=[.agg (Zs kind tnm tA tnc tc tB tnk td A1 nkc c1 nm ix un A2 ncl c2 A3 nrw c3 A4 nst c4 wk wo wvk wvn wvt wtb wnm wA wn wc wpl wty di A5 nit c5 A6 nfr c6 A7 ngr c7 hk ho hvk hvn hvt htb hnm hA hn hc hpl hty A8 nor c8 li).toArray]) (c:=c9created) func93 rfl (by kernel_rfl) fun a0 hst=> ?_
 obtain ⟨z1,hz1⟩: ∃ z,(QD tnm)=z:=⟨_,rfl⟩
 have C2:Sd W (.call 44 [.string tnm] (.bool z1)):=by rw [← hz1];exact Qb.of func44 rfl Qd (fun w hw=>Z4 tnm itn w)
 cases z1
 · exact gE hst (Zg C2) [.bool false] fun w' hw=>⟨by simp only [ZU,hz1,bS];rfl,hw⟩
 obtain ⟨z3,hz3⟩: ∃ z,(((tnk:Nat):Int)==((nkc:Nat):Int))=z:=⟨_,rfl⟩
 have F4:=sd W (Qb.intNe (t:=3) (k:=.i64) (a:=((tnk:Nat):Int)) (b:=((nkc:Nat):Int)) (z:=(!z3)) (by rw [bne,hz3];try rfl))
 cases z3
 · exact gE hst (Km C2 F4) [.bool false] fun w' hw=>⟨by simp only [ZU,hz1,hz3,bS];rfl,hw⟩
 obtain ⟨z5,hz5⟩: ∃ z,(decide (10<((tnk:Nat):Int)))=z:=⟨_,rfl⟩
 have F6:=nGt W hz5
 cases z5
 · obtain ⟨z7,hz7⟩: ∃ z,(Zn tnc fun i=>colT (tcols i))=z:=⟨_,rfl⟩
   have C8:Sd W (.call 152 [.slice tA tnc tc,.func (Fn.func 153) #[] #[]] (.bool z7)):=by rw [← hz7];exact Qb.of func152 rfl Qd (fun w hw=>row_Column (Zz func153 Qd rfl) (QR.sub t1 (.below hw)) (fun W' hb i cs hi hp hl=>created1_ok (tcols i) cs W' hp))
   cases z7
   · exact gE hst (Jf C2 F4 F6 C8) [.bool false] fun w' hw=>⟨by simp only [ZU,hz1,hz3,hz5,hz7,bS];rfl,hw⟩
   obtain ⟨z9,hz9⟩: ∃ z,(Zd tnk fun i=>keyT (tkeys i))=z:=⟨_,rfl⟩
   have C10:Sd W (.call 154 [.slice tB tnk td,.func (Fn.func 155) #[] #[]] (.bool z9)):=by rw [← hz9];exact Qb.of func154 rfl Qd (fun w hw=>all_Key (Zz func155 Qd rfl) (QR.sub t2 (.below hw)) (fun W' hb i cs hi hp hl=>created2_ok (tkeys i) cs W' (KeIn.sub QyNa hp)))
   cases z9
   · exact gE hst (kE5 C2 F4 F6 C8 C10) [.bool false] fun w' hw=>⟨by simp only [ZU,hz1,hz3,hz5,hz7,hz9,bS];rfl,hw⟩
   obtain ⟨z11,hz11⟩: ∃ z,(Zd nkc fun i=>Zn (kc i).n fun j=>QD ((kc i).f j))=z:=⟨_,rfl⟩
   have C12:Sd W (.call 156 [.slice A1 nkc c1,.func (Fn.func 157) #[] #[]] (.bool z11)):=by rw [← hz11];exact Qb.of func156 rfl Qd (fun w hw=>all_Ns (Zz func157 Qd rfl) (ia.kc.sub (.below hw)) (fun W' hb i u hi hp=>by obtain ⟨v,e,hs⟩:=hp;cases e;exact created3_ok (kc i).n (kc i).f _ W' (ZD.sub QyNa hs)))
   exact gE hst (Je C2 F4 F6 C8 C10 C12) [.bool z11] fun w' hw=>⟨by simp only [ZU,hz1,hz3,hz5,hz7,hz9,hz11,bS];rfl,hw⟩
 exact gE hst (kE3 C2 F4 F6) [.bool false] fun w' hw=>⟨by simp only [ZU,hz1,hz3,hz5,bS];rfl,hw⟩
noncomputable abbrev c9sources:Code:=Qt f166
noncomputable def KS (i:Nat) (x:So):Bool:=QD x.nm&&noneB x.al&& !(((i:Nat):Int)==0&&(x.left|| !(QE x.e)))&& !(decide (0<((i:Nat):Int))&& !(QH x.e))
noncomputable def ZS (n:Nat) (f:Nat→So):Bool:=(decide (1≤(n:Int))&&decide ((n:Int)≤3))&&Zd n fun i=>KS i (f i)
abbrev ql1(i2 n c:Nat)(A:Option Addr):Fr:=[(11,.v (.int .i64 ((i2+1:Nat):Int))),(10,.v (.int .i64 ((n:Nat):Int))),(9,.v (.slice A n c))]
abbrev ql2:Fr:=[(2,.v (.bool false))]
theorem sources_ok (n:Nat) (f:Nat→So) (v:Value) (W:World) (h:QR W 13 160 n v fun i ds=>SoIn W (f i) ds) :
 Calls prog 166 #[v] W fun r W'=>r= .returned (.bool (ZS n f))∧Below W.heap.size W W':=by
 obtain ⟨A,c,rfl⟩:=h.form
 have hn:=h.len
 refine Qj (args:=[.slice A n c]) (c:=c9sources) func166 rfl (by kernel_rfl) fun a0 hst=> ?_
 obtain ⟨z1,hz1⟩: ∃ z,(decide (1≤((n:Nat):Int))&&decide (((n:Nat):Int)≤3))=z:=⟨_,rfl⟩
 have C2:Sd W (.call 46 [.int .i64 ((n:Nat):Int),.int .i64 1,.int .i64 3] (.bool z1)):=by rw [← hz1];exact Qb.of func46 rfl Qd (fun w hw=>KF ((n:Nat):Int) 1 3 w)
 cases z1
 · exact gE hst (Zg C2) [.bool false] fun w' hw=>⟨by simp only [ZS,hz1,bS];rfl,hw⟩
 refine gO c9sources (.loop 0) [(11,.v (.int .i64 (0:Nat))),(10,.v (.int .i64 ((n:Nat):Int))),(9,.v (.slice A n c))] [] hst (Zg C2) fun G1 a1 w1 hst1 _=> ?_
 refine eachLoop (P:=prog) (lv:=[(10,.v (.int .i64 ((n:Nat):Int))),(9,.v (.slice A n c))]) (bs:=[]) c9sources 0 11 3 n (fun i=>KS i (f i)) hn Qv hst1 (fun i2 hi2 G2 a2 w2 hst2=> ?_) (by kernel_rfl) fun ha2 g2 b2 v2 hsu2=> ?_
 · have hlt2:decide (((i2:Nat):Int)<((n:Nat):Int))=true:=by simp;omega
   obtain ⟨eb3,eo3,ed3,es3,eq3,el3,em3,ep3,er3⟩:=h.at hi2
   obtain ⟨sz3,sa3,ds3,rfl,ie3⟩:=ep3
   obtain ⟨e3k,e3o,e3vk,e3vn,e3vt,e3tb,e3nm,e3A,e3n,e3c,e3pl,e3ty,rfl⟩:=ie3.form
   obtain ⟨y3,hy3⟩: ∃ z,(f i2).left=z:=⟨_,rfl⟩
   rw [hy3] at er3
   have F4:=JE W hlt2
   have F5:=nEl W 13 eq3 underlying36 hi2
   have F6:Sd W (.get 65 (.pointer (some ⟨eb3,eo3+i2*13,none⟩)) (.agg #[.string (f i2).nm,.string (f i2).al,.bool y3,.int .i64 e3k,.int .i64 e3o,.int .i64 e3vk,.int .i64 e3vn,.string e3vt,.string e3tb,.string e3nm,.slice e3A e3n e3c,.int .i64 e3pl,.int .i64 e3ty])):=Qb.row Qd Qd er3 el3 Qo
   obtain ⟨z7,hz7⟩: ∃ z,(QD (f i2).nm)=z:=⟨_,rfl⟩
   have C8:Sd W (.call 44 [.string (f i2).nm] (.bool z7)):=by rw [← hz7];exact Qb.of func44 rfl Qd (fun w hw=>Z4 (f i2).nm sz3 w)
   cases z7
   · exact goN .fin (k':=[]) (e:=.ret) ql2 hst2 (Jf F4 F5 F6 C8) (by kernel_rfl) fun bs9 g9 a9 w9 h9=>Ki (QS h9 (vs:=[.v (.bool false)]) Qd ⟨by
      have hq:(fun i=>KS i (f i)) i2=false:=by simp only [KS,hz1,hy3,hz7,bS]
      have hal:=Qw (r:=fun i=>KS i (f i)) hi2 hq
      simp only [ZS,hz1,hal,bS]
      rfl,h9.rp.below⟩)
   obtain ⟨z9,hz9⟩: ∃ z,(noneB (f i2).al)=z:=⟨_,rfl⟩
   have C10:Sd W (.call 45 [.string (f i2).al] (.bool z9)):=by rw [← hz9];exact Qb.of func45 rfl Qd (fun w hw=>none_ok (f i2).al sa3 w)
   cases z9
   · exact goN .fin (k':=[]) (e:=.ret) ql2 hst2 (kE5 F4 F5 F6 C8 C10) (by kernel_rfl) fun bs9 g9 a9 w9 h9=>Ki (QS h9 (vs:=[.v (.bool false)]) Qd ⟨by
      have hq:(fun i=>KS i (f i)) i2=false:=by simp only [KS,hz1,hy3,hz7,hz9,bS]
      have hal:=Qw (r:=fun i=>KS i (f i)) hi2 hq
      simp only [ZS,hz1,hal,bS]
      rfl,h9.rp.below⟩)
   obtain ⟨z11,hz11⟩: ∃ z,(((i2:Nat):Int)==0)=z:=⟨_,rfl⟩
   have F12:=QN W hz11
   cases z11
   · obtain ⟨z13,hz13⟩: ∃ z,(decide (0<((i2:Nat):Int)))=z:=⟨_,rfl⟩
     have F14:=nGt W hz13
     cases z13
     · have F15:=sd W (Qb.inc (t:=3) (i:=i2) (by omega))
       exact goT .fin (k':=[]) (e:=.nrm) (ql1 i2 n c A) hst2 (kE8 F4 F5 F6 C8 C10 F12 F14 F15) Qv rfl (by kernel_rfl) fun g0 a0 w0 h0 _=>⟨⟨g0,h0⟩,by simp only [KS,hz1,hy3,hz7,hz9,hz11,hz13,bS]⟩
     obtain ⟨z16,hz16⟩: ∃ z,(QH (f i2).e)=z:=⟨_,rfl⟩
     have C17:Sd W (.call 14 [eV e3k e3o e3vk e3vn e3vt e3tb e3nm e3A e3n e3c e3pl e3ty] (.bool z16)):=by rw [← hz16];exact Qb.of func14 rfl Qd (fun w hw=>KY (f i2).e _ w QlPV)
     cases z16
     · exact goN .fin (k':=[]) (e:=.ret) ql2 hst2 (kE8 F4 F5 F6 C8 C10 F12 F14 C17) (by kernel_rfl) fun bs9 g9 a9 w9 h9=>Ki (QS h9 (vs:=[.v (.bool false)]) Qd ⟨by
        have hq:(fun i=>KS i (f i)) i2=false:=by simp only [KS,hz1,hy3,hz7,hz9,hz11,hz13,hz16,bS]
        have hal:=Qw (r:=fun i=>KS i (f i)) hi2 hq
        simp only [ZS,hz1,hal,bS]
        rfl,h9.rp.below⟩)
     have F18:=sd W (Qb.inc (t:=3) (i:=i2) (by omega))
     exact goT .fin (k':=[]) (e:=.nrm) (ql1 i2 n c A) hst2 (kE9 F4 F5 F6 C8 C10 F12 F14 C17 F18) Qv rfl (by kernel_rfl) fun g0 a0 w0 h0 _=>⟨⟨g0,h0⟩,by simp only [KS,hz1,hy3,hz7,hz9,hz11,hz13,hz16,bS]⟩
   cases y3
   rotate_left
   · exact goN .fin (k':=[]) (e:=.ret) ql2 hst2 (Je F4 F5 F6 C8 C10 F12) (by kernel_rfl) fun bs9 g9 a9 w9 h9=>Ki (QS h9 (vs:=[.v (.bool false)]) Qd ⟨by
      have hq:(fun i=>KS i (f i)) i2=false:=by simp only [KS,hz1,hy3,hz7,hz9,hz11,bS]
      have hal:=Qw (r:=fun i=>KS i (f i)) hi2 hq
      simp only [ZS,hz1,hal,bS]
      rfl,h9.rp.below⟩)
   obtain ⟨z19,hz19⟩: ∃ z,(QE (f i2).e)=z:=⟨_,rfl⟩
   have C20:Sd W (.call 161 [eV e3k e3o e3vk e3vn e3vt e3tb e3nm e3A e3n e3c e3pl e3ty] (.bool z19)):=by rw [← hz19];exact Qb.of func161 rfl Qd (fun w hw=>zeroE_tree (f i2).e _ w QlPV)
   cases z19
   · exact goN .fin (k':=[]) (e:=.ret) ql2 hst2 (kE7 F4 F5 F6 C8 C10 F12 C20) (by kernel_rfl) fun bs9 g9 a9 w9 h9=>Ki (QS h9 (vs:=[.v (.bool false)]) Qd ⟨by
      have hq:(fun i=>KS i (f i)) i2=false:=by simp only [KS,hz1,hy3,hz7,hz9,hz11,hz19,bS]
      have hal:=Qw (r:=fun i=>KS i (f i)) hi2 hq
      simp only [ZS,hz1,hal,bS]
      rfl,h9.rp.below⟩)
   obtain ⟨z21,hz21⟩: ∃ z,(decide (0<((i2:Nat):Int)))=z:=⟨_,rfl⟩
   have F22:=nGt W hz21
   cases z21
   · have F23:=sd W (Qb.inc (t:=3) (i:=i2) (by omega))
     exact goT .fin (k':=[]) (e:=.nrm) (ql1 i2 n c A) hst2 (kE9 F4 F5 F6 C8 C10 F12 C20 F22 F23) Qv rfl (by kernel_rfl) fun g0 a0 w0 h0 _=>⟨⟨g0,h0⟩,by simp only [KS,hz1,hy3,hz7,hz9,hz11,hz19,hz21,bS]⟩
   obtain ⟨z24,hz24⟩: ∃ z,(QH (f i2).e)=z:=⟨_,rfl⟩
   have C25:Sd W (.call 14 [eV e3k e3o e3vk e3vn e3vt e3tb e3nm e3A e3n e3c e3pl e3ty] (.bool z24)):=by rw [← hz24];exact Qb.of func14 rfl Qd (fun w hw=>KY (f i2).e _ w QlPV)
   cases z24
   · exact goN .fin (k':=[]) (e:=.ret) ql2 hst2 (kE9 F4 F5 F6 C8 C10 F12 C20 F22 C25) (by kernel_rfl) fun bs9 g9 a9 w9 h9=>Ki (QS h9 (vs:=[.v (.bool false)]) Qd ⟨by
      have hq:(fun i=>KS i (f i)) i2=false:=by simp only [KS,hz1,hy3,hz7,hz9,hz11,hz19,hz21,hz24,bS]
      have hal:=Qw (r:=fun i=>KS i (f i)) hi2 hq
      simp only [ZS,hz1,hal,bS]
      rfl,h9.rp.below⟩)
   have F26:=sd W (Qb.inc (t:=3) (i:=i2) (by omega))
   exact goT .fin (k':=[]) (e:=.nrm) (ql1 i2 n c A) hst2 (Kr F4 F5 F6 C8 C10 F12 C20 F22 C25 F26) Qv rfl (by kernel_rfl) fun g0 a0 w0 h0 _=>⟨⟨g0,h0⟩,by simp only [KS,hz1,hy3,hz7,hz9,hz11,hz19,hz21,hz24,bS]⟩
 have al27:(Zd n fun i=>KS i (f i))=true:=Qx.2 ha2
 exact gE hsu2 Zk [.bool true] fun w' hw=>⟨by simp only [ZS,hz1,al27,bS];rfl,hw⟩
noncomputable abbrev c9selected:Code:=Qt f101
noncomputable def Q0 (s:S):Bool:=(Zn s.nit fun i=>itemT (s.it i))&&ZS s.nfr s.fr&&Zx s.wh&&((s.gr.n:Int)==0||Zn s.gr.n fun i=>QH (s.gr.f i))&&Zx s.hv&&((s.nor:Int)==0||Zn s.nor fun i=>orderT (s.od i))&&decide ((-1)≤s.li)
theorem selected_ok (s:S) (cs:List Value) (W:World) (h:Ks W s cs) :
 Calls prog 101 #[.agg cs.toArray] W fun r W'=>r= .returned (.bool (Q0 s))∧Below W.heap.size W W':=by
 obtain ⟨kind,⟨tnm,tnc,tcols,tnk,tkeys⟩,nkc,kc,nm,ix,un,⟨ncl,cl⟩,nrw,rw_,nst,st,wh,di,nit,it,nfr,fr,⟨ngr,gr⟩,hv,nor,od,li⟩:=s
 obtain ⟨tA,tc,tB,td,A1,c1,A2,c2,A3,c3,A4,c4,A5,c5,A6,c6,A7,c7,A8,c8,wk,wo,wvk,wvn,wvt,wtb,wnm,wA,wn,wc,wpl,wty,hk,ho,hvk,hvn,hvt,htb,hnm,hA,hn,hc,hpl,hty,rfl,h0,ia,t1,t2⟩:=Ks.opn h
 have iwh:=ia.wh
 have ihv:=ia.hv
 have iwf:=ia.wf
 have itn:=ia.tab.1
 refine Qj (args:=[.agg (Zs kind tnm tA tnc tc tB tnk td A1 nkc c1 nm ix un A2 ncl c2 A3 nrw c3 A4 nst c4 wk wo wvk wvn wvt wtb wnm wA wn wc wpl wty di A5 nit c5 A6 nfr c6 A7 ngr c7 hk ho hvk hvn hvt htb hnm hA hn hc hpl hty A8 nor c8 li).toArray]) (c:=c9selected) func101 rfl (by kernel_rfl) fun a0 hst=> ?_
 obtain ⟨z1,hz1⟩: ∃ z,(((nor:Nat):Int)==0)=z:=⟨_,rfl⟩
 have F2:=QN W hz1
 cases z1
 · obtain ⟨z3,hz3⟩: ∃ z,(Zn nor fun i=>orderT (od i))=z:=⟨_,rfl⟩
   have C4:Sd W (.call 162 [.slice A8 nor c8,.func (Fn.func 163) #[] #[]] (.bool z3)):=by rw [← hz3];exact Qb.of func162 rfl Qd (fun w hw=>row_Order (Zz func163 Qd rfl) (QR.sub ia.od (.below hw)) (fun W' hb i cs hi hp hl=>selected1_ok (od i) cs W' (OdIn.sub QyNa hp)))
   obtain ⟨z5,hz5⟩: ∃ z,(Zn nit fun i=>itemT (it i))=z:=⟨_,rfl⟩
   have C6:Sd W (.call 164 [.slice A5 nit c5,.func (Fn.func 165) #[] #[]] (.bool z5)):=by rw [← hz5];exact Qb.of func164 rfl Qd QalH
   cases z5
   · exact gE hst (kE3 F2 C4 C6) [.bool false] fun w' hw=>⟨by simp only [Q0,hz1,hz3,hz5,bS];rfl,hw⟩
   obtain ⟨z7,hz7⟩: ∃ z,(ZS nfr fr)=z:=⟨_,rfl⟩
   have C8:Sd W (.call 166 [.slice A6 nfr c6] (.bool z7)):=by rw [← hz7];exact Qb.of func166 rfl Qd QuGq
   cases z7
   · exact gE hst (Jf F2 C4 C6 C8) [.bool false] fun w' hw=>⟨by simp only [Q0,hz1,hz3,hz5,hz7,bS];rfl,hw⟩
   obtain ⟨z9,hz9⟩: ∃ z,(Zx wh)=z:=⟨_,rfl⟩
   have C10:Sd W (.call 100 [eV wk wo wvk wvn wvt wtb wnm wA wn wc wpl wty] (.bool z9)):=by rw [← hz9];exact Qb.of func100 rfl Qd (fun w hw=>maybe_ok wh _ w QOF2)
   cases z9
   · exact gE hst (kE5 F2 C4 C6 C8 C10) [.bool false] fun w' hw=>⟨by simp only [Q0,hz1,hz3,hz5,hz7,hz9,bS];rfl,hw⟩
   obtain ⟨z11,hz11⟩: ∃ z,(((ngr:Nat):Int)==0)=z:=⟨_,rfl⟩
   have F12:=QN W hz11
   cases z11
   · obtain ⟨z13,hz13⟩: ∃ z,(Zn ngr fun i=>QH (gr i))=z:=⟨_,rfl⟩
     have C14:Sd W (.call 97 [.slice A7 ngr c7,.func (Fn.func 14) #[] #[]] (.bool z13)):=by rw [← hz13];exact Qb.of func97 rfl Qd Qr4y
     cases z13
     · exact gE hst (kE7 F2 C4 C6 C8 C10 F12 C14) [.bool false] fun w' hw=>⟨by simp only [Q0,hz1,hz3,hz5,hz7,hz9,hz11,hz13,bS];rfl,hw⟩
     obtain ⟨z15,hz15⟩: ∃ z,(Zx hv)=z:=⟨_,rfl⟩
     have C16:Sd W (.call 100 [eV hk ho hvk hvn hvt htb hnm hA hn hc hpl hty] (.bool z15)):=by rw [← hz15];exact Qb.of func100 rfl Qd QTTK
     cases z15
     · exact QMVi
     cases z3
     · exact QMVi
     obtain ⟨z17,hz17⟩: ∃ z,(decide ((-1)≤li))=z:=⟨_,rfl⟩
     have F18:=sd W (Qb.intGe (t:=2) (k:=.i64) (a:=li) (b:=(-1)) hz17)
     exact gE hst (kE9 F2 C4 C6 C8 C10 F12 C14 C16 F18) [.bool z17] fun w' hw=>⟨by simp only [Q0,hz1,hz3,hz5,hz7,hz9,hz11,hz13,hz15,hz17,bS];rfl,hw⟩
   obtain ⟨z19,hz19⟩: ∃ z,(Zx hv)=z:=⟨_,rfl⟩
   have C20:Sd W (.call 100 [eV hk ho hvk hvn hvt htb hnm hA hn hc hpl hty] (.bool z19)):=by rw [← hz19];exact Qb.of func100 rfl Qd QTTK
   cases z19
   · exact QwEV
   cases z3
   · exact QwEV
   obtain ⟨z21,hz21⟩: ∃ z,(decide ((-1)≤li))=z:=⟨_,rfl⟩
   have F22:=sd W (Qb.intGe (t:=2) (k:=.i64) (a:=li) (b:=(-1)) hz21)
   exact gE hst (kE8 F2 C4 C6 C8 C10 F12 C20 F22) [.bool z21] fun w' hw=>⟨by simp only [Q0,hz1,hz3,hz5,hz7,hz9,hz11,hz19,hz21,bS];rfl,hw⟩
 obtain ⟨z23,hz23⟩: ∃ z,(Zn nit fun i=>itemT (it i))=z:=⟨_,rfl⟩
 have C24:Sd W (.call 164 [.slice A5 nit c5,.func (Fn.func 165) #[] #[]] (.bool z23)):=by rw [← hz23];exact Qb.of func164 rfl Qd QalH
 cases z23
 · exact gE hst (Km F2 C24) [.bool false] fun w' hw=>⟨by simp only [Q0,hz1,hz23,bS];rfl,hw⟩
 obtain ⟨z25,hz25⟩: ∃ z,(ZS nfr fr)=z:=⟨_,rfl⟩
 have C26:Sd W (.call 166 [.slice A6 nfr c6] (.bool z25)):=by rw [← hz25];exact Qb.of func166 rfl Qd QuGq
 cases z25
 · exact gE hst (kE3 F2 C24 C26) [.bool false] fun w' hw=>⟨by simp only [Q0,hz1,hz23,hz25,bS];rfl,hw⟩
 obtain ⟨z27,hz27⟩: ∃ z,(Zx wh)=z:=⟨_,rfl⟩
 have C28:Sd W (.call 100 [eV wk wo wvk wvn wvt wtb wnm wA wn wc wpl wty] (.bool z27)):=by rw [← hz27];exact Qb.of func100 rfl Qd (fun w hw=>maybe_ok wh _ w QOF2)
 cases z27
 · exact gE hst (Jf F2 C24 C26 C28) [.bool false] fun w' hw=>⟨by simp only [Q0,hz1,hz23,hz25,hz27,bS];rfl,hw⟩
 obtain ⟨z29,hz29⟩: ∃ z,(((ngr:Nat):Int)==0)=z:=⟨_,rfl⟩
 have F30:=QN W hz29
 cases z29
 · obtain ⟨z31,hz31⟩: ∃ z,(Zn ngr fun i=>QH (gr i))=z:=⟨_,rfl⟩
   have C32:Sd W (.call 97 [.slice A7 ngr c7,.func (Fn.func 14) #[] #[]] (.bool z31)):=by rw [← hz31];exact Qb.of func97 rfl Qd Qr4y
   cases z31
   · exact gE hst (Je F2 C24 C26 C28 F30 C32) [.bool false] fun w' hw=>⟨by simp only [Q0,hz1,hz23,hz25,hz27,hz29,hz31,bS];rfl,hw⟩
   obtain ⟨z33,hz33⟩: ∃ z,(Zx hv)=z:=⟨_,rfl⟩
   have C34:Sd W (.call 100 [eV hk ho hvk hvn hvt htb hnm hA hn hc hpl hty] (.bool z33)):=by rw [← hz33];exact Qb.of func100 rfl Qd QTTK
   cases z33
   · exact gE hst (kE7 F2 C24 C26 C28 F30 C32 C34) [.bool false] fun w' hw=>⟨by simp only [Q0,hz1,hz23,hz25,hz27,hz29,hz31,hz33,bS];rfl,hw⟩
   obtain ⟨z35,hz35⟩: ∃ z,(decide ((-1)≤li))=z:=⟨_,rfl⟩
   have F36:=sd W (Qb.intGe (t:=2) (k:=.i64) (a:=li) (b:=(-1)) hz35)
   exact gE hst (kE8 F2 C24 C26 C28 F30 C32 C34 F36) [.bool z35] fun w' hw=>⟨by simp only [Q0,hz1,hz23,hz25,hz27,hz29,hz31,hz33,hz35,bS];rfl,hw⟩
 obtain ⟨z37,hz37⟩: ∃ z,(Zx hv)=z:=⟨_,rfl⟩
 have C38:Sd W (.call 100 [eV hk ho hvk hvn hvt htb hnm hA hn hc hpl hty] (.bool z37)):=by rw [← hz37];exact Qb.of func100 rfl Qd QTTK
 cases z37
 · exact gE hst (Je F2 C24 C26 C28 F30 C38) [.bool false] fun w' hw=>⟨by simp only [Q0,hz1,hz23,hz25,hz27,hz29,hz37,bS];rfl,hw⟩
 obtain ⟨z39,hz39⟩: ∃ z,(decide ((-1)≤li))=z:=⟨_,rfl⟩
 have F40:=sd W (Qb.intGe (t:=2) (k:=.i64) (a:=li) (b:=(-1)) hz39)
 exact gE hst (kE7 F2 C24 C26 C28 F30 C38 F40) [.bool z39] fun w' hw=>⟨by simp only [Q0,hz1,hz23,hz25,hz27,hz29,hz37,hz39,bS];rfl,hw⟩
end
end Go.Proofs.YtddedijencleeaaGreatDoor
