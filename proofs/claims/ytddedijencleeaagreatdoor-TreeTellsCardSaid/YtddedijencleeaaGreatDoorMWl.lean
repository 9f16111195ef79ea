/- ref9.Is. -/
import Derived.Test.YtddedijencleeaaGreatDoorSm
import Derived.Test.YtddedijencleeaaGreatDoorMSq
import Derived.Test.YtddedijencleeaaGreatDoorMUc
import Derived.Test.YtddedijencleeaaGreatDoorMUf
set_option linter.all false
namespace Go.Proofs.YtddedijencleeaaGreatDoor
set_option maxRecDepth 100000
set_option maxHeartbeats 8000000
open Tryz
open Go.RowKit Go.Lib RC
noncomputable abbrev c9Is:Code:=Qt f13
noncomputable def setB (x:Go.Proofs.YtddedijencleeaaGreatDoor.St):Bool:=QD x.nm&&QH x.e
noncomputable def is9S (s:S):Bool:=QM s &&
 (if s.kind==1 then Z7 s
 else if s.kind==2 then QD s.ix&&QD s.nm&&JF s.cl.n 1 fun i=>QD (s.cl.f i)
 else if s.kind==3 then QD s.nm
 else if s.kind==4 then QD s.ix
 else if s.kind==5 then QD s.nm&&(JF s.cl.n 0 fun i=>QD (s.cl.f i))&& !(decide ((s.nrw:Int)<1))&& !(decide (10<(s.nrw:Int)))&&Zd s.nrw fun i=>JF (s.rw i).n 1 fun j=>QH ((s.rw i).f j)
 else if s.kind==6 then QD s.nm&& !(decide ((s.nst:Int)<1))&& !(decide (10<(s.nst:Int)))&&Zx s.wh&&Zd s.nst fun i=>setB (s.st i)
 else if s.kind==7 then QD s.nm&&Zx s.wh
 else if s.kind==8 then Zq s else false)
theorem is9_ok (s:S) (cs:List Value) (W:World) (h:Ks W s cs) :
 Calls prog 13 #[.agg cs.toArray] W fun r W'=>r= .returned (.bool (is9S s))∧Below W.heap.size W W':=by
 obtain ⟨kind,⟨tnm,tnc,tcols,tnk,tkeys⟩,nkc,kc,nm,ix,un,⟨ncl,cl⟩,nrw,rw_,nst,st,wh,di,nit,it,nfr,fr,⟨ngr,gr⟩,hv,nor,od,li⟩:=s
 obtain ⟨tA,tc,tB,td,A1,c1,A2,c2,A3,c3,A4,c4,A5,c5,A6,c6,A7,c7,A8,c8,wk,wo,wvk,wvn,wvt,wtb,wnm,wA,wn,wc,wpl,wty,hk,ho,hvk,hvn,hvt,htb,hnm,hA,hn,hc,hpl,hty,rfl,h0,ia,t1,t2⟩:=Ks.opn h
 let x2x:List Zp:=[bx (Zs kind tnm tA tnc tc tB tnk td A1 nkc c1 nm ix un A2 ncl c2 A3 nrw c3 A4 nst c4 wk wo wvk wvn wvt wtb wnm wA wn wc wpl wty di A5 nit c5 A6 nfr c6 A7 ngr c7 hk ho hvk hvn hvt htb hnm hA hn hc hpl hty A8 nor c8 li)]
 let x1x:List Value:=[.agg (Zs kind tnm tA tnc tc tB tnk td A1 nkc c1 nm ix un A2 ncl c2 A3 nrw c3 A4 nst c4 wk wo wvk wvn wvt wtb wnm wA wn wc wpl wty di A5 nit c5 A6 nfr c6 A7 ngr c7 hk ho hvk hvn hvt htb hnm hA hn hc hpl hty A8 nor c8 li).toArray]
 have iwh:=ia.wh
 have ihv:=ia.hv
 have iwf:=ia.wf
 have itn:=ia.tab.1
 have hn1:nrw≤9223372036854775807:=ia.rw.len
 have hn2:nst≤9223372036854775807:=ia.st.len
 refine Qj (args:=x1x) (c:=c9Is) func13 rfl (by kernel_rfl) fun a0 hst=> ?_
 obtain ⟨z1,hz1⟩: ∃ z,(QM ⟨kind,⟨tnm,tnc,tcols,tnk,tkeys⟩,nkc,kc,nm,ix,un,⟨ncl,cl⟩,nrw,rw_,nst,st,wh,di,nit,it,nfr,fr,⟨ngr,gr⟩,hv,nor,od,li⟩)=z:=⟨_,rfl⟩
 have C2:Sd W (.call 36 x1x (.bool z1)):=by rw [← hz1];exact Qb.of func36 rfl Qd (fun w hw=>rest9_ok _ _ w QgdQ)
 cases z1
 · exact gE hst (Zg C2) [.bool false] fun w' hw=>⟨by simp only [is9S,hz1,bS];rfl,hw⟩
 obtain ⟨z3,hz3⟩: ∃ z,(QD nm)=z:=⟨_,rfl⟩
 have C4:Sd W (.call 37 [.string nm] (.bool z3)):=by rw [← hz3, ← KK];exact Qb.of func37 rfl Qd (fun w hw=>ZR nm iwf.nm w)
 obtain ⟨z5,hz5⟩: ∃ z,(kind==1)=z:=⟨_,rfl⟩
 have F6:=QN W hz5
 cases z5
 rotate_left
 · have he67:=eq_of_beq hz5
   obtain ⟨z68,hz68⟩: ∃ z,(Z7 ⟨kind,⟨tnm,tnc,tcols,tnk,tkeys⟩,nkc,kc,nm,ix,un,⟨ncl,cl⟩,nrw,rw_,nst,st,wh,di,nit,it,nfr,fr,⟨ngr,gr⟩,hv,nor,od,li⟩)=z:=⟨_,rfl⟩
   have C69:Sd W (.call 38 x1x (.bool z68)):=by rw [← hz68];exact Qb.of func38 rfl Qd (fun w hw=>isCreate9_ok _ _ w QgdQ)
   exact gE hst (Jf C2 C4 F6 C69) [.bool z68] fun w' hw=>⟨by simp only [is9S,hz1,hz3,hz5,hz68,bS];rfl,hw⟩
 obtain ⟨z7,hz7⟩: ∃ z,(kind==2)=z:=⟨_,rfl⟩
 have F8:=QN W hz7
 cases z7
 rotate_left
 · have he62:=eq_of_beq hz7
   obtain ⟨z63,hz63⟩: ∃ z,(QD ix)=z:=⟨_,rfl⟩
   have C64:Sd W (.call 37 [.string ix] (.bool z63)):=by rw [← hz63, ← KK];exact Qb.of func37 rfl Qd (fun w hw=>ZR ix iwf.ix w)
   cases z63
   · exact QM7t
   cases z3
   · exact QM7t
   obtain ⟨z65,hz65⟩: ∃ z,(JF ncl 1 fun i=>QD (cl i))=z:=⟨_,rfl⟩
   have C66:Sd W (.call 39 [.slice A2 ncl c2,.int .i64 1] (.bool z65)):=by rw [← hz65];exact Qb.of func39 rfl Qd (fun w hw=>names_ok ncl cl _ 1 w (ZD.sub (.below hw) ia.cl))
   exact gE hst (Je C2 C4 F6 F8 C64 C66) [.bool z65] fun w' hw=>⟨by simp only [is9S,hz1,hz3,hz5,hz7,hz63,hz65,bS];rfl,hw⟩
 obtain ⟨z9,hz9⟩: ∃ z,(kind==3)=z:=⟨_,rfl⟩
 have F10:=QN W hz9
 cases z9
 rotate_left
 · have he61:=eq_of_beq hz9
   exact gE hst (kE5 C2 C4 F6 F8 F10) [.bool z3] fun w' hw=>⟨by simp only [is9S,hz1,hz3,hz5,hz7,hz9,bS];rfl,hw⟩
 obtain ⟨z11,hz11⟩: ∃ z,(kind==4)=z:=⟨_,rfl⟩
 have F12:=QN W hz11
 cases z11
 rotate_left
 · have he58:=eq_of_beq hz11
   obtain ⟨z59,hz59⟩: ∃ z,(QD ix)=z:=⟨_,rfl⟩
   have C60:Sd W (.call 37 [.string ix] (.bool z59)):=by rw [← hz59, ← KK];exact Qb.of func37 rfl Qd (fun w hw=>ZR ix iwf.ix w)
   exact gE hst (kE7 C2 C4 F6 F8 F10 F12 C60) [.bool z59] fun w' hw=>⟨by simp only [is9S,hz1,hz3,hz5,hz7,hz9,hz11,hz59,bS];rfl,hw⟩
 obtain ⟨z13,hz13⟩: ∃ z,(kind==5)=z:=⟨_,rfl⟩
 have F14:=QN W hz13
 cases z13
 rotate_left
 · have he44:=eq_of_beq hz13
   cases z3
   · exact gE hst (kE7 C2 C4 F6 F8 F10 F12 F14) [.bool false] fun w' hw=>⟨by simp only [is9S,hz1,hz3,hz5,hz7,hz9,hz11,hz13,bS];rfl,hw⟩
   obtain ⟨z45,hz45⟩: ∃ z,(JF ncl 0 fun i=>QD (cl i))=z:=⟨_,rfl⟩
   have C46:Sd W (.call 39 [.slice A2 ncl c2,.int .i64 0] (.bool z45)):=by rw [← hz45];exact Qb.of func39 rfl Qd (fun w hw=>names_ok ncl cl _ 0 w (ZD.sub (.below hw) ia.cl))
   cases z45
   · exact gE hst (kE8 C2 C4 F6 F8 F10 F12 F14 C46) [.bool false] fun w' hw=>⟨by simp only [is9S,hz1,hz3,hz5,hz7,hz9,hz11,hz13,hz45,bS];rfl,hw⟩
   obtain ⟨z47,hz47⟩: ∃ z,(decide (((nrw:Nat):Int)<1))=z:=⟨_,rfl⟩
   have F48:=JE W hz47
   cases z47
   rotate_left
   · exact gE hst (kE9 C2 C4 F6 F8 F10 F12 F14 C46 F48) [.bool false] fun w' hw=>⟨by simp only [is9S,hz1,hz3,hz5,hz7,hz9,hz11,hz13,hz45,hz47,bS];rfl,hw⟩
   obtain ⟨z49,hz49⟩: ∃ z,(decide (10<((nrw:Nat):Int)))=z:=⟨_,rfl⟩
   have F50:=nGt W hz49
   cases z49
   rotate_left
   · exact gE hst (Kr C2 C4 F6 F8 F10 F12 F14 C46 F48 F50) [.bool false] fun w' hw=>⟨by simp only [is9S,hz1,hz3,hz5,hz7,hz9,hz11,hz13,hz45,hz47,hz49,bS];rfl,hw⟩
   refine gO c9Is (.loop 1) [(4,.v (.int .i64 (0:Nat))),(1,.p 0 0)] x2x hst (Kr C2 C4 F6 F8 F10 F12 F14 C46 F48 F50) fun G4 a4 w4 hst4 _=> ?_
   refine eachLoop (P:=prog) (lv:=[(1,.p 0 0)]) (bs:=x2x) c9Is 1 4 3 nrw (fun i=>JF (rw_ i).n 1 fun j=>QH ((rw_ i).f j)) hn1 Qv hst4 (fun i5 hi5 G5 a5 w5 hst5=> ?_) (by kernel_rfl) fun ha5 g5 b5 v5 hsu5=> ?_
   · have hlt5:decide (((i5:Nat):Int)<((nrw:Nat):Int))=true:=by simp;omega
     obtain ⟨eb6,eo6,ed6,es6,eq6,el6,em6,ep6,er6⟩:=ia.rw.at hi5
     obtain ⟨kv6,rfl,ks6⟩:=ep6
     obtain ⟨KA6,kc6,rfl⟩:=ks6.form
     have F51:=JE W hlt5
     have F52:=nEl W 1 eq6 underlying28 hi5
     have F53:Sd W (.get 32 (.pointer (some ⟨eb6,eo6+i5*1,none⟩)) (.slice KA6 (rw_ i5).n kc6)):=Qb.cellAt (d:=0) Qd er6 rfl el6 Qo
     obtain ⟨z54,hz54⟩: ∃ z,(JF (rw_ i5).n 1 fun i=>QH ((rw_ i5).f i))=z:=⟨_,rfl⟩
     have C55:Sd W (.call 40 [.slice KA6 (rw_ i5).n kc6,.int .i64 1] (.bool z54)):=by rw [← hz54];exact Qb.of func40 rfl Qd (fun w hw=>exprs_ok (rw_ i5).n (rw_ i5).f _ 1 w (Z6.sub (.below hw) ks6))
     cases z54
     · exact goN .fin (k':=[]) (e:=.ret) [(2,.v (.bool false))] hst5 (Jf F51 F52 F53 C55) (by kernel_rfl) fun bs9 g9 a9 w9 h9=>Ki (QS h9 (vs:=[.v (.bool false)]) Qd ⟨by
        have hq:(fun i=>JF (rw_ i).n 1 fun j=>QH ((rw_ i).f j)) i5=false:=by simp only [hz1,hz3,hz5,hz7,hz9,hz11,hz13,hz45,hz47,hz49,hz54,bS]
        have hal:=Qw (r:=fun i=>JF (rw_ i).n 1 fun j=>QH ((rw_ i).f j)) hi5 hq
        simp only [is9S,hz1,hz3,hz5,hz7,hz9,hz11,hz13,hz45,hz47,hz49,hal,bS]
        rfl,h9.rp.below⟩)
     have F56:=sd W (Qb.inc (t:=3) (i:=i5) (by omega))
     exact goT .fin (k':=[]) (e:=.nrm) [(4,.v (.int .i64 ((i5+1:Nat):Int))),(1,.p 0 0)] hst5 (kE5 F51 F52 F53 C55 F56) Qv rfl (by kernel_rfl) fun g0 a0 w0 h0 _=>⟨⟨g0,h0⟩,by simp only [hz1,hz3,hz5,hz7,hz9,hz11,hz13,hz45,hz47,hz49,hz54,bS]⟩
   have al57:(Zd nrw fun i=>JF (rw_ i).n 1 fun j=>QH ((rw_ i).f j))=true:=Qx.2 ha5
   exact gE hsu5 Zk [.bool true] fun w' hw=>⟨by simp only [is9S,hz1,hz3,hz5,hz7,hz9,hz11,hz13,hz45,hz47,hz49,al57,bS];rfl,hw⟩
 obtain ⟨z15,hz15⟩: ∃ z,(kind==6)=z:=⟨_,rfl⟩
 have F16:=QN W hz15
 cases z15
 · obtain ⟨z17,hz17⟩: ∃ z,(kind==7)=z:=⟨_,rfl⟩
   have F18:=QN W hz17
   cases z17
   · obtain ⟨z19,hz19⟩: ∃ z,(kind==8)=z:=⟨_,rfl⟩
     have F20:=QN W hz19
     cases z19
     · exact gE hst (Kr C2 C4 F6 F8 F10 F12 F14 F16 F18 F20) [.bool false] fun w' hw=>⟨by simp only [is9S,hz1,hz3,hz5,hz7,hz9,hz11,hz13,hz15,hz17,hz19,bS];rfl,hw⟩
     have he21:=eq_of_beq hz19
     obtain ⟨z22,hz22⟩: ∃ z,(Zq ⟨kind,⟨tnm,tnc,tcols,tnk,tkeys⟩,nkc,kc,nm,ix,un,⟨ncl,cl⟩,nrw,rw_,nst,st,wh,di,nit,it,nfr,fr,⟨ngr,gr⟩,hv,nor,od,li⟩)=z:=⟨_,rfl⟩
     have C23:Sd W (.call 42 x1x (.bool z22)):=by rw [← hz22];exact Qb.of func42 rfl Qd (fun w hw=>isSelect9_ok _ _ w QgdQ)
     exact gE hst (JD C2 C4 F6 F8 F10 F12 F14 F16 F18 F20 C23) [.bool z22] fun w' hw=>⟨by simp only [is9S,hz1,hz3,hz5,hz7,hz9,hz11,hz13,hz15,hz17,hz19,hz22,bS];rfl,hw⟩
   have he24:=eq_of_beq hz17
   cases z3
   · exact gE hst (kE9 C2 C4 F6 F8 F10 F12 F14 F16 F18) [.bool false] fun w' hw=>⟨by simp only [is9S,hz1,hz3,hz5,hz7,hz9,hz11,hz13,hz15,hz17,bS];rfl,hw⟩
   obtain ⟨z25,hz25⟩: ∃ z,(Zx wh)=z:=⟨_,rfl⟩
   have C26:Sd W (.call 41 [eV wk wo wvk wvn wvt wtb wnm wA wn wc wpl wty] (.bool z25)):=by rw [← hz25];exact Qb.of func41 rfl Qd Qozy
   exact gE hst (Kr C2 C4 F6 F8 F10 F12 F14 F16 F18 C26) [.bool z25] fun w' hw=>⟨by simp only [is9S,hz1,hz3,hz5,hz7,hz9,hz11,hz13,hz15,hz17,hz25,bS];rfl,hw⟩
 have he27:=eq_of_beq hz15
 cases z3
 · exact gE hst (kE8 C2 C4 F6 F8 F10 F12 F14 F16) [.bool false] fun w' hw=>⟨by simp only [is9S,hz1,hz3,hz5,hz7,hz9,hz11,hz13,hz15,bS];rfl,hw⟩
 obtain ⟨z28,hz28⟩: ∃ z,(decide (((nst:Nat):Int)<1))=z:=⟨_,rfl⟩
 have F29:=JE W hz28
 cases z28
 rotate_left
 · exact gE hst (kE9 C2 C4 F6 F8 F10 F12 F14 F16 F29) [.bool false] fun w' hw=>⟨by simp only [is9S,hz1,hz3,hz5,hz7,hz9,hz11,hz13,hz15,hz28,bS];rfl,hw⟩
 obtain ⟨z30,hz30⟩: ∃ z,(decide (10<((nst:Nat):Int)))=z:=⟨_,rfl⟩
 have F31:=nGt W hz30
 cases z30
 rotate_left
 · exact gE hst (Kr C2 C4 F6 F8 F10 F12 F14 F16 F29 F31) [.bool false] fun w' hw=>⟨by simp only [is9S,hz1,hz3,hz5,hz7,hz9,hz11,hz13,hz15,hz28,hz30,bS];rfl,hw⟩
 obtain ⟨z32,hz32⟩: ∃ z,(Zx wh)=z:=⟨_,rfl⟩
 have C33:Sd W (.call 41 [eV wk wo wvk wvn wvt wtb wnm wA wn wc wpl wty] (.bool z32)):=by rw [← hz32];exact Qb.of func41 rfl Qd Qozy
 cases z32
 · exact gE hst (JD C2 C4 F6 F8 F10 F12 F14 F16 F29 F31 C33) [.bool false] fun w' hw=>⟨by simp only [is9S,hz1,hz3,hz5,hz7,hz9,hz11,hz13,hz15,hz28,hz30,hz32,bS];rfl,hw⟩
 refine gO c9Is (.loop 3) [(5,.v (.int .i64 (0:Nat))),(1,.p 0 0)] x2x hst (JD C2 C4 F6 F8 F10 F12 F14 F16 F29 F31 C33) fun G1 a1 w1 hst1 _=> ?_
 refine eachLoop (P:=prog) (lv:=[(1,.p 0 0)]) (bs:=x2x) c9Is 3 5 3 nst (fun i=>setB (st i)) hn2 Qv hst1 (fun i2 hi2 G2 a2 w2 hst2=> ?_) (by kernel_rfl) fun ha2 g2 b2 v2 hsu2=> ?_
 · have hlt2:decide (((i2:Nat):Int)<((nst:Nat):Int))=true:=by simp;omega
   obtain ⟨eb3,eo3,ed3,es3,eq3,el3,em3,ep3,er3⟩:=ia.st.at hi2
   obtain ⟨sz3,ds3,rfl,ie3⟩:=ep3
   obtain ⟨e3k,e3o,e3vk,e3vn,e3vt,e3tb,e3nm,e3A,e3n,e3c,e3pl,e3ty,rfl⟩:=ie3.form
   have F34:=JE W hlt2
   have F35:=nEl W 11 eq3 underlying29 hi2
   have F36:Sd W (.get 9 (.pointer (some ⟨eb3,eo3+i2*11,none⟩)) (.string (st i2).nm)):=Qb.cellAt (d:=0) Qd er3 rfl el3 Qo
   obtain ⟨z37,hz37⟩: ∃ z,(QD (st i2).nm)=z:=⟨_,rfl⟩
   have C38:Sd W (.call 37 [.string (st i2).nm] (.bool z37)):=by rw [← hz37, ← KK];exact Qb.of func37 rfl Qd (fun w hw=>ZR (st i2).nm sz3 w)
   cases z37
   · exact goN .fin (k':=[]) (e:=.ret) [(2,.v (.bool false))] hst2 (Jf F34 F35 F36 C38) (by kernel_rfl) fun bs9 g9 a9 w9 h9=>Ki (QS h9 (vs:=[.v (.bool false)]) Qd ⟨by
      have hq:(fun i=>setB (st i)) i2=false:=by simp only [setB,hz1,hz3,hz5,hz7,hz9,hz11,hz13,hz15,hz28,hz30,hz32,hz37,bS]
      have hal:=Qw (r:=fun i=>setB (st i)) hi2 hq
      simp only [is9S,hz1,hz3,hz5,hz7,hz9,hz11,hz13,hz15,hz28,hz30,hz32,hal,bS]
      rfl,h9.rp.below⟩)
   have F39:Sd W (.get 34 (.pointer (some ⟨eb3,eo3+i2*11+1,none⟩)) (eV e3k e3o e3vk e3vn e3vt e3tb e3nm e3A e3n e3c e3pl e3ty)):=Qb.part (d:=1) Qd Qd er3 rfl el3 Qo
   obtain ⟨z40,hz40⟩: ∃ z,(QH (st i2).e)=z:=⟨_,rfl⟩
   have C41:Sd W (.call 15 [eV e3k e3o e3vk e3vn e3vt e3tb e3nm e3A e3n e3c e3pl e3ty] (.bool z40)):=by rw [← hz40];exact Qb.of func15 rfl Qd (fun w hw=>ZX (st i2).e _ w QlPV)
   cases z40
   · exact goN .fin (k':=[]) (e:=.ret) [(2,.v (.bool false))] hst2 (kE7 F34 F35 F36 C38 F35 F39 C41) (by kernel_rfl) fun bs9 g9 a9 w9 h9=>Ki (QS h9 (vs:=[.v (.bool false)]) Qd ⟨by
      have hq:(fun i=>setB (st i)) i2=false:=by simp only [setB,hz1,hz3,hz5,hz7,hz9,hz11,hz13,hz15,hz28,hz30,hz32,hz37,hz40,bS]
      have hal:=Qw (r:=fun i=>setB (st i)) hi2 hq
      simp only [is9S,hz1,hz3,hz5,hz7,hz9,hz11,hz13,hz15,hz28,hz30,hz32,hal,bS]
      rfl,h9.rp.below⟩)
   have F42:=sd W (Qb.inc (t:=3) (i:=i2) (by omega))
   exact goT .fin (k':=[]) (e:=.nrm) [(5,.v (.int .i64 ((i2+1:Nat):Int))),(1,.p 0 0)] hst2 (kE8 F34 F35 F36 C38 F35 F39 C41 F42) Qv rfl (by kernel_rfl) fun g0 a0 w0 h0 _=>⟨⟨g0,h0⟩,by simp only [setB,hz1,hz3,hz5,hz7,hz9,hz11,hz13,hz15,hz28,hz30,hz32,hz37,hz40,bS]⟩
 have al43:(Zd nst fun i=>setB (st i))=true:=Qx.2 ha2
 exact gE hsu2 Zk [.bool true] fun w' hw=>⟨by simp only [is9S,hz1,hz3,hz5,hz7,hz9,hz11,hz13,hz15,hz28,hz30,hz32,al43,bS];rfl,hw⟩
end Go.Proofs.YtddedijencleeaaGreatDoor

/- Calls on the way whose outcome is told by any post-condition. No program's code. -/
set_option linter.all false
namespace Go.Proofs.YtddedijencleeaaGreatDoor
open Go.RowKit Go.Lib
namespace RC
section
variable {P:Program} {N:Nat} {W:World} {Q:Exit→Act→World→Prop}
def callOf (n:Nat) (k:List K) (fr:Fr):Option (Nat × RV × List RV × List K):=match opAt k fr with
 | some (o,k')=>(match o.op,o.dst with
   | .call c,some d=>(match c.callee with
     | .value x=>(match ev fr x,evs fr c.args.toList with
       | some fv,some vs=>bif Nat.blt d n then some (d,fv,vs,k') else none
       | _,_=>none)
     | _=>none)
   | _,_=>none)
 | none=>none
theorem call_at {n:Nat} {k k':List K} {fr:Fr} {bs:List Zp} {G:Env} {a:Act} {w:World} {d:Nat} {fv:RV} {vs:List RV} {f:FuncId} {first caps:Array Value} {Post:Ending→World→Prop} (lv:Fr)
 (hst:St N W n fr bs G a w) (h:callOf n k fr=some (d,fv,vs,k')) (hf:fv.conc G= .func (.func f) first caps) (hent:Ent P f) (hlv:(lv.map (·.1)).map (get fr)=lv.map (fun x=>some x.2))
 (hc:Calls P f (first++(Qu G vs).toArray++caps) w Post)
 (hk: ∀ e w',Post e w'→ ∃ r,e= .returned r∧ ∀ a',EV n ((d,r)::Jk G lv) a'→ZZ P Q k' .normal a' w'):ZZ P Q k .normal a w:=by
 unfold callOf at h
 split at h
 case h_2=>cases h
 rename_i o k1 ho
 split at h
 case h_2=>cases h
 rename_i c d1 hop hd
 split at h
 case h_2=>cases h
 rename_i x hx
 split at h
 case h_2=>cases h
 rename_i KP as1 hev hes
 cases hdn:Nat.blt d1 n with
 | false=>rw [hdn,cond_false] at h;cases h
 | true=>
  rw [hdn,cond_true] at h
  cases h
  rw [Nat.blt_eq] at hdn
  refine at_op hst ho fun Q'=> ?_
  obtain ⟨fn,cd,k1,k2,k3⟩:=hent
  obtain ⟨dst,op,ty,pos,aft,gd⟩:=o
  simp only at hop hd
  subst hop hd
  have hargs:c.args.map a.eval=(Qu G vs).toArray:=by
   apply Array.ext'
   simpa using evs_ok hst.env hes
  have hfn:a.eval x= .func (.func f) first caps:=(hst.env.eval hev).trans hf
  have hrun:(execOp a.eval ⟨some d,.call c,ty,pos,aft,gd⟩).run P w= .ok (.enter f (first++(Qu G vs).toArray++caps)) w:=by
   simp only [execOp,resolve,hx,hfn,Deferred.ofValue,pure_bind,invoke,hargs]
   simp only [callFunc,Sem.run_bind,run_program,Result.andThen_ok,k1,k3,k2,Option.isNone_some,Bool.false_eq_true,if_false,Sem.run_pure]
  unfold Oper.wp
  rw [hrun,Oper.upon_enter]
  refine hc.mono ?_
  intro e w' hp
  obtain ⟨r,rfl,hr⟩:=hk e w' hp
  refine hr _ ?_
  have hev2:EV n (Jk G lv) a:=by
   have:=(hst.less hlv).reb.ev
   exact this
  exact hev2.put hdn r
theorem Jm {n:Nat} {k k':List K} {fr:Fr} {bs:List Zp} {G:Env} {a:Act} {w:World} {d:Nat} {fv:RV} {vs:List RV} {f:FuncId} {first caps:List Value} {Post:Ending→World→Prop} (lv:Fr) (xs:List Value)
 (hst:St N W n fr bs G a w) (h:callOf n k fr=some (d,fv,vs,k')) (hf:fv.conc G= .func (.func f) first.toArray caps.toArray) (hent:Ent P f) (hlv:(lv.map (·.1)).map (get fr)=lv.map (fun x=>some x.2)) (hx:first++Qu G vs++caps=xs)
 (hc:Calls P f xs.toArray w Post)
 (hk: ∀ e w',Post e w'→ ∃ r,e= .returned r∧ ∀ a',EV n ((d,r)::Jk G lv) a'→ZZ P Q k' .normal a' w'):ZZ P Q k .normal a w:=by
 refine call_at lv hst h hf hent hlv ?_ hk
 have:first.toArray++(Qu G vs).toArray++caps.toArray=xs.toArray:=by rw [← hx];simp
 rw [this];exact hc
theorem conc_v {G:Env}: ∀ xs:List Value,Qu G (xs.map .v)=xs
 | []=>rfl
 | x::xs=>by rw [List.map_cons,Qu,conc_v xs];rfl
theorem cV {n:Nat} {k:List K} {fr:Fr} {bs:List Zp} {G:Env} {a:Act} {w:World} (d:Nat) (f:FuncId) (k':List K) (lv:Fr) (xs:List Value) {Post:Ending→World→Prop} {fn:Func}
 (hst:St N W n fr bs G a w) (hf:P.funcs[f]?=some fn) (hc:Calls P f xs.toArray w Post)
 (hk: ∀ e w',Post e w'→ ∃ r,e= .returned r∧ ∀ a',EV n ((d,r)::Jk G lv) a'→ZZ P Q k' .normal a' w')
 (h : callOf n k fr = some (d, .v (.func (.func f) #[] #[]), xs.map .v, k') := by kernel_rfl) (hb : fn.body.isSome = true := by kernel_rfl) (hn : (fn.name == "runtime.NumGoroutine") = false := by kernel_rfl) (hlv : (lv.map (·.1)).map (get fr) = lv.map (fun x => some x.2) := by exact rfl) : ZZ P Q k .normal a w := by
 obtain ⟨cd,hb⟩:=Option.isSome_iff_exists.1 hb
 exact Jm (first:=[]) (caps:=[]) lv xs hst h rfl ⟨fn,cd,hf,hb,hn⟩ hlv (by rw [conc_v];simp) hc hk
end
end RC
end Go.Proofs.YtddedijencleeaaGreatDoor
