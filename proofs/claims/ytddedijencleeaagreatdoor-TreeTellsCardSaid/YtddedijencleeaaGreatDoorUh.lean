/- tree.nothing, wrong, check. -/
import Derived.Test.YtddedijencleeaaGreatDoorSm
import Derived.Test.YtddedijencleeaaGreatDoorMSq
import Derived.Test.YtddedijencleeaaGreatDoorUg
import Derived.Test.YtddedijencleeaaGreatDoorMWl
import Derived.Test.YtddedijencleeaaGreatDoorMErrAs
set_option linter.all false
namespace Go.Proofs.YtddedijencleeaaGreatDoor
set_option maxRecDepth 100000
set_option maxHeartbeats 8000000
open Tryz
noncomputable section
open Go.RowKit Go.Lib RC
noncomputable abbrev c9nothing:Code:=Qt f102
def QO (tnm:ByteArray) (tnc tnk nkc ncl nrw nst nit nfr ngr nor:Nat) (nm ix:ByteArray) (un di wz hz:Bool) (li:Int):Bool:=
 QB tnm ⟨#[]⟩&&((tnc+tnk+nkc+ncl+nrw+nst+nit+nfr+ngr+nor:Nat):Int)==0&&QB nm ⟨#[]⟩&&QB ix ⟨#[]⟩&& !un&& !di&&wz&&hz&&li==0
theorem KO (kind:Int) (tnm:ByteArray) (tA tB A1 A2 A3 A4 A5 A6 A7 A8 wA hA:Option Addr) (tnc tc tnk td nkc c1 ncl c2 nrw c3 nst c4 nit c5 nfr c6 ngr c7 nor c8 wn wc hn hc:Nat) (nm ix:ByteArray) (un di:Bool) (wk wo wvk wvn:Int) (wvt wtb wnm:ByteArray) (wpl wty hk ho hvk hvn:Int) (hvt htb hnm:ByteArray) (hpl hty li:Int) (W:World) (hs:tnc+tnk+nkc+ncl+nrw+nst+nit+nfr+ngr+nor≤9223372036854775807) :
 Calls prog 102 #[.agg (Zs kind tnm tA tnc tc tB tnk td A1 nkc c1 nm ix un A2 ncl c2 A3 nrw c3 A4 nst c4 wk wo wvk wvn wvt wtb wnm wA wn wc wpl wty di A5 nit c5 A6 nfr c6 A7 ngr c7 hk ho hvk hvn hvt htb hnm hA hn hc hpl hty A8 nor c8 li).toArray] W fun r W'=>r= .returned (.bool (QO tnm tnc tnk nkc ncl nrw nst nit nfr ngr nor nm ix un di (ZA wk wo wvk wvn wvt wtb wnm wn wpl wty) (ZA hk ho hvk hvn hvt htb hnm hn hpl hty) li))∧Below W.heap.size W W':=by
 refine Qj (args:=[.agg (Zs kind tnm tA tnc tc tB tnk td A1 nkc c1 nm ix un A2 ncl c2 A3 nrw c3 A4 nst c4 wk wo wvk wvn wvt wtb wnm wA wn wc wpl wty di A5 nit c5 A6 nfr c6 A7 ngr c7 hk ho hvk hvn hvt htb hnm hA hn hc hpl hty A8 nor c8 li).toArray]) (c:=c9nothing) func102 rfl (by kernel_rfl) fun a0 hst=> ?_
 have F1:=sd W (Qb.addN (t:=3) (a:=tnc) (b:=tnk) (by omega))
 have F2:=sd W (Qb.addN (t:=3) (a:=tnc+tnk) (b:=nkc) (by omega))
 have F3:=sd W (Qb.addN (t:=3) (a:=tnc+tnk+nkc) (b:=ncl) (by omega))
 have F4:=sd W (Qb.addN (t:=3) (a:=tnc+tnk+nkc+ncl) (b:=nrw) (by omega))
 have F5:=sd W (Qb.addN (t:=3) (a:=tnc+tnk+nkc+ncl+nrw) (b:=nst) (by omega))
 have F6:=sd W (Qb.addN (t:=3) (a:=tnc+tnk+nkc+ncl+nrw+nst) (b:=nit) (by omega))
 have F7:=sd W (Qb.addN (t:=3) (a:=tnc+tnk+nkc+ncl+nrw+nst+nit) (b:=nfr) (by omega))
 have F8:=sd W (Qb.addN (t:=3) (a:=tnc+tnk+nkc+ncl+nrw+nst+nit+nfr) (b:=ngr) (by omega))
 have F9:=sd W (Qb.addN (t:=3) (a:=tnc+tnk+nkc+ncl+nrw+nst+nit+nfr+ngr) (b:=nor) (by omega))
 obtain ⟨z10,hz10⟩: ∃ z,(QB tnm ⟨#[]⟩)=z:=⟨_,rfl⟩
 have F11:=sd W (Qb.strEq (t:=9) (a:=tnm) (b:=⟨#[]⟩) (by rw [← QB,hz10]))
 cases z10
 · exact gE hst (Kr F1 F2 F3 F4 F5 F6 F7 F8 F9 F11) [.bool false] fun w' hw=>⟨by simp only [QO,hz10,bS];rfl,hw⟩
 obtain ⟨z12,hz12⟩: ∃ z,(((tnc+tnk+nkc+ncl+nrw+nst+nit+nfr+ngr+nor:Nat):Int)==0)=z:=⟨_,rfl⟩
 have F13:=QN W hz12
 cases z12
 · exact gE hst (JD F1 F2 F3 F4 F5 F6 F7 F8 F9 F11 F13) [.bool false] fun w' hw=>⟨by simp only [QO,hz10,hz12,bS];rfl,hw⟩
 obtain ⟨z14,hz14⟩: ∃ z,(QB nm ⟨#[]⟩)=z:=⟨_,rfl⟩
 have F15:=sd W (Qb.strEq (t:=9) (a:=nm) (b:=⟨#[]⟩) (by rw [← QB,hz14]))
 cases z14
 · exact gE hst (kE12 F1 F2 F3 F4 F5 F6 F7 F8 F9 F11 F13 F15) [.bool false] fun w' hw=>⟨by simp only [QO,hz10,hz12,hz14,bS];rfl,hw⟩
 obtain ⟨z16,hz16⟩: ∃ z,(QB ix ⟨#[]⟩)=z:=⟨_,rfl⟩
 have F17:=sd W (Qb.strEq (t:=9) (a:=ix) (b:=⟨#[]⟩) (by rw [← QB,hz16]))
 cases z16
 · exact QH54
 cases un
 · cases di
   · obtain ⟨z18,hz18⟩: ∃ z,(ZA wk wo wvk wvn wvt wtb wnm wn wpl wty)=z:=⟨_,rfl⟩
     have C19:Sd W (.call 161 [eV wk wo wvk wvn wvt wtb wnm wA wn wc wpl wty] (.bool z18)):=by rw [← hz18];exact Qb.of func161 rfl Qd (fun w hw=>zero_ok wk wo wvk wvn wvt wtb wnm wA wn wc wpl wty w)
     cases z18
     · exact gE hst (kE14 F1 F2 F3 F4 F5 F6 F7 F8 F9 F11 F13 F15 F17 C19) [.bool false] fun w' hw=>⟨by simp only [QO,hz10,hz12,hz14,hz16,hz18,bS];rfl,hw⟩
     obtain ⟨z20,hz20⟩: ∃ z,(ZA hk ho hvk hvn hvt htb hnm hn hpl hty)=z:=⟨_,rfl⟩
     have C21:Sd W (.call 161 [eV hk ho hvk hvn hvt htb hnm hA hn hc hpl hty] (.bool z20)):=by rw [← hz20];exact Qb.of func161 rfl Qd (fun w hw=>zero_ok hk ho hvk hvn hvt htb hnm hA hn hc hpl hty w)
     cases z20
     · exact gE hst (kE15 F1 F2 F3 F4 F5 F6 F7 F8 F9 F11 F13 F15 F17 C19 C21) [.bool false] fun w' hw=>⟨by simp only [QO,hz10,hz12,hz14,hz16,hz18,hz20,bS];rfl,hw⟩
     obtain ⟨z22,hz22⟩: ∃ z,(li==0)=z:=⟨_,rfl⟩
     have F23:=sd W (Qb.intEq (t:=2) (k:=.i64) (a:=li) (b:=0) hz22)
     exact gE hst (Q7 F1 F2 F3 F4 F5 F6 F7 F8 F9 F11 F13 F15 F17 C19 C21 F23) [.bool z22] fun w' hw=>⟨by simp only [QO,hz10,hz12,hz14,hz16,hz18,hz20,hz22,bS];rfl,hw⟩
   exact QH54
 exact QH54
theorem Zh (s:ByteArray) (W:World):Calls prog 34 #[.string s] W fun r W'=> ∃ v,r= .returned v∧ErrV W' 1 v 20∧Below W.heap.size W W':=by
 have hb:Below W.heap.size W (W.alloc (.cells #[.string s,.iface 93 (.int .i64 20)] 158)):=(Below.refl _ _).alloc Qo _
 have hw:(W.alloc (.cells #[.string s,.iface 93 (.int .i64 20)] 158)).heap[W.heap.size]?=some (.cells #[.string s,.iface 93 (.int .i64 20)] 158 (0,0)):=by
  show (W.heap.push _)[W.heap.size]?=_
  simp
 go_enter func34,ntmps34
 go_wp2
 go_ret
 exact ⟨_,rfl,.inr ⟨_,⟨_,_,_,hw,rfl⟩,rfl⟩,hb⟩
noncomputable abbrev QL:Code:=Qt f25
noncomputable def Zw (s:S):Bool:=
 if s.kind==1 then ZU s&&QO ⟨#[]⟩ 0 0 0 s.cl.n s.nrw s.nst s.nit s.nfr s.gr.n s.nor s.nm s.ix s.un s.di (QE s.wh) (QE s.hv) s.li
 else if s.kind==2 then (QD s.ix&&QD s.nm&&Zn s.cl.n fun i=>QD (s.cl.f i))&&QO s.tab.nm s.tab.nc s.tab.nk s.nkc 0 s.nrw s.nst s.nit s.nfr s.gr.n s.nor ⟨#[]⟩ ⟨#[]⟩ false s.di (QE s.wh) (QE s.hv) s.li
 else if s.kind==3 then QD s.nm&&QO s.tab.nm s.tab.nc s.tab.nk s.nkc s.cl.n s.nrw s.nst s.nit s.nfr s.gr.n s.nor ⟨#[]⟩ s.ix s.un s.di (QE s.wh) (QE s.hv) s.li
 else if s.kind==4 then QD s.ix&&QO s.tab.nm s.tab.nc s.tab.nk s.nkc s.cl.n s.nrw s.nst s.nit s.nfr s.gr.n s.nor s.nm ⟨#[]⟩ s.un s.di (QE s.wh) (QE s.hv) s.li
 else if s.kind==5 then (QD s.nm&&((s.cl.n:Int)==0||Zn s.cl.n fun i=>QD (s.cl.f i))&&Zn s.nrw fun i=>Zn (s.rw i).n fun j=>QH ((s.rw i).f j))&&QO s.tab.nm s.tab.nc s.tab.nk s.nkc 0 0 s.nst s.nit s.nfr s.gr.n s.nor ⟨#[]⟩ s.ix s.un s.di (QE s.wh) (QE s.hv) s.li
 else if s.kind==6 then (Zn s.nst fun i=>setT (s.st i))&&QD s.nm&&Zx s.wh&&QO s.tab.nm s.tab.nc s.tab.nk s.nkc s.cl.n s.nrw 0 s.nit s.nfr s.gr.n s.nor ⟨#[]⟩ s.ix s.un s.di (ZA 0 0 0 0 ⟨#[]⟩ ⟨#[]⟩ ⟨#[]⟩ 0 0 0) (QE s.hv) s.li
 else if s.kind==7 then QD s.nm&&Zx s.wh&&QO s.tab.nm s.tab.nc s.tab.nk s.nkc s.cl.n s.nrw s.nst s.nit s.nfr s.gr.n s.nor ⟨#[]⟩ s.ix s.un s.di (ZA 0 0 0 0 ⟨#[]⟩ ⟨#[]⟩ ⟨#[]⟩ 0 0 0) (QE s.hv) s.li
 else if s.kind==8 then Q0 s&&QO s.tab.nm s.tab.nc s.tab.nk s.nkc s.cl.n s.nrw s.nst 0 0 0 0 s.nm s.ix s.un false (ZA 0 0 0 0 ⟨#[]⟩ ⟨#[]⟩ ⟨#[]⟩ 0 0 0) (ZA 0 0 0 0 ⟨#[]⟩ ⟨#[]⟩ ⟨#[]⟩ 0 0 0) 0
 else false
abbrev qm1(kind wk wo wvk wvn wpl wty hk ho hvk hvn hpl hty li:Int)(tnm nm ix wvt wtb wnm hvt htb hnm:ByteArray)(tnc tnk nkc ncl nrw nst wn nit nfr ngr hn nor:Nat)(tcols:Nat→Co)(tkeys:Nat→Ke)(kc:Nat→Na)(un di:Bool)(cl:Nat→ByteArray)(rw_:Nat→Es)(st:Nat→Go.Proofs.YtddedijencleeaaGreatDoor.St)(wargs gr hargs:Nat→E)(it:Nat→It)(fr:Nat→So)(od:Nat→Od):S:=⟨kind,⟨tnm,tnc,tcols,tnk,tkeys⟩,nkc,kc,nm,ix,un,⟨ncl,cl⟩,nrw,rw_,nst,st,(.mk wk wo wvk wvn wvt wtb wnm wn wargs wpl wty),di,nit,it,nfr,fr,⟨ngr,gr⟩,(.mk hk ho hvk hvn hvt htb hnm hn hargs hpl hty),nor,od,li⟩
abbrev qm2(kind wk wo wvk wvn wpl wty hk ho hvk hvn hpl hty li:Int)(tnm nm ix wvt wtb wnm hvt htb hnm:ByteArray)(tA tB A1 A2 A3 A4 wA A5 A6 A7 hA A8:Option Addr)(tnc tc tnk td nkc c1 ncl c2 nrw c3 nst c4 wn wc nit c5 nfr c6 ngr c7 hn hc nor c8:Nat)(un di:Bool):List Zp:=[bx (Zs kind tnm tA tnc tc tB tnk td A1 nkc c1 nm ix un A2 ncl c2 A3 nrw c3 A4 nst c4 wk wo wvk wvn wvt wtb wnm wA wn wc wpl wty di A5 nit c5 A6 nfr c6 A7 ngr c7 hk ho hvk hvn hvt htb hnm hA hn hc hpl hty A8 nor c8 li),bx (Zs kind tnm tA tnc tc tB tnk td A1 nkc c1 ⟨#[]⟩ ix un none 0 0 none 0 0 A4 nst c4 wk wo wvk wvn wvt wtb wnm wA wn wc wpl wty di A5 nit c5 A6 nfr c6 A7 ngr c7 hk ho hvk hvn hvt htb hnm hA hn hc hpl hty A8 nor c8 li)]
abbrev qm3:List Value:=[.string ⟨#[99,108,97,117,115,101]⟩]
abbrev qm4(kind wk wo wvk wvn wpl wty hk ho hvk hvn hpl hty li:Int)(tnm nm ix wvt wtb wnm hvt htb hnm:ByteArray)(tA tB A1 A2 A3 A4 wA A5 A6 A7 hA A8:Option Addr)(tnc tc tnk td nkc c1 ncl c2 nrw c3 nst c4 wn wc nit c5 nfr c6 ngr c7 hn hc nor c8:Nat)(un di:Bool):List Zp:=[bx (Zs kind tnm tA tnc tc tB tnk td A1 nkc c1 nm ix un A2 ncl c2 A3 nrw c3 A4 nst c4 wk wo wvk wvn wvt wtb wnm wA wn wc wpl wty di A5 nit c5 A6 nfr c6 A7 ngr c7 hk ho hvk hvn hvt htb hnm hA hn hc hpl hty A8 nor c8 li),bx (Zs kind tnm tA tnc tc tB tnk td A1 nkc c1 ⟨#[]⟩ ⟨#[]⟩ false none 0 0 A3 nrw c3 A4 nst c4 wk wo wvk wvn wvt wtb wnm wA wn wc wpl wty di A5 nit c5 A6 nfr c6 A7 ngr c7 hk ho hvk hvn hvt htb hnm hA hn hc hpl hty A8 nor c8 li)]
abbrev qm5:List Value:=[.string ⟨#[114,101,115,116]⟩]
theorem check_ok (s:S) (cs:List Value) (W:World) (h:Ks W s cs) :
 Calls prog 25 #[.agg cs.toArray] W fun r W'=> ∃ v,r= .returned v∧(if Zw s=true then v= .nilIface else ErrV W' 1 v 20)∧Below W.heap.size W W':=by
 have h0:=h
 obtain ⟨kind,⟨tnm,tnc,tcols,tnk,tkeys⟩,nkc,kc,nm,ix,un,⟨ncl,cl⟩,nrw,rw_,nst,st,wh,di,nit,it,nfr,fr,⟨ngr,gr⟩,hv,nor,od,li⟩:=s
 obtain ⟨ta,vkc,vcl,vrw,vst,whc,vit,vfr,vgr,hvc,vor,rfl,ia⟩:=h
 obtain ⟨tA,tc,tB,td,rfl,t1,t2⟩:=TaIn.form' ia.tab
 obtain ⟨A1,c1,rfl⟩:=ia.kc.form
 obtain ⟨A2,c2,rfl⟩:=ia.cl.form
 obtain ⟨A3,c3,rfl⟩:=ia.rw.form
 obtain ⟨A4,c4,rfl⟩:=ia.st.form
 obtain ⟨A5,c5,rfl⟩:=ia.it.form
 obtain ⟨A6,c6,rfl⟩:=ia.fr.form
 obtain ⟨A7,c7,rfl⟩:=ia.gr.form
 obtain ⟨A8,c8,rfl⟩:=ia.od.form
 rcases wh with ⟨wk,wo,wvk,wvn,wvt,wtb,wnm,wn,wargs,wpl,wty⟩ | _
 rotate_left
 · exact False.elim ia.wh
 rcases hv with ⟨hk,ho,hvk,hvn,hvt,htb,hnm,hn,hargs,hpl,hty⟩ | _
 rotate_left
 · exact False.elim ia.hv
 have iwh:=ia.wh
 have ihv:=ia.hv
 obtain ⟨_,wv,rfl,hwv⟩:=ia.wh
 obtain ⟨wA,wc,rfl⟩:=QR.form hwv
 obtain ⟨_,hvv,rfl,hhv⟩:=ia.hv
 obtain ⟨hA,hc,rfl⟩:=QR.form hhv
 let x9x:List Value:=[.agg (Zs kind tnm tA tnc tc tB tnk td A1 nkc c1 ⟨#[]⟩ ix un none 0 0 none 0 0 A4 nst c4 wk wo wvk wvn wvt wtb wnm wA wn wc wpl wty di A5 nit c5 A6 nfr c6 A7 ngr c7 hk ho hvk hvn hvt htb hnm hA hn hc hpl hty A8 nor c8 li).toArray]
 let x4x:List Value:=[.agg (Zs kind tnm tA tnc tc tB tnk td A1 nkc c1 nm ix un A2 ncl c2 A3 nrw c3 A4 nst c4 wk wo wvk wvn wvt wtb wnm wA wn wc wpl wty di A5 nit c5 A6 nfr c6 A7 ngr c7 hk ho hvk hvn hvt htb hnm hA hn hc hpl hty A8 nor c8 li).toArray]
 let x1x:List Value:=(Zs kind tnm tA tnc tc tB tnk td A1 nkc c1 nm ix un A2 ncl c2 A3 nrw c3 A4 nst c4 wk wo wvk wvn wvt wtb wnm wA wn wc wpl wty di A5 nit c5 A6 nfr c6 A7 ngr c7 hk ho hvk hvn hvt htb hnm hA hn hc hpl hty A8 nor c8 li)
 let x8x:List Zp:=[bx x1x,bx (Zs kind tnm tA tnc tc tB tnk td A1 nkc c1 nm ix un A2 ncl c2 A3 nrw c3 A4 nst c4 0 0 0 0 ⟨#[]⟩ ⟨#[]⟩ ⟨#[]⟩ none 0 0 0 0 false none 0 0 none 0 0 none 0 0 0 0 0 0 ⟨#[]⟩ ⟨#[]⟩ ⟨#[]⟩ none 0 0 0 0 none 0 0 0)]
 let x7x:List Zp:=[bx x1x,bx (Zs kind tnm tA tnc tc tB tnk td A1 nkc c1 nm ⟨#[]⟩ un A2 ncl c2 A3 nrw c3 A4 nst c4 wk wo wvk wvn wvt wtb wnm wA wn wc wpl wty di A5 nit c5 A6 nfr c6 A7 ngr c7 hk ho hvk hvn hvt htb hnm hA hn hc hpl hty A8 nor c8 li)]
 let x6x:List Zp:=[bx x1x,bx (Zs kind ⟨#[]⟩ none 0 0 none 0 0 none 0 0 nm ix un A2 ncl c2 A3 nrw c3 A4 nst c4 wk wo wvk wvn wvt wtb wnm wA wn wc wpl wty di A5 nit c5 A6 nfr c6 A7 ngr c7 hk ho hvk hvn hvt htb hnm hA hn hc hpl hty A8 nor c8 li)]
 let x5x:List Zp:=[bx x1x,bx (Zs kind tnm tA tnc tc tB tnk td A1 nkc c1 ⟨#[]⟩ ix un A2 ncl c2 A3 nrw c3 A4 nst c4 wk wo wvk wvn wvt wtb wnm wA wn wc wpl wty di A5 nit c5 A6 nfr c6 A7 ngr c7 hk ho hvk hvn hvt htb hnm hA hn hc hpl hty A8 nor c8 li)]
 let x3x:List Zp:=[bx x1x,bx (Zs kind tnm tA tnc tc tB tnk td A1 nkc c1 ⟨#[]⟩ ix un A2 ncl c2 A3 nrw c3 none 0 0 0 0 0 0 ⟨#[]⟩ ⟨#[]⟩ ⟨#[]⟩ none 0 0 0 0 di A5 nit c5 A6 nfr c6 A7 ngr c7 hk ho hvk hvn hvt htb hnm hA hn hc hpl hty A8 nor c8 li)]
 let x2x:List Zp:=[bx x1x,bx (Zs kind tnm tA tnc tc tB tnk td A1 nkc c1 ⟨#[]⟩ ix un A2 ncl c2 A3 nrw c3 A4 nst c4 0 0 0 0 ⟨#[]⟩ ⟨#[]⟩ ⟨#[]⟩ none 0 0 0 0 di A5 nit c5 A6 nfr c6 A7 ngr c7 hk ho hvk hvn hvt htb hnm hA hn hc hpl hty A8 nor c8 li)]
 have hcs:sCells (qm1 kind wk wo wvk wvn wpl wty hk ho hvk hvn hpl hty li tnm nm ix wvt wtb wnm hvt htb hnm tnc tnk nkc ncl nrw nst wn nit nfr ngr hn nor tcols tkeys kc un di cl rw_ st wargs gr hargs it fr od) [.string tnm,.slice tA tnc tc,.slice tB tnk td] (.slice A1 nkc c1) (.slice A2 ncl c2) (.slice A3 nrw c3) (.slice A4 nst c4) (ZG wk wo wvk wvn wvt wtb wnm (.slice wA wn wc) wpl wty) (.slice A5 nit c5) (.slice A6 nfr c6) (.slice A7 ngr c7) (ZG hk ho hvk hvn hvt htb hnm (.slice hA hn hc) hpl hty) (.slice A8 nor c8)=Zs kind tnm tA tnc tc tB tnk td A1 nkc c1 nm ix un A2 ncl c2 A3 nrw c3 A4 nst c4 wk wo wvk wvn wvt wtb wnm wA wn wc wpl wty di A5 nit c5 A6 nfr c6 A7 ngr c7 hk ho hvk hvn hvt htb hnm hA hn hc hpl hty A8 nor c8 li:=rfl
 rw [hcs] at h0 ⊢
 have iwf:=ia.wf
 have itn:=ia.tab.1
 have bnd:tnc+tnk+nkc+ncl+nrw+nst+nit+nfr+ngr+nor≤140737488355328*10:=by have b1:tnc*32≤140737488355328:=t1.small;have b2:tnk*48≤140737488355328:=t2.small;have b3:nkc*24≤140737488355328:=ia.kc.small;have b4:ncl*16≤140737488355328:=QR.small ia.cl;have b5:nrw*24≤140737488355328:=ia.rw.small;have b6:nst*136≤140737488355328:=ia.st.small;have b7:nit*144≤140737488355328:=ia.it.small;have b8:nfr*160≤140737488355328:=ia.fr.small;have b9:ngr*120≤140737488355328:=QR.small ia.gr;have b10:nor*128≤140737488355328:=ia.od.small;omega
 refine Qj (args:=x4x) (c:=QL) func25 rfl (by kernel_rfl) fun a0 hst=> ?_
 obtain ⟨z1,hz1⟩: ∃ z,(kind==1)=z:=⟨_,rfl⟩
 have F2:=QN W hz1
 cases z1
 rotate_left
 · have he72:=eq_of_beq hz1
   obtain ⟨z73,hz73⟩: ∃ z,(ZU (qm1 kind wk wo wvk wvn wpl wty hk ho hvk hvn hpl hty li tnm nm ix wvt wtb wnm hvt htb hnm tnc tnk nkc ncl nrw nst wn nit nfr ngr hn nor tcols tkeys kc un di cl rw_ st wargs gr hargs it fr od))=z:=⟨_,rfl⟩
   have C74:Sd W (.call 93 x4x (.bool z73)):=by rw [← hz73];exact Qb.of func93 rfl Qd (fun w hw=>created_ok _ _ w QgdQ)
   cases z73
   · refine gO QL (.op 33 0) [] x6x hst (Km F2 C74) fun G1 a1 w1 hst1 _=> ?_
     refine cV 108 34 (Qc QL (.op 33 1)) [] qm3 hst1 func34 (Zh ⟨#[99,108,97,117,115,101]⟩ w1) fun e w2 hp=> ?_
     obtain ⟨v,rfl,hE,hb⟩:=hp
     refine ⟨v,rfl,fun a2 he=> ?_⟩
     exact gE (EV.st he w2) Zk [v] fun w3 hw3=>⟨v,rfl,by
      have:Zw (qm1 kind wk wo wvk wvn wpl wty hk ho hvk hvn hpl hty li tnm nm ix wvt wtb wnm hvt htb hnm tnc tnk nkc ncl nrw nst wn nit nfr ngr hn nor tcols tkeys kc un di cl rw_ st wargs gr hargs it fr od)=false:=by simp only [Zw,QE,hz1,hz73,bS]
      rw [this];exact hE.below hw3,Below.andThen Qkco hw3⟩
   obtain ⟨z75,hz75⟩: ∃ z,(QO ⟨#[]⟩ 0 0 0 ncl nrw nst nit nfr ngr nor nm ix un di (ZA wk wo wvk wvn wvt wtb wnm wn wpl wty) (ZA hk ho hvk hvn hvt htb hnm hn hpl hty) li)=z:=⟨_,rfl⟩
   have C76:Sd W (.call 102 [.agg (Zs kind ⟨#[]⟩ none 0 0 none 0 0 none 0 0 nm ix un A2 ncl c2 A3 nrw c3 A4 nst c4 wk wo wvk wvn wvt wtb wnm wA wn wc wpl wty di A5 nit c5 A6 nfr c6 A7 ngr c7 hk ho hvk hvn hvt htb hnm hA hn hc hpl hty A8 nor c8 li).toArray] (.bool z75)):=by rw [← hz75];exact Qb.of func102 rfl Qd (fun w hw=>KO kind ⟨#[]⟩ none none none A2 A3 A4 A5 A6 A7 A8 wA hA 0 0 0 0 0 0 ncl c2 nrw c3 nst c4 nit c5 nfr c6 ngr c7 nor c8 wn wc hn hc nm ix un di wk wo wvk wvn wvt wtb wnm wpl wty hk ho hvk hvn hvt htb hnm hpl hty li w (by omega))
   cases z75
   · refine gO QL (.op 35 0) [] x6x hst (kE3 F2 C74 C76) fun G1 a1 w1 hst1 _=> ?_
     refine cV 112 34 (Qc QL (.op 35 1)) [] qm5 hst1 func34 (Zh ⟨#[114,101,115,116]⟩ w1) fun e w2 hp=> ?_
     obtain ⟨v,rfl,hE,hb⟩:=hp
     refine ⟨v,rfl,fun a2 he=> ?_⟩
     exact gE (EV.st he w2) Zk [v] fun w3 hw3=>⟨v,rfl,by
      have:Zw (qm1 kind wk wo wvk wvn wpl wty hk ho hvk hvn hpl hty li tnm nm ix wvt wtb wnm hvt htb hnm tnc tnk nkc ncl nrw nst wn nit nfr ngr hn nor tcols tkeys kc un di cl rw_ st wargs gr hargs it fr od)=false:=by simp only [Zw,QE,hz1,hz73,hz75,bS]
      rw [this];exact hE.below hw3,Below.andThen Qkco hw3⟩
   exact gE hst (kE3 F2 C74 C76) [.nilIface] fun w' hw=>⟨_,rfl,by
    have:Zw (qm1 kind wk wo wvk wvn wpl wty hk ho hvk hvn hpl hty li tnm nm ix wvt wtb wnm hvt htb hnm tnc tnk nkc ncl nrw nst wn nit nfr ngr hn nor tcols tkeys kc un di cl rw_ st wargs gr hargs it fr od)=true:=by simp only [Zw,QE,hz1,hz73,hz75,bS]
    rw [this];rfl,hw⟩
 obtain ⟨z3,hz3⟩: ∃ z,(kind==2)=z:=⟨_,rfl⟩
 have F4:=QN W hz3
 cases z3
 rotate_left
 · have he63:=eq_of_beq hz3
   obtain ⟨z64,hz64⟩: ∃ z,(QD ix)=z:=⟨_,rfl⟩
   have C65:Sd W (.call 44 [.string ix] (.bool z64)):=by rw [← hz64];exact Qb.of func44 rfl Qd (fun w hw=>Z4 ix iwf.ix w)
   cases z64
   · refine gO QL (.op 33 0) [] (qm4 kind wk wo wvk wvn wpl wty hk ho hvk hvn hpl hty li tnm nm ix wvt wtb wnm hvt htb hnm tA tB A1 A2 A3 A4 wA A5 A6 A7 hA A8 tnc tc tnk td nkc c1 ncl c2 nrw c3 nst c4 wn wc nit c5 nfr c6 ngr c7 hn hc nor c8 un di) hst (kE3 F2 F4 C65) fun G1 a1 w1 hst1 _=> ?_
     refine cV 108 34 (Qc QL (.op 33 1)) [] qm3 hst1 func34 (Zh ⟨#[99,108,97,117,115,101]⟩ w1) fun e w2 hp=> ?_
     obtain ⟨v,rfl,hE,hb⟩:=hp
     refine ⟨v,rfl,fun a2 he=> ?_⟩
     exact gE (EV.st he w2) Zk [v] fun w3 hw3=>⟨v,rfl,by
      have:Zw (qm1 kind wk wo wvk wvn wpl wty hk ho hvk hvn hpl hty li tnm nm ix wvt wtb wnm hvt htb hnm tnc tnk nkc ncl nrw nst wn nit nfr ngr hn nor tcols tkeys kc un di cl rw_ st wargs gr hargs it fr od)=false:=by simp only [Zw,QE,hz1,hz3,hz64,bS]
      rw [this];exact hE.below hw3,Below.andThen Qkco hw3⟩
   obtain ⟨z66,hz66⟩: ∃ z,(QD nm)=z:=⟨_,rfl⟩
   have C67:Sd W (.call 44 [.string nm] (.bool z66)):=by rw [← hz66];exact Qb.of func44 rfl Qd QWkx
   cases z66
   · refine gO QL (.op 33 0) [] (qm4 kind wk wo wvk wvn wpl wty hk ho hvk hvn hpl hty li tnm nm ix wvt wtb wnm hvt htb hnm tA tB A1 A2 A3 A4 wA A5 A6 A7 hA A8 tnc tc tnk td nkc c1 ncl c2 nrw c3 nst c4 wn wc nit c5 nfr c6 ngr c7 hn hc nor c8 un di) hst (Jf F2 F4 C65 C67) fun G1 a1 w1 hst1 _=> ?_
     refine cV 108 34 (Qc QL (.op 33 1)) [] qm3 hst1 func34 (Zh ⟨#[99,108,97,117,115,101]⟩ w1) fun e w2 hp=> ?_
     obtain ⟨v,rfl,hE,hb⟩:=hp
     refine ⟨v,rfl,fun a2 he=> ?_⟩
     exact gE (EV.st he w2) Zk [v] fun w3 hw3=>⟨v,rfl,by
      have:Zw (qm1 kind wk wo wvk wvn wpl wty hk ho hvk hvn hpl hty li tnm nm ix wvt wtb wnm hvt htb hnm tnc tnk nkc ncl nrw nst wn nit nfr ngr hn nor tcols tkeys kc un di cl rw_ st wargs gr hargs it fr od)=false:=by simp only [Zw,QE,hz1,hz3,hz64,hz66,bS]
      rw [this];exact hE.below hw3,Below.andThen Qkco hw3⟩
   obtain ⟨z68,hz68⟩: ∃ z,(Zn ncl fun i=>QD (cl i))=z:=⟨_,rfl⟩
   have C69:Sd W (.call 94 [.slice A2 ncl c2,.func (Fn.func 44) #[] #[]] (.bool z68)):=by rw [← hz68];exact Qb.of func94 rfl Qd QEaf
   cases z68
   · refine gO QL (.op 33 0) [] (qm4 kind wk wo wvk wvn wpl wty hk ho hvk hvn hpl hty li tnm nm ix wvt wtb wnm hvt htb hnm tA tB A1 A2 A3 A4 wA A5 A6 A7 hA A8 tnc tc tnk td nkc c1 ncl c2 nrw c3 nst c4 wn wc nit c5 nfr c6 ngr c7 hn hc nor c8 un di) hst (kE5 F2 F4 C65 C67 C69) fun G1 a1 w1 hst1 _=> ?_
     refine cV 108 34 (Qc QL (.op 33 1)) [] qm3 hst1 func34 (Zh ⟨#[99,108,97,117,115,101]⟩ w1) fun e w2 hp=> ?_
     obtain ⟨v,rfl,hE,hb⟩:=hp
     refine ⟨v,rfl,fun a2 he=> ?_⟩
     exact gE (EV.st he w2) Zk [v] fun w3 hw3=>⟨v,rfl,by
      have:Zw (qm1 kind wk wo wvk wvn wpl wty hk ho hvk hvn hpl hty li tnm nm ix wvt wtb wnm hvt htb hnm tnc tnk nkc ncl nrw nst wn nit nfr ngr hn nor tcols tkeys kc un di cl rw_ st wargs gr hargs it fr od)=false:=by simp only [Zw,QE,hz1,hz3,hz64,hz66,hz68,bS]
      rw [this];exact hE.below hw3,Below.andThen Qkco hw3⟩
   obtain ⟨z70,hz70⟩: ∃ z,(QO tnm tnc tnk nkc 0 nrw nst nit nfr ngr nor ⟨#[]⟩ ⟨#[]⟩ false di (ZA wk wo wvk wvn wvt wtb wnm wn wpl wty) (ZA hk ho hvk hvn hvt htb hnm hn hpl hty) li)=z:=⟨_,rfl⟩
   have C71:Sd W (.call 102 [.agg (Zs kind tnm tA tnc tc tB tnk td A1 nkc c1 ⟨#[]⟩ ⟨#[]⟩ false none 0 0 A3 nrw c3 A4 nst c4 wk wo wvk wvn wvt wtb wnm wA wn wc wpl wty di A5 nit c5 A6 nfr c6 A7 ngr c7 hk ho hvk hvn hvt htb hnm hA hn hc hpl hty A8 nor c8 li).toArray] (.bool z70)):=by rw [← hz70];exact Qb.of func102 rfl Qd (fun w hw=>KO kind tnm tA tB A1 none A3 A4 A5 A6 A7 A8 wA hA tnc tc tnk td nkc c1 0 0 nrw c3 nst c4 nit c5 nfr c6 ngr c7 nor c8 wn wc hn hc ⟨#[]⟩ ⟨#[]⟩ false di wk wo wvk wvn wvt wtb wnm wpl wty hk ho hvk hvn hvt htb hnm hpl hty li w (by omega))
   cases z70
   · refine gO QL (.op 35 0) [] (qm4 kind wk wo wvk wvn wpl wty hk ho hvk hvn hpl hty li tnm nm ix wvt wtb wnm hvt htb hnm tA tB A1 A2 A3 A4 wA A5 A6 A7 hA A8 tnc tc tnk td nkc c1 ncl c2 nrw c3 nst c4 wn wc nit c5 nfr c6 ngr c7 hn hc nor c8 un di) hst (Je F2 F4 C65 C67 C69 C71) fun G1 a1 w1 hst1 _=> ?_
     refine cV 112 34 (Qc QL (.op 35 1)) [] qm5 hst1 func34 (Zh ⟨#[114,101,115,116]⟩ w1) fun e w2 hp=> ?_
     obtain ⟨v,rfl,hE,hb⟩:=hp
     refine ⟨v,rfl,fun a2 he=> ?_⟩
     exact gE (EV.st he w2) Zk [v] fun w3 hw3=>⟨v,rfl,by
      have:Zw (qm1 kind wk wo wvk wvn wpl wty hk ho hvk hvn hpl hty li tnm nm ix wvt wtb wnm hvt htb hnm tnc tnk nkc ncl nrw nst wn nit nfr ngr hn nor tcols tkeys kc un di cl rw_ st wargs gr hargs it fr od)=false:=by simp only [Zw,QE,hz1,hz3,hz64,hz66,hz68,hz70,bS]
      rw [this];exact hE.below hw3,Below.andThen Qkco hw3⟩
   exact gE hst (Je F2 F4 C65 C67 C69 C71) [.nilIface] fun w' hw=>⟨_,rfl,by
    have:Zw (qm1 kind wk wo wvk wvn wpl wty hk ho hvk hvn hpl hty li tnm nm ix wvt wtb wnm hvt htb hnm tnc tnk nkc ncl nrw nst wn nit nfr ngr hn nor tcols tkeys kc un di cl rw_ st wargs gr hargs it fr od)=true:=by simp only [Zw,QE,hz1,hz3,hz64,hz66,hz68,hz70,bS]
    rw [this];rfl,hw⟩
 obtain ⟨z5,hz5⟩: ∃ z,(kind==3)=z:=⟨_,rfl⟩
 have F6:=QN W hz5
 cases z5
 rotate_left
 · have he58:=eq_of_beq hz5
   obtain ⟨z59,hz59⟩: ∃ z,(QD nm)=z:=⟨_,rfl⟩
   have C60:Sd W (.call 44 [.string nm] (.bool z59)):=by rw [← hz59];exact Qb.of func44 rfl Qd QWkx
   cases z59
   · refine gO QL (.op 33 0) [] x5x hst (Jf F2 F4 F6 C60) fun G1 a1 w1 hst1 _=> ?_
     refine cV 108 34 (Qc QL (.op 33 1)) [] qm3 hst1 func34 (Zh ⟨#[99,108,97,117,115,101]⟩ w1) fun e w2 hp=> ?_
     obtain ⟨v,rfl,hE,hb⟩:=hp
     refine ⟨v,rfl,fun a2 he=> ?_⟩
     exact gE (EV.st he w2) Zk [v] fun w3 hw3=>⟨v,rfl,by
      have:Zw (qm1 kind wk wo wvk wvn wpl wty hk ho hvk hvn hpl hty li tnm nm ix wvt wtb wnm hvt htb hnm tnc tnk nkc ncl nrw nst wn nit nfr ngr hn nor tcols tkeys kc un di cl rw_ st wargs gr hargs it fr od)=false:=by simp only [Zw,QE,hz1,hz3,hz5,hz59,bS]
      rw [this];exact hE.below hw3,Below.andThen Qkco hw3⟩
   obtain ⟨z61,hz61⟩: ∃ z,(QO tnm tnc tnk nkc ncl nrw nst nit nfr ngr nor ⟨#[]⟩ ix un di (ZA wk wo wvk wvn wvt wtb wnm wn wpl wty) (ZA hk ho hvk hvn hvt htb hnm hn hpl hty) li)=z:=⟨_,rfl⟩
   have C62:Sd W (.call 102 [.agg (Zs kind tnm tA tnc tc tB tnk td A1 nkc c1 ⟨#[]⟩ ix un A2 ncl c2 A3 nrw c3 A4 nst c4 wk wo wvk wvn wvt wtb wnm wA wn wc wpl wty di A5 nit c5 A6 nfr c6 A7 ngr c7 hk ho hvk hvn hvt htb hnm hA hn hc hpl hty A8 nor c8 li).toArray] (.bool z61)):=by rw [← hz61];exact Qb.of func102 rfl Qd (fun w hw=>KO kind tnm tA tB A1 A2 A3 A4 A5 A6 A7 A8 wA hA tnc tc tnk td nkc c1 ncl c2 nrw c3 nst c4 nit c5 nfr c6 ngr c7 nor c8 wn wc hn hc ⟨#[]⟩ ix un di wk wo wvk wvn wvt wtb wnm wpl wty hk ho hvk hvn hvt htb hnm hpl hty li w (by omega))
   cases z61
   · refine gO QL (.op 35 0) [] x5x hst (kE5 F2 F4 F6 C60 C62) fun G1 a1 w1 hst1 _=> ?_
     refine cV 112 34 (Qc QL (.op 35 1)) [] qm5 hst1 func34 (Zh ⟨#[114,101,115,116]⟩ w1) fun e w2 hp=> ?_
     obtain ⟨v,rfl,hE,hb⟩:=hp
     refine ⟨v,rfl,fun a2 he=> ?_⟩
     exact gE (EV.st he w2) Zk [v] fun w3 hw3=>⟨v,rfl,by
      have:Zw (qm1 kind wk wo wvk wvn wpl wty hk ho hvk hvn hpl hty li tnm nm ix wvt wtb wnm hvt htb hnm tnc tnk nkc ncl nrw nst wn nit nfr ngr hn nor tcols tkeys kc un di cl rw_ st wargs gr hargs it fr od)=false:=by simp only [Zw,QE,hz1,hz3,hz5,hz59,hz61,bS]
      rw [this];exact hE.below hw3,Below.andThen Qkco hw3⟩
   exact gE hst (kE5 F2 F4 F6 C60 C62) [.nilIface] fun w' hw=>⟨_,rfl,by
    have:Zw (qm1 kind wk wo wvk wvn wpl wty hk ho hvk hvn hpl hty li tnm nm ix wvt wtb wnm hvt htb hnm tnc tnk nkc ncl nrw nst wn nit nfr ngr hn nor tcols tkeys kc un di cl rw_ st wargs gr hargs it fr od)=true:=by simp only [Zw,QE,hz1,hz3,hz5,hz59,hz61,bS]
    rw [this];rfl,hw⟩
 obtain ⟨z7,hz7⟩: ∃ z,(kind==4)=z:=⟨_,rfl⟩
 have F8:=QN W hz7
 cases z7
 rotate_left
 · have he53:=eq_of_beq hz7
   obtain ⟨z54,hz54⟩: ∃ z,(QD ix)=z:=⟨_,rfl⟩
   have C55:Sd W (.call 44 [.string ix] (.bool z54)):=by rw [← hz54];exact Qb.of func44 rfl Qd (fun w hw=>Z4 ix iwf.ix w)
   cases z54
   · refine gO QL (.op 33 0) [] x7x hst (kE5 F2 F4 F6 F8 C55) fun G1 a1 w1 hst1 _=> ?_
     refine cV 108 34 (Qc QL (.op 33 1)) [] qm3 hst1 func34 (Zh ⟨#[99,108,97,117,115,101]⟩ w1) fun e w2 hp=> ?_
     obtain ⟨v,rfl,hE,hb⟩:=hp
     refine ⟨v,rfl,fun a2 he=> ?_⟩
     exact gE (EV.st he w2) Zk [v] fun w3 hw3=>⟨v,rfl,by
      have:Zw (qm1 kind wk wo wvk wvn wpl wty hk ho hvk hvn hpl hty li tnm nm ix wvt wtb wnm hvt htb hnm tnc tnk nkc ncl nrw nst wn nit nfr ngr hn nor tcols tkeys kc un di cl rw_ st wargs gr hargs it fr od)=false:=by simp only [Zw,QE,hz1,hz3,hz5,hz7,hz54,bS]
      rw [this];exact hE.below hw3,Below.andThen Qkco hw3⟩
   obtain ⟨z56,hz56⟩: ∃ z,(QO tnm tnc tnk nkc ncl nrw nst nit nfr ngr nor nm ⟨#[]⟩ un di (ZA wk wo wvk wvn wvt wtb wnm wn wpl wty) (ZA hk ho hvk hvn hvt htb hnm hn hpl hty) li)=z:=⟨_,rfl⟩
   have C57:Sd W (.call 102 [.agg (Zs kind tnm tA tnc tc tB tnk td A1 nkc c1 nm ⟨#[]⟩ un A2 ncl c2 A3 nrw c3 A4 nst c4 wk wo wvk wvn wvt wtb wnm wA wn wc wpl wty di A5 nit c5 A6 nfr c6 A7 ngr c7 hk ho hvk hvn hvt htb hnm hA hn hc hpl hty A8 nor c8 li).toArray] (.bool z56)):=by rw [← hz56];exact Qb.of func102 rfl Qd (fun w hw=>KO kind tnm tA tB A1 A2 A3 A4 A5 A6 A7 A8 wA hA tnc tc tnk td nkc c1 ncl c2 nrw c3 nst c4 nit c5 nfr c6 ngr c7 nor c8 wn wc hn hc nm ⟨#[]⟩ un di wk wo wvk wvn wvt wtb wnm wpl wty hk ho hvk hvn hvt htb hnm hpl hty li w (by omega))
   cases z56
   · refine gO QL (.op 35 0) [] x7x hst (Je F2 F4 F6 F8 C55 C57) fun G1 a1 w1 hst1 _=> ?_
     refine cV 112 34 (Qc QL (.op 35 1)) [] qm5 hst1 func34 (Zh ⟨#[114,101,115,116]⟩ w1) fun e w2 hp=> ?_
     obtain ⟨v,rfl,hE,hb⟩:=hp
     refine ⟨v,rfl,fun a2 he=> ?_⟩
     exact gE (EV.st he w2) Zk [v] fun w3 hw3=>⟨v,rfl,by
      have:Zw (qm1 kind wk wo wvk wvn wpl wty hk ho hvk hvn hpl hty li tnm nm ix wvt wtb wnm hvt htb hnm tnc tnk nkc ncl nrw nst wn nit nfr ngr hn nor tcols tkeys kc un di cl rw_ st wargs gr hargs it fr od)=false:=by simp only [Zw,QE,hz1,hz3,hz5,hz7,hz54,hz56,bS]
      rw [this];exact hE.below hw3,Below.andThen Qkco hw3⟩
   exact gE hst (Je F2 F4 F6 F8 C55 C57) [.nilIface] fun w' hw=>⟨_,rfl,by
    have:Zw (qm1 kind wk wo wvk wvn wpl wty hk ho hvk hvn hpl hty li tnm nm ix wvt wtb wnm hvt htb hnm tnc tnk nkc ncl nrw nst wn nit nfr ngr hn nor tcols tkeys kc un di cl rw_ st wargs gr hargs it fr od)=true:=by simp only [Zw,QE,hz1,hz3,hz5,hz7,hz54,hz56,bS]
    rw [this];rfl,hw⟩
 obtain ⟨z9,hz9⟩: ∃ z,(kind==5)=z:=⟨_,rfl⟩
 have F10:=QN W hz9
 cases z9
 rotate_left
 · have he38:=eq_of_beq hz9
   obtain ⟨z39,hz39⟩: ∃ z,(QD nm)=z:=⟨_,rfl⟩
   have C40:Sd W (.call 44 [.string nm] (.bool z39)):=by rw [← hz39];exact Qb.of func44 rfl Qd QWkx
   cases z39
   · refine gO QL (.op 33 0) [] (qm2 kind wk wo wvk wvn wpl wty hk ho hvk hvn hpl hty li tnm nm ix wvt wtb wnm hvt htb hnm tA tB A1 A2 A3 A4 wA A5 A6 A7 hA A8 tnc tc tnk td nkc c1 ncl c2 nrw c3 nst c4 wn wc nit c5 nfr c6 ngr c7 hn hc nor c8 un di) hst (Je F2 F4 F6 F8 F10 C40) fun G1 a1 w1 hst1 _=> ?_
     refine cV 108 34 (Qc QL (.op 33 1)) [] qm3 hst1 func34 (Zh ⟨#[99,108,97,117,115,101]⟩ w1) fun e w2 hp=> ?_
     obtain ⟨v,rfl,hE,hb⟩:=hp
     refine ⟨v,rfl,fun a2 he=> ?_⟩
     exact gE (EV.st he w2) Zk [v] fun w3 hw3=>⟨v,rfl,by
      have:Zw (qm1 kind wk wo wvk wvn wpl wty hk ho hvk hvn hpl hty li tnm nm ix wvt wtb wnm hvt htb hnm tnc tnk nkc ncl nrw nst wn nit nfr ngr hn nor tcols tkeys kc un di cl rw_ st wargs gr hargs it fr od)=false:=by simp only [Zw,QE,hz1,hz3,hz5,hz7,hz9,hz39,bS]
      rw [this];exact hE.below hw3,Below.andThen Qkco hw3⟩
   obtain ⟨z41,hz41⟩: ∃ z,(((ncl:Nat):Int)==0)=z:=⟨_,rfl⟩
   have F42:=QN W hz41
   cases z41
   · obtain ⟨z43,hz43⟩: ∃ z,(Zn ncl fun i=>QD (cl i))=z:=⟨_,rfl⟩
     have C44:Sd W (.call 94 [.slice A2 ncl c2,.func (Fn.func 44) #[] #[]] (.bool z43)):=by rw [← hz43];exact Qb.of func94 rfl Qd QEaf
     cases z43
     · refine gO QL (.op 33 0) [] (qm2 kind wk wo wvk wvn wpl wty hk ho hvk hvn hpl hty li tnm nm ix wvt wtb wnm hvt htb hnm tA tB A1 A2 A3 A4 wA A5 A6 A7 hA A8 tnc tc tnk td nkc c1 ncl c2 nrw c3 nst c4 wn wc nit c5 nfr c6 ngr c7 hn hc nor c8 un di) hst (kE8 F2 F4 F6 F8 F10 C40 F42 C44) fun G1 a1 w1 hst1 _=> ?_
       refine cV 108 34 (Qc QL (.op 33 1)) [] qm3 hst1 func34 (Zh ⟨#[99,108,97,117,115,101]⟩ w1) fun e w2 hp=> ?_
       obtain ⟨v,rfl,hE,hb⟩:=hp
       refine ⟨v,rfl,fun a2 he=> ?_⟩
       exact gE (EV.st he w2) Zk [v] fun w3 hw3=>⟨v,rfl,by
        have:Zw (qm1 kind wk wo wvk wvn wpl wty hk ho hvk hvn hpl hty li tnm nm ix wvt wtb wnm hvt htb hnm tnc tnk nkc ncl nrw nst wn nit nfr ngr hn nor tcols tkeys kc un di cl rw_ st wargs gr hargs it fr od)=false:=by simp only [Zw,QE,hz1,hz3,hz5,hz7,hz9,hz39,hz41,hz43,bS]
        rw [this];exact hE.below hw3,Below.andThen Qkco hw3⟩
     obtain ⟨z45,hz45⟩: ∃ z,(Zn nrw fun i=>Zn (rw_ i).n fun j=>QH ((rw_ i).f j))=z:=⟨_,rfl⟩
     have C46:Sd W (.call 95 [.slice A3 nrw c3,.func (Fn.func 96) #[] #[]] (.bool z45)):=by rw [← hz45];exact Qb.of func95 rfl Qd QEu2
     cases z45
     · refine gO QL (.op 33 0) [] (qm2 kind wk wo wvk wvn wpl wty hk ho hvk hvn hpl hty li tnm nm ix wvt wtb wnm hvt htb hnm tA tB A1 A2 A3 A4 wA A5 A6 A7 hA A8 tnc tc tnk td nkc c1 ncl c2 nrw c3 nst c4 wn wc nit c5 nfr c6 ngr c7 hn hc nor c8 un di) hst (kE9 F2 F4 F6 F8 F10 C40 F42 C44 C46) fun G1 a1 w1 hst1 _=> ?_
       refine cV 108 34 (Qc QL (.op 33 1)) [] qm3 hst1 func34 (Zh ⟨#[99,108,97,117,115,101]⟩ w1) fun e w2 hp=> ?_
       obtain ⟨v,rfl,hE,hb⟩:=hp
       refine ⟨v,rfl,fun a2 he=> ?_⟩
       exact gE (EV.st he w2) Zk [v] fun w3 hw3=>⟨v,rfl,by
        have:Zw (qm1 kind wk wo wvk wvn wpl wty hk ho hvk hvn hpl hty li tnm nm ix wvt wtb wnm hvt htb hnm tnc tnk nkc ncl nrw nst wn nit nfr ngr hn nor tcols tkeys kc un di cl rw_ st wargs gr hargs it fr od)=false:=by simp only [Zw,QE,hz1,hz3,hz5,hz7,hz9,hz39,hz41,hz43,hz45,bS]
        rw [this];exact hE.below hw3,Below.andThen Qkco hw3⟩
     obtain ⟨z47,hz47⟩: ∃ z,(QO tnm tnc tnk nkc 0 0 nst nit nfr ngr nor ⟨#[]⟩ ix un di (ZA wk wo wvk wvn wvt wtb wnm wn wpl wty) (ZA hk ho hvk hvn hvt htb hnm hn hpl hty) li)=z:=⟨_,rfl⟩
     have C48:Sd W (.call 102 x9x (.bool z47)):=by rw [← hz47];exact Qb.of func102 rfl Qd QQhL
     cases z47
     · refine gO QL (.op 35 0) [] (qm2 kind wk wo wvk wvn wpl wty hk ho hvk hvn hpl hty li tnm nm ix wvt wtb wnm hvt htb hnm tA tB A1 A2 A3 A4 wA A5 A6 A7 hA A8 tnc tc tnk td nkc c1 ncl c2 nrw c3 nst c4 wn wc nit c5 nfr c6 ngr c7 hn hc nor c8 un di) hst (Kr F2 F4 F6 F8 F10 C40 F42 C44 C46 C48) fun G1 a1 w1 hst1 _=> ?_
       refine cV 112 34 (Qc QL (.op 35 1)) [] qm5 hst1 func34 (Zh ⟨#[114,101,115,116]⟩ w1) fun e w2 hp=> ?_
       obtain ⟨v,rfl,hE,hb⟩:=hp
       refine ⟨v,rfl,fun a2 he=> ?_⟩
       exact gE (EV.st he w2) Zk [v] fun w3 hw3=>⟨v,rfl,by
        have:Zw (qm1 kind wk wo wvk wvn wpl wty hk ho hvk hvn hpl hty li tnm nm ix wvt wtb wnm hvt htb hnm tnc tnk nkc ncl nrw nst wn nit nfr ngr hn nor tcols tkeys kc un di cl rw_ st wargs gr hargs it fr od)=false:=by simp only [Zw,QE,hz1,hz3,hz5,hz7,hz9,hz39,hz41,hz43,hz45,hz47,bS]
        rw [this];exact hE.below hw3,Below.andThen Qkco hw3⟩
     exact gE hst (Kr F2 F4 F6 F8 F10 C40 F42 C44 C46 C48) [.nilIface] fun w' hw=>⟨_,rfl,by
      have:Zw (qm1 kind wk wo wvk wvn wpl wty hk ho hvk hvn hpl hty li tnm nm ix wvt wtb wnm hvt htb hnm tnc tnk nkc ncl nrw nst wn nit nfr ngr hn nor tcols tkeys kc un di cl rw_ st wargs gr hargs it fr od)=true:=by simp only [Zw,QE,hz1,hz3,hz5,hz7,hz9,hz39,hz41,hz43,hz45,hz47,bS]
      rw [this];rfl,hw⟩
   obtain ⟨z49,hz49⟩: ∃ z,(Zn nrw fun i=>Zn (rw_ i).n fun j=>QH ((rw_ i).f j))=z:=⟨_,rfl⟩
   have C50:Sd W (.call 95 [.slice A3 nrw c3,.func (Fn.func 96) #[] #[]] (.bool z49)):=by rw [← hz49];exact Qb.of func95 rfl Qd QEu2
   cases z49
   · refine gO QL (.op 33 0) [] (qm2 kind wk wo wvk wvn wpl wty hk ho hvk hvn hpl hty li tnm nm ix wvt wtb wnm hvt htb hnm tA tB A1 A2 A3 A4 wA A5 A6 A7 hA A8 tnc tc tnk td nkc c1 ncl c2 nrw c3 nst c4 wn wc nit c5 nfr c6 ngr c7 hn hc nor c8 un di) hst (kE8 F2 F4 F6 F8 F10 C40 F42 C50) fun G1 a1 w1 hst1 _=> ?_
     refine cV 108 34 (Qc QL (.op 33 1)) [] qm3 hst1 func34 (Zh ⟨#[99,108,97,117,115,101]⟩ w1) fun e w2 hp=> ?_
     obtain ⟨v,rfl,hE,hb⟩:=hp
     refine ⟨v,rfl,fun a2 he=> ?_⟩
     exact gE (EV.st he w2) Zk [v] fun w3 hw3=>⟨v,rfl,by
      have:Zw (qm1 kind wk wo wvk wvn wpl wty hk ho hvk hvn hpl hty li tnm nm ix wvt wtb wnm hvt htb hnm tnc tnk nkc ncl nrw nst wn nit nfr ngr hn nor tcols tkeys kc un di cl rw_ st wargs gr hargs it fr od)=false:=by simp only [Zw,QE,hz1,hz3,hz5,hz7,hz9,hz39,hz41,hz49,bS]
      rw [this];exact hE.below hw3,Below.andThen Qkco hw3⟩
   obtain ⟨z51,hz51⟩: ∃ z,(QO tnm tnc tnk nkc 0 0 nst nit nfr ngr nor ⟨#[]⟩ ix un di (ZA wk wo wvk wvn wvt wtb wnm wn wpl wty) (ZA hk ho hvk hvn hvt htb hnm hn hpl hty) li)=z:=⟨_,rfl⟩
   have C52:Sd W (.call 102 x9x (.bool z51)):=by rw [← hz51];exact Qb.of func102 rfl Qd QQhL
   cases z51
   · refine gO QL (.op 35 0) [] (qm2 kind wk wo wvk wvn wpl wty hk ho hvk hvn hpl hty li tnm nm ix wvt wtb wnm hvt htb hnm tA tB A1 A2 A3 A4 wA A5 A6 A7 hA A8 tnc tc tnk td nkc c1 ncl c2 nrw c3 nst c4 wn wc nit c5 nfr c6 ngr c7 hn hc nor c8 un di) hst (kE9 F2 F4 F6 F8 F10 C40 F42 C50 C52) fun G1 a1 w1 hst1 _=> ?_
     refine cV 112 34 (Qc QL (.op 35 1)) [] qm5 hst1 func34 (Zh ⟨#[114,101,115,116]⟩ w1) fun e w2 hp=> ?_
     obtain ⟨v,rfl,hE,hb⟩:=hp
     refine ⟨v,rfl,fun a2 he=> ?_⟩
     exact gE (EV.st he w2) Zk [v] fun w3 hw3=>⟨v,rfl,by
      have:Zw (qm1 kind wk wo wvk wvn wpl wty hk ho hvk hvn hpl hty li tnm nm ix wvt wtb wnm hvt htb hnm tnc tnk nkc ncl nrw nst wn nit nfr ngr hn nor tcols tkeys kc un di cl rw_ st wargs gr hargs it fr od)=false:=by simp only [Zw,QE,hz1,hz3,hz5,hz7,hz9,hz39,hz41,hz49,hz51,bS]
      rw [this];exact hE.below hw3,Below.andThen Qkco hw3⟩
   exact gE hst (kE9 F2 F4 F6 F8 F10 C40 F42 C50 C52) [.nilIface] fun w' hw=>⟨_,rfl,by
    have:Zw (qm1 kind wk wo wvk wvn wpl wty hk ho hvk hvn hpl hty li tnm nm ix wvt wtb wnm hvt htb hnm tnc tnk nkc ncl nrw nst wn nit nfr ngr hn nor tcols tkeys kc un di cl rw_ st wargs gr hargs it fr od)=true:=by simp only [Zw,QE,hz1,hz3,hz5,hz7,hz9,hz39,hz41,hz49,hz51,bS]
    rw [this];rfl,hw⟩
 obtain ⟨z11,hz11⟩: ∃ z,(kind==6)=z:=⟨_,rfl⟩
 have F12:=QN W hz11
 cases z11
 rotate_left
 · have he29:=eq_of_beq hz11
   obtain ⟨z30,hz30⟩: ∃ z,(Zn nst fun i=>setT (st i))=z:=⟨_,rfl⟩
   have C31:Sd W (.call 98 [.slice A4 nst c4,.func (Fn.func 99) #[] #[]] (.bool z30)):=by rw [← hz30];exact Qb.of func98 rfl Qd (fun w hw=>row_Set (Zz func99 Qd rfl) (QR.sub ia.st (.below hw)) (fun W' hb i cs hi hp hl=>check2_ok (st i) cs W' (StIn.sub QyNa hp)))
   cases z30
   · refine gO QL (.op 33 0) [] [bx x1x,bx (Zs kind tnm tA tnc tc tB tnk td A1 nkc c1 nm ix un A2 ncl c2 A3 nrw c3 none 0 0 wk wo wvk wvn wvt wtb wnm wA wn wc wpl wty di A5 nit c5 A6 nfr c6 A7 ngr c7 hk ho hvk hvn hvt htb hnm hA hn hc hpl hty A8 nor c8 li)] hst (kE7 F2 F4 F6 F8 F10 F12 C31) fun G1 a1 w1 hst1 _=> ?_
     refine cV 108 34 (Qc QL (.op 33 1)) [] qm3 hst1 func34 (Zh ⟨#[99,108,97,117,115,101]⟩ w1) fun e w2 hp=> ?_
     obtain ⟨v,rfl,hE,hb⟩:=hp
     refine ⟨v,rfl,fun a2 he=> ?_⟩
     exact gE (EV.st he w2) Zk [v] fun w3 hw3=>⟨v,rfl,by
      have:Zw (qm1 kind wk wo wvk wvn wpl wty hk ho hvk hvn hpl hty li tnm nm ix wvt wtb wnm hvt htb hnm tnc tnk nkc ncl nrw nst wn nit nfr ngr hn nor tcols tkeys kc un di cl rw_ st wargs gr hargs it fr od)=false:=by simp only [Zw,QE,hz1,hz3,hz5,hz7,hz9,hz11,hz30,bS]
      rw [this];exact hE.below hw3,Below.andThen Qkco hw3⟩
   obtain ⟨z32,hz32⟩: ∃ z,(QD nm)=z:=⟨_,rfl⟩
   have C33:Sd W (.call 44 [.string nm] (.bool z32)):=by rw [← hz32];exact Qb.of func44 rfl Qd QWkx
   cases z32
   · refine gO QL (.op 33 0) [] x3x hst (kE8 F2 F4 F6 F8 F10 F12 C31 C33) fun G1 a1 w1 hst1 _=> ?_
     refine cV 108 34 (Qc QL (.op 33 1)) [] qm3 hst1 func34 (Zh ⟨#[99,108,97,117,115,101]⟩ w1) fun e w2 hp=> ?_
     obtain ⟨v,rfl,hE,hb⟩:=hp
     refine ⟨v,rfl,fun a2 he=> ?_⟩
     exact gE (EV.st he w2) Zk [v] fun w3 hw3=>⟨v,rfl,by
      have:Zw (qm1 kind wk wo wvk wvn wpl wty hk ho hvk hvn hpl hty li tnm nm ix wvt wtb wnm hvt htb hnm tnc tnk nkc ncl nrw nst wn nit nfr ngr hn nor tcols tkeys kc un di cl rw_ st wargs gr hargs it fr od)=false:=by simp only [Zw,QE,hz1,hz3,hz5,hz7,hz9,hz11,hz30,hz32,bS]
      rw [this];exact hE.below hw3,Below.andThen Qkco hw3⟩
   obtain ⟨z34,hz34⟩: ∃ z,(Zx (.mk wk wo wvk wvn wvt wtb wnm wn wargs wpl wty))=z:=⟨_,rfl⟩
   have C35:Sd W (.call 100 [eV wk wo wvk wvn wvt wtb wnm wA wn wc wpl wty] (.bool z34)):=by rw [← hz34];exact Qb.of func100 rfl Qd Qxix
   cases z34
   · refine gO QL (.op 33 0) [] x3x hst (kE9 F2 F4 F6 F8 F10 F12 C31 C33 C35) fun G1 a1 w1 hst1 _=> ?_
     refine cV 108 34 (Qc QL (.op 33 1)) [] qm3 hst1 func34 (Zh ⟨#[99,108,97,117,115,101]⟩ w1) fun e w2 hp=> ?_
     obtain ⟨v,rfl,hE,hb⟩:=hp
     refine ⟨v,rfl,fun a2 he=> ?_⟩
     exact gE (EV.st he w2) Zk [v] fun w3 hw3=>⟨v,rfl,by
      have:Zw (qm1 kind wk wo wvk wvn wpl wty hk ho hvk hvn hpl hty li tnm nm ix wvt wtb wnm hvt htb hnm tnc tnk nkc ncl nrw nst wn nit nfr ngr hn nor tcols tkeys kc un di cl rw_ st wargs gr hargs it fr od)=false:=by simp only [Zw,QE,hz1,hz3,hz5,hz7,hz9,hz11,hz30,hz32,hz34,bS]
      rw [this];exact hE.below hw3,Below.andThen Qkco hw3⟩
   obtain ⟨z36,hz36⟩: ∃ z,(QO tnm tnc tnk nkc ncl nrw 0 nit nfr ngr nor ⟨#[]⟩ ix un di (ZA 0 0 0 0 ⟨#[]⟩ ⟨#[]⟩ ⟨#[]⟩ 0 0 0) (ZA hk ho hvk hvn hvt htb hnm hn hpl hty) li)=z:=⟨_,rfl⟩
   have C37:Sd W (.call 102 [.agg (Zs kind tnm tA tnc tc tB tnk td A1 nkc c1 ⟨#[]⟩ ix un A2 ncl c2 A3 nrw c3 none 0 0 0 0 0 0 ⟨#[]⟩ ⟨#[]⟩ ⟨#[]⟩ none 0 0 0 0 di A5 nit c5 A6 nfr c6 A7 ngr c7 hk ho hvk hvn hvt htb hnm hA hn hc hpl hty A8 nor c8 li).toArray] (.bool z36)):=by rw [← hz36];exact Qb.of func102 rfl Qd (fun w hw=>KO kind tnm tA tB A1 A2 A3 none A5 A6 A7 A8 none hA tnc tc tnk td nkc c1 ncl c2 nrw c3 0 0 nit c5 nfr c6 ngr c7 nor c8 0 0 hn hc ⟨#[]⟩ ix un di 0 0 0 0 ⟨#[]⟩ ⟨#[]⟩ ⟨#[]⟩ 0 0 hk ho hvk hvn hvt htb hnm hpl hty li w (by omega))
   cases z36
   · refine gO QL (.op 35 0) [] x3x hst (Kr F2 F4 F6 F8 F10 F12 C31 C33 C35 C37) fun G1 a1 w1 hst1 _=> ?_
     refine cV 112 34 (Qc QL (.op 35 1)) [] qm5 hst1 func34 (Zh ⟨#[114,101,115,116]⟩ w1) fun e w2 hp=> ?_
     obtain ⟨v,rfl,hE,hb⟩:=hp
     refine ⟨v,rfl,fun a2 he=> ?_⟩
     exact gE (EV.st he w2) Zk [v] fun w3 hw3=>⟨v,rfl,by
      have:Zw (qm1 kind wk wo wvk wvn wpl wty hk ho hvk hvn hpl hty li tnm nm ix wvt wtb wnm hvt htb hnm tnc tnk nkc ncl nrw nst wn nit nfr ngr hn nor tcols tkeys kc un di cl rw_ st wargs gr hargs it fr od)=false:=by simp only [Zw,QE,hz1,hz3,hz5,hz7,hz9,hz11,hz30,hz32,hz34,hz36,bS]
      rw [this];exact hE.below hw3,Below.andThen Qkco hw3⟩
   exact gE hst (Kr F2 F4 F6 F8 F10 F12 C31 C33 C35 C37) [.nilIface] fun w' hw=>⟨_,rfl,by
    have:Zw (qm1 kind wk wo wvk wvn wpl wty hk ho hvk hvn hpl hty li tnm nm ix wvt wtb wnm hvt htb hnm tnc tnk nkc ncl nrw nst wn nit nfr ngr hn nor tcols tkeys kc un di cl rw_ st wargs gr hargs it fr od)=true:=by simp only [Zw,QE,hz1,hz3,hz5,hz7,hz9,hz11,hz30,hz32,hz34,hz36,bS]
    rw [this];rfl,hw⟩
 obtain ⟨z13,hz13⟩: ∃ z,(kind==7)=z:=⟨_,rfl⟩
 have F14:=QN W hz13
 cases z13
 · obtain ⟨z15,hz15⟩: ∃ z,(kind==8)=z:=⟨_,rfl⟩
   have F16:=QN W hz15
   cases z15
   · refine gO QL (.op 31 0) [] [bx x1x,bx x1x] hst (kE8 F2 F4 F6 F8 F10 F12 F14 F16) fun G1 a1 w1 hst1 _=> ?_
     refine cV 105 34 (Qc QL (.op 31 1)) [] [.string ⟨#[107,105,110,100]⟩] hst1 func34 (Zh ⟨#[107,105,110,100]⟩ w1) fun e w2 hp=> ?_
     obtain ⟨v,rfl,hE,hb⟩:=hp
     refine ⟨v,rfl,fun a2 he=> ?_⟩
     exact gE (EV.st he w2) Zk [v] fun w3 hw3=>⟨v,rfl,by
      have:Zw (qm1 kind wk wo wvk wvn wpl wty hk ho hvk hvn hpl hty li tnm nm ix wvt wtb wnm hvt htb hnm tnc tnk nkc ncl nrw nst wn nit nfr ngr hn nor tcols tkeys kc un di cl rw_ st wargs gr hargs it fr od)=false:=by simp only [Zw,QE,hz1,hz3,hz5,hz7,hz9,hz11,hz13,hz15,bS]
      rw [this];exact hE.below hw3,Below.andThen Qkco hw3⟩
   have he17:=eq_of_beq hz15
   obtain ⟨z18,hz18⟩: ∃ z,(Q0 (qm1 kind wk wo wvk wvn wpl wty hk ho hvk hvn hpl hty li tnm nm ix wvt wtb wnm hvt htb hnm tnc tnk nkc ncl nrw nst wn nit nfr ngr hn nor tcols tkeys kc un di cl rw_ st wargs gr hargs it fr od))=z:=⟨_,rfl⟩
   have C19:Sd W (.call 101 x4x (.bool z18)):=by rw [← hz18];exact Qb.of func101 rfl Qd (fun w hw=>selected_ok _ _ w QgdQ)
   cases z18
   · refine gO QL (.op 33 0) [] x8x hst (kE9 F2 F4 F6 F8 F10 F12 F14 F16 C19) fun G1 a1 w1 hst1 _=> ?_
     refine cV 108 34 (Qc QL (.op 33 1)) [] qm3 hst1 func34 (Zh ⟨#[99,108,97,117,115,101]⟩ w1) fun e w2 hp=> ?_
     obtain ⟨v,rfl,hE,hb⟩:=hp
     refine ⟨v,rfl,fun a2 he=> ?_⟩
     exact gE (EV.st he w2) Zk [v] fun w3 hw3=>⟨v,rfl,by
      have:Zw (qm1 kind wk wo wvk wvn wpl wty hk ho hvk hvn hpl hty li tnm nm ix wvt wtb wnm hvt htb hnm tnc tnk nkc ncl nrw nst wn nit nfr ngr hn nor tcols tkeys kc un di cl rw_ st wargs gr hargs it fr od)=false:=by simp only [Zw,QE,hz1,hz3,hz5,hz7,hz9,hz11,hz13,hz15,hz18,bS]
      rw [this];exact hE.below hw3,Below.andThen Qkco hw3⟩
   obtain ⟨z20,hz20⟩: ∃ z,(QO tnm tnc tnk nkc ncl nrw nst 0 0 0 0 nm ix un false (ZA 0 0 0 0 ⟨#[]⟩ ⟨#[]⟩ ⟨#[]⟩ 0 0 0) (ZA 0 0 0 0 ⟨#[]⟩ ⟨#[]⟩ ⟨#[]⟩ 0 0 0) 0)=z:=⟨_,rfl⟩
   have C21:Sd W (.call 102 [.agg (Zs kind tnm tA tnc tc tB tnk td A1 nkc c1 nm ix un A2 ncl c2 A3 nrw c3 A4 nst c4 0 0 0 0 ⟨#[]⟩ ⟨#[]⟩ ⟨#[]⟩ none 0 0 0 0 false none 0 0 none 0 0 none 0 0 0 0 0 0 ⟨#[]⟩ ⟨#[]⟩ ⟨#[]⟩ none 0 0 0 0 none 0 0 0).toArray] (.bool z20)):=by rw [← hz20];exact Qb.of func102 rfl Qd (fun w hw=>KO kind tnm tA tB A1 A2 A3 A4 none none none none none none tnc tc tnk td nkc c1 ncl c2 nrw c3 nst c4 0 0 0 0 0 0 0 0 0 0 0 0 nm ix un false 0 0 0 0 ⟨#[]⟩ ⟨#[]⟩ ⟨#[]⟩ 0 0 0 0 0 0 ⟨#[]⟩ ⟨#[]⟩ ⟨#[]⟩ 0 0 0 w (by omega))
   cases z20
   · refine gO QL (.op 35 0) [] x8x hst (Kr F2 F4 F6 F8 F10 F12 F14 F16 C19 C21) fun G1 a1 w1 hst1 _=> ?_
     refine cV 112 34 (Qc QL (.op 35 1)) [] qm5 hst1 func34 (Zh ⟨#[114,101,115,116]⟩ w1) fun e w2 hp=> ?_
     obtain ⟨v,rfl,hE,hb⟩:=hp
     refine ⟨v,rfl,fun a2 he=> ?_⟩
     exact gE (EV.st he w2) Zk [v] fun w3 hw3=>⟨v,rfl,by
      have:Zw (qm1 kind wk wo wvk wvn wpl wty hk ho hvk hvn hpl hty li tnm nm ix wvt wtb wnm hvt htb hnm tnc tnk nkc ncl nrw nst wn nit nfr ngr hn nor tcols tkeys kc un di cl rw_ st wargs gr hargs it fr od)=false:=by simp only [Zw,QE,hz1,hz3,hz5,hz7,hz9,hz11,hz13,hz15,hz18,hz20,bS]
      rw [this];exact hE.below hw3,Below.andThen Qkco hw3⟩
   exact gE hst (Kr F2 F4 F6 F8 F10 F12 F14 F16 C19 C21) [.nilIface] fun w' hw=>⟨_,rfl,by
    have:Zw (qm1 kind wk wo wvk wvn wpl wty hk ho hvk hvn hpl hty li tnm nm ix wvt wtb wnm hvt htb hnm tnc tnk nkc ncl nrw nst wn nit nfr ngr hn nor tcols tkeys kc un di cl rw_ st wargs gr hargs it fr od)=true:=by simp only [Zw,QE,hz1,hz3,hz5,hz7,hz9,hz11,hz13,hz15,hz18,hz20,bS]
    rw [this];rfl,hw⟩
 have he22:=eq_of_beq hz13
 obtain ⟨z23,hz23⟩: ∃ z,(QD nm)=z:=⟨_,rfl⟩
 have C24:Sd W (.call 44 [.string nm] (.bool z23)):=by rw [← hz23];exact Qb.of func44 rfl Qd QWkx
 cases z23
 · refine gO QL (.op 33 0) [] x2x hst (kE8 F2 F4 F6 F8 F10 F12 F14 C24) fun G1 a1 w1 hst1 _=> ?_
   refine cV 108 34 (Qc QL (.op 33 1)) [] qm3 hst1 func34 (Zh ⟨#[99,108,97,117,115,101]⟩ w1) fun e w2 hp=> ?_
   obtain ⟨v,rfl,hE,hb⟩:=hp
   refine ⟨v,rfl,fun a2 he=> ?_⟩
   exact gE (EV.st he w2) Zk [v] fun w3 hw3=>⟨v,rfl,by
    have:Zw (qm1 kind wk wo wvk wvn wpl wty hk ho hvk hvn hpl hty li tnm nm ix wvt wtb wnm hvt htb hnm tnc tnk nkc ncl nrw nst wn nit nfr ngr hn nor tcols tkeys kc un di cl rw_ st wargs gr hargs it fr od)=false:=by simp only [Zw,QE,hz1,hz3,hz5,hz7,hz9,hz11,hz13,hz23,bS]
    rw [this];exact hE.below hw3,Below.andThen Qkco hw3⟩
 obtain ⟨z25,hz25⟩: ∃ z,(Zx (.mk wk wo wvk wvn wvt wtb wnm wn wargs wpl wty))=z:=⟨_,rfl⟩
 have C26:Sd W (.call 100 [eV wk wo wvk wvn wvt wtb wnm wA wn wc wpl wty] (.bool z25)):=by rw [← hz25];exact Qb.of func100 rfl Qd Qxix
 cases z25
 · refine gO QL (.op 33 0) [] x2x hst (kE9 F2 F4 F6 F8 F10 F12 F14 C24 C26) fun G1 a1 w1 hst1 _=> ?_
   refine cV 108 34 (Qc QL (.op 33 1)) [] qm3 hst1 func34 (Zh ⟨#[99,108,97,117,115,101]⟩ w1) fun e w2 hp=> ?_
   obtain ⟨v,rfl,hE,hb⟩:=hp
   refine ⟨v,rfl,fun a2 he=> ?_⟩
   exact gE (EV.st he w2) Zk [v] fun w3 hw3=>⟨v,rfl,by
    have:Zw (qm1 kind wk wo wvk wvn wpl wty hk ho hvk hvn hpl hty li tnm nm ix wvt wtb wnm hvt htb hnm tnc tnk nkc ncl nrw nst wn nit nfr ngr hn nor tcols tkeys kc un di cl rw_ st wargs gr hargs it fr od)=false:=by simp only [Zw,QE,hz1,hz3,hz5,hz7,hz9,hz11,hz13,hz23,hz25,bS]
    rw [this];exact hE.below hw3,Below.andThen Qkco hw3⟩
 obtain ⟨z27,hz27⟩: ∃ z,(QO tnm tnc tnk nkc ncl nrw nst nit nfr ngr nor ⟨#[]⟩ ix un di (ZA 0 0 0 0 ⟨#[]⟩ ⟨#[]⟩ ⟨#[]⟩ 0 0 0) (ZA hk ho hvk hvn hvt htb hnm hn hpl hty) li)=z:=⟨_,rfl⟩
 have C28:Sd W (.call 102 [.agg (Zs kind tnm tA tnc tc tB tnk td A1 nkc c1 ⟨#[]⟩ ix un A2 ncl c2 A3 nrw c3 A4 nst c4 0 0 0 0 ⟨#[]⟩ ⟨#[]⟩ ⟨#[]⟩ none 0 0 0 0 di A5 nit c5 A6 nfr c6 A7 ngr c7 hk ho hvk hvn hvt htb hnm hA hn hc hpl hty A8 nor c8 li).toArray] (.bool z27)):=by rw [← hz27];exact Qb.of func102 rfl Qd (fun w hw=>KO kind tnm tA tB A1 A2 A3 A4 A5 A6 A7 A8 none hA tnc tc tnk td nkc c1 ncl c2 nrw c3 nst c4 nit c5 nfr c6 ngr c7 nor c8 0 0 hn hc ⟨#[]⟩ ix un di 0 0 0 0 ⟨#[]⟩ ⟨#[]⟩ ⟨#[]⟩ 0 0 hk ho hvk hvn hvt htb hnm hpl hty li w (by omega))
 cases z27
 · refine gO QL (.op 35 0) [] x2x hst (Kr F2 F4 F6 F8 F10 F12 F14 C24 C26 C28) fun G1 a1 w1 hst1 _=> ?_
   refine cV 112 34 (Qc QL (.op 35 1)) [] qm5 hst1 func34 (Zh ⟨#[114,101,115,116]⟩ w1) fun e w2 hp=> ?_
   obtain ⟨v,rfl,hE,hb⟩:=hp
   refine ⟨v,rfl,fun a2 he=> ?_⟩
   exact gE (EV.st he w2) Zk [v] fun w3 hw3=>⟨v,rfl,by
    have:Zw (qm1 kind wk wo wvk wvn wpl wty hk ho hvk hvn hpl hty li tnm nm ix wvt wtb wnm hvt htb hnm tnc tnk nkc ncl nrw nst wn nit nfr ngr hn nor tcols tkeys kc un di cl rw_ st wargs gr hargs it fr od)=false:=by simp only [Zw,QE,hz1,hz3,hz5,hz7,hz9,hz11,hz13,hz23,hz25,hz27,bS]
    rw [this];exact hE.below hw3,Below.andThen Qkco hw3⟩
 exact gE hst (Kr F2 F4 F6 F8 F10 F12 F14 C24 C26 C28) [.nilIface] fun w' hw=>⟨_,rfl,by
  have:Zw (qm1 kind wk wo wvk wvn wpl wty hk ho hvk hvn hpl hty li tnm nm ix wvt wtb wnm hvt htb hnm tnc tnk nkc ncl nrw nst wn nit nfr ngr hn nor tcols tkeys kc un di cl rw_ st wargs gr hargs it fr od)=true:=by simp only [Zw,QE,hz1,hz3,hz5,hz7,hz9,hz11,hz13,hz23,hz25,hz27,bS]
  rw [this];rfl,hw⟩
end
end Go.Proofs.YtddedijencleeaaGreatDoor
