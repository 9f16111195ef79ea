/- Facts and loops for walks that are printed (wip/wk.py): a loop that goes out at the first that isn't so; elements and parts of elements; sums. No program's code. -/
import Derived.Test.YtddedijencleeaaGreatDoorMSq
import Derived.Test.YtddedijencleeaaGreatDoorMTy
import Derived.WalkKit
import Derived.ProofKit
import Derived.Deep.QuietTactic
import Derived.Deep.RegionHeld3
import Derived.Deep.LoopGhost
import Derived.Lib.Hide
import Derived.BigQuiet
import Derived.RegionTactic
import Derived.Deep.RegionWith
import Derived.Deep.DeepCutAuto
import Derived.Deep.CutBlock
import Derived.OwnWalk
import Derived.ChangeAlike
import Derived.Lib.Builder
import Derived.Test.YtddedijencleeaaGreatDoorSm
set_option linter.all false
namespace Go.Proofs.YtddedijencleeaaGreatDoor
open Tryz
open Go.RowKit Go.Lib
def Zs (kind:Int) (tnm:ByteArray) (tA:Option Addr) (tnc:Nat) (tc:Nat) (tB:Option Addr) (tnk:Nat) (td:Nat) (A1:Option Addr) (nkc:Nat) (c1:Nat) (nm:ByteArray) (ix:ByteArray) (un:Bool) (A2:Option Addr) (ncl:Nat) (c2:Nat) (A3:Option Addr) (nrw:Nat) (c3:Nat) (A4:Option Addr) (nst:Nat) (c4:Nat) (wk:Int) (wo:Int) (wvk:Int) (wvn:Int) (wvt:ByteArray) (wtb:ByteArray) (wnm:ByteArray) (wA:Option Addr) (wn:Nat) (wc:Nat) (wpl:Int) (wty:Int) (di:Bool) (A5:Option Addr) (nit:Nat) (c5:Nat) (A6:Option Addr) (nfr:Nat) (c6:Nat) (A7:Option Addr) (ngr:Nat) (c7:Nat) (hk:Int) (ho:Int) (hvk:Int) (hvn:Int) (hvt:ByteArray) (htb:ByteArray) (hnm:ByteArray) (hA:Option Addr) (hn:Nat) (hc:Nat) (hpl:Int) (hty:Int) (A8:Option Addr) (nor:Nat) (c8:Nat) (li:Int):List Value:=.int .i64 kind:: .string tnm:: .slice tA tnc tc:: .slice tB tnk td:: .slice A1 nkc c1:: .string nm:: .string ix:: .bool un:: .slice A2 ncl c2:: .slice A3 nrw c3:: .slice A4 nst c4:: .int .i64 wk:: .int .i64 wo:: .int .i64 wvk:: .int .i64 wvn:: .string wvt:: .string wtb:: .string wnm:: .slice wA wn wc:: .int .i64 wpl:: .int .i64 wty:: .bool di:: .slice A5 nit c5:: .slice A6 nfr c6:: .slice A7 ngr c7:: .int .i64 hk:: .int .i64 ho:: .int .i64 hvk:: .int .i64 hvn:: .string hvt:: .string htb:: .string hnm:: .slice hA hn hc:: .int .i64 hpl:: .int .i64 hty:: .slice A8 nor c8:: .int .i64 li::[]
namespace RC
section
variable {P:Program} {N:Nat} {W:World} {Q:Exit→Act→World→Prop}
theorem eachLoop {nn:Nat} {lv:Fr} {bs:List Zp} (c:Code) (id s:Nat) (ti:TypeId) (n:Nat) (q:Nat→Bool) {G:Env} {a:Act} {w:World} (hn:n≤9223372036854775807)
 (hk:Qc c (.loop id)= .c (.loop (Qn c id)):: .b id::Qc c (.out id)) (hst:St N W nn ((s,.v (.int .i64 (0:Nat)))::lv) bs G a w)
 (round: ∀ i,i<n→ ∀ G a w,St N W nn ((s,.v (.int .i64 (i:Nat)))::lv) bs G a w→ZZ P (Exit.then (fun a' w'=>(∃ G',St N W nn ((s,.v (.int .i64 ((i+1:Nat):Int)))::lv) bs G' a' w')∧q i=true) (ZZ P Q (.b id::Qc c (.out id)))) [.c (Qn c id)] .normal a w)
 (ends:runV P nn .fin [.c (Qn c id)] ((s,.v (.int .i64 n))::lv) bs (anss [sLt ti n n false]) (keysOf lv)=some (.ex id,[],slotsOf lv,bs,[sLt ti n n false]))
 (good:(∀ i,i<n→q i=true)→ ∀ G a w,St N W nn lv bs G a w→ZZ P Q (Qc c (.out id)) .normal a w):ZZ P Q (Qc c (.loop id)) .normal a w:=by
 refine Kt c id hk n (fun i a' w'=>(∃ G,St N W nn ((s,.v (.int .i64 (i:Nat)))::lv) bs G a' w')∧ ∀ j,j<i→q j=true) ⟨⟨G,hst⟩,fun j hj=>by omega⟩ ?_ ?_
 · rintro i hi a2 w2 ⟨⟨g2,hs2⟩,hall⟩
   refine Code.wp_mono (fun e a3 w3 h=> ?_) (round i hi g2 a2 w2 hs2)
   cases e with
   | normal=>
    obtain ⟨h1,h2⟩:=h
    refine ⟨h1,fun j hj=> ?_⟩
    by_cases e:j=i
    · rw [e];exact h2
    exact hall j (by omega)
   | _=>exact h
 rintro a2 w2 ⟨⟨g2,hs2⟩,hall⟩
 exact go .fin lv bs hs2 (Zg (Qb.ltN (by simp))) ends fun g3 a3 w3 hst3 _=>brk (good hall g3 a3 w3 hst3)
theorem Qb.addN {t:TypeId} {a b:Nat} (h:a+b≤9223372036854775807):Qb.ok P N W (.bin .add t (.int .i64 (a:Int)) (.int .i64 (b:Int)) (.int .i64 ((a+b:Nat):Int))):=Qb.addInt (by
 unfold IntKind.wrap
 have e1:(2 ^ IntKind.i64.bits:Int)=18446744073709551616:=by decide
 have e2:(2 ^ (IntKind.i64.bits - 1):Int)=9223372036854775808:=by decide
 rw [e1,e2]
 have e3:((a:Int)+(b:Int)) % 18446744073709551616=((a+b:Nat):Int):=by rw [Int.emod_eq_of_lt] <;> omega
 simp only [e3]
 rw [if_neg]
 simp only [Bool.and_eq_true,decide_eq_true_eq,not_and]
 intro _
 omega)
theorem Qb.addStr {t:TypeId} {a b:ByteArray} (h:a.size+b.size≤9223372036854775807):Qb.ok P N W (.bin .add t (.string a) (.string b) (.string (a++b))):=fun ox oy w=>by
 rw [Sem.run_bind,eqg_str];simp [binOp,Op.stringOp];omega
theorem Qb.elemA {t e:TypeId} {A:Option Addr} {b o n c c' size i:Nat} {k:IntKind} (hA:Value.slice A n c= .slice (some ⟨b,o,none⟩) n c') (hu:P.underlying t=some (.slice e)) (hs:sizT P e=some size) (hi:i<n):Qb.ok P N W (.idx t (.slice A n c) (.int k i) (.pointer (some ⟨b,o+i*size,none⟩))):=by
 rw [hA];exact Qb.elem hu hs hi
theorem range_mid {w:World} {b o:Nat} {cs:List Value} (h:w.rangeAt b o cs) (d:Nat) (ds:List Value) (e:(cs.drop d).take ds.length=ds):w.rangeAt b (o+d) ds:=fun j v hj=>by
 rw [← e,List.getElem?_take] at hj
 split at hj
 · rw [List.getElem?_drop] at hj
   have:=h (d+j) v hj
   rwa [show o+d+j=o+(d+j) by omega]
 · cases hj
theorem Qb.part {t:TypeId} {b o d:Nat} {cs ds:List Value} (hr:Zn P t=some true) (hs:sizT P t=some ds.length) (h:W.rangeAt b o cs) (e:(cs.drop d).take ds.length=ds) (hb:b<W.heap.size) (hN:W.heap.size≤N):Qb.ok P N W (.get t (.pointer (some ⟨b,o+d,none⟩)) (.agg ds.toArray)):=
 Qb.row hr hs (range_mid h d ds e) hb hN
theorem Qb.cellAt {t:TypeId} {b o d:Nat} {v:Value} {cs:List Value} (hr:Zn P t=some false) (h:W.rangeAt b o cs) (e:cs[d]?=some v) (hb:b<W.heap.size) (hN:W.heap.size≤N):Qb.ok P N W (.get t (.pointer (some ⟨b,o+d,none⟩)) v):=
 Qb.cell hr (h d v e) hb hN
end
end RC
theorem Ks.opn {W:World} {cs:List Value} {kind:Int} {tnm:ByteArray} {tnc:Nat} {tcols:Nat→Co} {tnk:Nat} {tkeys:Nat→Ke} {nkc:Nat} {kc:Nat→Na} {nm ix:ByteArray} {un:Bool} {ncl:Nat} {cl:Nat→ByteArray} {nrw:Nat} {rw_:Nat→Es} {nst:Nat} {st:Nat→Go.Proofs.YtddedijencleeaaGreatDoor.St} {wh:E} {di:Bool} {nit:Nat} {it:Nat→It} {nfr:Nat} {fr:Nat→So} {ngr:Nat} {gr:Nat→E} {hv:E} {nor:Nat} {od:Nat→Od} {li:Int} (h:Ks W ⟨kind,⟨tnm,tnc,tcols,tnk,tkeys⟩,nkc,kc,nm,ix,un,⟨ncl,cl⟩,nrw,rw_,nst,st,wh,di,nit,it,nfr,fr,⟨ngr,gr⟩,hv,nor,od,li⟩ cs) :
 ∃ tA tc tB td A1 c1 A2 c2 A3 c3 A4 c4 A5 c5 A6 c6 A7 c7 A8 c8 wk wo wvk wvn wvt wtb wnm wA wn wc wpl wty hk ho hvk hvn hvt htb hnm hA hn hc hpl hty,cs=Zs kind tnm tA tnc tc tB tnk td A1 nkc c1 nm ix un A2 ncl c2 A3 nrw c3 A4 nst c4 wk wo wvk wvn wvt wtb wnm wA wn wc wpl wty di A5 nit c5 A6 nfr c6 A7 ngr c7 hk ho hvk hvn hvt htb hnm hA hn hc hpl hty A8 nor c8 li∧Ks W ⟨kind,⟨tnm,tnc,tcols,tnk,tkeys⟩,nkc,kc,nm,ix,un,⟨ncl,cl⟩,nrw,rw_,nst,st,wh,di,nit,it,nfr,fr,⟨ngr,gr⟩,hv,nor,od,li⟩ (Zs kind tnm tA tnc tc tB tnk td A1 nkc c1 nm ix un A2 ncl c2 A3 nrw c3 A4 nst c4 wk wo wvk wvn wvt wtb wnm wA wn wc wpl wty di A5 nit c5 A6 nfr c6 A7 ngr c7 hk ho hvk hvn hvt htb hnm hA hn hc hpl hty A8 nor c8 li)∧SIns W ⟨kind,⟨tnm,tnc,tcols,tnk,tkeys⟩,nkc,kc,nm,ix,un,⟨ncl,cl⟩,nrw,rw_,nst,st,wh,di,nit,it,nfr,fr,⟨ngr,gr⟩,hv,nor,od,li⟩ [.string tnm,.slice tA tnc tc,.slice tB tnk td] (.slice A1 nkc c1) (.slice A2 ncl c2) (.slice A3 nrw c3) (.slice A4 nst c4) (eL wk wo wvk wvn wvt wtb wnm wA wn wc wpl wty) (.slice A5 nit c5) (.slice A6 nfr c6) (.slice A7 ngr c7) (eL hk ho hvk hvn hvt htb hnm hA hn hc hpl hty) (.slice A8 nor c8)∧QR W 3 32 tnc (.slice tA tnc tc) (fun i ds=>CoIn (tcols i) ds)∧QR W 4 48 tnk (.slice tB tnk td) (fun i ds=>KeIn W (tkeys i) ds):=by
 have h0:=h
 obtain ⟨ta,vkc,vcl,vrw,vst,whc,vit,vfr,vgr,hvc,vor,rfl,ia⟩:=h
 obtain ⟨tA,tc,tB,td,rfl,t1,t2⟩:=TaIn.form' ia.tab
 obtain ⟨A1,c1,rfl⟩:=ia.kc.form
 obtain ⟨A2,c2,rfl⟩:=ia.cl.form
 obtain ⟨A3,c3,rfl⟩:=ia.rw.form
 obtain ⟨A4,c4,rfl⟩:=ia.st.form
 obtain ⟨A5,c5,rfl⟩:=ia.it.form
 obtain ⟨A6,c6,rfl⟩:=ia.fr.form
 obtain ⟨A7,c7,rfl⟩:=ia.gr.form
 obtain ⟨A8,c8,rfl⟩:=ia.od.form
 obtain ⟨wk,wo,wvk,wvn,wvt,wtb,wnm,wA,wn,wc,wpl,wty,rfl⟩:=ia.wh.form
 obtain ⟨hk,ho,hvk,hvn,hvt,htb,hnm,hA,hn,hc,hpl,hty,rfl⟩:=ia.hv.form
 exact ⟨tA,tc,tB,td,A1,c1,A2,c2,A3,c3,A4,c4,A5,c5,A6,c6,A7,c7,A8,c8,wk,wo,wvk,wvn,wvt,wtb,wnm,wA,wn,wc,wpl,wty,hk,ho,hvk,hvn,hvt,htb,hnm,hA,hn,hc,hpl,hty,rfl,h0,ia,t1,t2⟩
theorem nEl (W:World) (size:Nat) {t e:TypeId} {A:Option Addr} {b o n c c' i:Nat} (hA:Value.slice A n c= .slice (some ⟨b,o,none⟩) n c') (hu:prog.underlying t=some (.slice e)) (hi:i<n) (hs:RC.sizT prog e=some size:=by kernel_rfl):RC.Sd W (.idx t (.slice A n c) (.int .i64 i) (.pointer (some ⟨b,o+i*size,none⟩))):=RC.Qb.elemA hA hu hs hi
end Go.Proofs.YtddedijencleeaaGreatDoor

/- slices.IndexFunc, slices.ContainsFunc, tree.all, tree.row over rows of cells (texts, rows). -/
set_option linter.all false
namespace Go.Proofs.YtddedijencleeaaGreatDoor
set_option maxRecDepth 100000
open Tryz
open Go.RowKit Go.Lib RC

theorem all1_Tx {W:World} {u:Value} {gi f:Nat} {r:Bool} (he: ∀ args w,(callFunc f args).run prog w= .ok (.enter f args) w) (hi:W.cell? ⟨gi,0,none⟩=some (.func (Fn.func f) #[] #[]))
 (hf: ∀ W',Below W.heap.size W W'→Calls prog f #[u] W' fun e W2=>e= .returned (.bool r)∧Below W'.heap.size W' W2) :
 Calls prog 200 #[u,.pointer (some ⟨gi,0,none⟩)] W fun e W'=>e= .returned (.bool (!r))∧Below W.heap.size W W':=by
 have HX:=Qh (hf _ (Below.refl _ _))
 clear hf
 go_enter func200,ntmps200
 go_wp2_with fail
 refine (Qa HX).mono ?_
 rintro e w1 ⟨rfl,hb⟩
 have HW:=Qh hb
 clear hb
 cases r
 all_goals
  go_wp2
  go_ret
  exact ⟨rfl,Qa HW⟩
theorem fMUe6 {p:Prop} (h:p:=by
 obtain ⟨A,c,rfl,hnc,hc,hby,hA⟩:=hv
 have HA:=Qh hA
 have HF:=Qh hf
 have hn:n≤9223372036854775807:=by omega
 clear hA hf hnc hc hby
 go_enter KP,fv2
 go_wp2
 go_loopw [8] (fun i wr=> ∃ k:Nat,k≤n∧i= .int .i64 k∧Hid ((∀ j,j<k→q j=false)∧Below W.heap.size W wr)) (fun i _=>n - (RowKit.intOf i).toNat)
 case atStart=>exact ⟨0,Nat.zero_le _,rfl,Qh ⟨fun j hj=>by omega,Below.refl _ _⟩⟩
 case round=>
  obtain ⟨k,hk,rfl,HBW⟩:=hrel
  by_cases hlt:k<n
  · obtain ⟨b,o,rfl,hb,hcs⟩:=(Qa HA) (by omega)
    obtain ⟨cs,hl,_,hP,hr⟩:=hcs k hlt
    obtain ⟨u,rfl⟩: ∃ u,cs=[u]:=List.length_eq_one_iff.1 hl
    have hr':wr.cell? ⟨b,o+k,none⟩=some u:=by have:=Q5 hr (Qa HBW).2 0 u rfl;rwa [Nat.mul_one,Nat.add_zero] at this
    have HC:=Qh ((Qa HF) wr (Qa HBW).2 k u hlt hP)
    clear hcs hr hb hP hl
    generalize hq:q k=qk at HC
    go_wp2_with fail
    refine (Qa HC).mono ?_
    rintro e w2 ⟨rfl,hb2⟩
    have HQ:=Qh hq
    have HB2:=Qh (Below.andThen (Qa HBW).2 hb2)
    clear hb2 hr' hq
    cases qk with
    | true=>
     go_wp2
     go_ret
     exact ⟨by rw [idxN_at hlt (Qa HQ) (Qa HBW).1];rfl,Qa HB2⟩
    | false=>
     go_wp2
     go_roundw
     case rel=>exact ⟨k+1,by omega,by go_num,Qh ⟨fun j hj=>by rcases Nat.lt_succ_iff_lt_or_eq.1 hj with h | h;exact (Qa HBW).1 j h;rw [h];exact Qa HQ,Qa HB2⟩⟩
     case measure=>simp [RowKit.intOf];omega
  go_wp2
  go_ret
  have:k=n:=by omega
  subst this
  exact ⟨by rw [idxN_none (Qa HBW).1];rfl,(Qa HBW).2⟩
 ):p:=h
namespace fUe60
abbrev KP:= @func216
abbrev fv2:= @ntmps216
end fUe60
open fUe60 in
theorem index_Tx {W:World} {n:Nat} {v p:Value} {P:Nat→List Value→Prop} {q:Nat→Bool} {g:Nat} (he: ∀ args w,(callFunc g args).run prog w= .ok (.enter g args) w) (hv:QR W 1 16 n v P)
 (hf: ∀ W',Below W.heap.size W W'→ ∀ i u,i<n→P i [u]→Calls prog g #[u,p] W' fun e W2=>e= .returned (.bool (q i))∧Below W'.heap.size W' W2) :
 Calls prog 216 #[v,.func (Fn.func g) #[] #[p]] W fun e W'=>e= .returned (.int .i64 (idxN n q))∧Below W.heap.size W W':=fMUe6
theorem contains_Tx {W:World} {n:Nat} {v p:Value} {P:Nat→List Value→Prop} {q:Nat→Bool} {g:Nat} (he: ∀ args w,(callFunc g args).run prog w= .ok (.enter g args) w) (hv:QR W 1 16 n v P)
 (hf: ∀ W',Below W.heap.size W W'→ ∀ i u,i<n→P i [u]→Calls prog g #[u,p] W' fun e W2=>e= .returned (.bool (q i))∧Below W'.heap.size W' W2) :
 Calls prog 199 #[v,.func (Fn.func g) #[] #[p]] W fun e W'=>e= .returned (.bool (decide (0≤idxN n q)))∧Below W.heap.size W W':=by
 have HF:=Qh (index_Tx he hv hf)
 clear hf he
 obtain ⟨A,c,rfl,_⟩:=hv
 go_enter func199,ntmps199
 go_wp2_with fail
 refine (Qa HF).mono ?_
 rintro e w2 ⟨rfl,hb2⟩
 go_wp2
 go_ret
 exact ⟨rfl,hb2⟩
theorem fMUe7 {p:Prop} (h:p:=by
 have hD: ∀ o,Below W.heap.size W (W.alloc o):=fun o=>(Below.refl _ _).alloc (Nat.le_refl _) o
 have HF:=Qh fun o (ho:(W.alloc o).cell? ⟨W.heap.size,0,none⟩=some (.func (Fn.func f) #[] #[]))=>Qh (KP (W:=W.alloc o) (q:=fun i=> !r i) (p:=.pointer (some ⟨W.heap.size,0,none⟩)) (Zz fv2 (by kernel_rfl) rfl) (hv.sub (.below (hD o))) (fun W' hb i u hi hP=>fv3 he ((hb.cell (p:=⟨W.heap.size,0,none⟩) (by simp)).trans ho) (fun W2 hb2=>hf W2 (Below.andThen (Below.andThen (hD o) hb) hb2) i u hi hP)))
 have HD:=Qh hD
 clear hf hD he
 obtain ⟨A,c,rfl,_⟩:=hv
 go_enter fv4,fv5
 go_wp2_with fail
 refine (Qa ((Qa HF) _ (by simp))).mono ?_
 rintro e w2 ⟨rfl,hb2⟩
 have HW:=Qh (Below.andThen ((Qa HD) _) hb2)
 clear hb2
 rw [idxN_all]
 go_wp2
 go_ret
 exact ⟨by simp,Qa HW⟩
 ):p:=h
namespace fUe70
abbrev KP:= @contains_Tx
abbrev fv2:= @func200
abbrev fv3:= @all1_Tx
abbrev fv4:= @func158
abbrev fv5:= @ntmps158
end fUe70
open fUe70 in
theorem all_Tx {W:World} {n:Nat} {v:Value} {P:Nat→List Value→Prop} {r:Nat→Bool} {f:Nat} (he: ∀ args w,(callFunc f args).run prog w= .ok (.enter f args) w) (hv:QR W 1 16 n v P)
 (hf: ∀ W',Below W.heap.size W W'→ ∀ i u,i<n→P i [u]→Calls prog f #[u] W' fun e W2=>e= .returned (.bool (r i))∧Below W'.heap.size W' W2) :
 Calls prog 158 #[v,.func (Fn.func f) #[] #[]] W fun e W'=>e= .returned (.bool (Zd n r))∧Below W.heap.size W W':=fMUe7
theorem all1_Ns {W:World} {u:Value} {gi f:Nat} {r:Bool} (he: ∀ args w,(callFunc f args).run prog w= .ok (.enter f args) w) (hi:W.cell? ⟨gi,0,none⟩=some (.func (Fn.func f) #[] #[]))
 (hf: ∀ W',Below W.heap.size W W'→Calls prog f #[u] W' fun e W2=>e= .returned (.bool r)∧Below W'.heap.size W' W2) :
 Calls prog 198 #[u,.pointer (some ⟨gi,0,none⟩)] W fun e W'=>e= .returned (.bool (!r))∧Below W.heap.size W W':=by
 have HX:=Qh (hf _ (Below.refl _ _))
 clear hf
 go_enter func198,ntmps198
 go_wp2_with fail
 refine (Qa HX).mono ?_
 rintro e w1 ⟨rfl,hb⟩
 have HW:=Qh hb
 clear hb
 cases r
 all_goals
  go_wp2
  go_ret
  exact ⟨rfl,Qa HW⟩
namespace fUe61
abbrev KP:= @func215
abbrev fv2:= @ntmps215
end fUe61
open fUe61 in
theorem index_Ns {W:World} {n:Nat} {v p:Value} {P:Nat→List Value→Prop} {q:Nat→Bool} {g:Nat} (he: ∀ args w,(callFunc g args).run prog w= .ok (.enter g args) w) (hv:QR W 1 24 n v P)
 (hf: ∀ W',Below W.heap.size W W'→ ∀ i u,i<n→P i [u]→Calls prog g #[u,p] W' fun e W2=>e= .returned (.bool (q i))∧Below W'.heap.size W' W2) :
 Calls prog 215 #[v,.func (Fn.func g) #[] #[p]] W fun e W'=>e= .returned (.int .i64 (idxN n q))∧Below W.heap.size W W':=fMUe6
theorem contains_Ns {W:World} {n:Nat} {v p:Value} {P:Nat→List Value→Prop} {q:Nat→Bool} {g:Nat} (he: ∀ args w,(callFunc g args).run prog w= .ok (.enter g args) w) (hv:QR W 1 24 n v P)
 (hf: ∀ W',Below W.heap.size W W'→ ∀ i u,i<n→P i [u]→Calls prog g #[u,p] W' fun e W2=>e= .returned (.bool (q i))∧Below W'.heap.size W' W2) :
 Calls prog 197 #[v,.func (Fn.func g) #[] #[p]] W fun e W'=>e= .returned (.bool (decide (0≤idxN n q)))∧Below W.heap.size W W':=by
 have HF:=Qh (index_Ns he hv hf)
 clear hf he
 obtain ⟨A,c,rfl,_⟩:=hv
 go_enter func197,ntmps197
 go_wp2_with fail
 refine (Qa HF).mono ?_
 rintro e w2 ⟨rfl,hb2⟩
 go_wp2
 go_ret
 exact ⟨rfl,hb2⟩
namespace fUe71
abbrev KP:= @contains_Ns
abbrev fv2:= @func198
abbrev fv3:= @all1_Ns
abbrev fv4:= @func156
abbrev fv5:= @ntmps156
end fUe71
open fUe71 in
theorem all_Ns {W:World} {n:Nat} {v:Value} {P:Nat→List Value→Prop} {r:Nat→Bool} {f:Nat} (he: ∀ args w,(callFunc f args).run prog w= .ok (.enter f args) w) (hv:QR W 1 24 n v P)
 (hf: ∀ W',Below W.heap.size W W'→ ∀ i u,i<n→P i [u]→Calls prog f #[u] W' fun e W2=>e= .returned (.bool (r i))∧Below W'.heap.size W' W2) :
 Calls prog 156 #[v,.func (Fn.func f) #[] #[]] W fun e W'=>e= .returned (.bool (Zd n r))∧Below W.heap.size W W':=fMUe7
theorem all1_Es {W:World} {u:Value} {gi f:Nat} {r:Bool} (he: ∀ args w,(callFunc f args).run prog w= .ok (.enter f args) w) (hi:W.cell? ⟨gi,0,none⟩=some (.func (Fn.func f) #[] #[]))
 (hf: ∀ W',Below W.heap.size W W'→Calls prog f #[u] W' fun e W2=>e= .returned (.bool r)∧Below W'.heap.size W' W2) :
 Calls prog 202 #[u,.pointer (some ⟨gi,0,none⟩)] W fun e W'=>e= .returned (.bool (!r))∧Below W.heap.size W W':=by
 have HX:=Qh (hf _ (Below.refl _ _))
 clear hf
 go_enter func202,ntmps202
 go_wp2_with fail
 refine (Qa HX).mono ?_
 rintro e w1 ⟨rfl,hb⟩
 have HW:=Qh hb
 clear hb
 cases r
 all_goals
  go_wp2
  go_ret
  exact ⟨rfl,Qa HW⟩
namespace fUe62
abbrev KP:= @func217
abbrev fv2:= @ntmps217
end fUe62
open fUe62 in
theorem index_Es {W:World} {n:Nat} {v p:Value} {P:Nat→List Value→Prop} {q:Nat→Bool} {g:Nat} (he: ∀ args w,(callFunc g args).run prog w= .ok (.enter g args) w) (hv:QR W 1 24 n v P)
 (hf: ∀ W',Below W.heap.size W W'→ ∀ i u,i<n→P i [u]→Calls prog g #[u,p] W' fun e W2=>e= .returned (.bool (q i))∧Below W'.heap.size W' W2) :
 Calls prog 217 #[v,.func (Fn.func g) #[] #[p]] W fun e W'=>e= .returned (.int .i64 (idxN n q))∧Below W.heap.size W W':=fMUe6
theorem contains_Es {W:World} {n:Nat} {v p:Value} {P:Nat→List Value→Prop} {q:Nat→Bool} {g:Nat} (he: ∀ args w,(callFunc g args).run prog w= .ok (.enter g args) w) (hv:QR W 1 24 n v P)
 (hf: ∀ W',Below W.heap.size W W'→ ∀ i u,i<n→P i [u]→Calls prog g #[u,p] W' fun e W2=>e= .returned (.bool (q i))∧Below W'.heap.size W' W2) :
 Calls prog 201 #[v,.func (Fn.func g) #[] #[p]] W fun e W'=>e= .returned (.bool (decide (0≤idxN n q)))∧Below W.heap.size W W':=by
 have HF:=Qh (index_Es he hv hf)
 clear hf he
 obtain ⟨A,c,rfl,_⟩:=hv
 go_enter func201,ntmps201
 go_wp2_with fail
 refine (Qa HF).mono ?_
 rintro e w2 ⟨rfl,hb2⟩
 go_wp2
 go_ret
 exact ⟨rfl,hb2⟩
namespace fUe72
abbrev KP:= @contains_Es
abbrev fv2:= @func202
abbrev fv3:= @all1_Es
abbrev fv4:= @func159
abbrev fv5:= @ntmps159
end fUe72
open fUe72 in
theorem all_Es {W:World} {n:Nat} {v:Value} {P:Nat→List Value→Prop} {r:Nat→Bool} {f:Nat} (he: ∀ args w,(callFunc f args).run prog w= .ok (.enter f args) w) (hv:QR W 1 24 n v P)
 (hf: ∀ W',Below W.heap.size W W'→ ∀ i u,i<n→P i [u]→Calls prog f #[u] W' fun e W2=>e= .returned (.bool (r i))∧Below W'.heap.size W' W2) :
 Calls prog 159 #[v,.func (Fn.func f) #[] #[]] W fun e W'=>e= .returned (.bool (Zd n r))∧Below W.heap.size W W':=fMUe7
theorem fMUe8 {p:Prop} (h:p:=by
 obtain ⟨A,c,rfl⟩:=QR.form hv
 obtain ⟨z,hz⟩: ∃ z,(decide (1≤(n:Int))&&decide ((n:Int)≤10))=z:=⟨_,rfl⟩
 have CO:Sd W (.call 46 [.int .i64 n,.int .i64 1,.int .i64 10] (.bool z)):=by
  rw [← hz]
  exact Qb.of func46 rfl (by kernel_rfl) (fun w hw=>KF n 1 10 w)
 have AL:Sd W (.call KP [.slice A n c,.func (Fn.func f) #[] #[]] (.bool (Zd n r))):=
  Qb.of fv2 rfl (by kernel_rfl) (fun w hw=>fv3 he (hv.sub (.below hw)) (fun W' hb i u hi hp=>hf W' (Below.andThen hw hb) i u hi hp))
 refine Qj (args:=[.slice A n c,.func (Fn.func f) #[] #[]]) (c:=Qt fv4) fv5 rfl (by kernel_rfl) fun a0 hst=> ?_
 cases z
 · exact gE hst (Zg CO) [.bool false] fun w' hw=>⟨by rw [Zn,hz];rfl,hw⟩
 · exact gE hst (Km CO AL) [.bool (Zd n r)] fun w' hw=>⟨by rw [Zn,hz];rfl,hw⟩
 ):p:=h
namespace fUe80
abbrev KP:Nat:=158
abbrev fv2:= @func158
abbrev fv3:= @all_Tx
noncomputable abbrev fv4:= @f94
abbrev fv5:= @func94
end fUe80
open fUe80 in
theorem row_Tx {W:World} {n:Nat} {v:Value} {P:Nat→List Value→Prop} {r:Nat→Bool} {f:Nat} (he: ∀ args w,(callFunc f args).run prog w= .ok (.enter f args) w) (hv:QR W 1 16 n v P)
 (hf: ∀ W',Below W.heap.size W W'→ ∀ i u,i<n→P i [u]→Calls prog f #[u] W' fun e W2=>e= .returned (.bool (r i))∧Below W'.heap.size W' W2) :
 Calls prog 94 #[v,.func (Fn.func f) #[] #[]] W fun e W'=>e= .returned (.bool (Zn n r))∧Below W.heap.size W W':=fMUe8
namespace fUe81
abbrev KP:Nat:=159
abbrev fv2:= @func159
abbrev fv3:= @all_Es
noncomputable abbrev fv4:= @f95
abbrev fv5:= @func95
end fUe81
open fUe81 in
theorem row_Es {W:World} {n:Nat} {v:Value} {P:Nat→List Value→Prop} {r:Nat→Bool} {f:Nat} (he: ∀ args w,(callFunc f args).run prog w= .ok (.enter f args) w) (hv:QR W 1 24 n v P)
 (hf: ∀ W',Below W.heap.size W W'→ ∀ i u,i<n→P i [u]→Calls prog f #[u] W' fun e W2=>e= .returned (.bool (r i))∧Below W'.heap.size W' W2) :
 Calls prog 95 #[v,.func (Fn.func f) #[] #[]] W fun e W'=>e= .returned (.bool (Zn n r))∧Below W.heap.size W W':=fMUe8
end Go.Proofs.YtddedijencleeaaGreatDoor

/- tree: closures of created, check, selected; item. -/
set_option linter.all false
namespace Go.Proofs.YtddedijencleeaaGreatDoor
set_option maxRecDepth 100000
set_option maxHeartbeats 8000000
open Tryz
open Go.RowKit Go.Lib RC
noncomputable def colT (x:Co):Bool:=QD x.nm&&(decide (1≤x.ty)&&decide (x.ty≤3))
theorem created1_ok (x:Co) (cs:List Value) (W:World) (h:CoIn x cs) :
 Calls prog 153 #[.agg cs.toArray] W fun r W'=>r= .returned (.bool (colT x))∧Below W.heap.size W W':=by
 obtain ⟨nm,ty,nn⟩:=x
 obtain ⟨rfl,sz,sy⟩:=h
 simp only at sz sy
 refine Qj (args:=[.agg #[.string nm,.int .i64 ty,.bool nn]]) (c:=(Qt f153)) func153 rfl (by kernel_rfl) fun a0 hst=> ?_
 obtain ⟨z1,hz1⟩: ∃ z,(QD nm)=z:=⟨_,rfl⟩
 have C2:Sd W (.call 44 [.string nm] (.bool z1)):=by rw [← hz1];exact Qb.of func44 rfl Qd (fun w hw=>Z4 nm sz w)
 cases z1
 · exact gE hst (Zg C2) [.bool false] fun w' hw=>⟨by simp only [colT,hz1,bS];rfl,hw⟩
 obtain ⟨z3,hz3⟩: ∃ z,(decide (1≤ty)&&decide (ty≤3))=z:=⟨_,rfl⟩
 have C4:Sd W (.call 46 [.int .i64 ty,.int .i64 1,.int .i64 3] (.bool z3)):=by rw [← hz3];exact Qb.of func46 rfl Qd (fun w hw=>KF ty 1 3 w)
 exact gE hst (Km C2 C4) [.bool z3] fun w' hw=>⟨by simp only [colT,hz1,hz3,bS];rfl,hw⟩
noncomputable def keyT (x:Ke):Bool:=QB x.nm ⟨#[]⟩&&(x.n:Int)==0&&x.un
theorem created2_ok (x:Ke) (cs:List Value) (W:World) (h:KeIn W x cs) :
 Calls prog 155 #[.agg cs.toArray] W fun r W'=>r= .returned (.bool (keyT x))∧Below W.heap.size W W':=by
 obtain ⟨nm,n,cols,un,pr⟩:=x
 obtain ⟨sz,v,rfl,ks⟩:=h
 obtain ⟨KA,kc,rfl⟩:=ks.form
 simp only at sz
 refine Qj (args:=[.agg #[.string nm,.slice KA n kc,.bool un,.bool pr]]) (c:=(Qt f155)) func155 rfl (by kernel_rfl) fun a0 hst=> ?_
 obtain ⟨z1,hz1⟩: ∃ z,(QB nm ⟨#[]⟩)=z:=⟨_,rfl⟩
 have F2:=sd W (Qb.strEq (t:=9) (a:=nm) (b:=⟨#[]⟩) (by rw [← QB,hz1]))
 cases z1
 · exact gE hst (Zg F2) [.bool false] fun w' hw=>⟨by simp only [keyT,hz1,bS];rfl,hw⟩
 obtain ⟨z3,hz3⟩: ∃ z,(((n:Nat):Int)==0)=z:=⟨_,rfl⟩
 have F4:=QN W hz3
 cases z3
 · exact gE hst (Km F2 F4) [.bool false] fun w' hw=>⟨by simp only [keyT,hz1,hz3,bS];rfl,hw⟩
 exact gE hst (Km F2 F4) [.bool un] fun w' hw=>⟨by simp only [keyT,hz1,hz3,bS];rfl,hw⟩
noncomputable def itemT (x:It):Bool:=if x.star then QE x.e&&QB x.nm ⟨#[]⟩ else QH x.e&&noneB x.nm
theorem item_ok (x:It) (cs:List Value) (W:World) (h:ItIn W x cs) :
 Calls prog 165 #[.agg cs.toArray] W fun r W'=>r= .returned (.bool (itemT x))∧Below W.heap.size W W':=by
 obtain ⟨star,e,nm⟩:=x
 obtain ⟨sz,ds,rfl,ie⟩:=h
 obtain ⟨pk,po,pvk,pvn,pvt,ptb,pnm,pA,pn,pc,ppl,pty,rfl⟩:=ie.form
 simp only at sz
 refine Qj (args:=[.agg #[.bool star,.int .i64 pk,.int .i64 po,.int .i64 pvk,.int .i64 pvn,.string pvt,.string ptb,.string pnm,.slice pA pn pc,.int .i64 ppl,.int .i64 pty,.string nm]]) (c:=(Qt f165)) func165 rfl (by kernel_rfl) fun a0 hst=> ?_
 cases star
 · obtain ⟨z1,hz1⟩: ∃ z,(QH e)=z:=⟨_,rfl⟩
   have C2:Sd W (.call 14 [eV pk po pvk pvn pvt ptb pnm pA pn pc ppl pty] (.bool z1)):=by rw [← hz1];exact Qb.of func14 rfl Qd Qujb
   cases z1
   · exact gE hst (Zg C2) [.bool false] fun w' hw=>⟨by simp only [itemT,hz1,bS];rfl,hw⟩
   obtain ⟨z3,hz3⟩: ∃ z,(noneB nm)=z:=⟨_,rfl⟩
   have C4:Sd W (.call 45 [.string nm] (.bool z3)):=by rw [← hz3];exact Qb.of func45 rfl Qd (fun w hw=>none_ok nm sz w)
   exact gE hst (Km C2 C4) [.bool z3] fun w' hw=>⟨by simp only [itemT,hz1,hz3,bS];rfl,hw⟩
 obtain ⟨z5,hz5⟩: ∃ z,(QE e)=z:=⟨_,rfl⟩
 have C6:Sd W (.call 161 [eV pk po pvk pvn pvt ptb pnm pA pn pc ppl pty] (.bool z5)):=by rw [← hz5];exact Qb.of func161 rfl Qd (fun w hw=>zeroE_tree e _ w (QI.sub (.below hw) ie))
 cases z5
 · exact gE hst (Zg C6) [.bool false] fun w' hw=>⟨by simp only [itemT,hz5,bS];rfl,hw⟩
 obtain ⟨z7,hz7⟩: ∃ z,(QB nm ⟨#[]⟩)=z:=⟨_,rfl⟩
 have F8:=sd W (Qb.strEq (t:=9) (a:=nm) (b:=⟨#[]⟩) (by rw [← QB,hz7]))
 exact gE hst (Km C6 F8) [.bool z7] fun w' hw=>⟨by simp only [itemT,hz5,hz7,bS];rfl,hw⟩
noncomputable def orderT (x:Od):Bool:=QH x.e
theorem selected1_ok (x:Od) (cs:List Value) (W:World) (h:OdIn W x cs) :
 Calls prog 163 #[.agg cs.toArray] W fun r W'=>r= .returned (.bool (orderT x))∧Below W.heap.size W W':=by
 obtain ⟨e,desc⟩:=x
 obtain ⟨ds,rfl,ie⟩:=h
 obtain ⟨pk,po,pvk,pvn,pvt,ptb,pnm,pA,pn,pc,ppl,pty,rfl⟩:=ie.form
 refine Qj (args:=[.agg #[.int .i64 pk,.int .i64 po,.int .i64 pvk,.int .i64 pvn,.string pvt,.string ptb,.string pnm,.slice pA pn pc,.int .i64 ppl,.int .i64 pty,.bool desc]]) (c:=(Qt f163)) func163 rfl (by kernel_rfl) fun a0 hst=> ?_
 obtain ⟨z1,hz1⟩: ∃ z,(QH e)=z:=⟨_,rfl⟩
 have C2:Sd W (.call 14 [eV pk po pvk pvn pvt ptb pnm pA pn pc ppl pty] (.bool z1)):=by rw [← hz1];exact Qb.of func14 rfl Qd Qujb
 exact gE hst (Zg C2) [.bool z1] fun w' hw=>⟨by simp only [orderT,hz1,bS];rfl,hw⟩
noncomputable def setT (x:Go.Proofs.YtddedijencleeaaGreatDoor.St):Bool:=QD x.nm&&QH x.e
theorem check2_ok (x:Go.Proofs.YtddedijencleeaaGreatDoor.St) (cs:List Value) (W:World) (h:StIn W x cs) :
 Calls prog 99 #[.agg cs.toArray] W fun r W'=>r= .returned (.bool (setT x))∧Below W.heap.size W W':=by
 obtain ⟨nm,e⟩:=x
 obtain ⟨sz,ds,rfl,ie⟩:=h
 obtain ⟨pk,po,pvk,pvn,pvt,ptb,pnm,pA,pn,pc,ppl,pty,rfl⟩:=ie.form
 simp only at sz
 refine Qj (args:=[.agg #[.string nm,.int .i64 pk,.int .i64 po,.int .i64 pvk,.int .i64 pvn,.string pvt,.string ptb,.string pnm,.slice pA pn pc,.int .i64 ppl,.int .i64 pty]]) (c:=(Qt f99)) func99 rfl (by kernel_rfl) fun a0 hst=> ?_
 obtain ⟨z1,hz1⟩: ∃ z,(QD nm)=z:=⟨_,rfl⟩
 have C2:Sd W (.call 44 [.string nm] (.bool z1)):=by rw [← hz1];exact Qb.of func44 rfl Qd (fun w hw=>Z4 nm sz w)
 cases z1
 · exact gE hst (Zg C2) [.bool false] fun w' hw=>⟨by simp only [setT,hz1,bS];rfl,hw⟩
 obtain ⟨z3,hz3⟩: ∃ z,(QH e)=z:=⟨_,rfl⟩
 have C4:Sd W (.call 14 [eV pk po pvk pvn pvt ptb pnm pA pn pc ppl pty] (.bool z3)):=by rw [← hz3];exact Qb.of func14 rfl Qd Qujb
 exact gE hst (Km C2 C4) [.bool z3] fun w' hw=>⟨by simp only [setT,hz1,hz3,bS];rfl,hw⟩
theorem created3_ok (n:Nat) (f:Nat→ByteArray) (v:Value) (W:World) (h:ZD W n f v) :
 Calls prog 157 #[v] W fun r W'=>r= .returned (.bool (Zn n fun i=>QD (f i)))∧Below W.heap.size W W':=by
 obtain ⟨A,c,rfl⟩:=h.form
 refine Qj (args:=[.slice A n c]) (c:=(Qt f157)) func157 rfl (by kernel_rfl) fun a0 hst=> ?_
 obtain ⟨z1,hz1⟩: ∃ z,(Zn n fun i=>QD (f i))=z:=⟨_,rfl⟩
 have C2:Sd W (.call 94 [.slice A n c,.func (Fn.func 44) #[] #[]] (.bool z1)):=by rw [← hz1];exact Qb.of func94 rfl Qd (fun w hw=>row_Tx (Zz func44 Qd rfl) (QR.sub h (.below hw)) (fun W' hb i u hi hp=>by obtain ⟨e,hs⟩:=hp;cases e;exact Z4 (f i) hs W'))
 exact Qaz6
theorem check1_ok (n:Nat) (f:Nat→E) (v:Value) (W:World) (h:Z6 W n f v) :
 Calls prog 96 #[v] W fun r W'=>r= .returned (.bool (Zn n fun i=>QH (f i)))∧Below W.heap.size W W':=by
 obtain ⟨A,c,rfl⟩:=h.form
 have h:QR W 10 120 n (.slice A n c) (fun i ds=>QI W (f i) ds):=h
 refine Qj (args:=[.slice A n c]) (c:=(Qt f96)) func96 rfl (by kernel_rfl) fun a0 hst=> ?_
 obtain ⟨z1,hz1⟩: ∃ z,(Zn n fun i=>QH (f i))=z:=⟨_,rfl⟩
 have C2:Sd W (.call 97 [.slice A n c,.func (Fn.func 14) #[] #[]] (.bool z1)):=by rw [← hz1];exact Qb.of func97 rfl Qd (fun w hw=>row_Expr (Zz func14 Qd rfl) (QR.sub h (.below hw)) (fun W' hb i cs hi hp hl=>KY (f i) cs W' (QI.sub QyNa hp)))
 exact Qaz6
end Go.Proofs.YtddedijencleeaaGreatDoor
