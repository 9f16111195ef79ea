/- tree.Is, Print, Expr, Depth. -/
import Derived.Test.YtddedijencleeaaGreatDoorSm
import Derived.Test.YtddedijencleeaaGreatDoorMSq
import Derived.Test.YtddedijencleeaaGreatDoorMVk
import Derived.Test.YtddedijencleeaaGreatDoorVf
set_option linter.all false
namespace Go.Proofs.YtddedijencleeaaGreatDoor
set_option maxRecDepth 100000
set_option maxHeartbeats 8000000
open Tryz
noncomputable section
open Go.RowKit Go.Lib RC
theorem check_two {W:World} {v:Value} {z:Bool} (h:if z=true then v= .nilIface else ErrV W 1 v 20):(v= .nilIface∧z=true)∨((∃ T x,v= .iface T x)∧z=false):=by
 cases z with
 | true=>exact .inl ⟨h,rfl⟩
 | false=>exact .inr ⟨ErrV.iface h,rfl⟩
theorem top_nil (d:Nat):top 0 0 d=(d:Int):=by cases d <;> simp only [top] <;> omega

noncomputable abbrev cIs:Code:=Qt f12
theorem treeIs_ok (s:S) (cs:List Value) (W:World) (h:Ks W s cs):Calls prog 12 #[.agg cs.toArray] W fun r W'=>r= .returned (.bool (Zw s))∧Below W.heap.size W W':=by
 obtain ⟨kind,⟨tnm,tnc,tcols,tnk,tkeys⟩,nkc,kc,nm,ix,un,⟨ncl,cl⟩,nrw,rw_,nst,st,wh,di,nit,it,nfr,fr,⟨ngr,gr⟩,hv,nor,od,li⟩:=s
 obtain ⟨tA,tc,tB,td,A1,c1,A2,c2,A3,c3,A4,c4,A5,c5,A6,c6,A7,c7,A8,c8,wk,wo,wvk,wvn,wvt,wtb,wnm,wA,wn,wc,wpl,wty,hk,ho,hvk,hvn,hvt,htb,hnm,hA,hn,hc,hpl,hty,rfl,h0,ia,t1,t2⟩:=Ks.opn h
 let x1x:List Value:=[.agg (Zs kind tnm tA tnc tc tB tnk td A1 nkc c1 nm ix un A2 ncl c2 A3 nrw c3 A4 nst c4 wk wo wvk wvn wvt wtb wnm wA wn wc wpl wty di A5 nit c5 A6 nfr c6 A7 ngr c7 hk ho hvk hvn hvt htb hnm hA hn hc hpl hty A8 nor c8 li).toArray]
 have iwh:=ia.wh
 have ihv:=ia.hv
 have iwf:=ia.wf
 have itn:=ia.tab.1
 refine Qj (args:=x1x) (c:=cIs) func12 rfl (by kernel_rfl) fun a0 hst=> ?_
 refine gO cIs (.op 1 1) [(3,.v (.agg (Zs kind tnm tA tnc tc tB tnk td A1 nkc c1 nm ix un A2 ncl c2 A3 nrw c3 A4 nst c4 wk wo wvk wvn wvt wtb wnm wA wn wc wpl wty di A5 nit c5 A6 nfr c6 A7 ngr c7 hk ho hvk hvn hvt htb hnm hA hn hc hpl hty A8 nor c8 li).toArray))] [bx (Zs kind tnm tA tnc tc tB tnk td A1 nkc c1 nm ix un A2 ncl c2 A3 nrw c3 A4 nst c4 wk wo wvk wvn wvt wtb wnm wA wn wc wpl wty di A5 nit c5 A6 nfr c6 A7 ngr c7 hk ho hvk hvn hvt htb hnm hA hn hc hpl hty A8 nor c8 li)] hst Zk fun G1 a1 w1 h1 _=> ?_
 refine cV 4 25 (Qc cIs (.op 1 2)) [] x1x h1 func25 (check_ok _ _ w1 (Ks.sub (.below h1.rp.below) h0)) fun e w2 hp=> ?_
 obtain ⟨v,rfl,hvE,hb⟩:=hp
 refine ⟨v,rfl,fun a2 he=> ?_⟩
 have hq:=check_two hvE
 refine nil_at (d:=5) (eq:=true) (y:=.v v) (k':=Qc cIs (.op 1 3)) [] (he.st w2) Qv underlying44 rfl hq rfl fun a3 he3=> ?_
 exact gE (he3.st w2) Zk [.bool _] fun w3 hw3=>⟨rfl,Below.andThen (Below.andThen h1.rp.below hb) hw3⟩
noncomputable abbrev cPt:Code:=Qt f8
abbrev qw1:Array Value:=#[.pointer none,.slice none 0 0,.int .i64 0,.int .i64 0]
abbrev qw2:List Value:=[.pointer none,.slice none 0 0,.int .i64 0,.int .i64 0]
theorem treePrint_ok (s:S) (cs:List Value) (W:World) (h:Ks W s cs) (hP:PrW W) (hd:Zw s=true→QP s≤1000∧(Qy s).length≤140737488355328) (hne:Zw s=true→Qy s≠[]):Calls prog 8 #[.agg cs.toArray] W fun r W'=> ∃ t e,r= .returned (.tuple #[.string t,e])∧(if Zw s=true then t=⟨(Qy s).toArray⟩∧e= .nilIface else t=⟨#[]⟩∧ErrV W' 1 e 20)∧Below W.heap.size W W':=by
 obtain ⟨kind,⟨tnm,tnc,tcols,tnk,tkeys⟩,nkc,kc,nm,ix,un,⟨ncl,cl⟩,nrw,rw_,nst,st,wh,di,nit,it,nfr,fr,⟨ngr,gr⟩,hv,nor,od,li⟩:=s
 obtain ⟨tA,tc,tB,td,A1,c1,A2,c2,A3,c3,A4,c4,A5,c5,A6,c6,A7,c7,A8,c8,wk,wo,wvk,wvn,wvt,wtb,wnm,wA,wn,wc,wpl,wty,hk,ho,hvk,hvn,hvt,htb,hnm,hA,hn,hc,hpl,hty,rfl,h0,ia,t1,t2⟩:=Ks.opn h
 let x3x:List Value:=(Zs kind tnm tA tnc tc tB tnk td A1 nkc c1 nm ix un A2 ncl c2 A3 nrw c3 A4 nst c4 wk wo wvk wvn wvt wtb wnm wA wn wc wpl wty di A5 nit c5 A6 nfr c6 A7 ngr c7 hk ho hvk hvn hvt htb hnm hA hn hc hpl hty A8 nor c8 li)
 let x2x:List Value:=[.agg (Zs kind tnm tA tnc tc tB tnk td A1 nkc c1 nm ix un A2 ncl c2 A3 nrw c3 A4 nst c4 wk wo wvk wvn wvt wtb wnm wA wn wc wpl wty di A5 nit c5 A6 nfr c6 A7 ngr c7 hk ho hvk hvn hvt htb hnm hA hn hc hpl hty A8 nor c8 li).toArray]
 let x1x:Value:=(.agg (Zs kind tnm tA tnc tc tB tnk td A1 nkc c1 nm ix un A2 ncl c2 A3 nrw c3 A4 nst c4 wk wo wvk wvn wvt wtb wnm wA wn wc wpl wty di A5 nit c5 A6 nfr c6 A7 ngr c7 hk ho hvk hvn hvt htb hnm hA hn hc hpl hty A8 nor c8 li).toArray)
 have iwh:=ia.wh
 have ihv:=ia.hv
 have iwf:=ia.wf
 have itn:=ia.tab.1
 refine Qj (args:=x2x) (c:=cPt) func8 rfl (by kernel_rfl) fun a0 hst=> ?_
 refine gO cPt (.op 1 1) [(6,.v x1x),(1,.p 0 0)] [bx x3x] hst Zk fun G1 a1 w1 h1 _=> ?_
 have sb1:SB w1 (G1.g 0) x3x:=(h1.rp.sb 0 _ rfl).1
 refine cV 7 25 (Qc cPt (.op 1 2)) [(1,.p 0 0)] x2x h1 func25 (check_ok _ _ w1 (Ks.sub (.below h1.rp.below) h0)) fun e w2 hp=> ?_
 obtain ⟨v,rfl,hvE,hb⟩:=hp
 refine ⟨v,rfl,fun a2 he=> ?_⟩
 have hq:=check_two hvE
 have sb2:=sb1.below hb
 have bl2:=Below.andThen h1.rp.below hb
 refine gO cPt (.op 2 1) [(8,.v v),(4,.v v),(1,.v (.pointer (some ⟨G1.g 0,0,none⟩)))] [] (he.st w2) Zk fun G3 a3 w3 h3 _=> ?_
 have sb3:=sb2.below h3.rp.below
 have bl3:=Below.andThen bl2 h3.rp.below
 refine nil_at (d:=9) (eq:=false) (y:=.v v) (k':=Qc cPt (.op 2 2)) [(4,.v v),(1,.v (.pointer (some ⟨G1.g 0,0,none⟩)))] h3 Qv underlying44 rfl hq rfl fun a4 he4=> ?_
 cases hI:Zw ⟨kind,⟨tnm,tnc,tcols,tnk,tkeys⟩,nkc,kc,nm,ix,un,⟨ncl,cl⟩,nrw,rw_,nst,st,wh,di,nit,it,nfr,fr,⟨ngr,gr⟩,hv,nor,od,li⟩ with
 | false=>
  rw [hI,if_neg (by decide)] at hvE
  rw [hI] at he4
  exact gE (he4.st w3) Zk [.string ⟨#[]⟩,v] fun w10 hw10=>⟨_,_,rfl,by rw [if_neg (by simp)];exact ⟨rfl,(hvE.below h3.rp.below).below hw10⟩,Below.andThen bl3 hw10⟩
 | true=>
  rw [hI] at he4
  have hstA:=he4.st w3
  have sbA:=sb3
  have blA:=bl3
  have hd9:=hd hI
  generalize hg0:G1.g 0=g0 at hstA sbA
  refine gO cPt (.op 4 1) [(11,.v (.agg qw1)),(1,.v (.pointer (some ⟨g0,0,none⟩)))] [] hstA Zk fun G4 a4 w4 h4 _=> ?_
  let x4x:Value:=(.pointer (some ⟨w4.heap.size,0,none⟩))
  have sb4:=sbA.below h4.rp.below
  have bl4:=Below.andThen blA h4.rp.below
  refine box_at (d:=12) (t:=76) (y:=.v (.agg qw1)) (k':=Qc cPt (.op 4 2)) [(1,.v (.pointer (some ⟨g0,0,none⟩)))] qw2 h4 Qv rfl rfl rfl fun a5 he5=> ?_
  have hW5:Wr W.heap.size w4.heap.size 0 0 [] (.slice none 0 0) (w4.alloc (.cells qw1 76)):=freshW bl4.size
  have hb5:Below w4.heap.size w4 (w4.alloc (.cells qw1 76)):=(Below.refl _ _).alloc Qo _
  have sb5:=sb4.below hb5
  have bl5:=Below.andThen bl4 hb5
  have h5:=he5.st (w4.alloc (.cells qw1 76))
  generalize hw5:w4.alloc (.cells qw1 76)=w5 at hW5 hb5 sb5 bl5 h5
  have F5:Sd w5 (.get 39 (.pointer (some ⟨g0,0,none⟩)) x1x):=Qb.row Qd Qd sb5.at_ sb5.lt Qo
  refine gO cPt (.op 5 2) [(13,.v x4x),(14,.v x1x),(5,.v x4x)] [] h5 (Zg F5) fun G6 a6 w6 h6 _=> ?_
  have hz:Pz 0 0 (QP ⟨kind,⟨tnm,tnc,tcols,tnk,tkeys⟩,nkc,kc,nm,ix,un,⟨ncl,cl⟩,nrw,rw_,nst,st,wh,di,nit,it,nfr,fr,⟨ngr,gr⟩,hv,nor,od,li⟩) [] (Qy ⟨kind,⟨tnm,tnc,tcols,tnk,tkeys⟩,nkc,kc,nm,ix,un,⟨ncl,cl⟩,nrw,rw_,nst,st,wh,di,nit,it,nfr,fr,⟨ngr,gr⟩,hv,nor,od,li⟩):=⟨by omega,by have:=hd9.1;omega,by omega,by omega,by rw [List.length_nil,Nat.zero_add];exact hd9.2⟩
  refine cV 15 26 (Qc cPt (.op 5 3)) [(5,.v x4x)] [.pointer (some ⟨w4.heap.size,0,none⟩),.agg (Zs kind tnm tA tnc tc tB tnk td A1 nkc c1 nm ix un A2 ncl c2 A3 nrw c3 A4 nst c4 wk wo wvk wvn wvt wtb wnm wA wn wc wpl wty di A5 nit c5 A6 nfr c6 A7 ngr c7 hk ho hvk hvn hvt htb hnm hA hn hc hpl hty A8 nor c8 li).toArray] h6 func26 (stmt_pr hP _ _ h0 hI _ _ _ _ _ _ Qdnl (hW5.keep h6.rp.below) hz) fun e w7 hp=> ?_
  obtain ⟨rfl,v7,hw7,hs7⟩:=hp
  refine ⟨_,rfl,fun a7 he7=> ?_⟩
  have bl6:=Below.andThen bl5 h6.rp.below
  have bl7:Below W.heap.size W w7:=bl6.trans QgWA
  rw [List.nil_append] at hw7
  refine gO cPt (.op 6 3) [(18,.v x4x)] [] (he7.st w7) Zk fun G8 a8 w8 h8 _=> ?_
  refine cV 19 27 (Qc cPt (.op 6 4)) [] [.pointer (some ⟨w4.heap.size,0,none⟩)] h8 func27 (builderText (hw7.keep h8.rp.below) (hne hI)) fun e w9 hp=> ?_
  obtain ⟨rfl,hb9⟩:=hp
  refine ⟨_,rfl,fun a9 he9=> ?_⟩
  exact gE (he9.st w9) Zk [.string ⟨(Qy ⟨kind,⟨tnm,tnc,tcols,tnk,tkeys⟩,nkc,kc,nm,ix,un,⟨ncl,cl⟩,nrw,rw_,nst,st,wh,di,nit,it,nfr,fr,⟨ngr,gr⟩,hv,nor,od,li⟩).toArray⟩,.nilIface] fun w10 hw10=>⟨_,_,rfl,by rw [if_pos rfl];exact ⟨rfl,rfl⟩,Below.andThen ((Below.andThen bl7 h8.rp.below).trans hb9) hw10⟩
noncomputable abbrev cDp:Code:=Qt f17
theorem treeDepth_ok (s:S) (cs:List Value) (W:World) (h:Ks W s cs) (hP:PrW W) (hd:Zw s=true→QP s≤1000∧(Qy s).length≤140737488355328):Calls prog 17 #[.agg cs.toArray] W fun r W'=>r= .returned (.int .i64 (if Zw s=true then (QP s:Int) else 0))∧Below W.heap.size W W':=by
 obtain ⟨kind,⟨tnm,tnc,tcols,tnk,tkeys⟩,nkc,kc,nm,ix,un,⟨ncl,cl⟩,nrw,rw_,nst,st,wh,di,nit,it,nfr,fr,⟨ngr,gr⟩,hv,nor,od,li⟩:=s
 obtain ⟨tA,tc,tB,td,A1,c1,A2,c2,A3,c3,A4,c4,A5,c5,A6,c6,A7,c7,A8,c8,wk,wo,wvk,wvn,wvt,wtb,wnm,wA,wn,wc,wpl,wty,hk,ho,hvk,hvn,hvt,htb,hnm,hA,hn,hc,hpl,hty,rfl,h0,ia,t1,t2⟩:=Ks.opn h
 let x3x:List Value:=(Zs kind tnm tA tnc tc tB tnk td A1 nkc c1 nm ix un A2 ncl c2 A3 nrw c3 A4 nst c4 wk wo wvk wvn wvt wtb wnm wA wn wc wpl wty di A5 nit c5 A6 nfr c6 A7 ngr c7 hk ho hvk hvn hvt htb hnm hA hn hc hpl hty A8 nor c8 li)
 let x2x:List Value:=[.agg (Zs kind tnm tA tnc tc tB tnk td A1 nkc c1 nm ix un A2 ncl c2 A3 nrw c3 A4 nst c4 wk wo wvk wvn wvt wtb wnm wA wn wc wpl wty di A5 nit c5 A6 nfr c6 A7 ngr c7 hk ho hvk hvn hvt htb hnm hA hn hc hpl hty A8 nor c8 li).toArray]
 let x1x:Value:=(.agg (Zs kind tnm tA tnc tc tB tnk td A1 nkc c1 nm ix un A2 ncl c2 A3 nrw c3 A4 nst c4 wk wo wvk wvn wvt wtb wnm wA wn wc wpl wty di A5 nit c5 A6 nfr c6 A7 ngr c7 hk ho hvk hvn hvt htb hnm hA hn hc hpl hty A8 nor c8 li).toArray)
 have iwh:=ia.wh
 have ihv:=ia.hv
 have iwf:=ia.wf
 have itn:=ia.tab.1
 have FI:Sd W (.call 12 x2x (.bool (Zw ⟨kind,⟨tnm,tnc,tcols,tnk,tkeys⟩,nkc,kc,nm,ix,un,⟨ncl,cl⟩,nrw,rw_,nst,st,wh,di,nit,it,nfr,fr,⟨ngr,gr⟩,hv,nor,od,li⟩))):=Qb.of func12 rfl Qd (fun w hw=>treeIs_ok _ _ w QgdQ)
 refine Qj (args:=x2x) (c:=cDp) func17 rfl (by kernel_rfl) fun a0 hst=> ?_
 cases hI:Zw ⟨kind,⟨tnm,tnc,tcols,tnk,tkeys⟩,nkc,kc,nm,ix,un,⟨ncl,cl⟩,nrw,rw_,nst,st,wh,di,nit,it,nfr,fr,⟨ngr,gr⟩,hv,nor,od,li⟩ with
 | false=>
  rw [hI] at FI
  exact gE hst (Zg FI) [.int .i64 0] fun w' hw=>⟨rfl,hw⟩
 | true=>
  rw [hI] at FI
  refine gO cDp (.op 3 0) [(1,.p 0 0)] [bx x3x] hst (Zg FI) fun G1 a1 w1 h1 _=> ?_
  have sbA:SB w1 (G1.g 0) x3x:=(h1.rp.sb 0 _ rfl).1
  have hstA:=h1.reb
  have blA:=h1.rp.below
  have hd9:=hd hI
  generalize hg0:G1.g 0=g0 at sbA
  have hstA:RC.St w1.heap.size w1 f17.ntmps (vfr [(1,.pointer (some ⟨g0,0,none⟩))]) [] env0 a1 w1:=by rw [← hg0];exact hstA
  refine gO cDp (.op 3 1) [(7,.v (.agg qw1)),(1,.v (.pointer (some ⟨g0,0,none⟩)))] [] hstA Zk fun G4 a4 w4 h4 _=> ?_
  let x4x:Value:=(.pointer (some ⟨w4.heap.size,0,none⟩))
  have sb4:=sbA.below h4.rp.below
  have bl4:=Below.andThen blA h4.rp.below
  refine box_at (d:=8) (t:=76) (y:=.v (.agg qw1)) (k':=Qc cDp (.op 3 2)) [(1,.v (.pointer (some ⟨g0,0,none⟩)))] qw2 h4 Qv rfl rfl rfl fun a5 he5=> ?_
  have hW5:Wr W.heap.size w4.heap.size 0 0 [] (.slice none 0 0) (w4.alloc (.cells qw1 76)):=freshW bl4.size
  have hb5:Below w4.heap.size w4 (w4.alloc (.cells qw1 76)):=(Below.refl _ _).alloc Qo _
  have sb5:=sb4.below hb5
  have bl5:=Below.andThen bl4 hb5
  have h5:=he5.st (w4.alloc (.cells qw1 76))
  generalize hw5:w4.alloc (.cells qw1 76)=w5 at hW5 hb5 sb5 bl5 h5
  have F5:Sd w5 (.get 39 (.pointer (some ⟨g0,0,none⟩)) x1x):=Qb.row Qd Qd sb5.at_ sb5.lt Qo
  refine gO cDp (.op 4 2) [(9,.v x4x),(10,.v x1x),(3,.v x4x)] [] h5 (Zg F5) fun G6 a6 w6 h6 _=> ?_
  have hz:Pz 0 0 (QP ⟨kind,⟨tnm,tnc,tcols,tnk,tkeys⟩,nkc,kc,nm,ix,un,⟨ncl,cl⟩,nrw,rw_,nst,st,wh,di,nit,it,nfr,fr,⟨ngr,gr⟩,hv,nor,od,li⟩) [] (Qy ⟨kind,⟨tnm,tnc,tcols,tnk,tkeys⟩,nkc,kc,nm,ix,un,⟨ncl,cl⟩,nrw,rw_,nst,st,wh,di,nit,it,nfr,fr,⟨ngr,gr⟩,hv,nor,od,li⟩):=⟨by omega,by have:=hd9.1;omega,by omega,by omega,by rw [List.length_nil,Nat.zero_add];exact hd9.2⟩
  refine cV 11 26 (Qc cDp (.op 4 3)) [(3,.v x4x)] [.pointer (some ⟨w4.heap.size,0,none⟩),.agg (Zs kind tnm tA tnc tc tB tnk td A1 nkc c1 nm ix un A2 ncl c2 A3 nrw c3 A4 nst c4 wk wo wvk wvn wvt wtb wnm wA wn wc wpl wty di A5 nit c5 A6 nfr c6 A7 ngr c7 hk ho hvk hvn hvt htb hnm hA hn hc hpl hty A8 nor c8 li).toArray] h6 func26 (stmt_pr hP _ _ h0 hI _ _ _ _ _ _ Qdnl (hW5.keep h6.rp.below) hz) fun e w7 hp=> ?_
  obtain ⟨rfl,v7,hw7,hs7⟩:=hp
  refine ⟨_,rfl,fun a7 he7=> ?_⟩
  have bl6:=Below.andThen bl5 h6.rp.below
  have bl7:Below W.heap.size W w7:=bl6.trans QgWA
  rw [List.nil_append] at hw7
  have F7:Sd w7 (.get 3 (.pointer (some ⟨w4.heap.size,3,none⟩)) (.int .i64 (top 0 0 (QP ⟨kind,⟨tnm,tnc,tcols,tnk,tkeys⟩,nkc,kc,nm,ix,un,⟨ncl,cl⟩,nrw,rw_,nst,st,wh,di,nit,it,nfr,fr,⟨ngr,gr⟩,hv,nor,od,li⟩)))):=Qb.cell Qd hw7.cells.2.2.1 hw7.lt Qo
  exact gE (he7.st w7) (Zg F7) [.int .i64 (top 0 0 (QP ⟨kind,⟨tnm,tnc,tcols,tnk,tkeys⟩,nkc,kc,nm,ix,un,⟨ncl,cl⟩,nrw,rw_,nst,st,wh,di,nit,it,nfr,fr,⟨ngr,gr⟩,hv,nor,od,li⟩))] fun w10 hw10=>⟨by rw [if_pos rfl,top_nil];rfl,Below.andThen bl7 hw10⟩
noncomputable abbrev cEp9:Code:=Qt f10
theorem treeExpr_ok (e:E) (cs:List Value) (W:World) (h:QI W e cs) (hP:PrW W) (hd:QH e=true→QQ e≤1000∧(Qg e).length≤140737488355328) (hne:QH e=true→Qg e≠[]):Calls prog 10 #[.agg cs.toArray] W fun r W'=> ∃ t x,r= .returned (.tuple #[.string t,x])∧(if QH e=true then t=⟨(Qg e).toArray⟩∧x= .nilIface else t=⟨#[]⟩∧ErrV W' 1 x 20)∧Below W.heap.size W W':=by
 have h0:=h
 obtain ⟨pk,po,pvk,pvn,pvt,ptb,pnm,pA,pn,pc,ppl,pty,rfl⟩:=h0.form
 have FI:Sd W (.call 14 [eV pk po pvk pvn pvt ptb pnm pA pn pc ppl pty] (.bool (QH e))):=Qb.of func14 rfl Qd (fun w hw=>KY e _ w QmqK)
 refine Qj (args:=[eV pk po pvk pvn pvt ptb pnm pA pn pc ppl pty]) (c:=cEp9) func10 rfl (by kernel_rfl) fun a0 hst=> ?_
 cases hI:QH e with
 | false=>
  rw [hI] at FI
  refine gO cEp9 (.op 2 0) [] [bx (eL pk po pvk pvn pvt ptb pnm pA pn pc ppl pty)] hst (Zg FI) fun G1 a1 w1 h1 _=> ?_
  refine cV 8 34 (Qc cEp9 (.op 2 1)) [] [.string ⟨#[101,120,112,114,101,115,115,105,111,110]⟩] h1 func34 (Zh _ w1) fun e w2 hp=> ?_
  obtain ⟨v,rfl,hE,hb⟩:=hp
  refine ⟨v,rfl,fun a2 he=> ?_⟩
  exact gE (he.st w2) Zk [.string ⟨#[]⟩,v] fun w10 hw10=>⟨_,_,rfl,by rw [if_neg (by simp)];exact ⟨rfl,hE.below hw10⟩,Below.andThen (Below.andThen h1.rp.below hb) hw10⟩
 | true=>
  rw [hI] at FI
  refine gO cEp9 (.op 3 0) [(1,.p 0 0)] [bx (eL pk po pvk pvn pvt ptb pnm pA pn pc ppl pty)] hst (Zg FI) fun G1 a1 w1 h1 _=> ?_
  have sbA:SB w1 (G1.g 0) (eL pk po pvk pvn pvt ptb pnm pA pn pc ppl pty):=(h1.rp.sb 0 _ rfl).1
  have hstA:=h1.reb
  have blA:=h1.rp.below
  have hd9:=hd hI
  have hne:=hne hI
  generalize hg0:G1.g 0=g0 at sbA
  have hstA:RC.St w1.heap.size w1 f10.ntmps (vfr [(1,.pointer (some ⟨g0,0,none⟩))]) [] env0 a1 w1:=by rw [← hg0];exact hstA
  refine gO cEp9 (.op 3 1) [(9,.v (.agg qw1)),(1,.v (.pointer (some ⟨g0,0,none⟩)))] [] hstA Zk fun G4 a4 w4 h4 _=> ?_
  let x1x:Value:=(.pointer (some ⟨w4.heap.size,0,none⟩))
  have sb4:=sbA.below h4.rp.below
  have bl4:=Below.andThen blA h4.rp.below
  refine box_at (d:=10) (t:=76) (y:=.v (.agg qw1)) (k':=Qc cEp9 (.op 3 2)) [(1,.v (.pointer (some ⟨g0,0,none⟩)))] qw2 h4 Qv rfl rfl rfl fun a5 he5=> ?_
  have hW5:Wr W.heap.size w4.heap.size 0 0 [] (.slice none 0 0) (w4.alloc (.cells qw1 76)):=freshW bl4.size
  have hb5:Below w4.heap.size w4 (w4.alloc (.cells qw1 76)):=(Below.refl _ _).alloc Qo _
  have sb5:=sb4.below hb5
  have bl5:=Below.andThen bl4 hb5
  have h5:=he5.st (w4.alloc (.cells qw1 76))
  generalize hw5:w4.alloc (.cells qw1 76)=w5 at hW5 hb5 sb5 bl5 h5
  have F5:Sd w5 (.get 34 (.pointer (some ⟨g0,0,none⟩)) (eV pk po pvk pvn pvt ptb pnm pA pn pc ppl pty)):=Qb.row Qd Qd sb5.at_ sb5.lt Qo
  refine gO cEp9 (.op 4 2) [(11,.v x1x),(12,.v (eV pk po pvk pvn pvt ptb pnm pA pn pc ppl pty)),(4,.v x1x)] [] h5 (Zg F5) fun G6 a6 w6 h6 _=> ?_
  have hz:Pz 0 0 (QQ e) [] (Qg e):=⟨by omega,by have:=hd9.1;omega,by omega,by omega,by rw [List.length_nil,Nat.zero_add];exact hd9.2⟩
  refine cV 13 35 (Qc cEp9 (.op 4 3)) [(4,.v x1x)] [.pointer (some ⟨w4.heap.size,0,none⟩),eV pk po pvk pvn pvt ptb pnm pA pn pc ppl pty] h6 func35 (expr_pr hP e _ hI h _ _ _ _ _ _ Qdnl (hW5.keep h6.rp.below) hz) fun e w7 hp=> ?_
  obtain ⟨rfl,v7,hw7,hs7⟩:=hp
  refine ⟨_,rfl,fun a7 he7=> ?_⟩
  have bl6:=Below.andThen bl5 h6.rp.below
  have bl7:Below W.heap.size W w7:=bl6.trans QgWA
  rw [List.nil_append] at hw7
  refine gO cEp9 (.op 5 3) [(16,.v x1x)] [] (he7.st w7) Zk fun G8 a8 w8 h8 _=> ?_
  refine cV 17 27 (Qc cEp9 (.op 5 4)) [] [.pointer (some ⟨w4.heap.size,0,none⟩)] h8 func27 (builderText (hw7.keep h8.rp.below) hne) fun e w9 hp=> ?_
  obtain ⟨rfl,hb9⟩:=hp
  refine ⟨_,rfl,fun a9 he9=> ?_⟩
  exact gE (he9.st w9) Zk [.string ⟨(Qg e).toArray⟩,.nilIface] fun w10 hw10=>⟨_,_,rfl,by rw [if_pos rfl];exact ⟨rfl,rfl⟩,Below.andThen ((Below.andThen bl7 h8.rp.below).trans hb9) hw10⟩
end
end Go.Proofs.YtddedijencleeaaGreatDoor

/- ref9.sign, wraps, arg. -/
set_option linter.all false
namespace Go.Proofs.YtddedijencleeaaGreatDoor
set_option maxRecDepth 100000
set_option maxHeartbeats 8000000
open Tryz
open Go.RowKit Go.Lib RC
def ZP (k op:Int) (i:Nat) (a:E):Bool:= !(!(k==3)&& !(k==4)&&(!(k==5)||decide (0<((i:Nat):Int))))&&Qs k op a
theorem QI.form2 {W:World}: ∀ {e:E} {cs:List Value},QI W e cs→ ∃ k op vk vn vt tb nm A n c pl ty,cs=(eL k op vk vn vt tb nm A n c pl ty)∧JK e=k∧vkE e=vk∧vnE e=vn
 | .no,_,h=>False.elim h
 | .mk k op vk vn vt tb nm n args pl ty,cs,h=>by
   obtain ⟨_,v,rfl,hv⟩:=h
   obtain ⟨A,c,rfl⟩:=QR.form hv
   exact ⟨_,_,_,_,_,_,_,_,_,_,_,_,rfl,rfl,rfl,rfl⟩
theorem closedE_of {k op ak avk avn:Int} {a:E} (h1:JK a=ak) (h2:vkE a=avk) (h3:vnE a=avn):Qs k op a=((ak==3||ak==4||ak==5)||(ak==1&&avk==2&&(decide (avn<0)||(k==3&&op==1)))):=by
 subst h1 h2 h3;rfl
theorem bytes_eq {s:ByteArray} {l:List UInt8} (h:s.data.toList=l):s=⟨l.toArray⟩:=by
 subst h
 exact ByteArray.ext (by simp)
theorem Qb.addBs {P:Program} {N:Nat} {W:World} {t:TypeId} {a b:ByteArray} {la lb:List UInt8} (ha:a.data.toList=la) (hb:b.data.toList=lb) (h:la.length+lb.length≤9223372036854775807):Qb.ok P N W (.bin .add t (.string a) (.string b) (.string ⟨(la++lb).toArray⟩)):=by
 have e:a++b=⟨(la++lb).toArray⟩:=bytes_eq (by rw [Zy,ha,hb])
 rw [← e]
 exact Qb.addStr (by rw [QK,QK,ha,hb];exact h)

theorem Z8 (W:World) (la:List UInt8) (lb:List UInt8) (h:(la).length+(lb).length≤9223372036854775807):Sd W (.bin .add 9 (.string ⟨la.toArray⟩) (.string ⟨lb.toArray⟩) (.string ⟨(la++lb).toArray⟩)):=Qb.addBs (Qi _) (Qi _) h
theorem xLB (W:World) (la:List UInt8) (b:ByteArray) (h:(la).length+(b.data.toList).length≤9223372036854775807):Sd W (.bin .add 9 (.string ⟨la.toArray⟩) (.string b) (.string ⟨(la++b.data.toList).toArray⟩)):=Qb.addBs (Qi _) rfl h
theorem xBL (W:World) (a:ByteArray) (lb:List UInt8) (h:(a.data.toList).length+(lb).length≤9223372036854775807):Sd W (.bin .add 9 (.string a) (.string ⟨lb.toArray⟩) (.string ⟨(a.data.toList++lb).toArray⟩)):=Qb.addBs rfl (Qi _) h
theorem xBB (W:World) (a:ByteArray) (b:ByteArray) (h:(a.data.toList).length+(b.data.toList).length≤9223372036854775807):Sd W (.bin .add 9 (.string a) (.string b) (.string ⟨(a.data.toList++b.data.toList).toArray⟩)):=Qb.addBs rfl rfl h
noncomputable abbrev r9Sg:Code:=Qt f117
theorem sign9_ok (op:Int) (h:5≤op∧op≤18) (W:World):Calls prog 117 #[.int .i64 op] W fun r W'=>r= .returned (.string ⟨(signL op).toArray⟩)∧Below W.heap.size W W':=by
 have hq:op=5∨op=6∨op=7∨op=8∨op=9∨op=10∨op=11∨op=12∨op=13∨op=14∨op=15∨op=16∨op=17∨op=18:=by omega
 rcases hq with rfl | rfl | rfl | rfl | rfl | rfl | rfl | rfl | rfl | rfl | rfl | rfl | rfl | rfl
 · refine Qj (args:=[.int .i64 5]) (c:=r9Sg) func117 rfl (by kernel_rfl) fun a0 hst=> ?_
   have F1:=sd W (Qb.subI (t:=3) (k:=.i64) (a:=5) (b:=5) (c:=0) (by decide))
   exact QlbI
 · refine Qj (args:=[.int .i64 6]) (c:=r9Sg) func117 rfl (by kernel_rfl) fun a0 hst=> ?_
   have F1:=sd W (Qb.subI (t:=3) (k:=.i64) (a:=6) (b:=5) (c:=1) (by decide))
   exact QF58
 · refine Qj (args:=[.int .i64 7]) (c:=r9Sg) func117 rfl (by kernel_rfl) fun a0 hst=> ?_
   have F1:=sd W (Qb.subI (t:=3) (k:=.i64) (a:=7) (b:=5) (c:=2) (by decide))
   exact QhWs
 · refine Qj (args:=[.int .i64 8]) (c:=r9Sg) func117 rfl (by kernel_rfl) fun a0 hst=> ?_
   have F1:=sd W (Qb.subI (t:=3) (k:=.i64) (a:=8) (b:=5) (c:=3) (by decide))
   exact QOew
 · refine Qj (args:=[.int .i64 9]) (c:=r9Sg) func117 rfl (by kernel_rfl) fun a0 hst=> ?_
   have F1:=sd W (Qb.subI (t:=3) (k:=.i64) (a:=9) (b:=5) (c:=4) (by decide))
   exact QV63
 · refine Qj (args:=[.int .i64 10]) (c:=r9Sg) func117 rfl (by kernel_rfl) fun a0 hst=> ?_
   have F1:=sd W (Qb.subI (t:=3) (k:=.i64) (a:=10) (b:=5) (c:=5) (by decide))
   exact QMXJ
 · refine Qj (args:=[.int .i64 11]) (c:=r9Sg) func117 rfl (by kernel_rfl) fun a0 hst=> ?_
   have F1:=sd W (Qb.subI (t:=3) (k:=.i64) (a:=11) (b:=5) (c:=6) (by decide))
   exact QeIx
 · refine Qj (args:=[.int .i64 12]) (c:=r9Sg) func117 rfl (by kernel_rfl) fun a0 hst=> ?_
   have F1:=sd W (Qb.subI (t:=3) (k:=.i64) (a:=12) (b:=5) (c:=7) (by decide))
   exact Qd3H
 · refine Qj (args:=[.int .i64 13]) (c:=r9Sg) func117 rfl (by kernel_rfl) fun a0 hst=> ?_
   have F1:=sd W (Qb.subI (t:=3) (k:=.i64) (a:=13) (b:=5) (c:=8) (by decide))
   exact QfYF
 · refine Qj (args:=[.int .i64 14]) (c:=r9Sg) func117 rfl (by kernel_rfl) fun a0 hst=> ?_
   have F1:=sd W (Qb.subI (t:=3) (k:=.i64) (a:=14) (b:=5) (c:=9) (by decide))
   exact QKp2
 · refine Qj (args:=[.int .i64 15]) (c:=r9Sg) func117 rfl (by kernel_rfl) fun a0 hst=> ?_
   have F1:=sd W (Qb.subI (t:=3) (k:=.i64) (a:=15) (b:=5) (c:=10) (by decide))
   exact QawA
 · refine Qj (args:=[.int .i64 16]) (c:=r9Sg) func117 rfl (by kernel_rfl) fun a0 hst=> ?_
   have F1:=sd W (Qb.subI (t:=3) (k:=.i64) (a:=16) (b:=5) (c:=11) (by decide))
   exact Qvy1
 · refine Qj (args:=[.int .i64 17]) (c:=r9Sg) func117 rfl (by kernel_rfl) fun a0 hst=> ?_
   have F1:=sd W (Qb.subI (t:=3) (k:=.i64) (a:=17) (b:=5) (c:=12) (by decide))
   exact QePY
 refine Qj (args:=[.int .i64 18]) (c:=r9Sg) func117 rfl (by kernel_rfl) fun a0 hst=> ?_
 have F1:=sd W (Qb.subI (t:=3) (k:=.i64) (a:=18) (b:=5) (c:=13) (by decide))
 exact QSXL
noncomputable abbrev r9Wr:Code:=Qt f146
theorem wraps9_ok (k op vk vn:Int) (vt tb nm:ByteArray) (A:Option Addr) (n c:Nat) (pl ty:Int) {args:Nat→E} {W:World} (hsl:QR W 10 120 n (.slice A n c) fun i ds=>QI W (args i) ds) (i:Nat) (hi:i<n):Calls prog 146 #[.agg ((eL k op vk vn vt tb nm A n c pl ty)).toArray,.int .i64 i] W fun r W'=>r= .returned (.bool (ZP k op i (args i)))∧Below W.heap.size W W':=by
 obtain ⟨eb,eo,ed,ecs,eq,el,em,ep,er⟩:=hsl.at (i:=i) hi
 obtain ⟨pk,po,pvk,pvn,pvt,ptb,pnm,pA,pn,pc,ppl,pty,rfl,qk,qvk,qvn⟩:=QI.form2 ep
 have hcl:=closedE_of (k:=k) (op:=op) qk qvk qvn
 refine Qj (args:=[eV k op vk vn vt tb nm A n c pl ty,.int .i64 ((i:Nat):Int)]) (c:=r9Wr) func146 rfl (by kernel_rfl) fun a0 hst=> ?_
 obtain ⟨z1,hz1⟩: ∃ z,(k==3)=z:=⟨_,rfl⟩
 have F2:=sd W (Qb.intNe (t:=3) (k:=.i64) (a:=k) (b:=3) (z:=(!z1)) (by rw [bne,hz1];try rfl))
 cases z1
 rotate_left
 · have F63:=nEl W 10 eq underlying32 hi
   have F64:Sd W (.get 34 (.pointer (some ⟨eb,eo+i*10,none⟩)) (eV pk po pvk pvn pvt ptb pnm pA pn pc ppl pty)):=Qb.row Qd Qd er el Qo
   obtain ⟨z65,hz65⟩: ∃ z,(pk==1)=z:=⟨_,rfl⟩
   have F66:=QN W hz65
   cases z65
   · have F67:=QN W hz1
     obtain ⟨z68,hz68⟩: ∃ z,(op==1)=z:=⟨_,rfl⟩
     have F69:=QN W hz68
     obtain ⟨z70,hz70⟩: ∃ z,(pk==3)=z:=⟨_,rfl⟩
     have F71:=QN W hz70
     cases z70
     · obtain ⟨z72,hz72⟩: ∃ z,(pk==4)=z:=⟨_,rfl⟩
       have F73:=QN W hz72
       cases z72
       · obtain ⟨z74,hz74⟩: ∃ z,(pk==5)=z:=⟨_,rfl⟩
         have F75:=QN W hz74
         cases z74
         · exact gE hst (kE9 F2 F63 F64 F66 F67 F69 F71 F73 F75) [.bool false] fun w' hw=>⟨by simp only [ZP,hcl,hz1,hz65,hz68,hz70,hz72,hz74,bS];rfl,hw⟩
         have he76:=eq_of_beq hz74
         exact gE hst (kE9 F2 F63 F64 F66 F67 F69 F71 F73 F75) [.bool true] fun w' hw=>⟨by simp only [ZP,hcl,hz1,hz65,hz68,hz70,hz72,hz74,bS];rfl,hw⟩
       have he77:=eq_of_beq hz72
       exact gE hst (kE8 F2 F63 F64 F66 F67 F69 F71 F73) [.bool true] fun w' hw=>⟨by simp only [ZP,hcl,hz1,hz65,hz68,hz70,hz72,bS];rfl,hw⟩
     have he78:=eq_of_beq hz70
     exact gE hst (kE7 F2 F63 F64 F66 F67 F69 F71) [.bool true] fun w' hw=>⟨by simp only [ZP,hcl,hz1,hz65,hz68,hz70,bS];rfl,hw⟩
   have he79:=eq_of_beq hz65
   obtain ⟨z80,hz80⟩: ∃ z,(pvk==2)=z:=⟨_,rfl⟩
   have F81:=QN W hz80
   have F82:=QN W hz1
   obtain ⟨z83,hz83⟩: ∃ z,(op==1)=z:=⟨_,rfl⟩
   have F84:=QN W hz83
   have hl85:(pk==3)=false:=by rw [he79];rfl
   have F86:=QN W hl85
   have hl87:(pk==4)=false:=by rw [he79];rfl
   have F88:=QN W hl87
   have hl89:(pk==5)=false:=by rw [he79];rfl
   have F90:=QN W hl89
   cases z80
   · exact gE hst (Kr F2 F63 F64 F66 F81 F82 F84 F86 F88 F90) [.bool false] fun w' hw=>⟨by simp only [ZP,hcl,hz1,hz65,hz80,hz83,hl85,hl87,hl89,bS];rfl,hw⟩
   have he91:=eq_of_beq hz80
   obtain ⟨z92,hz92⟩: ∃ z,(decide (pvn<0))=z:=⟨_,rfl⟩
   have F93:=sd W (Qb.intLt (t:=2) (k:=.i64) (a:=pvn) (b:=0) hz92)
   cases z92
   · exact gE hst (JD F2 F63 F64 F66 F81 F82 F84 F86 F88 F90 F93) [.bool z83] fun w' hw=>⟨by simp only [ZP,hcl,hz1,hz65,hz80,hz83,hl85,hl87,hl89,hz92,bS];rfl,hw⟩
   exact gE hst (JD F2 F63 F64 F66 F81 F82 F84 F86 F88 F90 F93) [.bool true] fun w' hw=>⟨by simp only [ZP,hcl,hz1,hz65,hz80,hz83,hl85,hl87,hl89,hz92,bS];rfl,hw⟩
 obtain ⟨z3,hz3⟩: ∃ z,(k==4)=z:=⟨_,rfl⟩
 have F4:=sd W (Qb.intNe (t:=3) (k:=.i64) (a:=k) (b:=4) (z:=(!z3)) (by rw [bne,hz3];try rfl))
 cases z3
 · obtain ⟨z5,hz5⟩: ∃ z,(k==5)=z:=⟨_,rfl⟩
   have F6:=sd W (Qb.intNe (t:=3) (k:=.i64) (a:=k) (b:=5) (z:=(!z5)) (by rw [bne,hz5];try rfl))
   cases z5
   · exact gE hst (kE3 F2 F4 F6) [.bool false] fun w' hw=>⟨by simp only [ZP,hcl,hz1,hz3,hz5,bS];rfl,hw⟩
   obtain ⟨z7,hz7⟩: ∃ z,(decide (0<((i:Nat):Int)))=z:=⟨_,rfl⟩
   have F8:=nGt W hz7
   cases z7
   rotate_left
   · exact gE hst (Jf F2 F4 F6 F8) [.bool false] fun w' hw=>⟨by simp only [ZP,hcl,hz1,hz3,hz5,hz7,bS];rfl,hw⟩
   have F9:=nEl W 10 eq underlying32 hi
   have F10:Sd W (.get 34 (.pointer (some ⟨eb,eo+i*10,none⟩)) (eV pk po pvk pvn pvt ptb pnm pA pn pc ppl pty)):=Qb.row Qd Qd er el Qo
   obtain ⟨z11,hz11⟩: ∃ z,(pk==1)=z:=⟨_,rfl⟩
   have F12:=QN W hz11
   cases z11
   · have F13:=QN W hz1
     obtain ⟨z14,hz14⟩: ∃ z,(pk==3)=z:=⟨_,rfl⟩
     have F15:=QN W hz14
     cases z14
     · obtain ⟨z16,hz16⟩: ∃ z,(pk==4)=z:=⟨_,rfl⟩
       have F17:=QN W hz16
       cases z16
       · obtain ⟨z18,hz18⟩: ∃ z,(pk==5)=z:=⟨_,rfl⟩
         have F19:=QN W hz18
         cases z18
         · exact gE hst (JD F2 F4 F6 F8 F9 F10 F12 F13 F15 F17 F19) [.bool false] fun w' hw=>⟨by simp only [ZP,hcl,hz1,hz3,hz5,hz7,hz11,hz14,hz16,hz18,bS];rfl,hw⟩
         have he20:=eq_of_beq hz18
         exact gE hst (JD F2 F4 F6 F8 F9 F10 F12 F13 F15 F17 F19) [.bool true] fun w' hw=>⟨by simp only [ZP,hcl,hz1,hz3,hz5,hz7,hz11,hz14,hz16,hz18,bS];rfl,hw⟩
       have he21:=eq_of_beq hz16
       exact gE hst (Kr F2 F4 F6 F8 F9 F10 F12 F13 F15 F17) [.bool true] fun w' hw=>⟨by simp only [ZP,hcl,hz1,hz3,hz5,hz7,hz11,hz14,hz16,bS];rfl,hw⟩
     have he22:=eq_of_beq hz14
     exact gE hst (kE9 F2 F4 F6 F8 F9 F10 F12 F13 F15) [.bool true] fun w' hw=>⟨by simp only [ZP,hcl,hz1,hz3,hz5,hz7,hz11,hz14,bS];rfl,hw⟩
   have he23:=eq_of_beq hz11
   obtain ⟨z24,hz24⟩: ∃ z,(pvk==2)=z:=⟨_,rfl⟩
   have F25:=QN W hz24
   have F26:=QN W hz1
   have hl27:(pk==3)=false:=by rw [he23];rfl
   have F28:=QN W hl27
   have hl29:(pk==4)=false:=by rw [he23];rfl
   have F30:=QN W hl29
   have hl31:(pk==5)=false:=by rw [he23];rfl
   have F32:=QN W hl31
   cases z24
   · exact gE hst (kE12 F2 F4 F6 F8 F9 F10 F12 F25 F26 F28 F30 F32) [.bool false] fun w' hw=>⟨by simp only [ZP,hcl,hz1,hz3,hz5,hz7,hz11,hz24,hl27,hl29,hl31,bS];rfl,hw⟩
   have he33:=eq_of_beq hz24
   obtain ⟨z34,hz34⟩: ∃ z,(decide (pvn<0))=z:=⟨_,rfl⟩
   have F35:=sd W (Qb.intLt (t:=2) (k:=.i64) (a:=pvn) (b:=0) hz34)
   cases z34
   · exact gE hst (kE13 F2 F4 F6 F8 F9 F10 F12 F25 F26 F28 F30 F32 F35) [.bool false] fun w' hw=>⟨by simp only [ZP,hcl,hz1,hz3,hz5,hz7,hz11,hz24,hl27,hl29,hl31,hz34,bS];rfl,hw⟩
   exact gE hst (kE13 F2 F4 F6 F8 F9 F10 F12 F25 F26 F28 F30 F32 F35) [.bool true] fun w' hw=>⟨by simp only [ZP,hcl,hz1,hz3,hz5,hz7,hz11,hz24,hl27,hl29,hl31,hz34,bS];rfl,hw⟩
 have F36:=nEl W 10 eq underlying32 hi
 have F37:Sd W (.get 34 (.pointer (some ⟨eb,eo+i*10,none⟩)) (eV pk po pvk pvn pvt ptb pnm pA pn pc ppl pty)):=Qb.row Qd Qd er el Qo
 obtain ⟨z38,hz38⟩: ∃ z,(pk==1)=z:=⟨_,rfl⟩
 have F39:=QN W hz38
 cases z38
 · have F40:=QN W hz1
   obtain ⟨z41,hz41⟩: ∃ z,(pk==3)=z:=⟨_,rfl⟩
   have F42:=QN W hz41
   cases z41
   · obtain ⟨z43,hz43⟩: ∃ z,(pk==4)=z:=⟨_,rfl⟩
     have F44:=QN W hz43
     cases z43
     · obtain ⟨z45,hz45⟩: ∃ z,(pk==5)=z:=⟨_,rfl⟩
       have F46:=QN W hz45
       cases z45
       · exact gE hst (kE9 F2 F4 F36 F37 F39 F40 F42 F44 F46) [.bool false] fun w' hw=>⟨by simp only [ZP,hcl,hz1,hz3,hz38,hz41,hz43,hz45,bS];rfl,hw⟩
       have he47:=eq_of_beq hz45
       exact gE hst (kE9 F2 F4 F36 F37 F39 F40 F42 F44 F46) [.bool true] fun w' hw=>⟨by simp only [ZP,hcl,hz1,hz3,hz38,hz41,hz43,hz45,bS];rfl,hw⟩
     have he48:=eq_of_beq hz43
     exact gE hst (kE8 F2 F4 F36 F37 F39 F40 F42 F44) [.bool true] fun w' hw=>⟨by simp only [ZP,hcl,hz1,hz3,hz38,hz41,hz43,bS];rfl,hw⟩
   have he49:=eq_of_beq hz41
   exact gE hst (kE7 F2 F4 F36 F37 F39 F40 F42) [.bool true] fun w' hw=>⟨by simp only [ZP,hcl,hz1,hz3,hz38,hz41,bS];rfl,hw⟩
 have he50:=eq_of_beq hz38
 obtain ⟨z51,hz51⟩: ∃ z,(pvk==2)=z:=⟨_,rfl⟩
 have F52:=QN W hz51
 have F53:=QN W hz1
 have hl54:(pk==3)=false:=by rw [he50];rfl
 have F55:=QN W hl54
 have hl56:(pk==4)=false:=by rw [he50];rfl
 have F57:=QN W hl56
 have hl58:(pk==5)=false:=by rw [he50];rfl
 have F59:=QN W hl58
 cases z51
 · exact gE hst (Kr F2 F4 F36 F37 F39 F52 F53 F55 F57 F59) [.bool false] fun w' hw=>⟨by simp only [ZP,hcl,hz1,hz3,hz38,hz51,hl54,hl56,hl58,bS];rfl,hw⟩
 have he60:=eq_of_beq hz51
 obtain ⟨z61,hz61⟩: ∃ z,(decide (pvn<0))=z:=⟨_,rfl⟩
 have F62:=sd W (Qb.intLt (t:=2) (k:=.i64) (a:=pvn) (b:=0) hz61)
 cases z61
 · exact gE hst (JD F2 F4 F36 F37 F39 F52 F53 F55 F57 F59 F62) [.bool false] fun w' hw=>⟨by simp only [ZP,hcl,hz1,hz3,hz38,hz51,hl54,hl56,hl58,hz61,bS];rfl,hw⟩
 exact gE hst (JD F2 F4 F36 F37 F39 F52 F53 F55 F57 F59 F62) [.bool true] fun w' hw=>⟨by simp only [ZP,hcl,hz1,hz3,hz38,hz51,hl54,hl56,hl58,hz61,bS];rfl,hw⟩
noncomputable abbrev r9Ar:Code:=Qt f116
theorem arg9_ok (k op vk vn:Int) (vt tb nm:ByteArray) (A:Option Addr) (n c:Nat) (pl ty:Int) {args:Nat→E} {W:World} (hsl:QR W 10 120 n (.slice A n c) fun i ds=>QI W (args i) ds) (i:Nat) (hi:i<n) (hb:(Qg (args i)).length≤140737488355328) (HT: ∀ cs w,Below W.heap.size W w→QI w (args i) cs→Calls prog 31 #[.agg cs.toArray] w fun r w'=>r= .returned (.string ⟨(Qg (args i)).toArray⟩)∧Below w.heap.size w w') :
 Calls prog 116 #[.agg ((eL k op vk vn vt tb nm A n c pl ty)).toArray,.int .i64 i] W fun r W'=>r= .returned (.string ⟨(Kd (ZP k op i (args i)) (Qg (args i))).toArray⟩)∧Below W.heap.size W W':=by
 refine Qj (args:=[eV k op vk vn vt tb nm A n c pl ty,.int .i64 ((i:Nat):Int)]) (c:=r9Ar) func116 rfl (by kernel_rfl) fun a0 hst=> ?_
 obtain ⟨z1,hz1⟩: ∃ z,(ZP k op i (args i))=z:=⟨_,rfl⟩
 have C2:Sd W (.call 146 [eV k op vk vn vt tb nm A n c pl ty,.int .i64 ((i:Nat):Int)] (.bool z1)):=by rw [← hz1];exact Qb.of func146 rfl Qd (fun w hw=>wraps9_ok k op vk vn vt tb nm A n c pl ty QncV i hi)
 cases z1
 · obtain ⟨eb1,eo1,ed1,es1,eq1,el1,em1,ep1,er1⟩:=hsl.at (i:=(i)) hi
   have pp1:=ep1
   have en1:=ep1
   obtain ⟨e1k,e1o,e1vk,e1vn,e1vt,e1tb,e1nm,e1A,e1n,e1c,e1pl,e1ty,rfl⟩:=en1.form
   have F3:=nEl W 10 eq1 underlying32 hi
   have F4:Sd W (.get 34 (.pointer (some ⟨eb1,eo1+i*10,none⟩)) (eV e1k e1o e1vk e1vn e1vt e1tb e1nm e1A e1n e1c e1pl e1ty)):=Qb.row Qd Qd er1 el1 Qo
   have C5:Sd W (.call 31 [eV e1k e1o e1vk e1vn e1vt e1tb e1nm e1A e1n e1c e1pl e1ty] (.string ⟨(Qg (args i)).toArray⟩)):=by exact Qb.of func31 rfl Qd (fun w hw=>HT _ w hw (QI.sub (.below hw) ep1))
   exact gE hst (Jf C2 F3 F4 C5) [.string (⟨(Qg (args i)).toArray⟩:ByteArray)] fun w' hw=>⟨congrArg (fun z=>Ending.returned (.string z)) QH2G,hw⟩
 obtain ⟨eb2,eo2,ed2,es2,eq2,el2,em2,ep2,er2⟩:=hsl.at (i:=(i)) hi
 have pp2:=ep2
 have en2:=ep2
 obtain ⟨e2k,e2o,e2vk,e2vn,e2vt,e2tb,e2nm,e2A,e2n,e2c,e2pl,e2ty,rfl⟩:=en2.form
 have F6:=nEl W 10 eq2 underlying32 hi
 have F7:Sd W (.get 34 (.pointer (some ⟨eb2,eo2+i*10,none⟩)) (eV e2k e2o e2vk e2vn e2vt e2tb e2nm e2A e2n e2c e2pl e2ty)):=Qb.row Qd Qd er2 el2 Qo
 have C8:Sd W (.call 31 [eV e2k e2o e2vk e2vn e2vt e2tb e2nm e2A e2n e2c e2pl e2ty] (.string ⟨(Qg (args i)).toArray⟩)):=by exact Qb.of func31 rfl Qd (fun w hw=>HT _ w hw QWH9)
 have F9:=Z8 W [40] (Qg (args i)) (by simp only [lS];omega)
 have F10:=Z8 W ([40]++(Qg (args i))) [41] (by simp only [lS];omega)
 exact gE hst (Je C2 F6 F7 C8 F9 F10) [.string (⟨(([40]++(Qg (args i)))++[41]).toArray⟩:ByteArray)] fun w' hw=>⟨congrArg (fun z=>Ending.returned (.string z)) QH2G,hw⟩
end Go.Proofs.YtddedijencleeaaGreatDoor
