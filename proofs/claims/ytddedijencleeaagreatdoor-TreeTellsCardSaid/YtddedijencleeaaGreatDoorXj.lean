/- ref9.Print. -/
import Derived.Test.YtddedijencleeaaGreatDoorSm
import Derived.Test.YtddedijencleeaaGreatDoorMSq
import Derived.Test.YtddedijencleeaaGreatDoorXi
import Derived.Test.YtddedijencleeaaGreatDoorMVk
import Derived.Test.YtddedijencleeaaGreatDoorMVa
set_option linter.all false
namespace Go.Proofs.YtddedijencleeaaGreatDoor
set_option maxRecDepth 100000
set_option maxHeartbeats 8000000
open Tryz
noncomputable section
open Go.RowKit Go.Lib RC
theorem isT_more (s:S) (h:Zw s=true):(s.kind=1→0<s.tab.nc)∧(s.kind=8→ ∀ i,i<s.nit→(s.it i).star=true→QB (s.it i).nm ⟨#[]⟩=true):=by
 unfold Zw at h
 refine ⟨fun e=> ?_,fun e=> ?_⟩
 · rw [e] at h
   simp only [beq_self_eq_true,if_true,Bool.and_eq_true] at h
   obtain ⟨h1,_⟩:=h
   simp only [ZU,Bool.and_eq_true,beq_iff_eq,Zn,decide_eq_true_eq] at h1
   omega
 rw [e] at h
 have:((8:Int)==1)=false∧((8:Int)==2)=false∧((8:Int)==3)=false∧((8:Int)==4)=false∧((8:Int)==5)=false∧((8:Int)==6)=false∧((8:Int)==7)=false:=by decide
 simp only [this,beq_self_eq_true,if_true,Bool.false_eq_true,if_false,Bool.and_eq_true] at h
 obtain ⟨h1,_⟩:=h
 simp only [Q0,Bool.and_eq_true] at h1
 obtain ⟨⟨⟨⟨⟨⟨g1,_⟩,_⟩,_⟩,_⟩,_⟩,_⟩:=h1
 intro i hi hs
 have:=ZT g1 i hi
 simp only [itemT,hs,if_true,Bool.and_eq_true] at this
 exact this.2

noncomputable abbrev r9Pr:Code:=Qt f9
abbrev qE1(nm:ByteArray):List UInt8:=(([73,78,83,69,82,84,32,73,78,84,79,32]:List UInt8)++nm.data.toList)
abbrev qE2(G1:Env):Option Addr:=(some ⟨(G1.g 0),0,none⟩)
abbrev qE3(G1:Env):Nat × RV:=(1,.v (.pointer (qE2 G1)))
abbrev qE4(G1:Env):Value:=(.pointer (some ⟨(G1.g 0),5,none⟩))
abbrev qE5(G1:Env):Nat × Value:=(1,.pointer (qE2 G1))
abbrev qE6:Value:=(.int .i64 ((0:Nat):Int))
abbrev qE7(G1:Env):Value:=(.pointer (some ⟨(G1.g 0),8,none⟩))
abbrev qE8(G1:Env):Value:=(.pointer (some ⟨(G1.g 0),6,none⟩))
theorem print9_ok (s:S) (cs:List Value) (W:World) (h:Ks W s cs) (hb:Zw s=true→(Qy s).length≤140737488355328):Calls prog 9 #[.agg cs.toArray] W fun r W'=>r= .returned (.tuple #[.string (if Zw s=true then ⟨(Qy s).toArray⟩ else ⟨#[]⟩),.int .i64 (if Zw s=true then 0 else 20)])∧Below W.heap.size W W':=by
 obtain ⟨kind,⟨tnm,tnc,tcols,tnk,tkeys⟩,nkc,kc,nm,ix,un,⟨ncl,cl⟩,nrw,rw_,nst,st,wh,di,nit,it,nfr,fr,⟨ngr,gr⟩,hv,nor,od,li⟩:=s
 obtain ⟨tA,tc,tB,td,A1,c1,A2,c2,A3,c3,A4,c4,A5,c5,A6,c6,A7,c7,A8,c8,wk,wo,wvk,wvn,wvt,wtb,wnm,wA,wn,wc,wpl,wty,hk,ho,hvk,hvn,hvt,htb,hnm,hA,hn,hc,hpl,hty,rfl,h0,ia,t1,t2⟩:=Ks.opn h
 let x3x:List Value:=(Zs kind tnm tA tnc tc tB tnk td A1 nkc c1 nm ix un A2 ncl c2 A3 nrw c3 A4 nst c4 wk wo wvk wvn wvt wtb wnm wA wn wc wpl wty di A5 nit c5 A6 nfr c6 A7 ngr c7 hk ho hvk hvn hvt htb hnm hA hn hc hpl hty A8 nor c8 li)
 let x2x:Value:=(.agg (Zs kind tnm tA tnc tc tB tnk td A1 nkc c1 nm ix un A2 ncl c2 A3 nrw c3 A4 nst c4 wk wo wvk wvn wvt wtb wnm wA wn wc wpl wty di A5 nit c5 A6 nfr c6 A7 ngr c7 hk ho hvk hvn hvt htb hnm hA hn hc hpl hty A8 nor c8 li).toArray)
 let x1x:List Value:=[.agg (Zs kind tnm tA tnc tc tB tnk td A1 nkc c1 nm ix un A2 ncl c2 A3 nrw c3 A4 nst c4 wk wo wvk wvn wvt wtb wnm wA wn wc wpl wty di A5 nit c5 A6 nfr c6 A7 ngr c7 hk ho hvk hvn hvt htb hnm hA hn hc hpl hty A8 nor c8 li).toArray]
 have iwh:=ia.wh
 have ihv:=ia.hv
 have iwf:=ia.wf
 have itn:=ia.tab.1
 have hsr:nrw≤140737488355328∧nrw*16≤140737488355328:=by have q1:nrw*24≤140737488355328:=QR.small ia.rw;omega
 have hss:nst≤140737488355328∧nst*16≤140737488355328:=by have q1:nst*136≤140737488355328:=QR.small ia.st;omega
 refine Qj (args:=x1x) (c:=r9Pr) func9 rfl (by kernel_rfl) fun a0 hst=> ?_
 obtain ⟨z1,hz1⟩: ∃ z,(Zw ⟨kind,⟨tnm,tnc,tcols,tnk,tkeys⟩,nkc,kc,nm,ix,un,⟨ncl,cl⟩,nrw,rw_,nst,st,wh,di,nit,it,nfr,fr,⟨ngr,gr⟩,hv,nor,od,li⟩)=z:=⟨_,rfl⟩
 have C2:Sd W (.call 13 x1x (.bool z1)):=by rw [← hz1,is_one];exact Qb.of func13 rfl Qd (fun w hw=>is9_ok _ _ w QgdQ)
 cases z1
 · exact gE hst (Zg C2) [.string ⟨#[]⟩,.int .i64 20] fun w' hw=>⟨by rw [if_neg (by rw [hz1];decide),if_neg (by rw [hz1];decide)];rfl,hw⟩
 have hbI:=hb hz1
 have hM:=isT_more _ hz1
 obtain ⟨hk18,hP1,hP5,hP6_,hP7,hP8_⟩:=isT_parts _ hz1
 simp only at hM hk18 hP1 hP5 hP6_ hP7 hP8_
 refine gO r9Pr (.op 3 0) [(1,.p 0 0)] [bx x3x] hst (Zg C2) fun G1 a1 w1 h1_ _=> ?_
 have pm1:BM W w1 w1:=⟨h1_.rp.below,Below.refl _ _⟩
 have sb1_0:SB w1 (G1.g 0) x3x:=(h1_.rp.sb 0 _ rfl).1
 have hm1:=St.reb' (fr':=[(qE3 G1)]) h1_ rfl
 have F3:Sd w1 (.get 3 (.pointer (qE2 G1)) (.int .i64 kind)):=Qb.cellAt (d:=0) Qd QTgh rfl QrEx Qo
 obtain ⟨z4,hz4⟩: ∃ z,(kind==1)=z:=⟨_,rfl⟩
 have F5:=QN w1 hz4
 cases z4
 rotate_left
 · have he100:=eq_of_beq hz4
   have hk9:=he100
   have F101:Sd w1 (.get 39 (.pointer (qE2 G1)) x2x):=Qb.row Qd Qd QTgh QrEx Qo
   have C102:Sd w1 (.call 28 x1x (.string ⟨(ZY ⟨kind,⟨tnm,tnc,tcols,tnk,tkeys⟩,nkc,kc,nm,ix,un,⟨ncl,cl⟩,nrw,rw_,nst,st,wh,di,nit,it,nfr,fr,⟨ngr,gr⟩,hv,nor,od,li⟩).toArray⟩)):=by exact Qb.of func28 rfl Qd (fun w hw=>create9_ok _ _ w (Ks.sub QLrt h0) (hP1 hk9).1 (hM.1 hk9) (hP1 hk9).2 (by have hq:=hbI;simp only [Qy,hz4,bS] at hq;exact hq))
   exact gE hm1 (Jf F3 F5 F101 C102) [.string (⟨(ZY ⟨kind,⟨tnm,tnc,tcols,tnk,tkeys⟩,nkc,kc,nm,ix,un,⟨ncl,cl⟩,nrw,rw_,nst,st,wh,di,nit,it,nfr,fr,⟨ngr,gr⟩,hv,nor,od,li⟩).toArray⟩:ByteArray),.int .i64 0] fun w' hw=>⟨by rw [if_pos hz1,if_pos hz1];exact congrArg (fun z=>Ending.returned (.tuple #[.string z,.int .i64 0])) (bytes_eq (Eq.trans (Qi _) (by first | (simp only [Qi,Qy,QA,hz4,bS,aS,List.cons_append];done) | (simp only [Qi,Qy,QA,hz4,bS,aS,List.cons_append];rfl)))),Below.andThen pm1.bl hw⟩
 obtain ⟨z6,hz6⟩: ∃ z,(kind==2)=z:=⟨_,rfl⟩
 have F7:=QN w1 hz6
 cases z6
 rotate_left
 · have he75:=eq_of_beq hz6
   have F76:Sd w1 (.get 4 (.pointer (some ⟨(G1.g 0),7,none⟩)) (.bool un)):=Qb.cellAt (d:=7) Qd QTgh rfl QrEx Qo
   cases un
   · have F77:=Z8 w1 ([67,82,69,65,84,69,32]:List UInt8) [73,78,68,69,88,32] QkQO
     have F78:Sd w1 (.get 9 (qE8 G1) (.string ix)):=Qb.cellAt (d:=6) Qd QTgh rfl QrEx Qo
     have F79:=xLB w1 (([67,82,69,65,84,69,32]:List UInt8)++[73,78,68,69,88,32]) ix QkQO
     have F80:=Z8 w1 ((([67,82,69,65,84,69,32]:List UInt8)++[73,78,68,69,88,32])++ix.data.toList) [32,79,78,32] QkQO
     have F81:Sd w1 (.get 9 (qE4 G1) (.string nm)):=Qb.cellAt (d:=5) Qd QTgh rfl QrEx Qo
     have F82:=xLB w1 (((([67,82,69,65,84,69,32]:List UInt8)++[73,78,68,69,88,32])++ix.data.toList)++[32,79,78,32]) nm QkQO
     have F83:=Z8 w1 ((((([67,82,69,65,84,69,32]:List UInt8)++[73,78,68,69,88,32])++ix.data.toList)++[32,79,78,32])++nm.data.toList) [32,40] QkQO
     have F84:Sd w1 (.get 27 (qE7 G1) (.slice A2 ncl c2)):=Qb.cellAt (d:=8) Qd QTgh rfl QrEx Qo
     have C85:Sd w1 (.call 29 [.slice A2 ncl c2] (.string ⟨(Qk ncl (fun i=>(cl i).data.toList)).toArray⟩)):=by exact Qb.of func29 rfl Qd QFnl
     have F86:=Z8 w1 (((((([67,82,69,65,84,69,32]:List UInt8)++[73,78,68,69,88,32])++ix.data.toList)++[32,79,78,32])++nm.data.toList)++[32,40]) (Qk ncl (fun i=>(cl i).data.toList)) QkQO
     have F87:=Z8 w1 ((((((([67,82,69,65,84,69,32]:List UInt8)++[73,78,68,69,88,32])++ix.data.toList)++[32,79,78,32])++nm.data.toList)++[32,40])++(Qk ncl (fun i=>(cl i).data.toList))) [41] QkQO
     exact gE hm1 (kE15 F3 F5 F7 F76 F77 F78 F79 F80 F81 F82 F83 F84 C85 F86 F87) [.string (⟨(((((((([67,82,69,65,84,69,32]:List UInt8)++[73,78,68,69,88,32])++ix.data.toList)++[32,79,78,32])++nm.data.toList)++[32,40])++(Qk ncl (fun i=>(cl i).data.toList)))++[41]).toArray⟩:ByteArray),.int .i64 0] fun w' hw=>⟨by rw [if_pos hz1,if_pos hz1];exact congrArg (fun z=>Ending.returned (.tuple #[.string z,.int .i64 0])) QCBm,Below.andThen pm1.bl hw⟩
   have F88:=Z8 w1 ([67,82,69,65,84,69,32]:List UInt8) [85,78,73,81,85,69,32] QkQO
   have F89:=Z8 w1 (([67,82,69,65,84,69,32]:List UInt8)++[85,78,73,81,85,69,32]) [73,78,68,69,88,32] QkQO
   have F90:Sd w1 (.get 9 (qE8 G1) (.string ix)):=Qb.cellAt (d:=6) Qd QTgh rfl QrEx Qo
   have F91:=xLB w1 ((([67,82,69,65,84,69,32]:List UInt8)++[85,78,73,81,85,69,32])++[73,78,68,69,88,32]) ix QkQO
   have F92:=Z8 w1 (((([67,82,69,65,84,69,32]:List UInt8)++[85,78,73,81,85,69,32])++[73,78,68,69,88,32])++ix.data.toList) [32,79,78,32] QkQO
   have F93:Sd w1 (.get 9 (qE4 G1) (.string nm)):=Qb.cellAt (d:=5) Qd QTgh rfl QrEx Qo
   have F94:=xLB w1 ((((([67,82,69,65,84,69,32]:List UInt8)++[85,78,73,81,85,69,32])++[73,78,68,69,88,32])++ix.data.toList)++[32,79,78,32]) nm QkQO
   have F95:=Z8 w1 (((((([67,82,69,65,84,69,32]:List UInt8)++[85,78,73,81,85,69,32])++[73,78,68,69,88,32])++ix.data.toList)++[32,79,78,32])++nm.data.toList) [32,40] QkQO
   have F96:Sd w1 (.get 27 (qE7 G1) (.slice A2 ncl c2)):=Qb.cellAt (d:=8) Qd QTgh rfl QrEx Qo
   have C97:Sd w1 (.call 29 [.slice A2 ncl c2] (.string ⟨(Qk ncl (fun i=>(cl i).data.toList)).toArray⟩)):=by exact Qb.of func29 rfl Qd QFnl
   have F98:=Z8 w1 ((((((([67,82,69,65,84,69,32]:List UInt8)++[85,78,73,81,85,69,32])++[73,78,68,69,88,32])++ix.data.toList)++[32,79,78,32])++nm.data.toList)++[32,40]) (Qk ncl (fun i=>(cl i).data.toList)) QkQO
   have F99:=Z8 w1 (((((((([67,82,69,65,84,69,32]:List UInt8)++[85,78,73,81,85,69,32])++[73,78,68,69,88,32])++ix.data.toList)++[32,79,78,32])++nm.data.toList)++[32,40])++(Qk ncl (fun i=>(cl i).data.toList))) [41] QkQO
   exact gE hm1 (Q7 F3 F5 F7 F76 F88 F89 F90 F91 F92 F93 F94 F95 F96 C97 F98 F99) [.string (⟨((((((((([67,82,69,65,84,69,32]:List UInt8)++[85,78,73,81,85,69,32])++[73,78,68,69,88,32])++ix.data.toList)++[32,79,78,32])++nm.data.toList)++[32,40])++(Qk ncl (fun i=>(cl i).data.toList)))++[41]).toArray⟩:ByteArray),.int .i64 0] fun w' hw=>⟨by rw [if_pos hz1,if_pos hz1];exact congrArg (fun z=>Ending.returned (.tuple #[.string z,.int .i64 0])) QCBm,Below.andThen pm1.bl hw⟩
 obtain ⟨z8,hz8⟩: ∃ z,(kind==3)=z:=⟨_,rfl⟩
 have F9:=QN w1 hz8
 cases z8
 rotate_left
 · have he72:=eq_of_beq hz8
   have F73:Sd w1 (.get 9 (qE4 G1) (.string nm)):=Qb.cellAt (d:=5) Qd QTgh rfl QrEx Qo
   have F74:=xLB w1 ([68,82,79,80,32,84,65,66,76,69,32]:List UInt8) nm (by have hq:=hbI;(try simp only [Qi,Qy,QA,hz4,hz6,hz8,bS,lS] at hq);first | omega | (simp only [Qi,QA,lS];omega))
   exact gE hm1 (Je F3 F5 F7 F9 F73 F74) [.string (⟨(([68,82,79,80,32,84,65,66,76,69,32]:List UInt8)++nm.data.toList).toArray⟩:ByteArray),.int .i64 0] fun w' hw=>⟨by rw [if_pos hz1,if_pos hz1];exact congrArg (fun z=>Ending.returned (.tuple #[.string z,.int .i64 0])) (bytes_eq (Eq.trans (Qi _) (by first | (simp only [Qi,Qy,QA,hz4,hz6,hz8,bS,aS,List.cons_append];done) | (simp only [Qi,Qy,QA,hz4,hz6,hz8,bS,aS,List.cons_append];rfl)))),Below.andThen pm1.bl hw⟩
 obtain ⟨z10,hz10⟩: ∃ z,(kind==4)=z:=⟨_,rfl⟩
 have F11:=QN w1 hz10
 cases z10
 rotate_left
 · have he69:=eq_of_beq hz10
   have F70:Sd w1 (.get 9 (qE8 G1) (.string ix)):=Qb.cellAt (d:=6) Qd QTgh rfl QrEx Qo
   have F71:=xLB w1 ([68,82,79,80,32,73,78,68,69,88,32]:List UInt8) ix (by have hq:=hbI;(try simp only [Qi,Qy,QA,hz4,hz6,hz8,hz10,bS,lS] at hq);first | omega | (simp only [Qi,QA,lS];omega))
   exact gE hm1 (kE7 F3 F5 F7 F9 F11 F70 F71) [.string (⟨(([68,82,79,80,32,73,78,68,69,88,32]:List UInt8)++ix.data.toList).toArray⟩:ByteArray),.int .i64 0] fun w' hw=>⟨by rw [if_pos hz1,if_pos hz1];exact congrArg (fun z=>Ending.returned (.tuple #[.string z,.int .i64 0])) (bytes_eq (Eq.trans (Qi _) (by first | (simp only [Qi,Qy,QA,hz4,hz6,hz8,hz10,bS,aS,List.cons_append];done) | (simp only [Qi,Qy,QA,hz4,hz6,hz8,hz10,bS,aS,List.cons_append];rfl)))),Below.andThen pm1.bl hw⟩
 obtain ⟨z12,hz12⟩: ∃ z,(kind==5)=z:=⟨_,rfl⟩
 have F13:=QN w1 hz12
 cases z12
 · obtain ⟨z14,hz14⟩: ∃ z,(kind==6)=z:=⟨_,rfl⟩
   have F15:=QN w1 hz14
   cases z14
   · obtain ⟨z16,hz16⟩: ∃ z,(kind==7)=z:=⟨_,rfl⟩
     have F17:=QN w1 hz16
     cases z16
     · have hk9:kind=8:=by have g1:=ne_of_beq_false hz4;have g2:=ne_of_beq_false hz6;have g3:=ne_of_beq_false hz8;have g4:=ne_of_beq_false hz10;have g5:=ne_of_beq_false hz12;have g6:=ne_of_beq_false hz14;have g7:=ne_of_beq_false hz16;omega
       have hP8:=hP8_ hk9
       have h88:(kind==8)=true:=by rw [hk9];rfl
       have F18:Sd w1 (.get 39 (.pointer (qE2 G1)) x2x):=Qb.row Qd Qd QTgh QrEx Qo
       have C19:Sd w1 (.call 33 x1x (.string ⟨(Q8 ⟨kind,⟨tnm,tnc,tcols,tnk,tkeys⟩,nkc,kc,nm,ix,un,⟨ncl,cl⟩,nrw,rw_,nst,st,wh,di,nit,it,nfr,fr,⟨ngr,gr⟩,hv,nor,od,li⟩).toArray⟩)):=by exact Qb.of func33 rfl Qd (fun w hw=>query9_ok _ _ w (Ks.sub QLrt h0) hP8.1 (hM.2 hk9) hP8.2.1 hP8.2.2.1 hP8.2.2.2.1 hP8.2.2.2.2.1 hP8.2.2.2.2.2 (by have hq:=hbI;simp only [Qy,hz4,hz6,hz8,hz10,hz12,hz14,hz16,h88,bS] at hq;exact hq))
       exact gE hm1 (Kr F3 F5 F7 F9 F11 F13 F15 F17 F18 C19) [.string (⟨(Q8 ⟨kind,⟨tnm,tnc,tcols,tnk,tkeys⟩,nkc,kc,nm,ix,un,⟨ncl,cl⟩,nrw,rw_,nst,st,wh,di,nit,it,nfr,fr,⟨ngr,gr⟩,hv,nor,od,li⟩).toArray⟩:ByteArray),.int .i64 0] fun w' hw=>⟨by rw [if_pos hz1,if_pos hz1];exact congrArg (fun z=>Ending.returned (.tuple #[.string z,.int .i64 0])) (bytes_eq (Eq.trans (Qi _) (by first | (simp only [Qi,Qy,QA,hz4,hz6,hz8,hz10,hz12,hz14,hz16,h88,bS,aS,List.cons_append];done) | (simp only [Qi,Qy,QA,hz4,hz6,hz8,hz10,hz12,hz14,hz16,h88,bS,aS,List.cons_append];rfl)))),Below.andThen pm1.bl hw⟩
     have he20:=eq_of_beq hz16
     have hwh:=hP7 he20
     have F21:Sd w1 (.get 9 (qE4 G1) (.string nm)):=Qb.cellAt (d:=5) Qd QTgh rfl QrEx Qo
     have F22:=xLB w1 ([68,69,76,69,84,69,32,70,82,79,77,32]:List UInt8) nm Qpk3
     have F23:Sd w1 (.get 34 (.pointer (some ⟨(G1.g 0),11,none⟩)) (eV wk wo wvk wvn wvt wtb wnm wA wn wc wpl wty)):=Qb.part (d:=11) Qd Qd QTgh rfl QrEx Qo
     have C24:Sd w1 (.call 32 [.string ⟨#[87,72,69,82,69]⟩,eV wk wo wvk wvn wvt wtb wnm wA wn wc wpl wty] (.string ⟨(Qm [32,87,72,69,82,69,32] wh).toArray⟩)):=by exact Qb.of func32 rfl Qd (fun w hw=>Js ⟨#[87,72,69,82,69]⟩ [87,72,69,82,69] rfl (by decide) wh _ w (QI.sub QLrt iwh) hwh (KG (word:=[32,87,72,69,82,69,32]) hwh Qpk3))
     have F25:=Z8 w1 (([68,69,76,69,84,69,32,70,82,79,77,32]:List UInt8)++nm.data.toList) (Qm [32,87,72,69,82,69,32] wh) Qpk3
     exact gE hm1 (kE13 F3 F5 F7 F9 F11 F13 F15 F17 F21 F22 F23 C24 F25) [.string (⟨((([68,69,76,69,84,69,32,70,82,79,77,32]:List UInt8)++nm.data.toList)++(Qm [32,87,72,69,82,69,32] wh)).toArray⟩:ByteArray),.int .i64 0] fun w' hw=>⟨by rw [if_pos hz1,if_pos hz1];exact congrArg (fun z=>Ending.returned (.tuple #[.string z,.int .i64 0])) (bytes_eq (Eq.trans (Qi _) (by first | (simp only [Qi,Qy,QA,hz4,hz6,hz8,hz10,hz12,hz14,hz16,bS,aS,List.cons_append];done) | (simp only [Qi,Qy,QA,hz4,hz6,hz8,hz10,hz12,hz14,hz16,bS,aS,List.cons_append];rfl)))),Below.andThen pm1.bl hw⟩
   have he26:=eq_of_beq hz14
   have hP6:=(hP6_ he26).1
   have hwh:=(hP6_ he26).2
   have hcs: ∀ i,i<nst→(setL (st i)).length≤140737488355328:=fun i hi=>by have:=Ji (t:=(fun i=>setL (st i))) hi;(try simp only at this);have hq:=hbI;simp only [Qy,hz4,hz6,hz8,hz10,hz12,hz14,bS,lS] at hq;omega
   refine gO r9Pr (.loop 3) [(9,.v qE6),(8,.v (.slice none 0 0)),(qE3 G1)] [] hm1 (kE7 F3 F5 F7 F9 F11 F13 F15) fun G2 a2 w2 h2_ _=> ?_
   have pm2:=pm1.seg h2_.rp.below
   have hm2:=St.reb' (fr':=[(9,.v qE6),(8,.v (.slice none 0 0)),(qE3 G1)]) h2_ rfl
   refine rowLoop (P:=prog) r9Pr 3 9 8 nst 9 1 (fun W1 i cs=>cs=[.string ((fun i=>(⟨(setL (st i)).toArray⟩:ByteArray)) i)]∧((fun i=>(⟨(setL (st i)).toArray⟩:ByteArray)) i).size≤9223372036854775807) (lv:=[(qE5 G1)]) Qv (RC.St.ev (l:=[(9,.int .i64 ((0:Nat):Int)),(8,.slice none 0 0),(qE5 G1)]) hm2) (fun i2 hi2 row2 wr2 b2 css2 hO2 he2=> ?_) (fun row2 wr2 b2 css2 hO2 he2=> ?_)
   · have pr2:BM W w1 wr2:=pm2.seg hO2.bl
     have h2_2:=he2.st wr2
     have htst2:decide (((i2:Nat):Int)<((nst:Nat):Int))=true:=by simp;omega
     obtain ⟨eb3,eo3,ed3,es3,eq3,el3,em3,ep3,er3⟩:=ia.st.at (i:=(i2)) hi2
     have pp3:=ep3
     obtain ⟨sz3,ds3,rfl,ie3⟩:=ep3
     obtain ⟨e3k,e3o,e3vk,e3vn,e3vt,e3tb,e3nm,e3A,e3n,e3c,e3pl,e3ty,rfl⟩:=ie3.form
     have hq2:=hcs i2 hi2
     unfold setL at hq2
     have F27:Sd wr2 (.get 29 (.pointer (some ⟨(G1.g 0),10,none⟩)) (.slice A4 nst c4)):=Qb.cellAt (d:=10) Qd QEBn rfl QfLB Qo
     have F28:=JE wr2 htst2
     have F29:=nEl wr2 11 eq3 underlying29 hi2
     have F30:Sd wr2 (.get 9 (.pointer (some ⟨eb3,eo3+i2*11,none⟩)) (.string (st i2).nm)):=Qb.cellAt (d:=0) Qd Qsh6 rfl Qavz Qo
     have F31:=xBL wr2 ((st i2).nm) [32,61,32] QHdW
     have F32:Sd wr2 (.get 34 (.pointer (some ⟨eb3,eo3+i2*11+1,none⟩)) (eV e3k e3o e3vk e3vn e3vt e3tb e3nm e3A e3n e3c e3pl e3ty)):=Qb.part (d:=1) Qd Qd Qsh6 rfl Qavz Qo
     have C33:Sd wr2 (.call 31 [eV e3k e3o e3vk e3vn e3vt e3tb e3nm e3A e3n e3c e3pl e3ty] (.string ⟨(Qg (st i2).e).toArray⟩)):=by exact Qb.of func31 rfl Qd (fun w hw=>text9_ok (st i2).e _ w (hP6 i2 hi2) (QI.sub (.below (Below.andThen pr2.bl hw)) ie3) QHdW)
     have F34:=Z8 wr2 ((st i2).nm.data.toList++[32,61,32]) (Qg (st i2).e) QHdW
     refine gO (Qn r9Pr 3) (.op 30 17) [(114,.s 0 0 1 1),(98,.v (row2)),(9,.v (.int .i64 ((i2:Nat):Int))),(qE3 G1)] [bx [.string (⟨(((st i2).nm.data.toList++[32,61,32])++(Qg (st i2).e)).toArray⟩:ByteArray)]] h2_2 (JD F27 F28 F27 F29 F30 F31 F27 F29 F32 C33 F34) fun G4 a4 w4 hst4 _=> ?_
     have eT4:((⟨(((st i2).nm.data.toList++[32,61,32])++(Qg (st i2).e)).toArray⟩:ByteArray):ByteArray)=(fun i=>(⟨(setL (st i)).toArray⟩:ByteArray)) i2:=bytes_eq (Eq.trans (Qi _) (by simp only [setL,bS,aS,List.cons_append]))
     refine Z5 (te:=27) (e:=9) (z:=.string ⟨#[]⟩) (bytes:=16) (sA:=98) (sY:=114) (d:=115) (jb:=0) (cs:=[.v (.string (⟨(((st i2).nm.data.toList++[32,61,32])++(Qg (st i2).e)).toArray⟩:ByteArray))]) (k':=Qc (Qn r9Pr 3) (.op 30 18)) [(9,.int .i64 ((i2:Nat):Int)),(qE5 G1)] hst4 (o:=opOf (Qc (Qn r9Pr 3) (.op 30 17))) Qv Qv Qv Qd rfl rfl rfl rfl underlying27 Qd rfl (by decide) (by omega) (by omega) hO2 KH rfl QkzC ⟨by simp only [Qu,RV.conc] <;> rw [eT4],by show (_:ByteArray).size≤_;rw [QK,Qi];have:=hcs i2 hi2;omega⟩ fun v4 u4 b4 hP4 h4_4=> ?_
     have hsv4:=h4_4.st u4
     have F35:=sd u4 (Qb.inc (t:=3) (i:=i2) (by omega))
     refine gF .nrm [(9,.v (.int .i64 ((i2+1:Nat):Int))),(8,.v (v4)),(qE3 G1)] [] hsv4 (Zg F35) fun g0 a0 w0 h0 _=>⟨_,_,RC.St.ev (l:=[(9,.int .i64 ((i2+1:Nat):Int)),(8,v4),(qE5 G1)]) h0,hP4.keep KH h0.rp.below⟩
   have pr2:BM W w1 wr2:=pm2.seg hO2.bl
   have h2_2:=he2.st wr2
   have hns2:ZD wr2 nst (fun i=>(⟨(setL (st i)).toArray⟩:ByteArray)) row2:=(hO2.done (bytes:=16) KH (by exact hss.2)).sub only_sub
   obtain ⟨RA2,rc2,rfl⟩:=hns2.form
   have htst2e:decide (((nst:Nat):Int)<((nst:Nat):Int))=false:=by simp
   have F36:Sd wr2 (.get 29 (.pointer (some ⟨(G1.g 0),10,none⟩)) (.slice A4 nst c4)):=Qb.cellAt (d:=10) Qd QEBn rfl QfLB Qo
   have F37:=JE wr2 htst2e
   refine gF (.ex 3) [(8,.v (.slice RA2 nst rc2)),(qE3 G1)] [] h2_2 (Km F36 F37) fun G5 a5 w5 hst5 _=>brk ?_
   have F38:Sd wr2 (.get 9 (qE4 G1) (.string nm)):=Qb.cellAt (d:=5) Qd QEBn rfl QfLB Qo
   have F39:=xLB wr2 ([85,80,68,65,84,69,32]:List UInt8) nm QLLY
   have F40:=Z8 wr2 (([85,80,68,65,84,69,32]:List UInt8)++nm.data.toList) [32,83,69,84,32] QLLY
   have C41:Sd wr2 (.call 29 [.slice RA2 nst rc2] (.string ⟨(Qk nst (fun i=>((fun i=>(⟨(setL (st i)).toArray⟩:ByteArray)) i).data.toList)).toArray⟩)):=by exact Qb.of func29 rfl Qd (fun w hw=>KB nst (fun i=>(⟨(setL (st i)).toArray⟩:ByteArray)) _ w (ZD.sub (.below hw) hns2) (by (try simp only [Qi]);have hq:=hbI;(try simp only [Qi,Qy,QA,hz4,hz6,hz8,hz10,hz12,hz14,bS,lS] at hq);first | omega | (simp only [Qi,QA,lS];omega)))
   have F42:=Z8 wr2 ((([85,80,68,65,84,69,32]:List UInt8)++nm.data.toList)++[32,83,69,84,32]) (Qk nst (fun i=>((fun i=>(⟨(setL (st i)).toArray⟩:ByteArray)) i).data.toList)) QLLY
   have F43:Sd wr2 (.get 34 (.pointer (some ⟨(G1.g 0),11,none⟩)) (eV wk wo wvk wvn wvt wtb wnm wA wn wc wpl wty)):=Qb.part (d:=11) Qd Qd QEBn rfl QfLB Qo
   have C44:Sd wr2 (.call 32 [.string ⟨#[87,72,69,82,69]⟩,eV wk wo wvk wvn wvt wtb wnm wA wn wc wpl wty] (.string ⟨(Qm [32,87,72,69,82,69,32] wh).toArray⟩)):=by exact Qb.of func32 rfl Qd (fun w hw=>Js ⟨#[87,72,69,82,69]⟩ [87,72,69,82,69] rfl (by decide) wh _ w (QI.sub (.below (Below.andThen pr2.bl hw)) iwh) hwh (KG (word:=[32,87,72,69,82,69,32]) hwh QLLY))
   have F45:=Z8 wr2 (((([85,80,68,65,84,69,32]:List UInt8)++nm.data.toList)++[32,83,69,84,32])++(Qk nst (fun i=>((fun i=>(⟨(setL (st i)).toArray⟩:ByteArray)) i).data.toList))) (Qm [32,87,72,69,82,69,32] wh) QLLY
   exact gE hst5 (kE8 F38 F39 F40 C41 F42 F43 C44 F45) [.string (⟨((((([85,80,68,65,84,69,32]:List UInt8)++nm.data.toList)++[32,83,69,84,32])++(Qk nst (fun i=>((fun i=>(⟨(setL (st i)).toArray⟩:ByteArray)) i).data.toList)))++(Qm [32,87,72,69,82,69,32] wh)).toArray⟩:ByteArray),.int .i64 0] fun w' hw=>⟨by rw [if_pos hz1,if_pos hz1];exact congrArg (fun z=>Ending.returned (.tuple #[.string z,.int .i64 0])) (bytes_eq (Eq.trans (Qi _) (by first | (simp only [Qi,Qy,QA,hz4,hz6,hz8,hz10,hz12,hz14,bS,aS,List.cons_append];done) | (simp only [Qi,Qy,QA,hz4,hz6,hz8,hz10,hz12,hz14,bS,aS,List.cons_append];rfl)))),Below.andThen pr2.bl hw⟩
 have he46:=eq_of_beq hz12
 have hP5:=hP5 he46
 have F47:Sd w1 (.get 9 (qE4 G1) (.string nm)):=Qb.cellAt (d:=5) Qd QTgh rfl QrEx Qo
 have F48:=xLB w1 ([73,78,83,69,82,84,32,73,78,84,79,32]:List UInt8) nm (by have hq:=hbI;(try simp only [Qi,Qy,QA,hz4,hz6,hz8,hz10,hz12,bS,lS] at hq);first | omega | (simp only [Qi,QA,lS];omega))
 have F49:Sd w1 (.get 27 (qE7 G1) (.slice A2 ncl c2)):=Qb.cellAt (d:=8) Qd QTgh rfl QrEx Qo
 obtain ⟨z50,hz50⟩: ∃ z,(decide (0<((ncl:Nat):Int)))=z:=⟨_,rfl⟩
 have F51:=nGt w1 hz50
 refine joinW (k':=Qc r9Pr (.op 19 0)) (fun aa ww=>EV f9.ntmps [(qE5 G1),(5,.string (⟨(((qE1 nm))++(if z50=true then [32]++QA ncl cl else [])).toArray⟩:ByteArray))] aa∧Below w1.heap.size w1 ww) (fun aj6 uj6 hj6=> ?_) (fun KJ6=> ?_)
 · obtain ⟨ej6,bj6⟩:=hj6
   have sj6:=ej6.st uj6
   have pj6:=pm1.seg bj6
   have hcr: ∀ i,i<nrw→(rowL (rw_ i).n (rw_ i).f).length≤140737488355328:=fun i hi=>by have:=Ji (t:=(fun i=>rowL (rw_ i).n (rw_ i).f)) hi;(try simp only at this);have hq:=hbI;simp only [Qy,hz4,hz6,hz8,hz10,hz12,hz50,bS,lS] at hq;omega
   refine gO r9Pr (.loop 1) [(7,.v qE6),(6,.v (.slice none 0 0)),(5,.v (.string (⟨(((qE1 nm))++(if z50=true then [32]++QA ncl cl else [])).toArray⟩:ByteArray))),(qE3 G1)] [] sj6 Zk fun G7 a7 w7 h7_ _=> ?_
   have pm7:=pj6.seg h7_.rp.below
   have hm7:=St.reb' (fr':=[(7,.v qE6),(6,.v (.slice none 0 0)),(5,.v (.string (⟨(((qE1 nm))++(if z50=true then [32]++QA ncl cl else [])).toArray⟩:ByteArray))),(qE3 G1)]) h7_ rfl
   refine rowLoop (P:=prog) r9Pr 1 7 6 nrw 9 1 (fun W1 i cs=>cs=[.string ((fun i=>(⟨(rowL (rw_ i).n (rw_ i).f).toArray⟩:ByteArray)) i)]∧((fun i=>(⟨(rowL (rw_ i).n (rw_ i).f).toArray⟩:ByteArray)) i).size≤9223372036854775807) (lv:=[(5,.string (⟨(((qE1 nm))++(if z50=true then [32]++QA ncl cl else [])).toArray⟩:ByteArray)),(qE5 G1)]) Qv (RC.St.ev (l:=[(7,.int .i64 ((0:Nat):Int)),(6,.slice none 0 0),(5,.string (⟨(((qE1 nm))++(if z50=true then [32]++QA ncl cl else [])).toArray⟩:ByteArray)),(qE5 G1)]) hm7) (fun i7 hi7 row7 wr7 b7 css7 hO7 he7=> ?_) (fun row7 wr7 b7 css7 hO7 he7=> ?_)
   · have pr7:BM W w1 wr7:=pm7.seg hO7.bl
     have h2_7:=he7.st wr7
     have htst7:decide (((i7:Nat):Int)<((nrw:Nat):Int))=true:=by simp;omega
     obtain ⟨eb8,eo8,ed8,es8,eq8,el8,em8,ep8,er8⟩:=ia.rw.at (i:=(i7)) hi7
     have pp8:=ep8
     obtain ⟨kv8,rfl,ks8⟩:=ep8
     obtain ⟨KA8,kc8,rfl⟩:=ks8.form
     have hq7:=hcr i7 hi7
     unfold rowL at hq7
     have F52:Sd wr7 (.get 28 (.pointer (some ⟨(G1.g 0),9,none⟩)) (.slice A3 nrw c3)):=Qb.cellAt (d:=9) Qd (Qz sb1_0.at_ (.below pr7.b2)) rfl (Nat.lt_of_lt_of_le sb1_0.lt pr7.b2.size) Qo
     have F53:=JE wr7 htst7
     have F54:=nEl wr7 1 eq8 underlying28 hi7
     have F55:Sd wr7 (.get 32 (.pointer (some ⟨eb8,eo8+i7*1,none⟩)) (.slice KA8 (rw_ i7).n kc8)):=Qb.cellAt (d:=0) Qd (Qz er8 (.below pr7.bl)) rfl (Nat.lt_of_lt_of_le el8 pr7.bl.size) Qo
     have C56:Sd wr7 (.call 30 [.slice KA8 (rw_ i7).n kc8] (.string ⟨(Qk ((rw_ i7).n) (fun i=>Qg ((rw_ i7).f i))).toArray⟩)):=by exact Qb.of func30 rfl Qd (fun w hw=>texts9_ok ((rw_ i7).n) ((rw_ i7).f) _ w (Z6.sub (.below (Below.andThen pr7.bl hw)) ks8) Qa8F (fun i hi cs w2 hw2 h2=>text9_ok _ cs w2 (hP5 i7 hi7 i hi) h2 (by have hj:=Ji (t:=(fun i=>Qg ((rw_ i7).f i))) hi;(try simp only at hj);have hq:=hq7;(try simp only [Qi,Qy,QA,hz4,hz6,hz8,hz10,hz12,hz50,bS,lS] at hq);first | omega | (simp only [Qi,QA,lS];omega))))
     have F57:=Z8 wr7 ([40]:List UInt8) (Qk ((rw_ i7).n) (fun i=>Qg ((rw_ i7).f i))) Qa8F
     have F58:=Z8 wr7 (([40]:List UInt8)++(Qk ((rw_ i7).n) (fun i=>Qg ((rw_ i7).f i)))) [41] Qa8F
     refine gO (Qn r9Pr 1) (.op 23 10) [(82,.s 0 0 1 1),(73,.v (row7)),(7,.v (.int .i64 ((i7:Nat):Int))),(5,.v (.string (⟨(((qE1 nm))++(if z50=true then [32]++QA ncl cl else [])).toArray⟩:ByteArray))),(qE3 G1)] [bx [.string (⟨((([40]:List UInt8)++(Qk ((rw_ i7).n) (fun i=>Qg ((rw_ i7).f i))))++[41]).toArray⟩:ByteArray)]] h2_7 (kE8 F52 F53 F52 F54 F55 C56 F57 F58) fun G9 a9 w9 hst9 _=> ?_
     have eT9:((⟨((([40]:List UInt8)++(Qk ((rw_ i7).n) (fun i=>Qg ((rw_ i7).f i))))++[41]).toArray⟩:ByteArray):ByteArray)=(fun i=>(⟨(rowL (rw_ i).n (rw_ i).f).toArray⟩:ByteArray)) i7:=bytes_eq (Eq.trans (Qi _) (by simp only [rowL,bS,aS,List.cons_append]))
     refine Z5 (te:=27) (e:=9) (z:=.string ⟨#[]⟩) (bytes:=16) (sA:=73) (sY:=82) (d:=83) (jb:=0) (cs:=[.v (.string (⟨((([40]:List UInt8)++(Qk ((rw_ i7).n) (fun i=>Qg ((rw_ i7).f i))))++[41]).toArray⟩:ByteArray))]) (k':=Qc (Qn r9Pr 1) (.op 23 11)) [(7,.int .i64 ((i7:Nat):Int)),(5,.string (⟨(((qE1 nm))++(if z50=true then [32]++QA ncl cl else [])).toArray⟩:ByteArray)),(qE5 G1)] hst9 (o:=opOf (Qc (Qn r9Pr 1) (.op 23 10))) Qv Qv Qv Qd rfl rfl rfl rfl underlying27 Qd rfl (by decide) (by omega) (by omega) hO7 KH rfl QkzC ⟨by simp only [Qu,RV.conc] <;> rw [eT9],by show (_:ByteArray).size≤_;rw [QK,Qi];have:=hcr i7 hi7;omega⟩ fun v9 u9 b9 hP9 h4_9=> ?_
     have hsv9:=h4_9.st u9
     have F59:=sd u9 (Qb.inc (t:=3) (i:=i7) (by omega))
     refine gF .nrm [(7,.v (.int .i64 ((i7+1:Nat):Int))),(6,.v (v9)),(5,.v (.string (⟨(((qE1 nm))++(if z50=true then [32]++QA ncl cl else [])).toArray⟩:ByteArray))),(qE3 G1)] [] hsv9 (Zg F59) fun g0 a0 w0 h0 _=>⟨_,_,RC.St.ev (l:=[(7,.int .i64 ((i7+1:Nat):Int)),(6,v9),(5,.string (⟨(((qE1 nm))++(if z50=true then [32]++QA ncl cl else [])).toArray⟩:ByteArray)),(qE5 G1)]) h0,hP9.keep KH h0.rp.below⟩
   have pr7:BM W w1 wr7:=pm7.seg hO7.bl
   have h2_7:=he7.st wr7
   have hns7:ZD wr7 nrw (fun i=>(⟨(rowL (rw_ i).n (rw_ i).f).toArray⟩:ByteArray)) row7:=(hO7.done (bytes:=16) KH (by exact hsr.2)).sub only_sub
   obtain ⟨RA7,rc7,rfl⟩:=hns7.form
   have htst7e:decide (((nrw:Nat):Int)<((nrw:Nat):Int))=false:=by simp
   have F60:Sd wr7 (.get 28 (.pointer (some ⟨(G1.g 0),9,none⟩)) (.slice A3 nrw c3)):=Qb.cellAt (d:=9) Qd (Qz sb1_0.at_ (.below pr7.b2)) rfl (Nat.lt_of_lt_of_le sb1_0.lt pr7.b2.size) Qo
   have F61:=JE wr7 htst7e
   refine gF (.ex 1) [(6,.v (.slice RA7 nrw rc7)),(5,.v (.string (⟨(((qE1 nm))++(if z50=true then [32]++QA ncl cl else [])).toArray⟩:ByteArray))),(qE3 G1)] [] h2_7 (Km F60 F61) fun G10 a10 w10 hst10 _=>brk ?_
   have F62:=Z8 wr7 (((qE1 nm))++(if z50=true then [32]++QA ncl cl else [])) [32,86,65,76,85,69,83,32] QHyp
   have C63:Sd wr7 (.call 29 [.slice RA7 nrw rc7] (.string ⟨(Qk nrw (fun i=>((fun i=>(⟨(rowL (rw_ i).n (rw_ i).f).toArray⟩:ByteArray)) i).data.toList)).toArray⟩)):=by exact Qb.of func29 rfl Qd (fun w hw=>KB nrw (fun i=>(⟨(rowL (rw_ i).n (rw_ i).f).toArray⟩:ByteArray)) _ w (ZD.sub (.below hw) hns7) QSed)
   have F64:=Z8 wr7 ((((qE1 nm))++(if z50=true then [32]++QA ncl cl else []))++[32,86,65,76,85,69,83,32]) (Qk nrw (fun i=>((fun i=>(⟨(rowL (rw_ i).n (rw_ i).f).toArray⟩:ByteArray)) i).data.toList)) QHyp
   exact gE hst10 (kE3 F62 C63 F64) [.string (⟨(((((qE1 nm))++(if z50=true then [32]++QA ncl cl else []))++[32,86,65,76,85,69,83,32])++(Qk nrw (fun i=>((fun i=>(⟨(rowL (rw_ i).n (rw_ i).f).toArray⟩:ByteArray)) i).data.toList))).toArray⟩:ByteArray),.int .i64 0] fun w' hw=>⟨by rw [if_pos hz1,if_pos hz1];exact congrArg (fun z=>Ending.returned (.tuple #[.string z,.int .i64 0])) (bytes_eq (Eq.trans (Qi _) (by first | (simp only [Qi,Qy,QA,hz4,hz6,hz8,hz10,hz12,hz50,bS,aS,List.cons_append];done) | (simp only [Qi,Qy,QA,hz4,hz6,hz8,hz10,hz12,hz50,bS,aS,List.cons_append];rfl)))),Below.andThen pr7.bl hw⟩
 cases z50
 · have eT11:((⟨(([73,78,83,69,82,84,32,73,78,84,79,32]:List UInt8)++nm.data.toList).toArray⟩:ByteArray):ByteArray)=⟨(((qE1 nm))++(if false=true then [32]++QA ncl cl else [])).toArray⟩:=bytes_eq QtJW
   refine gO r9Pr (.op 19 0) [(qE3 G1),(5,.v (.string (⟨(([73,78,83,69,82,84,32,73,78,84,79,32]:List UInt8)++nm.data.toList).toArray⟩:ByteArray)))] [] hm1 (Kr F3 F5 F7 F9 F11 F13 F47 F48 F49 F51) fun g0 a0 w0 h0 _=>KJ6 _ _ ⟨?_,h0.rp.below⟩
   have e0:=RC.St.ev (l:=[(qE5 G1),(5,.string (⟨(([73,78,83,69,82,84,32,73,78,84,79,32]:List UInt8)++nm.data.toList).toArray⟩:ByteArray))]) (h0.less (fr':=[(qE3 G1),(5,.v (.string (⟨(([73,78,83,69,82,84,32,73,78,84,79,32]:List UInt8)++nm.data.toList).toArray⟩:ByteArray)))]) rfl).reb
   rw [eT11] at e0
   exact e0
 have F65:=Z8 w1 (qE1 nm) [32,40] QHyp
 have C66:Sd w1 (.call 29 [.slice A2 ncl c2] (.string ⟨(Qk ncl (fun i=>(cl i).data.toList)).toArray⟩)):=by exact Qb.of func29 rfl Qd (fun w hw=>KB ncl cl _ w (ZD.sub QLrt ia.cl) QSed)
 have F67:=Z8 w1 ((([73,78,83,69,82,84,32,73,78,84,79,32]:List UInt8)++nm.data.toList)++[32,40]) (Qk ncl (fun i=>(cl i).data.toList)) QHyp
 have F68:=Z8 w1 (((([73,78,83,69,82,84,32,73,78,84,79,32]:List UInt8)++nm.data.toList)++[32,40])++(Qk ncl (fun i=>(cl i).data.toList))) [41] QHyp
 have eT12:((⟨((((([73,78,83,69,82,84,32,73,78,84,79,32]:List UInt8)++nm.data.toList)++[32,40])++(Qk ncl (fun i=>(cl i).data.toList)))++[41]).toArray⟩:ByteArray):ByteArray)=⟨(((qE1 nm))++(if true=true then [32]++QA ncl cl else [])).toArray⟩:=bytes_eq QtJW
 refine gO r9Pr (.op 19 0) [(qE3 G1),(5,.v (.string (⟨((((([73,78,83,69,82,84,32,73,78,84,79,32]:List UInt8)++nm.data.toList)++[32,40])++(Qk ncl (fun i=>(cl i).data.toList)))++[41]).toArray⟩:ByteArray)))] [] hm1 (kE15 F3 F5 F7 F9 F11 F13 F47 F48 F49 F51 F65 F49 C66 F67 F68) fun g0 a0 w0 h0 _=>KJ6 _ _ ⟨?_,h0.rp.below⟩
 have e0:=RC.St.ev (l:=[(qE5 G1),(5,.string (⟨((((([73,78,83,69,82,84,32,73,78,84,79,32]:List UInt8)++nm.data.toList)++[32,40])++(Qk ncl (fun i=>(cl i).data.toList)))++[41]).toArray⟩:ByteArray))]) (h0.less (fr':=[(qE3 G1),(5,.v (.string (⟨((((([73,78,83,69,82,84,32,73,78,84,79,32]:List UInt8)++nm.data.toList)++[32,40])++(Qk ncl (fun i=>(cl i).data.toList)))++[41]).toArray⟩:ByteArray)))]) rfl).reb
 rw [eT12] at e0
 exact e0
end
end Go.Proofs.YtddedijencleeaaGreatDoor
