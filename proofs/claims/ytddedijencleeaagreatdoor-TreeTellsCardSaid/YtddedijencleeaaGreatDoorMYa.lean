/- ref9.Expr, clause, deep, deepest. -/
import Derived.Test.YtddedijencleeaaGreatDoorSm
import Derived.Test.YtddedijencleeaaGreatDoorMSq
import Derived.Test.YtddedijencleeaaGreatDoorXd
import Derived.Test.YtddedijencleeaaGreatDoorVg
import Derived.Test.YtddedijencleeaaGreatDoorMVk
import Derived.Test.YtddedijencleeaaGreatDoorMErrAs
import Derived.Test.YtddedijencleeaaGreatDoorMXa
set_option linter.all false
namespace Go.Proofs.YtddedijencleeaaGreatDoor
set_option maxRecDepth 100000
set_option maxHeartbeats 8000000
open Tryz
noncomputable section
open Go.RowKit Go.Lib RC
def QT (k op:Int) (i:Nat) (a:E) (d:Nat):Nat:=if k==5&&decide (0<((i:Nat):Int)) then (if ZP k op i a then d+1 else d)+1 else if ZP k op i a then d+1 else d
def Qf:E→Nat
 | .no=>0
 | .mk k op vk vn vt tb nm n args pl ty=>Ql n (fun i=>QT k op i (args i) (Qf (args i)))+(if k==3 then (if op==1||op==2 then 1 else 0) else if k==7||k==6 then 1 else 0)
theorem stepD_le (k op:Int) (i:Nat) (a:E) (d:Nat):d≤QT k op i a d:=by
 unfold QT
 repeat' split
 all_goals omega
theorem Qb.maxNat {P:Program} {N:Nat} {W:World} {a b:Nat}:Qb.ok P N W (.ask (Builtin.max_ #[] 0 [.int .i64 (a:Int),.int .i64 (b:Int)].toArray) (.int .i64 ((max a b:Nat):Int))):=fun w _=>by
 simp only [Builtin.max_,Builtin.max2,List.foldlM,List.toList_toArray]
 by_cases h:(b:Int)>(a:Int)
 · rw [if_pos h,show max a b=b by omega];rfl
 · rw [if_neg h,show max a b=a by omega];rfl
theorem isE_of_may {e:E} (h:Zx e=true) (hz:QE e=false):QH e=true:=by rw [Zx,hz,Bool.false_or] at h;exact h
theorem clauseL_z {word:List UInt8} {e:E} {z:Bool} (hm:Zx e=true) (h:QE e=z):Qm word e=if z=true then [] else word++Qg e:=by
 cases e with
 | no=>subst h;simp [Zx,QE,QH] at hm
 | mk k op vk vn vt tb nm n args pl ty=>
  cases z with
  | true=>
   have:(k==0)=true:=by simp only [QE,ZA,Bool.and_eq_true] at h;exact h.1.1
   simp only [Qm,JK,this,if_true]
  | false=>
   have hI:=isE_of_may hm h
   obtain ⟨_,hk,_⟩:=Kb hI
   have:(k==0)=false:=by rw [beq_eq_false_iff_ne];omega
   simp only [Qm,JK,this,Bool.false_eq_true,if_false]

noncomputable abbrev r9Ex:Code:=Qt f11
theorem expr9_ok (e:E) (cs:List Value) (W:World) (h:QI W e cs) (hb:QH e=true→(Qg e).length≤140737488355328):Calls prog 11 #[.agg cs.toArray] W fun r W'=>r= .returned (.tuple #[.string (if QH e=true then ⟨(Qg e).toArray⟩ else ⟨#[]⟩),.int .i64 (if QH e=true then 0 else 20)])∧Below W.heap.size W W':=by
 have h0:=h
 obtain ⟨pk,po,pvk,pvn,pvt,ptb,pnm,pA,pn,pc,ppl,pty,rfl⟩:=h0.form
 refine Qj (args:=[eV pk po pvk pvn pvt ptb pnm pA pn pc ppl pty]) (c:=r9Ex) func11 rfl (by kernel_rfl) fun a0 hst=> ?_
 obtain ⟨z1,hz1⟩: ∃ z,(QH e)=z:=⟨_,rfl⟩
 have C2:Sd W (.call 15 [eV pk po pvk pvn pvt ptb pnm pA pn pc ppl pty] (.bool z1)):=by rw [← hz1];exact Qb.of func15 rfl Qd (fun w hw=>ZX e _ w QmqK)
 cases z1
 · exact gE hst (Zg C2) [.string ⟨#[]⟩,.int .i64 20] fun w' hw=>⟨by simp only [hz1,bS];rfl,hw⟩
 have C3:Sd W (.call 31 [eV pk po pvk pvn pvt ptb pnm pA pn pc ppl pty] (.string ⟨(Qg e).toArray⟩)):=by exact Qb.of func31 rfl Qd (fun w hw=>text9_ok e _ w hz1 QmqK (hb hz1))
 exact gE hst (Km C2 C3) [.string (⟨(Qg e).toArray⟩:ByteArray),.int .i64 0] fun w' hw=>⟨by simp only [hz1,bS];rfl,hw⟩
noncomputable abbrev r9Cl:Code:=Qt f32
theorem Js (s:ByteArray) (wl:List UInt8) (hs:s.data.toList=wl) (hsz:wl.length≤1000) (e:E) (cs:List Value) (W:World) (h:QI W e cs) (hm:Zx e=true) (hb:QE e=false→(Qg e).length≤140737488355328):Calls prog 32 #[.string s,.agg cs.toArray] W fun r W'=>r= .returned (.string ⟨(Qm ([32]++(wl++[32])) e).toArray⟩)∧Below W.heap.size W W':=by
 have h0:=h
 obtain ⟨pk,po,pvk,pvn,pvt,ptb,pnm,pA,pn,pc,ppl,pty,rfl⟩:=h0.form
 refine Qj (args:=[.string s,eV pk po pvk pvn pvt ptb pnm pA pn pc ppl pty]) (c:=r9Cl) func32 rfl (by kernel_rfl) fun a0 hst=> ?_
 obtain ⟨z1,hz1⟩: ∃ z,(QE e)=z:=⟨_,rfl⟩
 have C2:Sd W (.call 118 [eV pk po pvk pvn pvt ptb pnm pA pn pc ppl pty] (.bool z1)):=by rw [← hz1];exact Qb.of func118 rfl Qd (fun w hw=>zeroE_ref e _ w QmqK)
 cases z1
 · have F3:=sd W (Qb.addBs (t:=9) (a:=⟨#[32]⟩) (b:=s) (la:=[32]) (lb:=wl) rfl hs QUGc)
   have F4:=Z8 W ([32]++wl) [32] QUGc
   have C5:Sd W (.call 31 [eV pk po pvk pvn pvt ptb pnm pA pn pc ppl pty] (.string ⟨(Qg e).toArray⟩)):=by exact Qb.of func31 rfl Qd (fun w hw=>text9_ok e _ w (isE_of_may hm hz1) QmqK (hb hz1))
   have F6:=Z8 W (([32]++wl)++[32]) (Qg e) QUGc
   exact gE hst (kE5 C2 F3 F4 C5 F6) [.string (⟨((([32]++wl)++[32])++(Qg e)).toArray⟩:ByteArray)] fun w' hw=>⟨congrArg (fun z=>Ending.returned (.string z)) (bytes_eq (Eq.trans (Qi _) (by rw [clauseL_z hm hz1];simp only [bS,aS]))),hw⟩
 exact gE hst (Zg C2) [.string ⟨#[]⟩] fun w' hw=>⟨congrArg (fun z=>Ending.returned (.string z)) (bytes_eq (Eq.trans rfl (by rw [clauseL_z hm hz1];simp only [bS,aS]))),hw⟩
noncomputable abbrev r9De:Code:=Qt f54
abbrev qB1(i1:Nat):Value:=(.int .i64 ((i1+1:Nat):Int))
abbrev qB2(i1:Nat):Value:=(.int .i64 ((i1:Nat):Int))
theorem deep9_ok: ∀ (e:E) (cs:List Value) (W:World),QI W e cs→Qf e≤1000000→Calls prog 54 #[.agg cs.toArray] W fun r W'=>r= .returned (.int .i64 (Qf e:Int))∧Below W.heap.size W W'
 | .no,_,_,h,_=>False.elim h
 | .mk k op vk vn vt tb nm n args pl ty,cs,W,h,hb=>by
   have hmx:Ql n (fun i=>QT k op i (args i) (Qf (args i)))≤1000000:=by rw [Qf] at hb;omega
   have HT: ∀ i,i<n→ ∀ cs w,QI w (args i) cs→Calls prog 54 #[.agg cs.toArray] w fun r w'=>r= .returned (.int .i64 (Qf (args i):Int))∧Below w.heap.size w w':=fun i hi cs w h'=>deep9_ok (args i) cs w h' (Nat.le_trans (Nat.le_trans (stepD_le _ _ _ _ _) (KV (f:=(fun i=>QT k op i (args i) (Qf (args i)))) hi)) hmx)
   obtain ⟨_,vv,rfl,hsl⟩:=h
   obtain ⟨A,c,rfl⟩:=QR.form hsl
   replace hsl:QR W 10 120 n (.slice A n c) (fun i ds=>QI W (args i) ds):=hsl
   have hn:=QR.len hsl
   refine Qj (args:=[eV k op vk vn vt tb nm A n c pl ty]) (c:=r9De) func54 rfl (by kernel_rfl) fun a0 hst=> ?_
   refine gO r9De (.loop 0) [(4,.v (.int .i64 ((0:Nat):Int))),(3,.v (.int .i64 ((Ql 0 (fun i=>QT k op i (args i) (Qf (args i))):Nat):Int))),(1,.p 0 0)] [bx (eL k op vk vn vt tb nm A n c pl ty)] hst Zk fun G1 a1 w1 hst1 _=> ?_
   refine Kt r9De 0 Qv (n) (fun ii aa ww=> ∃ gg,RC.St W.heap.size W f54.ntmps ((4,.v (.int .i64 ((ii:Nat):Int)))::(3,.v (.int .i64 ((Ql ii (fun i=>QT k op i (args i) (Qf (args i))):Nat):Int)))::[(1,.p 0 0)]) [bx (eL k op vk vn vt tb nm A n c pl ty)] gg aa ww) ⟨G1,hst1⟩ (fun i1 hi1 b1 u1 hI1=> ?_) (fun b1 u1 hI1=> ?_)
   · obtain ⟨g1,hs1⟩:=hI1
     have htst1:decide (((i1:Nat):Int)<((n:Nat):Int))=true:=by simp;omega
     obtain ⟨eb2,eo2,ed2,es2,eq2,el2,em2,ep2,er2⟩:=hsl.at (i:=(i1)) hi1
     have pp2:=ep2
     have en2:=ep2
     obtain ⟨e2k,e2o,e2vk,e2vn,e2vt,e2tb,e2nm,e2A,e2n,e2c,e2pl,e2ty,rfl⟩:=en2.form
     have hk1:QT k op i1 (args i1) (Qf (args i1))≤Ql n (fun i=>QT k op i (args i) (Qf (args i))):=KV (f:=(fun i=>QT k op i (args i) (Qf (args i)))) hi1
     have hk1_:=stepD_le k op i1 (args i1) (Qf (args i1))
     have F1:=JE W htst1
     have F2:=nEl W 10 eq2 underlying32 hi1
     have F3:Sd W (.get 34 (.pointer (some ⟨eb2,eo2+i1*10,none⟩)) (eV e2k e2o e2vk e2vn e2vt e2tb e2nm e2A e2n e2c e2pl e2ty)):=Qb.row Qd Qd er2 el2 Qo
     have C4:Sd W (.call 54 [eV e2k e2o e2vk e2vn e2vt e2tb e2nm e2A e2n e2c e2pl e2ty] (.int .i64 ((Qf (args i1):Nat):Int))):=by exact Qb.of func54 rfl Qd (fun w hw=>HT i1 hi1 _ w QWH9)
     obtain ⟨z5,hz5⟩: ∃ z,(ZP k op i1 (args i1))=z:=⟨_,rfl⟩
     have C6:Sd W (.call 146 [eV k op vk vn vt tb nm A n c pl ty,.int .i64 ((i1:Nat):Int)] (.bool z5)):=by rw [← hz5];exact Qb.of func146 rfl Qd (fun w hw=>wraps9_ok k op vk vn vt tb nm A n c pl ty QncV i1 hi1)
     cases z5
     · obtain ⟨z7,hz7⟩: ∃ z,(k==5)=z:=⟨_,rfl⟩
       have F8:=QN W hz7
       cases z7
       · have F9:Sd W (.ask (Builtin.max_ #[] 0 [.int .i64 ((Ql i1 (fun i=>QT k op i (args i) (Qf (args i))):Nat):Int),.int .i64 ((Qf (args i1):Nat):Int)].toArray) (.int .i64 ((max (Ql i1 (fun i=>QT k op i (args i) (Qf (args i)))) (Qf (args i1)):Nat):Int))):=Qb.maxNat
         have F10:Sd W (.bin .add 3 (qB2 i1) (.int .i64 1) (qB1 i1)):=Qb.addN (a:=i1) (b:=1) (by omega)
         have e0:max (Ql i1 (fun i=>QT k op i (args i) (Qf (args i)))) (Qf (args i1))=Ql (i1+1) (fun i=>QT k op i (args i) (Qf (args i))):=by simp only [Ql,QT,hz5,hz7,bS]
         exact goT .fin (k':=[]) (e:=.nrm) [(4,.v (qB1 i1)),(3,.v (.int .i64 ((max (Ql i1 (fun i=>QT k op i (args i) (Qf (args i)))) (Qf (args i1)):Nat):Int))),(1,.p 0 0)] hs1 (kE8 F1 F2 F3 C4 C6 F8 F9 F10) Qv rfl (by kernel_rfl) fun g0 a0 w0 h0 _=>⟨g0,by rw [← e0];exact h0⟩
       · have he11:=eq_of_beq hz7
         obtain ⟨z12,hz12⟩: ∃ z,(decide (0<((i1:Nat):Int)))=z:=⟨_,rfl⟩
         have F13:=nGt W hz12
         cases z12
         · have F14:Sd W (.ask (Builtin.max_ #[] 0 [.int .i64 ((Ql i1 (fun i=>QT k op i (args i) (Qf (args i))):Nat):Int),.int .i64 ((Qf (args i1):Nat):Int)].toArray) (.int .i64 ((max (Ql i1 (fun i=>QT k op i (args i) (Qf (args i)))) (Qf (args i1)):Nat):Int))):=Qb.maxNat
           have F15:Sd W (.bin .add 3 (qB2 i1) (.int .i64 1) (qB1 i1)):=Qb.addN (a:=i1) (b:=1) (by omega)
           have e0:max (Ql i1 (fun i=>QT k op i (args i) (Qf (args i)))) (Qf (args i1))=Ql (i1+1) (fun i=>QT k op i (args i) (Qf (args i))):=by simp only [Ql,QT,hz5,hz7,hz12,bS]
           exact goT .fin (k':=[]) (e:=.nrm) [(4,.v (qB1 i1)),(3,.v (.int .i64 ((max (Ql i1 (fun i=>QT k op i (args i) (Qf (args i)))) (Qf (args i1)):Nat):Int))),(1,.p 0 0)] hs1 (kE9 F1 F2 F3 C4 C6 F8 F13 F14 F15) Qv rfl (by kernel_rfl) fun g0 a0 w0 h0 _=>⟨g0,by rw [← e0];exact h0⟩
         · have F16:Sd W (.bin .add 3 (.int .i64 ((Qf (args i1):Nat):Int)) (.int .i64 1) (.int .i64 ((Qf (args i1)+1:Nat):Int))):=Qb.addN (a:=Qf (args i1)) (b:=1) (by omega)
           have F17:Sd W (.ask (Builtin.max_ #[] 0 [.int .i64 ((Ql i1 (fun i=>QT k op i (args i) (Qf (args i))):Nat):Int),.int .i64 ((Qf (args i1)+1:Nat):Int)].toArray) (.int .i64 ((max (Ql i1 (fun i=>QT k op i (args i) (Qf (args i)))) (Qf (args i1)+1):Nat):Int))):=Qb.maxNat
           have F18:Sd W (.bin .add 3 (qB2 i1) (.int .i64 1) (qB1 i1)):=Qb.addN (a:=i1) (b:=1) (by omega)
           have e0:max (Ql i1 (fun i=>QT k op i (args i) (Qf (args i)))) (Qf (args i1)+1)=Ql (i1+1) (fun i=>QT k op i (args i) (Qf (args i))):=by simp only [Ql,QT,hz5,hz7,hz12,bS]
           exact goT .fin (k':=[]) (e:=.nrm) [(4,.v (qB1 i1)),(3,.v (.int .i64 ((max (Ql i1 (fun i=>QT k op i (args i) (Qf (args i)))) (Qf (args i1)+1):Nat):Int))),(1,.p 0 0)] hs1 (Kr F1 F2 F3 C4 C6 F8 F13 F16 F17 F18) Qv rfl (by kernel_rfl) fun g0 a0 w0 h0 _=>⟨g0,by rw [← e0];exact h0⟩
     · have F19:Sd W (.bin .add 3 (.int .i64 ((Qf (args i1):Nat):Int)) (.int .i64 1) (.int .i64 ((Qf (args i1)+1:Nat):Int))):=Qb.addN (a:=Qf (args i1)) (b:=1) (by omega)
       obtain ⟨z20,hz20⟩: ∃ z,(k==5)=z:=⟨_,rfl⟩
       have F21:=QN W hz20
       cases z20
       · have F22:Sd W (.ask (Builtin.max_ #[] 0 [.int .i64 ((Ql i1 (fun i=>QT k op i (args i) (Qf (args i))):Nat):Int),.int .i64 ((Qf (args i1)+1:Nat):Int)].toArray) (.int .i64 ((max (Ql i1 (fun i=>QT k op i (args i) (Qf (args i)))) (Qf (args i1)+1):Nat):Int))):=Qb.maxNat
         have F23:Sd W (.bin .add 3 (qB2 i1) (.int .i64 1) (qB1 i1)):=Qb.addN (a:=i1) (b:=1) (by omega)
         have e0:max (Ql i1 (fun i=>QT k op i (args i) (Qf (args i)))) (Qf (args i1)+1)=Ql (i1+1) (fun i=>QT k op i (args i) (Qf (args i))):=by simp only [Ql,QT,hz5,hz20,bS]
         exact goT .fin (k':=[]) (e:=.nrm) [(4,.v (qB1 i1)),(3,.v (.int .i64 ((max (Ql i1 (fun i=>QT k op i (args i) (Qf (args i)))) (Qf (args i1)+1):Nat):Int))),(1,.p 0 0)] hs1 (kE9 F1 F2 F3 C4 C6 F19 F21 F22 F23) Qv rfl (by kernel_rfl) fun g0 a0 w0 h0 _=>⟨g0,by rw [← e0];exact h0⟩
       · have he24:=eq_of_beq hz20
         obtain ⟨z25,hz25⟩: ∃ z,(decide (0<((i1:Nat):Int)))=z:=⟨_,rfl⟩
         have F26:=nGt W hz25
         cases z25
         · have F27:Sd W (.ask (Builtin.max_ #[] 0 [.int .i64 ((Ql i1 (fun i=>QT k op i (args i) (Qf (args i))):Nat):Int),.int .i64 ((Qf (args i1)+1:Nat):Int)].toArray) (.int .i64 ((max (Ql i1 (fun i=>QT k op i (args i) (Qf (args i)))) (Qf (args i1)+1):Nat):Int))):=Qb.maxNat
           have F28:Sd W (.bin .add 3 (qB2 i1) (.int .i64 1) (qB1 i1)):=Qb.addN (a:=i1) (b:=1) (by omega)
           have e0:max (Ql i1 (fun i=>QT k op i (args i) (Qf (args i)))) (Qf (args i1)+1)=Ql (i1+1) (fun i=>QT k op i (args i) (Qf (args i))):=by simp only [Ql,QT,hz5,hz20,hz25,bS]
           exact goT .fin (k':=[]) (e:=.nrm) [(4,.v (qB1 i1)),(3,.v (.int .i64 ((max (Ql i1 (fun i=>QT k op i (args i) (Qf (args i)))) (Qf (args i1)+1):Nat):Int))),(1,.p 0 0)] hs1 (Kr F1 F2 F3 C4 C6 F19 F21 F26 F27 F28) Qv rfl (by kernel_rfl) fun g0 a0 w0 h0 _=>⟨g0,by rw [← e0];exact h0⟩
         · have F29:Sd W (.bin .add 3 (.int .i64 ((Qf (args i1)+1:Nat):Int)) (.int .i64 1) (.int .i64 ((Qf (args i1)+1+1:Nat):Int))):=Qb.addN (a:=Qf (args i1)+1) (b:=1) (by omega)
           have F30:Sd W (.ask (Builtin.max_ #[] 0 [.int .i64 ((Ql i1 (fun i=>QT k op i (args i) (Qf (args i))):Nat):Int),.int .i64 ((Qf (args i1)+1+1:Nat):Int)].toArray) (.int .i64 ((max (Ql i1 (fun i=>QT k op i (args i) (Qf (args i)))) (Qf (args i1)+1+1):Nat):Int))):=Qb.maxNat
           have F31:Sd W (.bin .add 3 (qB2 i1) (.int .i64 1) (qB1 i1)):=Qb.addN (a:=i1) (b:=1) (by omega)
           have e0:max (Ql i1 (fun i=>QT k op i (args i) (Qf (args i)))) (Qf (args i1)+1+1)=Ql (i1+1) (fun i=>QT k op i (args i) (Qf (args i))):=by simp only [Ql,QT,hz5,hz20,hz25,bS]
           exact goT .fin (k':=[]) (e:=.nrm) [(4,.v (qB1 i1)),(3,.v (.int .i64 ((max (Ql i1 (fun i=>QT k op i (args i) (Qf (args i)))) (Qf (args i1)+1+1):Nat):Int))),(1,.p 0 0)] hs1 (JD F1 F2 F3 C4 C6 F19 F21 F26 F29 F30 F31) Qv rfl (by kernel_rfl) fun g0 a0 w0 h0 _=>⟨g0,by rw [← e0];exact h0⟩
   obtain ⟨g1,hs1⟩:=hI1
   have htst1e:decide (((n:Nat):Int)<((n:Nat):Int))=false:=by simp
   have F32:=JE W htst1e
   refine gF (.ex 0) [(3,.v (.int .i64 ((Ql n (fun i=>QT k op i (args i) (Qf (args i))):Nat):Int))),(1,.p 0 0)] [bx (eL k op vk vn vt tb nm A n c pl ty)] hs1 (Zg F32) fun G3 a3 w3 hst3 _=>brk ?_
   obtain ⟨z33,hz33⟩: ∃ z,(k==3)=z:=⟨_,rfl⟩
   have F34:=QN W hz33
   cases z33
   · obtain ⟨z35,hz35⟩: ∃ z,(k==7)=z:=⟨_,rfl⟩
     have F36:=QN W hz35
     cases z35
     · obtain ⟨z37,hz37⟩: ∃ z,(k==6)=z:=⟨_,rfl⟩
       have F38:=QN W hz37
       cases z37
       · exact gE hst3 (kE3 F34 F36 F38) [.int .i64 ((Ql n (fun i=>QT k op i (args i) (Qf (args i))):Nat):Int)] fun w' hw=>⟨by simp only [Qf,hz33,hz35,hz37,bS];rfl,hw⟩
       · have he39:=eq_of_beq hz37
         have F40:Sd W (.bin .add 3 (.int .i64 ((Ql n (fun i=>QT k op i (args i) (Qf (args i))):Nat):Int)) (.int .i64 1) (.int .i64 ((Ql n (fun i=>QT k op i (args i) (Qf (args i)))+1:Nat):Int))):=Qb.addN (a:=Ql n (fun i=>QT k op i (args i) (Qf (args i)))) (b:=1) (by omega)
         exact gE hst3 (Jf F34 F36 F38 F40) [.int .i64 ((Ql n (fun i=>QT k op i (args i) (Qf (args i)))+1:Nat):Int)] fun w' hw=>⟨by simp only [Qf,hz33,hz35,hz37,bS];rfl,hw⟩
     · have he41:=eq_of_beq hz35
       have F42:Sd W (.bin .add 3 (.int .i64 ((Ql n (fun i=>QT k op i (args i) (Qf (args i))):Nat):Int)) (.int .i64 1) (.int .i64 ((Ql n (fun i=>QT k op i (args i) (Qf (args i)))+1:Nat):Int))):=Qb.addN (a:=Ql n (fun i=>QT k op i (args i) (Qf (args i)))) (b:=1) (by omega)
       exact gE hst3 (kE3 F34 F36 F42) [.int .i64 ((Ql n (fun i=>QT k op i (args i) (Qf (args i)))+1:Nat):Int)] fun w' hw=>⟨by simp only [Qf,hz33,hz35,bS];rfl,hw⟩
   · have he43:=eq_of_beq hz33
     obtain ⟨z44,hz44⟩: ∃ z,(op==1)=z:=⟨_,rfl⟩
     have F45:=QN W hz44
     cases z44
     · obtain ⟨z46,hz46⟩: ∃ z,(op==2)=z:=⟨_,rfl⟩
       have F47:=QN W hz46
       cases z46
       · exact gE hst3 (kE3 F34 F45 F47) [.int .i64 ((Ql n (fun i=>QT k op i (args i) (Qf (args i))):Nat):Int)] fun w' hw=>⟨by simp only [Qf,hz33,hz44,hz46,bS];rfl,hw⟩
       · have he48:=eq_of_beq hz46
         have F49:Sd W (.bin .add 3 (.int .i64 ((Ql n (fun i=>QT k op i (args i) (Qf (args i))):Nat):Int)) (.int .i64 1) (.int .i64 ((Ql n (fun i=>QT k op i (args i) (Qf (args i)))+1:Nat):Int))):=Qb.addN (a:=Ql n (fun i=>QT k op i (args i) (Qf (args i)))) (b:=1) (by omega)
         exact gE hst3 (Jf F34 F45 F47 F49) [.int .i64 ((Ql n (fun i=>QT k op i (args i) (Qf (args i)))+1:Nat):Int)] fun w' hw=>⟨by simp only [Qf,hz33,hz44,hz46,bS];rfl,hw⟩
     · have he50:=eq_of_beq hz44
       have F51:Sd W (.bin .add 3 (.int .i64 ((Ql n (fun i=>QT k op i (args i) (Qf (args i))):Nat):Int)) (.int .i64 1) (.int .i64 ((Ql n (fun i=>QT k op i (args i) (Qf (args i)))+1:Nat):Int))):=Qb.addN (a:=Ql n (fun i=>QT k op i (args i) (Qf (args i)))) (b:=1) (by omega)
       exact gE hst3 (kE3 F34 F45 F51) [.int .i64 ((Ql n (fun i=>QT k op i (args i) (Qf (args i)))+1:Nat):Int)] fun w' hw=>⟨by simp only [Qf,hz33,hz44,bS];rfl,hw⟩
noncomputable abbrev r9Dt:Code:=Qt f53
theorem deepest9_ok (n:Nat) (f:Nat→E) (v:Value) (W:World) (h:Z6 W n f v) (hb:Ql n (fun i=>Qf (f i))≤1000000):Calls prog 53 #[v] W fun r W'=>r= .returned (.int .i64 (Ql n (fun i=>Qf (f i)):Nat))∧Below W.heap.size W W':=by
 obtain ⟨A,c,rfl⟩:=h.form
 have hn:=QR.len h
 have h9:QR W 10 120 n (.slice A n c) (fun i ds=>QI W (f i) ds):=h
 refine Qj (args:=[.slice A n c]) (c:=r9Dt) func53 rfl (by kernel_rfl) fun a0 hst=> ?_
 refine gO r9Dt (.loop 0) [(4,.v (.int .i64 ((0:Nat):Int))),(3,.v (.int .i64 ((Ql 0 (fun i=>Qf (f i)):Nat):Int))),(0,.v (.slice A n c))] [] hst Zk fun G1 a1 w1 hst1 _=> ?_
 refine Kt r9Dt 0 Qv (n) (fun ii aa ww=> ∃ gg,RC.St W.heap.size W f53.ntmps ((4,.v (.int .i64 ((ii:Nat):Int)))::(3,.v (.int .i64 ((Ql ii (fun i=>Qf (f i)):Nat):Int)))::[(0,.v (.slice A n c))]) [] gg aa ww) ⟨G1,hst1⟩ (fun i1 hi1 b1 u1 hI1=> ?_) (fun b1 u1 hI1=> ?_)
 · obtain ⟨g1,hs1⟩:=hI1
   have htst1:decide (((i1:Nat):Int)<((n:Nat):Int))=true:=by simp;omega
   obtain ⟨eb2,eo2,ed2,es2,eq2,el2,em2,ep2,er2⟩:=h9.at (i:=(i1)) hi1
   have pp2:=ep2
   have en2:=ep2
   obtain ⟨e2k,e2o,e2vk,e2vn,e2vt,e2tb,e2nm,e2A,e2n,e2c,e2pl,e2ty,rfl⟩:=en2.form
   have F1:=JE W htst1
   have F2:=nEl W 10 eq2 underlying32 hi1
   have F3:Sd W (.get 34 (.pointer (some ⟨eb2,eo2+i1*10,none⟩)) (eV e2k e2o e2vk e2vn e2vt e2tb e2nm e2A e2n e2c e2pl e2ty)):=Qb.row Qd Qd er2 el2 Qo
   have C4:Sd W (.call 54 [eV e2k e2o e2vk e2vn e2vt e2tb e2nm e2A e2n e2c e2pl e2ty] (.int .i64 ((Qf (f i1):Nat):Int))):=by exact Qb.of func54 rfl Qd (fun w hw=>deep9_ok (f i1) _ w QWH9 (Nat.le_trans (KV (f:=(fun i=>Qf (f i))) hi1) hb))
   have F5:Sd W (.ask (Builtin.max_ #[] 0 [.int .i64 ((Ql i1 (fun i=>Qf (f i)):Nat):Int),.int .i64 ((Qf (f i1):Nat):Int)].toArray) (.int .i64 ((max (Ql i1 (fun i=>Qf (f i))) (Qf (f i1)):Nat):Int))):=Qb.maxNat
   have F6:Sd W (.bin .add 3 (qB2 i1) (.int .i64 1) (qB1 i1)):=Qb.addN (a:=i1) (b:=1) (by omega)
   have e0:max (Ql i1 (fun i=>Qf (f i))) (Qf (f i1))=Ql (i1+1) (fun i=>Qf (f i)):=by rfl
   exact goT .fin (k':=[]) (e:=.nrm) [(4,.v (qB1 i1)),(3,.v (.int .i64 ((max (Ql i1 (fun i=>Qf (f i))) (Qf (f i1)):Nat):Int))),(0,.v (.slice A n c))] hs1 (Je F1 F2 F3 C4 F5 F6) Qv rfl (by kernel_rfl) fun g0 a0 w0 h0 _=>⟨g0,by rw [← e0];exact h0⟩
 obtain ⟨g1,hs1⟩:=hI1
 have htst1e:decide (((n:Nat):Int)<((n:Nat):Int))=false:=by simp
 have F7:=JE W htst1e
 refine gF (.ex 0) [(3,.v (.int .i64 ((Ql n (fun i=>Qf (f i)):Nat):Int))),(0,.v (.slice A n c))] [] hs1 (Zg F7) fun G3 a3 w3 hst3 _=>brk ?_
 exact gE hst3 Zk [.int .i64 ((Ql n (fun i=>Qf (f i)):Nat):Int)] fun w' hw=>⟨rfl,hw⟩
end
end Go.Proofs.YtddedijencleeaaGreatDoor

/- Texts are not empty; the two depths are one. No program's code. -/
set_option linter.all false
namespace Go.Proofs.YtddedijencleeaaGreatDoor
open Go.RowKit Go.Lib RC

theorem Kj {n:Nat} {f g:Nat→Nat} (h: ∀ i,i<n→f i=g i):Ql n f=Ql n g:=by
 induction n with
 | zero=>rfl
 | succ n ih=>rw [Ql,Ql,ih fun i hi=>h i (by omega),h n (by omega)]
theorem maxN_split {n:Nat} {f:Nat→Nat}:Ql (n+1) f=max (f 0) (Ql n fun i=>f (i+1)):=by
 induction n with
 | zero=>simp [Ql]
 | succ n ih=>rw [Ql,ih,Ql];omega
theorem maxN_succ {n:Nat} {f:Nat→Nat} (h:0<n):Ql n (fun i=>f i+1)=Ql n f+1:=by
 induction n with
 | zero=>omega
 | succ n ih=>
  by_cases e:n=0
  · subst e;simp [Ql]
  rw [Ql,Ql,ih (by omega)];omega
theorem isE_none {k op vk vn:Int} {vt tb nm:ByteArray} {n:Nat} {args:Nat→E} {pl ty:Int} (h:QH (.mk k op vk vn vt tb nm n args pl ty)=true) (hk:k=1∨k=2):n=0:=by
 rw [QH,Bool.and_eq_true] at h
 obtain ⟨h1,_⟩:=h
 unfold okT at h1
 rcases hk with rfl | rfl
 · simp at h1;omega
 simp at h1;omega
theorem wrapB_off {k op:Int} {i:Nat} {a:E} (h:(k≠3∧k≠4)∧(k≠5∨0<i)):ZP k op i a=false:=by
 have e3:(k==3)=false:=by rw [beq_eq_false_iff_ne];exact h.1.1
 have e4:(k==4)=false:=by rw [beq_eq_false_iff_ne];exact h.1.2
 unfold ZP
 rcases h.2 with h5 | h5
 · have e5:(k==5)=false:=by rw [beq_eq_false_iff_ne];exact h5
   simp [e3,e4,e5]
 have e5:decide ((0:Int)<((i:Nat):Int))=true:=by simp <;> omega
 simp only [e3,e4,e5];simp
theorem Jz: ∀ e:E,QH e=true→Qf e=QQ e
 | .no,_=>rfl
 | .mk k op vk vn vt tb nm n args pl ty,h=>by
   have hs: ∀ i,i<n→Qf (args i)=QQ (args i):=fun i hi=>Jz (args i) ((Kb h).1 i hi)
   obtain ⟨_,hk,p3,p4,p5,p6,p7⟩:=Kb h
   have n12:=isE_none h
   clear h
   rw [Qf]
   have hc:Ql n (fun i=>QT k op i (args i) (Qf (args i)))=Ql n (fun i=>QT k op i (args i) (QQ (args i))):=Kj fun i hi=>by rw [hs i hi]
   rw [hc]
   by_cases k3:k=3
   · subst k3
     obtain ⟨rfl,_⟩:=p3 rfl
     simp only [Ql,QT,QQ,Kw,dB,wrapB_eq (k:=3) (.inl rfl)]
     simp
     split <;> split <;> simp_all
   by_cases k4:k=4
   · subst k4
     obtain ⟨rfl,_⟩:=p4 rfl
     simp only [Ql,QT,QQ,dB,wrapB_eq (k:=4) (.inr (.inl rfl))]
     simp
   by_cases k5:k=5
   · subst k5
     have g:=p5 rfl
     obtain ⟨m,rfl⟩: ∃ m,n=m+1:=⟨n - 1,by omega⟩
     rw [maxN_split]
     have e1:Ql m (fun i=>QT 5 op (i+1) (args (i+1)) (QQ (args (i+1))))=Ql m (fun i=>QQ (args (i+1)))+1:=by
      rw [← maxN_succ (by omega)]
      refine Kj fun i hi=> ?_
      have e5:decide ((0:Int)<((i+1:Nat):Int))=true:=by simp <;> omega
      simp only [QT,e5,wrapB_off (k:=5) (i:=i+1) ⟨⟨by decide,by decide⟩,.inr (by omega)⟩]
      simp
     rw [e1]
     simp only [QT,QQ,dB,wrapB_eq (k:=5) (i:=0) (.inr (.inr ⟨rfl,rfl⟩)),show m+1 - 1=m by omega]
     simp
   have e1:Ql n (fun i=>QT k op i (args i) (QQ (args i)))=Ql n (fun i=>QQ (args i)):=Kj fun i hi=>by
    have e5:(k==5)=false:=by rw [beq_eq_false_iff_ne];exact k5
    simp only [QT,e5,wrapB_off (i:=i) (a:=args i) (op:=op) ⟨⟨k3,k4⟩,.inl k5⟩]
    simp
   rw [e1]
   have e3:(k==3)=false:=by rw [beq_eq_false_iff_ne];exact k3
   have e4:(k==4)=false:=by rw [beq_eq_false_iff_ne];exact k4
   have e5:(k==5)=false:=by rw [beq_eq_false_iff_ne];exact k5
   simp only [QQ,e3,e4,e5,Bool.false_eq_true,if_false]
   by_cases k67:k=6∨k=7
   · have e6:(k==6||k==7)=true:=by rcases k67 with rfl | rfl <;> rfl
     have e7:(k==7||k==6)=true:=by rcases k67 with rfl | rfl <;> rfl
     simp only [e6,e7,if_true]
   · have e6:(k==6||k==7)=false:=by simp;omega
     have e7:(k==7||k==6)=false:=by simp;omega
     have:n=0:=n12 (by omega)
     subst this
     simp only [e6,e7,Bool.false_eq_true,if_false,Ql]
theorem nameB_ne {s:ByteArray} (h:QD s=true):s.data.toList≠[]:=by
 intro e
 have:QB s ⟨#[]⟩=true:=by
  have:s=⟨#[]⟩:=bytes_eq e
  subst this;exact Z9 _
 simp [QD,this] at h
theorem decDigits_ne (N:Nat):Lib.decDigits N≠[]:=by
 rw [Lib.decDigits]
 split <;> simp
theorem itoa_ne (n:Int):Lib.itoa n≠[]:=by
 unfold Lib.itoa
 split
 · simp
 exact decDigits_ne _
theorem printS_ne (k n:Int) (s:ByteArray):(Jb k n s).data.toList≠[]:=by
 unfold Jb
 split
 · simp
 split
 · simp
 split
 · split <;> simp
 split
 · simpa using itoa_ne n
 simp [quotedS]
theorem txtE_ne: ∀ e:E,QH e=true→Qg e≠[]
 | .no,h=>by simp [QH] at h
 | .mk k op vk vn vt tb nm n args pl ty,h=>by
   have hs: ∀ i,i<n→Qg (args i)≠[]:=fun i hi=>txtE_ne (args i) ((Kb h).1 i hi)
   obtain ⟨_,hk,p3,p4,p5,p6,p7⟩:=Kb h
   rw [Qg]
   by_cases k1:k=1
   · subst k1;exact printS_ne _ _ _
   by_cases k2:k=2
   · subst k2
     have hn:QD nm=true:=by
      rw [QH,Bool.and_eq_true] at h
      have h1:=h.1
      unfold okT at h1
      simp at h1
      exact h1.1.1.2
     have:=nameB_ne hn
     have e1:((2:Int)==1)=false:=rfl
     have e2:((2:Int)==2)=true:=rfl
     simp only [e1,e2,Bool.false_eq_true,if_false,if_true]
     split
     · exact this
     · simp
   have e1:(k==1)=false:=by rw [beq_eq_false_iff_ne];exact k1
   have e2:(k==2)=false:=by rw [beq_eq_false_iff_ne];exact k2
   simp only [e1,e2,Bool.false_eq_true,if_false]
   split
   · unfold Qp
     split
     · simp
     split
     · simp
     split <;> simp
   split
   · simp
   split
   · simp
   split
   · simp [QC]
   split
   · simp [QX]
   · rename_i h3 h4 h5 h6 h7
     simp at h3 h4 h5 h6 h7
     omega
theorem stmtL_ne (s:S) (h:Zw s=true):Qy s≠[]:=by
 obtain ⟨hk,_⟩:=isT_parts s h
 unfold Qy
 split
 · simp [ZY]
 split
 · simp
 split
 · simp
 split
 · simp
 split
 · simp
 split
 · simp
 split
 · simp
 split
 · simp [Q8]
 rename_i h1 h2 h3 h4 h5 h6 h7 h8
 simp at h1 h2 h3 h4 h5 h6 h7 h8
 omega
end Go.Proofs.YtddedijencleeaaGreatDoor

/- errors.Is at an api.Class, consistoryhelp.Class: contracts. -/
namespace Go.Proofs.YtddedijencleeaaGreatDoor
set_option maxRecDepth 100000
set_option maxHeartbeats 1000000
open Tryz
open Go.RowKit Go.Extern.Stop Go.Stop Go.Extern

theorem Is_class (d:Nat) (v:Value) (n m:Int) (W:World) (hE:ErrV W d v n) :
 Calls prog 52 #[v,.iface 93 (.int .i64 m)] W fun e w'=>e= .returned (.bool (n==m))∧W=w':=by
 have hto:= @run_callFunc_extern prog 144 _ ReflectliteType.typeOf func144 (by kernel_rfl) (by kernel_rfl) (by kernel_rfl) (by kernel_rfl)
 have hco := @run_callFunc_extern prog 279 _ (ReflectliteType.method fun t => do Rtype.noPackHeld "Comparable" t; pure (.bool (← typeInfo t).comparable)) func279 (by kernel_rfl) (by kernel_rfl) (by kernel_rfl) (by kernel_rfl)
 have f1:=EF.typeOfC
 have f2:=EF.methodComp
 have f3:=EF.compC'
 have HU:=Qh (is_any d v n m W hE)
 obtain ⟨T,x,rfl⟩:=hE.iface
 have q1:=fun w=>run_eql_iface_nil_left (P:=prog) w T x underlying44
 go_enter func52,ntmps52
 go_wp2_with (go_at_call 145;refine (Qa HU).mono ?_;rintro e w' ⟨rfl,rfl⟩)
 go_ret
 exact ⟨rfl,rfl⟩

theorem Class_nil (w:World):Calls prog 16 #[.nilIface] w fun e w'=>e= .returned (.int .i64 0)∧w=w':=by
 go_enter func16,ntmps16
 go_wp2
 go_ret
 exact ⟨rfl,rfl⟩

theorem Class_err (d:Nat) (v:Value) (n:Int) (w:World) (hg:OkW w) (hE:ErrV w d v n) :
 Calls prog 16 #[v] w fun e w'=>e= .returned (.int .i64 n)∧Below w.heap.size w w':=by
 have hb0: ∀ o,Below w.heap.size w (w.alloc o):=fun o=>(Below.refl _ _).alloc (Nat.le_refl _) o
 have HA:=fun o=>Qh (As_class d v n ⟨w.heap.size,0,none⟩ (.int .i64 0) (w.alloc (.cells #[.int .i64 0] o)) (hg.alloc _) (hE.below (hb0 _)) (by simp) (by simp))
 have HI:=fun W' (hb:Below w.heap.size w W')=>Qh (Is_class d v n n W' (hE.below hb))
 have hbg: ∀ o w',(w.alloc o).grownBy w' (some w.heap.size)→Below w.heap.size w w':=fun o w' h=>(hb0 o).grown h (hb0 o).size (fun k hk=>by injection hk;omega)
 have hnn:(n==n)=true:=by simp
 obtain ⟨T,x,rfl⟩:=hE.iface
 clear hE hg
 go_enter func16,ntmps16
 go_wp2_with (go_at_call 51;refine (Qa (HA _)).mono ?_;rintro e w1 ⟨rfl,hgr,hc⟩)
 have hB:=hbg _ _ hgr
 refine (Qa (HI w1 hB)).mono ?_
 rintro e w' ⟨rfl,rfl⟩
 go_wp2
 go_ret
 exact ⟨rfl,hB⟩
end Go.Proofs.YtddedijencleeaaGreatDoor

/- consistorylaw9.known yields true, by the contracts of tree.Expr and tree.Print. -/
set_option linter.all false
namespace Go.Proofs.YtddedijencleeaaGreatDoor
set_option maxRecDepth 100000
set_option maxHeartbeats 4000000
open Tryz
noncomputable section
open Go.RowKit Go.Lib RC
def k1E:E:=.mk 1 0 2 1 ⟨#[]⟩ ⟨#[]⟩ ⟨#[]⟩ 0 (fun _=>.no) 0 0
def kNE:E:=.mk 3 1 0 0 ⟨#[]⟩ ⟨#[]⟩ ⟨#[]⟩ 1 (fun _=>k1E) 0 0
def kZE:E:=.mk 0 0 0 0 ⟨#[]⟩ ⟨#[]⟩ ⟨#[]⟩ 0 (fun _=>.no) 0 0
def dropS (nm:ByteArray):S:=⟨3,⟨⟨#[]⟩,0,fun _=>⟨⟨#[]⟩,0,false⟩,0,fun _=>⟨⟨#[]⟩,0,fun _=>0,false,false⟩⟩,0,fun _=>⟨0,fun _=>⟨#[]⟩⟩,nm,⟨#[]⟩,false,⟨0,fun _=>⟨#[]⟩⟩,0,fun _=>⟨0,fun _=>.no⟩,0,fun _=>⟨⟨#[]⟩,.no⟩,kZE,false,0,fun _=>⟨false,.no,⟨#[]⟩⟩,0,fun _=>⟨⟨#[]⟩,⟨#[]⟩,false,.no⟩,⟨0,fun _=>.no⟩,kZE,0,fun _=>⟨.no,false⟩,0⟩
theorem i64 {n:Int} (h: -9223372036854775808≤n∧n≤9223372036854775807):KM n:=h
theorem slf0 {W:World} {size bytes:Nat} {P:Nat→List Value→Prop}:QR W size bytes 0 (.slice none 0 0) P:=⟨none,0,rfl,Nat.le_refl _,by decide,by omega,fun h=>absurd h (by decide)⟩
theorem kZE_in {W:World}:QI W kZE [.int .i64 0,.int .i64 0,.int .i64 0,.int .i64 0,.string ⟨#[]⟩,.string ⟨#[]⟩,.string ⟨#[]⟩,.slice none 0 0,.int .i64 0,.int .i64 0]:=
 ⟨⟨i64 (by decide),i64 (by decide),i64 (by decide),i64 (by decide),by decide,by decide,by decide,i64 (by decide),i64 (by decide)⟩,_,rfl,slf0⟩
theorem k1E_in {W:World}:QI W k1E [.int .i64 1,.int .i64 0,.int .i64 2,.int .i64 1,.string ⟨#[]⟩,.string ⟨#[]⟩,.string ⟨#[]⟩,.slice none 0 0,.int .i64 0,.int .i64 0]:=
 ⟨⟨i64 (by decide),i64 (by decide),i64 (by decide),i64 (by decide),by decide,by decide,by decide,i64 (by decide),i64 (by decide)⟩,_,rfl,slf0⟩
theorem dropS_in {W:World} (nm:ByteArray) (h:nm.size≤9223372036854775807):Ks W (dropS nm) (Zs 3 ⟨#[]⟩ none 0 0 none 0 0 none 0 0 nm ⟨#[]⟩ false none 0 0 none 0 0 none 0 0 0 0 0 0 ⟨#[]⟩ ⟨#[]⟩ ⟨#[]⟩ none 0 0 0 0 false none 0 0 none 0 0 none 0 0 0 0 0 0 ⟨#[]⟩ ⟨#[]⟩ ⟨#[]⟩ none 0 0 0 0 none 0 0 0):=
 ⟨[.string ⟨#[]⟩,.slice none 0 0,.slice none 0 0],.slice none 0 0,.slice none 0 0,.slice none 0 0,.slice none 0 0,_,.slice none 0 0,.slice none 0 0,.slice none 0 0,_,.slice none 0 0,rfl,
   ⟨⟨show KM 3 from i64 (by decide),h,show (⟨#[]⟩:ByteArray).size≤9223372036854775807 by decide,show KM 0 from i64 (by decide)⟩,⟨show (⟨#[]⟩:ByteArray).size≤9223372036854775807 by decide,_,_,rfl,slf0,slf0⟩,slf0,slf0,slf0,slf0,kZE_in,slf0,slf0,slf0,kZE_in,slf0⟩⟩
abbrev qG3:List Value:=[.int .i64 1,.int .i64 0,.int .i64 2,.int .i64 1,.string ⟨#[]⟩,.string ⟨#[]⟩,.string ⟨#[]⟩,.slice none 0 0,.int .i64 0,.int .i64 0]
theorem kNE_in {W:World} {g:Nat} (h:SB W g [.int .i64 1,.int .i64 0,.int .i64 2,.int .i64 1,.string ⟨#[]⟩,.string ⟨#[]⟩,.string ⟨#[]⟩,.slice none 0 0,.int .i64 0,.int .i64 0]):QI W kNE [.int .i64 3,.int .i64 1,.int .i64 0,.int .i64 0,.string ⟨#[]⟩,.string ⟨#[]⟩,.string ⟨#[]⟩,.slice (some ⟨g,0,none⟩) 1 1,.int .i64 0,.int .i64 0]:=
 ⟨⟨i64 (by decide),i64 (by decide),i64 (by decide),i64 (by decide),by decide,by decide,by decide,i64 (by decide),i64 (by decide)⟩,_,rfl,⟨some ⟨g,0,none⟩,1,rfl,Nat.le_refl _,by decide,by decide,fun _=>⟨g,0,rfl,h.lt,fun i hi=>by
   obtain rfl:i=0:=by omega
   exact ⟨qG3,rfl,QI.one (W:=W) k1E_in,k1E_in,h.at_⟩⟩⟩⟩
theorem kNE_is:QH kNE=true:=by kernel_rfl
theorem kNE_txt:Qg kNE=[45,32,40,49,41]:=by kernel_rfl
theorem kNE_dp:QQ kNE≤1000:=by
 have:Nat.ble (QQ kNE) 1000=true:=by kernel_rfl
 exact Nat.le_of_ble_eq_true this
theorem drop_is:Zw (dropS ⟨#[116]⟩)=true:=by kernel_rfl
theorem drop_not:Zw (dropS ⟨#[115,101,108,101,99,116]⟩)=false:=by kernel_rfl
theorem drop_txt:Qy (dropS ⟨#[116]⟩)=[68,82,79,80,32,84,65,66,76,69,32,116]:=by kernel_rfl
theorem drop_dp:QP (dropS ⟨#[116]⟩)≤1000:=by
 have:Nat.ble (QP (dropS ⟨#[116]⟩)) 1000=true:=by kernel_rfl
 exact Nat.le_of_ble_eq_true this
noncomputable abbrev cKt:Code:=Qt f5
abbrev qG1:Nat × RV:=(4,.v (.string ⟨#[68,82,79,80,32,84,65,66,76,69,32,116]⟩))
abbrev qG2:Nat × RV:=(2,.v (.string ⟨#[45,32,40,49,41]⟩))
abbrev qG4:Value:=(.string ⟨#[]⟩)
theorem known9 (W:World) (hok:OkW W) (hP:PrW W):Calls prog 5 #[] W fun e W'=>e= .returned (.bool true)∧Below W.heap.size W W':=by
 refine Qj (args:=[]) (c:=cKt) func5 rfl (by kernel_rfl) fun a0 hst=> ?_
 refine gO cKt (.op 2 1) [(13,.agg [.v (.int .i64 3),.v (.int .i64 1),.v (.int .i64 0),.v (.int .i64 0),.v qG4,.v qG4,.v qG4,.s 0 0 1 1,.v (.int .i64 0),.v (.int .i64 0)])] [bx qG3,.box [.v (.int .i64 3),.v (.int .i64 1),.v (.int .i64 0),.v (.int .i64 0),.v qG4,.v qG4,.v qG4,.s 0 0 1 1,.v (.int .i64 0),.v (.int .i64 0)]] hst Zk fun G1 a1 w1 h1 _=> ?_
 have sb1:=(h1.rp.sb 0 _ rfl).1
 have b1:=h1.rp.below
 refine Jm (d:=14) (fv:=.v (.func (Fn.func 10) #[] #[])) (vs:=[.agg [.v (.int .i64 3),.v (.int .i64 1),.v (.int .i64 0),.v (.int .i64 0),.v qG4,.v qG4,.v qG4,.s 0 0 1 1,.v (.int .i64 0),.v (.int .i64 0)]]) (f:=10) (first:=[]) (caps:=[]) (k':=Qc cKt (.op 2 2)) [] [.agg [.int .i64 3,.int .i64 1,.int .i64 0,.int .i64 0,.string ⟨#[]⟩,.string ⟨#[]⟩,.string ⟨#[]⟩,.slice (some ⟨G1.g 0,0,none⟩) 1 1,.int .i64 0,.int .i64 0].toArray] h1 Qv rfl ⟨_,_,func10,rfl,by kernel_rfl⟩ rfl rfl (treeExpr_ok kNE _ w1 (kNE_in sb1) (hP.below (b1.mono Qo)) (fun _=>⟨kNE_dp,by rw [kNE_txt];decide⟩) (fun _=>by rw [kNE_txt];decide)) fun e w2 hp=> ?_
 obtain ⟨t2,x2,rfl,hq2,b2⟩:=hp
 rw [kNE_is,if_pos rfl,kNE_txt] at hq2
 obtain ⟨rfl,rfl⟩:=hq2
 have b2:=Below.andThen b1 b2
 refine ⟨_,rfl,fun a2 he2=> ?_⟩
 refine gO cKt (.op 3 1) [(18,.v (.agg (Zs 3 ⟨#[]⟩ none 0 0 none 0 0 none 0 0 ⟨#[116]⟩ ⟨#[]⟩ false none 0 0 none 0 0 none 0 0 0 0 0 0 ⟨#[]⟩ ⟨#[]⟩ ⟨#[]⟩ none 0 0 0 0 false none 0 0 none 0 0 none 0 0 0 0 0 0 ⟨#[]⟩ ⟨#[]⟩ ⟨#[]⟩ none 0 0 0 0 none 0 0 0).toArray)),qG2,(3,.v .nilIface)] [] (he2.st w2) Zk fun G3 a3 w3 h3 _=> ?_
 have b3:=Below.andThen b2 h3.rp.below
 refine cV 19 8 (Qc cKt (.op 3 2)) [qG2,(3,.v .nilIface)] [.agg (Zs 3 ⟨#[]⟩ none 0 0 none 0 0 none 0 0 ⟨#[116]⟩ ⟨#[]⟩ false none 0 0 none 0 0 none 0 0 0 0 0 0 ⟨#[]⟩ ⟨#[]⟩ ⟨#[]⟩ none 0 0 0 0 false none 0 0 none 0 0 none 0 0 0 0 0 0 ⟨#[]⟩ ⟨#[]⟩ ⟨#[]⟩ none 0 0 0 0 none 0 0 0).toArray] h3 func8 (treePrint_ok (dropS ⟨#[116]⟩) _ w3 (dropS_in _ (by decide)) (hP.below b3) (fun _=>⟨drop_dp,by rw [drop_txt];decide⟩) (fun _=>by rw [drop_txt];decide)) fun e w4 hp=> ?_
 obtain ⟨t4,x4,rfl,hq4,b4⟩:=hp
 rw [drop_is,if_pos rfl,drop_txt] at hq4
 obtain ⟨rfl,rfl⟩:=hq4
 have b4:=Below.andThen b3 b4
 refine ⟨_,rfl,fun a4 he4=> ?_⟩
 refine gO cKt (.op 4 1) [(23,.v (.agg (Zs 3 ⟨#[]⟩ none 0 0 none 0 0 none 0 0 ⟨#[115,101,108,101,99,116]⟩ ⟨#[]⟩ false none 0 0 none 0 0 none 0 0 0 0 0 0 ⟨#[]⟩ ⟨#[]⟩ ⟨#[]⟩ none 0 0 0 0 false none 0 0 none 0 0 none 0 0 0 0 0 0 ⟨#[]⟩ ⟨#[]⟩ ⟨#[]⟩ none 0 0 0 0 none 0 0 0).toArray)),qG2,(3,.v .nilIface),qG1,(5,.v .nilIface)] [] (he4.st w4) Zk fun G5 a5 w5 h5 _=> ?_
 have b5:=Below.andThen b4 h5.rp.below
 refine cV 24 8 (Qc cKt (.op 4 2)) [qG2,(3,.v .nilIface),qG1,(5,.v .nilIface)] [.agg (Zs 3 ⟨#[]⟩ none 0 0 none 0 0 none 0 0 ⟨#[115,101,108,101,99,116]⟩ ⟨#[]⟩ false none 0 0 none 0 0 none 0 0 0 0 0 0 ⟨#[]⟩ ⟨#[]⟩ ⟨#[]⟩ none 0 0 0 0 false none 0 0 none 0 0 none 0 0 0 0 0 0 ⟨#[]⟩ ⟨#[]⟩ ⟨#[]⟩ none 0 0 0 0 none 0 0 0).toArray] h5 func8 (treePrint_ok (dropS ⟨#[115,101,108,101,99,116]⟩) _ w5 (dropS_in _ (by decide)) (hP.below b5) (fun h=>by rw [drop_not] at h;cases h) (fun h=>by rw [drop_not] at h;cases h)) fun e w6 hp=> ?_
 obtain ⟨t6,x6,rfl,hq6,b6⟩:=hp
 rw [drop_not,if_neg (by decide)] at hq6
 obtain ⟨rfl,hE6⟩:=hq6
 have b6:=Below.andThen b5 b6
 refine ⟨_,rfl,fun a6 he6=> ?_⟩
 refine gO cKt (.op 5 1) [(27,.v .nilIface),qG2,qG1,(5,.v .nilIface),(7,.v x6)] [] (he6.st w6) Zk fun G7 a7 w7 h7 _=> ?_
 have b7:=Below.andThen b6 h7.rp.below
 have hE7:=hE6.below h7.rp.below
 refine nil_at (d:=28) (eq:=true) (y:=.v .nilIface) (z:=true) (k':=Qc cKt (.op 5 2)) [qG2,qG1,(5,.v .nilIface),(7,.v x6)] h7 Qv underlying44 rfl (.inl ⟨rfl,rfl⟩) rfl fun a8 he8=> ?_
 have S1:=sd w7 (Qb.strEq (t:=9) (a:=⟨#[45,32,40,49,41]⟩) (b:=⟨#[45,32,40,49,41]⟩) (z:=true) (by simp))
 refine gO cKt (.op 5 8) [(33,.v (.bool true)),(34,.v .nilIface),qG1,(7,.v x6)] [] (he8.st w7) (Zg S1) fun G9 a9 w9 h9 _=> ?_
 have b9:=Below.andThen b7 h9.rp.below
 have hE9:=hE7.below h9.rp.below
 refine nil_at (d:=35) (eq:=true) (y:=.v .nilIface) (z:=true) (k':=Qc cKt (.op 5 9)) [(33,.v (.bool true)),qG1,(7,.v x6)] h9 Qv underlying44 rfl (.inl ⟨rfl,rfl⟩) rfl fun a10 he10=> ?_
 have S2:=sd w9 (Qb.strEq (t:=9) (a:=⟨#[68,82,79,80,32,84,65,66,76,69,32,116]⟩) (b:=⟨#[68,82,79,80,32,84,65,66,76,69,32,116]⟩) (z:=true) (by simp))
 have C3:Sd w9 (.call 16 [x6] (.int .i64 20)):=Qb.of func16 rfl Qd (fun w hw=>Class_err 1 x6 20 w (hok.below (Below.andThen b9 hw)) (hE9.below hw))
 have S4:=sd w9 (Qb.intEq (t:=3) (k:=.i64) (a:=20) (b:=20) (z:=true) (by decide))
 exact gE (he10.st w9) (kE3 S2 C3 S4) [.bool true] fun w' hw=>⟨rfl,Below.andThen b9 hw⟩
end
end Go.Proofs.YtddedijencleeaaGreatDoor
