/- ref9.text. -/
import Derived.Test.YtddedijencleeaaGreatDoorSm
import Derived.Test.YtddedijencleeaaGreatDoorMSq
import Derived.Test.YtddedijencleeaaGreatDoorMXc
import Derived.Test.YtddedijencleeaaGreatDoorUw
import Derived.Test.YtddedijencleeaaGreatDoorMWm
set_option linter.all false
namespace Go.Proofs.YtddedijencleeaaGreatDoor
set_option maxRecDepth 100000
set_option maxHeartbeats 8000000
open Tryz
open Go.RowKit Go.Lib RC
theorem aggL_19:aggL 19=[67,79,85,78,84]:=rfl
theorem aggL_20:aggL 20=[83,85,77]:=rfl
theorem aggL_21:aggL 21=[77,73,78]:=rfl
theorem aggL_22:aggL 22=[77,65,88]:=rfl
theorem wrapB_eq {k op:Int} {i:Nat} {a:E} (h:k=3∨k=4∨(k=5∧i=0)):ZP k op i a=Qs k op a:=by
 unfold ZP
 rcases h with rfl | rfl | ⟨rfl,rfl⟩
 · simp
 · simp
 simp
theorem inB_len (z:Bool) (l:List UInt8):l.length≤(Kd z l).length:=by cases z <;> simp [Kd] <;> omega
theorem Ji {n i:Nat} {t:Nat→List UInt8} (hi:i<n):(t i).length≤(Qk n t).length:=by
 have:=joinN_step (t:=t) hi _ rfl
 omega
theorem casesN_le {m:Nat} {t:Nat→List UInt8} {i:Nat} (hi:i<2*m):(t i).length≤(Zo m t).length:=by
 have:=casesN_step (t:=t) (i:=i / 2) (m:=m) (by omega)
 by_cases e:i % 2=0
 · rw [show 2*(i / 2)=i by omega] at this;omega
 rw [show 2*(i / 2)+1=i by omega] at this;omega
theorem unaryL_len (op:Int) (t:List UInt8):t.length≤(Qp op t).length:=by
 unfold Qp
 repeat' split
 all_goals (simp only [List.length_append];omega)
theorem txtE_sub {k op vk vn:Int} {vt tb nm:ByteArray} {n:Nat} {args:Nat→E} {pl ty:Int} (h:QH (.mk k op vk vn vt tb nm n args pl ty)=true): ∀ i,i<n→(Qg (args i)).length≤(Qg (.mk k op vk vn vt tb nm n args pl ty)).length:=by
 intro i hi
 obtain ⟨_,hk,p3,p4,p5,p6,p7⟩:=Kb h
 rw [QH,Bool.and_eq_true] at h
 obtain ⟨h1,_⟩:=h
 unfold okT at h1
 rw [Qg]
 by_cases k1:k=1
 · subst k1;simp at h1;omega
 by_cases k2:k=2
 · subst k2;simp at h1;omega
 have e1:(k==1)=false:=by rw [beq_eq_false_iff_ne];exact k1
 have e2:(k==2)=false:=by rw [beq_eq_false_iff_ne];exact k2
 simp only [e1,e2,Bool.false_eq_true,if_false]
 by_cases k3:k=3
 · obtain ⟨g,_⟩:=p3 k3
   have e3:(k==3)=true:=by rw [beq_iff_eq];exact k3
   simp only [e3,if_true]
   obtain rfl:i=0:=by omega
   exact Nat.le_trans (inB_len _ _) (unaryL_len _ _)
 have e3:(k==3)=false:=by rw [beq_eq_false_iff_ne];exact k3
 simp only [e3,Bool.false_eq_true,if_false]
 by_cases k4:k=4
 · obtain ⟨g,_⟩:=p4 k4
   have e4:(k==4)=true:=by rw [beq_iff_eq];exact k4
   simp only [e4,if_true,List.length_append]
   have q0:=inB_len (Qs k op (args 0)) (Qg (args 0))
   have q1:=inB_len (Qs k op (args 1)) (Qg (args 1))
   have:i=0∨i=1:=by omega
   rcases this with rfl | rfl <;> omega
 have e4:(k==4)=false:=by rw [beq_eq_false_iff_ne];exact k4
 simp only [e4,Bool.false_eq_true,if_false]
 by_cases k5:k=5
 · have g:=p5 k5
   have e5:(k==5)=true:=by rw [beq_iff_eq];exact k5
   simp only [e5,if_true,List.length_append]
   have q0:=inB_len (Qs k op (args 0)) (Qg (args 0))
   by_cases e:i=0
   · subst e;omega
   have:=Ji (t:=fun i=>Qg (args (i+1))) (i:=i - 1) (n:=n - 1) (by omega)
   simp only [show i - 1+1=i by omega] at this
   omega
 have e5:(k==5)=false:=by rw [beq_eq_false_iff_ne];exact k5
 simp only [e5,Bool.false_eq_true,if_false]
 by_cases k6:k=6
 · have g:=p6 k6
   have e6:(k==6)=true:=by rw [beq_iff_eq];exact k6
   simp only [e6,if_true,QC,List.length_append]
   by_cases e:i<2*(n / 2)
   · have:(Qg (args i)).length≤_:=casesN_le (t:=fun i=>Qg (args i)) e
     omega
   rw [if_pos (by omega),List.length_append,show n - 1=i by omega];omega
 have e6:(k==6)=false:=by rw [beq_eq_false_iff_ne];exact k6
 have e7:(k==7)=true:=by rw [beq_iff_eq];omega
 simp only [e6,e7,Bool.false_eq_true,if_false,if_true,QX,List.length_append]
 rw [if_neg (by omega)]
 have:(Qg (args i)).length≤_:=Ji (t:=fun i=>Qg (args i)) hi
 omega
theorem arg9c (k op vk vn:Int) (vt tb nm:ByteArray) (A:Option Addr) (n c:Nat) (pl ty:Int) {args:Nat→E} {W:World} (hsl:QR W 10 120 n (.slice A n c) fun i ds=>QI W (args i) ds) (i:Nat) (hi:i<n) (hb:(Qg (args i)).length≤140737488355328) (hw:ZP k op i (args i)=Qs k op (args i))
 (HT: ∀ cs w,Below W.heap.size W w→QI w (args i) cs→Calls prog 31 #[.agg cs.toArray] w fun r w'=>r= .returned (.string ⟨(Qg (args i)).toArray⟩)∧Below w.heap.size w w') :
 Calls prog 116 #[.agg ((eL k op vk vn vt tb nm A n c pl ty)).toArray,.int .i64 i] W fun r W'=>r= .returned (.string ⟨(Kd (Qs k op (args i)) (Qg (args i))).toArray⟩)∧Below W.heap.size W W':=by
 rw [← hw];exact arg9_ok k op vk vn vt tb nm A n c pl ty hsl i hi hb HT

noncomputable abbrev r9Te:Code:=Qt f31
theorem text9_ok: ∀ (e:E) (cs:List Value) (W:World),QH e=true→QI W e cs→(Qg e).length≤140737488355328→Calls prog 31 #[.agg cs.toArray] W fun r W'=>r= .returned (.string ⟨(Qg e).toArray⟩)∧Below W.heap.size W W'
 | .no,_,_,_,h,_=>False.elim h
 | .mk k op vk vn vt tb nm n args pl ty,cs,W,hI,h,hb=>by
   have hsub:=txtE_sub hI
   have HT: ∀ i,i<n→ ∀ cs w,Below W.heap.size W w→QI w (args i) cs→Calls prog 31 #[.agg cs.toArray] w fun r w'=>r= .returned (.string ⟨(Qg (args i)).toArray⟩)∧Below w.heap.size w w':=fun i hi cs w hw h'=>text9_ok (args i) cs w ((Kb hI).1 i hi) h' (Nat.le_trans (hsub i hi) hb)
   obtain ⟨_,hk17,p3,p4,p5,p6,p7⟩:=Kb hI
   obtain ⟨wf,vv,rfl,hsl⟩:=h
   obtain ⟨A,c,rfl⟩:=QR.form hsl
   replace hsl:QR W 10 120 n (.slice A n c) (fun i ds=>QI W (args i) ds):=hsl
   have hn:=QR.len hsl
   have hvt:=wf.vt
   have hvn:=wf.vn
   have hsb: ∀ i,i<n→(Qg (args i)).length≤140737488355328:=fun i hi=>Nat.le_trans (hsub i hi) hb
   have hk7:(k==1)=false→(k==2)=false→(k==3)=false→(k==4)=false→(k==5)=false→(k==6)=false→(k==7)=true:=fun a b c d e f=>by have a:=ne_of_beq_false a;have b:=ne_of_beq_false b;have c:=ne_of_beq_false c;have d:=ne_of_beq_false d;have e:=ne_of_beq_false e;have f:=ne_of_beq_false f;rw [beq_iff_eq];omega
   refine Qj (args:=[eV k op vk vn vt tb nm A n c pl ty]) (c:=r9Te) func31 rfl (by kernel_rfl) fun a0 hst=> ?_
   obtain ⟨z1,hz1⟩: ∃ z,(k==1)=z:=⟨_,rfl⟩
   have F2:=QN W hz1
   cases z1
   · obtain ⟨z3,hz3⟩: ∃ z,(k==2)=z:=⟨_,rfl⟩
     have F4:=QN W hz3
     cases z3
     · obtain ⟨z5,hz5⟩: ∃ z,(k==3)=z:=⟨_,rfl⟩
       have F6:=QN W hz5
       cases z5
       · obtain ⟨z7,hz7⟩: ∃ z,(k==4)=z:=⟨_,rfl⟩
         have F8:=QN W hz7
         cases z7
         · obtain ⟨z9,hz9⟩: ∃ z,(k==5)=z:=⟨_,rfl⟩
           have F10:=QN W hz9
           cases z9
           · obtain ⟨z11,hz11⟩: ∃ z,(k==6)=z:=⟨_,rfl⟩
             have F12:=QN W hz11
             cases z11
             · have h77:=hk7 hz1 hz3 hz5 hz7 hz9 hz11
               obtain ⟨⟨g1,g2⟩,g3⟩:=p7 (eq_of_beq h77)
               obtain ⟨z13,hz13⟩: ∃ z,(((n:Nat):Int)==0)=z:=⟨_,rfl⟩
               have F14:=QN W hz13
               cases z13
               · have hop:op=19∨op=20∨op=21∨op=22:=by omega
                 rcases hop with rfl | rfl | rfl | rfl
                 · have F15:=sd W (Qb.subI (t:=3) (k:=.i64) (a:=19) (b:=19) (c:=0) (by decide))
                   obtain ⟨eb1,eo1,ed1,es1,eq1,el1,em1,ep1,er1⟩:=hsl.at (i:=(0)) QIqP
                   have pp1:=ep1
                   have en1:=ep1
                   obtain ⟨e1k,e1o,e1vk,e1vn,e1vt,e1tb,e1nm,e1A,e1n,e1c,e1pl,e1ty,rfl⟩:=en1.form
                   have F16:=sd W (Qb.elemA (t:=32) (e:=34) (size:=10) (i:=(0)) (k:=.i64) eq1 underlying32 Qd QIqP)
                   have F17:Sd W (.get 34 (.pointer (some ⟨eb1,eo1+0*10,none⟩)) (eV e1k e1o e1vk e1vn e1vt e1tb e1nm e1A e1n e1c e1pl e1ty)):=Qb.row Qd Qd er1 el1 Qo
                   have C18:Sd W (.call 31 [eV e1k e1o e1vk e1vn e1vt e1tb e1nm e1A e1n e1c e1pl e1ty] (.string ⟨(Qg (args 0)).toArray⟩)):=by exact Qb.of func31 rfl Qd (fun w hw=>HT 0 QIqP _ w hw (QI.sub (.below hw) ep1))
                   have F19:=Z8 W [67,79,85,78,84,40] (Qg (args 0)) QLtY
                   have F20:=Z8 W ([67,79,85,78,84,40]++(Qg (args 0))) [41] QLtY
                   exact gE hst (kE13 F2 F4 F6 F8 F10 F12 F14 F15 F16 F17 C18 F19 F20) [.string (⟨(([67,79,85,78,84,40]++(Qg (args 0)))++[41]).toArray⟩:ByteArray)] fun w' hw=>⟨congrArg (fun z=>Ending.returned (.string z)) (bytes_eq (Eq.trans (Qi _) (by first | rfl | (simp only [Qg,Qp,QC,QX,hz1,hz3,hz5,hz7,hz9,hz11,h77,hz13,aggL_19,bS,aS];done) | (simp only [Qg,Qp,QC,QX,hz1,hz3,hz5,hz7,hz9,hz11,h77,hz13,aggL_19,bS];rw [Jc hz13];simp only [Qg,Qp,QC,QX,hz1,hz3,hz5,hz7,hz9,hz11,h77,hz13,aggL_19,bS,aS];done) | (simp only [Qg,Qp,QC,QX,hz1,hz3,hz5,hz7,hz9,hz11,h77,hz13,aggL_19,bS];rw [Jc hz13];simp only [Qg,Qp,QC,QX,hz1,hz3,hz5,hz7,hz9,hz11,h77,hz13,aggL_19,bS,aS] <;> rfl) | (simp only [Qg,Qp,QC,QX,hz1,hz3,hz5,hz7,hz9,hz11,h77,hz13,aggL_19,bS];rw [Jc hz13];simp only [Qg,Qp,QC,QX,hz1,hz3,hz5,hz7,hz9,hz11,h77,hz13,aggL_19,bS,aS] <;> simp [Ka,show n=1 from QIqP])))),hw⟩
                 · have F21:=sd W (Qb.subI (t:=3) (k:=.i64) (a:=20) (b:=19) (c:=1) (by decide))
                   obtain ⟨eb2,eo2,ed2,es2,eq2,el2,em2,ep2,er2⟩:=hsl.at (i:=(0)) QIqP
                   have pp2:=ep2
                   have en2:=ep2
                   obtain ⟨e2k,e2o,e2vk,e2vn,e2vt,e2tb,e2nm,e2A,e2n,e2c,e2pl,e2ty,rfl⟩:=en2.form
                   have F22:=sd W (Qb.elemA (t:=32) (e:=34) (size:=10) (i:=(0)) (k:=.i64) eq2 underlying32 Qd QIqP)
                   have F23:Sd W (.get 34 (.pointer (some ⟨eb2,eo2+0*10,none⟩)) (eV e2k e2o e2vk e2vn e2vt e2tb e2nm e2A e2n e2c e2pl e2ty)):=Qb.row Qd Qd er2 el2 Qo
                   have C24:Sd W (.call 31 [eV e2k e2o e2vk e2vn e2vt e2tb e2nm e2A e2n e2c e2pl e2ty] (.string ⟨(Qg (args 0)).toArray⟩)):=by exact Qb.of func31 rfl Qd (fun w hw=>HT 0 QIqP _ w hw QWH9)
                   have F25:=Z8 W [83,85,77,40] (Qg (args 0)) QxBp
                   have F26:=Z8 W ([83,85,77,40]++(Qg (args 0))) [41] QxBp
                   exact gE hst (kE13 F2 F4 F6 F8 F10 F12 F14 F21 F22 F23 C24 F25 F26) [.string (⟨(([83,85,77,40]++(Qg (args 0)))++[41]).toArray⟩:ByteArray)] fun w' hw=>⟨congrArg (fun z=>Ending.returned (.string z)) (bytes_eq (Eq.trans (Qi _) (by first | rfl | (simp only [Qg,Qp,QC,QX,hz1,hz3,hz5,hz7,hz9,hz11,h77,hz13,aggL_20,bS,aS];done) | (simp only [Qg,Qp,QC,QX,hz1,hz3,hz5,hz7,hz9,hz11,h77,hz13,aggL_20,bS];rw [Jc hz13];simp only [Qg,Qp,QC,QX,hz1,hz3,hz5,hz7,hz9,hz11,h77,hz13,aggL_20,bS,aS];done) | (simp only [Qg,Qp,QC,QX,hz1,hz3,hz5,hz7,hz9,hz11,h77,hz13,aggL_20,bS];rw [Jc hz13];simp only [Qg,Qp,QC,QX,hz1,hz3,hz5,hz7,hz9,hz11,h77,hz13,aggL_20,bS,aS] <;> rfl) | (simp only [Qg,Qp,QC,QX,hz1,hz3,hz5,hz7,hz9,hz11,h77,hz13,aggL_20,bS];rw [Jc hz13];simp only [Qg,Qp,QC,QX,hz1,hz3,hz5,hz7,hz9,hz11,h77,hz13,aggL_20,bS,aS] <;> simp [Ka,show n=1 from QIqP])))),hw⟩
                 · have F27:=sd W (Qb.subI (t:=3) (k:=.i64) (a:=21) (b:=19) (c:=2) (by decide))
                   obtain ⟨eb3,eo3,ed3,es3,eq3,el3,em3,ep3,er3⟩:=hsl.at (i:=(0)) QIqP
                   have pp3:=ep3
                   have en3:=ep3
                   obtain ⟨e3k,e3o,e3vk,e3vn,e3vt,e3tb,e3nm,e3A,e3n,e3c,e3pl,e3ty,rfl⟩:=en3.form
                   have F28:=sd W (Qb.elemA (t:=32) (e:=34) (size:=10) (i:=(0)) (k:=.i64) eq3 underlying32 Qd QIqP)
                   have F29:Sd W (.get 34 (.pointer (some ⟨eb3,eo3+0*10,none⟩)) (eV e3k e3o e3vk e3vn e3vt e3tb e3nm e3A e3n e3c e3pl e3ty)):=Qb.row Qd Qd er3 el3 Qo
                   have C30:Sd W (.call 31 [eV e3k e3o e3vk e3vn e3vt e3tb e3nm e3A e3n e3c e3pl e3ty] (.string ⟨(Qg (args 0)).toArray⟩)):=by exact Qb.of func31 rfl Qd (fun w hw=>HT 0 QIqP _ w hw (QI.sub (.below hw) ep3))
                   have F31:=Z8 W [77,73,78,40] (Qg (args 0)) QDJW
                   have F32:=Z8 W ([77,73,78,40]++(Qg (args 0))) [41] QDJW
                   exact gE hst (kE13 F2 F4 F6 F8 F10 F12 F14 F27 F28 F29 C30 F31 F32) [.string (⟨(([77,73,78,40]++(Qg (args 0)))++[41]).toArray⟩:ByteArray)] fun w' hw=>⟨congrArg (fun z=>Ending.returned (.string z)) (bytes_eq (Eq.trans (Qi _) (by first | rfl | (simp only [Qg,Qp,QC,QX,hz1,hz3,hz5,hz7,hz9,hz11,h77,hz13,aggL_21,bS,aS];done) | (simp only [Qg,Qp,QC,QX,hz1,hz3,hz5,hz7,hz9,hz11,h77,hz13,aggL_21,bS];rw [Jc hz13];simp only [Qg,Qp,QC,QX,hz1,hz3,hz5,hz7,hz9,hz11,h77,hz13,aggL_21,bS,aS];done) | (simp only [Qg,Qp,QC,QX,hz1,hz3,hz5,hz7,hz9,hz11,h77,hz13,aggL_21,bS];rw [Jc hz13];simp only [Qg,Qp,QC,QX,hz1,hz3,hz5,hz7,hz9,hz11,h77,hz13,aggL_21,bS,aS] <;> rfl) | (simp only [Qg,Qp,QC,QX,hz1,hz3,hz5,hz7,hz9,hz11,h77,hz13,aggL_21,bS];rw [Jc hz13];simp only [Qg,Qp,QC,QX,hz1,hz3,hz5,hz7,hz9,hz11,h77,hz13,aggL_21,bS,aS] <;> simp [Ka,show n=1 from QIqP])))),hw⟩
                 · have F33:=sd W (Qb.subI (t:=3) (k:=.i64) (a:=22) (b:=19) (c:=3) (by decide))
                   obtain ⟨eb4,eo4,ed4,es4,eq4,el4,em4,ep4,er4⟩:=hsl.at (i:=(0)) QIqP
                   have pp4:=ep4
                   have en4:=ep4
                   obtain ⟨e4k,e4o,e4vk,e4vn,e4vt,e4tb,e4nm,e4A,e4n,e4c,e4pl,e4ty,rfl⟩:=en4.form
                   have F34:=sd W (Qb.elemA (t:=32) (e:=34) (size:=10) (i:=(0)) (k:=.i64) eq4 underlying32 Qd QIqP)
                   have F35:Sd W (.get 34 (.pointer (some ⟨eb4,eo4+0*10,none⟩)) (eV e4k e4o e4vk e4vn e4vt e4tb e4nm e4A e4n e4c e4pl e4ty)):=Qb.row Qd Qd er4 el4 Qo
                   have C36:Sd W (.call 31 [eV e4k e4o e4vk e4vn e4vt e4tb e4nm e4A e4n e4c e4pl e4ty] (.string ⟨(Qg (args 0)).toArray⟩)):=by exact Qb.of func31 rfl Qd (fun w hw=>HT 0 QIqP _ w hw (QI.sub (.below hw) ep4))
                   have F37:=Z8 W [77,65,88,40] (Qg (args 0)) QTJ3
                   have F38:=Z8 W ([77,65,88,40]++(Qg (args 0))) [41] QTJ3
                   exact gE hst (kE13 F2 F4 F6 F8 F10 F12 F14 F33 F34 F35 C36 F37 F38) [.string (⟨(([77,65,88,40]++(Qg (args 0)))++[41]).toArray⟩:ByteArray)] fun w' hw=>⟨congrArg (fun z=>Ending.returned (.string z)) (bytes_eq (Eq.trans (Qi _) (by first | rfl | (simp only [Qg,Qp,QC,QX,hz1,hz3,hz5,hz7,hz9,hz11,h77,hz13,aggL_22,bS,aS];done) | (simp only [Qg,Qp,QC,QX,hz1,hz3,hz5,hz7,hz9,hz11,h77,hz13,aggL_22,bS];rw [Jc hz13];simp only [Qg,Qp,QC,QX,hz1,hz3,hz5,hz7,hz9,hz11,h77,hz13,aggL_22,bS,aS];done) | (simp only [Qg,Qp,QC,QX,hz1,hz3,hz5,hz7,hz9,hz11,h77,hz13,aggL_22,bS];rw [Jc hz13];simp only [Qg,Qp,QC,QX,hz1,hz3,hz5,hz7,hz9,hz11,h77,hz13,aggL_22,bS,aS] <;> rfl) | (simp only [Qg,Qp,QC,QX,hz1,hz3,hz5,hz7,hz9,hz11,h77,hz13,aggL_22,bS];rw [Jc hz13];simp only [Qg,Qp,QC,QX,hz1,hz3,hz5,hz7,hz9,hz11,h77,hz13,aggL_22,bS,aS] <;> simp [Ka,show n=1 from QIqP])))),hw⟩
               · exact gE hst (kE7 F2 F4 F6 F8 F10 F12 F14) [.string ⟨#[67,79,85,78,84,40,42,41]⟩] fun w' hw=>⟨congrArg (fun z=>Ending.returned (.string z)) (bytes_eq (Eq.trans rfl (by obtain rfl:op=19:=(by have:=eq_of_beq hz13;omega);simp only [Qg,Qp,QC,QX,hz1,hz3,hz5,hz7,hz9,hz11,h77,hz13,bS];rw [Jc hz13];rfl))),hw⟩
             · have he39:=eq_of_beq hz11
               have g1:=p6 he39
               refine gO r9Te (.loop 2) [(4,.v (.int .i64 (((2*0):Nat):Int))),(3,.v (.string (⟨([67,65,83,69]++Zo 0 (fun i=>Qg (args i))).toArray⟩:ByteArray))),(1,.p 0 0)] [bx (eL k op vk vn vt tb nm A n c pl ty)] hst (Je F2 F4 F6 F8 F10 F12) fun G5 a5 w5 hst5 _=> ?_
               refine Kt r9Te 2 Qv ((n / 2)) (fun ii aa ww=> ∃ gg,RC.St W.heap.size W f31.ntmps ((4,.v (.int .i64 (((2*ii):Nat):Int)))::(3,.v (.string (⟨([67,65,83,69]++Zo ii (fun i=>Qg (args i))).toArray⟩:ByteArray)))::[(1,.p 0 0)]) [bx (eL k op vk vn vt tb nm A n c pl ty)] gg aa ww) ⟨G5,hst5⟩ (fun i5 hi5 b5 u5 hI5=> ?_) (fun b5 u5 hI5=> ?_)
               · obtain ⟨g5,hs5⟩:=hI5
                 have htx6:decide ((((2*i5)+1:Nat):Int)<((n:Nat):Int))=true:=by simp;omega
                 have hj5:=casesN_step (t:=(fun i=>Qg (args i))) hi5
                 have F40:Sd W (.bin .add 3 (.int .i64 (((2*i5):Nat):Int)) (.int .i64 1) (.int .i64 (((2*i5)+1:Nat):Int))):=Qb.addN (a:=(2*i5)) (b:=1) (by omega)
                 have F41:=JE W htx6
                 have F42:=Z8 W ([67,65,83,69]++Zo i5 (fun i=>Qg (args i))) [32,87,72,69,78,32] Qt7i
                 obtain ⟨eb7,eo7,ed7,es7,eq7,el7,em7,ep7,er7⟩:=hsl.at (i:=((2*i5))) (by omega)
                 have pp7:=ep7
                 have en7:=ep7
                 obtain ⟨e7k,e7o,e7vk,e7vn,e7vt,e7tb,e7nm,e7A,e7n,e7c,e7pl,e7ty,rfl⟩:=en7.form
                 have F43:=sd W (Qb.elemA (t:=32) (e:=34) (size:=10) (i:=((2*i5))) (k:=.i64) eq7 underlying32 Qd (by omega))
                 have F44:Sd W (.get 34 (.pointer (some ⟨eb7,eo7+((2*i5))*10,none⟩)) (eV e7k e7o e7vk e7vn e7vt e7tb e7nm e7A e7n e7c e7pl e7ty)):=Qb.row Qd Qd er7 el7 Qo
                 have C45:Sd W (.call 31 [eV e7k e7o e7vk e7vn e7vt e7tb e7nm e7A e7n e7c e7pl e7ty] (.string ⟨(Qg (args ((2*i5)))).toArray⟩)):=by exact Qb.of func31 rfl Qd (fun w hw=>HT ((2*i5)) (by omega) _ w hw (QI.sub (.below hw) ep7))
                 have F46:=Z8 W (([67,65,83,69]++Zo i5 (fun i=>Qg (args i)))++[32,87,72,69,78,32]) (Qg (args ((2*i5)))) Qt7i
                 have F47:=Z8 W ((([67,65,83,69]++Zo i5 (fun i=>Qg (args i)))++[32,87,72,69,78,32])++(Qg (args ((2*i5))))) [32,84,72,69,78,32] Qt7i
                 have F48:Sd W (.bin .add 3 (.int .i64 (((2*i5):Nat):Int)) (.int .i64 1) (.int .i64 (((2*i5)+1:Nat):Int))):=Qb.addN (a:=(2*i5)) (b:=1) (by omega)
                 obtain ⟨eb8,eo8,ed8,es8,eq8,el8,em8,ep8,er8⟩:=hsl.at (i:=((2*i5)+1)) (by omega)
                 have pp8:=ep8
                 have en8:=ep8
                 obtain ⟨e8k,e8o,e8vk,e8vn,e8vt,e8tb,e8nm,e8A,e8n,e8c,e8pl,e8ty,rfl⟩:=en8.form
                 have F49:=sd W (Qb.elemA (t:=32) (e:=34) (size:=10) (i:=((2*i5)+1)) (k:=.i64) eq8 underlying32 Qd (by omega))
                 have F50:Sd W (.get 34 (.pointer (some ⟨eb8,eo8+((2*i5)+1)*10,none⟩)) (eV e8k e8o e8vk e8vn e8vt e8tb e8nm e8A e8n e8c e8pl e8ty)):=Qb.row Qd Qd er8 el8 Qo
                 have C51:Sd W (.call 31 [eV e8k e8o e8vk e8vn e8vt e8tb e8nm e8A e8n e8c e8pl e8ty] (.string ⟨(Qg (args ((2*i5)+1))).toArray⟩)):=by exact Qb.of func31 rfl Qd (fun w hw=>HT ((2*i5)+1) (by omega) _ w hw (QI.sub (.below hw) ep8))
                 have F52:=Z8 W (((([67,65,83,69]++Zo i5 (fun i=>Qg (args i)))++[32,87,72,69,78,32])++(Qg (args ((2*i5)))))++[32,84,72,69,78,32]) (Qg (args ((2*i5)+1))) Qt7i
                 have F53:Sd W (.bin .add 3 (.int .i64 (((2*i5):Nat):Int)) (.int .i64 2) (.int .i64 (((2*i5)+2:Nat):Int))):=Qb.addN (a:=(2*i5)) (b:=2) (by omega)
                 have e0:((((([67,65,83,69]++Zo i5 (fun i=>Qg (args i)))++[32,87,72,69,78,32])++(Qg (args ((2*i5)))))++[32,84,72,69,78,32])++(Qg (args ((2*i5)+1))))=[67,65,83,69]++Zo (i5+1) (fun i=>Qg (args i)):=by rw [Zo] <;> simp only [List.append_assoc]
                 exact goT .fin (k':=[]) (e:=.nrm) [(4,.v (.int .i64 (((2*i5)+2:Nat):Int))),(3,.v (.string (⟨((((([67,65,83,69]++Zo i5 (fun i=>Qg (args i)))++[32,87,72,69,78,32])++(Qg (args ((2*i5)))))++[32,84,72,69,78,32])++(Qg (args ((2*i5)+1)))).toArray⟩:ByteArray))),(1,.p 0 0)] hs5 (kE14 F40 F41 F42 F43 F44 C45 F46 F47 F48 F49 F50 C51 F52 F53) Qv rfl (by kernel_rfl) fun g0 a0 w0 h0 _=>⟨g0,by rw [← e0];exact h0⟩
               obtain ⟨g5,hs5⟩:=hI5
               have htx9:decide ((((2*(n / 2))+1:Nat):Int)<((n:Nat):Int))=false:=by simp;omega
               have F54:Sd W (.bin .add 3 (.int .i64 (((2*(n / 2)):Nat):Int)) (.int .i64 1) (.int .i64 (((2*(n / 2))+1:Nat):Int))):=Qb.addN (a:=(2*(n / 2))) (b:=1) (by omega)
               have F55:=JE W htx9
               refine gF (.ex 2) [(3,.v (.string (⟨([67,65,83,69]++Zo (n / 2) (fun i=>Qg (args i))).toArray⟩:ByteArray))),(1,.p 0 0)] [bx (eL k op vk vn vt tb nm A n c pl ty)] hs5 (Km F54 F55) fun G10 a10 w10 hst10 _=>brk ?_
               have F56:Sd W (.bin .rem 3 (.int .i64 ((n:Nat):Int)) (.int .i64 2) (.int .i64 ((n % 2:Nat):Int))):=Qb.remN (a:=n) (b:=2) (by omega) (by omega) (by omega)
               obtain ⟨z57,hz57⟩: ∃ z,(((n % 2:Nat):Int)==1)=z:=⟨_,rfl⟩
               have F58:=QN W hz57
               cases z57
               · have F59:=Z8 W ([67,65,83,69]++Zo (n / 2) (fun i=>Qg (args i))) [32,69,78,68] QJ9Z
                 exact gE hst10 (kE3 F56 F58 F59) [.string (⟨(([67,65,83,69]++Zo (n / 2) (fun i=>Qg (args i)))++[32,69,78,68]).toArray⟩:ByteArray)] fun w' hw=>⟨congrArg (fun z=>Ending.returned (.string z)) QLGG,hw⟩
               · have F60:=Z8 W ([67,65,83,69]++Zo (n / 2) (fun i=>Qg (args i))) [32,69,76,83,69,32] QJ9Z
                 have F61:Sd W (.bin .sub 3 (.int .i64 ((n:Nat):Int)) (.int .i64 1) (.int .i64 ((n - 1:Nat):Int))):=Qb.subN (a:=n) (b:=1) (by omega) (by omega)
                 obtain ⟨eb11,eo11,ed11,es11,eq11,el11,em11,ep11,er11⟩:=hsl.at (i:=(n - 1)) (by omega)
                 have pp11:=ep11
                 have en11:=ep11
                 obtain ⟨e11k,e11o,e11vk,e11vn,e11vt,e11tb,e11nm,e11A,e11n,e11c,e11pl,e11ty,rfl⟩:=en11.form
                 have F62:=sd W (Qb.elemA (t:=32) (e:=34) (size:=10) (i:=(n - 1)) (k:=.i64) eq11 underlying32 Qd (by omega))
                 have F63:Sd W (.get 34 (.pointer (some ⟨eb11,eo11+(n - 1)*10,none⟩)) (eV e11k e11o e11vk e11vn e11vt e11tb e11nm e11A e11n e11c e11pl e11ty)):=Qb.row Qd Qd er11 el11 Qo
                 have C64:Sd W (.call 31 [eV e11k e11o e11vk e11vn e11vt e11tb e11nm e11A e11n e11c e11pl e11ty] (.string ⟨(Qg (args (n - 1))).toArray⟩)):=by exact Qb.of func31 rfl Qd (fun w hw=>HT (n - 1) (by omega) _ w hw (QI.sub (.below hw) ep11))
                 have F65:=Z8 W (([67,65,83,69]++Zo (n / 2) (fun i=>Qg (args i)))++[32,69,76,83,69,32]) (Qg (args (n - 1))) QJ9Z
                 have F66:=Z8 W ((([67,65,83,69]++Zo (n / 2) (fun i=>Qg (args i)))++[32,69,76,83,69,32])++(Qg (args (n - 1)))) [32,69,78,68] QJ9Z
                 exact gE hst10 (kE9 F56 F58 F60 F61 F62 F63 C64 F65 F66) [.string (⟨(((([67,65,83,69]++Zo (n / 2) (fun i=>Qg (args i)))++[32,69,76,83,69,32])++(Qg (args (n - 1))))++[32,69,78,68]).toArray⟩:ByteArray)] fun w' hw=>⟨congrArg (fun z=>Ending.returned (.string z)) QLGG,hw⟩
           · have he67:=eq_of_beq hz9
             have g1:=p5 he67
             have C68:Sd W (.call 116 [eV k op vk vn vt tb nm A n c pl ty,.int .i64 0] (.string ⟨(Kd (Qs k op (args 0)) (Qg (args 0))).toArray⟩)):=by exact Qb.of func116 rfl Qd QpaA
             have F69:=Z8 W (Kd (Qs k op (args 0)) (Qg (args 0))) [32,73,78,32,40] QJio
             obtain ⟨A9,hcut,hsl9⟩:=cutOne (P:=prog) (t:=32) (e:=34) hsl g1 underlying32 Qd
             have F70:=hcut (W.heap.size) W
             have C71:Sd W (.call 30 [.slice A9 (n - 1) (c - 1)] (.string ⟨(Qk (n - 1) (fun i=>Qg (args (i+1)))).toArray⟩)):=by exact Qb.of func30 rfl Qd (fun w hw=>texts9_ok (n - 1) (fun i=>args (i+1)) _ w (hsl9.both (.below hw) fun _ _ _ h=>QI.sub (.below hw) h) (by have hq:=hb;simp only [Qg,Qp,QC,QX,hz1,hz3,hz5,hz7,hz9,bS,lS] at hq;omega) (fun i hi cs w2 hw2 h2=>HT (i+1) (by omega) cs w2 (Below.andThen hw hw2) h2))
             have F72:=Z8 W ((Kd (Qs k op (args 0)) (Qg (args 0)))++[32,73,78,32,40]) (Qk (n - 1) (fun i=>Qg (args (i+1)))) QJio
             have F73:=Z8 W (((Kd (Qs k op (args 0)) (Qg (args 0)))++[32,73,78,32,40])++(Qk (n - 1) (fun i=>Qg (args (i+1))))) [41] QJio
             exact gE hst (JD F2 F4 F6 F8 F10 C68 F69 F70 C71 F72 F73) [.string (⟨((((Kd (Qs k op (args 0)) (Qg (args 0)))++[32,73,78,32,40])++(Qk (n - 1) (fun i=>Qg (args (i+1)))))++[41]).toArray⟩:ByteArray)] fun w' hw=>⟨congrArg (fun z=>Ending.returned (.string z)) (bytes_eq (Eq.trans (Qi _) (by first | rfl | (simp only [Qg,Qp,QC,QX,hz1,hz3,hz5,hz7,hz9,bS,aS];done) | (simp only [Qg,Qp,QC,QX,hz1,hz3,hz5,hz7,hz9,bS];simp only [Qg,Qp,QC,QX,hz1,hz3,hz5,hz7,hz9,bS,aS];done) | (simp only [Qg,Qp,QC,QX,hz1,hz3,hz5,hz7,hz9,bS];simp only [Qg,Qp,QC,QX,hz1,hz3,hz5,hz7,hz9,bS,aS] <;> rfl) | (simp only [Qg,Qp,QC,QX,hz1,hz3,hz5,hz7,hz9,bS];simp only [Qg,Qp,QC,QX,hz1,hz3,hz5,hz7,hz9,bS,aS] <;> simp [Ka,show n=1 from (by omega)])))),hw⟩
         · have he74:=eq_of_beq hz7
           obtain ⟨g1,g2,g3⟩:=p4 he74
           have C75:Sd W (.call 116 [eV k op vk vn vt tb nm A n c pl ty,.int .i64 0] (.string ⟨(Kd (Qs k op (args 0)) (Qg (args 0))).toArray⟩)):=by exact Qb.of func116 rfl Qd QpaA
           have F76:=Z8 W (Kd (Qs k op (args 0)) (Qg (args 0))) [32] QXFj
           have C77:Sd W (.call 117 [.int .i64 op] (.string ⟨(signL op).toArray⟩)):=by exact Qb.of func117 rfl Qd (fun w hw=>sign9_ok op (by omega) w)
           have F78:=Z8 W ((Kd (Qs k op (args 0)) (Qg (args 0)))++[32]) (signL op) QXFj
           have F79:=Z8 W (((Kd (Qs k op (args 0)) (Qg (args 0)))++[32])++(signL op)) [32] QXFj
           have C80:Sd W (.call 116 [eV k op vk vn vt tb nm A n c pl ty,.int .i64 1] (.string ⟨(Kd (Qs k op (args 1)) (Qg (args 1))).toArray⟩)):=by exact Qb.of func116 rfl Qd (fun w hw=>arg9c k op vk vn vt tb nm A n c pl ty QncV 1 (by omega) (hsb _ (by omega)) (wrapB_eq (by omega)) (fun cs w2 hw2 h2=>HT 1 (by omega) cs w2 (Below.andThen hw hw2) h2))
           have F81:=Z8 W ((((Kd (Qs k op (args 0)) (Qg (args 0)))++[32])++(signL op))++[32]) (Kd (Qs k op (args 1)) (Qg (args 1))) QXFj
           exact gE hst (JD F2 F4 F6 F8 C75 F76 C77 F78 F79 C80 F81) [.string (⟨(((((Kd (Qs k op (args 0)) (Qg (args 0)))++[32])++(signL op))++[32])++(Kd (Qs k op (args 1)) (Qg (args 1)))).toArray⟩:ByteArray)] fun w' hw=>⟨congrArg (fun z=>Ending.returned (.string z)) (bytes_eq (Eq.trans (Qi _) (by first | rfl | (simp only [Qg,Qp,QC,QX,hz1,hz3,hz5,hz7,bS,aS];done) | (simp only [Qg,Qp,QC,QX,hz1,hz3,hz5,hz7,bS];simp only [Qg,Qp,QC,QX,hz1,hz3,hz5,hz7,bS,aS];done) | (simp only [Qg,Qp,QC,QX,hz1,hz3,hz5,hz7,bS];simp only [Qg,Qp,QC,QX,hz1,hz3,hz5,hz7,bS,aS] <;> rfl) | (simp only [Qg,Qp,QC,QX,hz1,hz3,hz5,hz7,bS];simp only [Qg,Qp,QC,QX,hz1,hz3,hz5,hz7,bS,aS] <;> simp [Ka,show n=1 from (by omega)])))),hw⟩
       · have he82:=eq_of_beq hz5
         obtain ⟨g1,g2,g3⟩:=p3 he82
         obtain ⟨z83,hz83⟩: ∃ z,(op==1)=z:=⟨_,rfl⟩
         have F84:=QN W hz83
         cases z83
         · obtain ⟨z85,hz85⟩: ∃ z,(op==2)=z:=⟨_,rfl⟩
           have F86:=QN W hz85
           cases z85
           · obtain ⟨z87,hz87⟩: ∃ z,(op==3)=z:=⟨_,rfl⟩
             have F88:=QN W hz87
             cases z87
             · have C89:Sd W (.call 116 [eV k op vk vn vt tb nm A n c pl ty,.int .i64 0] (.string ⟨(Kd (Qs k op (args 0)) (Qg (args 0))).toArray⟩)):=by exact Qb.of func116 rfl Qd QpaA
               have F90:=Z8 W (Kd (Qs k op (args 0)) (Qg (args 0))) [32,73,83,32,78,79,84,32,78,85,76,76] QJyj
               exact gE hst (kE8 F2 F4 F6 F84 F86 F88 C89 F90) [.string (⟨((Kd (Qs k op (args 0)) (Qg (args 0)))++[32,73,83,32,78,79,84,32,78,85,76,76]).toArray⟩:ByteArray)] fun w' hw=>⟨congrArg (fun z=>Ending.returned (.string z)) QJhU,hw⟩
             · have he91:=eq_of_beq hz87
               have C92:Sd W (.call 116 [eV k op vk vn vt tb nm A n c pl ty,.int .i64 0] (.string ⟨(Kd (Qs k op (args 0)) (Qg (args 0))).toArray⟩)):=by exact Qb.of func116 rfl Qd QpaA
               have F93:=Z8 W (Kd (Qs k op (args 0)) (Qg (args 0))) [32,73,83,32,78,85,76,76] QJyj
               exact gE hst (kE8 F2 F4 F6 F84 F86 F88 C92 F93) [.string (⟨((Kd (Qs k op (args 0)) (Qg (args 0)))++[32,73,83,32,78,85,76,76]).toArray⟩:ByteArray)] fun w' hw=>⟨congrArg (fun z=>Ending.returned (.string z)) QJhU,hw⟩
           · have he94:=eq_of_beq hz85
             have C95:Sd W (.call 116 [eV k op vk vn vt tb nm A n c pl ty,.int .i64 0] (.string ⟨(Kd (Qs k op (args 0)) (Qg (args 0))).toArray⟩)):=by exact Qb.of func116 rfl Qd QpaA
             have F96:=Z8 W [78,79,84,32] (Kd (Qs k op (args 0)) (Qg (args 0))) (by have hq:=hb;simp only [Qg,Qp,QC,QX,hz1,hz3,hz5,hz83,hz85,bS] at hq;(first | (simp only [bS,lS] at hq) | skip);first | omega | (simp only [lS];omega))
             exact gE hst (kE7 F2 F4 F6 F84 F86 C95 F96) [.string (⟨([78,79,84,32]++(Kd (Qs k op (args 0)) (Qg (args 0)))).toArray⟩:ByteArray)] fun w' hw=>⟨congrArg (fun z=>Ending.returned (.string z)) (bytes_eq (Eq.trans (Qi _) (by first | rfl | (simp only [Qg,Qp,QC,QX,hz1,hz3,hz5,hz83,hz85,bS,aS];done) | (simp only [Qg,Qp,QC,QX,hz1,hz3,hz5,hz83,hz85,bS];simp only [Qg,Qp,QC,QX,hz1,hz3,hz5,hz83,hz85,bS,aS];done) | (simp only [Qg,Qp,QC,QX,hz1,hz3,hz5,hz83,hz85,bS];simp only [Qg,Qp,QC,QX,hz1,hz3,hz5,hz83,hz85,bS,aS] <;> rfl) | (simp only [Qg,Qp,QC,QX,hz1,hz3,hz5,hz83,hz85,bS];simp only [Qg,Qp,QC,QX,hz1,hz3,hz5,hz83,hz85,bS,aS] <;> simp [Ka,show n=1 from (by omega)])))),hw⟩
         · have he97:=eq_of_beq hz83
           have C98:Sd W (.call 116 [eV k op vk vn vt tb nm A n c pl ty,.int .i64 0] (.string ⟨(Kd (Qs k op (args 0)) (Qg (args 0))).toArray⟩)):=by exact Qb.of func116 rfl Qd QpaA
           have F99:=Z8 W [45,32] (Kd (Qs k op (args 0)) (Qg (args 0))) (by have hq:=hb;simp only [Qg,Qp,QC,QX,hz1,hz3,hz5,hz83,bS] at hq;(first | (simp only [bS,lS] at hq) | skip);first | omega | (simp only [lS];omega))
           exact gE hst (Je F2 F4 F6 F84 C98 F99) [.string (⟨([45,32]++(Kd (Qs k op (args 0)) (Qg (args 0)))).toArray⟩:ByteArray)] fun w' hw=>⟨congrArg (fun z=>Ending.returned (.string z)) (bytes_eq (Eq.trans (Qi _) (by first | rfl | (simp only [Qg,Qp,QC,QX,hz1,hz3,hz5,hz83,bS,aS];done) | (simp only [Qg,Qp,QC,QX,hz1,hz3,hz5,hz83,bS];simp only [Qg,Qp,QC,QX,hz1,hz3,hz5,hz83,bS,aS];done) | (simp only [Qg,Qp,QC,QX,hz1,hz3,hz5,hz83,bS];simp only [Qg,Qp,QC,QX,hz1,hz3,hz5,hz83,bS,aS] <;> rfl) | (simp only [Qg,Qp,QC,QX,hz1,hz3,hz5,hz83,bS];simp only [Qg,Qp,QC,QX,hz1,hz3,hz5,hz83,bS,aS] <;> simp [Ka,show n=1 from (by omega)])))),hw⟩
     · have he100:=eq_of_beq hz3
       obtain ⟨z101,hz101⟩: ∃ z,(QB tb ⟨#[]⟩)=z:=⟨_,rfl⟩
       have F102:=sd W (Qb.strNe (t:=9) (a:=tb) (b:=⟨#[]⟩) (z:=(!z101)) (by rw [← QB,hz101];try rfl))
       cases z101
       · have F103:=xBL W tb [46] QdgK
         have F104:=xLB W (tb.data.toList++[46]) nm QdgK
         exact gE hst (kE5 F2 F4 F102 F103 F104) [.string (⟨((tb.data.toList++[46])++nm.data.toList).toArray⟩:ByteArray)] fun w' hw=>⟨congrArg (fun z=>Ending.returned (.string z)) (bytes_eq (Eq.trans (Qi _) QehV)),hw⟩
       · exact gE hst (kE3 F2 F4 F102) [.string nm] fun w' hw=>⟨congrArg (fun z=>Ending.returned (.string z)) (bytes_eq (Eq.trans rfl QehV)),hw⟩
   · have he105:=eq_of_beq hz1
     have C106:Sd W (.call 115 [.agg #[.int .i64 vk,.int .i64 vn,.string vt]] (.string (Jb vk vn vt))):=by exact Qb.of func115 rfl Qd (fun w hw=>ref6_Print vk vn vt w hvt hvn)
     exact gE hst (Km F2 C106) [.string (Jb vk vn vt)] fun w' hw=>⟨congrArg (fun z=>Ending.returned (.string z)) (bytes_eq (Eq.trans rfl (by first | rfl | (simp only [Qg,Qp,QC,QX,hz1,bS,aS];done) | (simp only [Qg,Qp,QC,QX,hz1,bS];simp only [Qg,Qp,QC,QX,hz1,bS,aS];done) | (simp only [Qg,Qp,QC,QX,hz1,bS];simp only [Qg,Qp,QC,QX,hz1,bS,aS] <;> rfl) | (simp only [Qg,Qp,QC,QX,hz1,bS];simp only [Qg,Qp,QC,QX,hz1,bS,aS] <;> simp [Ka,show n=1 from (by omega)])))),hw⟩
end Go.Proofs.YtddedijencleeaaGreatDoor
