/- tree.sign; the writer writes expressions. -/
import Derived.Test.YtddedijencleeaaGreatDoorSm
import Derived.Test.YtddedijencleeaaGreatDoorMSq
import Derived.Test.YtddedijencleeaaGreatDoorVe
set_option linter.all false
namespace Go.Proofs.YtddedijencleeaaGreatDoor
set_option maxRecDepth 100000
set_option maxHeartbeats 8000000
open Tryz
noncomputable section
open Go.RowKit Go.Lib RC
theorem KC {k op vk vn:Int} {vt tb nm:ByteArray} {n:Nat} {args:Nat→E} {pl ty:Int} (h:k<3):QQ (.mk k op vk vn vt tb nm n args pl ty)=0:=by
 have e3:(k==3)=false:=by rw [beq_eq_false_iff_ne];omega
 have e4:(k==4)=false:=by rw [beq_eq_false_iff_ne];omega
 have e5:(k==5)=false:=by rw [beq_eq_false_iff_ne];omega
 have e6:(k==6)=false:=by rw [beq_eq_false_iff_ne];omega
 have e7:(k==7)=false:=by rw [beq_eq_false_iff_ne];omega
 simp only [QQ,e3,e4,e5,e6,e7,Bool.false_eq_true,if_false,Bool.or_false]
theorem Zy (s u:ByteArray):(s++u).data.toList=s.data.toList++u.data.toList:=by simp

noncomputable abbrev cSg:Code:=Qt f123
abbrev qq1:Value:=(.agg #[.string ⟨#[]⟩,.string ⟨#[]⟩,.string ⟨#[]⟩,.string ⟨#[]⟩,.string ⟨#[]⟩,.string ⟨#[61]⟩,.string ⟨#[60,62]⟩,.string ⟨#[60]⟩,.string ⟨#[60,61]⟩,.string ⟨#[62]⟩,.string ⟨#[62,61]⟩,.string ⟨#[43]⟩,.string ⟨#[45]⟩,.string ⟨#[42]⟩,.string ⟨#[47]⟩,.string ⟨#[37]⟩,.string ⟨#[124,124]⟩,.string ⟨#[65,78,68]⟩,.string ⟨#[79,82]⟩])
theorem sign_ok (op:Int) (h:5≤op∧op≤18) (W:World):Calls prog 123 #[.int .i64 op] W fun r W'=>r= .returned (.string ⟨(signL op).toArray⟩)∧Below W.heap.size W W':=by
 have hq:op=5∨op=6∨op=7∨op=8∨op=9∨op=10∨op=11∨op=12∨op=13∨op=14∨op=15∨op=16∨op=17∨op=18:=by omega
 rcases hq with rfl | rfl | rfl | rfl | rfl | rfl | rfl | rfl | rfl | rfl | rfl | rfl | rfl | rfl
 · refine Qj (args:=[.int .i64 5]) (c:=cSg) func123 rfl (by kernel_rfl) fun a0 hst=> ?_
   have F1:Sd W (.ask (Instr.index 212 qq1 (.int .i64 5)) (.string ⟨#[61]⟩)):=fun w _=>by kernel_rfl
   exact QlbI
 · refine Qj (args:=[.int .i64 6]) (c:=cSg) func123 rfl (by kernel_rfl) fun a0 hst=> ?_
   have F1:Sd W (.ask (Instr.index 212 qq1 (.int .i64 6)) (.string ⟨#[60,62]⟩)):=fun w _=>by kernel_rfl
   exact QF58
 · refine Qj (args:=[.int .i64 7]) (c:=cSg) func123 rfl (by kernel_rfl) fun a0 hst=> ?_
   have F1:Sd W (.ask (Instr.index 212 qq1 (.int .i64 7)) (.string ⟨#[60]⟩)):=fun w _=>by kernel_rfl
   exact QhWs
 · refine Qj (args:=[.int .i64 8]) (c:=cSg) func123 rfl (by kernel_rfl) fun a0 hst=> ?_
   have F1:Sd W (.ask (Instr.index 212 qq1 (.int .i64 8)) (.string ⟨#[60,61]⟩)):=fun w _=>by kernel_rfl
   exact QOew
 · refine Qj (args:=[.int .i64 9]) (c:=cSg) func123 rfl (by kernel_rfl) fun a0 hst=> ?_
   have F1:Sd W (.ask (Instr.index 212 qq1 (.int .i64 9)) (.string ⟨#[62]⟩)):=fun w _=>by kernel_rfl
   exact QV63
 · refine Qj (args:=[.int .i64 10]) (c:=cSg) func123 rfl (by kernel_rfl) fun a0 hst=> ?_
   have F1:Sd W (.ask (Instr.index 212 qq1 (.int .i64 10)) (.string ⟨#[62,61]⟩)):=fun w _=>by kernel_rfl
   exact QMXJ
 · refine Qj (args:=[.int .i64 11]) (c:=cSg) func123 rfl (by kernel_rfl) fun a0 hst=> ?_
   have F1:Sd W (.ask (Instr.index 212 qq1 (.int .i64 11)) (.string ⟨#[43]⟩)):=fun w _=>by kernel_rfl
   exact QeIx
 · refine Qj (args:=[.int .i64 12]) (c:=cSg) func123 rfl (by kernel_rfl) fun a0 hst=> ?_
   have F1:Sd W (.ask (Instr.index 212 qq1 (.int .i64 12)) (.string ⟨#[45]⟩)):=fun w _=>by kernel_rfl
   exact Qd3H
 · refine Qj (args:=[.int .i64 13]) (c:=cSg) func123 rfl (by kernel_rfl) fun a0 hst=> ?_
   have F1:Sd W (.ask (Instr.index 212 qq1 (.int .i64 13)) (.string ⟨#[42]⟩)):=fun w _=>by kernel_rfl
   exact QfYF
 · refine Qj (args:=[.int .i64 14]) (c:=cSg) func123 rfl (by kernel_rfl) fun a0 hst=> ?_
   have F1:Sd W (.ask (Instr.index 212 qq1 (.int .i64 14)) (.string ⟨#[47]⟩)):=fun w _=>by kernel_rfl
   exact QKp2
 · refine Qj (args:=[.int .i64 15]) (c:=cSg) func123 rfl (by kernel_rfl) fun a0 hst=> ?_
   have F1:Sd W (.ask (Instr.index 212 qq1 (.int .i64 15)) (.string ⟨#[37]⟩)):=fun w _=>by kernel_rfl
   exact QawA
 · refine Qj (args:=[.int .i64 16]) (c:=cSg) func123 rfl (by kernel_rfl) fun a0 hst=> ?_
   have F1:Sd W (.ask (Instr.index 212 qq1 (.int .i64 16)) (.string ⟨#[124,124]⟩)):=fun w _=>by kernel_rfl
   exact Qvy1
 · refine Qj (args:=[.int .i64 17]) (c:=cSg) func123 rfl (by kernel_rfl) fun a0 hst=> ?_
   have F1:Sd W (.ask (Instr.index 212 qq1 (.int .i64 17)) (.string ⟨#[65,78,68]⟩)):=fun w _=>by kernel_rfl
   exact QePY
 refine Qj (args:=[.int .i64 18]) (c:=cSg) func123 rfl (by kernel_rfl) fun a0 hst=> ?_
 have F1:Sd W (.ask (Instr.index 212 qq1 (.int .i64 18)) (.string ⟨#[79,82]⟩)):=fun w _=>by kernel_rfl
 exact QSXL
noncomputable abbrev cX1:Code:=Qt f124
abbrev qq2(b:Nat):Value:=(.pointer (some ⟨b,0,none⟩))
abbrev qq3(b:Nat):List Value:=[.pointer (some ⟨b,0,none⟩)]
theorem expr1_pr {D:World} {b:Nat} {o m:Int} {l:List UInt8} {v:Value} {W:World} (hD:Below D.heap.size D W) (h:Wr D.heap.size b o m l v W) {gw ge:Nat} (k op vk vn:Int) (vt tb nm:ByteArray) (A:Option Addr) (n c:Nat) (pl ty:Int) {args:Nat→E} (hsl:QR D 10 120 n (.slice A n c) fun i ds=>QI D (args i) ds) (HA: ∀ i,i<n→ ∀ cs,QI D (args i) cs→PrF D 35 (fun b=> #[.pointer (some ⟨b,0,none⟩),.agg (cs).toArray]) (Qg (args i)) (QQ (args i))) (h2:2≤n) (HZ:Pz o m (Ql (n - 1) (fun i=>QQ (args (i+1)))) l (Qk (n - 1) (fun i=>Qg (args (i+1))))) (KW:Bk b v W gw [.pointer (some ⟨b,0,none⟩)]) (KE:Bk b v W ge (eL k op vk vn vt tb nm A n c pl ty)) :
 PrC D b o m l v W 124 #[.pointer (some ⟨gw,0,none⟩),.pointer (some ⟨ge,0,none⟩)] (Qk (n - 1) (fun i=>Qg (args (i+1)))) (Ql (n - 1) (fun i=>QQ (args (i+1)))):=by
 have hn:=hsl.len
 have ps0:=PS.start h hD
 refine Qj (args:=[.pointer (some ⟨gw,0,none⟩),.pointer (some ⟨ge,0,none⟩)]) (c:=cX1) func124 rfl (by kernel_rfl) fun a0 hst=> ?_
 have F1:Sd W (.get 70 (.pointer (some ⟨gw,0,none⟩)) (qq2 b)):=Qb.cellAt (d:=0) Qd KW.sb.at_ rfl KW.lt Qo
 have F2:Sd W (.get 32 (.pointer (some ⟨ge,7,none⟩)) (.slice A n c)):=Qb.cellAt (d:=7) Qd KE.sb.at_ rfl KE.lt Qo
 obtain ⟨A9,hcut,hsl9⟩:=cutOne (P:=prog) (t:=32) (e:=34) hsl h2 underlying32 Qd
 have F3:=hcut (W.heap.size) W
 have kq1:=QZ.cons KW (QZ.cons KE QZ.nil)
 refine pW (dd:=(Ql (n - 1) (fun i=>QQ (args (i+1))))) (txt:=(Qk (n - 1) (fun i=>Qg (args (i+1))))) (.op 0 6) 8 110 (Qc cX1 (.op 0 6)) (Qc cX1 (.op 0 7)) [(7,.v (.func (Fn.func 35) #[.pointer (some ⟨b,0,none⟩)] #[])),(5,.v (.slice A9 (n - 1) (c - 1))),(2,.v (qq2 b))] [] [] [.v (qq2 b),.v (.slice A9 (n - 1) (c - 1)),.v (.func (Fn.func 35) #[.pointer (some ⟨b,0,none⟩)] #[])] hst (Jf F1 F2 F3 F1) ps0 kq1 func110 (fun G2 w2 ps2 kb2=>(JJ ps2.bl ps2.wr hsl9 35 ⟨_,_,func35,rfl,by kernel_rfl⟩ (qq3 b) [] (fun i=>Qg (args (i+1))) (fun i=>QQ (args (i+1))) (HZ.of QJ0p HZ.m QQnX) (fun i hi cs hp m' l' v' W' hb' hw' hs' hz'=>HA (i+1) (by omega) cs hp b o m' l' v' W' hb' hw' hz'))) (top_le HZ.ho QrjB HZ.m.1 HZ.m.2) fun G2 mm2 ll2 v2 b2 u2 em2 el2 bn2 hsu2 pt2 kb2=> ?_
 exact QrKd
noncomputable abbrev cX0:Code:=Qt f35
abbrev qq4(G7:Env):Value:=(.pointer (some ⟨(G7.g 1),0,none⟩))
abbrev qq5(G7:Env):Value:=(.pointer (some ⟨(G7.g 0),0,none⟩))
abbrev qq6:Fr:=[(3,.p 1 0),(2,.p 0 0)]
theorem expr_pr {D:World} (hP:PrW D): ∀ (e:E) (cs:List Value),QH e=true→QI D e cs→PrF D 35 (fun b=> #[.pointer (some ⟨b,0,none⟩),.agg (cs).toArray]) (Qg e) (QQ e)
 | .no,_,_,h=>False.elim h
 | .mk k op vk vn vt tb nm n args pl ty,cs,hI,h=>by
   have HA: ∀ i,i<n→ ∀ cs,QI D (args i) cs→PrF D 35 (fun b=> #[.pointer (some ⟨b,0,none⟩),.agg (cs).toArray]) (Qg (args i)) (QQ (args i)):=fun i hi cs h'=>expr_pr hP (args i) cs ((Kb hI).1 i hi) h'
   obtain ⟨_,hk17,p3,p4,p5,p6,p7⟩:=Kb hI
   obtain ⟨wf,vv,rfl,hsl⟩:=h
   obtain ⟨A,c,rfl⟩:=QR.form hsl
   have hn:=QR.len hsl
   have hvt:=wf.vt
   have hvn:=wf.vn
   intro b o m l v W hD h HZ
   have ps0:=PS.start h hD
   refine Qj (args:=[.pointer (some ⟨b,0,none⟩),eV k op vk vn vt tb nm A n c pl ty]) (c:=cX0) func35 rfl (by kernel_rfl) fun a0 hst=> ?_
   obtain ⟨z1,hz1⟩: ∃ z,(k==1)=z:=⟨_,rfl⟩
   have F2:=QN W hz1
   cases z1
   · obtain ⟨z3,hz3⟩: ∃ z,(k==2)=z:=⟨_,rfl⟩
     have F4:=QN W hz3
     cases z3
     · obtain ⟨z5,hz5⟩: ∃ z,(k==3)=z:=⟨_,rfl⟩
       have F6:=QN W hz5
       cases z5
       · obtain ⟨z7,hz7⟩: ∃ z,(k==4)=z:=⟨_,rfl⟩
         have F8:=QN W hz7
         cases z7
         · obtain ⟨z9,hz9⟩: ∃ z,(k==5)=z:=⟨_,rfl⟩
           have F10:=QN W hz9
           cases z9
           · obtain ⟨z11,hz11⟩: ∃ z,(k==6)=z:=⟨_,rfl⟩
             have F12:=QN W hz11
             cases z11
             · obtain ⟨z13,hz13⟩: ∃ z,(k==7)=z:=⟨_,rfl⟩
               have F14:=QN W hz13
               cases z13
               · exfalso
                 have q0:=ne_of_beq_false hz1
                 have q1:=ne_of_beq_false hz3
                 have q2:=ne_of_beq_false hz5
                 have q3:=ne_of_beq_false hz7
                 have q4:=ne_of_beq_false hz9
                 have q5:=ne_of_beq_false hz11
                 have q6:=ne_of_beq_false hz13
                 omega
               · have he15:=eq_of_beq hz13
                 obtain ⟨g1,g2⟩:=p7 he15
                 have kq1:=(QZ.nil:QZ b v W [])
                 refine pW (dd:=(Ql n (fun i=>QQ (args i))+1)) (txt:=(QX op n (fun i=>Qg (args i)))) (.op 21 2) 78 126 (Qc cX0 (.op 21 2)) (Qc cX0 (.op 21 3)) [(77,.v (eV k op vk vn vt tb nm A n c pl ty)),(76,.v (qq2 b))] [bx (qq3 b),bx (eL k op vk vn vt tb nm A n c pl ty)] [] [.v (qq2 b),.v (eV k op vk vn vt tb nm A n c pl ty)] hst (kE7 F2 F4 F6 F8 F10 F12 F14) ps0 kq1 func126 (fun G2 w2 ps2 kb2=>(aggregate_pr k op vk vn vt tb nm A n c pl ty hsl HA (by omega) _ _ _ _ _ _ ps2.bl ps2.wr (HZ.of (by first | omega | (simp only [Qg,QQ,hz1,hz3,hz5,hz7,hz9,hz11,hz13,bS];omega)) HZ.m (by first | (simp only [Qg,QQ,hz1,hz3,hz5,hz7,hz9,hz11,hz13,bS,lS];omega) | omega)))) (top_le HZ.ho (by have hq:=HZ.hod;first | omega | (simp only [Qg,QQ,hz1,hz3,hz5,hz7,hz9,hz11,hz13,bS] at hq;omega)) HZ.m.1 HZ.m.2) fun G2 mm2 ll2 v2 b2 u2 em2 el2 bn2 hsu2 pt2 kb2=> ?_
                 exact gE hsu2 Zk [] fun w' hw=>⟨rfl,(PS.cast (pt2.seg hw) (by subst_vars;first | rfl | (rw [KC (by omega)];rfl) | (rw [KC (by omega)];done) | (simp only [Qg,QQ,hz1,hz3,hz5,hz7,hz9,hz11,hz13,bS,Qr,Qq];done) | (simp only [Qg,QQ,hz1,hz3,hz5,hz7,hz9,hz11,hz13,bS,Qr,Qq] <;> rfl)) (by subst_vars;simp only [Qg,QQ,hz1,hz3,hz5,hz7,hz9,hz11,hz13,bS,List.append_assoc])).fin⟩
             · have he16:=eq_of_beq hz11
               have g1:=p6 he16
               have kq3:=(QZ.nil:QZ b v W [])
               refine pW (dd:=(Ql n (fun i=>QQ (args i))+1)) (txt:=(QC n (fun i=>Qg (args i)))) (.op 19 2) 73 125 (Qc cX0 (.op 19 2)) (Qc cX0 (.op 19 3)) [(72,.v (eV k op vk vn vt tb nm A n c pl ty)),(71,.v (qq2 b))] [bx (qq3 b),bx (eL k op vk vn vt tb nm A n c pl ty)] [] [.v (qq2 b),.v (eV k op vk vn vt tb nm A n c pl ty)] hst (Je F2 F4 F6 F8 F10 F12) ps0 kq3 func125 (fun G4 w4 ps4 kb4=>(cases_pr k op vk vn vt tb nm A n c pl ty hsl HA (by omega) _ _ _ _ _ _ ps4.bl ps4.wr (HZ.of (by first | omega | (simp only [Qg,QQ,hz1,hz3,hz5,hz7,hz9,hz11,bS];omega)) HZ.m (by first | (simp only [Qg,QQ,hz1,hz3,hz5,hz7,hz9,hz11,bS,lS];omega) | omega)))) (top_le HZ.ho (by have hq:=HZ.hod;first | omega | (simp only [Qg,QQ,hz1,hz3,hz5,hz7,hz9,hz11,bS] at hq;omega)) HZ.m.1 HZ.m.2) fun G4 mm4 ll4 v4 b4 u4 em4 el4 bn4 hsu4 pt4 kb4=> ?_
               exact gE hsu4 Zk [] fun w' hw=>⟨rfl,(PS.cast (pt4.seg hw) (by subst_vars;first | rfl | (rw [KC (by omega)];rfl) | (rw [KC (by omega)];done) | (simp only [Qg,QQ,hz1,hz3,hz5,hz7,hz9,hz11,bS,Qr,Qq];done) | (simp only [Qg,QQ,hz1,hz3,hz5,hz7,hz9,hz11,bS,Qr,Qq] <;> rfl)) (by subst_vars;simp only [Qg,QQ,hz1,hz3,hz5,hz7,hz9,hz11,bS,List.append_assoc])).fin⟩
           · have he17:=eq_of_beq hz9
             have g1:=p5 he17
             obtain ⟨eb5,eo5,ed5,es5,eq5,el5,em5,ep5,er5⟩:=hsl.at (i:=(0)) (by omega)
             have pp5:=ep5
             have en5:=ep5
             obtain ⟨e5k,e5o,e5vk,e5vn,e5vt,e5tb,e5nm,e5A,e5n,e5c,e5pl,e5ty,rfl⟩:=en5.form
             have F18:=sd W (Qb.elemA (t:=32) (e:=34) (size:=10) (i:=(0)) (k:=.i64) eq5 underlying32 Qd (by omega))
             have F19:Sd W (.get 34 (.pointer (some ⟨eb5,eo5+0*10,none⟩)) (eV e5k e5o e5vk e5vn e5vt e5tb e5nm e5A e5n e5c e5pl e5ty)):=Qb.row Qd Qd (Qz er5 (.below ps0.bl)) (Nat.lt_of_lt_of_le el5 ps0.bl.size) Qo
             have kq6:=(QZ.nil:QZ b v W [])
             refine pW (dd:=(dB (Qs k op (args 0)) (QQ (args 0)))) (txt:=(Kd (Qs k op (args 0)) (Qg (args 0)))) (.op 15 6) 63 122 (Qc cX0 (.op 15 6)) (Qc cX0 (.op 15 7)) [(62,.v (eV e5k e5o e5vk e5vn e5vt e5tb e5nm e5A e5n e5c e5pl e5ty)),(58,.v (eV k op vk vn vt tb nm A n c pl ty)),(57,.v (qq2 b)),(3,.p 1 0),(2,.p 0 0)] [bx (qq3 b),bx (eL k op vk vn vt tb nm A n c pl ty)] qq6 [.v (qq2 b),.v (eV k op vk vn vt tb nm A n c pl ty),.v (eV e5k e5o e5vk e5vn e5vt e5tb e5nm e5A e5n e5c e5pl e5ty)] hst (kE7 F2 F4 F6 F8 F10 F18 F19) ps0 kq6 func122 (fun G7 w7 ps7 kb7=>(argument_pr _ _ _ _ _ _ _ _ _ _ _ _ ep5 (HA 0 (by omega) _ ep5) _ _ _ _ _ _ ps7.bl ps7.wr (HZ.of QC5S HZ.m (by first | (simp only [Qg,QQ,hz1,hz3,hz5,hz7,hz9,bS,lS];omega) | omega)))) (top_le HZ.ho (by have hq:=HZ.hod;first | omega | (simp only [Qg,QQ,hz1,hz3,hz5,hz7,hz9,bS] at hq;omega)) HZ.m.1 HZ.m.2) fun G7 mm7 ll7 v7 b7 u7 em7 el7 bn7 hsu7 pt7 kb7=> ?_
             have F20:=kb7.ld 0 0 (t:=70) rfl rfl Qd
             refine pW0 (txt:=[32,73,78,32]) (.op 16 1) 65 104 (Qc cX0 (.op 16 1)) (Qc cX0 (.op 16 2)) [(64,.v (qq2 b)),(3,.v (qq4 G7)),(2,.v (qq5 G7))] [] [(3,.v (qq4 G7)),(2,.v (qq5 G7))] [.v (qq2 b),.v (.string ⟨#[32,73,78,32]⟩)] hsu7 (Zg F20) pt7 kb7 func104 (fun G8 w8 ps8 kb8=>(QJ ps8.wr _ [32,73,78,32] rfl (HZ.of ZO bn7 Qedn))) fun G8 ll8 v8 b8 u8 el8 hsu8 pt8 kb8=> ?_
             have F21:=kb8.ld 0 0 (t:=70) rfl rfl Qd
             refine pW (dd:=((Ql (n - 1) (fun i=>QQ (args (i+1))))+1)) (txt:=([40]++((Qk (n - 1) (fun i=>Qg (args (i+1))))++[41]))) (.op 17 2) 68 108 (Qc cX0 (.op 17 2)) (Qc cX0 (.op 17 3)) [(67,.fn (Fn.func 124) [.v (qq5 G7),.v (qq4 G7)]),(66,.v (qq2 b))] [] [] [.v (qq2 b),.fn (Fn.func 124) [.v (qq5 G7),.v (qq4 G7)]] hsu8 (Zg F21) pt8 kb8 func108 (fun G9 w9 ps9 kb9=>(ZK ps9.wr 124 (Kn func124 Qd rfl) _ _ (Qk (n - 1) (fun i=>Qg (args (i+1)))) (Ql (n - 1) (fun i=>QQ (args (i+1)))) (HZ.of QC5S bn7 Qedn) fun v' W' hw' hs' hz'=>expr1_pr ((ps9.call hw' hs').bl) hw' k op vk vn vt tb nm A n c pl ty hsl HA (by omega) hz' ((kb9.at 0 rfl).call hs') ((kb9.at 1 rfl).call hs'))) (top_le HZ.ho (by subst_vars;have hq:=HZ.hod;first | omega | (simp only [Qg,QQ,hz1,hz3,hz5,hz7,hz9,bS] at hq;omega)) bn7.1 bn7.2) fun G9 mm9 ll9 v9 b9 u9 em9 el9 bn9 hsu9 pt9 kb9=> ?_
             exact gE hsu9 Zk [] fun w' hw=>⟨rfl,(PS.cast (pt9.seg hw) (by subst_vars;first | rfl | (rw [KC (by omega)];rfl) | (rw [KC (by omega)];done) | (simp only [Qg,QQ,hz1,hz3,hz5,hz7,hz9,bS,Qr,Qq];done) | (simp only [Qg,QQ,hz1,hz3,hz5,hz7,hz9,bS,Qr,Qq] <;> rfl)) (by subst_vars;simp only [Qg,QQ,hz1,hz3,hz5,hz7,hz9,bS,List.append_assoc])).fin⟩
         · have he22:=eq_of_beq hz7
           obtain ⟨g1,g2,g3⟩:=p4 he22
           obtain ⟨eb10,eo10,ed10,es10,eq10,el10,em10,ep10,er10⟩:=hsl.at (i:=(0)) (by omega)
           have pp10:=ep10
           have en10:=ep10
           obtain ⟨e10k,e10o,e10vk,e10vn,e10vt,e10tb,e10nm,e10A,e10n,e10c,e10pl,e10ty,rfl⟩:=en10.form
           have F23:=sd W (Qb.elemA (t:=32) (e:=34) (size:=10) (i:=(0)) (k:=.i64) eq10 underlying32 Qd (by omega))
           have F24:Sd W (.get 34 (.pointer (some ⟨eb10,eo10+0*10,none⟩)) (eV e10k e10o e10vk e10vn e10vt e10tb e10nm e10A e10n e10c e10pl e10ty)):=Qb.row Qd Qd (Qz er10 (.below ps0.bl)) (Nat.lt_of_lt_of_le el10 ps0.bl.size) Qo
           have kq11:=(QZ.nil:QZ b v W [])
           refine pW (dd:=(dB (Qs k op (args 0)) (QQ (args 0)))) (txt:=(Kd (Qs k op (args 0)) (Qg (args 0)))) (.op 11 6) 40 122 (Qc cX0 (.op 11 6)) (Qc cX0 (.op 11 7)) [(39,.v (eV e10k e10o e10vk e10vn e10vt e10tb e10nm e10A e10n e10c e10pl e10ty)),(35,.v (eV k op vk vn vt tb nm A n c pl ty)),(34,.v (qq2 b)),(3,.p 1 0),(2,.p 0 0)] [bx (qq3 b),bx (eL k op vk vn vt tb nm A n c pl ty)] qq6 [.v (qq2 b),.v (eV k op vk vn vt tb nm A n c pl ty),.v (eV e10k e10o e10vk e10vn e10vt e10tb e10nm e10A e10n e10c e10pl e10ty)] hst (Je F2 F4 F6 F8 F23 F24) ps0 kq11 func122 (fun G12 w12 ps12 kb12=>(argument_pr _ _ _ _ _ _ _ _ _ _ _ _ ep10 (HA 0 (by omega) _ ep10) _ _ _ _ _ _ ps12.bl ps12.wr (HZ.of Qryt HZ.m (by first | (simp only [Qg,QQ,hz1,hz3,hz5,hz7,bS,lS];omega) | omega)))) (top_le HZ.ho (by have hq:=HZ.hod;first | omega | (simp only [Qg,QQ,hz1,hz3,hz5,hz7,bS] at hq;omega)) HZ.m.1 HZ.m.2) fun G12 mm12 ll12 v12 b12 u12 em12 el12 bn12 hsu12 pt12 kb12=> ?_
           have F25:=kb12.ld 0 0 (t:=70) rfl rfl Qd
           have F26:=kb12.ld 1 1 (t:=3) rfl rfl Qd
           have C27:Sd u12 (.call 123 [.int .i64 op] (.string ⟨(signL op).toArray⟩)):=by exact Qb.of func123 rfl Qd (fun w hw=>sign_ok op (by omega) w)
           have F28:=sd u12 (Qb.addStr (t:=9) (a:=⟨#[32]⟩) (b:=(⟨(signL op).toArray⟩:ByteArray)) QwtR)
           have F29:=sd u12 (Qb.addStr (t:=9) (a:=(⟨#[32]⟩++(⟨(signL op).toArray⟩:ByteArray))) (b:=⟨#[32]⟩) QwtR)
           refine pW0 (txt:=(([32]++signL op)++[32])) (.op 12 6) 47 104 (Qc cX0 (.op 12 6)) (Qc cX0 (.op 12 7)) [(46,.v (.string ((⟨#[32]⟩++(⟨(signL op).toArray⟩:ByteArray))++⟨#[32]⟩))),(41,.v (qq2 b)),(3,.v (.pointer (some ⟨(G12.g 1),0,none⟩))),(2,.v (.pointer (some ⟨(G12.g 0),0,none⟩)))] [] [(3,.v (.pointer (some ⟨(G12.g 1),0,none⟩))),(2,.v (.pointer (some ⟨(G12.g 0),0,none⟩)))] [.v (qq2 b),.v (.string ((⟨#[32]⟩++(⟨(signL op).toArray⟩:ByteArray))++⟨#[32]⟩))] hsu12 (kE5 F25 F26 C27 F28 F29) pt12 kb12 func104 (fun G13 w13 ps13 kb13=>(QJ ps13.wr _ (([32]++signL op)++[32]) (Zc (Zc rfl (Qi _)) rfl) (HZ.of ZO bn12 Qfgm))) fun G13 ll13 v13 b13 u13 el13 hsu13 pt13 kb13=> ?_
           have F30:=kb13.ld 0 0 (t:=70) rfl rfl Qd
           have F31:=kb13.row 1 (t:=34) rfl Qd Qd
           have F32:=kb13.ld 1 7 (t:=32) rfl rfl Qd
           obtain ⟨eb14,eo14,ed14,es14,eq14,el14,em14,ep14,er14⟩:=hsl.at (i:=(1)) (by omega)
           have pp14:=ep14
           have en14:=ep14
           obtain ⟨e14k,e14o,e14vk,e14vn,e14vt,e14tb,e14nm,e14A,e14n,e14c,e14pl,e14ty,rfl⟩:=en14.form
           have F33:=sd u13 (Qb.elemA (t:=32) (e:=34) (size:=10) (i:=(1)) (k:=.i64) eq14 underlying32 Qd (by omega))
           have F34:Sd u13 (.get 34 (.pointer (some ⟨eb14,eo14+1*10,none⟩)) (eV e14k e14o e14vk e14vn e14vt e14tb e14nm e14A e14n e14c e14pl e14ty)):=Qb.row Qd Qd (Qz er14 (.below pt13.bl)) (Nat.lt_of_lt_of_le el14 pt13.bl.size) Qo
           refine pW (dd:=(dB (Qs k op (args 1)) (QQ (args 1)))) (txt:=(Kd (Qs k op (args 1)) (Qg (args 1)))) (.op 13 6) 54 122 (Qc cX0 (.op 13 6)) (Qc cX0 (.op 13 7)) [(53,.v (eV e14k e14o e14vk e14vn e14vt e14tb e14nm e14A e14n e14c e14pl e14ty)),(49,.v (eV k op vk vn vt tb nm A n c pl ty)),(48,.v (qq2 b))] [] [] [.v (qq2 b),.v (eV k op vk vn vt tb nm A n c pl ty),.v (eV e14k e14o e14vk e14vn e14vt e14tb e14nm e14A e14n e14c e14pl e14ty)] hsu13 (kE5 F30 F31 F32 F33 F34) pt13 kb13 func122 (fun G15 w15 ps15 kb15=>(argument_pr _ _ _ _ _ _ _ _ _ _ _ _ ep14 (HA 1 (by omega) _ ep14) _ _ _ _ _ _ ps15.bl ps15.wr (HZ.of Qryt bn12 Qfgm))) (top_le HZ.ho (by subst_vars;have hq:=HZ.hod;first | omega | (simp only [Qg,QQ,hz1,hz3,hz5,hz7,bS] at hq;omega)) bn12.1 bn12.2) fun G15 mm15 ll15 v15 b15 u15 em15 el15 bn15 hsu15 pt15 kb15=> ?_
           exact gE hsu15 Zk [] fun w' hw=>⟨rfl,(PS.cast (pt15.seg hw) (by subst_vars;first | rfl | (rw [KC (by omega)];rfl) | (rw [KC (by omega)];done) | (simp only [Qg,QQ,hz1,hz3,hz5,hz7,bS,Qr,Qq];done) | (simp only [Qg,QQ,hz1,hz3,hz5,hz7,bS,Qr,Qq] <;> rfl)) (by subst_vars;simp only [Qg,QQ,hz1,hz3,hz5,hz7,bS,List.append_assoc])).fin⟩
       · have he35:=eq_of_beq hz5
         obtain ⟨g1,g2,g3⟩:=p3 he35
         have kq16:=(QZ.nil:QZ b v W [])
         refine pW (dd:=(Kw op (dB (Qs k op (args 0)) (QQ (args 0))))) (txt:=(Qp op (Kd (Qs k op (args 0)) (Qg (args 0))))) (.op 9 2) 31 121 (Qc cX0 (.op 9 2)) (Qc cX0 (.op 9 3)) [(30,.v (eV k op vk vn vt tb nm A n c pl ty)),(29,.v (qq2 b))] [bx (qq3 b),bx (eL k op vk vn vt tb nm A n c pl ty)] [] [.v (qq2 b),.v (eV k op vk vn vt tb nm A n c pl ty)] hst (kE3 F2 F4 F6) ps0 kq16 func121 (fun G17 w17 ps17 kb17=>(unary_pr k op vk vn vt tb nm A n c pl ty hsl HA (by omega) _ _ _ _ _ _ ps17.bl ps17.wr (HZ.of (by first | omega | (simp only [Qg,QQ,hz1,hz3,hz5,bS];omega)) HZ.m (by first | (simp only [Qg,QQ,hz1,hz3,hz5,bS,lS];omega) | omega)))) (top_le HZ.ho (by have hq:=HZ.hod;first | omega | (simp only [Qg,QQ,hz1,hz3,hz5,bS] at hq;omega)) HZ.m.1 HZ.m.2) fun G17 mm17 ll17 v17 b17 u17 em17 el17 bn17 hsu17 pt17 kb17=> ?_
         exact gE hsu17 Zk [] fun w' hw=>⟨rfl,(PS.cast (pt17.seg hw) (by subst_vars;first | rfl | (rw [KC (by omega)];rfl) | (rw [KC (by omega)];done) | (simp only [Qg,QQ,hz1,hz3,hz5,bS,Qr,Qq];done) | (simp only [Qg,QQ,hz1,hz3,hz5,bS,Qr,Qq] <;> rfl)) (by subst_vars;simp only [Qg,QQ,hz1,hz3,hz5,bS,List.append_assoc])).fin⟩
     · have he36:=eq_of_beq hz3
       obtain ⟨z37,hz37⟩: ∃ z,(QB tb ⟨#[]⟩)=z:=⟨_,rfl⟩
       have F38:=sd W (Qb.strNe (t:=9) (a:=tb) (b:=⟨#[]⟩) (z:=(!z37)) (by rw [← QB,hz37];try rfl))
       cases z37
       · have F39:=sd W (Qb.addStr (t:=9) (a:=tb) (b:=⟨#[46]⟩) (by have hq:=HZ.hl;simp only [Qg,QQ,hz1,hz3,hz37,bS,lS] at hq;simp only [QK,Zy,Qi,List.length_append];have:=signL_len op;first | omega | (simp only [lS];omega)))
         have kq18:=(QZ.nil:QZ b v W [])
         refine pW0 (txt:=(tb.data.toList++[46])) (.op 6 4) 22 104 (Qc cX0 (.op 6 4)) (Qc cX0 (.op 6 5)) [(21,.v (.string (tb++⟨#[46]⟩))),(18,.v (qq2 b)),(3,.p 1 0),(2,.p 0 0)] [bx (qq3 b),bx (eL k op vk vn vt tb nm A n c pl ty)] qq6 [.v (qq2 b),.v (.string (tb++⟨#[46]⟩))] hst (Jf F2 F4 F38 F39) ps0 kq18 func104 (fun G19 w19 ps19 kb19=>(QJ ps19.wr _ (tb.data.toList++[46]) (Zc rfl rfl) (HZ.of ZO HZ.m QKSS))) fun G19 ll19 v19 b19 u19 el19 hsu19 pt19 kb19=> ?_
         have F40:=kb19.ld 0 0 (t:=70) rfl rfl Qd
         have F41:=kb19.ld 1 6 (t:=9) rfl rfl Qd
         refine pW0 (txt:=nm.data.toList) (.op 7 3) 26 104 (Qc cX0 (.op 7 3)) (Qc cX0 (.op 7 4)) [(25,.v (.string nm)),(23,.v (qq2 b))] [] [] [.v (qq2 b),.v (.string nm)] hsu19 (Km F40 F41) pt19 kb19 func104 (fun G20 w20 ps20 kb20=>(QJ ps20.wr _ nm.data.toList rfl (HZ.of ZO HZ.m (by subst_vars;first | (simp only [Qg,QQ,hz1,hz3,hz37,bS,lS];omega) | omega)))) fun G20 ll20 v20 b20 u20 el20 hsu20 pt20 kb20=> ?_
         exact gE hsu20 Zk [] fun w' hw=>⟨rfl,(PS.cast (pt20.seg hw) QJlX QmFs).fin⟩
       · have kq21:=(QZ.nil:QZ b v W [])
         refine pW0 (txt:=nm.data.toList) (.op 7 3) 26 104 (Qc cX0 (.op 7 3)) (Qc cX0 (.op 7 4)) [(25,.v (.string nm)),(23,.v (qq2 b))] [bx (qq3 b),bx (eL k op vk vn vt tb nm A n c pl ty)] [] [.v (qq2 b),.v (.string nm)] hst (kE3 F2 F4 F38) ps0 kq21 func104 (fun G22 w22 ps22 kb22=>(QJ ps22.wr _ nm.data.toList rfl (HZ.of ZO HZ.m QKSS))) fun G22 ll22 v22 b22 u22 el22 hsu22 pt22 kb22=> ?_
         exact gE hsu22 Zk [] fun w' hw=>⟨rfl,(PS.cast (pt22.seg hw) QJlX QmFs).fin⟩
   · have he42:=eq_of_beq hz1
     have C43:Sd W (.call 120 [.agg #[.int .i64 vk,.int .i64 vn,.string vt]] (.string (Jb vk vn vt))):=by exact Qb.of func120 rfl Qd (fun w hw=>value_Print vk vn vt w hvt hvn (hP.below (Below.andThen ps0.bl hw)))
     have kq23:=(QZ.nil:QZ b v W [])
     refine pW0 (txt:=(Jb vk vn vt).data.toList) (.op 3 4) 12 104 (Qc cX0 (.op 3 4)) (Qc cX0 (.op 3 5)) [(11,.v (.string (Jb vk vn vt))),(8,.v (qq2 b))] [bx (qq3 b),bx (eL k op vk vn vt tb nm A n c pl ty)] [] [.v (qq2 b),.v (.string (Jb vk vn vt))] hst (Km F2 C43) ps0 kq23 func104 (fun G24 w24 ps24 kb24=>(QJ ps24.wr _ (Jb vk vn vt).data.toList rfl (HZ.of ZO HZ.m (by first | (simp only [Qg,QQ,hz1,bS,lS];omega) | omega)))) fun G24 ll24 v24 b24 u24 el24 hsu24 pt24 kb24=> ?_
     exact gE hsu24 Zk [] fun w' hw=>⟨rfl,(PS.cast (pt24.seg hw) (by subst_vars;first | rfl | (rw [KC (by omega)];rfl) | (rw [KC (by omega)];done) | (simp only [Qg,QQ,hz1,bS,Qr,Qq];done) | (simp only [Qg,QQ,hz1,bS,Qr,Qq] <;> rfl)) (by subst_vars;simp only [Qg,QQ,hz1,bS,List.append_assoc])).fin⟩
end
end Go.Proofs.YtddedijencleeaaGreatDoor
