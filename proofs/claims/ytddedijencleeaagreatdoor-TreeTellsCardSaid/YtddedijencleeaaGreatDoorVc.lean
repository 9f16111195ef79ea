/- The writer writes an argument, a unary expression. -/
import Derived.Test.YtddedijencleeaaGreatDoorSm
import Derived.Test.YtddedijencleeaaGreatDoorMSq
import Derived.Test.YtddedijencleeaaGreatDoorVb
set_option linter.all false
namespace Go.Proofs.YtddedijencleeaaGreatDoor
set_option maxRecDepth 100000
set_option maxHeartbeats 8000000
open Tryz
noncomputable section
open Go.RowKit Go.Lib RC
noncomputable abbrev cA1:Code:=Qt f182
abbrev qn1(b:Nat):Value:=(.pointer (some ⟨b,0,none⟩))
theorem JO {D:World} {b:Nat} {o m:Int} {l:List UInt8} {v:Value} {W:World} (hD:Below D.heap.size D W) (h:Wr D.heap.size b o m l v W) {gw ga:Nat} {a:E} {ca:List Value} (ha:QI D a ca) (HZ:Pz o m (QQ a) l (Qg a)) (KW:Bk b v W gw [.pointer (some ⟨b,0,none⟩)]) (KA:Bk b v W ga ca) (HA:PrF D 35 (fun b=> #[.pointer (some ⟨b,0,none⟩),.agg (ca).toArray]) (Qg a) (QQ a)) :
 PrC D b o m l v W 182 #[.pointer (some ⟨gw,0,none⟩),.pointer (some ⟨ga,0,none⟩)] (Qg a) (QQ a):=by
 have ha0:=ha
 obtain ⟨pk,po,pvk,pvn,pvt,ptb,pnm,pA,pn,pc,ppl,pty,rfl⟩:=ha0.form
 have ps0:=PS.start h hD
 refine Qj (args:=[.pointer (some ⟨gw,0,none⟩),.pointer (some ⟨ga,0,none⟩)]) (c:=cA1) func182 rfl (by kernel_rfl) fun a0 hst=> ?_
 have F1:Sd W (.get 70 (.pointer (some ⟨gw,0,none⟩)) (qn1 b)):=Qb.cellAt (d:=0) Qd KW.sb.at_ rfl KW.lt Qo
 have F2:Sd W (.get 34 (.pointer (some ⟨ga,0,none⟩)) (eV pk po pvk pvn pvt ptb pnm pA pn pc ppl pty)):=Qb.row Qd Qd KA.sb.at_ KA.lt Qo
 have kq1:=QZ.cons KW (QZ.cons KA QZ.nil)
 refine pW (dd:=(QQ a)) (txt:=(Qg a)) (.op 0 2) 4 35 (Qc cA1 (.op 0 2)) (Qc cA1 (.op 0 3)) [(3,.v (eV pk po pvk pvn pvt ptb pnm pA pn pc ppl pty)),(2,.v (qn1 b))] [] [] [.v (qn1 b),.v (eV pk po pvk pvn pvt ptb pnm pA pn pc ppl pty)] hst (Km F1 F2) ps0 kq1 func35 (fun G2 w2 ps2 kb2=>(HA _ _ _ _ _ _ ps2.bl ps2.wr (HZ.of QJ0p HZ.m QQnX))) (top_le HZ.ho QrjB HZ.m.1 HZ.m.2) fun G2 mm2 ll2 v2 b2 u2 em2 el2 bn2 hsu2 pt2 kb2=> ?_
 exact QrKd
noncomputable abbrev cA0:Code:=Qt f122
abbrev qn2(b:Nat):List Value:=[.pointer (some ⟨b,0,none⟩)]
abbrev qn3(b:Nat):Fr:=[(44,.fn (Fn.func 182) [.p 0 0,.p 2 0]),(43,.v (qn1 b))]
theorem argument_pr {D:World} (k op vk vn:Int) (vt tb nm:ByteArray) (A:Option Addr) (n c:Nat) (pl ty:Int) {a:E} {ca:List Value} (ha:QI D a ca) (HA:PrF D 35 (fun b=> #[.pointer (some ⟨b,0,none⟩),.agg (ca).toArray]) (Qg a) (QQ a)) :
 PrF D 122 (fun b=> #[.pointer (some ⟨b,0,none⟩),.agg ((eL k op vk vn vt tb nm A n c pl ty)).toArray,.agg ca.toArray]) (Kd (Qs k op a) (Qg a)) (dB (Qs k op a) (QQ a)):=by
 intro b o m l v W hD h HZ
 rcases a with ⟨pk,po,pvk,pvn,pvt,ptb,pnm,pn,pargs,ppl,pty⟩ | _
 rotate_left
 · exact False.elim ha
 have ph:=ha
 obtain ⟨pwf,pv,rfl,psl⟩:=ha
 obtain ⟨pA,pc,rfl⟩:=QR.form psl
 let x2x:Fr:=[(47,.v (eV pk po pvk pvn pvt ptb pnm pA pn pc ppl pty)),(46,.v (qn1 b))]
 let x1x:List Zp:=[bx (qn2 b),bx (eL k op vk vn vt tb nm A n c pl ty),bx (eL pk po pvk pvn pvt ptb pnm pA pn pc ppl pty)]
 have hcsp:ZG pk po pvk pvn pvt ptb pnm (.slice pA pn pc) ppl pty=(eL pk po pvk pvn pvt ptb pnm pA pn pc ppl pty):=rfl
 rw [hcsp] at ph
 try rw [hcsp]
 have pvt_:=pwf.vt
 have ptb_:=pwf.tb
 have pnm_:=pwf.nm
 have ps0:=PS.start h hD
 refine Qj (args:=[.pointer (some ⟨b,0,none⟩),eV k op vk vn vt tb nm A n c pl ty,eV pk po pvk pvn pvt ptb pnm pA pn pc ppl pty]) (c:=cA0) func122 rfl (by kernel_rfl) fun a0 hst=> ?_
 obtain ⟨z1,hz1⟩: ∃ z,(pk==1)=z:=⟨_,rfl⟩
 have F2:=QN W hz1
 cases z1
 · obtain ⟨z3,hz3⟩: ∃ z,(pk==3)=z:=⟨_,rfl⟩
   have F4:=QN W hz3
   cases z3
   rotate_left
   · have he12:=eq_of_beq hz3
     have kq7:=(QZ.nil:QZ b v W [])
     refine pW (dd:=((QQ (.mk pk po pvk pvn pvt ptb pnm pn pargs ppl pty))+1)) (txt:=([40]++((Qg (.mk pk po pvk pvn pvt ptb pnm pn pargs ppl pty))++[41]))) (.op 11 2) 45 108 (Qc cA0 (.op 11 2)) (Qc cA0 (.op 11 3)) (qn3 b) x1x [] [.v (qn1 b),.fn (Fn.func 182) [.p 0 0,.p 2 0]] hst (Km F2 F4) ps0 kq7 func108 (fun G8 w8 ps8 kb8=>(ZK ps8.wr 182 (Kn func182 Qd rfl) _ _ (Qg (.mk pk po pvk pvn pvt ptb pnm pn pargs ppl pty)) (QQ (.mk pk po pvk pvn pvt ptb pnm pn pargs ppl pty)) (HZ.of (by first | omega | (simp only [QF,Kd,dB,hz1,hz3,bS];omega)) HZ.m (by first | (simp only [QF,Kd,dB,hz1,hz3,bS,lS];omega) | omega)) fun v' W' hw' hs' hz'=>JO ((ps8.call hw' hs').bl) hw' ph hz' ((kb8.at 0 rfl).call hs') ((kb8.at 2 rfl).call hs') HA)) (top_le HZ.ho (by have hq:=HZ.hod;first | omega | (simp only [QF,Kd,dB,hz1,hz3,bS] at hq;omega)) HZ.m.1 HZ.m.2) fun G8 mm8 ll8 v8 b8 u8 em8 el8 bn8 hsu8 pt8 kb8=> ?_
     exact gE hsu8 Zk [] fun w' hw=>⟨rfl,(PS.cast (pt8.seg hw) (by subst_vars;simp only [QF,Kd,dB,hz1,hz3,bS,Qr,Qq]) (by subst_vars;simp only [QF,Kd,dB,hz1,hz3,bS,List.append_assoc])).fin⟩
   obtain ⟨z5,hz5⟩: ∃ z,(pk==4)=z:=⟨_,rfl⟩
   have F6:=QN W hz5
   cases z5
   · obtain ⟨z7,hz7⟩: ∃ z,(pk==5)=z:=⟨_,rfl⟩
     have F8:=QN W hz7
     cases z7
     · have F9:=QN W hz1
       have kq1:=(QZ.nil:QZ b v W [])
       refine pW (dd:=(QQ (.mk pk po pvk pvn pvt ptb pnm pn pargs ppl pty))) (txt:=(Qg (.mk pk po pvk pvn pvt ptb pnm pn pargs ppl pty))) (.op 12 2) 48 35 (Qc cA0 (.op 12 2)) (Qc cA0 (.op 12 3)) x2x x1x [] [.v (qn1 b),.v (eV pk po pvk pvn pvt ptb pnm pA pn pc ppl pty)] hst (kE5 F2 F4 F6 F8 F9) ps0 kq1 func35 (fun G2 w2 ps2 kb2=>(HA _ _ _ _ _ _ ps2.bl ps2.wr (HZ.of QkBX HZ.m QWCW))) (top_le HZ.ho QhLU HZ.m.1 HZ.m.2) fun G2 mm2 ll2 v2 b2 u2 em2 el2 bn2 hsu2 pt2 kb2=> ?_
       exact gE hsu2 Zk [] fun w' hw=>⟨rfl,(PS.cast (pt2.seg hw) QaY5 QOnm).fin⟩
     have he10:=eq_of_beq hz7
     have kq3:=(QZ.nil:QZ b v W [])
     refine pW (dd:=((QQ (.mk pk po pvk pvn pvt ptb pnm pn pargs ppl pty))+1)) (txt:=([40]++((Qg (.mk pk po pvk pvn pvt ptb pnm pn pargs ppl pty))++[41]))) (.op 11 2) 45 108 (Qc cA0 (.op 11 2)) (Qc cA0 (.op 11 3)) (qn3 b) x1x [] [.v (qn1 b),.fn (Fn.func 182) [.p 0 0,.p 2 0]] hst (Jf F2 F4 F6 F8) ps0 kq3 func108 (fun G4 w4 ps4 kb4=>(ZK ps4.wr 182 (Kn func182 Qd rfl) _ _ (Qg (.mk pk po pvk pvn pvt ptb pnm pn pargs ppl pty)) (QQ (.mk pk po pvk pvn pvt ptb pnm pn pargs ppl pty)) (HZ.of QkBX HZ.m QWCW) fun v' W' hw' hs' hz'=>JO ((ps4.call hw' hs').bl) hw' ph hz' ((kb4.at 0 rfl).call hs') ((kb4.at 2 rfl).call hs') HA)) (top_le HZ.ho QhLU HZ.m.1 HZ.m.2) fun G4 mm4 ll4 v4 b4 u4 em4 el4 bn4 hsu4 pt4 kb4=> ?_
     exact gE hsu4 Zk [] fun w' hw=>⟨rfl,(PS.cast (pt4.seg hw) QaY5 QOnm).fin⟩
   have he11:=eq_of_beq hz5
   have kq5:=(QZ.nil:QZ b v W [])
   refine pW (dd:=((QQ (.mk pk po pvk pvn pvt ptb pnm pn pargs ppl pty))+1)) (txt:=([40]++((Qg (.mk pk po pvk pvn pvt ptb pnm pn pargs ppl pty))++[41]))) (.op 11 2) 45 108 (Qc cA0 (.op 11 2)) (Qc cA0 (.op 11 3)) (qn3 b) x1x [] [.v (qn1 b),.fn (Fn.func 182) [.p 0 0,.p 2 0]] hst (kE3 F2 F4 F6) ps0 kq5 func108 (fun G6 w6 ps6 kb6=>(ZK ps6.wr 182 (Kn func182 Qd rfl) _ _ (Qg (.mk pk po pvk pvn pvt ptb pnm pn pargs ppl pty)) (QQ (.mk pk po pvk pvn pvt ptb pnm pn pargs ppl pty)) (HZ.of (by first | omega | (simp only [QF,Kd,dB,hz1,hz3,hz5,bS];omega)) HZ.m (by first | (simp only [QF,Kd,dB,hz1,hz3,hz5,bS,lS];omega) | omega)) fun v' W' hw' hs' hz'=>JO ((ps6.call hw' hs').bl) hw' ph hz' ((kb6.at 0 rfl).call hs') ((kb6.at 2 rfl).call hs') HA)) (top_le HZ.ho (by have hq:=HZ.hod;first | omega | (simp only [QF,Kd,dB,hz1,hz3,hz5,bS] at hq;omega)) HZ.m.1 HZ.m.2) fun G6 mm6 ll6 v6 b6 u6 em6 el6 bn6 hsu6 pt6 kb6=> ?_
   exact gE hsu6 Zk [] fun w' hw=>⟨rfl,(PS.cast (pt6.seg hw) (by subst_vars;simp only [QF,Kd,dB,hz1,hz3,hz5,bS,Qr,Qq]) (by subst_vars;simp only [QF,Kd,dB,hz1,hz3,hz5,bS,List.append_assoc])).fin⟩
 have he13:=eq_of_beq hz1
 obtain ⟨z14,hz14⟩: ∃ z,(pvk==2)=z:=⟨_,rfl⟩
 have F15:=QN W hz14
 have hl16:(pk==3)=false:=by rw [he13];rfl
 have F17:=QN W hl16
 have hl18:(pk==4)=false:=by rw [he13];rfl
 have F19:=QN W hl18
 have hl20:(pk==5)=false:=by rw [he13];rfl
 have F21:=QN W hl20
 have F22:=QN W hz1
 cases z14
 · have kq9:=(QZ.nil:QZ b v W [])
   refine pW (dd:=(QQ (.mk pk po pvk pvn pvt ptb pnm pn pargs ppl pty))) (txt:=(Qg (.mk pk po pvk pvn pvt ptb pnm pn pargs ppl pty))) (.op 12 2) 48 35 (Qc cA0 (.op 12 2)) (Qc cA0 (.op 12 3)) x2x x1x [] [.v (qn1 b),.v (eV pk po pvk pvn pvt ptb pnm pA pn pc ppl pty)] hst (Je F2 F15 F17 F19 F21 F22) ps0 kq9 func35 (fun G10 w10 ps10 kb10=>(HA _ _ _ _ _ _ ps10.bl ps10.wr (HZ.of (by first | omega | (simp only [QF,Kd,dB,hz1,hz14,hl16,hl18,hl20,bS];omega)) HZ.m (by first | (simp only [QF,Kd,dB,hz1,hz14,hl16,hl18,hl20,bS,lS];omega) | omega)))) (top_le HZ.ho (by have hq:=HZ.hod;first | omega | (simp only [QF,Kd,dB,hz1,hz14,hl16,hl18,hl20,bS] at hq;omega)) HZ.m.1 HZ.m.2) fun G10 mm10 ll10 v10 b10 u10 em10 el10 bn10 hsu10 pt10 kb10=> ?_
   exact gE hsu10 Zk [] fun w' hw=>⟨rfl,(PS.cast (pt10.seg hw) (by subst_vars;simp only [QF,Kd,dB,hz1,hz14,hl16,hl18,hl20,bS,Qr,Qq]) (by subst_vars;simp only [QF,Kd,dB,hz1,hz14,hl16,hl18,hl20,bS,List.append_assoc])).fin⟩
 have he23:=eq_of_beq hz14
 obtain ⟨z24,hz24⟩: ∃ z,(decide (pvn<0))=z:=⟨_,rfl⟩
 have F25:=sd W (Qb.intLt (t:=2) (k:=.i64) (a:=pvn) (b:=0) hz24)
 cases z24
 rotate_left
 · have kq17:=(QZ.nil:QZ b v W [])
   refine pW (dd:=((QQ (.mk pk po pvk pvn pvt ptb pnm pn pargs ppl pty))+1)) (txt:=([40]++((Qg (.mk pk po pvk pvn pvt ptb pnm pn pargs ppl pty))++[41]))) (.op 11 2) 45 108 (Qc cA0 (.op 11 2)) (Qc cA0 (.op 11 3)) (qn3 b) x1x [] [.v (qn1 b),.fn (Fn.func 182) [.p 0 0,.p 2 0]] hst (kE7 F2 F15 F17 F19 F21 F22 F25) ps0 kq17 func108 (fun G18 w18 ps18 kb18=>(ZK ps18.wr 182 (Kn func182 Qd rfl) _ _ (Qg (.mk pk po pvk pvn pvt ptb pnm pn pargs ppl pty)) (QQ (.mk pk po pvk pvn pvt ptb pnm pn pargs ppl pty)) (HZ.of (by first | omega | (simp only [QF,Kd,dB,hz1,hz14,hl16,hl18,hl20,hz24,bS];omega)) HZ.m (by first | (simp only [QF,Kd,dB,hz1,hz14,hl16,hl18,hl20,hz24,bS,lS];omega) | omega)) fun v' W' hw' hs' hz'=>JO ((ps18.call hw' hs').bl) hw' ph hz' ((kb18.at 0 rfl).call hs') ((kb18.at 2 rfl).call hs') HA)) (top_le HZ.ho (by have hq:=HZ.hod;first | omega | (simp only [QF,Kd,dB,hz1,hz14,hl16,hl18,hl20,hz24,bS] at hq;omega)) HZ.m.1 HZ.m.2) fun G18 mm18 ll18 v18 b18 u18 em18 el18 bn18 hsu18 pt18 kb18=> ?_
   exact gE hsu18 Zk [] fun w' hw=>⟨rfl,(PS.cast (pt18.seg hw) (by subst_vars;simp only [QF,Kd,dB,hz1,hz14,hl16,hl18,hl20,hz24,bS,Qr,Qq]) (by subst_vars;simp only [QF,Kd,dB,hz1,hz14,hl16,hl18,hl20,hz24,bS,List.append_assoc])).fin⟩
 obtain ⟨z26,hz26⟩: ∃ z,(k==3)=z:=⟨_,rfl⟩
 have F27:=QN W hz26
 cases z26
 · have kq11:=(QZ.nil:QZ b v W [])
   refine pW (dd:=(QQ (.mk pk po pvk pvn pvt ptb pnm pn pargs ppl pty))) (txt:=(Qg (.mk pk po pvk pvn pvt ptb pnm pn pargs ppl pty))) (.op 12 2) 48 35 (Qc cA0 (.op 12 2)) (Qc cA0 (.op 12 3)) x2x x1x [] [.v (qn1 b),.v (eV pk po pvk pvn pvt ptb pnm pA pn pc ppl pty)] hst (kE8 F2 F15 F17 F19 F21 F22 F25 F27) ps0 kq11 func35 (fun G12 w12 ps12 kb12=>(HA _ _ _ _ _ _ ps12.bl ps12.wr (HZ.of (by first | omega | (simp only [QF,Kd,dB,hz1,hz14,hl16,hl18,hl20,hz24,hz26,bS];omega)) HZ.m (by first | (simp only [QF,Kd,dB,hz1,hz14,hl16,hl18,hl20,hz24,hz26,bS,lS];omega) | omega)))) (top_le HZ.ho (by have hq:=HZ.hod;first | omega | (simp only [QF,Kd,dB,hz1,hz14,hl16,hl18,hl20,hz24,hz26,bS] at hq;omega)) HZ.m.1 HZ.m.2) fun G12 mm12 ll12 v12 b12 u12 em12 el12 bn12 hsu12 pt12 kb12=> ?_
   exact gE hsu12 Zk [] fun w' hw=>⟨rfl,(PS.cast (pt12.seg hw) (by subst_vars;simp only [QF,Kd,dB,hz1,hz14,hl16,hl18,hl20,hz24,hz26,bS,Qr,Qq]) (by subst_vars;simp only [QF,Kd,dB,hz1,hz14,hl16,hl18,hl20,hz24,hz26,bS,List.append_assoc])).fin⟩
 have he28:=eq_of_beq hz26
 obtain ⟨z29,hz29⟩: ∃ z,(op==1)=z:=⟨_,rfl⟩
 have F30:=QN W hz29
 cases z29
 · have kq13:=(QZ.nil:QZ b v W [])
   refine pW (dd:=(QQ (.mk pk po pvk pvn pvt ptb pnm pn pargs ppl pty))) (txt:=(Qg (.mk pk po pvk pvn pvt ptb pnm pn pargs ppl pty))) (.op 12 2) 48 35 (Qc cA0 (.op 12 2)) (Qc cA0 (.op 12 3)) x2x x1x [] [.v (qn1 b),.v (eV pk po pvk pvn pvt ptb pnm pA pn pc ppl pty)] hst (kE9 F2 F15 F17 F19 F21 F22 F25 F27 F30) ps0 kq13 func35 (fun G14 w14 ps14 kb14=>(HA _ _ _ _ _ _ ps14.bl ps14.wr (HZ.of QZQ8 HZ.m Qbz0))) (top_le HZ.ho Qiug HZ.m.1 HZ.m.2) fun G14 mm14 ll14 v14 b14 u14 em14 el14 bn14 hsu14 pt14 kb14=> ?_
   exact gE hsu14 Zk [] fun w' hw=>⟨rfl,(PS.cast (pt14.seg hw) QL3c Qzvx).fin⟩
 have he31:=eq_of_beq hz29
 have kq15:=(QZ.nil:QZ b v W [])
 refine pW (dd:=((QQ (.mk pk po pvk pvn pvt ptb pnm pn pargs ppl pty))+1)) (txt:=([40]++((Qg (.mk pk po pvk pvn pvt ptb pnm pn pargs ppl pty))++[41]))) (.op 11 2) 45 108 (Qc cA0 (.op 11 2)) (Qc cA0 (.op 11 3)) (qn3 b) x1x [] [.v (qn1 b),.fn (Fn.func 182) [.p 0 0,.p 2 0]] hst (kE9 F2 F15 F17 F19 F21 F22 F25 F27 F30) ps0 kq15 func108 (fun G16 w16 ps16 kb16=>(ZK ps16.wr 182 (Kn func182 Qd rfl) _ _ (Qg (.mk pk po pvk pvn pvt ptb pnm pn pargs ppl pty)) (QQ (.mk pk po pvk pvn pvt ptb pnm pn pargs ppl pty)) (HZ.of QZQ8 HZ.m Qbz0) fun v' W' hw' hs' hz'=>JO ((ps16.call hw' hs').bl) hw' ph hz' ((kb16.at 0 rfl).call hs') ((kb16.at 2 rfl).call hs') HA)) (top_le HZ.ho Qiug HZ.m.1 HZ.m.2) fun G16 mm16 ll16 v16 b16 u16 em16 el16 bn16 hsu16 pt16 kb16=> ?_
 exact gE hsu16 Zk [] fun w' hw=>⟨rfl,(PS.cast (pt16.seg hw) QL3c Qzvx).fin⟩
noncomputable abbrev cU1:Code:=Qt f181
theorem unary1_pr {D:World} {b:Nat} {o m:Int} {l:List UInt8} {v:Value} {W:World} (hD:Below D.heap.size D W) (h:Wr D.heap.size b o m l v W) {gw ge:Nat} (k op vk vn:Int) (vt tb nm:ByteArray) (A:Option Addr) (n c:Nat) (pl ty:Int) {args:Nat→E} (hsl:QR D 10 120 n (.slice A n c) fun i ds=>QI D (args i) ds) (HA: ∀ i,i<n→ ∀ cs,QI D (args i) cs→PrF D 35 (fun b=> #[.pointer (some ⟨b,0,none⟩),.agg (cs).toArray]) (Qg (args i)) (QQ (args i))) (h0:0<n) (HZ:Pz o m (dB (Qs k op (args 0)) (QQ (args 0))) l (Kd (Qs k op (args 0)) (Qg (args 0)))) (KW:Bk b v W gw [.pointer (some ⟨b,0,none⟩)]) (KE:Bk b v W ge (eL k op vk vn vt tb nm A n c pl ty)) :
 PrC D b o m l v W 181 #[.pointer (some ⟨gw,0,none⟩),.pointer (some ⟨ge,0,none⟩)] (Kd (Qs k op (args 0)) (Qg (args 0))) (dB (Qs k op (args 0)) (QQ (args 0))):=by
 have ps0:=PS.start h hD
 obtain ⟨eb1,eo1,ed1,es1,eq1,el1,em1,ep1,er1⟩:=hsl.at (i:=(0)) h0
 have pp1:=ep1
 have en1:=ep1
 obtain ⟨e1k,e1o,e1vk,e1vn,e1vt,e1tb,e1nm,e1A,e1n,e1c,e1pl,e1ty,rfl⟩:=en1.form
 refine Qj (args:=[.pointer (some ⟨gw,0,none⟩),.pointer (some ⟨ge,0,none⟩)]) (c:=cU1) func181 rfl (by kernel_rfl) fun a0 hst=> ?_
 have F1:Sd W (.get 70 (.pointer (some ⟨gw,0,none⟩)) (qn1 b)):=Qb.cellAt (d:=0) Qd KW.sb.at_ rfl KW.lt Qo
 have F2:Sd W (.get 34 (.pointer (some ⟨ge,0,none⟩)) (eV k op vk vn vt tb nm A n c pl ty)):=Qb.row Qd Qd KE.sb.at_ KE.lt Qo
 have F3:Sd W (.get 32 (.pointer (some ⟨ge,7,none⟩)) (.slice A n c)):=Qb.cellAt (d:=7) Qd KE.sb.at_ rfl KE.lt Qo
 have F4:=nEl W 10 eq1 underlying32 h0
 have F5:Sd W (.get 34 (.pointer (some ⟨eb1,eo1+0*10,none⟩)) (eV e1k e1o e1vk e1vn e1vt e1tb e1nm e1A e1n e1c e1pl e1ty)):=Qb.row Qd Qd (Qz er1 (.below ps0.bl)) (Nat.lt_of_lt_of_le el1 ps0.bl.size) Qo
 have kq2:=QZ.cons KW (QZ.cons KE QZ.nil)
 refine pW (dd:=(dB (Qs k op (args 0)) (QQ (args 0)))) (txt:=(Kd (Qs k op (args 0)) (Qg (args 0)))) (.op 0 6) 8 122 (Qc cU1 (.op 0 6)) (Qc cU1 (.op 0 7)) [(7,.v (eV e1k e1o e1vk e1vn e1vt e1tb e1nm e1A e1n e1c e1pl e1ty)),(3,.v (eV k op vk vn vt tb nm A n c pl ty)),(2,.v (qn1 b))] [] [] [.v (qn1 b),.v (eV k op vk vn vt tb nm A n c pl ty),.v (eV e1k e1o e1vk e1vn e1vt e1tb e1nm e1A e1n e1c e1pl e1ty)] hst (kE5 F1 F2 F3 F4 F5) ps0 kq2 func122 (fun G3 w3 ps3 kb3=>(argument_pr _ _ _ _ _ _ _ _ _ _ _ _ ep1 (HA 0 (by omega) _ ep1) _ _ _ _ _ _ ps3.bl ps3.wr (HZ.of QJ0p HZ.m QQnX))) (top_le HZ.ho QrjB HZ.m.1 HZ.m.2) fun G3 mm3 ll3 v3 b3 u3 em3 el3 bn3 hsu3 pt3 kb3=> ?_
 exact gE hsu3 Zk [] fun w' hw=>⟨rfl,(PS.cast (pt3.seg hw) QywK QywK).fin⟩
noncomputable abbrev cU0:Code:=Qt f121
abbrev qn4(G1:Env):List Value:=[.pointer (some ⟨(G1.g 0),0,none⟩),.pointer (some ⟨(G1.g 1),0,none⟩)]
abbrev qn5(G4:Env):List Value:=[.pointer (some ⟨(G4.g 0),0,none⟩),.pointer (some ⟨(G4.g 1),0,none⟩)]
theorem unary_pr {D:World} (k op vk vn:Int) (vt tb nm:ByteArray) (A:Option Addr) (n c:Nat) (pl ty:Int) {args:Nat→E} (hsl:QR D 10 120 n (.slice A n c) fun i ds=>QI D (args i) ds) (HA: ∀ i,i<n→ ∀ cs,QI D (args i) cs→PrF D 35 (fun b=> #[.pointer (some ⟨b,0,none⟩),.agg (cs).toArray]) (Qg (args i)) (QQ (args i))) (h0:0<n) :
 PrF D 121 (fun b=> #[.pointer (some ⟨b,0,none⟩),.agg ((eL k op vk vn vt tb nm A n c pl ty)).toArray]) (Qp op (Kd (Qs k op (args 0)) (Qg (args 0)))) (Kw op (dB (Qs k op (args 0)) (QQ (args 0)))):=by
 intro b o m l v W hD h HZ
 let x1x:List Zp:=[bx (qn2 b),bx (eL k op vk vn vt tb nm A n c pl ty)]
 have ps0:=PS.start h hD
 refine Qj (args:=[.pointer (some ⟨b,0,none⟩),eV k op vk vn vt tb nm A n c pl ty]) (c:=cU0) func121 rfl (by kernel_rfl) fun a0 hst=> ?_
 obtain ⟨z1,hz1⟩: ∃ z,(op==1)=z:=⟨_,rfl⟩
 have F2:=QN W hz1
 cases z1
 rotate_left
 · have he11:=eq_of_beq hz1
   have kq9:=(QZ.nil:QZ b v W [])
   refine pW (dd:=((dB (Qs k op (args 0)) (QQ (args 0)))+1)) (txt:=([45,32]++((Kd (Qs k op (args 0)) (Qg (args 0)))++[]))) (.op 6 2) 16 173 (Qc cU0 (.op 6 2)) (Qc cU0 (.op 6 3)) [(15,.fn (Fn.func 181) [.p 0 0,.p 1 0]),(14,.v (qn1 b))] x1x [] [.v (qn1 b),.v (.string ⟨#[45,32]⟩),.fn (Fn.func 181) [.p 0 0,.p 1 0],.v (.string ⟨#[]⟩)] hst (Zg F2) ps0 kq9 func173 (fun G10 w10 ps10 kb10=>(within_w ps10.wr _ _ [45,32] [] rfl rfl 181 (Kn func181 Qd rfl) _ _ (Kd (Qs k op (args 0)) (Qg (args 0))) (dB (Qs k op (args 0)) (QQ (args 0))) (HZ.of (by first | omega | (simp only [Qp,Kw,hz1,bS];omega)) HZ.m (by first | (simp only [Qp,Kw,hz1,bS,lS];omega) | omega)) fun v' W' hw' hs' hz'=>unary1_pr ((ps10.call hw' hs').bl) hw' k op vk vn vt tb nm A n c pl ty hsl HA h0 hz' ((kb10.at 0 rfl).call hs') ((kb10.at 1 rfl).call hs'))) (top_le HZ.ho (by have hq:=HZ.hod;first | omega | (simp only [Qp,Kw,hz1,bS] at hq;omega)) HZ.m.1 HZ.m.2) fun G10 mm10 ll10 v10 b10 u10 em10 el10 bn10 hsu10 pt10 kb10=> ?_
   exact gE hsu10 Zk [] fun w' hw=>⟨rfl,(PS.cast (pt10.seg hw) (by subst_vars;simp only [Qp,Kw,hz1,bS,Qr,Qq]) (by subst_vars;simp only [Qp,Kw,hz1,bS,List.append_assoc,List.append_nil])).fin⟩
 obtain ⟨z3,hz3⟩: ∃ z,(op==2)=z:=⟨_,rfl⟩
 have F4:=QN W hz3
 cases z3
 rotate_left
 · have he10:=eq_of_beq hz3
   have kq7:=(QZ.nil:QZ b v W [])
   refine pW (dd:=((dB (Qs k op (args 0)) (QQ (args 0)))+1)) (txt:=([78,79,84,32]++((Kd (Qs k op (args 0)) (Qg (args 0)))++[]))) (.op 8 2) 21 173 (Qc cU0 (.op 8 2)) (Qc cU0 (.op 8 3)) [(20,.fn (Fn.func 181) [.p 0 0,.p 1 0]),(19,.v (qn1 b))] x1x [] [.v (qn1 b),.v (.string ⟨#[78,79,84,32]⟩),.fn (Fn.func 181) [.p 0 0,.p 1 0],.v (.string ⟨#[]⟩)] hst (Km F2 F4) ps0 kq7 func173 (fun G8 w8 ps8 kb8=>(within_w ps8.wr _ _ [78,79,84,32] [] rfl rfl 181 (Kn func181 Qd rfl) _ _ (Kd (Qs k op (args 0)) (Qg (args 0))) (dB (Qs k op (args 0)) (QQ (args 0))) (HZ.of (by first | omega | (simp only [Qp,Kw,hz1,hz3,bS];omega)) HZ.m (by first | (simp only [Qp,Kw,hz1,hz3,bS,lS];omega) | omega)) fun v' W' hw' hs' hz'=>unary1_pr ((ps8.call hw' hs').bl) hw' k op vk vn vt tb nm A n c pl ty hsl HA h0 hz' ((kb8.at 0 rfl).call hs') ((kb8.at 1 rfl).call hs'))) (top_le HZ.ho (by have hq:=HZ.hod;first | omega | (simp only [Qp,Kw,hz1,hz3,bS] at hq;omega)) HZ.m.1 HZ.m.2) fun G8 mm8 ll8 v8 b8 u8 em8 el8 bn8 hsu8 pt8 kb8=> ?_
   exact gE hsu8 Zk [] fun w' hw=>⟨rfl,(PS.cast (pt8.seg hw) (by subst_vars;simp only [Qp,Kw,hz1,hz3,bS,Qr,Qq]) (by subst_vars;simp only [Qp,Kw,hz1,hz3,bS,List.append_assoc,List.append_nil])).fin⟩
 obtain ⟨z5,hz5⟩: ∃ z,(op==3)=z:=⟨_,rfl⟩
 have F6:=QN W hz5
 cases z5
 · refine gO cU0 (.op 3 1) [(8,.fn (Fn.func 181) [.p 0 0,.p 1 0]),(2,.p 0 0)] x1x hst (kE3 F2 F4 F6) fun G1 a1 w1 hst1 _=> ?_
   have hb1:=hst1.rp.below
   have ps1:=ps0.seg hb1
   have ka1_0:Bk b v w1 (G1.g 0) (qn2 b):=Bk.new hst1 ps0.wr rfl 0 rfl
   have ka1_1:Bk b v w1 (G1.g 1) (eL k op vk vn vt tb nm A n c pl ty):=Bk.new hst1 ps0.wr rfl 1 rfl
   refine Jm (d:=9) (fv:=.fn (Fn.func 181) [.p 0 0,.p 1 0]) (vs:=[]) (f:=181) (first:=[]) (caps:=(qn4 G1)) (k':=Qc cU0 (.op 3 2)) [(2,.p 0 0)] (qn4 G1) hst1 Qv rfl ⟨_,_,func181,rfl,by kernel_rfl⟩ rfl rfl (unary1_pr ps1.bl ps1.wr k op vk vn vt tb nm A n c pl ty hsl HA h0 (HZ.of QiTK HZ.m QvGB) ka1_0 ka1_1) fun e u1 hp1=> ?_
   obtain ⟨rfl,v1,hw1,hs1⟩:=hp1
   refine ⟨_,rfl,fun b1 he1=> ?_⟩
   have pt1:PS D b o (top o m ((dB (Qs k op (args 0)) (QQ (args 0))))) (l++(Kd (Qs k op (args 0)) (Qg (args 0)))) v1 v W u1:=ps1.call hw1 hs1
   have bn1:0≤(top o m ((dB (Qs k op (args 0)) (QQ (args 0)))))∧(top o m ((dB (Qs k op (args 0)) (QQ (args 0)))))≤1000:=top_le HZ.ho Qe5x HZ.m.1 HZ.m.2
   have ka1_0t:=ka1_0.call hs1
   have ka1_1t:=ka1_1.call hs1
   have hsu1:=he1.st u1
   have F7:Sd u1 (.get 70 (.pointer (some ⟨(G1.g 0),0,none⟩)) (qn1 b)):=Qb.cellAt (d:=0) Qd ka1_0t.sb.at_ rfl ka1_0t.lt Qo
   have kq2:=QZ.cons ka1_0t (QZ.cons ka1_1t QZ.nil)
   refine pW0 (txt:=[32,73,83,32,78,79,84,32,78,85,76,76]) (.op 4 1) 11 104 (Qc cU0 (.op 4 1)) (Qc cU0 (.op 4 2)) [(10,.v (qn1 b))] [] [] [.v (qn1 b),.v (.string ⟨#[32,73,83,32,78,79,84,32,78,85,76,76]⟩)] hsu1 (Zg F7) pt1 kq2 func104 (fun G3 w3 ps3 kb3=>(QJ ps3.wr _ [32,73,83,32,78,79,84,32,78,85,76,76] rfl (HZ.of ZO bn1 QvGB))) fun G3 ll3 v3 b3 u3 el3 hsu3 pt3 kb3=> ?_
   exact gE hsu3 Zk [] fun w' hw=>⟨rfl,(PS.cast (pt3.seg hw) QHNg QSYe).fin⟩
 have he8:=eq_of_beq hz5
 refine gO cU0 (.op 10 1) [(24,.fn (Fn.func 181) [.p 0 0,.p 1 0]),(2,.p 0 0)] x1x hst (kE3 F2 F4 F6) fun G4 a4 w4 hst4 _=> ?_
 have hb4:=hst4.rp.below
 have ps4:=ps0.seg hb4
 have ka4_0:Bk b v w4 (G4.g 0) (qn2 b):=Bk.new hst4 ps0.wr rfl 0 rfl
 have ka4_1:Bk b v w4 (G4.g 1) (eL k op vk vn vt tb nm A n c pl ty):=Bk.new hst4 ps0.wr rfl 1 rfl
 refine Jm (d:=25) (fv:=.fn (Fn.func 181) [.p 0 0,.p 1 0]) (vs:=[]) (f:=181) (first:=[]) (caps:=(qn5 G4)) (k':=Qc cU0 (.op 10 2)) [(2,.p 0 0)] (qn5 G4) hst4 Qv rfl ⟨_,_,func181,rfl,by kernel_rfl⟩ rfl rfl (unary1_pr ps4.bl ps4.wr k op vk vn vt tb nm A n c pl ty hsl HA h0 (HZ.of QiTK HZ.m QvGB) ka4_0 ka4_1) fun e u4 hp4=> ?_
 obtain ⟨rfl,v4,hw4,hs4⟩:=hp4
 refine ⟨_,rfl,fun b4 he4=> ?_⟩
 have pt4:PS D b o (top o m ((dB (Qs k op (args 0)) (QQ (args 0))))) (l++(Kd (Qs k op (args 0)) (Qg (args 0)))) v4 v W u4:=ps4.call hw4 hs4
 have bn4:0≤(top o m ((dB (Qs k op (args 0)) (QQ (args 0)))))∧(top o m ((dB (Qs k op (args 0)) (QQ (args 0)))))≤1000:=top_le HZ.ho Qe5x HZ.m.1 HZ.m.2
 have ka4_0t:=ka4_0.call hs4
 have ka4_1t:=ka4_1.call hs4
 have hsu4:=he4.st u4
 have F9:Sd u4 (.get 70 (.pointer (some ⟨(G4.g 0),0,none⟩)) (qn1 b)):=Qb.cellAt (d:=0) Qd ka4_0t.sb.at_ rfl ka4_0t.lt Qo
 have kq5:=QZ.cons ka4_0t (QZ.cons ka4_1t QZ.nil)
 refine pW0 (txt:=[32,73,83,32,78,85,76,76]) (.op 11 1) 27 104 (Qc cU0 (.op 11 1)) (Qc cU0 (.op 11 2)) [(26,.v (qn1 b))] [] [] [.v (qn1 b),.v (.string ⟨#[32,73,83,32,78,85,76,76]⟩)] hsu4 (Zg F9) pt4 kq5 func104 (fun G6 w6 ps6 kb6=>(QJ ps6.wr _ [32,73,83,32,78,85,76,76] rfl (HZ.of ZO bn4 QvGB))) fun G6 ll6 v6 b6 u6 el6 hsu6 pt6 kb6=> ?_
 exact gE hsu6 Zk [] fun w' hw=>⟨rfl,(PS.cast (pt6.seg hw) QHNg QSYe).fin⟩
end
end Go.Proofs.YtddedijencleeaaGreatDoor
