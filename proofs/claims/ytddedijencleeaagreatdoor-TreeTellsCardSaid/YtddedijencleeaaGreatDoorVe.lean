/- The writer writes CASEs and aggregates. -/
import Derived.Test.YtddedijencleeaaGreatDoorSm
import Derived.Test.YtddedijencleeaaGreatDoorMSq
import Derived.Test.YtddedijencleeaaGreatDoorMWm
set_option linter.all false
namespace Go.Proofs.YtddedijencleeaaGreatDoor
set_option maxRecDepth 100000
set_option maxHeartbeats 8000000
open Tryz
noncomputable section
open Go.RowKit Go.Lib RC
theorem maxN_odd {n:Nat} {d:Nat→Nat} (h:(((n % 2:Nat):Int)==1)=true) (h2:2≤n):Ql n d=max (Ql (2*(n / 2)) d) (d (n - 1)):=by
 have e:n % 2=1:=by have:=eq_of_beq h;omega
 obtain ⟨j,rfl⟩: ∃ j,n=2*j+1:=⟨n / 2,by omega⟩
 rw [Ql,show (2*j+1) / 2=j by omega,show 2*j+1 - 1=2*j by omega]
theorem even_of {n:Nat} (h:(((n % 2:Nat):Int)==1)=false):2*(n / 2)=n:=by
 have: ¬ n % 2=1:=fun e=>by rw [e] at h;cases h
 omega
theorem joinN_zero {n:Nat} {t:Nat→List UInt8} {z:Bool} (h:(((n:Nat):Int)==0)=z):if z=true then Qk n t=[] else True:=by
 cases z
 · simp
 have:n=0:=by have:=eq_of_beq h;omega
 subst this;simp [Qk]
theorem joinN_len_zero {n:Nat} {t:Nat→List UInt8} {z:Bool} (h:(((n:Nat):Int)==0)=z):if z=true then (Qk n t).length=0 else True:=by
 cases z
 · simp
 have:n=0:=by have:=eq_of_beq h;omega
 subst this;simp [Qk]

noncomputable abbrev cC1:Code:=Qt f183
abbrev qp1(b:Nat):Value:=(.pointer (some ⟨b,0,none⟩))
abbrev qp5(i1:Nat):Value:=(.int .i64 (((2*i1):Nat):Int))
abbrev qp6(b:Nat):Option Addr:=(some ⟨b,0,none⟩)
abbrev qp12(n:Nat):Value:=(.int .i64 ((n:Nat):Int))
abbrev qp17(b:Nat):List Value:=[.pointer (qp6 b)]
theorem cases1_pr {D:World} {b:Nat} {o m:Int} {l:List UInt8} {v:Value} {W:World} (hD:Below D.heap.size D W) (h:Wr D.heap.size b o m l v W) {ge gw:Nat} (k op vk vn:Int) (vt tb nm:ByteArray) (A:Option Addr) (n c:Nat) (pl ty:Int) {args:Nat→E} (hsl:QR D 10 120 n (.slice A n c) fun i ds=>QI D (args i) ds) (HA: ∀ i,i<n→ ∀ cs,QI D (args i) cs→PrF D 35 (fun b=> #[.pointer (some ⟨b,0,none⟩),.agg (cs).toArray]) (Qg (args i)) (QQ (args i))) (h2:2≤n) (HZ:Pz o m (Ql n (fun i=>QQ (args i))) l (Zo (n / 2) (fun i=>Qg (args i))++(if n % 2=1 then [32,69,76,83,69,32]++Qg (args (n - 1)) else []))) (KE:Bk b v W ge (eL k op vk vn vt tb nm A n c pl ty)) (KW:Bk b v W gw [.pointer (some ⟨b,0,none⟩)]) :
 PrC D b o m l v W 183 #[.pointer (some ⟨ge,0,none⟩),.pointer (some ⟨gw,0,none⟩)] (Zo (n / 2) (fun i=>Qg (args i))++(if n % 2=1 then [32,69,76,83,69,32]++Qg (args (n - 1)) else [])) (Ql n (fun i=>QQ (args i))):=by
 have hn:=hsl.len
 have ps0:=PS.start h hD
 have hdn:Ql (2*(n / 2)) (fun i=>QQ (args i))≤Ql n (fun i=>QQ (args i)):=KT (by omega)
 have hdl:QQ (args (n - 1))≤Ql n (fun i=>QQ (args i)):=KV (f:=(fun i=>QQ (args i))) (i:=n - 1) (by omega)
 refine Qj (args:=[.pointer (some ⟨ge,0,none⟩),.pointer (some ⟨gw,0,none⟩)]) (c:=cC1) func183 rfl (by kernel_rfl) fun a0 hst=> ?_
 refine gO cC1 (.loop 0) [(2,.v (.int .i64 (((2*0):Nat):Int))),(1,.v (.pointer (some ⟨gw,0,none⟩))),(0,.v (.pointer (some ⟨ge,0,none⟩)))] [] hst Zk fun G1 a1 w1 hst1 _=> ?_
 have hb1:=hst1.rp.below
 have ps1:=ps0.seg hb1
 have kb1_0:=KE.seg hb1
 have kb1_1:=KW.seg hb1
 have hr1:=hst1.reb
 refine Kt cC1 0 Qv ((n / 2)) (fun ii aa ww=> ∃ vv,EV _ ((2,.int .i64 (((2*ii):Nat):Int))::[(1,.pointer (some ⟨gw,0,none⟩)),(0,.pointer (some ⟨ge,0,none⟩))]) aa∧PS D b o (top o m (Ql (2*ii) (fun i=>QQ (args i)))) (l++(Zo (ii) (fun i=>Qg (args i)))) vv v W ww∧Bk b vv ww ge (eL k op vk vn vt tb nm A n c pl ty)∧Bk b vv ww gw (qp17 b)) ⟨v,hr1.ev,PS.cast ps1 rfl QKqJ,kb1_0,kb1_1⟩ (fun i1 hi1 b1 u1 hI1=> ?_) (fun b1 u1 hI1=> ?_)
 · let x1x:Fr:=[(2,.v (qp5 i1)),(1,.v (.pointer (some ⟨gw,0,none⟩))),(0,.v (.pointer (some ⟨ge,0,none⟩)))]
   obtain ⟨v1,he1,hP1,kc1_0,kc1_1⟩:=hI1
   have hst1_:=he1.st u1
   have bn1:0≤(top o m (Ql (2*i1) (fun i=>QQ (args i))))∧(top o m (Ql (2*i1) (fun i=>QQ (args i))))≤1000:=top_le HZ.ho (by have hq:=HZ.hod;have hm:(Ql (2*i1) (fun i=>QQ (args i)))≤(Ql (2*(n / 2)) (fun i=>QQ (args i))):=KT (by omega);first | omega | (simp only [bS] at hq;omega)) HZ.m.1 HZ.m.2
   have ht2:decide ((((2*i1)+1:Nat):Int)<((n:Nat):Int))=true:=by simp;omega
   have hj1:=casesN_step (t:=(fun i=>Qg (args i))) hi1
   have hd1:QQ (args (2*i1))≤Ql n (fun i=>QQ (args i)):=KV (f:=(fun i=>QQ (args i))) (by omega)
   have he1_:QQ (args (2*i1+1))≤Ql n (fun i=>QQ (args i)):=KV (f:=(fun i=>QQ (args i))) (by omega)
   have hk1:(Zo i1 (fun i=>Qg (args i))).length≤(Zo (n / 2) (fun i=>Qg (args i))).length:=casesN_mono (by omega)
   have F1:Sd u1 (.bin .add 3 (qp5 i1) (.int .i64 1) (.int .i64 (((2*i1)+1:Nat):Int))):=Qb.addN (a:=(2*i1)) (b:=1) (by omega)
   have F2:Sd u1 (.get 32 (.pointer (some ⟨ge,7,none⟩)) (.slice A n c)):=Qb.cellAt (d:=7) Qd kc1_0.sb.at_ rfl kc1_0.lt Qo
   have F3:=JE u1 ht2
   have F4:Sd u1 (.get 70 (.pointer (some ⟨gw,0,none⟩)) (qp1 b)):=Qb.cellAt (d:=0) Qd kc1_1.sb.at_ rfl kc1_1.lt Qo
   have kq3:=QZ.cons kc1_0 (QZ.cons kc1_1 QZ.nil)
   refine pW0 (txt:=[32,87,72,69,78,32]) (.op 3 1) 13 104 (Qc (Qn cC1 0) (.op 3 1)) (Qc (Qn cC1 0) (.op 3 2)) [(12,.v (qp1 b)),(2,.v (qp5 i1)),(1,.v (.pointer (some ⟨gw,0,none⟩))),(0,.v (.pointer (some ⟨ge,0,none⟩)))] [] x1x [.v (qp1 b),.v (.string ⟨#[32,87,72,69,78,32]⟩)] hst1_ (Jf F1 F2 F3 F4) hP1 kq3 func104 (fun G4 w4 ps4 kb4=>(QJ ps4.wr _ [32,87,72,69,78,32] rfl (HZ.of ZO bn1 QQnX))) fun G4 ll4 v4 b4 u4 el4 hsu4 pt4 kb4=> ?_
   have F5:=kb4.ld 1 0 (t:=70) rfl rfl Qd
   have F6:=kb4.ld 0 7 (t:=32) rfl rfl Qd
   obtain ⟨eb5,eo5,ed5,es5,eq5,el5,em5,ep5,er5⟩:=hsl.at (i:=((2*i1))) (by omega)
   have pp5:=ep5
   have en5:=ep5
   obtain ⟨e5k,e5o,e5vk,e5vn,e5vt,e5tb,e5nm,e5A,e5n,e5c,e5pl,e5ty,rfl⟩:=en5.form
   have F7:=sd u4 (Qb.elemA (t:=32) (e:=34) (size:=10) (i:=((2*i1))) (k:=.i64) eq5 underlying32 Qd (by omega))
   have F8:Sd u4 (.get 34 (.pointer (some ⟨eb5,eo5+((2*i1))*10,none⟩)) (eV e5k e5o e5vk e5vn e5vt e5tb e5nm e5A e5n e5c e5pl e5ty)):=Qb.row Qd Qd (Qz er5 (.below pt4.bl)) (Nat.lt_of_lt_of_le el5 pt4.bl.size) Qo
   refine pW (dd:=(QQ (args ((2*i1))))) (txt:=(Qg (args ((2*i1))))) (.op 4 6) 20 35 (Qc (Qn cC1 0) (.op 4 6)) (Qc (Qn cC1 0) (.op 4 7)) [(19,.v (eV e5k e5o e5vk e5vn e5vt e5tb e5nm e5A e5n e5c e5pl e5ty)),(14,.v (qp1 b)),(2,.v (qp5 i1)),(1,.v (.pointer (some ⟨gw,0,none⟩))),(0,.v (.pointer (some ⟨ge,0,none⟩)))] [] x1x [.v (qp1 b),.v (eV e5k e5o e5vk e5vn e5vt e5tb e5nm e5A e5n e5c e5pl e5ty)] hsu4 (Jf F5 F6 F7 F8) pt4 kb4 func35 (fun G6 w6 ps6 kb6=>((HA _ (by omega) _ ep5) _ _ _ _ _ _ ps6.bl ps6.wr (HZ.of QJ0p bn1 Qsly))) (top_le HZ.ho QNh3 bn1.1 bn1.2) fun G6 mm6 ll6 v6 b6 u6 em6 el6 bn6 hsu6 pt6 kb6=> ?_
   have F9:=kb6.ld 1 0 (t:=70) rfl rfl Qd
   refine pW0 (txt:=[32,84,72,69,78,32]) (.op 5 1) 22 104 (Qc (Qn cC1 0) (.op 5 1)) (Qc (Qn cC1 0) (.op 5 2)) [(21,.v (qp1 b)),(2,.v (qp5 i1)),(1,.v (.pointer (some ⟨gw,0,none⟩))),(0,.v (.pointer (some ⟨ge,0,none⟩)))] [] x1x [.v (qp1 b),.v (.string ⟨#[32,84,72,69,78,32]⟩)] hsu6 (Zg F9) pt6 kb6 func104 (fun G7 w7 ps7 kb7=>(QJ ps7.wr _ [32,84,72,69,78,32] rfl (HZ.of ZO bn6 Qsly))) fun G7 ll7 v7 b7 u7 el7 hsu7 pt7 kb7=> ?_
   have F10:=kb7.ld 1 0 (t:=70) rfl rfl Qd
   have F11:=kb7.ld 0 7 (t:=32) rfl rfl Qd
   have F12:Sd u7 (.bin .add 3 (qp5 i1) (.int .i64 1) (.int .i64 (((2*i1)+1:Nat):Int))):=Qb.addN (a:=(2*i1)) (b:=1) (by omega)
   obtain ⟨eb8,eo8,ed8,es8,eq8,el8,em8,ep8,er8⟩:=hsl.at (i:=((2*i1)+1)) (by omega)
   have pp8:=ep8
   have en8:=ep8
   obtain ⟨e8k,e8o,e8vk,e8vn,e8vt,e8tb,e8nm,e8A,e8n,e8c,e8pl,e8ty,rfl⟩:=en8.form
   have F13:=sd u7 (Qb.elemA (t:=32) (e:=34) (size:=10) (i:=((2*i1)+1)) (k:=.i64) eq8 underlying32 Qd (by omega))
   have F14:Sd u7 (.get 34 (.pointer (some ⟨eb8,eo8+((2*i1)+1)*10,none⟩)) (eV e8k e8o e8vk e8vn e8vt e8tb e8nm e8A e8n e8c e8pl e8ty)):=Qb.row Qd Qd (Qz er8 (.below pt7.bl)) (Nat.lt_of_lt_of_le el8 pt7.bl.size) Qo
   refine pW (dd:=(QQ (args ((2*i1)+1)))) (txt:=(Qg (args ((2*i1)+1)))) (.op 6 7) 30 35 (Qc (Qn cC1 0) (.op 6 7)) (Qc (Qn cC1 0) (.op 6 8)) [(29,.v (eV e8k e8o e8vk e8vn e8vt e8tb e8nm e8A e8n e8c e8pl e8ty)),(23,.v (qp1 b)),(2,.v (qp5 i1)),(1,.v (.pointer (some ⟨gw,0,none⟩))),(0,.v (.pointer (some ⟨ge,0,none⟩)))] [] x1x [.v (qp1 b),.v (eV e8k e8o e8vk e8vn e8vt e8tb e8nm e8A e8n e8c e8pl e8ty)] hsu7 (kE5 F10 F11 F12 F13 F14) pt7 kb7 func35 (fun G9 w9 ps9 kb9=>((HA _ (by omega) _ ep8) _ _ _ _ _ _ ps9.bl ps9.wr (HZ.of QJ0p bn6 Qsly))) (top_le HZ.ho QNh3 bn6.1 bn6.2) fun G9 mm9 ll9 v9 b9 u9 em9 el9 bn9 hsu9 pt9 kb9=> ?_
   have F15:Sd u9 (.bin .add 3 (qp5 i1) (.int .i64 2) (.int .i64 (((2*i1)+2:Nat):Int))):=Qb.addN (a:=(2*i1)) (b:=2) (by omega)
   refine gF .nrm [(2,.v (.int .i64 (((2*i1)+2:Nat):Int))),(1,.v (.pointer (some ⟨gw,0,none⟩))),(0,.v (.pointer (some ⟨ge,0,none⟩)))] [] hsu9 (Zg F15) fun g0 a0 w0 h0 _=>⟨_,RC.St.ev (l:=[(2,.int .i64 (((2*i1)+2:Nat):Int)),(1,.pointer (some ⟨gw,0,none⟩)),(0,.pointer (some ⟨ge,0,none⟩))]) h0,PS.cast (pt9.seg h0.rp.below) (by subst_vars;rw [show 2*(i1+1)=2*i1+1+1 by omega,Ql,Ql] <;> (simp only [Qr] <;> congr 1 <;> omega)) (by subst_vars;rw [Zo] <;> simp only [List.append_assoc]),(kb9.at 0 rfl).seg h0.rp.below,(kb9.at 1 rfl).seg h0.rp.below⟩
 obtain ⟨v1,he1,hP1,kc1_0,kc1_1⟩:=hI1
 have hst1_:=he1.st u1
 have bn1:0≤(top o m (Ql (2*(n / 2)) (fun i=>QQ (args i))))∧(top o m (Ql (2*(n / 2)) (fun i=>QQ (args i))))≤1000:=top_le HZ.ho (by have hq:=HZ.hod;have hm:(Ql (2*(n / 2)) (fun i=>QQ (args i)))≤(Ql (2*(n / 2)) (fun i=>QQ (args i))):=KT (by omega);first | omega | (simp only [bS] at hq;omega)) HZ.m.1 HZ.m.2
 have ht10:decide ((((2*(n / 2))+1:Nat):Int)<((n:Nat):Int))=false:=by simp;omega
 have F16:Sd u1 (.bin .add 3 (.int .i64 (((2*(n / 2)):Nat):Int)) (.int .i64 1) (.int .i64 (((2*(n / 2))+1:Nat):Int))):=Qb.addN (a:=(2*(n / 2))) (b:=1) (by omega)
 have F17:Sd u1 (.get 32 (.pointer (some ⟨ge,7,none⟩)) (.slice A n c)):=Qb.cellAt (d:=7) Qd kc1_0.sb.at_ rfl kc1_0.lt Qo
 have F18:=JE u1 ht10
 refine gF (.ex 0) [(1,.v (.pointer (some ⟨gw,0,none⟩))),(0,.v (.pointer (some ⟨ge,0,none⟩)))] [] hst1_ (kE3 F16 F17 F18) fun G11 a11 w11 hst11 _=>brk ?_
 have hb11:=hst11.rp.below
 have ps11:=hP1.seg hb11
 have kb11_0:=kc1_0.seg hb11
 have kb11_1:=kc1_1.seg hb11
 have hsr11:=hst11.reb
 have F19:Sd w11 (.get 32 (.pointer (some ⟨ge,7,none⟩)) (.slice A n c)):=Qb.cellAt (d:=7) Qd kb11_0.sb.at_ rfl kb11_0.lt Qo
 have F20:Sd w11 (.bin .rem 3 (qp12 n) (.int .i64 2) (.int .i64 ((n % 2:Nat):Int))):=Qb.remN (a:=n) (b:=2) (by omega) (by omega) (by omega)
 obtain ⟨z21,hz21⟩: ∃ z,(((n % 2:Nat):Int)==1)=z:=⟨_,rfl⟩
 have F22:=QN w11 hz21
 cases z21
 · exact gE hsr11 (kE3 F19 F20 F22) [] fun w' hw=>⟨rfl,(PS.cast (ps11.seg hw) (by rw [show 2*(n / 2)=n from even_of hz21] <;> rfl) (by rw [ifOdd hz21];simp only [Bool.false_eq_true,if_false,if_true,List.append_assoc,List.append_nil])).fin⟩
 have F23:Sd w11 (.get 70 (.pointer (some ⟨gw,0,none⟩)) (qp1 b)):=Qb.cellAt (d:=0) Qd kb11_1.sb.at_ rfl kb11_1.lt Qo
 have kq12:=QZ.cons kb11_0 (QZ.cons kb11_1 QZ.nil)
 refine pW0 (txt:=[32,69,76,83,69,32]) (.op 9 1) 38 104 (Qc cC1 (.op 9 1)) (Qc cC1 (.op 9 2)) [(37,.v (qp1 b)),(3,.v (qp12 n)),(1,.v (.pointer (some ⟨gw,0,none⟩))),(0,.v (.pointer (some ⟨ge,0,none⟩)))] [] [(3,.v (qp12 n)),(1,.v (.pointer (some ⟨gw,0,none⟩))),(0,.v (.pointer (some ⟨ge,0,none⟩)))] [.v (qp1 b),.v (.string ⟨#[32,69,76,83,69,32]⟩)] hsr11 (Jf F19 F20 F22 F23) ps11 kq12 func104 (fun G13 w13 ps13 kb13=>(QJ ps13.wr _ [32,69,76,83,69,32] rfl (HZ.of ZO bn1 (by rw [ifOdd hz21];first | (simp only [hz21,bS,lS];omega) | omega)))) fun G13 ll13 v13 b13 u13 el13 hsu13 pt13 kb13=> ?_
 have F24:=kb13.ld 1 0 (t:=70) rfl rfl Qd
 have F25:=kb13.ld 0 7 (t:=32) rfl rfl Qd
 have F26:Sd u13 (.bin .sub 3 (qp12 n) (.int .i64 1) (.int .i64 ((n - 1:Nat):Int))):=Qb.subN (a:=n) (b:=1) (by omega) (by omega)
 obtain ⟨eb14,eo14,ed14,es14,eq14,el14,em14,ep14,er14⟩:=hsl.at (i:=(n - 1)) (by omega)
 have pp14:=ep14
 have en14:=ep14
 obtain ⟨e14k,e14o,e14vk,e14vn,e14vt,e14tb,e14nm,e14A,e14n,e14c,e14pl,e14ty,rfl⟩:=en14.form
 have F27:=sd u13 (Qb.elemA (t:=32) (e:=34) (size:=10) (i:=(n - 1)) (k:=.i64) eq14 underlying32 Qd (by omega))
 have F28:Sd u13 (.get 34 (.pointer (some ⟨eb14,eo14+(n - 1)*10,none⟩)) (eV e14k e14o e14vk e14vn e14vt e14tb e14nm e14A e14n e14c e14pl e14ty)):=Qb.row Qd Qd (Qz er14 (.below pt13.bl)) (Nat.lt_of_lt_of_le el14 pt13.bl.size) Qo
 refine pW (dd:=(QQ (args (n - 1)))) (txt:=(Qg (args (n - 1)))) (.op 10 7) 46 35 (Qc cC1 (.op 10 7)) (Qc cC1 (.op 10 8)) [(45,.v (eV e14k e14o e14vk e14vn e14vt e14tb e14nm e14A e14n e14c e14pl e14ty)),(39,.v (qp1 b))] [] [] [.v (qp1 b),.v (eV e14k e14o e14vk e14vn e14vt e14tb e14nm e14A e14n e14c e14pl e14ty)] hsu13 (kE5 F24 F25 F26 F27 F28) pt13 kb13 func35 (fun G15 w15 ps15 kb15=>((HA _ (by omega) _ ep14) _ _ _ _ _ _ ps15.bl ps15.wr (HZ.of (by first | omega | (simp only [hz21,bS];omega)) bn1 (by subst_vars;rw [ifOdd hz21];first | (simp only [hz21,bS,lS];omega) | omega)))) (top_le HZ.ho (by subst_vars;have hq:=HZ.hod;first | omega | (simp only [hz21,bS] at hq;omega)) bn1.1 bn1.2) fun G15 mm15 ll15 v15 b15 u15 em15 el15 bn15 hsu15 pt15 kb15=> ?_
 exact gE hsu15 Zk [] fun w' hw=>⟨rfl,(PS.cast (pt15.seg hw) (by subst_vars;rw [show Ql n (fun i=>QQ (args i))=max (Ql (2*(n / 2)) (fun i=>QQ (args i))) (QQ (args (n - 1))) from maxN_odd hz21 (by omega)] <;> rw [Qr]) (by subst_vars;rw [ifOdd hz21];simp only [Bool.false_eq_true,if_false,if_true,List.append_assoc,List.append_nil])).fin⟩
noncomputable abbrev cC0:Code:=Qt f125
abbrev qp7(n:Nat)(args:Nat→E):List UInt8:=((Zo (n / 2) (fun i=>Qg (args i))++(if n % 2=1 then [32,69,76,83,69,32]++Qg (args (n - 1)) else []))++[32,69,78,68])
theorem cases_pr {D:World} (k op vk vn:Int) (vt tb nm:ByteArray) (A:Option Addr) (n c:Nat) (pl ty:Int) {args:Nat→E} (hsl:QR D 10 120 n (.slice A n c) fun i ds=>QI D (args i) ds) (HA: ∀ i,i<n→ ∀ cs,QI D (args i) cs→PrF D 35 (fun b=> #[.pointer (some ⟨b,0,none⟩),.agg (cs).toArray]) (Qg (args i)) (QQ (args i))) (h2:2≤n) :
 PrF D 125 (fun b=> #[.pointer (some ⟨b,0,none⟩),.agg ((eL k op vk vn vt tb nm A n c pl ty)).toArray]) (QC n (fun i=>Qg (args i))) (Ql n (fun i=>QQ (args i))+1):=by
 intro b o m l v W hD h HZ
 have hc:QC n (fun i=>Qg (args i))=[67,65,83,69]++(qp7 n args):=by simp only [QC,List.append_assoc]
 rw [hc] at HZ ⊢
 have ps0:=PS.start h hD
 refine Qj (args:=[.pointer (qp6 b),eV k op vk vn vt tb nm A n c pl ty]) (c:=cC0) func125 rfl (by kernel_rfl) fun a0 hst=> ?_
 have kq1:=(QZ.nil:QZ b v W [])
 refine pW (dd:=((Ql n (fun i=>QQ (args i)))+1)) (txt:=([67,65,83,69]++(qp7 n args))) (.op 1 2) 6 173 (Qc cC0 (.op 1 2)) (Qc cC0 (.op 1 3)) [(5,.fn (Fn.func 183) [.p 1 0,.p 0 0]),(4,.v (qp1 b))] [bx (qp17 b),bx (eL k op vk vn vt tb nm A n c pl ty)] [] [.v (qp1 b),.v (.string ⟨#[67,65,83,69]⟩),.fn (Fn.func 183) [.p 1 0,.p 0 0],.v (.string ⟨#[32,69,78,68]⟩)] hst Zk ps0 kq1 func173 (fun G2 w2 ps2 kb2=>(within_w ps2.wr _ _ [67,65,83,69] [32,69,78,68] rfl rfl 183 (Kn func183 Qd rfl) _ _ (Zo (n / 2) (fun i=>Qg (args i))++(if n % 2=1 then [32,69,76,83,69,32]++Qg (args (n - 1)) else [])) (Ql n (fun i=>QQ (args i))) (HZ.of QJ0p HZ.m QQnX) fun v' W' hw' hs' hz'=>cases1_pr ((ps2.call hw' hs').bl) hw' k op vk vn vt tb nm A n c pl ty hsl HA h2 hz' ((kb2.at 1 rfl).call hs') ((kb2.at 0 rfl).call hs'))) (top_le HZ.ho QrjB HZ.m.1 HZ.m.2) fun G2 mm2 ll2 v2 b2 u2 em2 el2 bn2 hsu2 pt2 kb2=> ?_
 exact QrKd
noncomputable abbrev cG1:Code:=Qt f184
abbrev qp13(b n c:Nat)(A:Option Addr):Fr:=[(12,.v (.func (Fn.func 35) #[.pointer (qp6 b)] #[])),(10,.v (.slice A n c)),(8,.v (qp1 b))]
theorem aggregate1_pr {D:World} {b:Nat} {o m:Int} {l:List UInt8} {v:Value} {W:World} (hD:Below D.heap.size D W) (h:Wr D.heap.size b o m l v W) {ge gw:Nat} (k op vk vn:Int) (vt tb nm:ByteArray) (A:Option Addr) (n c:Nat) (pl ty:Int) {args:Nat→E} (hsl:QR D 10 120 n (.slice A n c) fun i ds=>QI D (args i) ds) (HA: ∀ i,i<n→ ∀ cs,QI D (args i) cs→PrF D 35 (fun b=> #[.pointer (some ⟨b,0,none⟩),.agg (cs).toArray]) (Qg (args i)) (QQ (args i))) (HZ:Pz o m (Ql n (fun i=>QQ (args i))) l (if n=0 then [42] else Qk n (fun i=>Qg (args i)))) (KE:Bk b v W ge (eL k op vk vn vt tb nm A n c pl ty)) (KW:Bk b v W gw [.pointer (some ⟨b,0,none⟩)]) :
 PrC D b o m l v W 184 #[.pointer (some ⟨ge,0,none⟩),.pointer (some ⟨gw,0,none⟩)] (if n=0 then [42] else Qk n (fun i=>Qg (args i))) (Ql n (fun i=>QQ (args i))):=by
 have hn:=hsl.len
 have ps0:=PS.start h hD
 refine Qj (args:=[.pointer (some ⟨ge,0,none⟩),.pointer (some ⟨gw,0,none⟩)]) (c:=cG1) func184 rfl (by kernel_rfl) fun a0 hst=> ?_
 have F1:Sd W (.get 32 (.pointer (some ⟨ge,7,none⟩)) (.slice A n c)):=Qb.cellAt (d:=7) Qd KE.sb.at_ rfl KE.lt Qo
 obtain ⟨z2,hz2⟩: ∃ z,(((n:Nat):Int)==0)=z:=⟨_,rfl⟩
 have F3:=QN W hz2
 cases z2
 · have F4:Sd W (.get 70 (.pointer (some ⟨gw,0,none⟩)) (qp1 b)):=Qb.cellAt (d:=0) Qd KW.sb.at_ rfl KW.lt Qo
   have kq1:=QZ.cons KE (QZ.cons KW QZ.nil)
   refine pW (dd:=(Ql n (fun i=>QQ (args i)))) (txt:=(Qk n (fun i=>Qg (args i)))) (.op 2 5) 13 110 (Qc cG1 (.op 2 5)) (Qc cG1 (.op 2 6)) (qp13 b n c A) [] [] [.v (qp1 b),.v (.slice A n c),.v (.func (Fn.func 35) #[.pointer (qp6 b)] #[])] hst (kE5 F1 F3 F4 F1 F4) ps0 kq1 func110 (fun G2 w2 ps2 kb2=>(JJ ps2.bl ps2.wr hsl 35 ⟨_,_,func35,rfl,by kernel_rfl⟩ (qp17 b) [] (fun i=>Qg (args i)) (fun i=>QQ (args i)) (HZ.of QTcd HZ.m QvEX) QqzG)) (top_le HZ.ho (by have hq:=HZ.hod;first | omega | (simp only [hz2,bS] at hq;omega)) HZ.m.1 HZ.m.2) fun G2 mm2 ll2 v2 b2 u2 em2 el2 bn2 hsu2 pt2 kb2=> ?_
   exact gE hsu2 Zk [] fun w' hw=>⟨rfl,(PS.cast (pt2.seg hw) QywK Qacg).fin⟩
 have F5:Sd W (.get 70 (.pointer (some ⟨gw,0,none⟩)) (qp1 b)):=Qb.cellAt (d:=0) Qd KW.sb.at_ rfl KW.lt Qo
 have kq3:=QZ.cons KE (QZ.cons KW QZ.nil)
 refine pW0 (txt:=[42]) (.op 1 1) 7 104 (Qc cG1 (.op 1 1)) (Qc cG1 (.op 1 2)) [(6,.v (qp1 b)),(1,.v (.pointer (some ⟨gw,0,none⟩))),(0,.v (.pointer (some ⟨ge,0,none⟩)))] [] [(1,.v (.pointer (some ⟨gw,0,none⟩))),(0,.v (.pointer (some ⟨ge,0,none⟩)))] [.v (qp1 b),.v (.string ⟨#[42]⟩)] hst (kE3 F1 F3 F5) ps0 kq3 func104 (fun G4 w4 ps4 kb4=>(QJ ps4.wr _ [42] rfl (HZ.of ZO HZ.m QvEX))) fun G4 ll4 v4 b4 u4 el4 hsu4 pt4 kb4=> ?_
 have F6:=kb4.ld 1 0 (t:=70) rfl rfl Qd
 have F7:=kb4.ld 0 7 (t:=32) rfl rfl Qd
 refine pW (dd:=(Ql n (fun i=>QQ (args i)))) (txt:=(Qk n (fun i=>Qg (args i)))) (.op 2 5) 13 110 (Qc cG1 (.op 2 5)) (Qc cG1 (.op 2 6)) (qp13 b n c A) [] [] [.v (qp1 b),.v (.slice A n c),.v (.func (Fn.func 35) #[.pointer (qp6 b)] #[])] hsu4 (kE3 F6 F7 F6) pt4 kb4 func110 (fun G5 w5 ps5 kb5=>(JJ ps5.bl ps5.wr hsl 35 ⟨_,_,func35,rfl,by kernel_rfl⟩ (qp17 b) [] (fun i=>Qg (args i)) (fun i=>QQ (args i)) (HZ.of QTcd HZ.m (by subst_vars;rw [Jc hz2];have hj:=joinN_len_zero (t:=(fun i=>Qg (args i))) hz2;simp only [Bool.false_eq_true,if_false,if_true] at hj;first | (simp only [hz2,bS,lS];omega) | omega)) QqzG)) (top_le HZ.ho (by subst_vars;have hq:=HZ.hod;first | omega | (simp only [hz2,bS] at hq;omega)) HZ.m.1 HZ.m.2) fun G5 mm5 ll5 v5 b5 u5 em5 el5 bn5 hsu5 pt5 kb5=> ?_
 exact gE hsu5 Zk [] fun w' hw=>⟨rfl,(PS.cast (pt5.seg hw) QywK Qacg).fin⟩
noncomputable abbrev cG0:Code:=Qt f126
abbrev qp2(n:Nat)(args:Nat→E):List UInt8:=([40]++((if n=0 then [42] else Qk n (fun i=>Qg (args i)))++[41]))
abbrev qp3:Value:=(.agg #[.string ⟨#[67,79,85,78,84]⟩,.string ⟨#[83,85,77]⟩,.string ⟨#[77,73,78]⟩,.string ⟨#[77,65,88]⟩])
abbrev qp4(G2:Env)(b:Nat):Fr:=[(12,.fn (Fn.func 184) [.v (.pointer (some ⟨(G2.g 1),0,none⟩)),.v (.pointer (some ⟨(G2.g 0),0,none⟩))]),(11,.v (qp1 b))]
abbrev qp8(G2:Env):Value:=(.pointer (some ⟨(G2.g 1),0,none⟩))
abbrev qp9(G2:Env):Value:=(.pointer (some ⟨(G2.g 0),0,none⟩))
abbrev qp10:Fr:=[(3,.p 1 0),(2,.p 0 0)]
abbrev qp11:Value:=(.string ⟨#[67,79,85,78,84]⟩)
abbrev qp14:Value:=(.string ⟨#[83,85,77]⟩)
abbrev qp15:Value:=(.string ⟨#[77,73,78]⟩)
abbrev qp16:Value:=(.string ⟨#[77,65,88]⟩)
theorem aggregate_pr {D:World} (k op vk vn:Int) (vt tb nm:ByteArray) (A:Option Addr) (n c:Nat) (pl ty:Int) {args:Nat→E} (hsl:QR D 10 120 n (.slice A n c) fun i ds=>QI D (args i) ds) (HA: ∀ i,i<n→ ∀ cs,QI D (args i) cs→PrF D 35 (fun b=> #[.pointer (some ⟨b,0,none⟩),.agg (cs).toArray]) (Qg (args i)) (QQ (args i))) (ho:19≤op∧op≤22) :
 PrF D 126 (fun b=> #[.pointer (some ⟨b,0,none⟩),.agg ((eL k op vk vn vt tb nm A n c pl ty)).toArray]) (QX op n (fun i=>Qg (args i))) (Ql n (fun i=>QQ (args i))+1):=by
 intro b o m l v W hD h HZ
 have hq:op=19∨op=20∨op=21∨op=22:=by omega
 rcases hq with rfl | rfl | rfl | rfl
 · have hc:QX 19 n (fun i=>Qg (args i))=[67,79,85,78,84]++(qp2 n args):=rfl
   rw [hc] at HZ ⊢
   have ps0:=PS.start h hD
   refine Qj (args:=[.pointer (qp6 b),eV k 19 vk vn vt tb nm A n c pl ty]) (c:=cG0) func126 rfl (by kernel_rfl) fun a0 hst=> ?_
   have F1:=sd W (Qb.subI (t:=3) (k:=.i64) (a:=19) (b:=19) (c:=0) (by decide))
   have F2:Sd W (.ask (Instr.index 154 qp3 (.int .i64 0)) qp11):=fun w _=>by kernel_rfl
   have kq1:=(QZ.nil:QZ b v W [])
   refine pW0 (txt:=[67,79,85,78,84]) (.op 1 6) 10 104 (Qc cG0 (.op 1 6)) (Qc cG0 (.op 1 7)) [(9,.v qp11),(4,.v (qp1 b)),(3,.p 1 0),(2,.p 0 0)] [bx (qp17 b),bx (eL k 19 vk vn vt tb nm A n c pl ty)] qp10 [.v (qp1 b),.v qp11] hst (Km F1 F2) ps0 kq1 func104 (fun G2 w2 ps2 kb2=>(QJ ps2.wr _ [67,79,85,78,84] rfl (HZ.of ZO HZ.m QQnX))) fun G2 ll2 v2 b2 u2 el2 hsu2 pt2 kb2=> ?_
   have F3:=kb2.ld 0 0 (t:=70) rfl rfl Qd
   refine pW (dd:=((Ql n (fun i=>QQ (args i)))+1)) (txt:=(qp2 n args)) (.op 2 2) 13 108 (Qc cG0 (.op 2 2)) (Qc cG0 (.op 2 3)) (qp4 G2 b) [] [] [.v (qp1 b),.fn (Fn.func 184) [.v (qp8 G2),.v (qp9 G2)]] hsu2 (Zg F3) pt2 kb2 func108 (fun G3 w3 ps3 kb3=>(ZK ps3.wr 184 (Kn func184 Qd rfl) _ _ (if n=0 then [42] else Qk n (fun i=>Qg (args i))) (Ql n (fun i=>QQ (args i))) (HZ.of QJ0p HZ.m Qsly) fun v' W' hw' hs' hz'=>aggregate1_pr ((ps3.call hw' hs').bl) hw' k 19 vk vn vt tb nm A n c pl ty hsl HA hz' ((kb3.at 1 rfl).call hs') ((kb3.at 0 rfl).call hs'))) (top_le HZ.ho QNh3 HZ.m.1 HZ.m.2) fun G3 mm3 ll3 v3 b3 u3 em3 el3 bn3 hsu3 pt3 kb3=> ?_
   exact QvOI
 · have hc:QX 20 n (fun i=>Qg (args i))=[83,85,77]++(qp2 n args):=rfl
   rw [hc] at HZ ⊢
   have ps0:=PS.start h hD
   refine Qj (args:=[.pointer (qp6 b),eV k 20 vk vn vt tb nm A n c pl ty]) (c:=cG0) func126 rfl (by kernel_rfl) fun a0 hst=> ?_
   have F1:=sd W (Qb.subI (t:=3) (k:=.i64) (a:=20) (b:=19) (c:=1) (by decide))
   have F2:Sd W (.ask (Instr.index 154 qp3 (.int .i64 1)) qp14):=fun w _=>by kernel_rfl
   have kq1:=(QZ.nil:QZ b v W [])
   refine pW0 (txt:=[83,85,77]) (.op 1 6) 10 104 (Qc cG0 (.op 1 6)) (Qc cG0 (.op 1 7)) [(9,.v qp14),(4,.v (qp1 b)),(3,.p 1 0),(2,.p 0 0)] [bx (qp17 b),bx (eL k 20 vk vn vt tb nm A n c pl ty)] qp10 [.v (qp1 b),.v qp14] hst (Km F1 F2) ps0 kq1 func104 (fun G2 w2 ps2 kb2=>(QJ ps2.wr _ [83,85,77] rfl (HZ.of ZO HZ.m QQnX))) fun G2 ll2 v2 b2 u2 el2 hsu2 pt2 kb2=> ?_
   have F3:=kb2.ld 0 0 (t:=70) rfl rfl Qd
   refine pW (dd:=((Ql n (fun i=>QQ (args i)))+1)) (txt:=(qp2 n args)) (.op 2 2) 13 108 (Qc cG0 (.op 2 2)) (Qc cG0 (.op 2 3)) (qp4 G2 b) [] [] [.v (qp1 b),.fn (Fn.func 184) [.v (qp8 G2),.v (qp9 G2)]] hsu2 (Zg F3) pt2 kb2 func108 (fun G3 w3 ps3 kb3=>(ZK ps3.wr 184 (Kn func184 Qd rfl) _ _ (if n=0 then [42] else Qk n (fun i=>Qg (args i))) (Ql n (fun i=>QQ (args i))) (HZ.of QJ0p HZ.m Qsly) fun v' W' hw' hs' hz'=>aggregate1_pr ((ps3.call hw' hs').bl) hw' k 20 vk vn vt tb nm A n c pl ty hsl HA hz' ((kb3.at 1 rfl).call hs') ((kb3.at 0 rfl).call hs'))) (top_le HZ.ho QNh3 HZ.m.1 HZ.m.2) fun G3 mm3 ll3 v3 b3 u3 em3 el3 bn3 hsu3 pt3 kb3=> ?_
   exact QvOI
 · have hc:QX 21 n (fun i=>Qg (args i))=[77,73,78]++(qp2 n args):=rfl
   rw [hc] at HZ ⊢
   have ps0:=PS.start h hD
   refine Qj (args:=[.pointer (qp6 b),eV k 21 vk vn vt tb nm A n c pl ty]) (c:=cG0) func126 rfl (by kernel_rfl) fun a0 hst=> ?_
   have F1:=sd W (Qb.subI (t:=3) (k:=.i64) (a:=21) (b:=19) (c:=2) (by decide))
   have F2:Sd W (.ask (Instr.index 154 qp3 (.int .i64 2)) qp15):=fun w _=>by kernel_rfl
   have kq1:=(QZ.nil:QZ b v W [])
   refine pW0 (txt:=[77,73,78]) (.op 1 6) 10 104 (Qc cG0 (.op 1 6)) (Qc cG0 (.op 1 7)) [(9,.v qp15),(4,.v (qp1 b)),(3,.p 1 0),(2,.p 0 0)] [bx (qp17 b),bx (eL k 21 vk vn vt tb nm A n c pl ty)] qp10 [.v (qp1 b),.v qp15] hst (Km F1 F2) ps0 kq1 func104 (fun G2 w2 ps2 kb2=>(QJ ps2.wr _ [77,73,78] rfl (HZ.of ZO HZ.m QQnX))) fun G2 ll2 v2 b2 u2 el2 hsu2 pt2 kb2=> ?_
   have F3:=kb2.ld 0 0 (t:=70) rfl rfl Qd
   refine pW (dd:=((Ql n (fun i=>QQ (args i)))+1)) (txt:=(qp2 n args)) (.op 2 2) 13 108 (Qc cG0 (.op 2 2)) (Qc cG0 (.op 2 3)) (qp4 G2 b) [] [] [.v (qp1 b),.fn (Fn.func 184) [.v (qp8 G2),.v (qp9 G2)]] hsu2 (Zg F3) pt2 kb2 func108 (fun G3 w3 ps3 kb3=>(ZK ps3.wr 184 (Kn func184 Qd rfl) _ _ (if n=0 then [42] else Qk n (fun i=>Qg (args i))) (Ql n (fun i=>QQ (args i))) (HZ.of QJ0p HZ.m Qsly) fun v' W' hw' hs' hz'=>aggregate1_pr ((ps3.call hw' hs').bl) hw' k 21 vk vn vt tb nm A n c pl ty hsl HA hz' ((kb3.at 1 rfl).call hs') ((kb3.at 0 rfl).call hs'))) (top_le HZ.ho QNh3 HZ.m.1 HZ.m.2) fun G3 mm3 ll3 v3 b3 u3 em3 el3 bn3 hsu3 pt3 kb3=> ?_
   exact QvOI
 have hc:QX 22 n (fun i=>Qg (args i))=[77,65,88]++(qp2 n args):=rfl
 rw [hc] at HZ ⊢
 have ps0:=PS.start h hD
 refine Qj (args:=[.pointer (qp6 b),eV k 22 vk vn vt tb nm A n c pl ty]) (c:=cG0) func126 rfl (by kernel_rfl) fun a0 hst=> ?_
 have F1:=sd W (Qb.subI (t:=3) (k:=.i64) (a:=22) (b:=19) (c:=3) (by decide))
 have F2:Sd W (.ask (Instr.index 154 qp3 (.int .i64 3)) qp16):=fun w _=>by kernel_rfl
 have kq1:=(QZ.nil:QZ b v W [])
 refine pW0 (txt:=[77,65,88]) (.op 1 6) 10 104 (Qc cG0 (.op 1 6)) (Qc cG0 (.op 1 7)) [(9,.v qp16),(4,.v (qp1 b)),(3,.p 1 0),(2,.p 0 0)] [bx (qp17 b),bx (eL k 22 vk vn vt tb nm A n c pl ty)] qp10 [.v (qp1 b),.v qp16] hst (Km F1 F2) ps0 kq1 func104 (fun G2 w2 ps2 kb2=>(QJ ps2.wr _ [77,65,88] rfl (HZ.of ZO HZ.m QQnX))) fun G2 ll2 v2 b2 u2 el2 hsu2 pt2 kb2=> ?_
 have F3:=kb2.ld 0 0 (t:=70) rfl rfl Qd
 refine pW (dd:=((Ql n (fun i=>QQ (args i)))+1)) (txt:=(qp2 n args)) (.op 2 2) 13 108 (Qc cG0 (.op 2 2)) (Qc cG0 (.op 2 3)) (qp4 G2 b) [] [] [.v (qp1 b),.fn (Fn.func 184) [.v (qp8 G2),.v (qp9 G2)]] hsu2 (Zg F3) pt2 kb2 func108 (fun G3 w3 ps3 kb3=>(ZK ps3.wr 184 (Kn func184 Qd rfl) _ _ (if n=0 then [42] else Qk n (fun i=>Qg (args i))) (Ql n (fun i=>QQ (args i))) (HZ.of QJ0p HZ.m Qsly) fun v' W' hw' hs' hz'=>aggregate1_pr ((ps3.call hw' hs').bl) hw' k 22 vk vn vt tb nm A n c pl ty hsl HA hz' ((kb3.at 1 rfl).call hs') ((kb3.at 0 rfl).call hs'))) (top_le HZ.ho QNh3 HZ.m.1 HZ.m.2) fun G3 mm3 ll3 v3 b3 u3 em3 el3 bn3 hsu3 pt3 kb3=> ?_
 exact QvOI
end
end Go.Proofs.YtddedijencleeaaGreatDoor
