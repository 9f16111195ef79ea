/- The writer writes clauses, names, columns, sources, items, orders, rows, sets. -/
import Derived.Test.YtddedijencleeaaGreatDoorSm
import Derived.Test.YtddedijencleeaaGreatDoorMSq
import Derived.Test.YtddedijencleeaaGreatDoorVf
set_option linter.all false
namespace Go.Proofs.YtddedijencleeaaGreatDoor
set_option maxRecDepth 100000
set_option maxHeartbeats 8000000
open Tryz
noncomputable section
open Go.RowKit Go.Lib RC
noncomputable def Qm (word:List UInt8) (e:E):List UInt8:=if JK e==0 then [] else word++Qg e
theorem dpE_none {e:E} (h:JK e=0):QQ e=0:=by
 cases e with
 | no=>rfl
 | mk k op vk vn vt tb nm n args pl ty=>exact KC (show k<3 by have:k=0:=h;omega)
theorem isE_may {e:E} (h:Zx e=true) (hk:(JK e==0)=false):QH e=true:=by
 cases e with
 | no=>simp [Zx,QE,QH] at h
 | mk k op vk vn vt tb nm n args pl ty=>
  have hk':(k==0)=false:=hk
  simp only [Zx,QE,ZA,hk',Bool.false_and,Bool.false_or] at h
  exact h
def QA (n:Nat) (f:Nat→ByteArray):List UInt8:=[40]++(Qk n (fun i=>(f i).data.toList)++[41])
def typeL (ty:Int):List UInt8:=if ty==1 then [66,79,79,76] else if ty==2 then [73,78,84] else [84,69,88,84]
def Jl (c:Co):List UInt8:=c.nm.data.toList++([32]++(typeL c.ty++(if c.nn=true then [32,78,79,84,32,78,85,76,76] else [])))
def Jv (al:ByteArray):List UInt8:=if QB al ⟨#[]⟩ then [] else [32]++al.data.toList
noncomputable def ZW (x:So):List UInt8:=x.nm.data.toList++(Jv x.al++Qm [32,79,78,32] x.e)
noncomputable def ZL (x:It):List UInt8:=if x.star=true then [42] else Qg x.e++(if QB x.nm ⟨#[]⟩ then [] else [32,65,83,32]++x.nm.data.toList)
noncomputable def Zi (x:Od):List UInt8:=Qg x.e++(if x.desc=true then [32,68,69,83,67] else [])
noncomputable def setL (x:Go.Proofs.YtddedijencleeaaGreatDoor.St):List UInt8:=x.nm.data.toList++([32,61,32]++Qg x.e)
noncomputable def rowL (n:Nat) (f:Nat→E):List UInt8:=[40]++(Qk n (fun i=>Qg (f i))++[41])
noncomputable def itemD (x:It):Nat:=if x.star=true then 0 else QQ x.e
theorem maxN_zero (n:Nat):Ql n (fun _=>0)=0:=Nat.le_zero.1 (JI fun _ _=>Nat.le_refl _)
noncomputable abbrev cK0:Code:=Qt f113
abbrev Jy(b:Nat):Value:=(.pointer (some ⟨b,0,none⟩))
abbrev qr3(b:Nat):Option Addr:=(some ⟨b,0,none⟩)
theorem clause_pr {D:World} (hP:PrW D) (word:ByteArray) (wl:List UInt8) (hw:word.data.toList=wl) {e:E} {cs:List Value} (he:QI D e cs) (hm:Zx e=true) :
 PrF D 113 (fun b=> #[.pointer (some ⟨b,0,none⟩),.string word,.agg cs.toArray]) (Qm wl e) (QQ e):=by
 intro b o m l v W hD h HZ
 rcases e with ⟨pk,po,pvk,pvn,pvt,ptb,pnm,pn,pargs,ppl,pty⟩ | _
 rotate_left
 · exact False.elim he
 have ph:=he
 obtain ⟨pwf,pv,rfl,psl⟩:=he
 obtain ⟨pA,pc,rfl⟩:=QR.form psl
 have hcsp:ZG pk po pvk pvn pvt ptb pnm (.slice pA pn pc) ppl pty=(eL pk po pvk pvn pvt ptb pnm pA pn pc ppl pty):=rfl
 rw [hcsp] at ph
 try rw [hcsp]
 have pvt_:=pwf.vt
 have ptb_:=pwf.tb
 have pnm_:=pwf.nm
 have ps0:=PS.start h hD
 refine Qj (args:=[.pointer (qr3 b),.string word,eV pk po pvk pvn pvt ptb pnm pA pn pc ppl pty]) (c:=cK0) func113 rfl (by kernel_rfl) fun a0 hst=> ?_
 obtain ⟨z1,hz1⟩: ∃ z,(pk==0)=z:=⟨_,rfl⟩
 have F2:=sd W (Qb.intNe (t:=3) (k:=.i64) (a:=pk) (b:=0) (z:=(!z1)) (by rw [bne,hz1];try rfl))
 cases z1
 · have kq1:=(QZ.nil:QZ b v W [])
   refine pW0 (txt:=wl) (.op 2 2) 11 104 (Qc cK0 (.op 2 2)) (Qc cK0 (.op 2 3)) [(10,.v (.string word)),(9,.v (Jy b)),(5,.p 0 0),(0,.v (Jy b))] [bx (eL pk po pvk pvn pvt ptb pnm pA pn pc ppl pty)] [(5,.p 0 0),(0,.v (Jy b))] [.v (Jy b),.v (.string word)] hst (Zg F2) ps0 kq1 func104 (fun G2 w2 ps2 kb2=>(QJ ps2.wr _ wl hw (HZ.of ZO HZ.m (by first | (simp only [Qm,JK,hz1,bS,lS];omega) | omega)))) fun G2 ll2 v2 b2 u2 el2 hsu2 pt2 kb2=> ?_
   have F3:=kb2.row 0 (t:=34) rfl Qd Qd
   refine pW (dd:=(QQ (.mk pk po pvk pvn pvt ptb pnm pn pargs ppl pty))) (txt:=(Qg (.mk pk po pvk pvn pvt ptb pnm pn pargs ppl pty))) (.op 3 2) 14 35 (Qc cK0 (.op 3 2)) (Qc cK0 (.op 3 3)) [(13,.v (eV pk po pvk pvn pvt ptb pnm pA pn pc ppl pty)),(12,.v (Jy b))] [] [] [.v (Jy b),.v (eV pk po pvk pvn pvt ptb pnm pA pn pc ppl pty)] hsu2 (Zg F3) pt2 kb2 func35 (fun G3 w3 ps3 kb3=>(expr_pr hP (.mk pk po pvk pvn pvt ptb pnm pn pargs ppl pty) _ (isE_may hm (by simp only [JK,hz1])) ph _ _ _ _ _ _ ps3.bl ps3.wr (HZ.of (by first | omega | (simp only [Qm,JK,hz1,bS];omega)) HZ.m (by subst_vars;first | (simp only [Qm,JK,hz1,bS,lS];omega) | omega)))) (top_le HZ.ho (by subst_vars;have hq:=HZ.hod;first | omega | (simp only [Qm,JK,hz1,bS] at hq;omega)) HZ.m.1 HZ.m.2) fun G3 mm3 ll3 v3 b3 u3 em3 el3 bn3 hsu3 pt3 kb3=> ?_
   exact gE hsu3 Zk [] fun w' hw=>⟨rfl,(PS.cast (pt3.seg hw) (by subst_vars;first | rfl | (rw [dpE_none (show JK (.mk pk po pvk pvn pvt ptb pnm pn pargs ppl pty)=0 from eq_of_beq hz1)];rfl)) (by subst_vars;simp only [Qm,JK,hz1,bS,List.append_assoc,List.append_nil])).fin⟩
 exact gE hst (Zg F2) [] fun w' hw=>⟨rfl,(PS.cast (ps0.seg hw) (by first | rfl | (rw [dpE_none (show JK (.mk pk po pvk pvn pvt ptb pnm pn pargs ppl pty)=0 from eq_of_beq hz1)];rfl)) (by simp only [Qm,JK,hz1,bS,List.append_assoc,List.append_nil])).fin⟩
noncomputable abbrev cN1:Code:=Qt f171
theorem names1_pr {D:World} {b:Nat} {o m:Int} {l:List UInt8} {v:Value} {W:World} (hD:Below D.heap.size D W) (h:Wr D.heap.size b o m l v W) {gw gl n:Nat} {A:Option Addr} {c:Nat} {f:Nat→ByteArray} (hv:ZD D n f (.slice A n c)) (HZ:Pz o m (Ql n (fun _=>0)) l (Qk n (fun i=>(f i).data.toList))) (KW:Bk b v W gw [.pointer (some ⟨b,0,none⟩)]) (KL:Bk b v W gl [.slice A n c]) :
 PrC D b o m l v W 171 #[.pointer (some ⟨gw,0,none⟩),.pointer (some ⟨gl,0,none⟩)] (Qk n (fun i=>(f i).data.toList)) (Ql n (fun _=>0)):=by
 have ps0:=PS.start h hD
 refine Qj (args:=[.pointer (some ⟨gw,0,none⟩),.pointer (some ⟨gl,0,none⟩)]) (c:=cN1) func171 rfl (by kernel_rfl) fun a0 hst=> ?_
 have F1:Sd W (.get 70 (.pointer (some ⟨gw,0,none⟩)) (Jy b)):=Qb.cellAt (d:=0) Qd KW.sb.at_ rfl KW.lt Qo
 have F2:Sd W (.get 27 (.pointer (some ⟨gl,0,none⟩)) (.slice A n c)):=Qb.cellAt (d:=0) Qd KL.sb.at_ rfl KL.lt Qo
 have kq1:=QZ.cons KW (QZ.cons KL QZ.nil)
 refine pW (dd:=(Ql n (fun _=>0))) (txt:=(Qk n (fun i=>(f i).data.toList))) (.op 0 4) 6 172 (Qc cN1 (.op 0 4)) (Qc cN1 (.op 0 5)) [(5,.v (.func (Fn.func 104) #[.pointer (qr3 b)] #[])),(3,.v (.slice A n c)),(2,.v (Jy b))] [] [] [.v (Jy b),.v (.slice A n c),.v (.func (Fn.func 104) #[.pointer (qr3 b)] #[])] hst (kE3 F1 F2 F1) ps0 kq1 func172 (fun G2 w2 ps2 kb2=>(list_Tx_pr ps2.bl ps2.wr hv 104 ⟨_,_,func104,rfl,by kernel_rfl⟩ [.pointer (qr3 b)] [] (fun i=>(f i).data.toList) (fun _=>0) (HZ.of QJ0p HZ.m QQnX) (fun i hi x hp m' l' v' W' hb' hw' hs' hz'=>by obtain ⟨hx,_⟩:=hp;cases hx;exact QJ hw' _ _ rfl hz'))) (top_le HZ.ho QrjB HZ.m.1 HZ.m.2) fun G2 mm2 ll2 v2 b2 u2 em2 el2 bn2 hsu2 pt2 kb2=> ?_
 exact QrKd
noncomputable abbrev cN0:Code:=Qt f105
theorem names_pr {D:World} {n:Nat} {A:Option Addr} {c:Nat} {f:Nat→ByteArray} (hv:ZD D n f (.slice A n c)) :
 PrF D 105 (fun b=> #[.pointer (some ⟨b,0,none⟩),.slice A n c]) (QA n f) 1:=by
 intro b o m l v W hD h HZ
 rw [show (1:Nat)=(Ql n (fun _=>0))+1 by rw [maxN_zero]] at HZ ⊢
 have ps0:=PS.start h hD
 refine Qj (args:=[.pointer (qr3 b),.slice A n c]) (c:=cN0) func105 rfl (by kernel_rfl) fun a0 hst=> ?_
 have kq1:=(QZ.nil:QZ b v W [])
 refine pW (dd:=((Ql n (fun _=>0))+1)) (txt:=([40]++((Qk n (fun i=>(f i).data.toList))++[41]))) (.op 1 2) 6 108 (Qc cN0 (.op 1 2)) (Qc cN0 (.op 1 3)) [(5,.fn (Fn.func 171) [.p 0 0,.p 1 0]),(4,.v (Jy b))] [bx [.pointer (qr3 b)],bx [.slice A n c]] [] [.v (Jy b),.fn (Fn.func 171) [.p 0 0,.p 1 0]] hst Zk ps0 kq1 func108 (fun G2 w2 ps2 kb2=>(ZK ps2.wr 171 (Kn func171 Qd rfl) _ _ (Qk n (fun i=>(f i).data.toList)) (Ql n (fun _=>0)) (HZ.of (by first | omega | (simp only [QA,bS];omega)) HZ.m (by first | (simp only [QA,bS,lS];omega) | omega)) fun v' W' hw' hs' hz'=>names1_pr ((ps2.call hw' hs').bl) hw' hv hz' ((kb2.at 0 rfl).call hs') ((kb2.at 1 rfl).call hs'))) (top_le HZ.ho (by have hq:=HZ.hod;first | omega | (simp only [QA,bS] at hq;omega)) HZ.m.1 HZ.m.2) fun G2 mm2 ll2 v2 b2 u2 em2 el2 bn2 hsu2 pt2 kb2=> ?_
 exact QrKd
noncomputable abbrev cQ1:Code:=Qt f169
theorem typeL_1:typeL 1=[66,79,79,76]:=rfl
theorem typeL_2:typeL 2=[73,78,84]:=rfl
theorem typeL_3:typeL 3=[84,69,88,84]:=rfl
abbrev qr2:Value:=(.agg #[.string ⟨#[]⟩,.string ⟨#[66,79,79,76]⟩,.string ⟨#[73,78,84]⟩,.string ⟨#[84,69,88,84]⟩])
abbrev qr4:Value:=(.string ⟨#[32,78,79,84,32,78,85,76,76]⟩)
theorem column_pr {D:World} {b:Nat} {o m:Int} {l:List UInt8} {v:Value} {W:World} (hD:Below D.heap.size D W) (h:Wr D.heap.size b o m l v W) {gw:Nat} (x:Co) (cs:List Value) (hx:CoIn x cs) (ht:1≤x.ty∧x.ty≤3) (HZ:Pz o m 0 l (Jl x)) (KW:Bk b v W gw [.pointer (some ⟨b,0,none⟩)]) :
 PrC D b o m l v W 169 #[.agg cs.toArray,.pointer (some ⟨gw,0,none⟩)] (Jl x) 0:=by
 let x1x:Fr:=[(2,.p 0 0),(1,.v (.pointer (some ⟨gw,0,none⟩)))]
 obtain ⟨nm,ty,nn⟩:=x
 obtain ⟨rfl,sz,_⟩:=hx
 simp only at sz ht
 have hq:ty=1∨ty=2∨ty=3:=by omega
 rcases hq with rfl | rfl | rfl
 · have ps0:=PS.start h hD
   refine Qj (args:=[.agg #[.string nm,.int .i64 1,.bool nn],.pointer (some ⟨gw,0,none⟩)]) (c:=cQ1) func169 rfl (by kernel_rfl) fun a0 hst=> ?_
   have F1:Sd W (.get 70 (.pointer (some ⟨gw,0,none⟩)) (Jy b)):=Qb.cellAt (d:=0) Qd KW.sb.at_ rfl KW.lt Qo
   have F2:=sd W (Qb.addStr (t:=9) (a:=nm) (b:=⟨#[32]⟩) QHH6)
   have F3:Sd W (.ask (Instr.index 154 qr2 (.int .i64 1)) (.string ⟨#[66,79,79,76]⟩)):=fun w _=>by kernel_rfl
   have F4:=sd W (Qb.addStr (t:=9) (a:=(nm++⟨#[32]⟩)) (b:=⟨#[66,79,79,76]⟩) QHH6)
   have kq1:=QZ.cons KW QZ.nil
   refine pW0 (txt:=((nm.data.toList++[32])++[66,79,79,76])) (.op 1 9) 12 104 (Qc cQ1 (.op 1 9)) (Qc cQ1 (.op 1 10)) [(11,.v (.string ((nm++⟨#[32]⟩)++⟨#[66,79,79,76]⟩))),(3,.v (Jy b)),(2,.p 0 0),(1,.v (.pointer (some ⟨gw,0,none⟩)))] [bx [.string nm,.int .i64 1,.bool nn]] x1x [.v (Jy b),.v (.string ((nm++⟨#[32]⟩)++⟨#[66,79,79,76]⟩))] hst (Jf F1 F2 F3 F4) ps0 kq1 func104 (fun G2 w2 ps2 kb2=>(QJ ps2.wr _ ((nm.data.toList++[32])++[66,79,79,76]) (Zc (Zc rfl rfl) rfl) (HZ.of ZO HZ.m (by first | (simp only [Jl,typeL_1,bS,lS];omega) | omega)))) fun G2 ll2 v2 b2 u2 el2 hsu2 pt2 kb2=> ?_
   have F5:=kb2.ld 0 2 (t:=4) rfl rfl Qd
   cases nn
   · exact gE hsu2 (Zg F5) [] fun w' hw=>⟨rfl,(PS.cast (pt2.seg hw) QywK QQW1).fin⟩
   have F6:=kb2.ld 1 0 (t:=70) rfl rfl Qd
   refine pW0 (txt:=[32,78,79,84,32,78,85,76,76]) (.op 3 1) 16 104 (Qc cQ1 (.op 3 1)) (Qc cQ1 (.op 3 2)) [(15,.v (Jy b))] [] [] [.v (Jy b),.v qr4] hsu2 (Km F5 F6) pt2 kb2 func104 (fun G3 w3 ps3 kb3=>(QJ ps3.wr _ [32,78,79,84,32,78,85,76,76] rfl (HZ.of ZO HZ.m (by subst_vars;first | (simp only [Jl,typeL_1,bS,lS];omega) | omega)))) fun G3 ll3 v3 b3 u3 el3 hsu3 pt3 kb3=> ?_
   exact gE hsu3 Zk [] fun w' hw=>⟨rfl,(PS.cast (pt3.seg hw) QywK QQW1).fin⟩
 · have ps0:=PS.start h hD
   refine Qj (args:=[.agg #[.string nm,.int .i64 2,.bool nn],.pointer (some ⟨gw,0,none⟩)]) (c:=cQ1) func169 rfl (by kernel_rfl) fun a0 hst=> ?_
   have F1:Sd W (.get 70 (.pointer (some ⟨gw,0,none⟩)) (Jy b)):=Qb.cellAt (d:=0) Qd KW.sb.at_ rfl KW.lt Qo
   have F2:=sd W (Qb.addStr (t:=9) (a:=nm) (b:=⟨#[32]⟩) QFvT)
   have F3:Sd W (.ask (Instr.index 154 qr2 (.int .i64 2)) (.string ⟨#[73,78,84]⟩)):=fun w _=>by kernel_rfl
   have F4:=sd W (Qb.addStr (t:=9) (a:=(nm++⟨#[32]⟩)) (b:=⟨#[73,78,84]⟩) QFvT)
   have kq1:=QZ.cons KW QZ.nil
   refine pW0 (txt:=((nm.data.toList++[32])++[73,78,84])) (.op 1 9) 12 104 (Qc cQ1 (.op 1 9)) (Qc cQ1 (.op 1 10)) [(11,.v (.string ((nm++⟨#[32]⟩)++⟨#[73,78,84]⟩))),(3,.v (Jy b)),(2,.p 0 0),(1,.v (.pointer (some ⟨gw,0,none⟩)))] [bx [.string nm,.int .i64 2,.bool nn]] x1x [.v (Jy b),.v (.string ((nm++⟨#[32]⟩)++⟨#[73,78,84]⟩))] hst (Jf F1 F2 F3 F4) ps0 kq1 func104 (fun G2 w2 ps2 kb2=>(QJ ps2.wr _ ((nm.data.toList++[32])++[73,78,84]) (Zc (Zc rfl rfl) rfl) (HZ.of ZO HZ.m (by first | (simp only [Jl,typeL_2,bS,lS];omega) | omega)))) fun G2 ll2 v2 b2 u2 el2 hsu2 pt2 kb2=> ?_
   have F5:=kb2.ld 0 2 (t:=4) rfl rfl Qd
   cases nn
   · exact gE hsu2 (Zg F5) [] fun w' hw=>⟨rfl,(PS.cast (pt2.seg hw) QywK QMLs).fin⟩
   have F6:=kb2.ld 1 0 (t:=70) rfl rfl Qd
   refine pW0 (txt:=[32,78,79,84,32,78,85,76,76]) (.op 3 1) 16 104 (Qc cQ1 (.op 3 1)) (Qc cQ1 (.op 3 2)) [(15,.v (Jy b))] [] [] [.v (Jy b),.v qr4] hsu2 (Km F5 F6) pt2 kb2 func104 (fun G3 w3 ps3 kb3=>(QJ ps3.wr _ [32,78,79,84,32,78,85,76,76] rfl (HZ.of ZO HZ.m (by subst_vars;first | (simp only [Jl,typeL_2,bS,lS];omega) | omega)))) fun G3 ll3 v3 b3 u3 el3 hsu3 pt3 kb3=> ?_
   exact gE hsu3 Zk [] fun w' hw=>⟨rfl,(PS.cast (pt3.seg hw) QywK QMLs).fin⟩
 have ps0:=PS.start h hD
 refine Qj (args:=[.agg #[.string nm,.int .i64 3,.bool nn],.pointer (some ⟨gw,0,none⟩)]) (c:=cQ1) func169 rfl (by kernel_rfl) fun a0 hst=> ?_
 have F1:Sd W (.get 70 (.pointer (some ⟨gw,0,none⟩)) (Jy b)):=Qb.cellAt (d:=0) Qd KW.sb.at_ rfl KW.lt Qo
 have F2:=sd W (Qb.addStr (t:=9) (a:=nm) (b:=⟨#[32]⟩) QqJN)
 have F3:Sd W (.ask (Instr.index 154 qr2 (.int .i64 3)) (.string ⟨#[84,69,88,84]⟩)):=fun w _=>by kernel_rfl
 have F4:=sd W (Qb.addStr (t:=9) (a:=(nm++⟨#[32]⟩)) (b:=⟨#[84,69,88,84]⟩) QqJN)
 have kq1:=QZ.cons KW QZ.nil
 refine pW0 (txt:=((nm.data.toList++[32])++[84,69,88,84])) (.op 1 9) 12 104 (Qc cQ1 (.op 1 9)) (Qc cQ1 (.op 1 10)) [(11,.v (.string ((nm++⟨#[32]⟩)++⟨#[84,69,88,84]⟩))),(3,.v (Jy b)),(2,.p 0 0),(1,.v (.pointer (some ⟨gw,0,none⟩)))] [bx [.string nm,.int .i64 3,.bool nn]] x1x [.v (Jy b),.v (.string ((nm++⟨#[32]⟩)++⟨#[84,69,88,84]⟩))] hst (Jf F1 F2 F3 F4) ps0 kq1 func104 (fun G2 w2 ps2 kb2=>(QJ ps2.wr _ ((nm.data.toList++[32])++[84,69,88,84]) (Zc (Zc rfl rfl) rfl) (HZ.of ZO HZ.m (by first | (simp only [Jl,typeL_3,bS,lS];omega) | omega)))) fun G2 ll2 v2 b2 u2 el2 hsu2 pt2 kb2=> ?_
 have F5:=kb2.ld 0 2 (t:=4) rfl rfl Qd
 cases nn
 · exact gE hsu2 (Zg F5) [] fun w' hw=>⟨rfl,(PS.cast (pt2.seg hw) QywK Qqdh).fin⟩
 have F6:=kb2.ld 1 0 (t:=70) rfl rfl Qd
 refine pW0 (txt:=[32,78,79,84,32,78,85,76,76]) (.op 3 1) 16 104 (Qc cQ1 (.op 3 1)) (Qc cQ1 (.op 3 2)) [(15,.v (Jy b))] [] [] [.v (Jy b),.v qr4] hsu2 (Km F5 F6) pt2 kb2 func104 (fun G3 w3 ps3 kb3=>(QJ ps3.wr _ [32,78,79,84,32,78,85,76,76] rfl (HZ.of ZO HZ.m (by subst_vars;first | (simp only [Jl,typeL_3,bS,lS];omega) | omega)))) fun G3 ll3 v3 b3 u3 el3 hsu3 pt3 kb3=> ?_
 exact gE hsu3 Zk [] fun w' hw=>⟨rfl,(PS.cast (pt3.seg hw) QywK Qqdh).fin⟩
noncomputable abbrev cS0:Code:=Qt f176
theorem source_pr {D:World} (hP:PrW D) (x:So) (cs:List Value) (hx:SoIn D x cs) (hm:Zx x.e=true) :
 PrF D 176 (fun b=> #[.pointer (some ⟨b,0,none⟩),.agg cs.toArray]) (ZW x) (QQ x.e):=by
 intro b o m l v W hD h HZ
 obtain ⟨nm,al,left,e⟩:=x
 obtain ⟨sz,sa,ds,rfl,ie⟩:=hx
 obtain ⟨pk,po,pvk,pvn,pvt,ptb,pnm,pA,pn,pc,ppl,pty,rfl⟩:=ie.form
 simp only at sz sa
 simp only at hm
 have ps0:=PS.start h hD
 refine Qj (args:=[.pointer (qr3 b),.agg #[.string nm,.string al,.bool left,.int .i64 pk,.int .i64 po,.int .i64 pvk,.int .i64 pvn,.string pvt,.string ptb,.string pnm,.slice pA pn pc,.int .i64 ppl,.int .i64 pty]]) (c:=cS0) func176 rfl (by kernel_rfl) fun a0 hst=> ?_
 have kq1:=(QZ.nil:QZ b v W [])
 refine pW0 (txt:=nm.data.toList) (.op 1 3) 7 104 (Qc cS0 (.op 1 3)) (Qc cS0 (.op 1 4)) [(6,.v (.string nm)),(4,.v (Jy b)),(3,.p 0 0),(0,.v (Jy b))] [bx [.string nm,.string al,.bool left,.int .i64 pk,.int .i64 po,.int .i64 pvk,.int .i64 pvn,.string pvt,.string ptb,.string pnm,.slice pA pn pc,.int .i64 ppl,.int .i64 pty]] [(3,.p 0 0),(0,.v (Jy b))] [.v (Jy b),.v (.string nm)] hst Zk ps0 kq1 func104 (fun G2 w2 ps2 kb2=>(QJ ps2.wr _ nm.data.toList rfl (HZ.of ZO HZ.m (by first | (simp only [ZW,Jv,bS,lS];omega) | omega)))) fun G2 ll2 v2 b2 u2 el2 hsu2 pt2 kb2=> ?_
 have F1:=kb2.ld 0 1 (t:=9) rfl rfl Qd
 obtain ⟨z2,hz2⟩: ∃ z,(QB al ⟨#[]⟩)=z:=⟨_,rfl⟩
 have F3:=sd u2 (Qb.strNe (t:=9) (a:=al) (b:=⟨#[]⟩) (z:=(!z2)) (by rw [← QB,hz2];try rfl))
 cases z2
 · have F4:=sd u2 (Qb.addStr (t:=9) (a:=⟨#[32]⟩) (b:=al) (by have hq:=HZ.hl;simp only [ZW,Jv,hz2,bS,lS] at hq;simp only [QK,Zy,Qi,List.length_append];first | omega | (simp only [lS] at *;omega)))
   refine pW0 (txt:=([32]++al.data.toList)) (.op 3 4) 15 104 (Qc cS0 (.op 3 4)) (Qc cS0 (.op 3 5)) [(14,.v (.string (⟨#[32]⟩++al))),(11,.v (Jy b)),(3,.v (.pointer (some ⟨(G2.g 0),0,none⟩))),(0,.v (Jy b))] [] [(3,.v (.pointer (some ⟨(G2.g 0),0,none⟩))),(0,.v (Jy b))] [.v (Jy b),.v (.string (⟨#[32]⟩++al))] hsu2 (Jf F1 F3 F1 F4) pt2 kb2 func104 (fun G3 w3 ps3 kb3=>(QJ ps3.wr _ ([32]++al.data.toList) (Zc rfl rfl) (HZ.of ZO HZ.m Qgq1))) fun G3 ll3 v3 b3 u3 el3 hsu3 pt3 kb3=> ?_
   have F5:Sd u3 (.get 34 (.pointer (some ⟨(G2.g 0),3,none⟩)) (eV pk po pvk pvn pvt ptb pnm pA pn pc ppl pty)):=Qb.part (d:=3) Qd Qd (kb3.at 0 rfl).sb.at_ rfl (kb3.at 0 rfl).lt Qo
   refine pW (dd:=(QQ e)) (txt:=(Qm [32,79,78,32] e)) (.op 4 3) 19 113 (Qc cS0 (.op 4 3)) (Qc cS0 (.op 4 4)) [(18,.v (eV pk po pvk pvn pvt ptb pnm pA pn pc ppl pty)),(16,.v (Jy b))] [] [] [.v (Jy b),.v (.string ⟨#[32,79,78,32]⟩),.v (eV pk po pvk pvn pvt ptb pnm pA pn pc ppl pty)] hsu3 (Zg F5) pt3 kb3 func113 (fun G4 w4 ps4 kb4=>(clause_pr hP _ [32,79,78,32] rfl ie hm _ _ _ _ _ _ ps4.bl ps4.wr (HZ.of QjVY HZ.m Qgq1))) (top_le HZ.ho QivK HZ.m.1 HZ.m.2) fun G4 mm4 ll4 v4 b4 u4 em4 el4 bn4 hsu4 pt4 kb4=> ?_
   exact gE hsu4 Zk [] fun w' hw=>⟨rfl,(PS.cast (pt4.seg hw) QywK QXdE).fin⟩
 have F6:Sd u2 (.get 34 (.pointer (some ⟨(G2.g 0),3,none⟩)) (eV pk po pvk pvn pvt ptb pnm pA pn pc ppl pty)):=Qb.part (d:=3) Qd Qd (kb2.at 0 rfl).sb.at_ rfl (kb2.at 0 rfl).lt Qo
 have kq5:=QZ.cons (kb2.at 0 rfl) QZ.nil
 refine pW (dd:=(QQ e)) (txt:=(Qm [32,79,78,32] e)) (.op 4 3) 19 113 (Qc cS0 (.op 4 3)) (Qc cS0 (.op 4 4)) [(18,.v (eV pk po pvk pvn pvt ptb pnm pA pn pc ppl pty)),(16,.v (Jy b))] [] [] [.v (Jy b),.v (.string ⟨#[32,79,78,32]⟩),.v (eV pk po pvk pvn pvt ptb pnm pA pn pc ppl pty)] hsu2 (kE3 F1 F3 F6) pt2 kq5 func113 (fun G6 w6 ps6 kb6=>(clause_pr hP _ [32,79,78,32] rfl ie hm _ _ _ _ _ _ ps6.bl ps6.wr (HZ.of QjVY HZ.m Qgq1))) (top_le HZ.ho QivK HZ.m.1 HZ.m.2) fun G6 mm6 ll6 v6 b6 u6 em6 el6 bn6 hsu6 pt6 kb6=> ?_
 exact gE hsu6 Zk [] fun w' hw=>⟨rfl,(PS.cast (pt6.seg hw) QywK QXdE).fin⟩
noncomputable abbrev cQ2:Code:=Qt f175
theorem item_pr {D:World} {b:Nat} {o m:Int} {l:List UInt8} {v:Value} {W:World} (hD:Below D.heap.size D W) (h:Wr D.heap.size b o m l v W) (hP:PrW D) {gw:Nat} (x:It) (cs:List Value) (hx:ItIn D x cs) (hm:x.star=false→QH x.e=true) (HZ:Pz o m (itemD x) l (ZL x)) (KW:Bk b v W gw [.pointer (some ⟨b,0,none⟩)]) :
 PrC D b o m l v W 175 #[.agg cs.toArray,.pointer (some ⟨gw,0,none⟩)] (ZL x) (itemD x):=by
 obtain ⟨star,e,nm⟩:=x
 obtain ⟨sz,ds,rfl,ie⟩:=hx
 obtain ⟨pk,po,pvk,pvn,pvt,ptb,pnm,pA,pn,pc,ppl,pty,rfl⟩:=ie.form
 simp only at sz
 simp only at hm
 have ps0:=PS.start h hD
 refine Qj (args:=[.agg #[.bool star,.int .i64 pk,.int .i64 po,.int .i64 pvk,.int .i64 pvn,.string pvt,.string ptb,.string pnm,.slice pA pn pc,.int .i64 ppl,.int .i64 pty,.string nm],.pointer (some ⟨gw,0,none⟩)]) (c:=cQ2) func175 rfl (by kernel_rfl) fun a0 hst=> ?_
 cases star
 · have F1:Sd W (.get 70 (.pointer (some ⟨gw,0,none⟩)) (Jy b)):=Qb.cellAt (d:=0) Qd KW.sb.at_ rfl KW.lt Qo
   have kq1:=QZ.cons KW QZ.nil
   refine pW (dd:=(QQ e)) (txt:=(Qg e)) (.op 3 3) 10 35 (Qc cQ2 (.op 3 3)) (Qc cQ2 (.op 3 4)) [(9,.v (eV pk po pvk pvn pvt ptb pnm pA pn pc ppl pty)),(7,.v (Jy b)),(2,.p 0 0),(1,.v (.pointer (some ⟨gw,0,none⟩)))] [bx [.bool false,.int .i64 pk,.int .i64 po,.int .i64 pvk,.int .i64 pvn,.string pvt,.string ptb,.string pnm,.slice pA pn pc,.int .i64 ppl,.int .i64 pty,.string nm]] [(2,.p 0 0),(1,.v (.pointer (some ⟨gw,0,none⟩)))] [.v (Jy b),.v (eV pk po pvk pvn pvt ptb pnm pA pn pc ppl pty)] hst (Zg F1) ps0 kq1 func35 (fun G2 w2 ps2 kb2=>(expr_pr hP e _ (hm rfl) ie _ _ _ _ _ _ ps2.bl ps2.wr (HZ.of (by first | omega | (simp only [ZL,itemD,bS];omega)) HZ.m QgFG))) (top_le HZ.ho (by have hq:=HZ.hod;first | omega | (simp only [ZL,itemD,bS] at hq;omega)) HZ.m.1 HZ.m.2) fun G2 mm2 ll2 v2 b2 u2 em2 el2 bn2 hsu2 pt2 kb2=> ?_
   have F2:=kb2.ld 0 11 (t:=9) rfl rfl Qd
   obtain ⟨z3,hz3⟩: ∃ z,(QB nm ⟨#[]⟩)=z:=⟨_,rfl⟩
   have F4:=sd u2 (Qb.strNe (t:=9) (a:=nm) (b:=⟨#[]⟩) (z:=(!z3)) (by rw [← QB,hz3];try rfl))
   cases z3
   · have F5:=kb2.ld 1 0 (t:=70) rfl rfl Qd
     have F6:=sd u2 (Qb.addStr (t:=9) (a:=⟨#[32,65,83,32]⟩) (b:=nm) (by have hq:=HZ.hl;simp only [ZL,itemD,hz3,bS,lS] at hq;simp only [QK,Zy,Qi,List.length_append];first | omega | (simp only [lS] at *;omega)))
     refine pW0 (txt:=([32,65,83,32]++nm.data.toList)) (.op 5 4) 18 104 (Qc cQ2 (.op 5 4)) (Qc cQ2 (.op 5 5)) [(17,.v (.string (⟨#[32,65,83,32]⟩++nm))),(14,.v (Jy b))] [] [] [.v (Jy b),.v (.string (⟨#[32,65,83,32]⟩++nm))] hsu2 (kE5 F2 F4 F5 F2 F6) pt2 kb2 func104 (fun G3 w3 ps3 kb3=>(QJ ps3.wr _ ([32,65,83,32]++nm.data.toList) (Zc rfl rfl) (HZ.of ZO bn2 (by subst_vars;first | (simp only [ZL,itemD,hz3,bS,lS];omega) | omega)))) fun G3 ll3 v3 b3 u3 el3 hsu3 pt3 kb3=> ?_
     exact gE hsu3 Zk [] fun w' hw=>⟨rfl,(PS.cast (pt3.seg hw) QsgC Qjzk).fin⟩
   exact gE hsu2 (Km F2 F4) [] fun w' hw=>⟨rfl,(PS.cast (pt2.seg hw) QsgC Qjzk).fin⟩
 have F7:Sd W (.get 70 (.pointer (some ⟨gw,0,none⟩)) (Jy b)):=Qb.cellAt (d:=0) Qd KW.sb.at_ rfl KW.lt Qo
 have kq4:=QZ.cons KW QZ.nil
 refine pW0 (txt:=[42]) (.op 2 1) 6 104 (Qc cQ2 (.op 2 1)) (Qc cQ2 (.op 2 2)) [(5,.v (Jy b))] [bx [.bool true,.int .i64 pk,.int .i64 po,.int .i64 pvk,.int .i64 pvn,.string pvt,.string ptb,.string pnm,.slice pA pn pc,.int .i64 ppl,.int .i64 pty,.string nm]] [] [.v (Jy b),.v (.string ⟨#[42]⟩)] hst (Zg F7) ps0 kq4 func104 (fun G5 w5 ps5 kb5=>(QJ ps5.wr _ [42] rfl (HZ.of ZO HZ.m QgFG))) fun G5 ll5 v5 b5 u5 el5 hsu5 pt5 kb5=> ?_
 exact gE hsu5 Zk [] fun w' hw=>⟨rfl,(PS.cast (pt5.seg hw) (by subst_vars;first | rfl | (simp only [ZL,itemD,bS,Qr,Qq];done) | (simp only [ZL,itemD,bS,Qr,Qq] <;> rfl)) (by subst_vars;simp only [ZL,itemD,bS,aS])).fin⟩
noncomputable abbrev cQ3:Code:=Qt f178
theorem order_pr {D:World} {b:Nat} {o m:Int} {l:List UInt8} {v:Value} {W:World} (hD:Below D.heap.size D W) (h:Wr D.heap.size b o m l v W) (hP:PrW D) {gw:Nat} (x:Od) (cs:List Value) (hx:OdIn D x cs) (hm:QH x.e=true) (HZ:Pz o m (QQ x.e) l (Zi x)) (KW:Bk b v W gw [.pointer (some ⟨b,0,none⟩)]) :
 PrC D b o m l v W 178 #[.agg cs.toArray,.pointer (some ⟨gw,0,none⟩)] (Zi x) (QQ x.e):=by
 obtain ⟨e,desc⟩:=x
 obtain ⟨ds,rfl,ie⟩:=hx
 obtain ⟨pk,po,pvk,pvn,pvt,ptb,pnm,pA,pn,pc,ppl,pty,rfl⟩:=ie.form
 simp only at hm
 have ps0:=PS.start h hD
 refine Qj (args:=[.agg #[.int .i64 pk,.int .i64 po,.int .i64 pvk,.int .i64 pvn,.string pvt,.string ptb,.string pnm,.slice pA pn pc,.int .i64 ppl,.int .i64 pty,.bool desc],.pointer (some ⟨gw,0,none⟩)]) (c:=cQ3) func178 rfl (by kernel_rfl) fun a0 hst=> ?_
 have F1:Sd W (.get 70 (.pointer (some ⟨gw,0,none⟩)) (Jy b)):=Qb.cellAt (d:=0) Qd KW.sb.at_ rfl KW.lt Qo
 have kq1:=QZ.cons KW QZ.nil
 refine pW (dd:=(QQ e)) (txt:=(Qg e)) (.op 1 3) 6 35 (Qc cQ3 (.op 1 3)) (Qc cQ3 (.op 1 4)) [(5,.v (eV pk po pvk pvn pvt ptb pnm pA pn pc ppl pty)),(3,.v (Jy b)),(2,.p 0 0),(1,.v (.pointer (some ⟨gw,0,none⟩)))] [bx [.int .i64 pk,.int .i64 po,.int .i64 pvk,.int .i64 pvn,.string pvt,.string ptb,.string pnm,.slice pA pn pc,.int .i64 ppl,.int .i64 pty,.bool desc]] [(2,.p 0 0),(1,.v (.pointer (some ⟨gw,0,none⟩)))] [.v (Jy b),.v (eV pk po pvk pvn pvt ptb pnm pA pn pc ppl pty)] hst (Zg F1) ps0 kq1 func35 (fun G2 w2 ps2 kb2=>(expr_pr hP e _ hm ie _ _ _ _ _ _ ps2.bl ps2.wr (HZ.of (by first | omega | (simp only [Zi,bS];omega)) HZ.m (by first | (simp only [Zi,bS,lS];omega) | omega)))) (top_le HZ.ho (by have hq:=HZ.hod;first | omega | (simp only [Zi,bS] at hq;omega)) HZ.m.1 HZ.m.2) fun G2 mm2 ll2 v2 b2 u2 em2 el2 bn2 hsu2 pt2 kb2=> ?_
 have F2:=kb2.ld 0 10 (t:=4) rfl rfl Qd
 cases desc
 · exact gE hsu2 (Zg F2) [] fun w' hw=>⟨rfl,(PS.cast (pt2.seg hw) Qg9t (by subst_vars;simp only [Zi,bS,aS])).fin⟩
 have F3:=kb2.ld 1 0 (t:=70) rfl rfl Qd
 refine pW0 (txt:=[32,68,69,83,67]) (.op 3 1) 10 104 (Qc cQ3 (.op 3 1)) (Qc cQ3 (.op 3 2)) [(9,.v (Jy b))] [] [] [.v (Jy b),.v (.string ⟨#[32,68,69,83,67]⟩)] hsu2 (Km F2 F3) pt2 kb2 func104 (fun G3 w3 ps3 kb3=>(QJ ps3.wr _ [32,68,69,83,67] rfl (HZ.of ZO bn2 (by subst_vars;first | (simp only [Zi,bS,lS];omega) | omega)))) fun G3 ll3 v3 b3 u3 el3 hsu3 pt3 kb3=> ?_
 exact gE hsu3 Zk [] fun w' hw=>⟨rfl,(PS.cast (pt3.seg hw) Qg9t (by subst_vars;simp only [Zi,bS,aS])).fin⟩
noncomputable abbrev cQ4:Code:=Qt f112
theorem set_pr {D:World} {b:Nat} {o m:Int} {l:List UInt8} {v:Value} {W:World} (hD:Below D.heap.size D W) (h:Wr D.heap.size b o m l v W) (hP:PrW D) {gw:Nat} (x:Go.Proofs.YtddedijencleeaaGreatDoor.St) (cs:List Value) (hx:StIn D x cs) (hm:QH x.e=true) (HZ:Pz o m (QQ x.e) l (setL x)) (KW:Bk b v W gw [.pointer (some ⟨b,0,none⟩)]) :
 PrC D b o m l v W 112 #[.agg cs.toArray,.pointer (some ⟨gw,0,none⟩)] (setL x) (QQ x.e):=by
 obtain ⟨nm,e⟩:=x
 obtain ⟨sz,ds,rfl,ie⟩:=hx
 obtain ⟨pk,po,pvk,pvn,pvt,ptb,pnm,pA,pn,pc,ppl,pty,rfl⟩:=ie.form
 simp only at sz
 simp only at hm
 have ps0:=PS.start h hD
 refine Qj (args:=[.agg #[.string nm,.int .i64 pk,.int .i64 po,.int .i64 pvk,.int .i64 pvn,.string pvt,.string ptb,.string pnm,.slice pA pn pc,.int .i64 ppl,.int .i64 pty],.pointer (some ⟨gw,0,none⟩)]) (c:=cQ4) func112 rfl (by kernel_rfl) fun a0 hst=> ?_
 have F1:Sd W (.get 70 (.pointer (some ⟨gw,0,none⟩)) (Jy b)):=Qb.cellAt (d:=0) Qd KW.sb.at_ rfl KW.lt Qo
 have F2:=sd W (Qb.addStr (t:=9) (a:=nm) (b:=⟨#[32,61,32]⟩) (by have hq:=HZ.hl;simp only [setL,bS,lS] at hq;simp only [QK,Zy,Qi,List.length_append];first | omega | (simp only [lS] at *;omega)))
 have kq1:=QZ.cons KW QZ.nil
 refine pW0 (txt:=(nm.data.toList++[32,61,32])) (.op 1 4) 7 104 (Qc cQ4 (.op 1 4)) (Qc cQ4 (.op 1 5)) [(6,.v (.string (nm++⟨#[32,61,32]⟩))),(3,.v (Jy b)),(2,.p 0 0),(1,.v (.pointer (some ⟨gw,0,none⟩)))] [bx [.string nm,.int .i64 pk,.int .i64 po,.int .i64 pvk,.int .i64 pvn,.string pvt,.string ptb,.string pnm,.slice pA pn pc,.int .i64 ppl,.int .i64 pty]] [(2,.p 0 0),(1,.v (.pointer (some ⟨gw,0,none⟩)))] [.v (Jy b),.v (.string (nm++⟨#[32,61,32]⟩))] hst (Km F1 F2) ps0 kq1 func104 (fun G2 w2 ps2 kb2=>(QJ ps2.wr _ (nm.data.toList++[32,61,32]) (Zc rfl rfl) (HZ.of ZO HZ.m (by first | (simp only [setL,bS,lS];omega) | omega)))) fun G2 ll2 v2 b2 u2 el2 hsu2 pt2 kb2=> ?_
 have F3:=kb2.ld 1 0 (t:=70) rfl rfl Qd
 have F4:Sd u2 (.get 34 (.pointer (some ⟨(G2.g 0),1,none⟩)) (eV pk po pvk pvn pvt ptb pnm pA pn pc ppl pty)):=Qb.part (d:=1) Qd Qd (kb2.at 0 rfl).sb.at_ rfl (kb2.at 0 rfl).lt Qo
 refine pW (dd:=(QQ e)) (txt:=(Qg e)) (.op 2 3) 11 35 (Qc cQ4 (.op 2 3)) (Qc cQ4 (.op 2 4)) [(10,.v (eV pk po pvk pvn pvt ptb pnm pA pn pc ppl pty)),(8,.v (Jy b))] [] [] [.v (Jy b),.v (eV pk po pvk pvn pvt ptb pnm pA pn pc ppl pty)] hsu2 (Km F3 F4) pt2 kb2 func35 (fun G3 w3 ps3 kb3=>(expr_pr hP e _ hm ie _ _ _ _ _ _ ps3.bl ps3.wr (HZ.of (by first | omega | (simp only [setL,bS];omega)) HZ.m (by subst_vars;first | (simp only [setL,bS,lS];omega) | omega)))) (top_le HZ.ho (by subst_vars;have hq:=HZ.hod;first | omega | (simp only [setL,bS] at hq;omega)) HZ.m.1 HZ.m.2) fun G3 mm3 ll3 v3 b3 u3 em3 el3 bn3 hsu3 pt3 kb3=> ?_
 exact gE hsu3 Zk [] fun w' hw=>⟨rfl,(PS.cast (pt3.seg hw) (by subst_vars;first | rfl | (simp only [setL,bS,Qr,Qq];done) | (simp only [setL,bS,Qr,Qq] <;> rfl)) (by subst_vars;simp only [setL,bS,aS])).fin⟩
noncomputable abbrev cR1:Code:=Qt f109
theorem row1_pr {D:World} {b:Nat} {o m:Int} {l:List UInt8} {v:Value} {W:World} (hD:Below D.heap.size D W) (h:Wr D.heap.size b o m l v W) (hP:PrW D) {gw gl n:Nat} {A:Option Addr} {c:Nat} {f:Nat→E} (hv:Z6 D n f (.slice A n c)) (hm: ∀ i,i<n→QH (f i)=true) (HZ:Pz o m (Ql n (fun i=>QQ (f i))) l (Qk n (fun i=>Qg (f i)))) (KW:Bk b v W gw [.pointer (some ⟨b,0,none⟩)]) (KL:Bk b v W gl [.slice A n c]) :
 PrC D b o m l v W 109 #[.pointer (some ⟨gw,0,none⟩),.pointer (some ⟨gl,0,none⟩)] (Qk n (fun i=>Qg (f i))) (Ql n (fun i=>QQ (f i))):=by
 have ps0:=PS.start h hD
 refine Qj (args:=[.pointer (some ⟨gw,0,none⟩),.pointer (some ⟨gl,0,none⟩)]) (c:=cR1) func109 rfl (by kernel_rfl) fun a0 hst=> ?_
 have F1:Sd W (.get 70 (.pointer (some ⟨gw,0,none⟩)) (Jy b)):=Qb.cellAt (d:=0) Qd KW.sb.at_ rfl KW.lt Qo
 have F2:Sd W (.get 32 (.pointer (some ⟨gl,0,none⟩)) (.slice A n c)):=Qb.cellAt (d:=0) Qd KL.sb.at_ rfl KL.lt Qo
 have kq1:=QZ.cons KW (QZ.cons KL QZ.nil)
 refine pW (dd:=(Ql n (fun i=>QQ (f i)))) (txt:=(Qk n (fun i=>Qg (f i)))) (.op 0 4) 6 110 (Qc cR1 (.op 0 4)) (Qc cR1 (.op 0 5)) [(5,.v (.func (Fn.func 35) #[.pointer (qr3 b)] #[])),(3,.v (.slice A n c)),(2,.v (Jy b))] [] [] [.v (Jy b),.v (.slice A n c),.v (.func (Fn.func 35) #[.pointer (qr3 b)] #[])] hst (kE3 F1 F2 F1) ps0 kq1 func110 (fun G2 w2 ps2 kb2=>(JJ ps2.bl ps2.wr hv 35 ⟨_,_,func35,rfl,by kernel_rfl⟩ [.pointer (qr3 b)] [] (fun i=>Qg (f i)) (fun i=>QQ (f i)) (HZ.of QJ0p HZ.m QQnX) (fun i hi cs hp m' l' v' W' hb' hw' hs' hz'=>expr_pr hP _ cs (hm i hi) hp b o m' l' v' W' hb' hw' hz'))) (top_le HZ.ho QrjB HZ.m.1 HZ.m.2) fun G2 mm2 ll2 v2 b2 u2 em2 el2 bn2 hsu2 pt2 kb2=> ?_
 exact QrKd
noncomputable abbrev cR0:Code:=Qt f107
theorem row_pr {D:World} {b:Nat} {o m:Int} {l:List UInt8} {v:Value} {W:World} (hD:Below D.heap.size D W) (h:Wr D.heap.size b o m l v W) (hP:PrW D) {gw n:Nat} {A:Option Addr} {c:Nat} {f:Nat→E} (hv:Z6 D n f (.slice A n c)) (hm: ∀ i,i<n→QH (f i)=true) (HZ:Pz o m ((Ql n (fun i=>QQ (f i)))+1) l (rowL n f)) (KW:Bk b v W gw [.pointer (some ⟨b,0,none⟩)]) :
 PrC D b o m l v W 107 #[.slice A n c,.pointer (some ⟨gw,0,none⟩)] (rowL n f) ((Ql n (fun i=>QQ (f i)))+1):=by
 have ps0:=PS.start h hD
 refine Qj (args:=[.slice A n c,.pointer (some ⟨gw,0,none⟩)]) (c:=cR0) func107 rfl (by kernel_rfl) fun a0 hst=> ?_
 have F1:Sd W (.get 70 (.pointer (some ⟨gw,0,none⟩)) (Jy b)):=Qb.cellAt (d:=0) Qd KW.sb.at_ rfl KW.lt Qo
 have kq1:=QZ.cons KW QZ.nil
 refine pW (dd:=((Ql n (fun i=>QQ (f i)))+1)) (txt:=([40]++((Qk n (fun i=>Qg (f i)))++[41]))) (.op 1 2) 5 108 (Qc cR0 (.op 1 2)) (Qc cR0 (.op 1 3)) [(4,.fn (Fn.func 109) [.v (.pointer (some ⟨gw,0,none⟩)),.p 0 0]),(3,.v (Jy b))] [bx [.slice A n c]] [] [.v (Jy b),.fn (Fn.func 109) [.v (.pointer (some ⟨gw,0,none⟩)),.p 0 0]] hst (Zg F1) ps0 kq1 func108 (fun G2 w2 ps2 kb2=>(ZK ps2.wr 109 (Kn func109 Qd rfl) _ _ (Qk n (fun i=>Qg (f i))) (Ql n (fun i=>QQ (f i))) (HZ.of (by first | omega | (simp only [rowL,bS];omega)) HZ.m (by first | (simp only [rowL,bS,lS];omega) | omega)) fun v' W' hw' hs' hz'=>row1_pr ((ps2.call hw' hs').bl) hw' hP hv hm hz' ((kb2.at 1 rfl).call hs') ((kb2.at 0 rfl).call hs'))) (top_le HZ.ho (by have hq:=HZ.hod;first | omega | (simp only [rowL,bS] at hq;omega)) HZ.m.1 HZ.m.2) fun G2 mm2 ll2 v2 b2 u2 em2 el2 bn2 hsu2 pt2 kb2=> ?_
 exact QrKd
end
end Go.Proofs.YtddedijencleeaaGreatDoor
