/- The writer writes a definition. -/
import Derived.Test.YtddedijencleeaaGreatDoorSm
import Derived.Test.YtddedijencleeaaGreatDoorMSq
import Derived.Test.YtddedijencleeaaGreatDoorVg
set_option linter.all false
namespace Go.Proofs.YtddedijencleeaaGreatDoor
set_option maxRecDepth 100000
set_option maxHeartbeats 8000000
open Tryz
noncomputable section
open Go.RowKit Go.Lib RC
noncomputable def keyW (k:Ke) (l:Na):List UInt8:=(if k.pr=true then [44,32,80,82,73,77,65,82,89,32,75,69,89,32] else [44,32,85,78,73,81,85,69,32])++QA l.n l.f
theorem keyW_len (k:Ke) (l:Na):(keyW k l).length=(if k.pr=true then 14 else 9)+(QA l.n l.f).length:=by
 unfold keyW
 cases k.pr <;> simp <;> omega
noncomputable def QW (i:Nat) (x:So):List UInt8:=(if decide (0<((i:Nat):Int))=true then (if x.left=true then [32,76,69,70,84] else [])++[32,74,79,73,78,32] else [])++ZW x
noncomputable def ZY (s:S):List UInt8:=[67,82,69,65,84,69,32,84,65,66,76,69,32]++(s.tab.nm.data.toList++([32]++([40]++((Qk s.tab.nc (fun i=>Jl (s.tab.cols i))++ZF s.tab.nk (fun i=>keyW (s.tab.keys i) (s.kc i)))++[41]))))
def Jp (s:S):Nat:=max (Ql s.tab.nc (fun _=>0)) (Ql s.tab.nk (fun _=>1))+1
noncomputable def Q8 (s:S):List UInt8:=[83,69,76,69,67,84,32]++((if s.di=true then [68,73,83,84,73,78,67,84,32] else [])++(Qk s.nit (fun i=>ZL (s.it i))++([32,70,82,79,77,32]++(ZF s.nfr (fun i=>QW i (s.fr i))++(Qm [32,87,72,69,82,69,32] s.wh++((if decide (0<(s.gr.n:Int))=true then [32,71,82,79,85,80,32,66,89,32]++Qk s.gr.n (fun i=>Qg (s.gr.f i)) else [])++(Qm [32,72,65,86,73,78,71,32] s.hv++((if decide (0<(s.nor:Int))=true then [32,79,82,68,69,82,32,66,89,32]++Qk s.nor (fun i=>Zi (s.od i)) else [])++(if decide (0≤s.li)=true then [32,76,73,77,73,84,32]++Lib.itoa s.li else [])))))))))
noncomputable def Zl (s:S):Nat:=max (max (max (max (max (Ql s.nit (fun i=>itemD (s.it i))) (Ql s.nfr (fun i=>QQ (s.fr i).e))) (QQ s.wh)) (if decide (0<(s.gr.n:Int))=true then Ql s.gr.n (fun i=>QQ (s.gr.f i)) else 0)) (QQ s.hv)) (if decide (0<(s.nor:Int))=true then Ql s.nor (fun i=>QQ (s.od i).e) else 0)
noncomputable def Qy (s:S):List UInt8:=
 if s.kind==1 then ZY s
 else if s.kind==2 then [67,82,69,65,84,69,32]++((if s.un=true then [85,78,73,81,85,69,32] else [])++([73,78,68,69,88,32]++(s.ix.data.toList++([32,79,78,32]++(s.nm.data.toList++([32]++QA s.cl.n s.cl.f))))))
 else if s.kind==3 then [68,82,79,80,32,84,65,66,76,69,32]++s.nm.data.toList
 else if s.kind==4 then [68,82,79,80,32,73,78,68,69,88,32]++s.ix.data.toList
 else if s.kind==5 then [73,78,83,69,82,84,32,73,78,84,79,32]++(s.nm.data.toList++((if decide (0<(s.cl.n:Int))=true then [32]++QA s.cl.n s.cl.f else [])++([32,86,65,76,85,69,83,32]++Qk s.nrw (fun i=>rowL (s.rw i).n (s.rw i).f))))
 else if s.kind==6 then [85,80,68,65,84,69,32]++(s.nm.data.toList++([32,83,69,84,32]++(Qk s.nst (fun i=>setL (s.st i))++Qm [32,87,72,69,82,69,32] s.wh)))
 else if s.kind==7 then [68,69,76,69,84,69,32,70,82,79,77,32]++(s.nm.data.toList++Qm [32,87,72,69,82,69,32] s.wh)
 else if s.kind==8 then Q8 s else []
noncomputable def QP (s:S):Nat:=
 if s.kind==1 then Jp s
 else if s.kind==2 then 1
 else if s.kind==3 then 0
 else if s.kind==4 then 0
 else if s.kind==5 then max (if decide (0<(s.cl.n:Int))=true then 1 else 0) (Ql s.nrw (fun i=>Ql (s.rw i).n (fun j=>QQ ((s.rw i).f j))+1))
 else if s.kind==6 then max (Ql s.nst (fun i=>QQ (s.st i).e)) (QQ s.wh)
 else if s.kind==7 then QQ s.wh
 else if s.kind==8 then Zl s else 0
noncomputable abbrev cD1:Code:=Qt f167
abbrev qs1(b:Nat):Value:=(.pointer (some ⟨b,0,none⟩))
abbrev qs2(tnk:Nat):Nat × RV:=(14,.v (.int .i64 ((tnk:Nat):Int)))
abbrev qs3(i3:Nat):Value:=(.int .i64 ((i3:Nat):Int))
abbrev qs4(tB:Option Addr)(tnk td:Nat):Nat × RV:=(13,.v (.slice tB tnk td))
abbrev qs5:Value:=(.string ⟨#[44,32,80,82,73,77,65,82,89,32,75,69,89,32]⟩)
abbrev qs7:Value:=(.string ⟨#[44,32,85,78,73,81,85,69,32]⟩)
theorem create1_pr {D:World} {b:Nat} {o m:Int} {l:List UInt8} {v:Value} {W:World} (hD:Below D.heap.size D W) (h:Wr D.heap.size b o m l v W) {gw gx:Nat} {kind:Int} {tnm:ByteArray} {tA:Option Addr} {tnc:Nat} {tc:Nat} {tB:Option Addr} {tnk:Nat} {td:Nat} {A1:Option Addr} {nkc:Nat} {c1:Nat} {nm:ByteArray} {ix:ByteArray} {un:Bool} {A2:Option Addr} {ncl:Nat} {c2:Nat} {A3:Option Addr} {nrw:Nat} {c3:Nat} {A4:Option Addr} {nst:Nat} {c4:Nat} {wk:Int} {wo:Int} {wvk:Int} {wvn:Int} {wvt:ByteArray} {wtb:ByteArray} {wnm:ByteArray} {wA:Option Addr} {wn:Nat} {wc:Nat} {wpl:Int} {wty:Int} {di:Bool} {A5:Option Addr} {nit:Nat} {c5:Nat} {A6:Option Addr} {nfr:Nat} {c6:Nat} {A7:Option Addr} {ngr:Nat} {c7:Nat} {hk:Int} {ho:Int} {hvk:Int} {hvn:Int} {hvt:ByteArray} {htb:ByteArray} {hnm:ByteArray} {hA:Option Addr} {hn:Nat} {hc:Nat} {hpl:Int} {hty:Int} {A8:Option Addr} {nor:Nat} {c8:Nat} {li:Int} {tcols:Nat→Co} {tkeys:Nat→Ke} {kc:Nat→Na} (T1s:QR D 3 32 tnc (.slice tA tnc tc) fun i ds=>CoIn (tcols i) ds) (T2s:QR D 4 48 tnk (.slice tB tnk td) fun i ds=>KeIn D (tkeys i) ds) (Hkc:QR D 1 24 nkc (.slice A1 nkc c1) fun i ds=> ∃ v,ds=[v]∧ZD D (kc i).n (kc i).f v) (Hty: ∀ i,i<tnc→1≤(tcols i).ty∧(tcols i).ty≤3) (hnk:tnk=nkc)
 (HZ:Pz o m (max (Ql tnc (fun _=>0)) (Ql tnk (fun _=>1))) l (Qk tnc (fun i=>Jl (tcols i))++ZF tnk (fun i=>keyW (tkeys i) (kc i)))) (KW:Bk b v W gw [.pointer (some ⟨b,0,none⟩)]) (KX:Bk b v W gx (Zs kind tnm tA tnc tc tB tnk td A1 nkc c1 nm ix un A2 ncl c2 A3 nrw c3 A4 nst c4 wk wo wvk wvn wvt wtb wnm wA wn wc wpl wty di A5 nit c5 A6 nfr c6 A7 ngr c7 hk ho hvk hvn hvt htb hnm hA hn hc hpl hty A8 nor c8 li)) :
 PrC D b o m l v W 167 #[.pointer (some ⟨gw,0,none⟩),.pointer (some ⟨gx,0,none⟩)] (Qk tnc (fun i=>Jl (tcols i))++ZF tnk (fun i=>keyW (tkeys i) (kc i))) (max (Ql tnc (fun _=>0)) (Ql tnk (fun _=>1))):=by
 have Hn:=T2s.len
 have ps0:=PS.start h hD
 refine Qj (args:=[.pointer (some ⟨gw,0,none⟩),.pointer (some ⟨gx,0,none⟩)]) (c:=cD1) func167 rfl (by kernel_rfl) fun a0 hst=> ?_
 have F1:Sd W (.get 70 (.pointer (some ⟨gw,0,none⟩)) (qs1 b)):=Qb.cellAt (d:=0) Qd KW.sb.at_ rfl KW.lt Qo
 have F2:Sd W (.get 22 (.pointer (some ⟨gx,2,none⟩)) (.slice tA tnc tc)):=Qb.cellAt (d:=2) Qd KX.sb.at_ rfl KX.lt Qo
 have kq1:=QZ.cons KW (QZ.cons KX QZ.nil)
 refine pW (dd:=(Ql tnc (fun _=>0))) (txt:=(Qk tnc (fun i=>Jl (tcols i)))) (.op 0 5) 10 168 (Qc cD1 (.op 0 5)) (Qc cD1 (.op 0 6)) [(9,.fn (Fn.func 169) [.v (.pointer (some ⟨gw,0,none⟩))]),(8,.v (.slice tA tnc tc)),(5,.v (qs1 b)),(1,.v (.pointer (some ⟨gx,0,none⟩))),(0,.v (.pointer (some ⟨gw,0,none⟩)))] [] [(1,.v (.pointer (some ⟨gx,0,none⟩))),(0,.v (.pointer (some ⟨gw,0,none⟩)))] [.v (qs1 b),.v (.slice tA tnc tc),.fn (Fn.func 169) [.v (.pointer (some ⟨gw,0,none⟩))]] hst (Km F1 F2) ps0 kq1 func168 (fun G2 w2 ps2 kb2=>(list_Column_pr ps2.bl ps2.wr T1s 169 ⟨_,_,func169,rfl,by kernel_rfl⟩ [] [.pointer (some ⟨gw,0,none⟩)] (fun i=>Jl (tcols i)) (fun _=>0) (HZ.of QJ0p HZ.m QQnX) (fun i hi cs hp m' l' v' W' hb' hw' hs' hz'=>column_pr hb' hw' _ cs hp (Hty i hi) hz' ((kb2.at 0 rfl).call hs')))) (top_le HZ.ho QrjB HZ.m.1 HZ.m.2) fun G2 mm2 ll2 v2 b2 u2 em2 el2 bn2 hsu2 pt2 kb2=> ?_
 have F3:=kb2.ld 1 3 (t:=23) rfl rfl Qd
 refine gO cD1 (.loop 0) [(15,.v (.int .i64 ((0:Nat):Int))),(qs2 tnk),(qs4 tB tnk td),(1,.v (.pointer (some ⟨gx,0,none⟩))),(0,.v (.pointer (some ⟨gw,0,none⟩)))] [] hsu2 (Zg F3) fun G3 a3 w3 hst3 _=> ?_
 have hb3:=hst3.rp.below
 have ps3:=pt2.seg hb3
 have kb3_0:=(kb2.at 0 rfl).seg hb3
 have kb3_1:=(kb2.at 1 rfl).seg hb3
 have hr3:=hst3.reb
 refine Kt cD1 0 Qv (tnk) (fun ii aa ww=> ∃ vv,EV _ ((15,.int .i64 ((ii:Nat):Int))::[(14,.int .i64 ((tnk:Nat):Int)),(13,.slice tB tnk td),(1,.pointer (some ⟨gx,0,none⟩)),(0,.pointer (some ⟨gw,0,none⟩))]) aa∧PS D b o (top o mm2 (Ql ii (fun _=>1))) (ll2++(ZF ii (fun i=>keyW (tkeys i) (kc i)))) vv v W ww∧Bk b vv ww gw [.pointer (some ⟨b,0,none⟩)]∧Bk b vv ww gx (Zs kind tnm tA tnc tc tB tnk td A1 nkc c1 nm ix un A2 ncl c2 A3 nrw c3 A4 nst c4 wk wo wvk wvn wvt wtb wnm wA wn wc wpl wty di A5 nit c5 A6 nfr c6 A7 ngr c7 hk ho hvk hvn hvt htb hnm hA hn hc hpl hty A8 nor c8 li)) ⟨v2,hr3.ev,PS.cast ps3 rfl QKqJ,kb3_0,kb3_1⟩ (fun i3 hi3 b3 u3 hI3=> ?_) (fun b3 u3 hI3=> ?_)
 · let x5x:Fr:=[(15,.v (qs3 i3)),(qs2 tnk),(qs4 tB tnk td),(1,.v (.pointer (some ⟨gx,0,none⟩))),(0,.v (.pointer (some ⟨gw,0,none⟩)))]
   let x4x:Fr:=[(15,.v (qs3 i3)),(qs2 tnk),(qs4 tB tnk td),(2,.v (qs3 i3)),(1,.v (.pointer (some ⟨gx,0,none⟩))),(0,.v (.pointer (some ⟨gw,0,none⟩)))]
   let x3x:Fr:=[(15,.v (.int .i64 ((i3+1:Nat):Int))),(qs2 tnk),(qs4 tB tnk td),(1,.v (.pointer (some ⟨gx,0,none⟩))),(0,.v (.pointer (some ⟨gw,0,none⟩)))]
   let x2x:VF:=[(15,.int .i64 ((i3+1:Nat):Int)),(14,.int .i64 ((tnk:Nat):Int)),(13,.slice tB tnk td),(1,.pointer (some ⟨gx,0,none⟩)),(0,.pointer (some ⟨gw,0,none⟩))]
   obtain ⟨v3,he3,hP3,kc3_0,kc3_1⟩:=hI3
   have hst3_:=he3.st u3
   have bn3:0≤(top o mm2 (Ql i3 (fun _=>1)))∧(top o mm2 (Ql i3 (fun _=>1)))≤1000:=top_le HZ.ho (by have hq:=HZ.hod;have hm:(Ql i3 (fun _=>1))≤(Ql tnk (fun _=>1)):=KT (by omega);first | omega | (simp only [bS] at hq;omega)) bn2.1 bn2.2
   have htst3:decide (((i3:Nat):Int)<((tnk:Nat):Int))=true:=by simp;omega
   have hj3:=concN_step (f:=(fun i=>keyW (tkeys i) (kc i))) hi3
   have hm3:1≤Ql tnk (fun _=>1):=KV (f:=fun _=>1) hi3
   obtain ⟨eb4,eo4,ed4,es4,eq4,el4,em4,ep4,er4⟩:=T2s.at (i:=(i3)) hi3
   have pp4:=ep4
   obtain ⟨sz4,kv4,rfl,ks4⟩:=ep4
   obtain ⟨KA4,kc4,rfl⟩:=ks4.form
   obtain ⟨y4,hy4⟩: ∃ z,(tkeys i3).un=z:=⟨_,rfl⟩
   rw [hy4] at er4 pp4
   obtain ⟨y5,hy5⟩: ∃ z,(tkeys i3).pr=z:=⟨_,rfl⟩
   rw [hy5] at er4 pp4
   have hik3:i3<nkc:=by omega
   obtain ⟨eb5,eo5,ed5,es5,eq5,el5,em5,ep5,er5⟩:=Hkc.at (i:=(i3)) hik3
   have pp5:=ep5
   obtain ⟨kv5,rfl,ks5⟩:=ep5
   obtain ⟨KA5,kc5,rfl⟩:=ks5.form
   let x1x:Fr:=[(30,.v (.slice KA5 (kc i3).n kc5)),(25,.v (qs1 b)),(15,.v (qs3 i3)),(qs2 tnk),(qs4 tB tnk td),(1,.v (.pointer (some ⟨gx,0,none⟩))),(0,.v (.pointer (some ⟨gw,0,none⟩)))]
   have hk3:(ZF i3 (fun i=>keyW (tkeys i) (kc i))).length≤(ZF tnk (fun i=>keyW (tkeys i) (kc i))).length:=concN_mono (by omega)
   have F6:=JE u3 htst3
   have F7:=nEl u3 4 eq4 underlying23 hi3
   have F8:Sd u3 (.get 59 (.pointer (some ⟨eb4,eo4+i3*4,none⟩)) (.agg #[.string (tkeys i3).nm,.slice KA4 (tkeys i3).n kc4,.bool y4,.bool y5])):=Qb.row Qd Qd (Qz er4 (.below hP3.bl)) (Nat.lt_of_lt_of_le el4 hP3.bl.size) Qo
   cases y5
   · have F9:Sd u3 (.get 70 (.pointer (some ⟨gw,0,none⟩)) (qs1 b)):=Qb.cellAt (d:=0) Qd kc3_0.sb.at_ rfl kc3_0.lt Qo
     have kq6:=QZ.cons kc3_0 (QZ.cons kc3_1 QZ.nil)
     refine pW0 (txt:=[44,32,85,78,73,81,85,69,32]) (.op 7 2) 24 104 (Qc (Qn cD1 0) (.op 7 2)) (Qc (Qn cD1 0) (.op 7 3)) [(23,.v qs7),(22,.v (qs1 b)),(15,.v (qs3 i3)),(qs2 tnk),(qs4 tB tnk td),(2,.v (qs3 i3)),(1,.v (.pointer (some ⟨gx,0,none⟩))),(0,.v (.pointer (some ⟨gw,0,none⟩)))] [bx [.string (tkeys i3).nm,.slice KA4 (tkeys i3).n kc4,.bool y4,.bool false]] x4x [.v (qs1 b),.v qs7] hst3_ (Jf F6 F7 F8 F9) hP3 kq6 func104 (fun G7 w7 ps7 kb7=>(QJ ps7.wr _ [44,32,85,78,73,81,85,69,32] rfl (HZ.of ZO bn3 QrEw))) fun G7 ll7 v7 b7 u7 el7 hsu7 pt7 kb7=> ?_
     have F10:=kb7.ld 1 0 (t:=70) rfl rfl Qd
     have F11:=kb7.ld 2 4 (t:=26) rfl rfl Qd
     have F12:=nEl u7 1 eq5 underlying26 hik3
     have F13:Sd u7 (.get 27 (.pointer (some ⟨eb5,eo5+i3*1,none⟩)) (.slice KA5 (kc i3).n kc5)):=Qb.cellAt (d:=0) Qd (Qz er5 (.below pt7.bl)) rfl (Nat.lt_of_lt_of_le el5 pt7.bl.size) Qo
     refine pW (dd:=1) (txt:=(QA (kc i3).n (kc i3).f)) (.op 8 6) 31 105 (Qc (Qn cD1 0) (.op 8 6)) (Qc (Qn cD1 0) (.op 8 7)) x1x [] x5x [.v (qs1 b),.v (.slice KA5 (kc i3).n kc5)] hsu7 (Jf F10 F11 F12 F13) pt7 kb7 func105 (fun G8 w8 ps8 kb8=>(names_pr ks5 _ _ _ _ _ _ ps8.bl ps8.wr (HZ.of QGeT bn3 (by subst el7 el2 em2;have hq:=keyW_len (tkeys i3) (kc i3);simp only [hy4,hy5,bS] at hq;first | (simp only [hy4,hy5,bS,lS];omega) | omega)))) (top_le HZ.ho (by subst el7 el2 em2;have hq:=HZ.hod;first | omega | (simp only [hy4,hy5,bS] at hq;omega)) bn3.1 bn3.2) fun G8 mm8 ll8 v8 b8 u8 em8 el8 bn8 hsu8 pt8 kb8=> ?_
     have F14:=sd u8 (Qb.inc (t:=3) (i:=i3) (by omega))
     refine gF .nrm x3x [] hsu8 (Zg F14) fun g0 a0 w0 h0 _=>⟨_,RC.St.ev (l:=x2x) h0,PS.cast (pt8.seg h0.rp.below) (by subst el8 em8 el7 el2 em2;first | rfl | (rw [Qr];rfl)) (by subst el8 em8 el7 el2 em2;simp only [ZF,keyW,hy4,hy5,bS,List.append_assoc]),(kb8.at 1 rfl).seg h0.rp.below,(kb8.at 2 rfl).seg h0.rp.below⟩
   have F15:Sd u3 (.get 70 (.pointer (some ⟨gw,0,none⟩)) (qs1 b)):=Qb.cellAt (d:=0) Qd kc3_0.sb.at_ rfl kc3_0.lt Qo
   have kq9:=QZ.cons kc3_0 (QZ.cons kc3_1 QZ.nil)
   refine pW0 (txt:=[44,32,80,82,73,77,65,82,89,32,75,69,89,32]) (.op 7 2) 24 104 (Qc (Qn cD1 0) (.op 7 2)) (Qc (Qn cD1 0) (.op 7 3)) [(23,.v qs5),(22,.v (qs1 b)),(15,.v (qs3 i3)),(qs2 tnk),(qs4 tB tnk td),(2,.v (qs3 i3)),(1,.v (.pointer (some ⟨gx,0,none⟩))),(0,.v (.pointer (some ⟨gw,0,none⟩)))] [bx [.string (tkeys i3).nm,.slice KA4 (tkeys i3).n kc4,.bool y4,.bool true]] x4x [.v (qs1 b),.v qs5] hst3_ (Jf F6 F7 F8 F15) hP3 kq9 func104 (fun G10 w10 ps10 kb10=>(QJ ps10.wr _ [44,32,80,82,73,77,65,82,89,32,75,69,89,32] rfl (HZ.of ZO bn3 QrEw))) fun G10 ll10 v10 b10 u10 el10 hsu10 pt10 kb10=> ?_
   have F16:=kb10.ld 1 0 (t:=70) rfl rfl Qd
   have F17:=kb10.ld 2 4 (t:=26) rfl rfl Qd
   have F18:=nEl u10 1 eq5 underlying26 hik3
   have F19:Sd u10 (.get 27 (.pointer (some ⟨eb5,eo5+i3*1,none⟩)) (.slice KA5 (kc i3).n kc5)):=Qb.cellAt (d:=0) Qd (Qz er5 (.below pt10.bl)) rfl (Nat.lt_of_lt_of_le el5 pt10.bl.size) Qo
   refine pW (dd:=1) (txt:=(QA (kc i3).n (kc i3).f)) (.op 8 6) 31 105 (Qc (Qn cD1 0) (.op 8 6)) (Qc (Qn cD1 0) (.op 8 7)) x1x [] x5x [.v (qs1 b),.v (.slice KA5 (kc i3).n kc5)] hsu10 (Jf F16 F17 F18 F19) pt10 kb10 func105 (fun G11 w11 ps11 kb11=>(names_pr ks5 _ _ _ _ _ _ ps11.bl ps11.wr (HZ.of QGeT bn3 (by subst el10 el2 em2;have hq:=keyW_len (tkeys i3) (kc i3);simp only [hy4,hy5,bS] at hq;first | (simp only [hy4,hy5,bS,lS];omega) | omega)))) (top_le HZ.ho (by subst el10 el2 em2;have hq:=HZ.hod;first | omega | (simp only [hy4,hy5,bS] at hq;omega)) bn3.1 bn3.2) fun G11 mm11 ll11 v11 b11 u11 em11 el11 bn11 hsu11 pt11 kb11=> ?_
   have F20:=sd u11 (Qb.inc (t:=3) (i:=i3) (by omega))
   refine gF .nrm x3x [] hsu11 (Zg F20) fun g0 a0 w0 h0 _=>⟨_,RC.St.ev (l:=x2x) h0,PS.cast (pt11.seg h0.rp.below) (by subst el11 em11 el10 el2 em2;first | rfl | (rw [Qr];rfl)) (by subst el11 em11 el10 el2 em2;simp only [ZF,keyW,hy4,hy5,bS,List.append_assoc]),(kb11.at 1 rfl).seg h0.rp.below,(kb11.at 2 rfl).seg h0.rp.below⟩
 obtain ⟨v3,he3,hP3,kc3_0,kc3_1⟩:=hI3
 have hst3_:=he3.st u3
 have bn3:0≤(top o mm2 (Ql tnk (fun _=>1)))∧(top o mm2 (Ql tnk (fun _=>1)))≤1000:=top_le HZ.ho (by have hq:=HZ.hod;have hm:(Ql tnk (fun _=>1))≤(Ql tnk (fun _=>1)):=KT (by omega);first | omega | (simp only [bS] at hq;omega)) bn2.1 bn2.2
 have htst3e:decide (((tnk:Nat):Int)<((tnk:Nat):Int))=false:=by simp
 have F21:=JE u3 htst3e
 refine gF (.ex 0) [(qs2 tnk),(qs4 tB tnk td),(1,.v (.pointer (some ⟨gx,0,none⟩))),(0,.v (.pointer (some ⟨gw,0,none⟩)))] [] hst3_ (Zg F21) fun G12 a12 w12 hst12 _=>brk ?_
 have hb12:=hst12.rp.below
 have ps12:=hP3.seg hb12
 have kb12_0:=kc3_0.seg hb12
 have kb12_1:=kc3_1.seg hb12
 have hsr12:=hst12.reb
 exact gE hsr12 Zk [] fun w' hw=>⟨rfl,(PS.cast (ps12.seg hw) (by subst el2 em2;rw [Qr]) (by subst el2 em2;simp only [List.append_assoc])).fin⟩
noncomputable abbrev cD0:Code:=Qt f103
abbrev qs6(tnm:ByteArray):Value:=(.string ((⟨#[67,82,69,65,84,69,32,84,65,66,76,69,32]⟩++tnm)++⟨#[32]⟩))
abbrev qs8(tnm:ByteArray):List UInt8:=(([67,82,69,65,84,69,32,84,65,66,76,69,32]++tnm.data.toList)++[32])
theorem create_pr {D:World} (hP:PrW D) (s:S) (cs:List Value) (h:Ks D s cs) (Hty: ∀ i,i<s.tab.nc→1≤(s.tab.cols i).ty∧(s.tab.cols i).ty≤3) (hnk:s.tab.nk=s.nkc) :
 PrF D 103 (fun b=> #[.pointer (some ⟨b,0,none⟩),.agg cs.toArray]) (ZY s) (Jp s):=by
 intro b o m l v W hD hw HZ
 obtain ⟨kind,⟨tnm,tnc,tcols,tnk,tkeys⟩,nkc,kc,nm,ix,un,⟨ncl,cl⟩,nrw,rw_,nst,st,wh,di,nit,it,nfr,fr,⟨ngr,gr⟩,hv,nor,od,li⟩:=s
 obtain ⟨tA,tc,tB,td,A1,c1,A2,c2,A3,c3,A4,c4,A5,c5,A6,c6,A7,c7,A8,c8,wk,wo,wvk,wvn,wvt,wtb,wnm,wA,wn,wc,wpl,wty,hk,ho,hvk,hvn,hvt,htb,hnm,hA,hn,hc,hpl,hty,rfl,h0,ia,t1,t2⟩:=Ks.opn h
 have iwh:=ia.wh
 have ihv:=ia.hv
 have iwf:=ia.wf
 have itn:=ia.tab.1
 simp only at Hty hnk
 have ps0:=PS.start hw hD
 refine Qj (args:=[.pointer (some ⟨b,0,none⟩),.agg (Zs kind tnm tA tnc tc tB tnk td A1 nkc c1 nm ix un A2 ncl c2 A3 nrw c3 A4 nst c4 wk wo wvk wvn wvt wtb wnm wA wn wc wpl wty di A5 nit c5 A6 nfr c6 A7 ngr c7 hk ho hvk hvn hvt htb hnm hA hn hc hpl hty A8 nor c8 li).toArray]) (c:=cD0) func103 rfl (by kernel_rfl) fun a0 hst=> ?_
 have F1:=sd W (Qb.addStr (t:=9) (a:=⟨#[67,82,69,65,84,69,32,84,65,66,76,69,32]⟩) (b:=tnm) Qewt)
 have F2:=sd W (Qb.addStr (t:=9) (a:=(⟨#[67,82,69,65,84,69,32,84,65,66,76,69,32]⟩++tnm)) (b:=⟨#[32]⟩) Qewt)
 have kq1:=(QZ.nil:QZ b v W [])
 refine pW0 (txt:=(qs8 tnm)) (.op 1 6) 10 104 (Qc cD0 (.op 1 6)) (Qc cD0 (.op 1 7)) [(9,.v (qs6 tnm)),(4,.v (qs1 b)),(3,.p 1 0),(2,.p 0 0)] [bx [.pointer (some ⟨b,0,none⟩)],bx (Zs kind tnm tA tnc tc tB tnk td A1 nkc c1 nm ix un A2 ncl c2 A3 nrw c3 A4 nst c4 wk wo wvk wvn wvt wtb wnm wA wn wc wpl wty di A5 nit c5 A6 nfr c6 A7 ngr c7 hk ho hvk hvn hvt htb hnm hA hn hc hpl hty A8 nor c8 li)] [(3,.p 1 0),(2,.p 0 0)] [.v (qs1 b),.v (qs6 tnm)] hst (Km F1 F2) ps0 kq1 func104 (fun G2 w2 ps2 kb2=>(QJ ps2.wr _ (qs8 tnm) (Zc (Zc rfl rfl) rfl) (HZ.of ZO HZ.m (by first | (simp only [ZY,Jp,bS,lS];omega) | omega)))) fun G2 ll2 v2 b2 u2 el2 hsu2 pt2 kb2=> ?_
 have F3:=kb2.ld 0 0 (t:=70) rfl rfl Qd
 refine pW (dd:=((max (Ql tnc (fun _=>0)) (Ql tnk (fun _=>1)))+1)) (txt:=([40]++((Qk tnc (fun i=>Jl (tcols i))++ZF tnk (fun i=>keyW (tkeys i) (kc i)))++[41]))) (.op 2 2) 13 108 (Qc cD0 (.op 2 2)) (Qc cD0 (.op 2 3)) [(12,.fn (Fn.func 167) [.v (.pointer (some ⟨(G2.g 0),0,none⟩)),.v (.pointer (some ⟨(G2.g 1),0,none⟩))]),(11,.v (qs1 b))] [] [] [.v (qs1 b),.fn (Fn.func 167) [.v (.pointer (some ⟨(G2.g 0),0,none⟩)),.v (.pointer (some ⟨(G2.g 1),0,none⟩))]] hsu2 (Zg F3) pt2 kb2 func108 (fun G3 w3 ps3 kb3=>(ZK ps3.wr 167 (Kn func167 Qd rfl) _ _ (Qk tnc (fun i=>Jl (tcols i))++ZF tnk (fun i=>keyW (tkeys i) (kc i))) (max (Ql tnc (fun _=>0)) (Ql tnk (fun _=>1))) (HZ.of (by first | omega | (simp only [ZY,Jp,bS];omega)) HZ.m (by subst el2;first | (simp only [ZY,Jp,bS,lS];omega) | omega)) fun v' W' hw' hs' hz'=>create1_pr ((ps3.call hw' hs').bl) hw' t1 t2 ia.kc Hty hnk hz' ((kb3.at 0 rfl).call hs') ((kb3.at 1 rfl).call hs'))) (top_le HZ.ho (by subst el2;have hq:=HZ.hod;first | omega | (simp only [ZY,Jp,bS] at hq;omega)) HZ.m.1 HZ.m.2) fun G3 mm3 ll3 v3 b3 u3 em3 el3 bn3 hsu3 pt3 kb3=> ?_
 exact gE hsu3 Zk [] fun w' hw=>⟨rfl,(PS.cast (pt3.seg hw) (by subst el3 em3 el2;first | rfl | (simp only [ZY,Jp,bS,Qr,Qq];done) | (simp only [ZY,Jp,bS,Qr,Qq] <;> rfl)) (by subst el3 em3 el2;simp only [ZY,Jp,bS,aS])).fin⟩
end
end Go.Proofs.YtddedijencleeaaGreatDoor
