/- Rows that grow one behind the other, boxes as memory. No program's code. -/
import Derived.Test.YtddedijencleeaaGreatDoorMYa
import Derived.Test.YtddedijencleeaaGreatDoorVh
import Derived.Test.YtddedijencleeaaGreatDoorSm
import Derived.Test.YtddedijencleeaaGreatDoorMSq
set_option linter.all false
namespace Go.Proofs.YtddedijencleeaaGreatDoor
open Go.RowKit Go.Lib RC
structure BM (W V w:World):Prop where
 bl:Below W.heap.size W w
 b2:Below V.heap.size V w
theorem BM.seg {W V w w':World} (h:BM W V w) (hb:Below w.heap.size w w'):BM W V w':=⟨Below.andThen h.bl hb,Below.andThen h.b2 hb⟩
namespace RC
theorem St.reb' {N n:Nat} {W:World} {fr fr':Fr} {bs:List Zp} {G:Env} {a:Act} {w:World} (h:RC.St N W n fr bs G a w) (e:vfr (Jk G fr)=fr'):RC.St w.heap.size w n fr' [] env0 a w:=e ▸ h.reb
theorem rowLoop2 {P:Program} {Q:Exit→Act→World→Prop} {nn:Nat} (c:Code) (id sC sR:Nat) (n k0:Nat) (e:TypeId) (size:Nat) (Qe:World→Nat→List Value→Prop) {lv:VF} {a:Act} {w0 w1:World} {row0:Value} {css0:Nat→List Value}
 (hk:Qc c (.loop id)= .c (.loop (Qn c id)):: .b id::Qc c (.out id)) (hO:JP w0 w1 e size k0 row0 css0 Qe) (hst:EV nn ((sC,.int .i64 (0:Nat))::(sR,row0)::lv) a)
 (round: ∀ i,i<n→ ∀ row wr a css,JP w0 wr e size (k0+i) row css Qe→EV nn ((sC,.int .i64 (i:Nat))::(sR,row)::lv) a →
   ZZ P (Exit.then (fun a' w'=> ∃ v' css',EV nn ((sC,.int .i64 ((i+1:Nat):Int))::(sR,v')::lv) a'∧JP w0 w' e size (k0+i+1) v' css' Qe) (ZZ P Q (.b id::Qc c (.out id)))) [.c (Qn c id)] .normal a wr)
 (ends: ∀ row wr a css,JP w0 wr e size (k0+n) row css Qe→EV nn ((sC,.int .i64 (n:Nat))::(sR,row)::lv) a→ZZ P (Exit.then (fun _ _=>False) (ZZ P Q (.b id::Qc c (.out id)))) [.c (Qn c id)] .normal a wr):ZZ P Q (Qc c (.loop id)) .normal a w1:=by
 refine Kt c id hk n (fun i a' w'=> ∃ row css,EV nn ((sC,.int .i64 (i:Nat))::(sR,row)::lv) a'∧JP w0 w' e size (k0+i) row css Qe) ⟨_,css0,hst,hO⟩ ?_ ?_
 · rintro i hi a2 w2 ⟨row,css,h1,h2⟩
   exact round i hi row w2 a2 css h2 h1
 rintro a2 w2 ⟨row,css,h1,h2⟩
 exact ends row w2 a2 css h2 h1
end RC
theorem Qb.elemArr {P:Program} {N:Nat} {W:World} {t e:TypeId} {b o size i len:Nat} {k:IntKind} (hu:P.underlying t=some (.array len e)) (hs:sizT P e=some size) (hi:i<len):Qb.ok P N W (.idx t (.pointer (some ⟨b,o,none⟩)) (.int k i) (.pointer (some ⟨b,o+i*size,none⟩))):=fun w=>by
 have h0:(0:Int)≤(i:Int):=by omega
 have h1:(i:Int)<(len:Int):=by omega
 simp [Instr.indexAt,asIntOf,run_underlying hu,Jo hs,h0,h1,hi,Addr.add_at,Instr.sureAddr]
noncomputable def keyR (k:Ke) (l:Na):List UInt8:=(if k.pr=true then [80,82,73,77,65,82,89,32,75,69,89,32] else [85,78,73,81,85,69,32])++QA l.n l.f
theorem keyW_R (k:Ke) (l:Na):keyW k l=[44,32]++keyR k l:=by
 unfold keyW keyR
 cases k.pr <;> rfl
noncomputable def crow (nc:Nat) (cols:Nat→Co) (keys:Nat→Ke) (kc:Nat→Na) (i:Nat):List UInt8:=if i<nc then Jl (cols i) else keyR (keys (i - nc)) (kc (i - nc))
theorem JN {nc:Nat} {cols:Nat→Co} {keys:Nat→Ke} {kc:Nat→Na} {i:Nat} (h:i<nc):crow nc cols keys kc i=Jl (cols i):=if_pos h
theorem crow_ge {nc:Nat} {cols:Nat→Co} {keys:Nat→Ke} {kc:Nat→Na} {i:Nat}:crow nc cols keys kc (nc+i)=keyR (keys i) (kc i):=by
 unfold crow
 rw [if_neg (by omega),show nc+i - nc=i by omega]
theorem joinN_congr {n:Nat} {f g:Nat→List UInt8} (h: ∀ i,i<n→f i=g i):Qk n f=Qk n g:=by
 induction n with
 | zero=>rfl
 | succ n ih=>rw [Qk,Qk,ih fun i hi=>h i (by omega),h n (by omega)]
theorem joinN_crow {nc:Nat} {cols:Nat→Co} {keys:Nat→Ke} {kc:Nat→Na} (h:0<nc): ∀ nk,Qk (nc+nk) (crow nc cols keys kc)=Qk nc (fun i=>Jl (cols i))++ZF nk (fun i=>keyW (keys i) (kc i))
 | 0=>by simp only [Nat.add_zero,ZF,List.append_nil];exact joinN_congr fun i hi=>JN hi
 | nk+1=>by
   rw [← Nat.add_assoc,Qk,joinN_crow h nk,crow_ge,ZF,keyW_R]
   first
    | (rw [if_neg (by omega)];simp only [List.append_assoc];done)
    | (rw [if_pos (by omega)];simp only [List.append_assoc];done)
end Go.Proofs.YtddedijencleeaaGreatDoor

/- ref9.create. -/
set_option linter.all false
namespace Go.Proofs.YtddedijencleeaaGreatDoor
set_option maxRecDepth 100000
set_option maxHeartbeats 8000000
open Tryz
noncomputable section
open Go.RowKit Go.Lib RC
noncomputable abbrev JC:Code:=Qt f28
abbrev qC1(G1:Env):Option Addr:=(some ⟨(G1.g 0),0,none⟩)
abbrev qC2(G1:Env):Option Addr:=(some ⟨(G1.g 1),0,none⟩)
abbrev qC3(row2:Value)(i2:Nat)(G1:Env):Fr:=[(48,.s 0 0 1 1),(46,.v (row2)),(5,.v (.int .i64 ((i2:Nat):Int))),(3,.v (.pointer (qC2 G1))),(1,.v (.pointer (qC1 G1)))]
abbrev qC4(i2:Nat)(G1:Env):VF:=[(5,.int .i64 ((i2:Nat):Int)),(3,.pointer (qC2 G1)),(1,.pointer (qC1 G1))]
abbrev qC5(G1:Env):Nat × RV:=(1,.v (.pointer (qC1 G1)))
abbrev qC6(G1:Env):Nat × Value:=(1,.pointer (qC1 G1))
abbrev qC7(i2:Nat):Nat × RV:=(5,.v (.int .i64 ((i2+1:Nat):Int)))
abbrev qC8(G1:Env):Nat × RV:=(3,.v (.pointer (qC2 G1)))
abbrev qC9(i2:Nat):Nat × Value:=(5,.int .i64 ((i2+1:Nat):Int))
abbrev qC10:List Value:=[.string ⟨#[66,79,79,76]⟩,.string ⟨#[73,78,84]⟩,.string ⟨#[84,69,88,84]⟩]
abbrev qC11:Value:=(.int .i64 ((0:Nat):Int))
abbrev qC12(G1:Env):Nat × Value:=(3,.pointer (qC2 G1))
theorem create9_ok (s:S) (cs:List Value) (W:World) (h:Ks W s cs) (Hty: ∀ i,i<s.tab.nc→1≤(s.tab.cols i).ty∧(s.tab.cols i).ty≤3) (hnc:0<s.tab.nc) (hnk:s.tab.nk=s.nkc) (hb:(ZY s).length≤140737488355328):Calls prog 28 #[.agg cs.toArray] W fun r W'=>r= .returned (.string ⟨(ZY s).toArray⟩)∧Below W.heap.size W W':=by
 obtain ⟨kind,⟨tnm,tnc,tcols,tnk,tkeys⟩,nkc,kc,nm,ix,un,⟨ncl,cl⟩,nrw,rw_,nst,st,wh,di,nit,it,nfr,fr,⟨ngr,gr⟩,hv,nor,od,li⟩:=s
 obtain ⟨tA,tc,tB,td,A1,c1,A2,c2,A3,c3,A4,c4,A5,c5,A6,c6,A7,c7,A8,c8,wk,wo,wvk,wvn,wvt,wtb,wnm,wA,wn,wc,wpl,wty,hk,ho,hvk,hvn,hvt,htb,hnm,hA,hn,hc,hpl,hty,rfl,h0,ia,t1,t2⟩:=Ks.opn h
 let x1x:List Value:=(Zs kind tnm tA tnc tc tB tnk td A1 tnk c1 nm ix un A2 ncl c2 A3 nrw c3 A4 nst c4 wk wo wvk wvn wvt wtb wnm wA wn wc wpl wty di A5 nit c5 A6 nfr c6 A7 ngr c7 hk ho hvk hvn hvt htb hnm hA hn hc hpl hty A8 nor c8 li)
 have iwh:=ia.wh
 have ihv:=ia.hv
 have iwf:=ia.wf
 have itn:=ia.tab.1
 simp only at Hty hnc hnk
 subst hnk
 have hj:=joinN_crow (cols:=tcols) (keys:=tkeys) (kc:=kc) hnc tnk
 simp only [ZY] at hb ⊢
 rw [← hj] at hb ⊢
 simp only [lS] at hb
 have hntc:=QR.len t1
 have hntk:=QR.len t2
 have hn0:(tnc+tnk)*16≤140737488355328:=by have q1:tnc*32≤140737488355328:=QR.small t1;have q2:tnk*48≤140737488355328:=QR.small t2;omega
 have hcl: ∀ i,i<tnc→(Jl (tcols i)).length≤140737488355328:=fun i hi=>by have:=Ji (t:=(crow tnc tcols tkeys kc)) (i:=i) (n:=tnc+tnk) (by omega);rw [JN hi] at this;omega
 have hkl: ∀ i,i<tnk→(keyR (tkeys i) (kc i)).length≤140737488355328:=fun i hi=>by have:=Ji (t:=(crow tnc tcols tkeys kc)) (i:=tnc+i) (n:=tnc+tnk) (by omega);rw [crow_ge] at this;omega
 refine Qj (args:=[.agg (Zs kind tnm tA tnc tc tB tnk td A1 tnk c1 nm ix un A2 ncl c2 A3 nrw c3 A4 nst c4 wk wo wvk wvn wvt wtb wnm wA wn wc wpl wty di A5 nit c5 A6 nfr c6 A7 ngr c7 hk ho hvk hvn hvt htb hnm hA hn hc hpl hty A8 nor c8 li).toArray]) (c:=JC) func28 rfl (by kernel_rfl) fun a0 hst=> ?_
 refine gO JC (.op 2 0) [(3,.p 1 0),(1,.p 0 0)] [bx x1x,bx qC10] hst Zk fun G1 a1 w1 h1_ _=> ?_
 have pm1:BM W w1 w1:=⟨h1_.rp.below,Below.refl _ _⟩
 have sb1_0:SB w1 (G1.g 0) x1x:=(h1_.rp.sb 0 _ rfl).1
 have sb1_1:SB w1 (G1.g 1) qC10:=(h1_.rp.sb 1 _ rfl).1
 have hm1:=St.reb' (fr':=[(qC8 G1),(qC5 G1)]) h1_ rfl
 refine gO JC (.loop 0) [(5,.v qC11),(4,.v (.slice none 0 0)),(qC8 G1),(qC5 G1)] [] hm1 Zk fun G2 a2 w2 h2_ _=> ?_
 have pm2:=pm1.seg h2_.rp.below
 have hm2:=St.reb' (fr':=[(5,.v qC11),(4,.v (.slice none 0 0)),(qC8 G1),(qC5 G1)]) h2_ rfl
 refine rowLoop (P:=prog) JC 0 5 4 tnc 9 1 (fun W1 i cs=>cs=[.string ((fun i=>(⟨(crow tnc tcols tkeys kc i).toArray⟩:ByteArray)) i)]∧((fun i=>(⟨(crow tnc tcols tkeys kc i).toArray⟩:ByteArray)) i).size≤9223372036854775807) (lv:=[(qC12 G1),(qC6 G1)]) Qv (RC.St.ev (l:=[(5,.int .i64 ((0:Nat):Int)),(4,.slice none 0 0),(qC12 G1),(qC6 G1)]) hm2) (fun i2 hi2 row2 wr2 b2 css2 hO2 he2=> ?_) (fun row2 wr2 b2 css2 hO2 he2=> ?_)
 · have pr2:BM W w1 wr2:=pm2.seg hO2.bl
   have h2_2:=he2.st wr2
   have htst2:decide (((i2:Nat):Int)<((tnc:Nat):Int))=true:=by simp;omega
   obtain ⟨eb3,eo3,ed3,es3,eq3,el3,em3,ep3,er3⟩:=t1.at (i:=(i2)) hi2
   let x2x:Value:=(.pointer (some ⟨eb3,eo3+i2*3+2,none⟩))
   have pp3:=ep3
   obtain ⟨rfl,sz3,sy3⟩:=ep3
   obtain ⟨y1,hy1⟩: ∃ z,(tcols i2).nn=z:=⟨_,rfl⟩
   rw [hy1] at er3 pp3
   have hty2:=Hty i2 hi2
   have hq2:=hcl i2 hi2
   unfold Jl at hq2
   obtain ⟨ty9,hty9⟩: ∃ z,(tcols i2).ty=z:=⟨_,rfl⟩
   rw [hty9] at er3 hty2 hq2
   have F2:Sd wr2 (.get 22 (.pointer (some ⟨(G1.g 0),2,none⟩)) (.slice tA tnc tc)):=Qb.cellAt (d:=2) Qd QEBn rfl QfLB Qo
   have F3:=JE wr2 htst2
   have F4:=nEl wr2 3 eq3 underlying22 hi2
   have F5:Sd wr2 (.get 9 (.pointer (some ⟨eb3,eo3+i2*3,none⟩)) (.string (tcols i2).nm)):=Qb.cellAt (d:=0) Qd Qsh6 rfl Qavz Qo
   have F6:=xBL wr2 ((tcols i2).nm) [32] (by have hq:=hq2;(try simp only [Qi,QA,keyR,hy1,bS,lS] at hq);first | omega | (simp only [Qi,lS];omega))
   have F7:Sd wr2 (.get 3 (.pointer (some ⟨eb3,eo3+i2*3+1,none⟩)) (.int .i64 ty9)):=Qb.cellAt (d:=1) Qd Qsh6 rfl Qavz Qo
   have hop:ty9=1∨ty9=2∨ty9=3:=by omega
   rcases hop with rfl | rfl | rfl
   · have F8:=sd wr2 (Qb.subI (t:=3) (k:=.i64) (a:=1) (b:=1) (c:=0) (by decide))
     have F9:Sd wr2 (.idx 150 (.pointer (qC2 G1)) (.int .i64 0) (.pointer (some ⟨(G1.g 1),0+0*1,none⟩))):=Qb.elemArr (i:=0) underlying150 Qd (by decide)
     have F10:Sd wr2 (.get 9 (.pointer (some ⟨(G1.g 1),0+0*1,none⟩)) (.string ⟨#[66,79,79,76]⟩)):=Qb.cellAt (d:=0) Qd QZB4 rfl QjyW Qo
     have F11:=Z8 wr2 ((tcols i2).nm.data.toList++[32]) [66,79,79,76] QpHD
     have F12:Sd wr2 (.get 4 x2x (.bool y1)):=Qb.cellAt (d:=2) Qd Qsh6 rfl Qavz Qo
     cases y1
     · refine gO (Qn JC 0) (.op 9 3) (qC3 row2 i2 G1) [bx [.string (⟨(((tcols i2).nm.data.toList++[32])++[66,79,79,76]).toArray⟩:ByteArray)]] h2_2 (Q7 F2 F3 F2 F4 F5 F6 F2 F4 F7 F8 F9 F10 F11 F2 F4 F12) fun G4 a4 w4 hst4 _=> ?_
       have eT4:((⟨(((tcols i2).nm.data.toList++[32])++[66,79,79,76]).toArray⟩:ByteArray):ByteArray)=(fun i=>(⟨(crow tnc tcols tkeys kc i).toArray⟩:ByteArray)) i2:=bytes_eq QHjE
       refine Z5 (te:=27) (e:=9) (z:=.string ⟨#[]⟩) (bytes:=16) (sA:=46) (sY:=48) (d:=49) (jb:=0) (cs:=[.v (.string (⟨(((tcols i2).nm.data.toList++[32])++[66,79,79,76]).toArray⟩:ByteArray))]) (k':=Qc (Qn JC 0) (.op 9 4)) (qC4 i2 G1) hst4 (o:=opOf (Qc (Qn JC 0) (.op 9 3))) Qv Qv Qv Qd rfl rfl rfl rfl underlying27 Qd rfl (by decide) (by omega) (by omega) hO2 KH rfl QkzC ⟨by simp only [Qu,RV.conc] <;> rw [eT4],by show (_:ByteArray).size≤_;rw [QK,Qi,JN hi2];have:=hcl i2 hi2;omega⟩ fun v4 u4 b4 hP4 h4_4=> ?_
       have hsv4:=h4_4.st u4
       have F13:=sd u4 (Qb.inc (t:=3) (i:=i2) (by omega))
       refine gF .nrm [(qC7 i2),(4,.v (v4)),(qC8 G1),(qC5 G1)] [] hsv4 (Zg F13) fun g0 a0 w0 h0 _=>⟨_,_,RC.St.ev (l:=[(qC9 i2),(4,v4),(qC12 G1),(qC6 G1)]) h0,hP4.keep KH h0.rp.below⟩
     have F14:=Z8 wr2 (((tcols i2).nm.data.toList++[32])++[66,79,79,76]) [32,78,79,84,32,78,85,76,76] QpHD
     refine gO (Qn JC 0) (.op 9 3) (qC3 row2 i2 G1) [bx [.string (⟨((((tcols i2).nm.data.toList++[32])++[66,79,79,76])++[32,78,79,84,32,78,85,76,76]).toArray⟩:ByteArray)]] h2_2 (kO1 F2 (Q7 F3 F2 F4 F5 F6 F2 F4 F7 F8 F9 F10 F11 F2 F4 F12 F14)) fun G5 a5 w5 hst5 _=> ?_
     have eT5:((⟨((((tcols i2).nm.data.toList++[32])++[66,79,79,76])++[32,78,79,84,32,78,85,76,76]).toArray⟩:ByteArray):ByteArray)=(fun i=>(⟨(crow tnc tcols tkeys kc i).toArray⟩:ByteArray)) i2:=bytes_eq QHjE
     refine Z5 (te:=27) (e:=9) (z:=.string ⟨#[]⟩) (bytes:=16) (sA:=46) (sY:=48) (d:=49) (jb:=0) (cs:=[.v (.string (⟨((((tcols i2).nm.data.toList++[32])++[66,79,79,76])++[32,78,79,84,32,78,85,76,76]).toArray⟩:ByteArray))]) (k':=Qc (Qn JC 0) (.op 9 4)) (qC4 i2 G1) hst5 (o:=opOf (Qc (Qn JC 0) (.op 9 3))) Qv Qv Qv Qd rfl rfl rfl rfl underlying27 Qd rfl (by decide) (by omega) (by omega) hO2 KH rfl QkzC ⟨by simp only [Qu,RV.conc] <;> rw [eT5],by show (_:ByteArray).size≤_;rw [QK,Qi,JN hi2];have:=hcl i2 hi2;omega⟩ fun v5 u5 b5 hP5 h4_5=> ?_
     have hsv5:=h4_5.st u5
     have F15:=sd u5 (Qb.inc (t:=3) (i:=i2) (by omega))
     refine gF .nrm [(qC7 i2),(4,.v (v5)),(qC8 G1),(qC5 G1)] [] hsv5 (Zg F15) fun g0 a0 w0 h0 _=>⟨_,_,RC.St.ev (l:=[(qC9 i2),(4,v5),(qC12 G1),(qC6 G1)]) h0,hP5.keep KH h0.rp.below⟩
   · have F16:=sd wr2 (Qb.subI (t:=3) (k:=.i64) (a:=2) (b:=1) (c:=1) (by decide))
     have F17:Sd wr2 (.idx 150 (.pointer (qC2 G1)) (.int .i64 1) (.pointer (some ⟨(G1.g 1),0+1*1,none⟩))):=Qb.elemArr (i:=1) underlying150 Qd (by decide)
     have F18:Sd wr2 (.get 9 (.pointer (some ⟨(G1.g 1),0+1*1,none⟩)) (.string ⟨#[73,78,84]⟩)):=Qb.cellAt (d:=1) Qd QZB4 rfl QjyW Qo
     have F19:=Z8 wr2 ((tcols i2).nm.data.toList++[32]) [73,78,84] QeSd
     have F20:Sd wr2 (.get 4 x2x (.bool y1)):=Qb.cellAt (d:=2) Qd Qsh6 rfl Qavz Qo
     cases y1
     · refine gO (Qn JC 0) (.op 9 3) (qC3 row2 i2 G1) [bx [.string (⟨(((tcols i2).nm.data.toList++[32])++[73,78,84]).toArray⟩:ByteArray)]] h2_2 (Q7 F2 F3 F2 F4 F5 F6 F2 F4 F7 F16 F17 F18 F19 F2 F4 F20) fun G6 a6 w6 hst6 _=> ?_
       have eT6:((⟨(((tcols i2).nm.data.toList++[32])++[73,78,84]).toArray⟩:ByteArray):ByteArray)=(fun i=>(⟨(crow tnc tcols tkeys kc i).toArray⟩:ByteArray)) i2:=bytes_eq QzrN
       refine Z5 (te:=27) (e:=9) (z:=.string ⟨#[]⟩) (bytes:=16) (sA:=46) (sY:=48) (d:=49) (jb:=0) (cs:=[.v (.string (⟨(((tcols i2).nm.data.toList++[32])++[73,78,84]).toArray⟩:ByteArray))]) (k':=Qc (Qn JC 0) (.op 9 4)) (qC4 i2 G1) hst6 (o:=opOf (Qc (Qn JC 0) (.op 9 3))) Qv Qv Qv Qd rfl rfl rfl rfl underlying27 Qd rfl (by decide) (by omega) (by omega) hO2 KH rfl QkzC ⟨by simp only [Qu,RV.conc] <;> rw [eT6],by show (_:ByteArray).size≤_;rw [QK,Qi,JN hi2];have:=hcl i2 hi2;omega⟩ fun v6 u6 b6 hP6 h4_6=> ?_
       have hsv6:=h4_6.st u6
       have F21:=sd u6 (Qb.inc (t:=3) (i:=i2) (by omega))
       refine gF .nrm [(qC7 i2),(4,.v (v6)),(qC8 G1),(qC5 G1)] [] hsv6 (Zg F21) fun g0 a0 w0 h0 _=>⟨_,_,RC.St.ev (l:=[(qC9 i2),(4,v6),(qC12 G1),(qC6 G1)]) h0,hP6.keep KH h0.rp.below⟩
     have F22:=Z8 wr2 (((tcols i2).nm.data.toList++[32])++[73,78,84]) [32,78,79,84,32,78,85,76,76] QeSd
     refine gO (Qn JC 0) (.op 9 3) (qC3 row2 i2 G1) [bx [.string (⟨((((tcols i2).nm.data.toList++[32])++[73,78,84])++[32,78,79,84,32,78,85,76,76]).toArray⟩:ByteArray)]] h2_2 (kO1 F2 (Q7 F3 F2 F4 F5 F6 F2 F4 F7 F16 F17 F18 F19 F2 F4 F20 F22)) fun G7 a7 w7 hst7 _=> ?_
     have eT7:((⟨((((tcols i2).nm.data.toList++[32])++[73,78,84])++[32,78,79,84,32,78,85,76,76]).toArray⟩:ByteArray):ByteArray)=(fun i=>(⟨(crow tnc tcols tkeys kc i).toArray⟩:ByteArray)) i2:=bytes_eq QzrN
     refine Z5 (te:=27) (e:=9) (z:=.string ⟨#[]⟩) (bytes:=16) (sA:=46) (sY:=48) (d:=49) (jb:=0) (cs:=[.v (.string (⟨((((tcols i2).nm.data.toList++[32])++[73,78,84])++[32,78,79,84,32,78,85,76,76]).toArray⟩:ByteArray))]) (k':=Qc (Qn JC 0) (.op 9 4)) (qC4 i2 G1) hst7 (o:=opOf (Qc (Qn JC 0) (.op 9 3))) Qv Qv Qv Qd rfl rfl rfl rfl underlying27 Qd rfl (by decide) (by omega) (by omega) hO2 KH rfl QkzC ⟨by simp only [Qu,RV.conc] <;> rw [eT7],by show (_:ByteArray).size≤_;rw [QK,Qi,JN hi2];have:=hcl i2 hi2;omega⟩ fun v7 u7 b7 hP7 h4_7=> ?_
     have hsv7:=h4_7.st u7
     have F23:=sd u7 (Qb.inc (t:=3) (i:=i2) (by omega))
     refine gF .nrm [(qC7 i2),(4,.v (v7)),(qC8 G1),(qC5 G1)] [] hsv7 (Zg F23) fun g0 a0 w0 h0 _=>⟨_,_,RC.St.ev (l:=[(qC9 i2),(4,v7),(qC12 G1),(qC6 G1)]) h0,hP7.keep KH h0.rp.below⟩
   have F24:=sd wr2 (Qb.subI (t:=3) (k:=.i64) (a:=3) (b:=1) (c:=2) (by decide))
   have F25:Sd wr2 (.idx 150 (.pointer (qC2 G1)) (.int .i64 2) (.pointer (some ⟨(G1.g 1),0+2*1,none⟩))):=Qb.elemArr (i:=2) underlying150 Qd (by decide)
   have F26:Sd wr2 (.get 9 (.pointer (some ⟨(G1.g 1),0+2*1,none⟩)) (.string ⟨#[84,69,88,84]⟩)):=Qb.cellAt (d:=2) Qd QZB4 rfl QjyW Qo
   have F27:=Z8 wr2 ((tcols i2).nm.data.toList++[32]) [84,69,88,84] QOof
   have F28:Sd wr2 (.get 4 x2x (.bool y1)):=Qb.cellAt (d:=2) Qd Qsh6 rfl Qavz Qo
   cases y1
   · refine gO (Qn JC 0) (.op 9 3) (qC3 row2 i2 G1) [bx [.string (⟨(((tcols i2).nm.data.toList++[32])++[84,69,88,84]).toArray⟩:ByteArray)]] h2_2 (Q7 F2 F3 F2 F4 F5 F6 F2 F4 F7 F24 F25 F26 F27 F2 F4 F28) fun G8 a8 w8 hst8 _=> ?_
     have eT8:((⟨(((tcols i2).nm.data.toList++[32])++[84,69,88,84]).toArray⟩:ByteArray):ByteArray)=(fun i=>(⟨(crow tnc tcols tkeys kc i).toArray⟩:ByteArray)) i2:=bytes_eq QLPq
     refine Z5 (te:=27) (e:=9) (z:=.string ⟨#[]⟩) (bytes:=16) (sA:=46) (sY:=48) (d:=49) (jb:=0) (cs:=[.v (.string (⟨(((tcols i2).nm.data.toList++[32])++[84,69,88,84]).toArray⟩:ByteArray))]) (k':=Qc (Qn JC 0) (.op 9 4)) (qC4 i2 G1) hst8 (o:=opOf (Qc (Qn JC 0) (.op 9 3))) Qv Qv Qv Qd rfl rfl rfl rfl underlying27 Qd rfl (by decide) (by omega) (by omega) hO2 KH rfl QkzC ⟨by simp only [Qu,RV.conc] <;> rw [eT8],by show (_:ByteArray).size≤_;rw [QK,Qi,JN hi2];have:=hcl i2 hi2;omega⟩ fun v8 u8 b8 hP8 h4_8=> ?_
     have hsv8:=h4_8.st u8
     have F29:=sd u8 (Qb.inc (t:=3) (i:=i2) (by omega))
     refine gF .nrm [(qC7 i2),(4,.v (v8)),(qC8 G1),(qC5 G1)] [] hsv8 (Zg F29) fun g0 a0 w0 h0 _=>⟨_,_,RC.St.ev (l:=[(qC9 i2),(4,v8),(qC12 G1),(qC6 G1)]) h0,hP8.keep KH h0.rp.below⟩
   have F30:=Z8 wr2 (((tcols i2).nm.data.toList++[32])++[84,69,88,84]) [32,78,79,84,32,78,85,76,76] QOof
   refine gO (Qn JC 0) (.op 9 3) (qC3 row2 i2 G1) [bx [.string (⟨((((tcols i2).nm.data.toList++[32])++[84,69,88,84])++[32,78,79,84,32,78,85,76,76]).toArray⟩:ByteArray)]] h2_2 (kO1 F2 (Q7 F3 F2 F4 F5 F6 F2 F4 F7 F24 F25 F26 F27 F2 F4 F28 F30)) fun G9 a9 w9 hst9 _=> ?_
   have eT9:((⟨((((tcols i2).nm.data.toList++[32])++[84,69,88,84])++[32,78,79,84,32,78,85,76,76]).toArray⟩:ByteArray):ByteArray)=(fun i=>(⟨(crow tnc tcols tkeys kc i).toArray⟩:ByteArray)) i2:=bytes_eq QLPq
   refine Z5 (te:=27) (e:=9) (z:=.string ⟨#[]⟩) (bytes:=16) (sA:=46) (sY:=48) (d:=49) (jb:=0) (cs:=[.v (.string (⟨((((tcols i2).nm.data.toList++[32])++[84,69,88,84])++[32,78,79,84,32,78,85,76,76]).toArray⟩:ByteArray))]) (k':=Qc (Qn JC 0) (.op 9 4)) (qC4 i2 G1) hst9 (o:=opOf (Qc (Qn JC 0) (.op 9 3))) Qv Qv Qv Qd rfl rfl rfl rfl underlying27 Qd rfl (by decide) (by omega) (by omega) hO2 KH rfl QkzC ⟨by simp only [Qu,RV.conc] <;> rw [eT9],by show (_:ByteArray).size≤_;rw [QK,Qi,JN hi2];have:=hcl i2 hi2;omega⟩ fun v9 u9 b9 hP9 h4_9=> ?_
   have hsv9:=h4_9.st u9
   have F31:=sd u9 (Qb.inc (t:=3) (i:=i2) (by omega))
   refine gF .nrm [(qC7 i2),(4,.v (v9)),(qC8 G1),(qC5 G1)] [] hsv9 (Zg F31) fun g0 a0 w0 h0 _=>⟨_,_,RC.St.ev (l:=[(qC9 i2),(4,v9),(qC12 G1),(qC6 G1)]) h0,hP9.keep KH h0.rp.below⟩
 have pr2:BM W w1 wr2:=pm2.seg hO2.bl
 have h2_2:=he2.st wr2
 have htst2e:decide (((tnc:Nat):Int)<((tnc:Nat):Int))=false:=by simp
 have F32:Sd wr2 (.get 22 (.pointer (some ⟨(G1.g 0),2,none⟩)) (.slice tA tnc tc)):=Qb.cellAt (d:=2) Qd QEBn rfl QfLB Qo
 have F33:=JE wr2 htst2e
 refine gF (.ex 0) [(4,.v (row2)),(qC8 G1),(qC5 G1)] [] h2_2 (Km F32 F33) fun G10 a10 w10 hst10 _=>brk ?_
 refine gO JC (.loop 2) [(7,.v qC11),(4,.v (row2)),(qC5 G1)] [] hst10 Zk fun G11 a11 w11 h11_ _=> ?_
 have pm11:=pr2.seg h11_.rp.below
 have hm11:=St.reb' (fr':=[(7,.v qC11),(4,.v (row2)),(qC5 G1)]) h11_ rfl
 have ro11:=hO2.keep KH h11_.rp.below
 refine rowLoop2 (P:=prog) JC 2 7 4 tnk tnc 9 1 (fun W1 i cs=>cs=[.string ((fun i=>(⟨(crow tnc tcols tkeys kc i).toArray⟩:ByteArray)) i)]∧((fun i=>(⟨(crow tnc tcols tkeys kc i).toArray⟩:ByteArray)) i).size≤9223372036854775807) (lv:=[(qC6 G1)]) Qv ro11 (RC.St.ev (l:=[(7,.int .i64 ((0:Nat):Int)),(4,row2),(qC6 G1)]) hm11) (fun i11 hi11 row11 wr11 b11 css11 hO11 he11=> ?_) (fun row11 wr11 b11 css11 hO11 he11=> ?_)
 · let x3x:Fr:=[(74,.s 0 0 1 1),(64,.v (row11)),(7,.v (.int .i64 ((i11:Nat):Int))),(qC5 G1)]
   have pr11:BM W w1 wr11:=pm2.seg hO11.bl
   have h2_11:=he11.st wr11
   have htst11:decide (((i11:Nat):Int)<((tnk:Nat):Int))=true:=by simp;omega
   obtain ⟨eb12,eo12,ed12,es12,eq12,el12,em12,ep12,er12⟩:=ia.kc.at (i:=(i11)) hi11
   have pp12:=ep12
   obtain ⟨kv12,rfl,ks12⟩:=ep12
   obtain ⟨KA12,kc12,rfl⟩:=ks12.form
   obtain ⟨eb13,eo13,ed13,es13,eq13,el13,em13,ep13,er13⟩:=t2.at (i:=(i11)) hi11
   have pp13:=ep13
   obtain ⟨sz13,kv13,rfl,ks13⟩:=ep13
   obtain ⟨KA13,kc13,rfl⟩:=ks13.form
   obtain ⟨y34,hy34⟩: ∃ z,(tkeys i11).un=z:=⟨_,rfl⟩
   rw [hy34] at er13 pp13
   obtain ⟨y35,hy35⟩: ∃ z,(tkeys i11).pr=z:=⟨_,rfl⟩
   rw [hy35] at er13 pp13
   have hq11:=hkl i11 hi11
   unfold keyR at hq11
   have F36:Sd wr11 (.get 26 (.pointer (some ⟨(G1.g 0),4,none⟩)) (.slice A1 tnk c1)):=Qb.cellAt (d:=4) Qd QCWm rfl Qx7B Qo
   have F37:=JE wr11 htst11
   have F38:Sd wr11 (.get 23 (.pointer (some ⟨(G1.g 0),3,none⟩)) (.slice tB tnk td)):=Qb.cellAt (d:=3) Qd QCWm rfl Qx7B Qo
   have F39:=nEl wr11 4 eq13 underlying23 hi11
   have F40:Sd wr11 (.get 4 (.pointer (some ⟨eb13,eo13+i11*4+3,none⟩)) (.bool y35)):=Qb.cellAt (d:=3) Qd (Qz er13 (.below pr11.bl)) rfl (Nat.lt_of_lt_of_le el13 pr11.bl.size) Qo
   cases y35
   · have F41:=nEl wr11 1 eq12 underlying26 hi11
     have F42:Sd wr11 (.get 27 (.pointer (some ⟨eb12,eo12+i11*1,none⟩)) (.slice KA12 (kc i11).n kc12)):=Qb.cellAt (d:=0) Qd (Qz er12 (.below pr11.bl)) rfl (Nat.lt_of_lt_of_le el12 pr11.bl.size) Qo
     have C43:Sd wr11 (.call 29 [.slice KA12 (kc i11).n kc12] (.string ⟨(Qk (kc i11).n (fun i=>((kc i11).f i).data.toList)).toArray⟩)):=by exact Qb.of func29 rfl Qd Qk9C
     have F44:=Z8 wr11 [85,78,73,81,85,69,32,40] (Qk (kc i11).n (fun i=>((kc i11).f i).data.toList)) QWWB
     have F45:=Z8 wr11 ([85,78,73,81,85,69,32,40]++(Qk (kc i11).n (fun i=>((kc i11).f i).data.toList))) [41] QWWB
     refine gO (Qn JC 2) (.op 16 11) x3x [bx [.string (⟨(([85,78,73,81,85,69,32,40]++(Qk (kc i11).n (fun i=>((kc i11).f i).data.toList)))++[41]).toArray⟩:ByteArray)]] h2_11 (JD F36 F37 F38 F39 F40 F36 F41 F42 C43 F44 F45) fun G14 a14 w14 hst14 _=> ?_
     have eT14:((⟨(([85,78,73,81,85,69,32,40]++(Qk (kc i11).n (fun i=>((kc i11).f i).data.toList)))++[41]).toArray⟩:ByteArray):ByteArray)=(fun i=>(⟨(crow tnc tcols tkeys kc i).toArray⟩:ByteArray)) (tnc+i11):=bytes_eq QSRg
     refine Z5 (te:=27) (e:=9) (z:=.string ⟨#[]⟩) (bytes:=16) (sA:=64) (sY:=74) (d:=75) (jb:=0) (cs:=[.v (.string (⟨(([85,78,73,81,85,69,32,40]++(Qk (kc i11).n (fun i=>((kc i11).f i).data.toList)))++[41]).toArray⟩:ByteArray))]) (k':=Qc (Qn JC 2) (.op 16 12)) [(7,.int .i64 ((i11:Nat):Int)),(qC6 G1)] hst14 (o:=opOf (Qc (Qn JC 2) (.op 16 11))) Qv Qv Qv Qd rfl rfl rfl rfl underlying27 Qd rfl (by decide) (by omega) (by omega) hO11 KH rfl QkzC ⟨by simp only [Qu,RV.conc] <;> rw [eT14],by show (_:ByteArray).size≤_;rw [QK,Qi,crow_ge];have:=hkl i11 hi11;omega⟩ fun v14 u14 b14 hP14 h4_14=> ?_
     have hsv14:=h4_14.st u14
     have F46:=sd u14 (Qb.inc (t:=3) (i:=i11) (by omega))
     refine gF .nrm [(7,.v (.int .i64 ((i11+1:Nat):Int))),(4,.v (v14)),(qC5 G1)] [] hsv14 (Zg F46) fun g0 a0 w0 h0 _=>⟨_,_,RC.St.ev (l:=[(7,.int .i64 ((i11+1:Nat):Int)),(4,v14),(qC6 G1)]) h0,hP14.keep KH h0.rp.below⟩
   have F47:=nEl wr11 1 eq12 underlying26 hi11
   have F48:Sd wr11 (.get 27 (.pointer (some ⟨eb12,eo12+i11*1,none⟩)) (.slice KA12 (kc i11).n kc12)):=Qb.cellAt (d:=0) Qd (Qz er12 (.below pr11.bl)) rfl (Nat.lt_of_lt_of_le el12 pr11.bl.size) Qo
   have C49:Sd wr11 (.call 29 [.slice KA12 (kc i11).n kc12] (.string ⟨(Qk (kc i11).n (fun i=>((kc i11).f i).data.toList)).toArray⟩)):=by exact Qb.of func29 rfl Qd Qk9C
   have F50:=Z8 wr11 [80,82,73,77,65,82,89,32,75,69,89,32,40] (Qk (kc i11).n (fun i=>((kc i11).f i).data.toList)) QWWB
   have F51:=Z8 wr11 ([80,82,73,77,65,82,89,32,75,69,89,32,40]++(Qk (kc i11).n (fun i=>((kc i11).f i).data.toList))) [41] QWWB
   refine gO (Qn JC 2) (.op 16 11) x3x [bx [.string (⟨(([80,82,73,77,65,82,89,32,75,69,89,32,40]++(Qk (kc i11).n (fun i=>((kc i11).f i).data.toList)))++[41]).toArray⟩:ByteArray)]] h2_11 (JD F36 F37 F38 F39 F40 F36 F47 F48 C49 F50 F51) fun G15 a15 w15 hst15 _=> ?_
   have eT15:((⟨(([80,82,73,77,65,82,89,32,75,69,89,32,40]++(Qk (kc i11).n (fun i=>((kc i11).f i).data.toList)))++[41]).toArray⟩:ByteArray):ByteArray)=(fun i=>(⟨(crow tnc tcols tkeys kc i).toArray⟩:ByteArray)) (tnc+i11):=bytes_eq QSRg
   refine Z5 (te:=27) (e:=9) (z:=.string ⟨#[]⟩) (bytes:=16) (sA:=64) (sY:=74) (d:=75) (jb:=0) (cs:=[.v (.string (⟨(([80,82,73,77,65,82,89,32,75,69,89,32,40]++(Qk (kc i11).n (fun i=>((kc i11).f i).data.toList)))++[41]).toArray⟩:ByteArray))]) (k':=Qc (Qn JC 2) (.op 16 12)) [(7,.int .i64 ((i11:Nat):Int)),(qC6 G1)] hst15 (o:=opOf (Qc (Qn JC 2) (.op 16 11))) Qv Qv Qv Qd rfl rfl rfl rfl underlying27 Qd rfl (by decide) (by omega) (by omega) hO11 KH rfl QkzC ⟨by simp only [Qu,RV.conc] <;> rw [eT15],by show (_:ByteArray).size≤_;rw [QK,Qi,crow_ge];have:=hkl i11 hi11;omega⟩ fun v15 u15 b15 hP15 h4_15=> ?_
   have hsv15:=h4_15.st u15
   have F52:=sd u15 (Qb.inc (t:=3) (i:=i11) (by omega))
   refine gF .nrm [(7,.v (.int .i64 ((i11+1:Nat):Int))),(4,.v (v15)),(qC5 G1)] [] hsv15 (Zg F52) fun g0 a0 w0 h0 _=>⟨_,_,RC.St.ev (l:=[(7,.int .i64 ((i11+1:Nat):Int)),(4,v15),(qC6 G1)]) h0,hP15.keep KH h0.rp.below⟩
 have pr11:BM W w1 wr11:=pm2.seg hO11.bl
 have h2_11:=he11.st wr11
 have hns11:ZD wr11 (tnc+tnk) (fun i=>(⟨(crow tnc tcols tkeys kc i).toArray⟩:ByteArray)) row11:=(hO11.done (bytes:=16) KH (by exact hn0)).sub only_sub
 obtain ⟨RA11,rc11,rfl⟩:=hns11.form
 have htst11e:decide (((tnk:Nat):Int)<((tnk:Nat):Int))=false:=by simp
 have F53:Sd wr11 (.get 26 (.pointer (some ⟨(G1.g 0),4,none⟩)) (.slice A1 tnk c1)):=Qb.cellAt (d:=4) Qd QCWm rfl Qx7B Qo
 have F54:=JE wr11 htst11e
 refine gF (.ex 2) [(4,.v (.slice RA11 (tnc+tnk) rc11)),(qC5 G1)] [] h2_11 (Km F53 F54) fun G16 a16 w16 hst16 _=>brk ?_
 have hL:(Qk (tnc+tnk) (fun i=>(⟨(crow tnc tcols tkeys kc i).toArray⟩:ByteArray).data.toList)).length=(Qk (tnc+tnk) (crow tnc tcols tkeys kc)).length:=by simp only [Qi]
 have F55:Sd wr11 (.get 9 (.pointer (some ⟨(G1.g 0),1,none⟩)) (.string tnm)):=Qb.cellAt (d:=1) Qd QCWm rfl Qx7B Qo
 have F56:=xLB wr11 [67,82,69,65,84,69,32,84,65,66,76,69,32] tnm QloB
 have F57:=Z8 wr11 ([67,82,69,65,84,69,32,84,65,66,76,69,32]++tnm.data.toList) [32,40] QloB
 have C58:Sd wr11 (.call 29 [.slice RA11 (tnc+tnk) rc11] (.string ⟨(Qk (tnc+tnk) (fun i=>((fun i=>(⟨(crow tnc tcols tkeys kc i).toArray⟩:ByteArray)) i).data.toList)).toArray⟩)):=by exact Qb.of func29 rfl Qd (fun w hw=>KB (tnc+tnk) (fun i=>(⟨(crow tnc tcols tkeys kc i).toArray⟩:ByteArray)) _ w (ZD.sub (.below hw) hns11) (by omega))
 have F59:=Z8 wr11 (([67,82,69,65,84,69,32,84,65,66,76,69,32]++tnm.data.toList)++[32,40]) (Qk (tnc+tnk) (fun i=>((fun i=>(⟨(crow tnc tcols tkeys kc i).toArray⟩:ByteArray)) i).data.toList)) QloB
 have F60:=Z8 wr11 ((([67,82,69,65,84,69,32,84,65,66,76,69,32]++tnm.data.toList)++[32,40])++(Qk (tnc+tnk) (fun i=>((fun i=>(⟨(crow tnc tcols tkeys kc i).toArray⟩:ByteArray)) i).data.toList))) [41] QloB
 exact gE hst16 (Je F55 F56 F57 C58 F59 F60) [.string (⟨(((([67,82,69,65,84,69,32,84,65,66,76,69,32]++tnm.data.toList)++[32,40])++(Qk (tnc+tnk) (fun i=>((fun i=>(⟨(crow tnc tcols tkeys kc i).toArray⟩:ByteArray)) i).data.toList)))++[41]).toArray⟩:ByteArray)] fun w' hw=>⟨congrArg (fun z=>Ending.returned (.string z)) (bytes_eq (Eq.trans (Qi _) (by simp only [Qi,aS,List.cons_append]))),Below.andThen pr11.bl hw⟩
end
end Go.Proofs.YtddedijencleeaaGreatDoor
