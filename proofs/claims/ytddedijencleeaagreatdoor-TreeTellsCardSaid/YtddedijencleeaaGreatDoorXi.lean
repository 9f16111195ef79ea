/- ref9.query. -/
import Derived.Test.YtddedijencleeaaGreatDoorSm
import Derived.Test.YtddedijencleeaaGreatDoorMSq
import Derived.Test.YtddedijencleeaaGreatDoorMXh
import Derived.Test.YtddedijencleeaaGreatDoorVi
set_option linter.all false
namespace Go.Proofs.YtddedijencleeaaGreatDoor
set_option maxRecDepth 100000
set_option maxHeartbeats 8000000
open Tryz
noncomputable section
open Go.RowKit Go.Lib RC
theorem KG {word:List UInt8} {e:E} (hm:Zx e=true) {B:Nat} (h:(Qm word e).length≤B):QE e=false→(Qg e).length≤B:=fun hz=>by
 rw [clauseL_z hm hz] at h
 simp only [Bool.false_eq_true,if_false,List.length_append] at h
 omega
theorem srcW_eq (i:Nat) (x:So):QW i x=(if decide (0<((i:Nat):Int))=true then (if x.left=true then [32,76,69,70,84] else [])++[32,74,79,73,78,32] else [])++(x.nm.data.toList++((if QB x.al ⟨#[]⟩ then [] else [32]++x.al.data.toList)++Qm [32,79,78,32] x.e)):=rfl
noncomputable def Q9 (b:List UInt8) (f:Nat→List UInt8):Nat→List UInt8
 | 0=>b
 | n+1=>Q9 b f n++f n
theorem accC_eq (b:List UInt8) (f:Nat→List UInt8): ∀ n,Q9 b f n=b++ZF n f
 | 0=>by simp [Q9,ZF]
 | n+1=>by rw [Q9,accC_eq b f n,ZF,List.append_assoc]
theorem Kh (b:List UInt8) (f:Nat→List UInt8) (n:Nat):(Q9 b f n).length=b.length+(ZF n f).length:=by rw [accC_eq,List.length_append]

noncomputable abbrev Jg:Code:=Qt f33
abbrev Kl(di:Bool)(nit:Nat)(it:Nat→It):List UInt8:=(((([83,69,76,69,67,84,32]:List UInt8)++(if di=true then [68,73,83,84,73,78,67,84,32] else []))++(Qk nit (fun i=>((fun i=>(⟨(ZL (it i)).toArray⟩:ByteArray)) i).data.toList)))++[32,70,82,79,77,32])
abbrev qD2(G1:Env):Nat × RV:=(1,.v (.pointer (some ⟨(G1.g 0),0,none⟩)))
abbrev qD3(G1:Env):Nat × Value:=(1,.pointer (some ⟨(G1.g 0),0,none⟩))
abbrev qD4(i9:Nat):Nat × RV:=(7,.v (.int .i64 ((i9+1:Nat):Int)))
abbrev qD5:Nat × RV:=(3,.v (.string ⟨#[83,69,76,69,67,84,32]⟩))
abbrev qD6:Value:=(.int .i64 ((0:Nat):Int))
abbrev qD7:Nat × RV:=(4,.v (.slice none 0 0))
abbrev qD8(i3:Nat):Nat × RV:=(5,.v (.int .i64 ((i3+1:Nat):Int)))
theorem query9_ok (s:S) (cs:List Value) (W:World) (h:Ks W s cs) (Hit: ∀ i,i<s.nit→(s.it i).star=false→QH (s.it i).e=true) (Hst: ∀ i,i<s.nit→(s.it i).star=true→QB (s.it i).nm ⟨#[]⟩=true) (Hfr: ∀ i,i<s.nfr→Zx (s.fr i).e=true) (hwh:Zx s.wh=true) (Hgr: ∀ i,i<s.gr.n→QH (s.gr.f i)=true) (hhv:Zx s.hv=true) (Hod: ∀ i,i<s.nor→QH (s.od i).e=true) (hb:(Q8 s).length≤140737488355328):Calls prog 33 #[.agg cs.toArray] W fun r W'=>r= .returned (.string ⟨(Q8 s).toArray⟩)∧Below W.heap.size W W':=by
 obtain ⟨kind,⟨tnm,tnc,tcols,tnk,tkeys⟩,nkc,kc,nm,ix,un,⟨ncl,cl⟩,nrw,rw_,nst,st,wh,di,nit,it,nfr,fr,⟨ngr,gr⟩,hv,nor,od,li⟩:=s
 obtain ⟨tA,tc,tB,td,A1,c1,A2,c2,A3,c3,A4,c4,A5,c5,A6,c6,A7,c7,A8,c8,wk,wo,wvk,wvn,wvt,wtb,wnm,wA,wn,wc,wpl,wty,hk,ho,hvk,hvn,hvt,htb,hnm,hA,hn,hc,hpl,hty,rfl,h0,ia,t1,t2⟩:=Ks.opn h
 let x2x:List Value:=(Zs kind tnm tA tnc tc tB tnk td A1 nkc c1 nm ix un A2 ncl c2 A3 nrw c3 A4 nst c4 wk wo wvk wvn wvt wtb wnm wA wn wc wpl wty di A5 nit c5 A6 nfr c6 A7 ngr c7 hk ho hvk hvn hvt htb hnm hA hn hc hpl hty A8 nor c8 li)
 have iwh:=ia.wh
 have ihv:=ia.hv
 have iwf:=ia.wf
 have itn:=ia.tab.1
 simp only at Hit Hst Hfr hwh Hgr hhv Hod
 simp only [Q8] at hb ⊢
 have hb0:=hb
 simp only [lS] at hb
 have hnit:=QR.len ia.it
 have hnfr:=QR.len ia.fr
 have hnor:=QR.len ia.od
 have hsi:nit*16≤140737488355328:=by have q1:nit*144≤140737488355328:=QR.small ia.it;omega
 have hso:nor*16≤140737488355328:=by have q1:nor*128≤140737488355328:=QR.small ia.od;omega
 have hsf:nfr≤140737488355328:=by have q1:nfr*160≤140737488355328:=QR.small ia.fr;omega
 have hli:=ia.wf.li
 have hll:=itoa_len li hli
 have hcl: ∀ i,i<nit→(ZL (it i)).length≤140737488355328:=fun i hi=>by have:=Ji (t:=(fun i=>ZL (it i))) hi;omega
 have hcf: ∀ i,i<nfr→(ZF i (fun i=>QW i (fr i))).length+(QW i (fr i)).length≤(ZF nfr (fun i=>QW i (fr i))).length:=fun i hi=>concN_step (f:=(fun i=>QW i (fr i))) hi
 refine Qj (args:=[.agg (Zs kind tnm tA tnc tc tB tnk td A1 nkc c1 nm ix un A2 ncl c2 A3 nrw c3 A4 nst c4 wk wo wvk wvn wvt wtb wnm wA wn wc wpl wty di A5 nit c5 A6 nfr c6 A7 ngr c7 hk ho hvk hvn hvt htb hnm hA hn hc hpl hty A8 nor c8 li).toArray]) (c:=Jg) func33 rfl (by kernel_rfl) fun a0 hst=> ?_
 refine gO Jg (.op 2 0) [qD5,(1,.p 0 0)] [bx x2x] hst Zk fun G1 a1 w1 h1_ _=> ?_
 have pm1:BM W w1 w1:=⟨h1_.rp.below,Below.refl _ _⟩
 have sb1_0:SB w1 (G1.g 0) x2x:=(h1_.rp.sb 0 _ rfl).1
 have hm1:=St.reb' (fr':=[qD5,(qD2 G1)]) h1_ rfl
 have F1:Sd w1 (.get 4 (.pointer (some ⟨(G1.g 0),21,none⟩)) (.bool di)):=Qb.cellAt (d:=21) Qd QTgh rfl QrEx Qo
 refine joinW (k':=Qc Jg (.op 4 0)) (fun aa ww=>EV f33.ntmps [(3,.string (⟨(([83,69,76,69,67,84,32]:List UInt8)++(if di=true then [68,73,83,84,73,78,67,84,32] else [])).toArray⟩:ByteArray)),(qD3 G1)] aa∧Below w1.heap.size w1 ww) (fun aj2 uj2 hj2=> ?_) (fun KJ2=> ?_)
 · obtain ⟨ej2,bj2⟩:=hj2
   have sj2:=ej2.st uj2
   have pj2:=pm1.seg bj2
   refine gO Jg (.loop 0) [(5,.v qD6),qD7,(3,.v (.string (⟨(([83,69,76,69,67,84,32]:List UInt8)++(if di=true then [68,73,83,84,73,78,67,84,32] else [])).toArray⟩:ByteArray))),(qD2 G1)] [] sj2 Zk fun G3 a3 w3 h3_ _=> ?_
   have pm3:=pj2.seg h3_.rp.below
   have hm3:=St.reb' (fr':=[(5,.v qD6),qD7,(3,.v (.string (⟨(([83,69,76,69,67,84,32]:List UInt8)++(if di=true then [68,73,83,84,73,78,67,84,32] else [])).toArray⟩:ByteArray))),(qD2 G1)]) h3_ rfl
   refine rowLoop (P:=prog) Jg 0 5 4 nit 9 1 (fun W1 i cs=>cs=[.string ((fun i=>(⟨(ZL (it i)).toArray⟩:ByteArray)) i)]∧((fun i=>(⟨(ZL (it i)).toArray⟩:ByteArray)) i).size≤9223372036854775807) (lv:=[(3,.string (⟨(([83,69,76,69,67,84,32]:List UInt8)++(if di=true then [68,73,83,84,73,78,67,84,32] else [])).toArray⟩:ByteArray)),(qD3 G1)]) Qv (RC.St.ev (l:=[(5,.int .i64 ((0:Nat):Int)),(4,.slice none 0 0),(3,.string (⟨(([83,69,76,69,67,84,32]:List UInt8)++(if di=true then [68,73,83,84,73,78,67,84,32] else [])).toArray⟩:ByteArray)),(qD3 G1)]) hm3) (fun i3 hi3 row3 wr3 b3 css3 hO3 he3=> ?_) (fun row3 wr3 b3 css3 hO3 he3=> ?_)
   · have pr3:BM W w1 wr3:=pm3.seg hO3.bl
     have h2_3:=he3.st wr3
     have htst3:decide (((i3:Nat):Int)<((nit:Nat):Int))=true:=by simp;omega
     obtain ⟨eb4,eo4,ed4,es4,eq4,el4,em4,ep4,er4⟩:=ia.it.at (i:=(i3)) hi3
     have pp4:=ep4
     obtain ⟨sz4,ds4,rfl,ie4⟩:=ep4
     obtain ⟨e4k,e4o,e4vk,e4vn,e4vt,e4tb,e4nm,e4A,e4n,e4c,e4pl,e4ty,rfl⟩:=ie4.form
     obtain ⟨y2,hy2⟩: ∃ z,(it i3).star=z:=⟨_,rfl⟩
     rw [hy2] at er4 pp4
     have hq3:=hcl i3 hi3
     unfold ZL at hq3
     have F3:Sd wr3 (.get 35 (.pointer (some ⟨(G1.g 0),22,none⟩)) (.slice A5 nit c5)):=Qb.cellAt (d:=22) Qd Qmwe rfl QGEB Qo
     have F4:=JE wr3 htst3
     have F5:=nEl wr3 12 eq4 underlying35 hi3
     have F6:Sd wr3 (.get 4 (.pointer (some ⟨eb4,eo4+i3*12,none⟩)) (.bool y2)):=Qb.cellAt (d:=0) Qd QChZ rfl Qdpi Qo
     cases y2
     · have F7:Sd wr3 (.get 34 (.pointer (some ⟨eb4,eo4+i3*12+1,none⟩)) (eV e4k e4o e4vk e4vn e4vt e4tb e4nm e4A e4n e4c e4pl e4ty)):=Qb.part (d:=1) Qd Qd QChZ rfl Qdpi Qo
       have C8:Sd wr3 (.call 31 [eV e4k e4o e4vk e4vn e4vt e4tb e4nm e4A e4n e4c e4pl e4ty] (.string ⟨(Qg (it i3).e).toArray⟩)):=by exact Qb.of func31 rfl Qd (fun w hw=>text9_ok (it i3).e _ w (Hit i3 hi3 hy2) (QI.sub Qx7n ie4) (by have hq:=hq3;(try simp only [Qi,hy2,bS,lS] at hq);first | omega | (simp only [Qi,Kh,lS];omega)))
       have F9:Sd wr3 (.get 9 (.pointer (some ⟨eb4,eo4+i3*12+11,none⟩)) (.string (it i3).nm)):=Qb.cellAt (d:=11) Qd QChZ rfl Qdpi Qo
       obtain ⟨z10,hz10⟩: ∃ z,(QB (it i3).nm ⟨#[]⟩)=z:=⟨_,rfl⟩
       have F11:=sd wr3 (Qb.strNe (t:=9) (a:=(it i3).nm) (b:=⟨#[]⟩) (z:=(!z10)) (by rw [← QB,hz10];try rfl))
       cases z10
       · have F12:=Z8 wr3 (Qg (it i3).e) [32,65,83,32] QsSF
         have F13:=xLB wr3 ((Qg (it i3).e)++[32,65,83,32]) ((it i3).nm) QsSF
         refine gO (Qn Jg 0) (.op 13 3) [(54,.s 0 0 1 1),(52,.v (row3)),(5,.v (.int .i64 ((i3:Nat):Int))),(3,.v (.string (⟨(([83,69,76,69,67,84,32]:List UInt8)++(if di=true then [68,73,83,84,73,78,67,84,32] else [])).toArray⟩:ByteArray))),(qD2 G1)] [bx [.string (⟨(((Qg (it i3).e)++[32,65,83,32])++(it i3).nm.data.toList).toArray⟩:ByteArray)]] h2_3 (kO2 F3 F4 (Q7 F3 F5 F6 F3 F5 F7 C8 F3 F5 F9 F11 F12 F3 F5 F9 F13)) fun G5 a5 w5 hst5 _=> ?_
         have eT5:((⟨(((Qg (it i3).e)++[32,65,83,32])++(it i3).nm.data.toList).toArray⟩:ByteArray):ByteArray)=(fun i=>(⟨(ZL (it i)).toArray⟩:ByteArray)) i3:=bytes_eq QdlO
         refine Z5 (te:=27) (e:=9) (z:=.string ⟨#[]⟩) (bytes:=16) (sA:=52) (sY:=54) (d:=55) (jb:=0) (cs:=[.v (.string (⟨(((Qg (it i3).e)++[32,65,83,32])++(it i3).nm.data.toList).toArray⟩:ByteArray))]) (k':=Qc (Qn Jg 0) (.op 13 4)) [(5,.int .i64 ((i3:Nat):Int)),(3,.string (⟨(([83,69,76,69,67,84,32]:List UInt8)++(if di=true then [68,73,83,84,73,78,67,84,32] else [])).toArray⟩:ByteArray)),(qD3 G1)] hst5 (o:=opOf (Qc (Qn Jg 0) (.op 13 3))) Qv Qv Qv Qd rfl rfl rfl rfl underlying27 Qd rfl (by decide) (by omega) (by omega) hO3 KH rfl QkzC ⟨by simp only [Qu,RV.conc] <;> rw [eT5],by show (_:ByteArray).size≤_;rw [QK,Qi];have:=hcl i3 hi3;omega⟩ fun v5 u5 b5 hP5 h4_5=> ?_
         have hsv5:=h4_5.st u5
         have F14:=sd u5 (Qb.inc (t:=3) (i:=i3) (by omega))
         refine gF .nrm [(qD8 i3),(4,.v (v5)),(3,.v (.string (⟨(([83,69,76,69,67,84,32]:List UInt8)++(if di=true then [68,73,83,84,73,78,67,84,32] else [])).toArray⟩:ByteArray))),(qD2 G1)] [] hsv5 (Zg F14) fun g0 a0 w0 h0 _=>⟨_,_,RC.St.ev (l:=[(5,.int .i64 ((i3+1:Nat):Int)),(4,v5),(3,.string (⟨(([83,69,76,69,67,84,32]:List UInt8)++(if di=true then [68,73,83,84,73,78,67,84,32] else [])).toArray⟩:ByteArray)),(qD3 G1)]) h0,hP5.keep KH h0.rp.below⟩
       refine gO (Qn Jg 0) (.op 13 3) [(54,.s 0 0 1 1),(52,.v (row3)),(5,.v (.int .i64 ((i3:Nat):Int))),(3,.v (.string (⟨(([83,69,76,69,67,84,32]:List UInt8)++(if di=true then [68,73,83,84,73,78,67,84,32] else [])).toArray⟩:ByteArray))),(qD2 G1)] [bx [.string (⟨(Qg (it i3).e).toArray⟩:ByteArray)]] h2_3 (kE13 F3 F4 F3 F5 F6 F3 F5 F7 C8 F3 F5 F9 F11) fun G6 a6 w6 hst6 _=> ?_
       have eT6:((⟨(Qg (it i3).e).toArray⟩:ByteArray):ByteArray)=(fun i=>(⟨(ZL (it i)).toArray⟩:ByteArray)) i3:=bytes_eq QdlO
       refine Z5 (te:=27) (e:=9) (z:=.string ⟨#[]⟩) (bytes:=16) (sA:=52) (sY:=54) (d:=55) (jb:=0) (cs:=[.v (.string (⟨(Qg (it i3).e).toArray⟩:ByteArray))]) (k':=Qc (Qn Jg 0) (.op 13 4)) [(5,.int .i64 ((i3:Nat):Int)),(3,.string (⟨(([83,69,76,69,67,84,32]:List UInt8)++(if di=true then [68,73,83,84,73,78,67,84,32] else [])).toArray⟩:ByteArray)),(qD3 G1)] hst6 (o:=opOf (Qc (Qn Jg 0) (.op 13 3))) Qv Qv Qv Qd rfl rfl rfl rfl underlying27 Qd rfl (by decide) (by omega) (by omega) hO3 KH rfl QkzC ⟨by simp only [Qu,RV.conc] <;> rw [eT6],by show (_:ByteArray).size≤_;rw [QK,Qi];have:=hcl i3 hi3;omega⟩ fun v6 u6 b6 hP6 h4_6=> ?_
       have hsv6:=h4_6.st u6
       have F15:=sd u6 (Qb.inc (t:=3) (i:=i3) (by omega))
       refine gF .nrm [(qD8 i3),(4,.v (v6)),(3,.v (.string (⟨(([83,69,76,69,67,84,32]:List UInt8)++(if di=true then [68,73,83,84,73,78,67,84,32] else [])).toArray⟩:ByteArray))),(qD2 G1)] [] hsv6 (Zg F15) fun g0 a0 w0 h0 _=>⟨_,_,RC.St.ev (l:=[(5,.int .i64 ((i3+1:Nat):Int)),(4,v6),(3,.string (⟨(([83,69,76,69,67,84,32]:List UInt8)++(if di=true then [68,73,83,84,73,78,67,84,32] else [])).toArray⟩:ByteArray)),(qD3 G1)]) h0,hP6.keep KH h0.rp.below⟩
     have hstr:=Hst i3 hi3 hy2
     have F16:Sd wr3 (.get 9 (.pointer (some ⟨eb4,eo4+i3*12+11,none⟩)) (.string (it i3).nm)):=Qb.cellAt (d:=11) Qd QChZ rfl Qdpi Qo
     have F17:=sd wr3 (Qb.strNe (t:=9) (a:=(it i3).nm) (b:=⟨#[]⟩) (z:=false) (by rw [← QB,hstr];try rfl))
     refine gO (Qn Jg 0) (.op 13 3) [(54,.s 0 0 1 1),(52,.v (row3)),(5,.v (.int .i64 ((i3:Nat):Int))),(3,.v (.string (⟨(([83,69,76,69,67,84,32]:List UInt8)++(if di=true then [68,73,83,84,73,78,67,84,32] else [])).toArray⟩:ByteArray))),(qD2 G1)] [bx [.string ⟨#[42]⟩]] h2_3 (kE9 F3 F4 F3 F5 F6 F3 F5 F16 F17) fun G7 a7 w7 hst7 _=> ?_
     have eT7:(⟨#[42]⟩:ByteArray)=(fun i=>(⟨(ZL (it i)).toArray⟩:ByteArray)) i3:=bytes_eq (Eq.trans rfl (by simp only [ZL,hy2,hstr,bS,aS,List.cons_append]))
     refine Z5 (te:=27) (e:=9) (z:=.string ⟨#[]⟩) (bytes:=16) (sA:=52) (sY:=54) (d:=55) (jb:=0) (cs:=[.v (.string ⟨#[42]⟩)]) (k':=Qc (Qn Jg 0) (.op 13 4)) [(5,.int .i64 ((i3:Nat):Int)),(3,.string (⟨(([83,69,76,69,67,84,32]:List UInt8)++(if di=true then [68,73,83,84,73,78,67,84,32] else [])).toArray⟩:ByteArray)),(qD3 G1)] hst7 (o:=opOf (Qc (Qn Jg 0) (.op 13 3))) Qv Qv Qv Qd rfl rfl rfl rfl underlying27 Qd rfl (by decide) (by omega) (by omega) hO3 KH rfl QkzC ⟨by simp only [Qu,RV.conc] <;> rw [eT7],by show (_:ByteArray).size≤_;rw [QK,Qi];have:=hcl i3 hi3;omega⟩ fun v7 u7 b7 hP7 h4_7=> ?_
     have hsv7:=h4_7.st u7
     have F18:=sd u7 (Qb.inc (t:=3) (i:=i3) (by omega))
     refine gF .nrm [(qD8 i3),(4,.v (v7)),(3,.v (.string (⟨(([83,69,76,69,67,84,32]:List UInt8)++(if di=true then [68,73,83,84,73,78,67,84,32] else [])).toArray⟩:ByteArray))),(qD2 G1)] [] hsv7 (Zg F18) fun g0 a0 w0 h0 _=>⟨_,_,RC.St.ev (l:=[(5,.int .i64 ((i3+1:Nat):Int)),(4,v7),(3,.string (⟨(([83,69,76,69,67,84,32]:List UInt8)++(if di=true then [68,73,83,84,73,78,67,84,32] else [])).toArray⟩:ByteArray)),(qD3 G1)]) h0,hP7.keep KH h0.rp.below⟩
   have pr3:BM W w1 wr3:=pm3.seg hO3.bl
   have h2_3:=he3.st wr3
   have hns3:ZD wr3 nit (fun i=>(⟨(ZL (it i)).toArray⟩:ByteArray)) row3:=(hO3.done (bytes:=16) KH (by exact hsi)).sub only_sub
   obtain ⟨RA3,rc3,rfl⟩:=hns3.form
   have htst3e:decide (((nit:Nat):Int)<((nit:Nat):Int))=false:=by simp
   have F19:Sd wr3 (.get 35 (.pointer (some ⟨(G1.g 0),22,none⟩)) (.slice A5 nit c5)):=Qb.cellAt (d:=22) Qd Qmwe rfl QGEB Qo
   have F20:=JE wr3 htst3e
   refine gF (.ex 0) [(4,.v (.slice RA3 nit rc3)),(3,.v (.string (⟨(([83,69,76,69,67,84,32]:List UInt8)++(if di=true then [68,73,83,84,73,78,67,84,32] else [])).toArray⟩:ByteArray))),(qD2 G1)] [] h2_3 (Km F19 F20) fun G8 a8 w8 hst8 _=>brk ?_
   have C21:Sd wr3 (.call 29 [.slice RA3 nit rc3] (.string ⟨(Qk nit (fun i=>((fun i=>(⟨(ZL (it i)).toArray⟩:ByteArray)) i).data.toList)).toArray⟩)):=by exact Qb.of func29 rfl Qd (fun w hw=>KB nit (fun i=>(⟨(ZL (it i)).toArray⟩:ByteArray)) _ w (ZD.sub (.below hw) hns3) (by (try simp only [Qi]);have hq:=hb;(try simp only [Qi,bS,lS] at hq);first | omega | (simp only [Qi,Kh,lS];omega)))
   have F22:=Z8 wr3 (([83,69,76,69,67,84,32]:List UInt8)++(if di=true then [68,73,83,84,73,78,67,84,32] else [])) (Qk nit (fun i=>((fun i=>(⟨(ZL (it i)).toArray⟩:ByteArray)) i).data.toList)) Qz6S
   have F23:=Z8 wr3 ((([83,69,76,69,67,84,32]:List UInt8)++(if di=true then [68,73,83,84,73,78,67,84,32] else []))++(Qk nit (fun i=>((fun i=>(⟨(ZL (it i)).toArray⟩:ByteArray)) i).data.toList))) [32,70,82,79,77,32] Qz6S
   have hbs:((Kl di nit it)).length+(ZF nfr (fun i=>QW i (fr i))).length≤140737488355328:=by (try simp only [lS,Qi]);omega
   refine gO Jg (.loop 2) [(7,.v qD6),(3,.v (.string (⟨(Q9 (Kl di nit it) (fun i=>QW i (fr i)) 0).toArray⟩:ByteArray))),(qD2 G1)] [] hst8 (kE3 C21 F22 F23) fun G9 a9 w9 hst9 _=> ?_
   refine Kt Jg 2 Qv (nfr) (fun ii aa ww=> ∃ gg,RC.St wr3.heap.size wr3 f33.ntmps ((7,.v (.int .i64 ((ii:Nat):Int)))::(3,.v (.string (⟨(Q9 (Kl di nit it) (fun i=>QW i (fr i)) ii).toArray⟩:ByteArray)))::[(qD2 G1)]) [] gg aa ww) ⟨G9,hst9⟩ (fun i9 hi9 b9 u9 hI9=> ?_) (fun b9 u9 hI9=> ?_)
   · obtain ⟨g9,hs9⟩:=hI9
     have htst9:decide (((i9:Nat):Int)<((nfr:Nat):Int))=true:=by simp;omega
     obtain ⟨eb10,eo10,ed10,es10,eq10,el10,em10,ep10,er10⟩:=ia.fr.at (i:=(i9)) hi9
     have pp10:=ep10
     obtain ⟨sz10,sa10,ds10,rfl,ie10⟩:=ep10
     obtain ⟨e10k,e10o,e10vk,e10vn,e10vt,e10tb,e10nm,e10A,e10n,e10c,e10pl,e10ty,rfl⟩:=ie10.form
     let x1x:List Value:=[.string ⟨#[79,78]⟩,eV e10k e10o e10vk e10vn e10vt e10tb e10nm e10A e10n e10c e10pl e10ty]
     obtain ⟨y24,hy24⟩: ∃ z,(fr i9).left=z:=⟨_,rfl⟩
     rw [hy24] at er10 pp10
     have hq9:=hcf i9 hi9
     rw [srcW_eq i9 (fr i9)] at hq9
     have F25:Sd wr3 (.get 36 (.pointer (some ⟨(G1.g 0),23,none⟩)) (.slice A6 nfr c6)):=Qb.cellAt (d:=23) Qd Qmwe rfl QGEB Qo
     have F26:=JE wr3 htst9
     have F27:=nEl wr3 13 eq10 underlying36 hi9
     have F28:Sd wr3 (.get 65 (.pointer (some ⟨eb10,eo10+i9*13,none⟩)) (.agg #[.string (fr i9).nm,.string (fr i9).al,.bool y24,.int .i64 e10k,.int .i64 e10o,.int .i64 e10vk,.int .i64 e10vn,.string e10vt,.string e10tb,.string e10nm,.slice e10A e10n e10c,.int .i64 e10pl,.int .i64 e10ty])):=Qb.row Qd Qd (Qz er10 (.below pr3.bl)) (Nat.lt_of_lt_of_le el10 pr3.bl.size) Qo
     obtain ⟨z29,hz29⟩: ∃ z,(decide (0<((i9:Nat):Int)))=z:=⟨_,rfl⟩
     have F30:=nGt wr3 hz29
     cases z29
     · have F31:=nGt wr3 hz29
       have F32:=xLB wr3 (Q9 (Kl di nit it) (fun i=>QW i (fr i)) i9) ((fr i9).nm) Qx8C
       obtain ⟨z33,hz33⟩: ∃ z,(QB (fr i9).al ⟨#[]⟩)=z:=⟨_,rfl⟩
       have F34:=sd wr3 (Qb.strNe (t:=9) (a:=(fr i9).al) (b:=⟨#[]⟩) (z:=(!z33)) QP7e)
       cases z33
       · have F35:=Z8 wr3 ((Q9 (Kl di nit it) (fun i=>QW i (fr i)) i9)++(fr i9).nm.data.toList) [32] QT7H
         have F36:=xLB wr3 (((Q9 (Kl di nit it) (fun i=>QW i (fr i)) i9)++(fr i9).nm.data.toList)++[32]) ((fr i9).al) QT7H
         have C37:Sd wr3 (.call 32 x1x (.string ⟨(Qm [32,79,78,32] (fr i9).e).toArray⟩)):=by exact Qb.of func32 rfl Qd QWxQ
         have F38:=Z8 wr3 ((((Q9 (Kl di nit it) (fun i=>QW i (fr i)) i9)++(fr i9).nm.data.toList)++[32])++(fr i9).al.data.toList) (Qm [32,79,78,32] (fr i9).e) QT7H
         have F39:=sd wr3 (Qb.inc (t:=3) (i:=i9) (by omega))
         have e0:(((((Q9 (Kl di nit it) (fun i=>QW i (fr i)) i9)++(fr i9).nm.data.toList)++[32])++(fr i9).al.data.toList)++(Qm [32,79,78,32] (fr i9).e))=Q9 (Kl di nit it) (fun i=>QW i (fr i)) (i9+1):=by rw [Q9];simp only [QW,ZW,Jv,hy24,hz29,hz33,bS,aS,List.cons_append]
         exact goT .fin (k':=[]) (e:=.nrm) [(qD4 i9),(3,.v (.string (⟨(((((Q9 (Kl di nit it) (fun i=>QW i (fr i)) i9)++(fr i9).nm.data.toList)++[32])++(fr i9).al.data.toList)++(Qm [32,79,78,32] (fr i9).e)).toArray⟩:ByteArray))),(qD2 G1)] hs9 (kE14 F25 F26 F25 F27 F28 F30 F31 F32 F34 F35 F36 C37 F38 F39) Qv rfl (by kernel_rfl) fun g0 a0 w0 h0 _=>⟨g0,by rw [← e0];exact h0⟩
       have C40:Sd wr3 (.call 32 x1x (.string ⟨(Qm [32,79,78,32] (fr i9).e).toArray⟩)):=by exact Qb.of func32 rfl Qd QWxQ
       have F41:=Z8 wr3 ((Q9 (Kl di nit it) (fun i=>QW i (fr i)) i9)++(fr i9).nm.data.toList) (Qm [32,79,78,32] (fr i9).e) QT7H
       have F42:=sd wr3 (Qb.inc (t:=3) (i:=i9) (by omega))
       have e0:(((Q9 (Kl di nit it) (fun i=>QW i (fr i)) i9)++(fr i9).nm.data.toList)++(Qm [32,79,78,32] (fr i9).e))=Q9 (Kl di nit it) (fun i=>QW i (fr i)) (i9+1):=by rw [Q9];simp only [QW,ZW,Jv,hy24,hz29,hz33,bS,aS,List.cons_append]
       exact goT .fin (k':=[]) (e:=.nrm) [(qD4 i9),(3,.v (.string (⟨(((Q9 (Kl di nit it) (fun i=>QW i (fr i)) i9)++(fr i9).nm.data.toList)++(Qm [32,79,78,32] (fr i9).e)).toArray⟩:ByteArray))),(qD2 G1)] hs9 (kE12 F25 F26 F25 F27 F28 F30 F31 F32 F34 C40 F41 F42) Qv rfl (by kernel_rfl) fun g0 a0 w0 h0 _=>⟨g0,by rw [← e0];exact h0⟩
     cases y24
     · have F43:=nGt wr3 hz29
       have F44:=Z8 wr3 (Q9 (Kl di nit it) (fun i=>QW i (fr i)) i9) [32,74,79,73,78,32] Qx8C
       have F45:=xLB wr3 ((Q9 (Kl di nit it) (fun i=>QW i (fr i)) i9)++[32,74,79,73,78,32]) ((fr i9).nm) Qx8C
       obtain ⟨z46,hz46⟩: ∃ z,(QB (fr i9).al ⟨#[]⟩)=z:=⟨_,rfl⟩
       have F47:=sd wr3 (Qb.strNe (t:=9) (a:=(fr i9).al) (b:=⟨#[]⟩) (z:=(!z46)) (by rw [← QB,hz46];try rfl))
       cases z46
       · have F48:=Z8 wr3 (((Q9 (Kl di nit it) (fun i=>QW i (fr i)) i9)++[32,74,79,73,78,32])++(fr i9).nm.data.toList) [32] QGD8
         have F49:=xLB wr3 ((((Q9 (Kl di nit it) (fun i=>QW i (fr i)) i9)++[32,74,79,73,78,32])++(fr i9).nm.data.toList)++[32]) ((fr i9).al) QGD8
         have C50:Sd wr3 (.call 32 x1x (.string ⟨(Qm [32,79,78,32] (fr i9).e).toArray⟩)):=by exact Qb.of func32 rfl Qd QAV9
         have F51:=Z8 wr3 (((((Q9 (Kl di nit it) (fun i=>QW i (fr i)) i9)++[32,74,79,73,78,32])++(fr i9).nm.data.toList)++[32])++(fr i9).al.data.toList) (Qm [32,79,78,32] (fr i9).e) QGD8
         have F52:=sd wr3 (Qb.inc (t:=3) (i:=i9) (by omega))
         have e0:((((((Q9 (Kl di nit it) (fun i=>QW i (fr i)) i9)++[32,74,79,73,78,32])++(fr i9).nm.data.toList)++[32])++(fr i9).al.data.toList)++(Qm [32,79,78,32] (fr i9).e))=Q9 (Kl di nit it) (fun i=>QW i (fr i)) (i9+1):=by rw [Q9];simp only [QW,ZW,Jv,hy24,hz29,hz46,bS,aS,List.cons_append]
         exact goT .fin (k':=[]) (e:=.nrm) [(qD4 i9),(3,.v (.string (⟨((((((Q9 (Kl di nit it) (fun i=>QW i (fr i)) i9)++[32,74,79,73,78,32])++(fr i9).nm.data.toList)++[32])++(fr i9).al.data.toList)++(Qm [32,79,78,32] (fr i9).e)).toArray⟩:ByteArray))),(qD2 G1)] hs9 (kE15 F25 F26 F25 F27 F28 F30 F43 F44 F45 F47 F48 F49 C50 F51 F52) Qv rfl (by kernel_rfl) fun g0 a0 w0 h0 _=>⟨g0,by rw [← e0];exact h0⟩
       have C53:Sd wr3 (.call 32 x1x (.string ⟨(Qm [32,79,78,32] (fr i9).e).toArray⟩)):=by exact Qb.of func32 rfl Qd QAV9
       have F54:=Z8 wr3 (((Q9 (Kl di nit it) (fun i=>QW i (fr i)) i9)++[32,74,79,73,78,32])++(fr i9).nm.data.toList) (Qm [32,79,78,32] (fr i9).e) QGD8
       have F55:=sd wr3 (Qb.inc (t:=3) (i:=i9) (by omega))
       have e0:((((Q9 (Kl di nit it) (fun i=>QW i (fr i)) i9)++[32,74,79,73,78,32])++(fr i9).nm.data.toList)++(Qm [32,79,78,32] (fr i9).e))=Q9 (Kl di nit it) (fun i=>QW i (fr i)) (i9+1):=by rw [Q9];simp only [QW,ZW,Jv,hy24,hz29,hz46,bS,aS,List.cons_append]
       exact goT .fin (k':=[]) (e:=.nrm) [(qD4 i9),(3,.v (.string (⟨((((Q9 (Kl di nit it) (fun i=>QW i (fr i)) i9)++[32,74,79,73,78,32])++(fr i9).nm.data.toList)++(Qm [32,79,78,32] (fr i9).e)).toArray⟩:ByteArray))),(qD2 G1)] hs9 (kE13 F25 F26 F25 F27 F28 F30 F43 F44 F45 F47 C53 F54 F55) Qv rfl (by kernel_rfl) fun g0 a0 w0 h0 _=>⟨g0,by rw [← e0];exact h0⟩
     have F56:=Z8 wr3 (Q9 (Kl di nit it) (fun i=>QW i (fr i)) i9) [32,76,69,70,84] Qx8C
     have F57:=nGt wr3 hz29
     have F58:=Z8 wr3 ((Q9 (Kl di nit it) (fun i=>QW i (fr i)) i9)++[32,76,69,70,84]) [32,74,79,73,78,32] Qx8C
     have F59:=xLB wr3 (((Q9 (Kl di nit it) (fun i=>QW i (fr i)) i9)++[32,76,69,70,84])++[32,74,79,73,78,32]) ((fr i9).nm) Qx8C
     obtain ⟨z60,hz60⟩: ∃ z,(QB (fr i9).al ⟨#[]⟩)=z:=⟨_,rfl⟩
     have F61:=sd wr3 (Qb.strNe (t:=9) (a:=(fr i9).al) (b:=⟨#[]⟩) (z:=(!z60)) (by rw [← QB,hz60];try rfl))
     cases z60
     · have F62:=Z8 wr3 ((((Q9 (Kl di nit it) (fun i=>QW i (fr i)) i9)++[32,76,69,70,84])++[32,74,79,73,78,32])++(fr i9).nm.data.toList) [32] QlAS
       have F63:=xLB wr3 (((((Q9 (Kl di nit it) (fun i=>QW i (fr i)) i9)++[32,76,69,70,84])++[32,74,79,73,78,32])++(fr i9).nm.data.toList)++[32]) ((fr i9).al) QlAS
       have C64:Sd wr3 (.call 32 x1x (.string ⟨(Qm [32,79,78,32] (fr i9).e).toArray⟩)):=by exact Qb.of func32 rfl Qd Qcg8
       have F65:=Z8 wr3 ((((((Q9 (Kl di nit it) (fun i=>QW i (fr i)) i9)++[32,76,69,70,84])++[32,74,79,73,78,32])++(fr i9).nm.data.toList)++[32])++(fr i9).al.data.toList) (Qm [32,79,78,32] (fr i9).e) QlAS
       have F66:=sd wr3 (Qb.inc (t:=3) (i:=i9) (by omega))
       have e0:(((((((Q9 (Kl di nit it) (fun i=>QW i (fr i)) i9)++[32,76,69,70,84])++[32,74,79,73,78,32])++(fr i9).nm.data.toList)++[32])++(fr i9).al.data.toList)++(Qm [32,79,78,32] (fr i9).e))=Q9 (Kl di nit it) (fun i=>QW i (fr i)) (i9+1):=by rw [Q9];simp only [QW,ZW,Jv,hy24,hz29,hz60,bS,aS,List.cons_append]
       exact goT .fin (k':=[]) (e:=.nrm) [(qD4 i9),(3,.v (.string (⟨(((((((Q9 (Kl di nit it) (fun i=>QW i (fr i)) i9)++[32,76,69,70,84])++[32,74,79,73,78,32])++(fr i9).nm.data.toList)++[32])++(fr i9).al.data.toList)++(Qm [32,79,78,32] (fr i9).e)).toArray⟩:ByteArray))),(qD2 G1)] hs9 (Q7 F25 F26 F25 F27 F28 F30 F56 F57 F58 F59 F61 F62 F63 C64 F65 F66) Qv rfl (by kernel_rfl) fun g0 a0 w0 h0 _=>⟨g0,by rw [← e0];exact h0⟩
     have C67:Sd wr3 (.call 32 x1x (.string ⟨(Qm [32,79,78,32] (fr i9).e).toArray⟩)):=by exact Qb.of func32 rfl Qd Qcg8
     have F68:=Z8 wr3 ((((Q9 (Kl di nit it) (fun i=>QW i (fr i)) i9)++[32,76,69,70,84])++[32,74,79,73,78,32])++(fr i9).nm.data.toList) (Qm [32,79,78,32] (fr i9).e) QlAS
     have F69:=sd wr3 (Qb.inc (t:=3) (i:=i9) (by omega))
     have e0:(((((Q9 (Kl di nit it) (fun i=>QW i (fr i)) i9)++[32,76,69,70,84])++[32,74,79,73,78,32])++(fr i9).nm.data.toList)++(Qm [32,79,78,32] (fr i9).e))=Q9 (Kl di nit it) (fun i=>QW i (fr i)) (i9+1):=by rw [Q9];simp only [QW,ZW,Jv,hy24,hz29,hz60,bS,aS,List.cons_append]
     exact goT .fin (k':=[]) (e:=.nrm) [(qD4 i9),(3,.v (.string (⟨(((((Q9 (Kl di nit it) (fun i=>QW i (fr i)) i9)++[32,76,69,70,84])++[32,74,79,73,78,32])++(fr i9).nm.data.toList)++(Qm [32,79,78,32] (fr i9).e)).toArray⟩:ByteArray))),(qD2 G1)] hs9 (kE14 F25 F26 F25 F27 F28 F30 F56 F57 F58 F59 F61 C67 F68 F69) Qv rfl (by kernel_rfl) fun g0 a0 w0 h0 _=>⟨g0,by rw [← e0];exact h0⟩
   obtain ⟨g9,hs9⟩:=hI9
   have htst9e:decide (((nfr:Nat):Int)<((nfr:Nat):Int))=false:=by simp
   have F70:Sd wr3 (.get 36 (.pointer (some ⟨(G1.g 0),23,none⟩)) (.slice A6 nfr c6)):=Qb.cellAt (d:=23) Qd Qmwe rfl QGEB Qo
   have F71:=JE wr3 htst9e
   refine gF (.ex 2) [(3,.v (.string (⟨(Q9 (Kl di nit it) (fun i=>QW i (fr i)) nfr).toArray⟩:ByteArray))),(qD2 G1)] [] hs9 (Km F70 F71) fun G11 a11 w11 hst11 _=>brk ?_
   have F72:Sd wr3 (.get 34 (.pointer (some ⟨(G1.g 0),11,none⟩)) (eV wk wo wvk wvn wvt wtb wnm wA wn wc wpl wty)):=Qb.part (d:=11) Qd Qd Qmwe rfl QGEB Qo
   have C73:Sd wr3 (.call 32 [.string ⟨#[87,72,69,82,69]⟩,eV wk wo wvk wvn wvt wtb wnm wA wn wc wpl wty] (.string ⟨(Qm [32,87,72,69,82,69,32] wh).toArray⟩)):=by exact Qb.of func32 rfl Qd (fun w hw=>Js ⟨#[87,72,69,82,69]⟩ [87,72,69,82,69] rfl (by decide) wh _ w (QI.sub Qx7n iwh) hwh (KG (word:=[32,87,72,69,82,69,32]) hwh Qz6S))
   have F74:=Z8 wr3 (Q9 (Kl di nit it) (fun i=>QW i (fr i)) nfr) (Qm [32,87,72,69,82,69,32] wh) Qz6S
   have F75:Sd wr3 (.get 32 (.pointer (some ⟨(G1.g 0),24,none⟩)) (.slice A7 ngr c7)):=Qb.cellAt (d:=24) Qd Qmwe rfl QGEB Qo
   obtain ⟨z76,hz76⟩: ∃ z,(decide (0<((ngr:Nat):Int)))=z:=⟨_,rfl⟩
   have F77:=nGt wr3 hz76
   refine joinW (k':=Qc Jg (.op 30 0)) (fun aa ww=>EV f33.ntmps [(3,.string (⟨(((Q9 (Kl di nit it) (fun i=>QW i (fr i)) nfr)++(Qm [32,87,72,69,82,69,32] wh))++(if z76=true then [32,71,82,79,85,80,32,66,89,32]++Qk ngr (fun i=>Qg (gr i)) else [])).toArray⟩:ByteArray)),(qD3 G1)] aa∧Below wr3.heap.size wr3 ww) (fun aj12 uj12 hj12=> ?_) (fun KJ12=> ?_)
   · obtain ⟨ej12,bj12⟩:=hj12
     have sj12:=ej12.st uj12
     have pj12:=pr3.seg bj12
     have F78:Sd uj12 (.get 34 (.pointer (some ⟨(G1.g 0),25,none⟩)) (eV hk ho hvk hvn hvt htb hnm hA hn hc hpl hty)):=Qb.part (d:=25) Qd Qd (Qz sb1_0.at_ (.below pj12.b2)) rfl (Nat.lt_of_lt_of_le sb1_0.lt pj12.b2.size) Qo
     have C79:Sd uj12 (.call 32 [.string ⟨#[72,65,86,73,78,71]⟩,eV hk ho hvk hvn hvt htb hnm hA hn hc hpl hty] (.string ⟨(Qm [32,72,65,86,73,78,71,32] hv).toArray⟩)):=by exact Qb.of func32 rfl Qd (fun w hw=>Js ⟨#[72,65,86,73,78,71]⟩ [72,65,86,73,78,71] rfl (by decide) hv _ w (QI.sub (.below (Below.andThen pj12.bl hw)) ihv) hhv (KG (word:=[32,72,65,86,73,78,71,32]) hhv QxrG))
     have F80:=Z8 uj12 (((Q9 (Kl di nit it) (fun i=>QW i (fr i)) nfr)++(Qm [32,87,72,69,82,69,32] wh))++(if z76=true then [32,71,82,79,85,80,32,66,89,32]++Qk ngr (fun i=>Qg (gr i)) else [])) (Qm [32,72,65,86,73,78,71,32] hv) QxrG
     have hco: ∀ i,i<nor→0<nor→(Zi (od i)).length≤140737488355328:=fun i hi h0=>by have h9:decide ((0:Int)<((nor:Nat):Int))=true:=QOjj;have hq:=hb;simp only [h9,if_true,lS] at hq;have:=Ji (t:=(fun i=>Zi (od i))) hi;omega
     replace hco: ∀ i,i<nor→(Zi (od i)).length≤140737488355328:=fun i hi=>hco i hi (by omega)
     refine gO Jg (.loop 4) [(9,.v qD6),qD7,(3,.v (.string (⟨((((Q9 (Kl di nit it) (fun i=>QW i (fr i)) nfr)++(Qm [32,87,72,69,82,69,32] wh))++(if z76=true then [32,71,82,79,85,80,32,66,89,32]++Qk ngr (fun i=>Qg (gr i)) else []))++(Qm [32,72,65,86,73,78,71,32] hv)).toArray⟩:ByteArray))),(qD2 G1)] [] sj12 (kE3 F78 C79 F80) fun G13 a13 w13 h13_ _=> ?_
     have pm13:=pj12.seg h13_.rp.below
     have hm13:=St.reb' (fr':=[(9,.v qD6),qD7,(3,.v (.string (⟨((((Q9 (Kl di nit it) (fun i=>QW i (fr i)) nfr)++(Qm [32,87,72,69,82,69,32] wh))++(if z76=true then [32,71,82,79,85,80,32,66,89,32]++Qk ngr (fun i=>Qg (gr i)) else []))++(Qm [32,72,65,86,73,78,71,32] hv)).toArray⟩:ByteArray))),(qD2 G1)]) h13_ rfl
     refine rowLoop (P:=prog) Jg 4 9 4 nor 9 1 (fun W1 i cs=>cs=[.string ((fun i=>(⟨(Zi (od i)).toArray⟩:ByteArray)) i)]∧((fun i=>(⟨(Zi (od i)).toArray⟩:ByteArray)) i).size≤9223372036854775807) (lv:=[(3,.string (⟨((((Q9 (Kl di nit it) (fun i=>QW i (fr i)) nfr)++(Qm [32,87,72,69,82,69,32] wh))++(if z76=true then [32,71,82,79,85,80,32,66,89,32]++Qk ngr (fun i=>Qg (gr i)) else []))++(Qm [32,72,65,86,73,78,71,32] hv)).toArray⟩:ByteArray)),(qD3 G1)]) Qv (RC.St.ev (l:=[(9,.int .i64 ((0:Nat):Int)),(4,.slice none 0 0),(3,.string (⟨((((Q9 (Kl di nit it) (fun i=>QW i (fr i)) nfr)++(Qm [32,87,72,69,82,69,32] wh))++(if z76=true then [32,71,82,79,85,80,32,66,89,32]++Qk ngr (fun i=>Qg (gr i)) else []))++(Qm [32,72,65,86,73,78,71,32] hv)).toArray⟩:ByteArray)),(qD3 G1)]) hm13) (fun i13 hi13 row13 wr13 b13 css13 hO13 he13=> ?_) (fun row13 wr13 b13 css13 hO13 he13=> ?_)
     · have pr13:BM W w1 wr13:=pm13.seg hO13.bl
       have h2_13:=he13.st wr13
       have htst13:decide (((i13:Nat):Int)<((nor:Nat):Int))=true:=by simp;omega
       obtain ⟨eb14,eo14,ed14,es14,eq14,el14,em14,ep14,er14⟩:=ia.od.at (i:=(i13)) hi13
       have pp14:=ep14
       obtain ⟨ds14,rfl,ie14⟩:=ep14
       obtain ⟨e14k,e14o,e14vk,e14vn,e14vt,e14tb,e14nm,e14A,e14n,e14c,e14pl,e14ty,rfl⟩:=ie14.form
       obtain ⟨y81,hy81⟩: ∃ z,(od i13).desc=z:=⟨_,rfl⟩
       rw [hy81] at er14 pp14
       have hq13:=hco i13 hi13
       unfold Zi at hq13
       have F82:Sd wr13 (.get 37 (.pointer (some ⟨(G1.g 0),35,none⟩)) (.slice A8 nor c8)):=Qb.cellAt (d:=35) Qd (Qz sb1_0.at_ (.below pr13.b2)) rfl (Nat.lt_of_lt_of_le sb1_0.lt pr13.b2.size) Qo
       have F83:=JE wr13 htst13
       have F84:=nEl wr13 11 eq14 underlying37 hi13
       have F85:Sd wr13 (.get 34 (.pointer (some ⟨eb14,eo14+i13*11,none⟩)) (eV e14k e14o e14vk e14vn e14vt e14tb e14nm e14A e14n e14c e14pl e14ty)):=Qb.part (d:=0) Qd Qd (Qz er14 (.below pr13.bl)) rfl (Nat.lt_of_lt_of_le el14 pr13.bl.size) Qo
       have C86:Sd wr13 (.call 31 [eV e14k e14o e14vk e14vn e14vt e14tb e14nm e14A e14n e14c e14pl e14ty] (.string ⟨(Qg (od i13).e).toArray⟩)):=by exact Qb.of func31 rfl Qd (fun w hw=>text9_ok (od i13).e _ w (Hod i13 hi13) (QI.sub (.below (Below.andThen pr13.bl hw)) ie14) QWnm)
       have F87:Sd wr13 (.get 4 (.pointer (some ⟨eb14,eo14+i13*11+10,none⟩)) (.bool y81)):=Qb.cellAt (d:=10) Qd (Qz er14 (.below pr13.bl)) rfl (Nat.lt_of_lt_of_le el14 pr13.bl.size) Qo
       cases y81
       · refine gO (Qn Jg 4) (.op 38 3) [(146,.s 0 0 1 1),(144,.v (row13)),(9,.v (.int .i64 ((i13:Nat):Int))),(3,.v (.string (⟨((((Q9 (Kl di nit it) (fun i=>QW i (fr i)) nfr)++(Qm [32,87,72,69,82,69,32] wh))++(if z76=true then [32,71,82,79,85,80,32,66,89,32]++Qk ngr (fun i=>Qg (gr i)) else []))++(Qm [32,72,65,86,73,78,71,32] hv)).toArray⟩:ByteArray))),(qD2 G1)] [bx [.string (⟨(Qg (od i13).e).toArray⟩:ByteArray)]] h2_13 (kE9 F82 F83 F82 F84 F85 C86 F82 F84 F87) fun G15 a15 w15 hst15 _=> ?_
         have eT15:((⟨(Qg (od i13).e).toArray⟩:ByteArray):ByteArray)=(fun i=>(⟨(Zi (od i)).toArray⟩:ByteArray)) i13:=bytes_eq Qc4b
         refine Z5 (te:=27) (e:=9) (z:=.string ⟨#[]⟩) (bytes:=16) (sA:=144) (sY:=146) (d:=147) (jb:=0) (cs:=[.v (.string (⟨(Qg (od i13).e).toArray⟩:ByteArray))]) (k':=Qc (Qn Jg 4) (.op 38 4)) [(9,.int .i64 ((i13:Nat):Int)),(3,.string (⟨((((Q9 (Kl di nit it) (fun i=>QW i (fr i)) nfr)++(Qm [32,87,72,69,82,69,32] wh))++(if z76=true then [32,71,82,79,85,80,32,66,89,32]++Qk ngr (fun i=>Qg (gr i)) else []))++(Qm [32,72,65,86,73,78,71,32] hv)).toArray⟩:ByteArray)),(qD3 G1)] hst15 (o:=opOf (Qc (Qn Jg 4) (.op 38 3))) Qv Qv Qv Qd rfl rfl rfl rfl underlying27 Qd rfl (by decide) (by omega) (by omega) hO13 KH rfl QkzC ⟨by simp only [Qu,RV.conc] <;> rw [eT15],by show (_:ByteArray).size≤_;rw [QK,Qi];have:=hco i13 hi13;omega⟩ fun v15 u15 b15 hP15 h4_15=> ?_
         have hsv15:=h4_15.st u15
         have F88:=sd u15 (Qb.inc (t:=3) (i:=i13) (by omega))
         refine gF .nrm [(9,.v (.int .i64 ((i13+1:Nat):Int))),(4,.v (v15)),(3,.v (.string (⟨((((Q9 (Kl di nit it) (fun i=>QW i (fr i)) nfr)++(Qm [32,87,72,69,82,69,32] wh))++(if z76=true then [32,71,82,79,85,80,32,66,89,32]++Qk ngr (fun i=>Qg (gr i)) else []))++(Qm [32,72,65,86,73,78,71,32] hv)).toArray⟩:ByteArray))),(qD2 G1)] [] hsv15 (Zg F88) fun g0 a0 w0 h0 _=>⟨_,_,RC.St.ev (l:=[(9,.int .i64 ((i13+1:Nat):Int)),(4,v15),(3,.string (⟨((((Q9 (Kl di nit it) (fun i=>QW i (fr i)) nfr)++(Qm [32,87,72,69,82,69,32] wh))++(if z76=true then [32,71,82,79,85,80,32,66,89,32]++Qk ngr (fun i=>Qg (gr i)) else []))++(Qm [32,72,65,86,73,78,71,32] hv)).toArray⟩:ByteArray)),(qD3 G1)]) h0,hP15.keep KH h0.rp.below⟩
       have F89:=Z8 wr13 (Qg (od i13).e) [32,68,69,83,67] QWnm
       refine gO (Qn Jg 4) (.op 38 3) [(146,.s 0 0 1 1),(144,.v (row13)),(9,.v (.int .i64 ((i13:Nat):Int))),(3,.v (.string (⟨((((Q9 (Kl di nit it) (fun i=>QW i (fr i)) nfr)++(Qm [32,87,72,69,82,69,32] wh))++(if z76=true then [32,71,82,79,85,80,32,66,89,32]++Qk ngr (fun i=>Qg (gr i)) else []))++(Qm [32,72,65,86,73,78,71,32] hv)).toArray⟩:ByteArray))),(qD2 G1)] [bx [.string (⟨((Qg (od i13).e)++[32,68,69,83,67]).toArray⟩:ByteArray)]] h2_13 (Kr F82 F83 F82 F84 F85 C86 F82 F84 F87 F89) fun G16 a16 w16 hst16 _=> ?_
       have eT16:((⟨((Qg (od i13).e)++[32,68,69,83,67]).toArray⟩:ByteArray):ByteArray)=(fun i=>(⟨(Zi (od i)).toArray⟩:ByteArray)) i13:=bytes_eq Qc4b
       refine Z5 (te:=27) (e:=9) (z:=.string ⟨#[]⟩) (bytes:=16) (sA:=144) (sY:=146) (d:=147) (jb:=0) (cs:=[.v (.string (⟨((Qg (od i13).e)++[32,68,69,83,67]).toArray⟩:ByteArray))]) (k':=Qc (Qn Jg 4) (.op 38 4)) [(9,.int .i64 ((i13:Nat):Int)),(3,.string (⟨((((Q9 (Kl di nit it) (fun i=>QW i (fr i)) nfr)++(Qm [32,87,72,69,82,69,32] wh))++(if z76=true then [32,71,82,79,85,80,32,66,89,32]++Qk ngr (fun i=>Qg (gr i)) else []))++(Qm [32,72,65,86,73,78,71,32] hv)).toArray⟩:ByteArray)),(qD3 G1)] hst16 (o:=opOf (Qc (Qn Jg 4) (.op 38 3))) Qv Qv Qv Qd rfl rfl rfl rfl underlying27 Qd rfl (by decide) (by omega) (by omega) hO13 KH rfl QkzC ⟨by simp only [Qu,RV.conc] <;> rw [eT16],by show (_:ByteArray).size≤_;rw [QK,Qi];have:=hco i13 hi13;omega⟩ fun v16 u16 b16 hP16 h4_16=> ?_
       have hsv16:=h4_16.st u16
       have F90:=sd u16 (Qb.inc (t:=3) (i:=i13) (by omega))
       refine gF .nrm [(9,.v (.int .i64 ((i13+1:Nat):Int))),(4,.v (v16)),(3,.v (.string (⟨((((Q9 (Kl di nit it) (fun i=>QW i (fr i)) nfr)++(Qm [32,87,72,69,82,69,32] wh))++(if z76=true then [32,71,82,79,85,80,32,66,89,32]++Qk ngr (fun i=>Qg (gr i)) else []))++(Qm [32,72,65,86,73,78,71,32] hv)).toArray⟩:ByteArray))),(qD2 G1)] [] hsv16 (Zg F90) fun g0 a0 w0 h0 _=>⟨_,_,RC.St.ev (l:=[(9,.int .i64 ((i13+1:Nat):Int)),(4,v16),(3,.string (⟨((((Q9 (Kl di nit it) (fun i=>QW i (fr i)) nfr)++(Qm [32,87,72,69,82,69,32] wh))++(if z76=true then [32,71,82,79,85,80,32,66,89,32]++Qk ngr (fun i=>Qg (gr i)) else []))++(Qm [32,72,65,86,73,78,71,32] hv)).toArray⟩:ByteArray)),(qD3 G1)]) h0,hP16.keep KH h0.rp.below⟩
     have pr13:BM W w1 wr13:=pm13.seg hO13.bl
     have h2_13:=he13.st wr13
     have hns13:ZD wr13 nor (fun i=>(⟨(Zi (od i)).toArray⟩:ByteArray)) row13:=(hO13.done (bytes:=16) KH (by exact hso)).sub only_sub
     obtain ⟨RA13,rc13,rfl⟩:=hns13.form
     have htst13e:decide (((nor:Nat):Int)<((nor:Nat):Int))=false:=by simp
     have F91:Sd wr13 (.get 37 (.pointer (some ⟨(G1.g 0),35,none⟩)) (.slice A8 nor c8)):=Qb.cellAt (d:=35) Qd (Qz sb1_0.at_ (.below pr13.b2)) rfl (Nat.lt_of_lt_of_le sb1_0.lt pr13.b2.size) Qo
     have F92:=JE wr13 htst13e
     refine gF (.ex 4) [(4,.v (.slice RA13 nor rc13)),(3,.v (.string (⟨((((Q9 (Kl di nit it) (fun i=>QW i (fr i)) nfr)++(Qm [32,87,72,69,82,69,32] wh))++(if z76=true then [32,71,82,79,85,80,32,66,89,32]++Qk ngr (fun i=>Qg (gr i)) else []))++(Qm [32,72,65,86,73,78,71,32] hv)).toArray⟩:ByteArray))),(qD2 G1)] [] h2_13 (Km F91 F92) fun G17 a17 w17 hst17 _=>brk ?_
     obtain ⟨z93,hz93⟩: ∃ z,(decide (0<((nor:Nat):Int)))=z:=⟨_,rfl⟩
     have F94:=nGt wr13 hz93
     refine joinW (k':=Qc Jg (.op 41 0)) (fun aa ww=>EV f33.ntmps [(3,.string (⟨(((((Q9 (Kl di nit it) (fun i=>QW i (fr i)) nfr)++(Qm [32,87,72,69,82,69,32] wh))++(if z76=true then [32,71,82,79,85,80,32,66,89,32]++Qk ngr (fun i=>Qg (gr i)) else []))++(Qm [32,72,65,86,73,78,71,32] hv))++(if z93=true then [32,79,82,68,69,82,32,66,89,32]++Qk nor (fun i=>Zi (od i)) else [])).toArray⟩:ByteArray)),(qD3 G1)] aa∧Below wr13.heap.size wr13 ww) (fun aj18 uj18 hj18=> ?_) (fun KJ18=> ?_)
     · obtain ⟨ej18,bj18⟩:=hj18
       have sj18:=ej18.st uj18
       have pj18:=pr13.seg bj18
       have F95:Sd uj18 (.get 2 (.pointer (some ⟨(G1.g 0),36,none⟩)) (.int .i64 li)):=Qb.cellAt (d:=36) Qd (Qz sb1_0.at_ (.below pj18.b2)) rfl (Nat.lt_of_lt_of_le sb1_0.lt pj18.b2.size) Qo
       obtain ⟨z96,hz96⟩: ∃ z,(decide (0≤li))=z:=⟨_,rfl⟩
       have F97:=sd uj18 (Qb.intGe (t:=2) (k:=.i64) (a:=li) (b:=0) hz96)
       cases z96
       · exact goE sj18 (Km F95 F97) (vs:=[.string (⟨(((((Q9 (Kl di nit it) (fun i=>QW i (fr i)) nfr)++(Qm [32,87,72,69,82,69,32] wh))++(if z76=true then [32,71,82,79,85,80,32,66,89,32]++Qk ngr (fun i=>Qg (gr i)) else []))++(Qm [32,72,65,86,73,78,71,32] hv))++(if z93=true then [32,79,82,68,69,82,32,66,89,32]++Qk nor (fun i=>Zi (od i)) else [])).toArray⟩:ByteArray)]) (by kernel_rfl) fun w' hw=>⟨congrArg (fun z=>Ending.returned (.string z)) QKUm,Below.andThen pj18.bl hw⟩
       have F98:=Z8 uj18 (((((Q9 (Kl di nit it) (fun i=>QW i (fr i)) nfr)++(Qm [32,87,72,69,82,69,32] wh))++(if z76=true then [32,71,82,79,85,80,32,66,89,32]++Qk ngr (fun i=>Qg (gr i)) else []))++(Qm [32,72,65,86,73,78,71,32] hv))++(if z93=true then [32,79,82,68,69,82,32,66,89,32]++Qk nor (fun i=>Zi (od i)) else [])) [32,76,73,77,73,84,32] QbNA
       have C99:Sd uj18 (.call 119 [.int .i64 li] (.string ⟨(Lib.itoa li).toArray⟩)):=by exact Qb.of func119 rfl Qd (fun w hw=>ref6_Digits li w hli)
       have F100:=Z8 uj18 ((((((Q9 (Kl di nit it) (fun i=>QW i (fr i)) nfr)++(Qm [32,87,72,69,82,69,32] wh))++(if z76=true then [32,71,82,79,85,80,32,66,89,32]++Qk ngr (fun i=>Qg (gr i)) else []))++(Qm [32,72,65,86,73,78,71,32] hv))++(if z93=true then [32,79,82,68,69,82,32,66,89,32]++Qk nor (fun i=>Zi (od i)) else []))++[32,76,73,77,73,84,32]) (Lib.itoa li) QbNA
       exact goE sj18 (Je F95 F97 F98 F95 C99 F100) (vs:=[.string (⟨(((((((Q9 (Kl di nit it) (fun i=>QW i (fr i)) nfr)++(Qm [32,87,72,69,82,69,32] wh))++(if z76=true then [32,71,82,79,85,80,32,66,89,32]++Qk ngr (fun i=>Qg (gr i)) else []))++(Qm [32,72,65,86,73,78,71,32] hv))++(if z93=true then [32,79,82,68,69,82,32,66,89,32]++Qk nor (fun i=>Zi (od i)) else []))++[32,76,73,77,73,84,32])++(Lib.itoa li)).toArray⟩:ByteArray)]) (by kernel_rfl) fun w' hw=>⟨congrArg (fun z=>Ending.returned (.string z)) QKUm,Below.andThen pj18.bl hw⟩
     cases z93
     · have eT19:((⟨((((Q9 (Kl di nit it) (fun i=>QW i (fr i)) nfr)++(Qm [32,87,72,69,82,69,32] wh))++(if z76=true then [32,71,82,79,85,80,32,66,89,32]++Qk ngr (fun i=>Qg (gr i)) else []))++(Qm [32,72,65,86,73,78,71,32] hv)).toArray⟩:ByteArray):ByteArray)=⟨(((((Q9 (Kl di nit it) (fun i=>QW i (fr i)) nfr)++(Qm [32,87,72,69,82,69,32] wh))++(if z76=true then [32,71,82,79,85,80,32,66,89,32]++Qk ngr (fun i=>Qg (gr i)) else []))++(Qm [32,72,65,86,73,78,71,32] hv))++(if false=true then [32,79,82,68,69,82,32,66,89,32]++Qk nor (fun i=>Zi (od i)) else [])).toArray⟩:=bytes_eq QtJW
       refine gO Jg (.op 41 0) [(3,.v (.string (⟨((((Q9 (Kl di nit it) (fun i=>QW i (fr i)) nfr)++(Qm [32,87,72,69,82,69,32] wh))++(if z76=true then [32,71,82,79,85,80,32,66,89,32]++Qk ngr (fun i=>Qg (gr i)) else []))++(Qm [32,72,65,86,73,78,71,32] hv)).toArray⟩:ByteArray))),(qD2 G1)] [] hst17 (Zg F94) fun g0 a0 w0 h0 _=>KJ18 _ _ ⟨?_,h0.rp.below⟩
       have e0:=RC.St.ev (l:=[(3,.string (⟨((((Q9 (Kl di nit it) (fun i=>QW i (fr i)) nfr)++(Qm [32,87,72,69,82,69,32] wh))++(if z76=true then [32,71,82,79,85,80,32,66,89,32]++Qk ngr (fun i=>Qg (gr i)) else []))++(Qm [32,72,65,86,73,78,71,32] hv)).toArray⟩:ByteArray)),(qD3 G1)]) (h0.less (fr':=[(3,.v (.string (⟨((((Q9 (Kl di nit it) (fun i=>QW i (fr i)) nfr)++(Qm [32,87,72,69,82,69,32] wh))++(if z76=true then [32,71,82,79,85,80,32,66,89,32]++Qk ngr (fun i=>Qg (gr i)) else []))++(Qm [32,72,65,86,73,78,71,32] hv)).toArray⟩:ByteArray))),(qD2 G1)]) rfl).reb
       rw [eT19] at e0
       exact e0
     have F101:=Z8 wr13 ((((Q9 (Kl di nit it) (fun i=>QW i (fr i)) nfr)++(Qm [32,87,72,69,82,69,32] wh))++(if z76=true then [32,71,82,79,85,80,32,66,89,32]++Qk ngr (fun i=>Qg (gr i)) else []))++(Qm [32,72,65,86,73,78,71,32] hv)) [32,79,82,68,69,82,32,66,89,32] Qfqi
     have C102:Sd wr13 (.call 29 [.slice RA13 nor rc13] (.string ⟨(Qk nor (fun i=>((fun i=>(⟨(Zi (od i)).toArray⟩:ByteArray)) i).data.toList)).toArray⟩)):=by exact Qb.of func29 rfl Qd (fun w hw=>KB nor (fun i=>(⟨(Zi (od i)).toArray⟩:ByteArray)) _ w (ZD.sub (.below hw) hns13) (by (try simp only [Qi]);have hq:=hb;(try simp only [Qi,hz76,hz93,bS,lS] at hq);first | omega | (simp only [Qi,Kh,lS];omega)))
     have F103:=Z8 wr13 (((((Q9 (Kl di nit it) (fun i=>QW i (fr i)) nfr)++(Qm [32,87,72,69,82,69,32] wh))++(if z76=true then [32,71,82,79,85,80,32,66,89,32]++Qk ngr (fun i=>Qg (gr i)) else []))++(Qm [32,72,65,86,73,78,71,32] hv))++[32,79,82,68,69,82,32,66,89,32]) (Qk nor (fun i=>((fun i=>(⟨(Zi (od i)).toArray⟩:ByteArray)) i).data.toList)) Qfqi
     have eT20:((⟨((((((Q9 (Kl di nit it) (fun i=>QW i (fr i)) nfr)++(Qm [32,87,72,69,82,69,32] wh))++(if z76=true then [32,71,82,79,85,80,32,66,89,32]++Qk ngr (fun i=>Qg (gr i)) else []))++(Qm [32,72,65,86,73,78,71,32] hv))++[32,79,82,68,69,82,32,66,89,32])++(Qk nor (fun i=>((fun i=>(⟨(Zi (od i)).toArray⟩:ByteArray)) i).data.toList))).toArray⟩:ByteArray):ByteArray)=⟨(((((Q9 (Kl di nit it) (fun i=>QW i (fr i)) nfr)++(Qm [32,87,72,69,82,69,32] wh))++(if z76=true then [32,71,82,79,85,80,32,66,89,32]++Qk ngr (fun i=>Qg (gr i)) else []))++(Qm [32,72,65,86,73,78,71,32] hv))++(if true=true then [32,79,82,68,69,82,32,66,89,32]++Qk nor (fun i=>Zi (od i)) else [])).toArray⟩:=bytes_eq QtJW
     refine gO Jg (.op 41 0) [(3,.v (.string (⟨((((((Q9 (Kl di nit it) (fun i=>QW i (fr i)) nfr)++(Qm [32,87,72,69,82,69,32] wh))++(if z76=true then [32,71,82,79,85,80,32,66,89,32]++Qk ngr (fun i=>Qg (gr i)) else []))++(Qm [32,72,65,86,73,78,71,32] hv))++[32,79,82,68,69,82,32,66,89,32])++(Qk nor (fun i=>((fun i=>(⟨(Zi (od i)).toArray⟩:ByteArray)) i).data.toList))).toArray⟩:ByteArray))),(qD2 G1)] [] hst17 (Jf F94 F101 C102 F103) fun g0 a0 w0 h0 _=>KJ18 _ _ ⟨?_,h0.rp.below⟩
     have e0:=RC.St.ev (l:=[(3,.string (⟨((((((Q9 (Kl di nit it) (fun i=>QW i (fr i)) nfr)++(Qm [32,87,72,69,82,69,32] wh))++(if z76=true then [32,71,82,79,85,80,32,66,89,32]++Qk ngr (fun i=>Qg (gr i)) else []))++(Qm [32,72,65,86,73,78,71,32] hv))++[32,79,82,68,69,82,32,66,89,32])++(Qk nor (fun i=>((fun i=>(⟨(Zi (od i)).toArray⟩:ByteArray)) i).data.toList))).toArray⟩:ByteArray)),(qD3 G1)]) (h0.less (fr':=[(3,.v (.string (⟨((((((Q9 (Kl di nit it) (fun i=>QW i (fr i)) nfr)++(Qm [32,87,72,69,82,69,32] wh))++(if z76=true then [32,71,82,79,85,80,32,66,89,32]++Qk ngr (fun i=>Qg (gr i)) else []))++(Qm [32,72,65,86,73,78,71,32] hv))++[32,79,82,68,69,82,32,66,89,32])++(Qk nor (fun i=>((fun i=>(⟨(Zi (od i)).toArray⟩:ByteArray)) i).data.toList))).toArray⟩:ByteArray))),(qD2 G1)]) rfl).reb
     rw [eT20] at e0
     exact e0
   cases z76
   · have eT21:((⟨((Q9 (Kl di nit it) (fun i=>QW i (fr i)) nfr)++(Qm [32,87,72,69,82,69,32] wh)).toArray⟩:ByteArray):ByteArray)=⟨(((Q9 (Kl di nit it) (fun i=>QW i (fr i)) nfr)++(Qm [32,87,72,69,82,69,32] wh))++(if false=true then [32,71,82,79,85,80,32,66,89,32]++Qk ngr (fun i=>Qg (gr i)) else [])).toArray⟩:=bytes_eq QtJW
     refine gO Jg (.op 30 0) [(3,.v (.string (⟨((Q9 (Kl di nit it) (fun i=>QW i (fr i)) nfr)++(Qm [32,87,72,69,82,69,32] wh)).toArray⟩:ByteArray))),(qD2 G1)] [] hst11 (kE5 F72 C73 F74 F75 F77) fun g0 a0 w0 h0 _=>KJ12 _ _ ⟨?_,h0.rp.below⟩
     have e0:=RC.St.ev (l:=[(3,.string (⟨((Q9 (Kl di nit it) (fun i=>QW i (fr i)) nfr)++(Qm [32,87,72,69,82,69,32] wh)).toArray⟩:ByteArray)),(qD3 G1)]) (h0.less (fr':=[(3,.v (.string (⟨((Q9 (Kl di nit it) (fun i=>QW i (fr i)) nfr)++(Qm [32,87,72,69,82,69,32] wh)).toArray⟩:ByteArray))),(qD2 G1)]) rfl).reb
     rw [eT21] at e0
     exact e0
   have F104:=Z8 wr3 ((Q9 (Kl di nit it) (fun i=>QW i (fr i)) nfr)++(Qm [32,87,72,69,82,69,32] wh)) [32,71,82,79,85,80,32,66,89,32] QxrG
   have C105:Sd wr3 (.call 30 [.slice A7 ngr c7] (.string ⟨(Qk ngr (fun i=>Qg (gr i))).toArray⟩)):=by exact Qb.of func30 rfl Qd (fun w hw=>texts9_ok ngr gr _ w (Z6.sub Qx7n ia.gr) QxrG (fun i hi cs w2 hw2 h2=>text9_ok (gr i) cs w2 (Hgr i hi) h2 (by have hj:=Ji (t:=(fun i=>Qg (gr i))) hi;(try simp only at hj);have hq:=hb;(try simp only [Qi,hz76,bS,lS] at hq);first | omega | (simp only [Qi,Kh,lS];omega))))
   have F106:=Z8 wr3 (((Q9 (Kl di nit it) (fun i=>QW i (fr i)) nfr)++(Qm [32,87,72,69,82,69,32] wh))++[32,71,82,79,85,80,32,66,89,32]) (Qk ngr (fun i=>Qg (gr i))) QxrG
   have eT22:((⟨((((Q9 (Kl di nit it) (fun i=>QW i (fr i)) nfr)++(Qm [32,87,72,69,82,69,32] wh))++[32,71,82,79,85,80,32,66,89,32])++(Qk ngr (fun i=>Qg (gr i)))).toArray⟩:ByteArray):ByteArray)=⟨(((Q9 (Kl di nit it) (fun i=>QW i (fr i)) nfr)++(Qm [32,87,72,69,82,69,32] wh))++(if true=true then [32,71,82,79,85,80,32,66,89,32]++Qk ngr (fun i=>Qg (gr i)) else [])).toArray⟩:=bytes_eq QtJW
   refine gO Jg (.op 30 0) [(3,.v (.string (⟨((((Q9 (Kl di nit it) (fun i=>QW i (fr i)) nfr)++(Qm [32,87,72,69,82,69,32] wh))++[32,71,82,79,85,80,32,66,89,32])++(Qk ngr (fun i=>Qg (gr i)))).toArray⟩:ByteArray))),(qD2 G1)] [] hst11 (kE9 F72 C73 F74 F75 F77 F104 F75 C105 F106) fun g0 a0 w0 h0 _=>KJ12 _ _ ⟨?_,h0.rp.below⟩
   have e0:=RC.St.ev (l:=[(3,.string (⟨((((Q9 (Kl di nit it) (fun i=>QW i (fr i)) nfr)++(Qm [32,87,72,69,82,69,32] wh))++[32,71,82,79,85,80,32,66,89,32])++(Qk ngr (fun i=>Qg (gr i)))).toArray⟩:ByteArray)),(qD3 G1)]) (h0.less (fr':=[(3,.v (.string (⟨((((Q9 (Kl di nit it) (fun i=>QW i (fr i)) nfr)++(Qm [32,87,72,69,82,69,32] wh))++[32,71,82,79,85,80,32,66,89,32])++(Qk ngr (fun i=>Qg (gr i)))).toArray⟩:ByteArray))),(qD2 G1)]) rfl).reb
   rw [eT22] at e0
   exact e0
 cases di
 · have eT23:(⟨#[83,69,76,69,67,84,32]⟩:ByteArray)=⟨(([83,69,76,69,67,84,32]:List UInt8)++(if false=true then [68,73,83,84,73,78,67,84,32] else [])).toArray⟩:=bytes_eq (Eq.trans rfl (by first | rfl | (simp only [bS,aS];done) | (simp only [bS,aS] <;> rfl)))
   refine gO Jg (.op 4 0) [qD5,(qD2 G1)] [] hm1 (Zg F1) fun g0 a0 w0 h0 _=>KJ2 _ _ ⟨?_,h0.rp.below⟩
   have e0:=RC.St.ev (l:=[(3,.string ⟨#[83,69,76,69,67,84,32]⟩),(qD3 G1)]) (h0.less (fr':=[qD5,(qD2 G1)]) rfl).reb
   rw [eT23] at e0
   exact e0
 have F107:=Z8 w1 ([83,69,76,69,67,84,32]:List UInt8) [68,73,83,84,73,78,67,84,32] Qz6S
 have eT24:((⟨(([83,69,76,69,67,84,32]:List UInt8)++[68,73,83,84,73,78,67,84,32]).toArray⟩:ByteArray):ByteArray)=⟨(([83,69,76,69,67,84,32]:List UInt8)++(if true=true then [68,73,83,84,73,78,67,84,32] else [])).toArray⟩:=bytes_eq QtJW
 refine gO Jg (.op 4 0) [(3,.v (.string (⟨(([83,69,76,69,67,84,32]:List UInt8)++[68,73,83,84,73,78,67,84,32]).toArray⟩:ByteArray))),(qD2 G1)] [] hm1 (Km F1 F107) fun g0 a0 w0 h0 _=>KJ2 _ _ ⟨?_,h0.rp.below⟩
 have e0:=RC.St.ev (l:=[(3,.string (⟨(([83,69,76,69,67,84,32]:List UInt8)++[68,73,83,84,73,78,67,84,32]).toArray⟩:ByteArray)),(qD3 G1)]) (h0.less (fr':=[(3,.v (.string (⟨(([83,69,76,69,67,84,32]:List UInt8)++[68,73,83,84,73,78,67,84,32]).toArray⟩:ByteArray))),(qD2 G1)]) rfl).reb
 rw [eT24] at e0
 exact e0
end
end Go.Proofs.YtddedijencleeaaGreatDoor
