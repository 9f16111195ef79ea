/- ref9.joined. -/
import Derived.Test.YtddedijencleeaaGreatDoorSm
import Derived.Test.YtddedijencleeaaGreatDoorMSq
import Derived.Test.YtddedijencleeaaGreatDoorMXa
import Derived.Test.YtddedijencleeaaGreatDoorMGi
import Derived.Test.YtddedijencleeaaGreatDoorMWl
set_option linter.all false
namespace Go.Proofs.YtddedijencleeaaGreatDoor
set_option maxRecDepth 100000
set_option maxHeartbeats 8000000
open Tryz
open Go.RowKit Go.Lib RC
noncomputable abbrev r9Jo:Code:=Qt f29
theorem KB (n:Nat) (f:Nat→ByteArray) (v:Value) (W:World) (h:ZD W n f v) (hb:(Qk n fun i=>(f i).data.toList).length≤140737488355328):Calls prog 29 #[v] W fun r W'=>r= .returned (.string ⟨(Qk n fun i=>(f i).data.toList).toArray⟩)∧Below W.heap.size W W':=by
 obtain ⟨A,c,rfl⟩:=h.form
 have hn:=QR.len h
 refine Qj (args:=[.slice A n c]) (c:=r9Jo) func29 rfl (by kernel_rfl) fun a0 hst=> ?_
 refine gO r9Jo (.loop 0) [(4,.v (.int .i64 ((0:Nat):Int))),(3,.v (.string (⟨(Qk 0 (fun i=>(f i).data.toList)).toArray⟩:ByteArray))),(0,.v (.slice A n c))] [] hst Zk fun G1 a1 w1 hst1 _=> ?_
 refine Kt r9Jo 0 Qv (n) (fun ii aa ww=> ∃ gg,RC.St W.heap.size W f29.ntmps ((4,.v (.int .i64 ((ii:Nat):Int)))::(3,.v (.string (⟨(Qk ii (fun i=>(f i).data.toList)).toArray⟩:ByteArray)))::[(0,.v (.slice A n c))]) [] gg aa ww) ⟨G1,hst1⟩ (fun i1 hi1 b1 u1 hI1=> ?_) (fun b1 u1 hI1=> ?_)
 · obtain ⟨g1,hs1⟩:=hI1
   have htst1:decide (((i1:Nat):Int)<((n:Nat):Int))=true:=by simp;omega
   have h9:QR W 1 16 n (.slice A n c) (fun i ds=>ds=[.string (f i)]∧(f i).size≤9223372036854775807):=h
   obtain ⟨eb2,eo2,ed2,es2,eq2,el2,em2,ep2,er2⟩:=h9.at (i:=(i1)) hi1
   have pp2:=ep2
   obtain ⟨rfl,sz2⟩:=ep2
   have hj1: ∀ z,decide ((0:Int)<((i1:Nat):Int))=z→(Qk i1 (fun i=>(f i).data.toList)).length+((if z=true then 2 else 0)+(f i1).data.toList.length)≤(Qk n (fun i=>(f i).data.toList)).length:=joinN_step hi1
   have F1:=JE W htst1
   obtain ⟨z2,hz2⟩: ∃ z,(decide (0<((i1:Nat):Int)))=z:=⟨_,rfl⟩
   have F3:=nGt W hz2
   cases z2
   · have F4:=nEl W 1 eq2 underlying27 hi1
     have F5:Sd W (.get 9 (.pointer (some ⟨eb2,eo2+i1*1,none⟩)) (.string (f i1))):=Qb.cellAt (d:=0) Qd er2 rfl el2 Qo
     have F6:=xLB W (Qk i1 (fun i=>(f i).data.toList)) (f i1) QG44
     have F7:=sd W (Qb.inc (t:=3) (i:=i1) (by omega))
     have e0:((Qk i1 (fun i=>(f i).data.toList))++(f i1).data.toList)=Qk (i1+1) (fun i=>(f i).data.toList):=by rw [Qk,sep_of hz2];simp only [Bool.false_eq_true,if_false,if_true,List.append_assoc,List.nil_append]
     exact goT .fin (k':=[]) (e:=.nrm) [(4,.v (.int .i64 ((i1+1:Nat):Int))),(3,.v (.string (⟨((Qk i1 (fun i=>(f i).data.toList))++(f i1).data.toList).toArray⟩:ByteArray))),(0,.v (.slice A n c))] hs1 (Je F1 F3 F4 F5 F6 F7) Qv rfl (by kernel_rfl) fun g0 a0 w0 h0 _=>⟨g0,by rw [← e0];exact h0⟩
   have F8:=Z8 W (Qk i1 (fun i=>(f i).data.toList)) [44,32] QG44
   have F9:=nEl W 1 eq2 underlying27 hi1
   have F10:Sd W (.get 9 (.pointer (some ⟨eb2,eo2+i1*1,none⟩)) (.string (f i1))):=Qb.cellAt (d:=0) Qd er2 rfl el2 Qo
   have F11:=xLB W ((Qk i1 (fun i=>(f i).data.toList))++[44,32]) (f i1) QG44
   have F12:=sd W (Qb.inc (t:=3) (i:=i1) (by omega))
   have e0:(((Qk i1 (fun i=>(f i).data.toList))++[44,32])++(f i1).data.toList)=Qk (i1+1) (fun i=>(f i).data.toList):=by rw [Qk,sep_of hz2];simp only [Bool.false_eq_true,if_false,if_true,List.append_assoc,List.nil_append]
   exact goT .fin (k':=[]) (e:=.nrm) [(4,.v (.int .i64 ((i1+1:Nat):Int))),(3,.v (.string (⟨(((Qk i1 (fun i=>(f i).data.toList))++[44,32])++(f i1).data.toList).toArray⟩:ByteArray))),(0,.v (.slice A n c))] hs1 (kE7 F1 F3 F8 F9 F10 F11 F12) Qv rfl (by kernel_rfl) fun g0 a0 w0 h0 _=>⟨g0,by rw [← e0];exact h0⟩
 obtain ⟨g1,hs1⟩:=hI1
 have htst1e:decide (((n:Nat):Int)<((n:Nat):Int))=false:=by simp
 have F13:=JE W htst1e
 refine gF (.ex 0) [(3,.v (.string (⟨(Qk n (fun i=>(f i).data.toList)).toArray⟩:ByteArray))),(0,.v (.slice A n c))] [] hs1 (Zg F13) fun G3 a3 w3 hst3 _=>brk ?_
 exact gE hst3 Zk [.string (⟨(Qk n (fun i=>(f i).data.toList)).toArray⟩:ByteArray)] fun w' hw=>⟨congrArg (fun z=>Ending.returned (.string z)) (bytes_eq QtJW),hw⟩
end Go.Proofs.YtddedijencleeaaGreatDoor

/- ref9.texts. -/
set_option linter.all false
namespace Go.Proofs.YtddedijencleeaaGreatDoor
set_option maxRecDepth 100000
set_option maxHeartbeats 8000000
open Tryz
open Go.RowKit Go.Lib RC
structure BL (W w:World):Prop where
 bl:Below W.heap.size W w

noncomputable abbrev r9Ts:Code:=Qt f30
theorem texts9_ok (n:Nat) (f:Nat→E) (v:Value) (W:World) (h:Z6 W n f v) (hb:(Qk n (fun i=>Qg (f i))).length≤140737488355328) (HT: ∀ i,i<n→ ∀ cs w,Below W.heap.size W w→QI w (f i) cs→Calls prog 31 #[.agg cs.toArray] w fun r w'=>r= .returned (.string ⟨(Qg (f i)).toArray⟩)∧Below w.heap.size w w') :
 Calls prog 30 #[v] W fun r W'=>r= .returned (.string ⟨(Qk n (fun i=>Qg (f i))).toArray⟩)∧Below W.heap.size W W':=by
 obtain ⟨A,c,rfl⟩:=h.form
 have hn:=QR.len h
 have hsm:n*120≤140737488355328:=QR.small h
 have h9:QR W 10 120 n (.slice A n c) (fun i ds=>QI W (f i) ds):=h
 have hbd: ∀ i,i<n→(Qg (f i)).length≤9223372036854775807:=fun i hi=>by have:=joinN_step (t:=(fun i=>Qg (f i))) hi _ rfl;omega
 refine Qj (args:=[.slice A n c]) (c:=r9Ts) func30 rfl (by kernel_rfl) fun a0 hst=> ?_
 refine gO r9Ts (.loop 0) [(4,.v (.int .i64 ((0:Nat):Int))),(3,.v (.slice none 0 0)),(0,.v (.slice A n c))] [] hst Zk fun G1 a1 w1 hst1 _=> ?_
 refine rowLoopR (P:=prog) r9Ts 0 4 3 n 9 1 (fun W1 i cs=>cs=[.string ((fun i=>(⟨(Qg (f i)).toArray⟩:ByteArray)) i)]∧((fun i=>(⟨(Qg (f i)).toArray⟩:ByteArray)) i).size≤9223372036854775807) (lv:=[(0,.v (.slice A n c))]) (bs:=[]) Qv hst1 (fun i1 hi1 row1 wr1 b1 css1 hO1 hr1 h2_1=> ?_) (fun row1 wr1 b1 css1 hO1 h2_1=> ?_)
 · have pr1:BL W wr1:=⟨hr1.below⟩
   have htst1:decide (((i1:Nat):Int)<((n:Nat):Int))=true:=by simp;omega
   obtain ⟨eb2,eo2,ed2,es2,eq2,el2,em2,ep2,er2⟩:=h9.at (i:=(i1)) hi1
   have pp2:=ep2
   have en2:=ep2
   obtain ⟨e2k,e2o,e2vk,e2vn,e2vt,e2tb,e2nm,e2A,e2n,e2c,e2pl,e2ty,rfl⟩:=en2.form
   have F1:=JE wr1 htst1
   have F2:=nEl wr1 10 eq2 underlying32 hi1
   have F3:Sd wr1 (.get 34 (.pointer (some ⟨eb2,eo2+i1*10,none⟩)) (eV e2k e2o e2vk e2vn e2vt e2tb e2nm e2A e2n e2c e2pl e2ty)):=Qb.row Qd Qd (Qz er2 (.below pr1.bl)) (Nat.lt_of_lt_of_le el2 pr1.bl.size) Qo
   have C4:Sd wr1 (.call 31 [eV e2k e2o e2vk e2vn e2vt e2tb e2nm e2A e2n e2c e2pl e2ty] (.string ⟨(Qg (f i1)).toArray⟩)):=by exact Qb.of func31 rfl Qd (fun w hw=>HT i1 hi1 _ w (Below.andThen pr1.bl hw) (QI.sub (.below (Below.andThen pr1.bl hw)) ep2))
   refine gO (Qn r9Ts 0) (.op 5 7) [(17,.s 0 0 1 1),(11,.v (row1)),(4,.v (.int .i64 ((i1:Nat):Int))),(0,.v (.slice A n c))] [bx [.string (⟨(Qg (f i1)).toArray⟩:ByteArray)]] h2_1 (Jf F1 F2 F3 C4) fun G3 a3 w3 hst3 _=> ?_
   have eT3:((⟨(Qg (f i1)).toArray⟩:ByteArray):ByteArray)=⟨(Qg (f i1)).toArray⟩:=bytes_eq (Eq.trans (Qi _) (rfl))
   refine Z5 (te:=27) (e:=9) (z:=.string ⟨#[]⟩) (bytes:=16) (sA:=11) (sY:=17) (d:=18) (jb:=0) (cs:=[.v (.string (⟨(Qg (f i1)).toArray⟩:ByteArray))]) (k':=Qc (Qn r9Ts 0) (.op 5 8)) [(4,.int .i64 ((i1:Nat):Int)),(0,.slice A n c)] hst3 (o:=opOf (Qc (Qn r9Ts 0) (.op 5 7))) Qv Qv Qv Qd rfl rfl rfl rfl underlying27 Qd rfl (by decide) (by omega) (by omega) hO1 KH rfl QkzC ⟨by simp only [Qu,RV.conc] <;> rw [eT3],by show (_:ByteArray).size≤_;rw [QK,Qi];exact hbd i1 hi1⟩ fun v3 u3 b3 hP3 h4_3=> ?_
   have hsv3:=h4_3.st u3
   have F5:=sd u3 (Qb.inc (t:=3) (i:=i1) (by omega))
   refine gF .nrm [(4,.v (.int .i64 ((i1+1:Nat):Int))),(3,.v (v3)),(0,.v (.slice A n c))] [] hsv3 (Zg F5) fun g0 a0 w0 h0 _=>⟨_,_,RC.St.ev (l:=[(4,.int .i64 ((i1+1:Nat):Int)),(3,v3),(0,.slice A n c)]) h0,hP3.keep KH h0.rp.below⟩
 obtain ⟨G4,h6_4,_⟩:=St.row (bytes:=16) (po1 (fun w v=>ZD w n (fun i=>(⟨(Qg (f i)).toArray⟩:ByteArray)) v) Qiqp) (h2_1.less (fr':=(3,.v row1)::(4,.v (.int .i64 (n:Nat)))::[(0,.v (.slice A n c))]) rfl) hst1.rp hO1 KH (by omega) (fun w h=>⟨row1,rfl,h⟩)
 have htst1e:decide (((n:Nat):Int)<((n:Nat):Int))=false:=by simp
 have F6:=JE W htst1e
 refine gF (.ex 0) [(3,.x 0 0),(0,.v (.slice A n c))] [.unk 1 (po1 (fun w v=>ZD w n (fun i=>(⟨(Qg (f i)).toArray⟩:ByteArray)) v) Qiqp)] h6_4 (Zg F6) fun G5 a5 w5 hst5 _=>brk ?_
 have C7:Sd W (.callR 29 [.x 0 0] [(0,Zp.unk 1 (po1 (fun w v=>ZD w n (fun i=>(⟨(Qg (f i)).toArray⟩:ByteArray)) v) Qiqp))] (.string ⟨(Qk n (fun i=>((fun i=>(⟨(Qg (f i)).toArray⟩:ByteArray)) i).data.toList)).toArray⟩)):=by
  refine ⟨⟨_,_,func29,rfl,by kernel_rfl⟩,fun G w hw hk=> ?_⟩
  obtain ⟨_,u,hu,hq⟩:=Knows.mem (i:=0) (m:=1) (po:=(po1 (fun w v=>ZD w n (fun i=>(⟨(Qg (f i)).toArray⟩:ByteArray)) v) Qiqp)) hk (List.mem_cons_self ..)
  have:=KB n (fun i=>(⟨(Qg (f i)).toArray⟩:ByteArray)) u w hq (by simp only [Qi];exact hb)
  simp only [Qu,RV.conc,hu]
  exact this
 exact goX [.unk 1 (po1 (fun w v=>ZD w n (fun i=>(⟨(Qg (f i)).toArray⟩:ByteArray)) v) Qiqp)] hst5 (Zg C7) (vs:=[.v (.string (⟨(Qk n (fun i=>((fun i=>(⟨(Qg (f i)).toArray⟩:ByteArray)) i).data.toList)).toArray⟩:ByteArray))]) (by kernel_rfl) fun G9 w9 hr9 _=>⟨congrArg (fun z=>Ending.returned (.string z)) (bytes_eq (Eq.trans (Qi _) (by first | rfl | (simp only [Qi,bS,aS];done) | (simp only [Qi,bS,aS] <;> rfl)))),hr9.below⟩
end Go.Proofs.YtddedijencleeaaGreatDoor
