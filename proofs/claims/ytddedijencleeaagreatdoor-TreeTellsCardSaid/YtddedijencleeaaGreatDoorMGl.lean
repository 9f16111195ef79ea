/- consistoryref9.SameTable: contract. -/
import Derived.Test.YtddedijencleeaaGreatDoorSm
import Derived.Test.YtddedijencleeaaGreatDoorMSq
import Derived.Test.YtddedijencleeaaGreatDoorMGb
import Derived.Test.YtddedijencleeaaGreatDoorMGf
import Derived.Test.YtddedijencleeaaGreatDoorMGi
set_option linter.all false
namespace Go.Proofs.YtddedijencleeaaGreatDoor
set_option maxRecDepth 100000
open Tryz
open Go.RowKit Go.Lib RC

noncomputable abbrev cST:Code:=Qt f55
noncomputable abbrev nST:Nat:=f55.ntmps
theorem QR.at {W:World} {size bytes n:Nat} {v:Value} {P:Nat→List Value→Prop} (h:QR W size bytes n v P) {i:Nat} (hi:i<n): ∃ b o c cs,v= .slice (some ⟨b,o,none⟩) n c∧b<W.heap.size∧cs.length=size∧P i cs∧W.rangeAt b (o+i*size) cs:=by
 obtain ⟨A,c,rfl,_,_,_,hA⟩:=h
 obtain ⟨b,o,rfl,hb,hcs⟩:=hA (by omega)
 obtain ⟨cs,h1,_,h2,h3⟩:=hcs i hi
 exact ⟨b,o,c,cs,rfl,hb,h1,h2,h3⟩
theorem TaIn.form' {W:World} {t:Ta} {cs:List Value} (h:TaIn W t cs): ∃ A c A' c',cs=[.string t.nm,.slice A t.nc c,.slice A' t.nk c']∧QR W 3 32 t.nc (.slice A t.nc c) (fun i ds=>CoIn (t.cols i) ds)∧QR W 4 48 t.nk (.slice A' t.nk c') fun i ds=>KeIn W (t.keys i) ds:=by
 obtain ⟨_,v,u,rfl,h1,h2⟩:=h
 obtain ⟨A,c,rfl,h1'⟩:=id h1
 obtain ⟨A',c',rfl,h2'⟩:=id h2
 exact ⟨A,c,A',c',rfl,h1,h2⟩
theorem colsNo {a b:Ta} (e:a.nc=b.nc) {i:Nat} (hi:i<a.nc) (h:sameCo (a.cols i) (b.cols i)=false):ZQ a b=false:=by
 simp only [ZQ]
 rw [← e,eqN_at (r:=fun i=>sameCo (a.cols i) (b.cols i)) hi h]
 simp
theorem keysNo {a b:Ta} (e:a.nk=b.nk) {i:Nat} (hi:i<a.nk) (h:sameKe (a.keys i) (b.keys i)=false):ZQ a b=false:=by
 simp only [ZQ]
 rw [← e,eqN_at (r:=fun i=>sameKe (a.keys i) (b.keys i)) hi h]
 simp
theorem ref_sameTable (a b:Ta) (cs ds:List Value) (W:World) (ha:TaIn W a cs) (hb:TaIn W b ds) :
 Calls prog 55 #[.agg cs.toArray,.agg ds.toArray] W fun e W'=>e= .returned (.bool (ZQ a b))∧Below W.heap.size W W':=by
 obtain ⟨A,c,A2,c2,rfl,hv,hv2⟩:=ha.form'
 obtain ⟨A',c',A2',c2',rfl,hu,hu2⟩:=hb.form'
 have hle:=hv.len
 have hle2:=hv2.len
 refine Qj (c:=cST) func55 rfl (by kernel_rfl) fun a0 hst=> ?_
 obtain ⟨z0,h0⟩: ∃ z,(!(a.nm.toList==b.nm.toList))=z:=⟨_,rfl⟩
 obtain ⟨z1,h1⟩: ∃ z,((a.nc:Int) != (b.nc:Int))=z:=⟨_,rfl⟩
 obtain ⟨z2,h2⟩: ∃ z,((a.nk:Int) != (b.nk:Int))=z:=⟨_,rfl⟩
 have F0:=sd W (Qb.strNe (t:=9) h0)
 have F1:=sd W (Qb.intNe (t:=3) (k:=.i64) h1)
 have F2:=sd W (Qb.intNe (t:=3) (k:=.i64) h2)
 cases z0
 rotate_left
 · exact gE hst (Zg F0) [.bool false] fun w' hw=>⟨by rw [show ZQ a b=false by simp at h0;simp [ZQ,QB,h0]];rfl,hw⟩
 cases z1
 rotate_left
 · exact gE hst (Km F0 F1) [.bool false] fun w' hw=>⟨by rw [show ZQ a b=false by simp at h1;simp [ZQ,eqN,show a.nc≠b.nc by omega]];rfl,hw⟩
 cases z2
 rotate_left
 · exact gE hst (kE3 F0 F1 F2) [.bool false] fun w' hw=>⟨by rw [show ZQ a b=false by simp at h2;simp [ZQ,eqN,show a.nk≠b.nk by omega]];rfl,hw⟩
 refine gO cST (.loop 0) [(2,.p 0 0),(3,.p 1 0),(4,.v (.bool false)),(5,.v (.int .i64 (0:Nat)))] [bx [.string a.nm,.slice A a.nc c,.slice A2 a.nk c2],bx [.string b.nm,.slice A' b.nc c',.slice A2' b.nk c2']] hst (kE3 F0 F1 F2) fun g1 a1 w1 hst1 _=> ?_
 clear hst F0 F1 F2
 simp at h0 h1 h2
 have e1:a.nc=b.nc:=by omega
 have e2:a.nk=b.nk:=by omega
 refine Kt cST 0 Qv a.nc (fun i a' w'=>(∃ g,RC.St W.heap.size W nST [(2,.p 0 0),(3,.p 1 0),(4,.v (.bool false)),(5,.v (.int .i64 (i:Nat)))] [bx [.string a.nm,.slice A a.nc c,.slice A2 a.nk c2],bx [.string b.nm,.slice A' b.nc c',.slice A2' b.nk c2']] g a' w')∧ ∀ j,j<i→sameCo (a.cols j) (b.cols j)=true) ⟨⟨g1,hst1⟩,fun j hj=>by omega⟩ ?_ ?_
 · rintro i hi a2 w2 ⟨⟨g2,hs2⟩,hall⟩
   obtain ⟨b1,o1,d1,cs1,q1,l1,l1',p1,r1⟩:=hv.at hi
   obtain ⟨b2,o2,d2,cs2,q2,l2,l2',p2,r2⟩:=hu.at (i:=i) (by omega)
   cases q1
   cases q2
   obtain ⟨rfl,_,_⟩:=p1
   obtain ⟨rfl,_,_⟩:=p2
   obtain ⟨z,hz⟩: ∃ z,sameCo (a.cols i) (b.cols i)=z:=⟨_,rfl⟩
   have G0:=sd W (Qb.ltN (t:=3) (i:=i) (n:=a.nc) (z:=true) QOjj)
   have G1:=sd W (Qb.elem (t:=22) (e:=105) (b:=b1) (o:=o1) (n:=a.nc) (c:=c) (size:=3) (i:=i) (k:=.i64) underlying22 Qd hi)
   have G2:=sd W (Qb.row (t:=105) Qd Qd r1 l1 Qo)
   have G3:=sd W (Qb.elem (t:=22) (e:=105) (b:=b2) (o:=o2) (n:=b.nc) (c:=c') (size:=3) (i:=i) (k:=.i64) underlying22 Qd (by omega))
   have G4:=sd W (Qb.row (t:=105) Qd Qd r2 l2 Qo)
   have G5:=sd W (Qb.aggNe (t:=105) (z:= !z) (by kernel_rfl) fun w=>(eqCo (a.cols i).nm (a.cols i).ty (a.cols i).nn (b.cols i).nm (b.cols i).ty (b.cols i).nn w).trans (by rw [Bool.not_not, ← hz];rfl))
   have G6:=sd W (Qb.inc (t:=3) (i:=i) (by omega))
   cases z
   · refine goN .fin (k':=[]) (e:=.ret) [(4,.v (.bool false))] hs2 (Je G0 G1 G2 G3 G4 G5) (by as_aux_lemma=>kernel_rfl) fun bs9 g9 a9 w9 hst9=> ?_
     exact Ki (QS hst9 (vs:=[.v (.bool false)]) Qd ⟨by rw [show ZQ a b=false from colsNo e1 hi hz];rfl,hst9.rp.below⟩)
   refine goK .fin (k':=[]) (e:=.nrm) [(2,.p 0 0),(3,.p 1 0),(4,.v (.bool false)),(5,.v (.int .i64 ((i+1:Nat))))] hs2 (kE7 G0 G1 G2 G3 G4 G5 G6) (by as_aux_lemma=>kernel_rfl) fun g3 a3 w3 hst3 _=> ?_
   exact ⟨⟨g3,hst3⟩,fun j hj=>by
    by_cases e:j=i
    · rw [e];exact hz
    exact hall j (by omega)⟩
 rintro a2 w2 ⟨⟨g2,hs2⟩,hall⟩
 have G0:=sd W (Qb.ltN (t:=3) (i:=a.nc) (n:=a.nc) (z:=false) (by simp))
 refine goK .fin (k':=[]) (e:=.ex 0) [(2,.p 0 0),(3,.p 1 0),(4,.v (.bool false))] hs2 (Zg G0) (by as_aux_lemma=>kernel_rfl) fun g3 a3 w3 hst3 _=>brk ?_
 have hco:=hall
 clear hall hs2 G0
 refine goK (.loop 2) (k':=Qc cST (.loop 2)) (e:=.nrm) [(2,.p 0 0),(3,.p 1 0),(4,.v (.bool false)),(6,.v (.int .i64 (0:Nat)))] hst3 Zk (by as_aux_lemma=>kernel_rfl) fun g4 a4 w4 hst4 _=> ?_
 refine Kt cST 2 Qv a.nk (fun i a' w'=>(∃ g,RC.St W.heap.size W nST [(2,.p 0 0),(3,.p 1 0),(4,.v (.bool false)),(6,.v (.int .i64 (i:Nat)))] [bx [.string a.nm,.slice A a.nc c,.slice A2 a.nk c2],bx [.string b.nm,.slice A' b.nc c',.slice A2' b.nk c2']] g a' w')∧ ∀ j,j<i→sameKe (a.keys j) (b.keys j)=true) ⟨⟨g4,hst4⟩,fun j hj=>by omega⟩ ?_ ?_
 · rintro i hi a2 w2 ⟨⟨g2,hs2⟩,hall⟩
   obtain ⟨b1,o1,d1,cs1,q1,l1,l1',p1,r1⟩:=hv2.at hi
   obtain ⟨b2,o2,d2,cs2,q2,l2,l2',p2,r2⟩:=hu2.at (i:=i) (by omega)
   cases q1
   cases q2
   obtain ⟨_,v1,rfl,s1⟩:=p1
   obtain ⟨_,v2,rfl,s2⟩:=p2
   obtain ⟨B1,k1,rfl,_⟩:=id s1
   obtain ⟨B2,k2,rfl,_⟩:=id s2
   have hlk:=s1.len
   obtain ⟨y0,hy0⟩: ∃ z,(!((a.keys i).nm.toList==(b.keys i).nm.toList))=z:=⟨_,rfl⟩
   obtain ⟨y1,hy1⟩: ∃ z,((a.keys i).un != (b.keys i).un)=z:=⟨_,rfl⟩
   obtain ⟨y2,hy2⟩: ∃ z,((a.keys i).pr != (b.keys i).pr)=z:=⟨_,rfl⟩
   obtain ⟨y3,hy3⟩: ∃ z,(((a.keys i).n:Int) != ((b.keys i).n:Int))=z:=⟨_,rfl⟩
   have G0:=sd W (Qb.ltN (t:=3) (i:=i) (n:=a.nk) (z:=true) QOjj)
   have G1:=sd W (Qb.elem (t:=23) (e:=59) (b:=b1) (o:=o1) (n:=a.nk) (c:=c2) (size:=4) (i:=i) (k:=.i64) underlying23 Qd hi)
   have G2:=sd W (Qb.row (t:=59) Qd Qd r1 l1 Qo)
   have G3:=sd W (Qb.elem (t:=23) (e:=59) (b:=b2) (o:=o2) (n:=b.nk) (c:=c2') (size:=4) (i:=i) (k:=.i64) underlying23 Qd (by omega))
   have G4:=sd W (Qb.row (t:=59) Qd Qd r2 l2 Qo)
   have G5:=sd W (Qb.strNe (t:=9) hy0)
   have G6:=sd W (Qb.boolNe (t:=4) underlying4 hy1)
   have G7:=sd W (Qb.boolNe (t:=4) underlying4 hy2)
   have G8:=sd W (Qb.intNe (t:=3) (k:=.i64) hy3)
   clear r1 r2 l1 l2 l1' l2'
   cases y0
   rotate_left
   · refine goN .fin (k':=[]) (e:=.ret) [(4,.v (.bool false))] hs2 (Je G0 G1 G2 G3 G4 G5) (by as_aux_lemma=>kernel_rfl) fun bs9 g9 a9 w9 hst9=> ?_
     exact Ki (QS hst9 (vs:=[.v (.bool false)]) Qd ⟨by rw [show ZQ a b=false from keysNo e2 hi (by simp at hy0;simp [sameKe,QB,hy0])];rfl,hst9.rp.below⟩)
   cases y1
   rotate_left
   · refine goN .fin (k':=[]) (e:=.ret) [(4,.v (.bool false))] hs2 (kE7 G0 G1 G2 G3 G4 G5 G6) (by as_aux_lemma=>kernel_rfl) fun bs9 g9 a9 w9 hst9=> ?_
     exact Ki (QS hst9 (vs:=[.v (.bool false)]) Qd ⟨by rw [show ZQ a b=false from keysNo e2 hi (by simp at hy1;simp [sameKe,hy1])];rfl,hst9.rp.below⟩)
   cases y2
   rotate_left
   · refine goN .fin (k':=[]) (e:=.ret) [(4,.v (.bool false))] hs2 (kE8 G0 G1 G2 G3 G4 G5 G6 G7) (by as_aux_lemma=>kernel_rfl) fun bs9 g9 a9 w9 hst9=> ?_
     exact Ki (QS hst9 (vs:=[.v (.bool false)]) Qd ⟨by rw [show ZQ a b=false from keysNo e2 hi (by simp at hy2;simp [sameKe,hy2])];rfl,hst9.rp.below⟩)
   cases y3
   rotate_left
   · refine goN .fin (k':=[]) (e:=.ret) [(4,.v (.bool false))] hs2 (kE9 G0 G1 G2 G3 G4 G5 G6 G7 G8) (by as_aux_lemma=>kernel_rfl) fun bs9 g9 a9 w9 hst9=> ?_
     exact Ki (QS hst9 (vs:=[.v (.bool false)]) Qd ⟨by rw [show ZQ a b=false from keysNo e2 hi (by simp at hy3;simp [sameKe,eqN,show (a.keys i).n≠(b.keys i).n by omega])];rfl,hst9.rp.below⟩)
   refine gO (Qn cST 2) (.loop 4) [(2,.p 0 0),(3,.p 1 0),(4,.v (.bool false)),(6,.v (.int .i64 (i:Nat))),(7,.p 2 0),(8,.p 3 0),(9,.v (.int .i64 (0:Nat)))] [bx [.string a.nm,.slice A a.nc c,.slice (some ⟨b1,o1,none⟩) a.nk c2],bx [.string b.nm,.slice A' b.nc c',.slice (some ⟨b2,o2,none⟩) b.nk c2'],bx (eKey (a.keys i).nm (.slice B1 (a.keys i).n k1) (a.keys i).un (a.keys i).pr),bx (eKey (b.keys i).nm (.slice B2 (b.keys i).n k2) (b.keys i).un (b.keys i).pr)] hs2 (kE9 G0 G1 G2 G3 G4 G5 G6 G7 G8) fun g5 a5 w5 hst5 _=> ?_
   clear G0 G1 G2 G3 G4 G5 G6 G7 G8 hs2
   have e3:(a.keys i).n=(b.keys i).n:=by simp at hy3;omega
   refine Kt (Qn cST 2) 4 Qv (a.keys i).n (fun j a' w'=>(∃ g,RC.St W.heap.size W nST [(2,.p 0 0),(3,.p 1 0),(4,.v (.bool false)),(6,.v (.int .i64 (i:Nat))),(7,.p 2 0),(8,.p 3 0),(9,.v (.int .i64 (j:Nat)))] [bx [.string a.nm,.slice A a.nc c,.slice (some ⟨b1,o1,none⟩) a.nk c2],bx [.string b.nm,.slice A' b.nc c',.slice (some ⟨b2,o2,none⟩) b.nk c2'],bx (eKey (a.keys i).nm (.slice B1 (a.keys i).n k1) (a.keys i).un (a.keys i).pr),bx (eKey (b.keys i).nm (.slice B2 (b.keys i).n k2) (b.keys i).un (b.keys i).pr)] g a' w')∧ ∀ l,l<j→((a.keys i).cols l==(b.keys i).cols l)=true) ⟨⟨g5,hst5⟩,fun j hj=>by omega⟩ ?_ ?_
   · rintro j hj a6 w6 ⟨⟨g6,hs6⟩,hall6⟩
     obtain ⟨b3,o3,d3,cs3,q3,l3,l3',p3,r3⟩:=s1.at hj
     obtain ⟨b4,o4,d4,cs4,q4,l4,l4',p4,r4⟩:=s2.at (i:=j) (by omega)
     cases q3
     cases q4
     obtain ⟨rfl,_⟩:=p3
     obtain ⟨rfl,_⟩:=p4
     obtain ⟨z,hz⟩: ∃ z,((a.keys i).cols j != (b.keys i).cols j)=z:=⟨_,rfl⟩
     have G0:=sd W (Qb.ltN (t:=3) (i:=j) (n:=(a.keys i).n) (z:=true) QOjj)
     have G1:=sd W (Qb.elem (t:=57) (e:=3) (b:=b3) (o:=o3) (n:=(a.keys i).n) (c:=k1) (size:=1) (i:=j) (k:=.i64) underlying57 Qd hj)
     have G2:=sd W (Qb.cell (t:=3) Qd (r3 0 _ rfl) l3 Qo)
     have G3:=sd W (Qb.elem (t:=57) (e:=3) (b:=b4) (o:=o4) (n:=(b.keys i).n) (c:=k2) (size:=1) (i:=j) (k:=.i64) underlying57 Qd (by omega))
     have G4:=sd W (Qb.cell (t:=3) Qd (r4 0 _ rfl) l4 Qo)
     have G5:=sd W (Qb.intNe (t:=3) (k:=.i64) hz)
     have G6:=sd W (Qb.inc (t:=3) (i:=j) (by omega))
     cases z
     rotate_left
     · refine goN .fin (k':=[]) (e:=.ret) [(4,.v (.bool false))] hs6 (Je G0 G1 G2 G3 G4 G5) (by as_aux_lemma=>kernel_rfl) fun bs9 g9 a9 w9 hst9=> ?_
       exact Ki <| Ki (QS hst9 (vs:=[.v (.bool false)]) Qd ⟨by rw [show ZQ a b=false from keysNo e2 hi (by simp at hz;simp [sameKe, ← e3,eqN_at (r:=fun l=>(a.keys i).cols l==(b.keys i).cols l) hj (by simp [hz])])];rfl,hst9.rp.below⟩)
     refine goK .fin (k':=[]) (e:=.nrm) [(2,.p 0 0),(3,.p 1 0),(4,.v (.bool false)),(6,.v (.int .i64 (i:Nat))),(7,.p 2 0),(8,.p 3 0),(9,.v (.int .i64 (j+1:Nat)))] hs6 (kE7 G0 G1 G2 G3 G4 G5 G6) (by as_aux_lemma=>kernel_rfl) fun g3 a3 w3 hst3 _=> ?_
     exact ⟨⟨g3,hst3⟩,fun l hl=>by
      by_cases e:l=j
      · rw [e];simpa using hz
      exact hall6 l (by omega)⟩
   rintro a6 w6 ⟨⟨g6,hs6⟩,hall6⟩
   have G0:=sd W (Qb.ltN (t:=3) (i:=(a.keys i).n) (n:=(a.keys i).n) (z:=false) (by simp))
   have G1:=sd W (Qb.inc (t:=3) (i:=i) (by omega))
   refine goK .fin (k':=[]) (e:=.ex 4) [(2,.p 0 0),(3,.p 1 0),(4,.v (.bool false)),(6,.v (.int .i64 (i:Nat)))] hs6 (Zg G0) (by as_aux_lemma=>kernel_rfl) fun g3 a3 w3 hst3 _=>brk ?_
   refine goK .fin (k':=[]) (e:=.nrm) [(2,.p 0 0),(3,.p 1 0),(4,.v (.bool false)),(6,.v (.int .i64 ((i+1:Nat))))] hst3 (Zg G1) (by as_aux_lemma=>kernel_rfl) fun g7 a7 w7 hst7 _=> ?_
   exact ⟨⟨g7,St.pre (bs:=[bx [.string a.nm,.slice A a.nc c,.slice (some ⟨b1,o1,none⟩) a.nk c2],bx [.string b.nm,.slice A' b.nc c',.slice (some ⟨b2,o2,none⟩) b.nk c2']]) (ex:=[bx (eKey (a.keys i).nm (.slice B1 (a.keys i).n k1) (a.keys i).un (a.keys i).pr),bx (eKey (b.keys i).nm (.slice B2 (b.keys i).n k2) (b.keys i).un (b.keys i).pr)]) hst7 rfl Qd⟩,fun l hl=>by
    by_cases e:l=i
    · rw [e]
      simp at hy0 hy1 hy2
      simp only [sameKe,QB,hy0,hy1,hy2, ← e3,JM hall6]
      simp
    exact hall l (by omega)⟩
 rintro a2 w2 ⟨⟨g2,hs2⟩,hall⟩
 have G0:=sd W (Qb.ltN (t:=3) (i:=a.nk) (n:=a.nk) (z:=false) (by simp))
 refine goK .fin (k':=[]) (e:=.ex 2) [(2,.p 0 0),(3,.p 1 0),(4,.v (.bool false))] hs2 (Zg G0) (by as_aux_lemma=>kernel_rfl) fun g3 a3 w3 hst3 _=>brk ?_
 refine gE hst3 Zk [.bool true] fun w' hw=>⟨?_,hw⟩
 rw [show ZQ a b=true from ?_];rfl
 simp only [ZQ,QB,h0, ← e1, ← e2,JM hco,JM hall]
 simp
end Go.Proofs.YtddedijencleeaaGreatDoor

/- tree.Bare: contract. -/
set_option linter.all false
namespace Go.Proofs.YtddedijencleeaaGreatDoor
set_option maxRecDepth 100000
set_option maxHeartbeats 4000000
open Tryz
open Go.RowKit Go.Lib RC

noncomputable abbrev cBa:Code:=Qt f20
theorem QR.one {W:World} {size bytes n:Nat} {v:Value} {P:Nat→List Value→Prop} (h:QR W size bytes n v P):v.oneCell'=true:=by
 obtain ⟨A,c,rfl,_⟩:=h
 rfl
theorem QI.ones {W:World} {e:E} {cs:List Value} (h:QI W e cs):cs.length=10∧ ∀ v ∈ cs,v.oneCell'=true:=⟨h.len,fun v hv=>all_mem (QI.one h) v hv⟩
def pB1 (a:S):Po:=po1 (fun w u=>QR w 3 32 a.tab.nc u (fun i ds=>CoIn (a.tab.cols i) ds)) (fun W1 W2 u hs h=>h.sub hs)
def pB2 (a:S):Po:=po1 (fun w u=>QR w 4 48 a.tab.nk u (fun i ds=>KeIn w (a.tab.keys i) ds)) (fun W1 W2 u hs h=>h.both hs fun _ _ _ h=>KeIn.sub hs h)
def pB3 (a:S):Po:=po1 (fun w u=>QR w 1 24 a.nkc u (fun i ds=> ∃ v,ds=[v]∧ZD w (a.kc i).n (a.kc i).f v)) (fun W1 W2 u hs h=>h.both hs fun _ _ _ ⟨v,h1,h2⟩=>⟨v,h1,h2.sub hs⟩)
def pB4 (a:S):Po:=po1 (fun w u=>ZD w a.cl.n a.cl.f u) (fun W1 W2 u hs h=>h.sub hs)
def pB5 (a:S):Po:=po1 (fun w u=>QR w 1 24 a.nrw u (fun i ds=> ∃ v,ds=[v]∧Z6 w (ZN (a.rw i)).n (ZN (a.rw i)).f v)) (fun W1 W2 u hs h=>h.both hs fun _ _ _ ⟨v,h1,h2⟩=>⟨v,h1,h2.sub hs⟩)
def pB6 (a:S):Po:=po1 (fun w u=>QR w 11 136 a.nst u (fun i ds=>StIn w { a.st i with e:=QV (a.st i).e } ds)) (fun W1 W2 u hs h=>h.both hs fun _ _ _ h=>StIn.sub hs h)
def pB7 (a:S):Po:=po1 (fun w u=>QR w 12 144 a.nit u (fun i ds=>ItIn w { a.it i with e:=QV (a.it i).e } ds)) (fun W1 W2 u hs h=>h.both hs fun _ _ _ h=>ItIn.sub hs h)
def pB8 (a:S):Po:=po1 (fun w u=>QR w 13 160 a.nfr u (fun i ds=>SoIn w { a.fr i with e:=QV (a.fr i).e } ds)) (fun W1 W2 u hs h=>h.both hs fun _ _ _ h=>SoIn.sub hs h)
def pB9 (a:S):Po:=po1 (fun w u=>QR w 11 128 a.nor u (fun i ds=>OdIn w { a.od i with e:=QV (a.od i).e } ds)) (fun W1 W2 u hs h=>h.both hs fun _ _ _ h=>OdIn.sub hs h)
def pB11 (a:S):Po:=po1 (fun w u=>Z6 w (ZN a.gr).n (ZN a.gr).f u) (fun W1 W2 u hs h=>h.sub hs)
theorem treeBare_ok (a:S) (ca:List Value) (W:World) (ha:Ks W a ca) :
 Calls prog 20 #[.agg ca.toArray] W fun r W'=> ∃ ds,r= .returned (.agg ds.toArray)∧Ks (World.only W' fun b=>W.heap.size≤b) (JA a) ds∧Below W.heap.size W W':=by
 obtain ⟨ta,vkc,vcl,vrw,vst,wh,vit,vfr,vgr,hv,vor,rfl,ia⟩:=ha
 have wf:=ia.wf
 have wt:=ia.tab.1
 obtain ⟨tA,tc,tB,td,rfl,t1,t2⟩:=ia.tab.form'
 have s1:=ia.kc
 obtain ⟨A1,c1,rfl⟩:=ia.kc.form
 have s2:=ia.cl
 obtain ⟨A2,c2,rfl⟩:=ia.cl.form
 have s3:=ia.rw
 obtain ⟨A3,c3,rfl⟩:=ia.rw.form
 have s4:=ia.st
 obtain ⟨A4,c4,rfl⟩:=ia.st.form
 have s5:=ia.it
 obtain ⟨A5,c5,rfl⟩:=ia.it.form
 have s6:=ia.fr
 obtain ⟨A6,c6,rfl⟩:=ia.fr.form
 have s7:=ia.gr
 obtain ⟨A7,c7,rfl⟩:=ia.gr.form
 have s8:=ia.od
 obtain ⟨A8,c8,rfl⟩:=ia.od.form
 have sw:=ia.wh
 have sh:=ia.hv
 obtain ⟨wk,wo,wvk,wvn,wvt,wtb,wnm,wA,wn,wc,wpl,wty,rfl⟩:=ia.wh.form
 obtain ⟨hk,ho,hvk,hvn,hvt,htb,hnm,hA,hn,hc,hpl,hty,rfl⟩:=ia.hv.form
 clear ia
 have G1:Sd W (.opq 59 [.slice tA a.tab.nc tc] 1 (.x 0 0) (pB1 a)):=Qb.one (P:=prog) (N:=W.heap.size) (W:=W) (f:=59) (args:=[.slice tA a.tab.nc tc]) (q:=fun w u=>QR w 3 32 a.tab.nc u (fun i ds=>CoIn (a.tab.cols i) ds)) QMDu func59 rfl Qd QX7N (fun w hw=>clone_Column (t1.sub (.below hw)))
 have G2:Sd W (.opq 60 [.slice tB a.tab.nk td,(.func (Fn.func 61) #[] #[])] 1 (.x 0 0) (pB2 a)):=Qb.one (P:=prog) (N:=W.heap.size) (W:=W) (f:=60) (args:=[.slice tB a.tab.nk td,(.func (Fn.func 61) #[] #[])]) (q:=fun w u=>QR w 4 48 a.tab.nk u (fun i ds=>KeIn w (a.tab.keys i) ds)) (fun W1 W2 u hs h=>h.both hs fun _ _ _ h=>KeIn.sub hs h) func60 rfl Qd QX7N (fun w hw=>each_Key (Q:=fun W1 i cs=>KeIn W1 (a.tab.keys i) cs) (Zz func61 Qd rfl) (t2.both (.below hw) fun _ _ _ h=>KeIn.sub (.below hw) h) (fun _ _ _ _ hs h=>KeIn.sub hs h) (fun W2 hb2 i cs _ h _=>(bare_Ke (a.tab.keys i) cs W2 (KeIn.sub (.below hb2) h)).mono fun e W3 ⟨ds,h1,h2,h3,h4,h5⟩=>⟨ds,h1,h3,h4,h2,h5⟩))
 have G3:Sd W (.opq 63 [.slice A1 a.nkc c1,(.func (Fn.func 64) #[] #[])] 1 (.x 0 0) (pB3 a)):=Qb.one (P:=prog) (N:=W.heap.size) (W:=W) (f:=63) (args:=[.slice A1 a.nkc c1,(.func (Fn.func 64) #[] #[])]) (q:=fun w u=>QR w 1 24 a.nkc u (fun i ds=> ∃ v,ds=[v]∧ZD w (a.kc i).n (a.kc i).f v)) QOy9 func63 rfl Qd QX7N (fun w hw=>each1_Ns (P:=fun i x=>ZD w (a.kc i).n (a.kc i).f x) (Q:=fun W1 i ds=> ∃ v,ds=[v]∧ZD W1 (a.kc i).n (a.kc i).f v) (Zz func64 Qd rfl) (fun i x h=>let ⟨A,c,h⟩:=h.form; ⟨A,_,c,h⟩) (s1.both (.below hw) fun _ _ _ ⟨v,h1,h2⟩=>⟨v,h1,h2.sub (.below hw)⟩) Qpry (fun W2 hb2 i x _ h=>(clone_string (QR.sub h (.below hb2))).mono fun e W3 ⟨u,h1,h2,h3⟩=>let ⟨A,c,hu⟩:=ZD.form h2; ⟨A,_,c,hu ▸ h1,⟨_,hu ▸ rfl,h2⟩,h3⟩))
 have G4:Sd W (.opq 64 [.slice A2 a.cl.n c2] 1 (.x 0 0) (pB4 a)):=Qb.one (P:=prog) (N:=W.heap.size) (W:=W) (f:=64) (args:=[.slice A2 a.cl.n c2]) (q:=fun w u=>ZD w a.cl.n a.cl.f u) QMDu func64 rfl Qd QX7N (fun w hw=>clone_string (QR.sub s2 (.below hw)))
 have G5:Sd W (.opq 65 [.slice A3 a.nrw c3,(.func (Fn.func 66) #[] #[])] 1 (.x 0 0) (pB5 a)):=Qb.one (P:=prog) (N:=W.heap.size) (W:=W) (f:=65) (args:=[.slice A3 a.nrw c3,(.func (Fn.func 66) #[] #[])]) (q:=fun w u=>QR w 1 24 a.nrw u (fun i ds=> ∃ v,ds=[v]∧Z6 w (ZN (a.rw i)).n (ZN (a.rw i)).f v)) QOy9 func65 rfl Qd QX7N (fun w hw=>each1_Es (P:=fun i x=>Z6 w (a.rw i).n (a.rw i).f x) (Q:=fun W1 i ds=> ∃ v,ds=[v]∧Z6 W1 (ZN (a.rw i)).n (ZN (a.rw i)).f v) (Zz func66 Qd rfl) (fun i x h=>let ⟨A,c,h⟩:=h.form; ⟨A,_,c,h⟩) (s3.both (.below hw) fun _ _ _ ⟨v,h1,h2⟩=>⟨v,h1,h2.sub (.below hw)⟩) Qpry (fun W2 hb2 i x _ h=>(bare_Es (a.rw i) x W2 (h.sub (.below hb2))).mono fun e W3 ⟨A,n,c,h1,h2,h3⟩=>⟨A,n,c,h1,⟨_,rfl,h2⟩,h3⟩))
 have G6:Sd W (.opq 69 [.slice A4 a.nst c4,(.func (Fn.func 70) #[] #[])] 1 (.x 0 0) (pB6 a)):=Qb.one (P:=prog) (N:=W.heap.size) (W:=W) (f:=69) (args:=[.slice A4 a.nst c4,(.func (Fn.func 70) #[] #[])]) (q:=fun w u=>QR w 11 136 a.nst u (fun i ds=>StIn w { a.st i with e:=QV (a.st i).e } ds)) (fun W1 W2 u hs h=>h.both hs fun _ _ _ h=>StIn.sub hs h) func69 rfl Qd QX7N (fun w hw=>each_Set (Q:=fun W1 i cs=>StIn W1 { a.st i with e:=QV (a.st i).e } cs) (Zz func70 Qd rfl) (s4.both (.below hw) fun _ _ _ h=>StIn.sub (.below hw) h) (fun _ _ _ _ hs h=>StIn.sub hs h) (fun W2 hb2 i cs _ h _=>(bare_St (a.st i) cs W2 (StIn.sub (.below hb2) h)).mono fun e W3 ⟨ds,h1,h2,h3,h4,h5⟩=>⟨ds,h1,h3,h4,h2,h5⟩))
 have G7:Sd W (.opq 71 [.slice A5 a.nit c5,(.func (Fn.func 72) #[] #[])] 1 (.x 0 0) (pB7 a)):=Qb.one (P:=prog) (N:=W.heap.size) (W:=W) (f:=71) (args:=[.slice A5 a.nit c5,(.func (Fn.func 72) #[] #[])]) (q:=fun w u=>QR w 12 144 a.nit u (fun i ds=>ItIn w { a.it i with e:=QV (a.it i).e } ds)) (fun W1 W2 u hs h=>h.both hs fun _ _ _ h=>ItIn.sub hs h) func71 rfl Qd QX7N (fun w hw=>each_Item (Q:=fun W1 i cs=>ItIn W1 { a.it i with e:=QV (a.it i).e } cs) (Zz func72 Qd rfl) (s5.both (.below hw) fun _ _ _ h=>ItIn.sub (.below hw) h) (fun _ _ _ _ hs h=>ItIn.sub hs h) (fun W2 hb2 i cs _ h _=>(bare_It (a.it i) cs W2 (ItIn.sub (.below hb2) h)).mono fun e W3 ⟨ds,h1,h2,h3,h4,h5⟩=>⟨ds,h1,h3,h4,h2,h5⟩))
 have G8:Sd W (.opq 73 [.slice A6 a.nfr c6,(.func (Fn.func 74) #[] #[])] 1 (.x 0 0) (pB8 a)):=Qb.one (P:=prog) (N:=W.heap.size) (W:=W) (f:=73) (args:=[.slice A6 a.nfr c6,(.func (Fn.func 74) #[] #[])]) (q:=fun w u=>QR w 13 160 a.nfr u (fun i ds=>SoIn w { a.fr i with e:=QV (a.fr i).e } ds)) (fun W1 W2 u hs h=>h.both hs fun _ _ _ h=>SoIn.sub hs h) func73 rfl Qd QX7N (fun w hw=>each_Source (Q:=fun W1 i cs=>SoIn W1 { a.fr i with e:=QV (a.fr i).e } cs) (Zz func74 Qd rfl) (s6.both (.below hw) fun _ _ _ h=>SoIn.sub (.below hw) h) (fun _ _ _ _ hs h=>SoIn.sub hs h) (fun W2 hb2 i cs _ h _=>(bare_So (a.fr i) cs W2 (SoIn.sub (.below hb2) h)).mono fun e W3 ⟨ds,h1,h2,h3,h4,h5⟩=>⟨ds,h1,h3,h4,h2,h5⟩))
 have G9:Sd W (.opq 75 [.slice A8 a.nor c8,(.func (Fn.func 76) #[] #[])] 1 (.x 0 0) (pB9 a)):=Qb.one (P:=prog) (N:=W.heap.size) (W:=W) (f:=75) (args:=[.slice A8 a.nor c8,(.func (Fn.func 76) #[] #[])]) (q:=fun w u=>QR w 11 128 a.nor u (fun i ds=>OdIn w { a.od i with e:=QV (a.od i).e } ds)) (fun W1 W2 u hs h=>h.both hs fun _ _ _ h=>OdIn.sub hs h) func75 rfl Qd QX7N (fun w hw=>each_Order (Q:=fun W1 i cs=>OdIn W1 { a.od i with e:=QV (a.od i).e } cs) (Zz func76 Qd rfl) (s8.both (.below hw) fun _ _ _ h=>OdIn.sub (.below hw) h) (fun _ _ _ _ hs h=>OdIn.sub hs h) (fun W2 hb2 i cs _ h _=>(bare_Od (a.od i) cs W2 (OdIn.sub (.below hb2) h)).mono fun e W3 ⟨ds,h1,h2,h3,h4,h5⟩=>⟨ds,h1,h3,h4,h2,h5⟩))
 have G10:=sd W (Qb.cells (f:=68) (args:=[eV wk wo wvk wvn wvt wtb wnm wA wn wc wpl wty]) (m:=10) (q:=fun w ds=>QI w (QV a.wh) ds) QKfY func68 rfl Qd (fun w ds h=>QI.ones h) (fun w hw=>bare_ok a.wh _ w (QI.sub (.below hw) sw)))
 have G11:Sd W (.opq 67 [.slice A7 a.gr.n c7,(.func (Fn.func 68) #[] #[])] 1 (.x 0 0) (pB11 a)):=Qb.one (P:=prog) (N:=W.heap.size) (W:=W) (f:=67) (args:=[.slice A7 a.gr.n c7,(.func (Fn.func 68) #[] #[])]) (q:=fun w u=>Z6 w (ZN a.gr).n (ZN a.gr).f u) QMDu func67 rfl Qd QX7N (fun w hw=>each_Expr (Q:=fun W1 i cs=>QI W1 (QV (a.gr.f i)) cs) (Zz func68 Qd rfl) (QR.both s7 (.below hw) fun _ _ _ h=>QI.sub (.below hw) h) (fun _ _ _ _ hs h=>QI.sub hs h) (fun W2 hb2 i cs _ h hl=>(bare_ok (a.gr.f i) cs W2 (QI.sub (.below hb2) h)).mono fun e W3 ⟨ds,h1,h2,h3⟩=>⟨ds,h1,h2.len,QI.one h2,h2,h3⟩))
 have G12:=sd W (Qb.cells (f:=68) (args:=[eV hk ho hvk hvn hvt htb hnm hA hn hc hpl hty]) (m:=10) (q:=fun w ds=>QI w (QV a.hv) ds) QKfY func68 rfl Qd (fun w ds h=>QI.ones h) (fun w hw=>bare_ok a.hv _ w (QI.sub (.below hw) sh)))
 refine Qj (c:=cBa) func20 rfl (by kernel_rfl) fun a0 hst=> ?_
 refine goX [.box (.v (.int .i64 a.kind):: .v (.string a.tab.nm):: .x 2 0:: .x 3 0:: .x 4 0:: .v (.string a.nm):: .v (.string a.ix):: .v (.bool a.un):: .x 5 0:: .x 6 0:: .x 7 0::(xsN 11 10++(.v (.bool a.di):: .x 8 0:: .x 9 0:: .x 12 0::(xsN 13 10++[.x 10 0,.v (.int .i64 a.li)])))),.box (.v (.int .i64 a.kind):: .v (.string a.tab.nm):: .x 2 0:: .x 3 0:: .x 4 0:: .v (.string a.nm):: .v (.string a.ix):: .v (.bool a.un):: .x 5 0:: .x 6 0:: .x 7 0::(xsN 11 10++(.v (.bool a.di):: .x 8 0:: .x 9 0:: .x 12 0::(xsN 13 10++[.x 10 0,.v (.int .i64 a.li)])))),.unk 1 (pB1 a),.unk 1 (pB2 a),.unk 1 (pB3 a),.unk 1 (pB4 a),.unk 1 (pB5 a),.unk 1 (pB6 a),.unk 1 (pB7 a),.unk 1 (pB8 a),.unk 1 (pB9 a),.unk 10 (poL (fun w ds=>QI w (QV a.wh) ds) QKfY),.unk 1 (pB11 a),.unk 10 (poL (fun w ds=>QI w (QV a.hv) ds) QKfY)] hst (kE12 G1 G2 G3 G4 G5 G6 G7 G8 G9 G10 G11 G12) (vs:=[.agg (.v (.int .i64 a.kind):: .v (.string a.tab.nm):: .x 2 0:: .x 3 0:: .x 4 0:: .v (.string a.nm):: .v (.string a.ix):: .v (.bool a.un):: .x 5 0:: .x 6 0:: .x 7 0::(xsN 11 10++(.v (.bool a.di):: .x 8 0:: .x 9 0:: .x 12 0::(xsN 13 10++[.x 10 0,.v (.int .i64 a.li)]))))]) (by kernel_rfl) fun G w hr _=> ?_
 obtain ⟨v2,u2,q2⟩:=Rp.one hr (i:=2) rfl
 obtain ⟨v3,u3,q3⟩:=Rp.one hr (i:=3) rfl
 obtain ⟨v4,u4,q4⟩:=Rp.one hr (i:=4) rfl
 obtain ⟨v5,u5,q5⟩:=Rp.one hr (i:=5) rfl
 obtain ⟨v6,u6,q6⟩:=Rp.one hr (i:=6) rfl
 obtain ⟨v7,u7,q7⟩:=Rp.one hr (i:=7) rfl
 obtain ⟨v8,u8,q8⟩:=Rp.one hr (i:=8) rfl
 obtain ⟨v9,u9,q9⟩:=Rp.one hr (i:=9) rfl
 obtain ⟨v10,u10,q10⟩:=Rp.one hr (i:=10) rfl
 obtain ⟨v11,q11⟩:=Rp.cells hr (i:=11) (m:=10) (q:=fun w ds=>QI w (QV a.wh) ds) (hq:=fun W1 W2 u hs h=>QI.sub hs h) rfl
 have u11:G.u 11=G.u 11:=rfl
 obtain ⟨v12,u12,q12⟩:=Rp.one hr (i:=12) rfl
 obtain ⟨v13,q13⟩:=Rp.cells hr (i:=13) (m:=10) (q:=fun w ds=>QI w (QV a.hv) ds) (hq:=fun W1 W2 u hs h=>QI.sub hs h) rfl
 have u13:G.u 13=G.u 13:=rfl
 refine ⟨_,rfl,⟨[.string a.tab.nm,v2,v3],v4,v5,v6,v7,G.u 11,v8,v9,v12,G.u 13,v10,?_,?_⟩,hr.below⟩
 · simp only [Qu,Kp,Kc rfl v11,Kc rfl v13,RV.conc,u2,u3,u4,u5,u6,u7,u8,u9,u10,u12]
   rfl
 exact ⟨⟨wf.kind,wf.nm,wf.ix,wf.li⟩,⟨wt,v2,v3,rfl,q2,q3⟩,q4,q5,q6,q7,q11,q8,q9,q12,q13,q10⟩
end Go.Proofs.YtddedijencleeaaGreatDoor

/- consistoryref9.alikes, Alike: contracts. -/
set_option linter.all false
namespace Go.Proofs.YtddedijencleeaaGreatDoor
set_option maxRecDepth 100000
set_option maxHeartbeats 4000000
open Tryz
open Go.RowKit Go.Lib

theorem alikes_gen {W:World} {n m:Nat} {v u:Value} {f g:Nat→E} (q:Nat→Bool) (hv:Z6 W n f v) (hu:Z6 W m g u)
 (hf: ∀ W',Below W.heap.size W W'→ ∀ i cs ds,i<n→i<m→QI W (f i) cs→QI W (g i) ds→Calls prog 58 #[.agg cs.toArray,.agg ds.toArray] W' fun e W2=>e= .returned (.bool (q i))∧Below W'.heap.size W' W2) :
 Calls prog 57 #[v,u] W fun e W'=>e= .returned (.bool (eqN n m q))∧Below W.heap.size W W':=by
 obtain ⟨A,c,rfl,hnc,hc,hby,hA⟩:=hv
 obtain ⟨A',c',rfl,hmc,hc',hby',hA'⟩:=hu
 have HA:=Qh hA
 have HA':=Qh hA'
 have HF:=Qh hf
 have hn:n≤9223372036854775807:=by omega
 have hm:m≤9223372036854775807:=by omega
 clear hA hA' hf hnc hc hby hmc hc' hby'
 by_cases hnm:n=m
 · subst hnm
   go_enter func57,ntmps57
   go_wp2
   go_loopw [5] (fun i wr=> ∃ k:Nat,k≤n∧i= .int .i64 k∧Hid ((∀ j,j<k→q j=true)∧Below W.heap.size W wr)) (fun i _=>n - (RowKit.intOf i).toNat)
   case atStart=>exact ⟨0,Nat.zero_le _,rfl,Qh ⟨fun j hj=>by omega,Below.refl _ _⟩⟩
   case round=>
    obtain ⟨k,hk,rfl,HBW⟩:=hrel
    by_cases hlt:k<n
    · obtain ⟨b,o,rfl,hb,hcs⟩:=(Qa HA) (by omega)
      obtain ⟨cs,hl,hone,hP,hr⟩:=hcs k hlt
      obtain ⟨b',o',rfl,hb',hds⟩:=(Qa HA') (by omega)
      obtain ⟨ds,hl',hone',hQ,hr'⟩:=hds k hlt
      have HC:=Qh fun wr' hb=>Qh ((Qa HF) wr' hb k cs ds hlt hlt hP hQ)
      have R:=Q5 hr (Qa HBW).2
      have R':=Q5 hr' (Qa HBW).2
      obtain ⟨k1,o1,vk1,vn1,vt1,tb1,nm1,A1,n1,c1,pl1,ty1,rfl⟩:=QI.form hP
      obtain ⟨k2,o2,vk2,vn2,vt2,tb2,nm2,A2,n2,c2,pl2,ty2,rfl⟩:=QI.form hQ
      have x0:=R 0 _ rfl
      have x1:=R 1 _ rfl
      have x2:=R 2 _ rfl
      have x3:=R 3 _ rfl
      have x4:=R 4 _ rfl
      have x5:=R 5 _ rfl
      have x6:=R 6 _ rfl
      have x7:=R 7 _ rfl
      have x8:=R 8 _ rfl
      have x9:=R 9 _ rfl
      have y0:=R' 0 _ rfl
      have y1:=R' 1 _ rfl
      have y2:=R' 2 _ rfl
      have y3:=R' 3 _ rfl
      have y4:=R' 4 _ rfl
      have y5:=R' 5 _ rfl
      have y6:=R' 6 _ rfl
      have y7:=R' 7 _ rfl
      have y8:=R' 8 _ rfl
      have y9:=R' 9 _ rfl
      rw [Nat.add_zero] at x0 y0
      clear hcs hds hr hr' hb hb' hP hQ R R' hl hl' hone hone'
      generalize hq:q k=qk at HC
      have HQ:=Qh hq
      clear hq
      go_upto_region 6 with fail
      go_region_with (go_at_call 58;refine (Qa (Qa HC _ (by first | exact (Qa HBW).2 | exact (Qa HBW).2.drew))).mono ?_;rintro e w2 ⟨rfl,hb2⟩)
      all_goals
       have HB2:Hid (Below W.heap.size W w2):=by first | exact Qh (Below.andThen (Qa HBW).2 hb2) | exact Qh (Below.andThen (Qa HBW).2.drew hb2)
       clear hb2
       cases qk with
       | false=>
         go_wp2
         go_ret
         exact ⟨by rw [eqN_at hlt (Qa HQ)];rfl,Qa HB2⟩
       | true=>
         go_wp2
         go_roundw
         case rel=>exact ⟨k+1,by omega,by go_num,Qh ⟨fun j hj=>by rcases Nat.lt_succ_iff_lt_or_eq.1 hj with h | h;exact (Qa HBW).1 j h;rw [h];exact Qa HQ,Qa HB2⟩⟩
         case measure=>simp [RowKit.intOf];omega
    go_wp2
    go_ret
    have:k=n:=by omega
    subst this
    exact ⟨by rw [JM (Qa HBW).1];rfl,(Qa HBW).2⟩
 go_enter func57,ntmps57
 go_wp2
 go_ret
 exact ⟨by rw [eqN_no hnm];rfl,Below.refl _ _⟩
theorem alike_ok: ∀ (e e':E) (cs cs':List Value) (W:World),QI W e cs→QI W e' cs' →
 Calls prog 58 #[.agg cs.toArray,.agg cs'.toArray] W fun r W'=>r= .returned (.bool (Zf e e'))∧Below W.heap.size W W'
 | .no,_,_,_,_,h,_=>False.elim h
 | .mk ..,.no,_,_,_,_,h=>False.elim h
 | .mk k op vk vn vt tb nm n args pl ty,.mk k' op' vk' vn' vt' tb' nm' n' args' pl' ty',cs,cs',W,h,h'=>by
   obtain ⟨_,v,rfl,hv⟩:=h
   obtain ⟨_,u,rfl,hu⟩:=h'
   have HC:=Qh fun W' (hb:Below W.heap.size W W')=>Qh (alikes_gen (W:=W') (fun i=>Zf (args i) (args' i)) (QR.both hv (.below hb) fun _ _ _ h=>QI.sub (.below hb) h) (QR.both hu (.below hb) fun _ _ _ h=>QI.sub (.below hb) h)
    (fun W2 hb2 i cs ds _ _ h h'=>alike_ok (args i) (args' i) cs ds W2 (QI.sub (.below hb2) h) (QI.sub (.below hb2) h')))
   have HB: ∀ o o',Hid (Below W.heap.size W ((W.alloc o).alloc o')):=fun o o'=>Qh (((Below.refl _ _).alloc (Nat.le_refl _) o).alloc (by simp) o')
   obtain ⟨A,c,rfl,_⟩:=hv
   obtain ⟨A',c',rfl,_⟩:=hu
   have hq:=fun w=>eqVal vk vn vt vk' vn' vt' w
   simp only [Zf]
   generalize eqN n n' (fun i=>Zf (args i) (args' i))=z at HC ⊢
   generalize valB vk vn vk' vn' vt vt'=b2 at hq ⊢
   generalize h0:(k==k')=b0
   generalize h1:(op==op')=b1
   unfold QB
   generalize h3:(tb.toList==tb'.toList)=b3
   generalize h4:(nm.toList==nm'.toList)=b4
   generalize h5:(pl==pl')=b5
   generalize h6:(ty==ty')=b6
   dsimp only [ZG]
   cases b0
   · go_enter func58,ntmps58
     go_wp2_with fail
     go_ret
     exact ⟨by simp,Qa (HB _ _)⟩
   cases b1
   · go_enter func58,ntmps58
     go_wp2_with fail
     go_ret
     exact ⟨by simp,Qa (HB _ _)⟩
   cases b2
   · go_enter func58,ntmps58
     go_wp2_with fail
     go_ret
     exact ⟨by simp,Qa (HB _ _)⟩
   cases b3
   · go_enter func58,ntmps58
     go_wp2_with fail
     go_ret
     exact ⟨by simp,Qa (HB _ _)⟩
   cases b4
   · go_enter func58,ntmps58
     go_wp2_with fail
     go_ret
     exact ⟨by simp,Qa (HB _ _)⟩
   cases b5
   · go_enter func58,ntmps58
     go_wp2_with fail
     go_ret
     exact ⟨by simp,Qa (HB _ _)⟩
   cases b6
   · go_enter func58,ntmps58
     go_wp2_with fail
     go_ret
     exact ⟨by simp,Qa (HB _ _)⟩
   go_enter func58,ntmps58
   go_wp2_with fail
   refine (Qa ((Qa HC) _ (Qa (HB _ _)))).mono ?_
   rintro e w1 ⟨rfl,hb1⟩
   have HW:=Qh (Below.andThen (Qa (HB _ _)) hb1)
   clear hb1
   go_wp2
   go_ret
   exact ⟨by simp,Qa HW⟩
theorem alikes_ok {W:World} {n m:Nat} {v u:Value} {f g:Nat→E} (hv:Z6 W n f v) (hu:Z6 W m g u) :
 Calls prog 57 #[v,u] W fun e W'=>e= .returned (.bool (eqN n m fun i=>Zf (f i) (g i)))∧Below W.heap.size W W' :=
 alikes_gen (fun i=>Zf (f i) (g i)) hv hu fun W2 hb2 i cs ds _ _ h h'=>alike_ok (f i) (g i) cs ds W2 (QI.sub (.below hb2) h) (QI.sub (.below hb2) h')
end Go.Proofs.YtddedijencleeaaGreatDoor
