/- ref9.IsExpr: the same truth as tree.IsExpr's. -/
import Derived.Test.YtddedijencleeaaGreatDoorSm
import Derived.Test.YtddedijencleeaaGreatDoorMSq
import Derived.Test.YtddedijencleeaaGreatDoorMTu
set_option linter.all false
namespace Go.Proofs.YtddedijencleeaaGreatDoor
set_option maxRecDepth 100000
set_option maxHeartbeats 8000000
open Tryz
open Go.RowKit Go.Lib RC

theorem bareExpr_ok (k op vk vn:Int) (vt tb nm:ByteArray) (A:Option Addr) (n c:Nat) (pl ty:Int) (W:World) :
 Calls prog 49 #[eV k op vk vn vt tb nm A n c pl ty] W fun r W'=>r= .returned (.bool (pl==0&&ty==0))∧Below W.heap.size W W':=by
 refine Qj (args:=[eV k op vk vn vt tb nm A n c pl ty]) (c:=Qt f49) func49 rfl (by kernel_rfl) fun a0 hst=> ?_
 obtain ⟨z1,h1⟩: ∃ z,(pl==0)=z:=⟨_,rfl⟩
 obtain ⟨z2,h2⟩: ∃ z,(ty==0)=z:=⟨_,rfl⟩
 have E1:=QN W h1
 have E2:=QN W h2
 cases z1
 · exact gE hst (Zg E1) [.bool false] fun w' hw=>⟨by rw [h1];rfl,hw⟩
 exact gE hst (Km E1 E2) [.bool z2] fun w' hw=>⟨by rw [h1,h2];rfl,hw⟩
noncomputable abbrev cI9:Code:=Qt f15
theorem ZX: ∀ (e:E) (cs:List Value) (W:World),QI W e cs →
 Calls prog 15 #[.agg cs.toArray] W fun r W'=>r= .returned (.bool (QH e))∧Below W.heap.size W W'
 | .no,_,_,h=>False.elim h
 | .mk k op vk vn vt tb nm n args pl ty,cs,W,h=>by
   have HF:=fun (i:Nat) (cs:List Value) (W':World) (h:QI W' (args i) cs)=>ZX (args i) cs W' h
   obtain ⟨wf,v,rfl,hv⟩:=h
   have hsl:QR W 10 120 n v (fun i ds=>QI W (args i) ds):=hv
   clear hv
   have hn:=hsl.len
   obtain ⟨A,c,rfl⟩:=QR.form hsl
   have w1:=wf.vt
   have w2:=wf.tb
   have w3:=wf.nm
   clear wf
   refine Qj (args:=[.agg (ZG k op vk vn vt tb nm (.slice A n c) pl ty).toArray]) (c:=cI9) func15 rfl (by kernel_rfl) fun a0 hst=> ?_
   refine gO cI9 (.loop 0) [(3,.v (.int .i64 (0:Nat))),(1,.p 0 0),(2,.v (.bool false))] [bx (ZG k op vk vn vt tb nm (.slice A n c) pl ty)] hst Zk fun G1 a1 w1' hst1 _=> ?_
   clear hst
   refine Kf cI9 0 3 2 3 n (fun i=>QH (args i)) (.bool false) hn Qv hst1 (fun i hi hq=> ?_) (fun i hi hq=> ?_) Qv rfl Qd (fun i hi hq bs9 g9 a9 w9 hst=>QS hst (vs:=[.v (.bool false)]) Qd ⟨by rw [QH,Qw (r:=fun i=>QH (args i)) hi hq,Bool.and_false];rfl,hst.rp.below⟩) fun hl g2 a2 w2' hst=> ?_
   · obtain ⟨b1,o1,d1,cs1,q1,l1,l1',p1,r1⟩:=hsl.at hi
     cases q1
     have GI:=sd W (Qb.elem (t:=32) (e:=34) (b:=b1) (o:=o1) (n:=n) (c:=c) (size:=10) (i:=i) (k:=.i64) underlying32 Qd hi)
     have GR:=sd W (Qb.row (t:=34) Qd Qjph r1 l1 Qo)
     have GC:Sd W (.call 15 [.agg cs1.toArray] (.bool true)):=by
      rw [← hq]
      exact QluH
     exact QHir
   · obtain ⟨b1,o1,d1,cs1,q1,l1,l1',p1,r1⟩:=hsl.at hi
     cases q1
     have GI:=sd W (Qb.elem (t:=32) (e:=34) (b:=b1) (o:=o1) (n:=n) (c:=c) (size:=10) (i:=i) (k:=.i64) underlying32 Qd hi)
     have GR:=sd W (Qb.row (t:=34) Qd Qjph r1 l1 Qo)
     have GC:Sd W (.call 15 [.agg cs1.toArray] (.bool false)):=by
      rw [← hq]
      exact QluH
     exact QHir
   have hal:(Zd n fun i=>QH (args i))=true:=Qx.2 hl
   clear hst1 HF
   obtain ⟨be,hbe⟩: ∃ z,(pl==0&&ty==0)=z:=⟨_,rfl⟩
   have BE:Sd W (.call 49 [eV k op vk vn vt tb nm A n c pl ty] (.bool be)):=by
    rw [← hbe]
    exact QY0E
   obtain ⟨vz,hvz⟩: ∃ z,(valB vk vn 0 0 vt ⟨#[]⟩)=z:=⟨_,rfl⟩
   have VZ:=sd W (Qb.aggEq (t:=31) (z:=vz) (by kernel_rfl) fun w=>(eqVal vk vn vt 0 0 ⟨#[]⟩ w).trans (by rw [← hvz]))
   obtain ⟨stb,hstb⟩: ∃ z,(QB tb ⟨#[]⟩)=z:=⟨_,rfl⟩
   have Stb:=sd W (Qb.strEq (t:=9) (a:=tb) (b:=⟨#[]⟩) (z:=stb) (by rw [← hstb];rfl))
   obtain ⟨snm,hsnm⟩: ∃ z,(QB nm ⟨#[]⟩)=z:=⟨_,rfl⟩
   have Snm:=sd W (Qb.strEq (t:=9) (a:=nm) (b:=⟨#[]⟩) (z:=snm) (by rw [← hsnm];rfl))
   obtain ⟨o0,ho0⟩: ∃ z,(op==0)=z:=⟨_,rfl⟩
   have O0:=QN W ho0
   have hv0:valB 0 0 0 0 ⟨#[]⟩ ⟨#[]⟩=true:=by simp [valB,Z9]
   have hs0:QB ⟨#[]⟩ ⟨#[]⟩=true:=Z9 _
   obtain ⟨y1,hy1⟩: ∃ z,(k==1)=z:=⟨_,rfl⟩
   have K1:=QN W hy1
   obtain ⟨y2,hy2⟩: ∃ z,(k==2)=z:=⟨_,rfl⟩
   have K2:=QN W hy2
   obtain ⟨y3,hy3⟩: ∃ z,(k==3)=z:=⟨_,rfl⟩
   have K3:=QN W hy3
   obtain ⟨y4,hy4⟩: ∃ z,(k==4)=z:=⟨_,rfl⟩
   have K4:=QN W hy4
   obtain ⟨y5,hy5⟩: ∃ z,(k==5)=z:=⟨_,rfl⟩
   have K5:=QN W hy5
   obtain ⟨y6,hy6⟩: ∃ z,(k==6)=z:=⟨_,rfl⟩
   have K6:=QN W hy6
   obtain ⟨y7,hy7⟩: ∃ z,(k==7)=z:=⟨_,rfl⟩
   have K7:=QN W hy7
   obtain ⟨is,his⟩: ∃ z,(mayB vk vn vt)=z:=⟨_,rfl⟩
   have IS:Sd W (.call 50 [.agg #[.int .i64 vk,.int .i64 vn,.string vt]] (.bool is)):=by
    rw [← his]
    exact Qb.of func50 rfl Qd (fun w hw=>ref1_Is vk vn vt w w1)
   obtain ⟨rnm,hrnm⟩: ∃ z,QD nm=z:=⟨_,rfl⟩
   have Rnm:Sd W (.call 37 [.string nm] (.bool rnm)):=by
    rw [← hrnm, ← KK]
    exact Qb.of func37 rfl Qd (fun w hw=>ZR nm w3 w)
   obtain ⟨rtb,hrtb⟩: ∃ z,QD tb=z:=⟨_,rfl⟩
   have Rtb:Sd W (.call 37 [.string tb] (.bool rtb)):=by
    rw [← hrtb, ← KK]
    exact Qb.of func37 rfl Qd (fun w hw=>ZR tb w2 w)
   obtain ⟨n0,hn0⟩: ∃ z,(((n:Nat):Int)==0)=z:=⟨_,rfl⟩
   have N0:=QN W hn0
   obtain ⟨n1,hn1⟩: ∃ z,(((n:Nat):Int)==1)=z:=⟨_,rfl⟩
   have N1:=QN W hn1
   obtain ⟨n2,hn2⟩: ∃ z,(((n:Nat):Int)==2)=z:=⟨_,rfl⟩
   have N2:=QN W hn2
   obtain ⟨o19,ho19⟩: ∃ z,(op==19)=z:=⟨_,rfl⟩
   have O19:=QN W ho19
   obtain ⟨g1,hg1⟩: ∃ z,(decide (1≤op))=z:=⟨_,rfl⟩
   have G1:=nGe W hg1
   obtain ⟨g5,hg5⟩: ∃ z,(decide (5≤op))=z:=⟨_,rfl⟩
   have G5:=nGe W hg5
   obtain ⟨g20,hg20⟩: ∃ z,(decide (20≤op))=z:=⟨_,rfl⟩
   have G20:=nGe W hg20
   obtain ⟨l4,hl4⟩: ∃ z,(decide (op≤4))=z:=⟨_,rfl⟩
   have L4:=nLe W hl4
   obtain ⟨l18,hl18⟩: ∃ z,(decide (op≤18))=z:=⟨_,rfl⟩
   have L18:=nLe W hl18
   obtain ⟨l22,hl22⟩: ∃ z,(decide (op≤22))=z:=⟨_,rfl⟩
   have L22:=nLe W hl22
   obtain ⟨m2,hm2⟩: ∃ z,(decide (2≤((n:Nat):Int)))=z:=⟨_,rfl⟩
   have M2:=nGe W hm2
   obtain ⟨u1,hu1⟩: ∃ z,(decide (((n:Nat):Int)≤1))=z:=⟨_,rfl⟩
   have U1:=nLe W hu1
   obtain ⟨u11,hu11⟩: ∃ z,(decide (((n:Nat):Int)≤11))=z:=⟨_,rfl⟩
   have U11:=nLe W hu11
   obtain ⟨u21,hu21⟩: ∃ z,(decide (((n:Nat):Int)≤21))=z:=⟨_,rfl⟩
   have U21:=nLe W hu21
   cases y1
   rotate_left
   · cases be
     · exact gE hst (kE3 BE O0 K1) [.bool false] fun w' hw=>⟨by
        have:QH (.mk k op vk vn vt tb nm n args pl ty)=false:=by
         rw [QH,hal,Bool.and_true]
         exact ZC
        rw [this];rfl,hw⟩
     · obtain rfl:y2=false:=by have:=eq_of_beq hy1;subst this;rw [← hy2];rfl
       cases snm
       · exact gE hst (Je BE K1 K2 Snm O0 K1) [.bool false] fun w' hw=>⟨by
          have:QH (.mk k op vk vn vt tb nm n args pl ty)=false:=by
           rw [QH,hal,Bool.and_true]
           exact ZC
          rw [this];rfl,hw⟩
       · cases stb
         · exact gE hst (kE7 BE K1 K2 Snm Stb O0 K1) [.bool false] fun w' hw=>⟨by
            have:QH (.mk k op vk vn vt tb nm n args pl ty)=false:=by
             rw [QH,hal,Bool.and_true]
             exact ZC
            rw [this];rfl,hw⟩
         · cases o0
           · exact gE hst (kE7 BE K1 K2 Snm Stb O0 K1) [.bool false] fun w' hw=>⟨by
              have:QH (.mk k op vk vn vt tb nm n args pl ty)=false:=by
               rw [QH,hal,Bool.and_true]
               exact ZC
              rw [this];rfl,hw⟩
           · cases n0
             · exact gE hst (kE8 BE K1 K2 Snm Stb O0 K1 N0) [.bool false] fun w' hw=>⟨by
                have:QH (.mk k op vk vn vt tb nm n args pl ty)=false:=by
                 rw [QH,hal,Bool.and_true]
                 exact ZC
                rw [this];rfl,hw⟩
             · exact gE hst (kE9 BE K1 K2 Snm Stb O0 K1 N0 IS) [.bool is] fun w' hw=>⟨by
                have:QH (.mk k op vk vn vt tb nm n args pl ty)=is:=by
                 rw [QH,hal,Bool.and_true]
                 exact ZC
                rw [this];rfl,hw⟩
   cases y2
   rotate_left
   · cases be
     · exact gE hst (Jf BE O0 K1 K2) [.bool false] fun w' hw=>⟨by
        have:QH (.mk k op vk vn vt tb nm n args pl ty)=false:=by
         rw [QH,hal,Bool.and_true]
         exact ZC
        rw [this];rfl,hw⟩
     · cases vz
       · exact gE hst (Je BE K1 VZ O0 K1 K2) [.bool false] fun w' hw=>⟨by
          have:QH (.mk k op vk vn vt tb nm n args pl ty)=false:=by
           rw [QH,hal,Bool.and_true]
           exact ZC
          rw [this];rfl,hw⟩
       · cases o0
         · exact gE hst (kE7 BE K1 VZ K2 O0 K1 K2) [.bool false] fun w' hw=>⟨by
            have:QH (.mk k op vk vn vt tb nm n args pl ty)=false:=by
             rw [QH,hal,Bool.and_true]
             exact ZC
            rw [this];rfl,hw⟩
         · cases n0
           · exact gE hst (kE8 BE K1 VZ K2 O0 K1 K2 N0) [.bool false] fun w' hw=>⟨by
              have:QH (.mk k op vk vn vt tb nm n args pl ty)=false:=by
               rw [QH,hal,Bool.and_true]
               exact ZC
              rw [this];rfl,hw⟩
           · cases rnm
             · exact gE hst (kE9 BE K1 VZ K2 O0 K1 K2 N0 Rnm) [.bool false] fun w' hw=>⟨by
                have:QH (.mk k op vk vn vt tb nm n args pl ty)=false:=by
                 rw [QH,hal,Bool.and_true]
                 exact ZC
                rw [this];rfl,hw⟩
             · cases stb
               · exact gE hst (JD BE K1 VZ K2 O0 K1 K2 N0 Rnm Stb Rtb) [.bool rtb] fun w' hw=>⟨by
                  have:QH (.mk k op vk vn vt tb nm n args pl ty)=rtb:=by
                   rw [QH,hal,Bool.and_true]
                   exact ZC
                  rw [this];rfl,hw⟩
               · exact gE hst (Kr BE K1 VZ K2 O0 K1 K2 N0 Rnm Stb) [.bool true] fun w' hw=>⟨by
                  have:QH (.mk k op vk vn vt tb nm n args pl ty)=true:=by
                   rw [QH,hal,Bool.and_true]
                   exact ZC
                  rw [this];rfl,hw⟩
   cases y3
   rotate_left
   · cases be
     · exact gE hst (kE5 BE O0 K1 K2 K3) [.bool false] fun w' hw=>⟨by
        have:QH (.mk k op vk vn vt tb nm n args pl ty)=false:=by
         rw [QH,hal,Bool.and_true]
         exact ZC
        rw [this];rfl,hw⟩
     · cases vz
       · exact gE hst (kE7 BE K1 VZ O0 K1 K2 K3) [.bool false] fun w' hw=>⟨by
          have:QH (.mk k op vk vn vt tb nm n args pl ty)=false:=by
           rw [QH,hal,Bool.and_true]
           exact ZC
          rw [this];rfl,hw⟩
       · cases snm
         · exact gE hst (kE9 BE K1 VZ K2 Snm O0 K1 K2 K3) [.bool false] fun w' hw=>⟨by
            have:QH (.mk k op vk vn vt tb nm n args pl ty)=false:=by
             rw [QH,hal,Bool.and_true]
             exact ZC
            rw [this];rfl,hw⟩
         · cases stb
           · exact gE hst (Kr BE K1 VZ K2 Snm Stb O0 K1 K2 K3) [.bool false] fun w' hw=>⟨by
              have:QH (.mk k op vk vn vt tb nm n args pl ty)=false:=by
               rw [QH,hal,Bool.and_true]
               exact ZC
              rw [this];rfl,hw⟩
           · cases g1
             · exact gE hst (JD BE K1 VZ K2 Snm Stb O0 K1 K2 K3 G1) [.bool false] fun w' hw=>⟨by
                have:QH (.mk k op vk vn vt tb nm n args pl ty)=false:=by
                 rw [QH,hal,Bool.and_true]
                 exact ZC
                rw [this];rfl,hw⟩
             · cases l4
               · exact gE hst (kE12 BE K1 VZ K2 Snm Stb O0 K1 K2 K3 G1 L4) [.bool false] fun w' hw=>⟨by
                  have:QH (.mk k op vk vn vt tb nm n args pl ty)=false:=by
                   rw [QH,hal,Bool.and_true]
                   exact ZC
                  rw [this];rfl,hw⟩
               · exact gE hst (kE13 BE K1 VZ K2 Snm Stb O0 K1 K2 K3 G1 L4 N1) [.bool n1] fun w' hw=>⟨by
                  have:QH (.mk k op vk vn vt tb nm n args pl ty)=n1:=by
                   rw [QH,hal,Bool.and_true]
                   exact ZC
                  rw [this];rfl,hw⟩
   cases y4
   rotate_left
   · cases be
     · exact gE hst (Je BE O0 K1 K2 K3 K4) [.bool false] fun w' hw=>⟨by
        have:QH (.mk k op vk vn vt tb nm n args pl ty)=false:=by
         rw [QH,hal,Bool.and_true]
         exact ZC
        rw [this];rfl,hw⟩
     · cases vz
       · exact gE hst (kE8 BE K1 VZ O0 K1 K2 K3 K4) [.bool false] fun w' hw=>⟨by
          have:QH (.mk k op vk vn vt tb nm n args pl ty)=false:=by
           rw [QH,hal,Bool.and_true]
           exact ZC
          rw [this];rfl,hw⟩
       · cases snm
         · exact gE hst (Kr BE K1 VZ K2 Snm O0 K1 K2 K3 K4) [.bool false] fun w' hw=>⟨by
            have:QH (.mk k op vk vn vt tb nm n args pl ty)=false:=by
             rw [QH,hal,Bool.and_true]
             exact ZC
            rw [this];rfl,hw⟩
         · cases stb
           · exact gE hst (JD BE K1 VZ K2 Snm Stb O0 K1 K2 K3 K4) [.bool false] fun w' hw=>⟨by
              have:QH (.mk k op vk vn vt tb nm n args pl ty)=false:=by
               rw [QH,hal,Bool.and_true]
               exact ZC
              rw [this];rfl,hw⟩
           · cases g5
             · exact gE hst (kE12 BE K1 VZ K2 Snm Stb O0 K1 K2 K3 K4 G5) [.bool false] fun w' hw=>⟨by
                have:QH (.mk k op vk vn vt tb nm n args pl ty)=false:=by
                 rw [QH,hal,Bool.and_true]
                 exact ZC
                rw [this];rfl,hw⟩
             · cases l18
               · exact gE hst (kE13 BE K1 VZ K2 Snm Stb O0 K1 K2 K3 K4 G5 L18) [.bool false] fun w' hw=>⟨by
                  have:QH (.mk k op vk vn vt tb nm n args pl ty)=false:=by
                   rw [QH,hal,Bool.and_true]
                   exact ZC
                  rw [this];rfl,hw⟩
               · exact gE hst (kE14 BE K1 VZ K2 Snm Stb O0 K1 K2 K3 K4 G5 L18 N2) [.bool n2] fun w' hw=>⟨by
                  have:QH (.mk k op vk vn vt tb nm n args pl ty)=n2:=by
                   rw [QH,hal,Bool.and_true]
                   exact ZC
                  rw [this];rfl,hw⟩
   cases y5
   rotate_left
   · cases be
     · exact gE hst (kE7 BE O0 K1 K2 K3 K4 K5) [.bool false] fun w' hw=>⟨by
        have:QH (.mk k op vk vn vt tb nm n args pl ty)=false:=by
         rw [QH,hal,Bool.and_true]
         exact ZC
        rw [this];rfl,hw⟩
     · cases vz
       · exact gE hst (kE9 BE K1 VZ O0 K1 K2 K3 K4 K5) [.bool false] fun w' hw=>⟨by
          have:QH (.mk k op vk vn vt tb nm n args pl ty)=false:=by
           rw [QH,hal,Bool.and_true]
           exact ZC
          rw [this];rfl,hw⟩
       · cases snm
         · exact gE hst (JD BE K1 VZ K2 Snm O0 K1 K2 K3 K4 K5) [.bool false] fun w' hw=>⟨by
            have:QH (.mk k op vk vn vt tb nm n args pl ty)=false:=by
             rw [QH,hal,Bool.and_true]
             exact ZC
            rw [this];rfl,hw⟩
         · cases stb
           · exact gE hst (kE12 BE K1 VZ K2 Snm Stb O0 K1 K2 K3 K4 K5) [.bool false] fun w' hw=>⟨by
              have:QH (.mk k op vk vn vt tb nm n args pl ty)=false:=by
               rw [QH,hal,Bool.and_true]
               exact ZC
              rw [this];rfl,hw⟩
           · cases o0
             · exact gE hst (kE12 BE K1 VZ K2 Snm Stb O0 K1 K2 K3 K4 K5) [.bool false] fun w' hw=>⟨by
                have:QH (.mk k op vk vn vt tb nm n args pl ty)=false:=by
                 rw [QH,hal,Bool.and_true]
                 exact ZC
                rw [this];rfl,hw⟩
             · cases m2
               · exact gE hst (kE13 BE K1 VZ K2 Snm Stb O0 K1 K2 K3 K4 K5 M2) [.bool false] fun w' hw=>⟨by
                  have:QH (.mk k op vk vn vt tb nm n args pl ty)=false:=by
                   rw [QH,hal,Bool.and_true]
                   exact ZC
                  rw [this];rfl,hw⟩
               · exact gE hst (kE14 BE K1 VZ K2 Snm Stb O0 K1 K2 K3 K4 K5 M2 U11) [.bool u11] fun w' hw=>⟨by
                  have:QH (.mk k op vk vn vt tb nm n args pl ty)=u11:=by
                   rw [QH,hal,Bool.and_true]
                   exact ZC
                  rw [this];rfl,hw⟩
   cases y6
   rotate_left
   · cases be
     · exact gE hst (kE8 BE O0 K1 K2 K3 K4 K5 K6) [.bool false] fun w' hw=>⟨by
        have:QH (.mk k op vk vn vt tb nm n args pl ty)=false:=by
         rw [QH,hal,Bool.and_true]
         exact ZC
        rw [this];rfl,hw⟩
     · cases vz
       · exact gE hst (Kr BE K1 VZ O0 K1 K2 K3 K4 K5 K6) [.bool false] fun w' hw=>⟨by
          have:QH (.mk k op vk vn vt tb nm n args pl ty)=false:=by
           rw [QH,hal,Bool.and_true]
           exact ZC
          rw [this];rfl,hw⟩
       · cases snm
         · exact gE hst (kE12 BE K1 VZ K2 Snm O0 K1 K2 K3 K4 K5 K6) [.bool false] fun w' hw=>⟨by
            have:QH (.mk k op vk vn vt tb nm n args pl ty)=false:=by
             rw [QH,hal,Bool.and_true]
             exact ZC
            rw [this];rfl,hw⟩
         · cases stb
           · exact gE hst (kE13 BE K1 VZ K2 Snm Stb O0 K1 K2 K3 K4 K5 K6) [.bool false] fun w' hw=>⟨by
              have:QH (.mk k op vk vn vt tb nm n args pl ty)=false:=by
               rw [QH,hal,Bool.and_true]
               exact ZC
              rw [this];rfl,hw⟩
           · cases o0
             · exact gE hst (kE13 BE K1 VZ K2 Snm Stb O0 K1 K2 K3 K4 K5 K6) [.bool false] fun w' hw=>⟨by
                have:QH (.mk k op vk vn vt tb nm n args pl ty)=false:=by
                 rw [QH,hal,Bool.and_true]
                 exact ZC
                rw [this];rfl,hw⟩
             · cases m2
               · exact gE hst (kE14 BE K1 VZ K2 Snm Stb O0 K1 K2 K3 K4 K5 K6 M2) [.bool false] fun w' hw=>⟨by
                  have:QH (.mk k op vk vn vt tb nm n args pl ty)=false:=by
                   rw [QH,hal,Bool.and_true]
                   exact ZC
                  rw [this];rfl,hw⟩
               · exact gE hst (kE15 BE K1 VZ K2 Snm Stb O0 K1 K2 K3 K4 K5 K6 M2 U21) [.bool u21] fun w' hw=>⟨by
                  have:QH (.mk k op vk vn vt tb nm n args pl ty)=u21:=by
                   rw [QH,hal,Bool.and_true]
                   exact ZC
                  rw [this];rfl,hw⟩
   cases y7
   rotate_left
   · cases be
     · exact gE hst (kE9 BE O0 K1 K2 K3 K4 K5 K6 K7) [.bool false] fun w' hw=>⟨by
        have:QH (.mk k op vk vn vt tb nm n args pl ty)=false:=by
         rw [QH,hal,Bool.and_true]
         exact ZC
        rw [this];rfl,hw⟩
     · cases vz
       · exact gE hst (JD BE K1 VZ O0 K1 K2 K3 K4 K5 K6 K7) [.bool false] fun w' hw=>⟨by
          have:QH (.mk k op vk vn vt tb nm n args pl ty)=false:=by
           rw [QH,hal,Bool.and_true]
           exact ZC
          rw [this];rfl,hw⟩
       · cases snm
         · exact gE hst (kE13 BE K1 VZ K2 Snm O0 K1 K2 K3 K4 K5 K6 K7) [.bool false] fun w' hw=>⟨by
            have:QH (.mk k op vk vn vt tb nm n args pl ty)=false:=by
             rw [QH,hal,Bool.and_true]
             exact ZC
            rw [this];rfl,hw⟩
         · cases stb
           · exact gE hst (kE14 BE K1 VZ K2 Snm Stb O0 K1 K2 K3 K4 K5 K6 K7) [.bool false] fun w' hw=>⟨by
              have:QH (.mk k op vk vn vt tb nm n args pl ty)=false:=by
               rw [QH,hal,Bool.and_true]
               exact ZC
              rw [this];rfl,hw⟩
           · cases o19
             · cases g20
               · exact gE hst (Q7 BE K1 VZ K2 Snm Stb O0 K1 K2 K3 K4 K5 K6 K7 O19 G20) [.bool false] fun w' hw=>⟨by
                  have:QH (.mk k op vk vn vt tb nm n args pl ty)=false:=by
                   rw [QH,hal,Bool.and_true]
                   exact ZC
                  rw [this];rfl,hw⟩
               · cases l22
                 · exact gE hst (kO1 BE (Q7 K1 VZ K2 Snm Stb O0 K1 K2 K3 K4 K5 K6 K7 O19 G20 L22)) [.bool false] fun w' hw=>⟨by
                    have:QH (.mk k op vk vn vt tb nm n args pl ty)=false:=by
                     rw [QH,hal,Bool.and_true]
                     exact ZC
                    rw [this];rfl,hw⟩
                 · cases n1
                   · exact gE hst (kO2 BE K1 (Q7 VZ K2 Snm Stb O0 K1 K2 K3 K4 K5 K6 K7 O19 G20 L22 N1)) [.bool false] fun w' hw=>⟨by
                      have:QH (.mk k op vk vn vt tb nm n args pl ty)=false:=by
                       rw [QH,hal,Bool.and_true]
                       exact ZC
                      rw [this];rfl,hw⟩
                   · exact gE hst (kO2 BE K1 (Q7 VZ K2 Snm Stb O0 K1 K2 K3 K4 K5 K6 K7 O19 G20 L22 N1)) [.bool true] fun w' hw=>⟨by
                      have:QH (.mk k op vk vn vt tb nm n args pl ty)=true:=by
                       rw [QH,hal,Bool.and_true]
                       exact ZC
                      rw [this];rfl,hw⟩
             · cases u1
               · cases g20
                 · exact gE hst (kO1 BE (Q7 K1 VZ K2 Snm Stb O0 K1 K2 K3 K4 K5 K6 K7 O19 U1 G20)) [.bool false] fun w' hw=>⟨by
                    have:QH (.mk k op vk vn vt tb nm n args pl ty)=false:=by
                     rw [QH,hal,Bool.and_true]
                     exact ZC
                    rw [this];rfl,hw⟩
                 · cases l22
                   · exact gE hst (kO2 BE K1 (Q7 VZ K2 Snm Stb O0 K1 K2 K3 K4 K5 K6 K7 O19 U1 G20 L22)) [.bool false] fun w' hw=>⟨by
                      have:QH (.mk k op vk vn vt tb nm n args pl ty)=false:=by
                       rw [QH,hal,Bool.and_true]
                       exact ZC
                      rw [this];rfl,hw⟩
                   · cases n1
                     · exact gE hst (kO3 BE K1 VZ (Q7 K2 Snm Stb O0 K1 K2 K3 K4 K5 K6 K7 O19 U1 G20 L22 N1)) [.bool false] fun w' hw=>⟨by
                        have:QH (.mk k op vk vn vt tb nm n args pl ty)=false:=by
                         rw [QH,hal,Bool.and_true]
                         exact ZC
                        rw [this];rfl,hw⟩
                     · exact gE hst (kO3 BE K1 VZ (Q7 K2 Snm Stb O0 K1 K2 K3 K4 K5 K6 K7 O19 U1 G20 L22 N1)) [.bool true] fun w' hw=>⟨by
                        have:QH (.mk k op vk vn vt tb nm n args pl ty)=true:=by
                         rw [QH,hal,Bool.and_true]
                         exact ZC
                        rw [this];rfl,hw⟩
               · exact gE hst (Q7 BE K1 VZ K2 Snm Stb O0 K1 K2 K3 K4 K5 K6 K7 O19 U1) [.bool true] fun w' hw=>⟨by
                  have:QH (.mk k op vk vn vt tb nm n args pl ty)=true:=by
                   rw [QH,hal,Bool.and_true]
                   exact ZC
                  rw [this];rfl,hw⟩
   cases be
   · exact gE hst (kE9 BE O0 K1 K2 K3 K4 K5 K6 K7) [.bool false] fun w' hw=>⟨by
      have:QH (.mk k op vk vn vt tb nm n args pl ty)=false:=by
       rw [QH,hal,Bool.and_true]
       exact ZC
      rw [this];rfl,hw⟩
   · cases vz
     · exact gE hst (JD BE K1 VZ O0 K1 K2 K3 K4 K5 K6 K7) [.bool false] fun w' hw=>⟨by
        have:QH (.mk k op vk vn vt tb nm n args pl ty)=false:=by
         rw [QH,hal,Bool.and_true]
         exact ZC
        rw [this];rfl,hw⟩
     · cases snm
       · exact gE hst (kE13 BE K1 VZ K2 Snm O0 K1 K2 K3 K4 K5 K6 K7) [.bool false] fun w' hw=>⟨by
          have:QH (.mk k op vk vn vt tb nm n args pl ty)=false:=by
           rw [QH,hal,Bool.and_true]
           exact ZC
          rw [this];rfl,hw⟩
       · cases stb
         · exact gE hst (kE14 BE K1 VZ K2 Snm Stb O0 K1 K2 K3 K4 K5 K6 K7) [.bool false] fun w' hw=>⟨by
            have:QH (.mk k op vk vn vt tb nm n args pl ty)=false:=by
             rw [QH,hal,Bool.and_true]
             exact ZC
            rw [this];rfl,hw⟩
         · exact gE hst (kE14 BE K1 VZ K2 Snm Stb O0 K1 K2 K3 K4 K5 K6 K7) [.bool false] fun w' hw=>⟨by
            have:QH (.mk k op vk vn vt tb nm n args pl ty)=false:=by
             rw [QH,hal,Bool.and_true]
             exact ZC
            rw [this];rfl,hw⟩
end Go.Proofs.YtddedijencleeaaGreatDoor

/- ref9.none, may; tree.maybe: contracts. -/
set_option linter.all false
namespace Go.Proofs.YtddedijencleeaaGreatDoor
set_option maxRecDepth 100000
open Tryz
open Go.RowKit Go.Lib RC

def none9 (k op vk vn:Int) (vt tb nm:ByteArray) (n:Nat) (pl ty:Int):Bool:=k==0&&op==0&&valB vk vn 0 0 vt ⟨#[]⟩&&QB tb ⟨#[]⟩&&QB nm ⟨#[]⟩&&((n:Nat):Int)==0&&(pl==0&&ty==0)
theorem none9_eq (k op vk vn:Int) (vt tb nm:ByteArray) (n:Nat) (pl ty:Int):none9 k op vk vn vt tb nm n pl ty=ZA k op vk vn vt tb nm n pl ty:=by
 unfold none9 ZA ZB
 cases (k==0) <;> cases (op==0) <;> cases (valB vk vn 0 0 vt ⟨#[]⟩) <;> cases (QB tb ⟨#[]⟩) <;> cases (QB nm ⟨#[]⟩) <;> cases (((n:Nat):Int)==0) <;> cases (pl==0) <;> cases (ty==0) <;> rfl
theorem none9_ok (k op vk vn:Int) (vt tb nm:ByteArray) (A:Option Addr) (n c:Nat) (pl ty:Int) (W:World) :
 Calls prog 118 #[eV k op vk vn vt tb nm A n c pl ty] W fun r W'=>r= .returned (.bool (ZA k op vk vn vt tb nm n pl ty))∧Below W.heap.size W W':=by
 rw [← none9_eq]
 refine Qj (args:=[eV k op vk vn vt tb nm A n c pl ty]) (c:=Qt f118) func118 rfl (by kernel_rfl) fun a0 hst=> ?_
 obtain ⟨z0,hz0⟩: ∃ z,(k==0)=z:=⟨_,rfl⟩
 have E0:=QN W hz0
 obtain ⟨z1,hz1⟩: ∃ z,(op==0)=z:=⟨_,rfl⟩
 have E1:=QN W hz1
 obtain ⟨z2,hz2⟩: ∃ z,(valB vk vn 0 0 vt ⟨#[]⟩)=z:=⟨_,rfl⟩
 have E2:=sd W (Qb.aggEq (t:=31) (z:=z2) (by kernel_rfl) fun w=>(eqVal vk vn vt 0 0 ⟨#[]⟩ w).trans (by rw [← hz2]))
 obtain ⟨z3,hz3⟩: ∃ z,(QB tb ⟨#[]⟩)=z:=⟨_,rfl⟩
 have E3:=sd W (Qb.strEq (t:=9) (a:=tb) (b:=⟨#[]⟩) (z:=z3) (by rw [← hz3];rfl))
 obtain ⟨z4,hz4⟩: ∃ z,(QB nm ⟨#[]⟩)=z:=⟨_,rfl⟩
 have E4:=sd W (Qb.strEq (t:=9) (a:=nm) (b:=⟨#[]⟩) (z:=z4) (by rw [← hz4];rfl))
 obtain ⟨z5,hz5⟩: ∃ z,(((n:Nat):Int)==0)=z:=⟨_,rfl⟩
 have E5:=QN W hz5
 obtain ⟨z6,hz6⟩: ∃ z,(pl==0&&ty==0)=z:=⟨_,rfl⟩
 have C6:Sd W (.call 49 [eV k op vk vn vt tb nm A n c pl ty] (.bool z6)):=by
  rw [← hz6]
  exact QY0E
 cases z0
 · exact gE hst (Zg E0) [.bool false] fun w' hw=>⟨by simp only [none9,hz0,Bool.and_false,Bool.false_and];rfl,hw⟩
 cases z1
 · exact gE hst (Km E0 E1) [.bool false] fun w' hw=>⟨by simp only [none9,hz0,hz1,Bool.and_false,Bool.false_and];rfl,hw⟩
 cases z2
 · exact gE hst (kE3 E0 E1 E2) [.bool false] fun w' hw=>⟨by simp only [none9,hz0,hz1,hz2,Bool.and_false,Bool.false_and];rfl,hw⟩
 cases z3
 · exact gE hst (Jf E0 E1 E2 E3) [.bool false] fun w' hw=>⟨by simp only [none9,hz0,hz1,hz2,hz3,Bool.and_false,Bool.false_and];rfl,hw⟩
 cases z4
 · exact gE hst (kE5 E0 E1 E2 E3 E4) [.bool false] fun w' hw=>⟨by simp only [none9,hz0,hz1,hz2,hz3,hz4,Bool.and_false,Bool.false_and];rfl,hw⟩
 cases z5
 · exact gE hst (Je E0 E1 E2 E3 E4 E5) [.bool false] fun w' hw=>⟨by simp only [none9,hz0,hz1,hz2,hz3,hz4,hz5,Bool.and_false,Bool.false_and];rfl,hw⟩
 exact gE hst (kE7 E0 E1 E2 E3 E4 E5 C6) [.bool z6] fun w' hw=>⟨by rw [none9,hz0,hz1,hz2,hz3,hz4,hz5,hz6];rfl,hw⟩
def QE:E→Bool
 | .no=>false
 | .mk k op vk vn vt tb nm n args pl ty=>ZA k op vk vn vt tb nm n pl ty
theorem zeroE_tree (e:E) (cs:List Value) (W:World) (h:QI W e cs):Calls prog 161 #[.agg cs.toArray] W fun r W'=>r= .returned (.bool (QE e))∧Below W.heap.size W W':=by
 cases e with
 | no=>exact False.elim h
 | mk k op vk vn vt tb nm n args pl ty=>
  obtain ⟨_,v,rfl,hv⟩:=h
  obtain ⟨A,c,rfl⟩:=QR.form hv
  exact zero_ok k op vk vn vt tb nm A n c pl ty W
theorem zeroE_ref (e:E) (cs:List Value) (W:World) (h:QI W e cs):Calls prog 118 #[.agg cs.toArray] W fun r W'=>r= .returned (.bool (QE e))∧Below W.heap.size W W':=by
 cases e with
 | no=>exact False.elim h
 | mk k op vk vn vt tb nm n args pl ty=>
  obtain ⟨_,v,rfl,hv⟩:=h
  obtain ⟨A,c,rfl⟩:=QR.form hv
  exact none9_ok k op vk vn vt tb nm A n c pl ty W
noncomputable def Zx (e:E):Bool:=QE e||QH e
theorem maybe_ok (e:E) (cs:List Value) (W:World) (h:QI W e cs):Calls prog 100 #[.agg cs.toArray] W fun r W'=>r= .returned (.bool (Zx e))∧Below W.heap.size W W':=by
 have h0:=h
 obtain ⟨wk,wo,wvk,wvn,wvt,wtb,wnm,wA,wn,wc,wpl,wty,rfl⟩:=h.form
 obtain ⟨z,hz⟩: ∃ z,QE e=z:=⟨_,rfl⟩
 have CZ:Sd W (.call 161 [eV wk wo wvk wvn wvt wtb wnm wA wn wc wpl wty] (.bool z)):=by
  rw [← hz]
  exact Qb.of func161 rfl Qd (fun w hw=>zeroE_tree e _ w QFFb)
 have CI:Sd W (.call 14 [eV wk wo wvk wvn wvt wtb wnm wA wn wc wpl wty] (.bool (QH e))):=Qb.of func14 rfl Qd (fun w hw=>KY e _ w QFFb)
 refine Qj (args:=[eV wk wo wvk wvn wvt wtb wnm wA wn wc wpl wty]) (c:=Qt f100) func100 rfl (by kernel_rfl) fun a0 hst=> ?_
 cases z
 · exact Qw0i
 exact QVoI
theorem may9_ok (e:E) (cs:List Value) (W:World) (h:QI W e cs):Calls prog 41 #[.agg cs.toArray] W fun r W'=>r= .returned (.bool (Zx e))∧Below W.heap.size W W':=by
 have h0:=h
 obtain ⟨wk,wo,wvk,wvn,wvt,wtb,wnm,wA,wn,wc,wpl,wty,rfl⟩:=h.form
 obtain ⟨z,hz⟩: ∃ z,QE e=z:=⟨_,rfl⟩
 have CZ:Sd W (.call 118 [eV wk wo wvk wvn wvt wtb wnm wA wn wc wpl wty] (.bool z)):=by
  rw [← hz]
  exact Qb.of func118 rfl Qd (fun w hw=>zeroE_ref e _ w QFFb)
 have CI:Sd W (.call 15 [eV wk wo wvk wvn wvt wtb wnm wA wn wc wpl wty] (.bool (QH e))):=Qb.of func15 rfl Qd (fun w hw=>ZX e _ w QFFb)
 refine Qj (args:=[eV wk wo wvk wvn wvt wtb wnm wA wn wc wpl wty]) (c:=Qt f41) func41 rfl (by kernel_rfl) fun a0 hst=> ?_
 cases z
 · exact Qw0i
 exact QVoI
end Go.Proofs.YtddedijencleeaaGreatDoor

/- ref9.exprs, names: contracts. -/
set_option linter.all false
namespace Go.Proofs.YtddedijencleeaaGreatDoor
set_option maxRecDepth 100000
set_option maxHeartbeats 2000000
open Tryz
open Go.RowKit Go.Lib RC

def JF (n:Nat) (least:Int) (q:Nat→Bool):Bool:= !(decide ((n:Int)<least))&& !(decide (10<(n:Int)))&&Zd n q
noncomputable abbrev c9exprs:Code:=Qt f40
noncomputable abbrev c9names:Code:=Qt f39
theorem exprs_ok (n:Nat) (f:Nat→E) (v:Value) (least:Int) (W:World) (hv:Z6 W n f v) :
 Calls prog 40 #[v,.int .i64 least] W fun r W'=>r= .returned (.bool (JF n least fun i=>QH (f i)))∧Below W.heap.size W W':=by
 have hsl:QR W 10 120 n v (fun i ds=>QI W (f i) ds):=hv
 have hn:=hsl.len
 obtain ⟨A,c,rfl⟩:=QR.form hsl
 refine Qj (args:=[.slice A n c,.int .i64 least]) (c:=c9exprs) func40 rfl (by kernel_rfl) fun a0 hst=> ?_
 obtain ⟨z1,h1⟩: ∃ z,decide ((n:Int)<least)=z:=⟨_,rfl⟩
 have L1:=JE W h1
 cases z1
 rotate_left
 · exact QnCW
 obtain ⟨z2,h2⟩: ∃ z,decide (10<(n:Int))=z:=⟨_,rfl⟩
 have L2:=nGt W h2
 cases z2
 rotate_left
 · exact QVr6
 refine gO c9exprs (.loop 0) [(5,.v (.int .i64 (0:Nat))),(0,.v (.slice A n c)),(4,.v (.bool false))] [] hst (Km L1 L2) fun G1 a1 w1 hst1 _=> ?_
 refine Kf c9exprs 0 5 4 3 n (fun i=>QH (f i)) (.bool false) hn Qv hst1 (fun i hi hq=> ?_) (fun i hi hq=> ?_) Qv rfl Qd (fun i hi hq bs9 g9 a9 w9 hst=>QS hst (vs:=[.v (.bool false)]) Qd ⟨by rw [JF,Qw (r:=fun i=>QH (f i)) hi hq,Bool.and_false];rfl,hst.rp.below⟩) fun hl g2 a2 w2 hstG=> ?_
 · obtain ⟨b1,o1,d1,cs1,q1,l1,l1',p1,r1⟩:=hsl.at hi
   cases q1
   have GI:=sd W (Qb.elem (t:=32) (e:=34) (b:=b1) (o:=o1) (n:=n) (c:=c) (size:=10) (i:=i) (k:=.i64) underlying32 Qd hi)
   have GR:=sd W (Qb.row (t:=34) Qd Qjph r1 l1 Qo)
   have GC:Sd W (.call 15 [.agg cs1.toArray] (.bool true)):=by
    rw [← hq]
    exact Qf1n
   exact QHir
 · obtain ⟨b1,o1,d1,cs1,q1,l1,l1',p1,r1⟩:=hsl.at hi
   cases q1
   have GI:=sd W (Qb.elem (t:=32) (e:=34) (b:=b1) (o:=o1) (n:=n) (c:=c) (size:=10) (i:=i) (k:=.i64) underlying32 Qd hi)
   have GR:=sd W (Qb.row (t:=34) Qd Qjph r1 l1 Qo)
   have GC:Sd W (.call 15 [.agg cs1.toArray] (.bool false)):=by
    rw [← hq]
    exact Qf1n
   exact QHir
 exact QDm7
theorem names_ok (n:Nat) (f:Nat→ByteArray) (v:Value) (least:Int) (W:World) (hv:ZD W n f v) :
 Calls prog 39 #[v,.int .i64 least] W fun r W'=>r= .returned (.bool (JF n least fun i=>QD (f i)))∧Below W.heap.size W W':=by
 have hsl:QR W 1 16 n v (fun i ds=>ds=[.string (f i)]∧(f i).size≤9223372036854775807):=hv
 have hn:=hsl.len
 obtain ⟨A,c,rfl⟩:=QR.form hsl
 refine Qj (args:=[.slice A n c,.int .i64 least]) (c:=c9names) func39 rfl (by kernel_rfl) fun a0 hst=> ?_
 obtain ⟨z1,h1⟩: ∃ z,decide ((n:Int)<least)=z:=⟨_,rfl⟩
 have L1:=JE W h1
 cases z1
 rotate_left
 · exact QnCW
 obtain ⟨z2,h2⟩: ∃ z,decide (10<(n:Int))=z:=⟨_,rfl⟩
 have L2:=nGt W h2
 cases z2
 rotate_left
 · exact QVr6
 refine gO c9names (.loop 0) [(5,.v (.int .i64 (0:Nat))),(0,.v (.slice A n c)),(4,.v (.bool false))] [] hst (Km L1 L2) fun G1 a1 w1 hst1 _=> ?_
 refine Kf c9names 0 5 4 3 n (fun i=>QD (f i)) (.bool false) hn Qv hst1 (fun i hi hq=> ?_) (fun i hi hq=> ?_) Qv rfl Qd (fun i hi hq bs9 g9 a9 w9 hst=>QS hst (vs:=[.v (.bool false)]) Qd ⟨by rw [JF,Qw (r:=fun i=>QD (f i)) hi hq,Bool.and_false];rfl,hst.rp.below⟩) fun hl g2 a2 w2 hstG=> ?_
 · obtain ⟨b1,o1,d1,cs1,q1,l1,l1',⟨rfl,hsz⟩,r1⟩:=hsl.at hi
   cases q1
   have GI:=sd W (Qb.elem (t:=27) (e:=9) (b:=b1) (o:=o1) (n:=n) (c:=c) (size:=1) (i:=i) (k:=.i64) underlying27 Qd hi)
   have GR:=sd W (Qb.cell (t:=9) Qd (r1 0 _ rfl) l1 Qo)
   have GC:Sd W (.call 37 [.string (f i)] (.bool true)):=by
    rw [← hq]
    exact Qv5q
   exact QHir
 · obtain ⟨b1,o1,d1,cs1,q1,l1,l1',⟨rfl,hsz⟩,r1⟩:=hsl.at hi
   cases q1
   have GI:=sd W (Qb.elem (t:=27) (e:=9) (b:=b1) (o:=o1) (n:=n) (c:=c) (size:=1) (i:=i) (k:=.i64) underlying27 Qd hi)
   have GR:=sd W (Qb.cell (t:=9) Qd (r1 0 _ rfl) l1 Qo)
   have GC:Sd W (.call 37 [.string (f i)] (.bool false)):=by
    rw [← hq]
    exact Qv5q
   exact QHir
 exact QDm7
end Go.Proofs.YtddedijencleeaaGreatDoor

/- tree.row of structs: contracts. -/
set_option linter.all false
namespace Go.Proofs.YtddedijencleeaaGreatDoor
set_option maxRecDepth 100000
open Tryz
open Go.RowKit Go.Lib RC

def Zn (n:Nat) (q:Nat→Bool):Bool:=decide (1≤(n:Int))&&decide ((n:Int)≤10)&&Zd n q
theorem fMTy5 {p:Prop} (h:p:=by
 obtain ⟨A,c,rfl⟩:=QR.form hv
 obtain ⟨z,hz⟩: ∃ z,(decide (1≤(n:Int))&&decide ((n:Int)≤10))=z:=⟨_,rfl⟩
 have CO:Sd W (.call 46 [.int .i64 n,.int .i64 1,.int .i64 10] (.bool z)):=by
  rw [← hz]
  exact Qb.of func46 rfl (by kernel_rfl) (fun w hw=>KF n 1 10 w)
 have AL:Sd W (.call KP [.slice A n c,.func (Fn.func f) #[] #[]] (.bool (Zd n r))):=
  Qb.of fv2 rfl (by kernel_rfl) (fun w hw=>fv3 he (hv.sub (.below hw)) (fun W' hb i cs hi hp hl=>hf W' (Below.andThen hw hb) i cs hi hp hl))
 refine Qj (args:=[.slice A n c,.func (Fn.func f) #[] #[]]) (c:=Qt fv4) fv5 rfl (by kernel_rfl) fun a0 hst=> ?_
 cases z
 · exact gE hst (Zg CO) [.bool false] fun w' hw=>⟨by rw [Zn,hz];rfl,hw⟩
 · exact gE hst (Km CO AL) [.bool (Zd n r)] fun w' hw=>⟨by rw [Zn,hz];rfl,hw⟩
 ):p:=h
namespace fTy50
abbrev KP:Nat:=48
abbrev fv2:= @func48
abbrev fv3:= @all_Expr
noncomputable abbrev fv4:= @f97
abbrev fv5:= @func97
end fTy50
open fTy50 in
theorem row_Expr {W:World} {n:Nat} {v:Value} {P:Nat→List Value→Prop} {r:Nat→Bool} {f:Nat} (he: ∀ args w,(callFunc f args).run prog w= .ok (.enter f args) w) (hv:QR W 10 120 n v P)
 (hf: ∀ W',Below W.heap.size W W'→ ∀ i cs,i<n→P i cs→cs.length=10→Calls prog f #[.agg cs.toArray] W' fun e W2=>e= .returned (.bool (r i))∧Below W'.heap.size W' W2) :
 Calls prog 97 #[v,.func (Fn.func f) #[] #[]] W fun e W'=>e= .returned (.bool (Zn n r))∧Below W.heap.size W W':=fMTy5
namespace fTy51
abbrev KP:Nat:=160
abbrev fv2:= @func160
abbrev fv3:= @all_Set
noncomputable abbrev fv4:= @f98
abbrev fv5:= @func98
end fTy51
open fTy51 in
theorem row_Set {W:World} {n:Nat} {v:Value} {P:Nat→List Value→Prop} {r:Nat→Bool} {f:Nat} (he: ∀ args w,(callFunc f args).run prog w= .ok (.enter f args) w) (hv:QR W 11 136 n v P)
 (hf: ∀ W',Below W.heap.size W W'→ ∀ i cs,i<n→P i cs→cs.length=11→Calls prog f #[.agg cs.toArray] W' fun e W2=>e= .returned (.bool (r i))∧Below W'.heap.size W' W2) :
 Calls prog 98 #[v,.func (Fn.func f) #[] #[]] W fun e W'=>e= .returned (.bool (Zn n r))∧Below W.heap.size W W':=fMTy5
namespace fTy52
abbrev KP:Nat:=206
abbrev fv2:= @func206
abbrev fv3:= @all_Item
noncomputable abbrev fv4:= @f164
abbrev fv5:= @func164
end fTy52
open fTy52 in
theorem row_Item {W:World} {n:Nat} {v:Value} {P:Nat→List Value→Prop} {r:Nat→Bool} {f:Nat} (he: ∀ args w,(callFunc f args).run prog w= .ok (.enter f args) w) (hv:QR W 12 144 n v P)
 (hf: ∀ W',Below W.heap.size W W'→ ∀ i cs,i<n→P i cs→cs.length=12→Calls prog f #[.agg cs.toArray] W' fun e W2=>e= .returned (.bool (r i))∧Below W'.heap.size W' W2) :
 Calls prog 164 #[v,.func (Fn.func f) #[] #[]] W fun e W'=>e= .returned (.bool (Zn n r))∧Below W.heap.size W W':=fMTy5
namespace fTy53
abbrev KP:Nat:=205
abbrev fv2:= @func205
abbrev fv3:= @all_Order
noncomputable abbrev fv4:= @f162
abbrev fv5:= @func162
end fTy53
open fTy53 in
theorem row_Order {W:World} {n:Nat} {v:Value} {P:Nat→List Value→Prop} {r:Nat→Bool} {f:Nat} (he: ∀ args w,(callFunc f args).run prog w= .ok (.enter f args) w) (hv:QR W 11 128 n v P)
 (hf: ∀ W',Below W.heap.size W W'→ ∀ i cs,i<n→P i cs→cs.length=11→Calls prog f #[.agg cs.toArray] W' fun e W2=>e= .returned (.bool (r i))∧Below W'.heap.size W' W2) :
 Calls prog 162 #[v,.func (Fn.func f) #[] #[]] W fun e W'=>e= .returned (.bool (Zn n r))∧Below W.heap.size W W':=fMTy5
namespace fTy54
abbrev KP:Nat:=194
abbrev fv2:= @func194
abbrev fv3:= @all_Column
noncomputable abbrev fv4:= @f152
abbrev fv5:= @func152
end fTy54
open fTy54 in
theorem row_Column {W:World} {n:Nat} {v:Value} {P:Nat→List Value→Prop} {r:Nat→Bool} {f:Nat} (he: ∀ args w,(callFunc f args).run prog w= .ok (.enter f args) w) (hv:QR W 3 32 n v P)
 (hf: ∀ W',Below W.heap.size W W'→ ∀ i cs,i<n→P i cs→cs.length=3→Calls prog f #[.agg cs.toArray] W' fun e W2=>e= .returned (.bool (r i))∧Below W'.heap.size W' W2) :
 Calls prog 152 #[v,.func (Fn.func f) #[] #[]] W fun e W'=>e= .returned (.bool (Zn n r))∧Below W.heap.size W W':=fMTy5
end Go.Proofs.YtddedijencleeaaGreatDoor
