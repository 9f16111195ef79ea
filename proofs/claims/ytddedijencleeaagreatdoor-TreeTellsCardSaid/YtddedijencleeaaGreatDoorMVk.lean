/- The writer writes a statement. -/
import Derived.Test.YtddedijencleeaaGreatDoorSm
import Derived.Test.YtddedijencleeaaGreatDoorMSq
import Derived.Test.YtddedijencleeaaGreatDoorVi
import Derived.Lib.UnsafeStr
import Derived.Shelf.RegionOpenPlain
set_option linter.all false
namespace Go.Proofs.YtddedijencleeaaGreatDoor
set_option maxRecDepth 100000
set_option maxHeartbeats 8000000
open Tryz
noncomputable section
open Go.RowKit Go.Lib RC
theorem ZT {n:Nat} {q:Nat→Bool} (h:Zn n q=true): ∀ i,i<n→q i=true:=by
 rw [Zn,Bool.and_eq_true] at h
 exact Qx.1 h.2
theorem Jx {e:E} (h:QE e=true):Zx e=true:=by rw [Zx,h];rfl
theorem isE_mayE {e:E} (h:QH e=true):Zx e=true:=by rw [Zx,h,Bool.or_true]
theorem isT_parts (s:S) (h:Zw s=true):(1≤s.kind∧s.kind≤8)∧(s.kind=1→(∀ i,i<s.tab.nc→1≤(s.tab.cols i).ty∧(s.tab.cols i).ty≤3)∧s.tab.nk=s.nkc) ∧
 (s.kind=5→ ∀ i,i<s.nrw→ ∀ j,j<(s.rw i).n→QH ((s.rw i).f j)=true)∧(s.kind=6→(∀ i,i<s.nst→QH (s.st i).e=true)∧Zx s.wh=true)∧(s.kind=7→Zx s.wh=true) ∧
 (s.kind=8→(∀ i,i<s.nit→(s.it i).star=false→QH (s.it i).e=true)∧(∀ i,i<s.nfr→Zx (s.fr i).e=true)∧Zx s.wh=true∧(∀ i,i<s.gr.n→QH (s.gr.f i)=true)∧Zx s.hv=true∧ ∀ i,i<s.nor→QH (s.od i).e=true):=by
 unfold Zw at h
 by_cases k1:s.kind=1
 · rw [k1] at h ⊢
   simp only [beq_self_eq_true,if_true,Bool.and_eq_true] at h
   obtain ⟨h1,_⟩:=h
   refine ⟨by omega,fun _=> ?_,fun e=>by omega,fun e=>by omega,fun e=>by omega,fun e=>by omega⟩
   simp only [ZU,Bool.and_eq_true,beq_iff_eq] at h1
   obtain ⟨⟨⟨⟨⟨_,h2⟩,_⟩,h3⟩,_⟩,_⟩:=h1
   refine ⟨fun i hi=> ?_,by omega⟩
   have:=ZT h3 i hi
   simp only [colT,Bool.and_eq_true,decide_eq_true_eq] at this
   exact this.2
 by_cases k2:s.kind=2
 · rw [k2];exact ⟨by omega,fun e=>by omega,fun e=>by omega,fun e=>by omega,fun e=>by omega,fun e=>by omega⟩
 by_cases k3:s.kind=3
 · rw [k3];exact ⟨by omega,fun e=>by omega,fun e=>by omega,fun e=>by omega,fun e=>by omega,fun e=>by omega⟩
 by_cases k4:s.kind=4
 · rw [k4];exact ⟨by omega,fun e=>by omega,fun e=>by omega,fun e=>by omega,fun e=>by omega,fun e=>by omega⟩
 by_cases k5:s.kind=5
 · rw [k5] at h ⊢
   have:((5:Int)==1)=false∧((5:Int)==2)=false∧((5:Int)==3)=false∧((5:Int)==4)=false:=by decide
   simp only [this,beq_self_eq_true,if_true,Bool.false_eq_true,if_false,Bool.and_eq_true] at h
   refine ⟨by omega,fun e=>by omega,fun _ i hi=>ZT (ZT h.1.2 i hi),fun e=>by omega,fun e=>by omega,fun e=>by omega⟩
 by_cases k6:s.kind=6
 · rw [k6] at h ⊢
   have:((6:Int)==1)=false∧((6:Int)==2)=false∧((6:Int)==3)=false∧((6:Int)==4)=false∧((6:Int)==5)=false:=by decide
   simp only [this,beq_self_eq_true,if_true,Bool.false_eq_true,if_false,Bool.and_eq_true] at h
   obtain ⟨⟨⟨h1,_⟩,h2⟩,_⟩:=h
   refine ⟨by omega,fun e=>by omega,fun e=>by omega,fun _=>⟨fun i hi=> ?_,h2⟩,fun e=>by omega,fun e=>by omega⟩
   have:=ZT h1 i hi
   simp only [setT,Bool.and_eq_true] at this
   exact this.2
 by_cases k7:s.kind=7
 · rw [k7] at h ⊢
   have:((7:Int)==1)=false∧((7:Int)==2)=false∧((7:Int)==3)=false∧((7:Int)==4)=false∧((7:Int)==5)=false∧((7:Int)==6)=false:=by decide
   simp only [this,beq_self_eq_true,if_true,Bool.false_eq_true,if_false,Bool.and_eq_true] at h
   exact ⟨by omega,fun e=>by omega,fun e=>by omega,fun e=>by omega,fun _=>h.1.2,fun e=>by omega⟩
 by_cases k8:s.kind=8
 · rw [k8] at h ⊢
   have:((8:Int)==1)=false∧((8:Int)==2)=false∧((8:Int)==3)=false∧((8:Int)==4)=false∧((8:Int)==5)=false∧((8:Int)==6)=false∧((8:Int)==7)=false:=by decide
   simp only [this,beq_self_eq_true,if_true,Bool.false_eq_true,if_false,Bool.and_eq_true] at h
   obtain ⟨h1,_⟩:=h
   refine ⟨by omega,fun e=>by omega,fun e=>by omega,fun e=>by omega,fun e=>by omega,fun _=> ?_⟩
   simp only [Q0,ZS,Bool.and_eq_true,Bool.or_eq_true,beq_iff_eq] at h1
   obtain ⟨⟨⟨⟨⟨⟨g1,g2⟩,g3⟩,g4⟩,g5⟩,g6⟩,_⟩:=h1
   refine ⟨fun i hi hs=> ?_,fun i hi=> ?_,g3,fun i hi=> ?_,g5,fun i hi=> ?_⟩
   · have:=ZT g1 i hi
     simp only [itemT,hs,Bool.false_eq_true,if_false,Bool.and_eq_true] at this
     exact this.1
   · have:=Qx.1 g2.2 i hi
     by_cases e0:i=0
     · subst e0
       simp [KS] at this
       exact Jx this.2.2
     have e1:decide ((0:Int)<((i:Nat):Int))=true:=by simp;omega
     simp only [KS,e1,Bool.true_and,Bool.and_eq_true,Bool.not_eq_true',Bool.not_eq_false'] at this
     exact isE_mayE (by simpa using this.2)
   · rcases g4 with g4 | g4
     · omega
     exact ZT g4 i hi
   rcases g6 with g6 | g6
   · omega
   exact ZT g6 i hi
 simp [k1,k2,k3,k4,k5,k6,k7,k8] at h

noncomputable abbrev cZ0:Code:=Qt f26
abbrev qu1(b:Nat):Value:=(.pointer (some ⟨b,0,none⟩))
abbrev qu2(G11:Env):Value:=(.pointer (some ⟨(G11.g 0),0,none⟩))
abbrev qu3(G11:Env):Nat × RV:=(3,.v (.pointer (some ⟨(G11.g 1),0,none⟩)))
abbrev qu4(G25:Env):Fr:=[(3,.v (.pointer (some ⟨(G25.g 1),0,none⟩))),(2,.v (.pointer (some ⟨(G25.g 0),0,none⟩)))]
abbrev qu5(b:Nat):List Value:=[.pointer (some ⟨b,0,none⟩)]
abbrev qu6(G11:Env):VF:=[(3,.pointer (some ⟨(G11.g 1),0,none⟩)),(2,.pointer (some ⟨(G11.g 0),0,none⟩))]
abbrev qu7(G25:Env):VF:=[(3,.pointer (some ⟨(G25.g 1),0,none⟩)),(2,.pointer (some ⟨(G25.g 0),0,none⟩))]
abbrev qu8(G25:Env):Value:=(.pointer (some ⟨(G25.g 0),0,none⟩))
abbrev qu9(G7:Env):Value:=(.pointer (some ⟨(G7.g 0),0,none⟩))
abbrev qu10:Fr:=[(3,.p 1 0),(2,.p 0 0)]
abbrev qu11(ix nm:ByteArray):Value:=(.string ((((⟨#[73,78,68,69,88,32]⟩++ix)++⟨#[32,79,78,32]⟩)++nm)++⟨#[32]⟩))
abbrev qu12(G25:Env):Nat × RV:=(3,.v (.pointer (some ⟨(G25.g 1),0,none⟩)))
abbrev qu13(nm:ByteArray):Value:=(.string ((⟨#[85,80,68,65,84,69,32]⟩++nm)++⟨#[32,83,69,84,32]⟩))
abbrev qu14(ix nm:ByteArray):List UInt8:=(((([73,78,68,69,88,32]++ix.data.toList)++[32,79,78,32])++nm.data.toList)++[32])
theorem stmt_pr {D:World} (hP:PrW D) (s:S) (cs:List Value) (h:Ks D s cs) (hI:Zw s=true) :
 PrF D 26 (fun b=> #[.pointer (some ⟨b,0,none⟩),.agg cs.toArray]) (Qy s) (QP s):=by
 obtain ⟨k18,p1,p5,p6,p7,p8⟩:=isT_parts s hI
 intro b o m l v W hD hw HZ
 obtain ⟨kind,⟨tnm,tnc,tcols,tnk,tkeys⟩,nkc,kc,nm,ix,un,⟨ncl,cl⟩,nrw,rw_,nst,st,wh,di,nit,it,nfr,fr,⟨ngr,gr⟩,hv,nor,od,li⟩:=s
 obtain ⟨tA,tc,tB,td,A1,c1,A2,c2,A3,c3,A4,c4,A5,c5,A6,c6,A7,c7,A8,c8,wk,wo,wvk,wvn,wvt,wtb,wnm,wA,wn,wc,wpl,wty,hk,ho,hvk,hvn,hvt,htb,hnm,hA,hn,hc,hpl,hty,rfl,h0,ia,t1,t2⟩:=Ks.opn h
 let x2x:Value:=(.agg (Zs kind tnm tA tnc tc tB tnk td A1 nkc c1 nm ix un A2 ncl c2 A3 nrw c3 A4 nst c4 wk wo wvk wvn wvt wtb wnm wA wn wc wpl wty di A5 nit c5 A6 nfr c6 A7 ngr c7 hk ho hvk hvn hvt htb hnm hA hn hc hpl hty A8 nor c8 li).toArray)
 let x1x:List Value:=(Zs kind tnm tA tnc tc tB tnk td A1 nkc c1 nm ix un A2 ncl c2 A3 nrw c3 A4 nst c4 wk wo wvk wvn wvt wtb wnm wA wn wc wpl wty di A5 nit c5 A6 nfr c6 A7 ngr c7 hk ho hvk hvn hvt htb hnm hA hn hc hpl hty A8 nor c8 li)
 have iwh:=ia.wh
 have ihv:=ia.hv
 have iwf:=ia.wf
 have itn:=ia.tab.1
 replace k18:1≤kind∧kind≤8:=k18
 have ps0:=PS.start hw hD
 refine Qj (args:=[.pointer (some ⟨b,0,none⟩),.agg (Zs kind tnm tA tnc tc tB tnk td A1 nkc c1 nm ix un A2 ncl c2 A3 nrw c3 A4 nst c4 wk wo wvk wvn wvt wtb wnm wA wn wc wpl wty di A5 nit c5 A6 nfr c6 A7 ngr c7 hk ho hvk hvn hvt htb hnm hA hn hc hpl hty A8 nor c8 li).toArray]) (c:=cZ0) func26 rfl (by kernel_rfl) fun a0 hst=> ?_
 obtain ⟨z1,hz1⟩: ∃ z,(kind==1)=z:=⟨_,rfl⟩
 have F2:=QN W hz1
 cases z1
 rotate_left
 · have he56:=eq_of_beq hz1
   have kq33:=(QZ.nil:QZ b v W [])
   refine pW (dd:=(Jp ⟨kind,⟨tnm,tnc,tcols,tnk,tkeys⟩,nkc,kc,nm,ix,un,⟨ncl,cl⟩,nrw,rw_,nst,st,wh,di,nit,it,nfr,fr,⟨ngr,gr⟩,hv,nor,od,li⟩)) (txt:=(ZY ⟨kind,⟨tnm,tnc,tcols,tnk,tkeys⟩,nkc,kc,nm,ix,un,⟨ncl,cl⟩,nrw,rw_,nst,st,wh,di,nit,it,nfr,fr,⟨ngr,gr⟩,hv,nor,od,li⟩)) (.op 3 2) 10 103 (Qc cZ0 (.op 3 2)) (Qc cZ0 (.op 3 3)) [(9,.v x2x),(8,.v (qu1 b))] [bx (qu5 b),bx x1x] [] [.v (qu1 b),.v x2x] hst (Zg F2) ps0 kq33 func103 (fun G34 w34 ps34 kb34=>(create_pr hP _ _ h0 (p1 he56).1 (p1 he56).2 _ _ _ _ _ _ ps34.bl ps34.wr (HZ.of (by first | omega | (simp only [Qy,QP,hz1,bS];omega)) HZ.m (by first | (simp only [Qy,QP,hz1,bS,lS];omega) | omega)))) (top_le HZ.ho (by have hq:=HZ.hod;first | omega | (simp only [Qy,QP,hz1,bS] at hq;omega)) HZ.m.1 HZ.m.2) fun G34 mm34 ll34 v34 b34 u34 em34 el34 bn34 hsu34 pt34 kb34=> ?_
   exact gE hsu34 Zk [] fun w' hw=>⟨rfl,(PS.cast (pt34.seg hw) (by subst el34 em34;first | rfl | (simp only [Qy,QP,hz1,bS,Qr,Qq];done) | (simp only [Qy,QP,hz1,bS,Qr,Qq] <;> rfl)) (by subst el34 em34;simp only [Qy,QP,hz1,bS,aS])).fin⟩
 obtain ⟨z3,hz3⟩: ∃ z,(kind==2)=z:=⟨_,rfl⟩
 have F4:=QN W hz3
 cases z3
 rotate_left
 · have he44:=eq_of_beq hz3
   have kq24:=(QZ.nil:QZ b v W [])
   refine pW0 (txt:=[67,82,69,65,84,69,32]) (.op 5 1) 14 104 (Qc cZ0 (.op 5 1)) (Qc cZ0 (.op 5 2)) [(13,.v (qu1 b)),(3,.p 1 0),(2,.p 0 0)] [bx (qu5 b),bx x1x] qu10 [.v (qu1 b),.v (.string ⟨#[67,82,69,65,84,69,32]⟩)] hst (Km F2 F4) ps0 kq24 func104 (fun G25 w25 ps25 kb25=>(QJ ps25.wr _ [67,82,69,65,84,69,32] rfl (HZ.of ZO HZ.m (by first | (simp only [Qy,QP,hz1,hz3,bS,lS];omega) | omega)))) fun G25 ll25 v25 b25 u25 el25 hsu25 pt25 kb25=> ?_
   have F45:=kb25.ld 1 7 (t:=4) rfl rfl Qd
   refine gO cZ0 (.op 6 2) [(16,.v (.bool un)),(qu12 G25),(2,.v (qu8 G25))] [] hsu25 (Zg F45) fun G27 a27 w27 hst27 _=> ?_
   have hb27:=hst27.rp.below
   have ps27:=pt25.seg hb27
   have kb27_0:=(kb25.at 0 rfl).seg hb27
   have kb27_1:=(kb25.at 1 rfl).seg hb27
   have hr27:=hst27.reb
   refine joinW (k':=Qc cZ0 (.op 8 0)) (fun aa ww=> ∃ vv,EV f26.ntmps (qu7 G25) aa∧PS D b o m (ll25++(if un=true then [85,78,73,81,85,69,32] else [])) vv v W ww∧Bk b vv ww (G25.g 0) (qu5 b)∧Bk b vv ww (G25.g 1) x1x) (fun aj26 uj26 hj26=> ?_) (fun KJ26=> ?_)
   · obtain ⟨vj26,ej26,pj26,kj26_0,kj26_1⟩:=hj26
     have sj26:=ej26.st uj26
     have F46:Sd uj26 (.get 70 (qu8 G25) (qu1 b)):=Qb.cellAt (d:=0) Qd kj26_0.sb.at_ rfl kj26_0.lt Qo
     have F47:Sd uj26 (.get 9 (.pointer (some ⟨(G25.g 1),6,none⟩)) (.string ix)):=Qb.cellAt (d:=6) Qd kj26_1.sb.at_ rfl kj26_1.lt Qo
     have F48:=sd uj26 (Qb.addStr (t:=9) (a:=⟨#[73,78,68,69,88,32]⟩) (b:=ix) QKsB)
     have F49:=sd uj26 (Qb.addStr (t:=9) (a:=(⟨#[73,78,68,69,88,32]⟩++ix)) (b:=⟨#[32,79,78,32]⟩) QKsB)
     have F50:Sd uj26 (.get 9 (.pointer (some ⟨(G25.g 1),5,none⟩)) (.string nm)):=Qb.cellAt (d:=5) Qd kj26_1.sb.at_ rfl kj26_1.lt Qo
     have F51:=sd uj26 (Qb.addStr (t:=9) (a:=((⟨#[73,78,68,69,88,32]⟩++ix)++⟨#[32,79,78,32]⟩)) (b:=nm) QKsB)
     have F52:=sd uj26 (Qb.addStr (t:=9) (a:=(((⟨#[73,78,68,69,88,32]⟩++ix)++⟨#[32,79,78,32]⟩)++nm)) (b:=⟨#[32]⟩) QKsB)
     have kq28:=QZ.cons kj26_0 (QZ.cons kj26_1 QZ.nil)
     refine pW0 (txt:=(qu14 ix nm)) (.op 8 9) 28 104 (Qc cZ0 (.op 8 9)) (Qc cZ0 (.op 8 10)) [(27,.v (qu11 ix nm)),(19,.v (qu1 b)),(qu12 G25),(2,.v (qu8 G25))] [] (qu4 G25) [.v (qu1 b),.v (qu11 ix nm)] sj26 (kE7 F46 F47 F48 F49 F50 F51 F52) pj26 kq28 func104 (fun G29 w29 ps29 kb29=>(QJ ps29.wr _ (qu14 ix nm) (Zc (Zc (Zc (Zc rfl rfl) rfl) rfl) rfl) (HZ.of ZO HZ.m Qp3R))) fun G29 ll29 v29 b29 u29 el29 hsu29 pt29 kb29=> ?_
     have F53:=kb29.ld 0 0 (t:=70) rfl rfl Qd
     have F54:=kb29.ld 1 8 (t:=27) rfl rfl Qd
     refine pW (dd:=1) (txt:=(QA ncl cl)) (.op 9 3) 32 105 (Qc cZ0 (.op 9 3)) (Qc cZ0 (.op 9 4)) [(31,.v (.slice A2 ncl c2)),(29,.v (qu1 b))] [] [] [.v (qu1 b),.v (.slice A2 ncl c2)] hsu29 (Km F53 F54) pt29 kb29 func105 (fun G30 w30 ps30 kb30=>(names_pr ia.cl _ _ _ _ _ _ ps30.bl ps30.wr (HZ.of (by first | omega | (simp only [Qy,QP,hz1,hz3,bS];omega)) HZ.m (by subst el29 el25;first | (simp only [Qy,QP,hz1,hz3,bS,lS];omega) | omega)))) (top_le HZ.ho (by subst el29 el25;have hq:=HZ.hod;first | omega | (simp only [Qy,QP,hz1,hz3,bS] at hq;omega)) HZ.m.1 HZ.m.2) fun G30 mm30 ll30 v30 b30 u30 em30 el30 bn30 hsu30 pt30 kb30=> ?_
     exact gE hsu30 Zk [] fun w' hw=>⟨rfl,(PS.cast (pt30.seg hw) (by subst el30 em30 el29 el25;first | rfl | (simp only [Qy,QP,hz1,hz3,bS,Qr,Qq];done) | (simp only [Qy,QP,hz1,hz3,bS,Qr,Qq] <;> rfl)) (by subst el30 em30 el29 el25;simp only [Qy,QP,hz1,hz3,bS,aS])).fin⟩
   cases un
   · refine gO cZ0 (.op 8 0) (qu4 G25) [] hr27 Zk fun g0 a0 w0 h0 _=>KJ26 _ _ ⟨_,RC.St.ev (l:=(qu7 G25)) h0,PS.cast (ps27.seg h0.rp.below) (by subst el25;first | rfl | (simp only [bS,Qr,Qq];done) | (simp only [bS,Qr,Qq] <;> rfl)) (by subst el25;simp only [bS,aS]),kb27_0.seg h0.rp.below,kb27_1.seg h0.rp.below⟩
   have F55:Sd w27 (.get 70 (qu8 G25) (qu1 b)):=Qb.cellAt (d:=0) Qd kb27_0.sb.at_ rfl kb27_0.lt Qo
   have kq31:=QZ.cons kb27_0 (QZ.cons kb27_1 QZ.nil)
   refine pW0 (txt:=[85,78,73,81,85,69,32]) (.op 7 1) 18 104 (Qc cZ0 (.op 7 1)) (Qc cZ0 (.op 7 2)) [(17,.v (qu1 b)),(qu12 G25),(2,.v (qu8 G25))] [] (qu4 G25) [.v (qu1 b),.v (.string ⟨#[85,78,73,81,85,69,32]⟩)] hr27 (Zg F55) ps27 kq31 func104 (fun G32 w32 ps32 kb32=>(QJ ps32.wr _ [85,78,73,81,85,69,32] rfl (HZ.of ZO HZ.m Qp3R))) fun G32 ll32 v32 b32 u32 el32 hsu32 pt32 kb32=> ?_
   refine gO cZ0 (.op 8 0) (qu4 G25) [] hsu32 Zk fun g0 a0 w0 h0 _=>KJ26 _ _ ⟨_,RC.St.ev (l:=(qu7 G25)) h0,PS.cast (pt32.seg h0.rp.below) (by subst el32 el25;first | rfl | (simp only [bS,Qr,Qq];done) | (simp only [bS,Qr,Qq] <;> rfl)) (by subst el32 el25;simp only [bS,aS]),(kb32.at 0 rfl).seg h0.rp.below,(kb32.at 1 rfl).seg h0.rp.below⟩
 obtain ⟨z5,hz5⟩: ∃ z,(kind==3)=z:=⟨_,rfl⟩
 have F6:=QN W hz5
 cases z5
 rotate_left
 · have he42:=eq_of_beq hz5
   have F43:=sd W (Qb.addStr (t:=9) (a:=⟨#[68,82,79,80,32,84,65,66,76,69,32]⟩) (b:=nm) (by have hq:=HZ.hl;simp only [Qy,QP,hz1,hz3,hz5,bS,lS] at hq;simp only [QK,Zy,Qi,List.length_append];first | omega | (simp only [lS] at *;omega)))
   have kq22:=(QZ.nil:QZ b v W [])
   refine pW0 (txt:=([68,82,79,80,32,84,65,66,76,69,32]++nm.data.toList)) (.op 11 4) 39 104 (Qc cZ0 (.op 11 4)) (Qc cZ0 (.op 11 5)) [(38,.v (.string (⟨#[68,82,79,80,32,84,65,66,76,69,32]⟩++nm))),(35,.v (qu1 b))] [bx (qu5 b),bx x1x] [] [.v (qu1 b),.v (.string (⟨#[68,82,79,80,32,84,65,66,76,69,32]⟩++nm))] hst (Jf F2 F4 F6 F43) ps0 kq22 func104 (fun G23 w23 ps23 kb23=>(QJ ps23.wr _ ([68,82,79,80,32,84,65,66,76,69,32]++nm.data.toList) (Zc rfl rfl) (HZ.of ZO HZ.m (by first | (simp only [Qy,QP,hz1,hz3,hz5,bS,lS];omega) | omega)))) fun G23 ll23 v23 b23 u23 el23 hsu23 pt23 kb23=> ?_
   exact gE hsu23 Zk [] fun w' hw=>⟨rfl,(PS.cast (pt23.seg hw) (by subst el23;first | rfl | (simp only [Qy,QP,hz1,hz3,hz5,bS,Qr,Qq];done) | (simp only [Qy,QP,hz1,hz3,hz5,bS,Qr,Qq] <;> rfl)) (by subst el23;simp only [Qy,QP,hz1,hz3,hz5,bS,aS])).fin⟩
 obtain ⟨z7,hz7⟩: ∃ z,(kind==4)=z:=⟨_,rfl⟩
 have F8:=QN W hz7
 cases z7
 rotate_left
 · have he40:=eq_of_beq hz7
   have F41:=sd W (Qb.addStr (t:=9) (a:=⟨#[68,82,79,80,32,73,78,68,69,88,32]⟩) (b:=ix) (by have hq:=HZ.hl;simp only [Qy,QP,hz1,hz3,hz5,hz7,bS,lS] at hq;simp only [QK,Zy,Qi,List.length_append];first | omega | (simp only [lS] at *;omega)))
   have kq20:=(QZ.nil:QZ b v W [])
   refine pW0 (txt:=([68,82,79,80,32,73,78,68,69,88,32]++ix.data.toList)) (.op 13 4) 46 104 (Qc cZ0 (.op 13 4)) (Qc cZ0 (.op 13 5)) [(45,.v (.string (⟨#[68,82,79,80,32,73,78,68,69,88,32]⟩++ix))),(42,.v (qu1 b))] [bx (qu5 b),bx x1x] [] [.v (qu1 b),.v (.string (⟨#[68,82,79,80,32,73,78,68,69,88,32]⟩++ix))] hst (kE5 F2 F4 F6 F8 F41) ps0 kq20 func104 (fun G21 w21 ps21 kb21=>(QJ ps21.wr _ ([68,82,79,80,32,73,78,68,69,88,32]++ix.data.toList) (Zc rfl rfl) (HZ.of ZO HZ.m (by first | (simp only [Qy,QP,hz1,hz3,hz5,hz7,bS,lS];omega) | omega)))) fun G21 ll21 v21 b21 u21 el21 hsu21 pt21 kb21=> ?_
   exact gE hsu21 Zk [] fun w' hw=>⟨rfl,(PS.cast (pt21.seg hw) (by subst el21;first | rfl | (simp only [Qy,QP,hz1,hz3,hz5,hz7,bS,Qr,Qq];done) | (simp only [Qy,QP,hz1,hz3,hz5,hz7,bS,Qr,Qq] <;> rfl)) (by subst el21;simp only [Qy,QP,hz1,hz3,hz5,hz7,bS,aS])).fin⟩
 obtain ⟨z9,hz9⟩: ∃ z,(kind==5)=z:=⟨_,rfl⟩
 have F10:=QN W hz9
 cases z9
 · obtain ⟨z11,hz11⟩: ∃ z,(kind==6)=z:=⟨_,rfl⟩
   have F12:=QN W hz11
   cases z11
   rotate_left
   · have he22:=eq_of_beq hz11
     have F23:=sd W (Qb.addStr (t:=9) (a:=⟨#[85,80,68,65,84,69,32]⟩) (b:=nm) QWFu)
     have F24:=sd W (Qb.addStr (t:=9) (a:=(⟨#[85,80,68,65,84,69,32]⟩++nm)) (b:=⟨#[32,83,69,84,32]⟩) QWFu)
     have kq6:=(QZ.nil:QZ b v W [])
     refine pW0 (txt:=(([85,80,68,65,84,69,32]++nm.data.toList)++[32,83,69,84,32])) (.op 22 5) 78 104 (Qc cZ0 (.op 22 5)) (Qc cZ0 (.op 22 6)) [(77,.v (qu13 nm)),(73,.v (qu1 b)),(3,.p 1 0),(2,.p 0 0)] [bx (qu5 b),bx x1x] qu10 [.v (qu1 b),.v (qu13 nm)] hst (kE8 F2 F4 F6 F8 F10 F12 F23 F24) ps0 kq6 func104 (fun G7 w7 ps7 kb7=>(QJ ps7.wr _ (([85,80,68,65,84,69,32]++nm.data.toList)++[32,83,69,84,32]) (Zc (Zc rfl rfl) rfl) (HZ.of ZO HZ.m (by first | (simp only [Qy,QP,hz1,hz3,hz5,hz7,hz9,hz11,bS,lS];omega) | omega)))) fun G7 ll7 v7 b7 u7 el7 hsu7 pt7 kb7=> ?_
     have F25:=kb7.ld 0 0 (t:=70) rfl rfl Qd
     have F26:=kb7.ld 1 10 (t:=29) rfl rfl Qd
     refine pW (dd:=(Ql nst (fun i=>QQ (st i).e))) (txt:=(Qk nst (fun i=>setL (st i)))) (.op 23 4) 83 111 (Qc cZ0 (.op 23 4)) (Qc cZ0 (.op 23 5)) [(82,.fn (Fn.func 112) [.v (qu9 G7)]),(81,.v (.slice A4 nst c4)),(79,.v (qu1 b)),(3,.v (.pointer (some ⟨(G7.g 1),0,none⟩))),(2,.v (qu9 G7))] [] [(3,.v (.pointer (some ⟨(G7.g 1),0,none⟩))),(2,.v (qu9 G7))] [.v (qu1 b),.v (.slice A4 nst c4),.fn (Fn.func 112) [.v (qu9 G7)]] hsu7 (Km F25 F26) pt7 kb7 func111 (fun G8 w8 ps8 kb8=>(list_Set_pr ps8.bl ps8.wr ia.st 112 ⟨_,_,func112,rfl,by kernel_rfl⟩ [] [.pointer (some ⟨(G7.g 0),0,none⟩)] (fun i=>setL (st i)) (fun i=>QQ (st i).e) (HZ.of QQ9u HZ.m (by subst el7;first | (simp only [Qy,QP,hz1,hz3,hz5,hz7,hz9,hz11,bS,lS];omega) | omega)) (fun i hi cs hp m' l' v' W' hb' hw' hs' hz'=>set_pr hb' hw' hP _ cs hp ((p6 he22).1 i hi) hz' ((kb8.at 0 rfl).call hs')))) (top_le HZ.ho (by subst el7;have hq:=HZ.hod;first | omega | (simp only [Qy,QP,hz1,hz3,hz5,hz7,hz9,hz11,bS] at hq;omega)) HZ.m.1 HZ.m.2) fun G8 mm8 ll8 v8 b8 u8 em8 el8 bn8 hsu8 pt8 kb8=> ?_
     have F27:=kb8.ld 0 0 (t:=70) rfl rfl Qd
     have F28:Sd u8 (.get 34 (.pointer (some ⟨(G7.g 1),11,none⟩)) (eV wk wo wvk wvn wvt wtb wnm wA wn wc wpl wty)):=Qb.part (d:=11) Qd Qd (kb8.at 1 rfl).sb.at_ rfl (kb8.at 1 rfl).lt Qo
     refine pW (dd:=(QQ wh)) (txt:=(Qm [32,87,72,69,82,69,32] wh)) (.op 24 3) 87 113 (Qc cZ0 (.op 24 3)) (Qc cZ0 (.op 24 4)) [(86,.v (eV wk wo wvk wvn wvt wtb wnm wA wn wc wpl wty)),(84,.v (qu1 b))] [] [] [.v (qu1 b),.v (.string ⟨#[32,87,72,69,82,69,32]⟩),.v (eV wk wo wvk wvn wvt wtb wnm wA wn wc wpl wty)] hsu8 (Km F27 F28) pt8 kb8 func113 (fun G9 w9 ps9 kb9=>(clause_pr hP _ [32,87,72,69,82,69,32] rfl iwh ((p6 he22).2) _ _ _ _ _ _ ps9.bl ps9.wr (HZ.of QQ9u bn8 (by subst el8 em8 el7;first | (simp only [Qy,QP,hz1,hz3,hz5,hz7,hz9,hz11,bS,lS];omega) | omega)))) (top_le HZ.ho (by subst el8 em8 el7;have hq:=HZ.hod;first | omega | (simp only [Qy,QP,hz1,hz3,hz5,hz7,hz9,hz11,bS] at hq;omega)) bn8.1 bn8.2) fun G9 mm9 ll9 v9 b9 u9 em9 el9 bn9 hsu9 pt9 kb9=> ?_
     exact gE hsu9 Zk [] fun w' hw=>⟨rfl,(PS.cast (pt9.seg hw) (by subst el9 em9 el8 em8 el7;first | rfl | (simp only [Qy,QP,hz1,hz3,hz5,hz7,hz9,hz11,bS,Qr,Qq];done) | (simp only [Qy,QP,hz1,hz3,hz5,hz7,hz9,hz11,bS,Qr,Qq] <;> rfl)) (by subst el9 em9 el8 em8 el7;simp only [Qy,QP,hz1,hz3,hz5,hz7,hz9,hz11,bS,aS])).fin⟩
   obtain ⟨z13,hz13⟩: ∃ z,(kind==7)=z:=⟨_,rfl⟩
   have F14:=QN W hz13
   cases z13
   · obtain ⟨z15,hz15⟩: ∃ z,(kind==8)=z:=⟨_,rfl⟩
     have F16:=QN W hz15
     cases z15
     · exfalso
       have q0:=ne_of_beq_false hz1
       have q1:=ne_of_beq_false hz3
       have q2:=ne_of_beq_false hz5
       have q3:=ne_of_beq_false hz7
       have q4:=ne_of_beq_false hz9
       have q5:=ne_of_beq_false hz11
       have q6:=ne_of_beq_false hz13
       have q7:=ne_of_beq_false hz15
       omega
     have he17:=eq_of_beq hz15
     have kq1:=(QZ.nil:QZ b v W [])
     refine pW (dd:=(Zl ⟨kind,⟨tnm,tnc,tcols,tnk,tkeys⟩,nkc,kc,nm,ix,un,⟨ncl,cl⟩,nrw,rw_,nst,st,wh,di,nit,it,nfr,fr,⟨ngr,gr⟩,hv,nor,od,li⟩)) (txt:=(Q8 ⟨kind,⟨tnm,tnc,tcols,tnk,tkeys⟩,nkc,kc,nm,ix,un,⟨ncl,cl⟩,nrw,rw_,nst,st,wh,di,nit,it,nfr,fr,⟨ngr,gr⟩,hv,nor,od,li⟩)) (.op 29 2) 103 114 (Qc cZ0 (.op 29 2)) (Qc cZ0 (.op 29 3)) [(102,.v x2x),(101,.v (qu1 b))] [bx (qu5 b),bx x1x] [] [.v (qu1 b),.v x2x] hst (kE8 F2 F4 F6 F8 F10 F12 F14 F16) ps0 kq1 func114 (fun G2 w2 ps2 kb2=>(query_pr hP _ _ h0 (p8 he17).1 (p8 he17).2.1 (p8 he17).2.2.1 (p8 he17).2.2.2.1 (p8 he17).2.2.2.2.1 (p8 he17).2.2.2.2.2 _ _ _ _ _ _ ps2.bl ps2.wr (HZ.of (by first | omega | (simp only [Qy,QP,hz1,hz3,hz5,hz7,hz9,hz11,hz13,hz15,bS];omega)) HZ.m (by first | (simp only [Qy,QP,hz1,hz3,hz5,hz7,hz9,hz11,hz13,hz15,bS,lS];omega) | omega)))) (top_le HZ.ho (by have hq:=HZ.hod;first | omega | (simp only [Qy,QP,hz1,hz3,hz5,hz7,hz9,hz11,hz13,hz15,bS] at hq;omega)) HZ.m.1 HZ.m.2) fun G2 mm2 ll2 v2 b2 u2 em2 el2 bn2 hsu2 pt2 kb2=> ?_
     exact gE hsu2 Zk [] fun w' hw=>⟨rfl,(PS.cast (pt2.seg hw) (by subst el2 em2;first | rfl | (simp only [Qy,QP,hz1,hz3,hz5,hz7,hz9,hz11,hz13,hz15,bS,Qr,Qq];done) | (simp only [Qy,QP,hz1,hz3,hz5,hz7,hz9,hz11,hz13,hz15,bS,Qr,Qq] <;> rfl)) (by subst el2 em2;simp only [Qy,QP,hz1,hz3,hz5,hz7,hz9,hz11,hz13,hz15,bS,aS])).fin⟩
   have he18:=eq_of_beq hz13
   have F19:=sd W (Qb.addStr (t:=9) (a:=⟨#[68,69,76,69,84,69,32,70,82,79,77,32]⟩) (b:=nm) (by have hq:=HZ.hl;simp only [Qy,QP,hz1,hz3,hz5,hz7,hz9,hz11,hz13,bS,lS] at hq;simp only [QK,Zy,Qi,List.length_append];first | omega | (simp only [lS] at *;omega)))
   have kq3:=(QZ.nil:QZ b v W [])
   refine pW0 (txt:=([68,69,76,69,84,69,32,70,82,79,77,32]++nm.data.toList)) (.op 26 4) 94 104 (Qc cZ0 (.op 26 4)) (Qc cZ0 (.op 26 5)) [(93,.v (.string (⟨#[68,69,76,69,84,69,32,70,82,79,77,32]⟩++nm))),(90,.v (qu1 b)),(3,.p 1 0),(2,.p 0 0)] [bx (qu5 b),bx x1x] qu10 [.v (qu1 b),.v (.string (⟨#[68,69,76,69,84,69,32,70,82,79,77,32]⟩++nm))] hst (kE8 F2 F4 F6 F8 F10 F12 F14 F19) ps0 kq3 func104 (fun G4 w4 ps4 kb4=>(QJ ps4.wr _ ([68,69,76,69,84,69,32,70,82,79,77,32]++nm.data.toList) (Zc rfl rfl) (HZ.of ZO HZ.m (by first | (simp only [Qy,QP,hz1,hz3,hz5,hz7,hz9,hz11,hz13,bS,lS];omega) | omega)))) fun G4 ll4 v4 b4 u4 el4 hsu4 pt4 kb4=> ?_
   have F20:=kb4.ld 0 0 (t:=70) rfl rfl Qd
   have F21:Sd u4 (.get 34 (.pointer (some ⟨(G4.g 1),11,none⟩)) (eV wk wo wvk wvn wvt wtb wnm wA wn wc wpl wty)):=Qb.part (d:=11) Qd Qd (kb4.at 1 rfl).sb.at_ rfl (kb4.at 1 rfl).lt Qo
   refine pW (dd:=(QQ wh)) (txt:=(Qm [32,87,72,69,82,69,32] wh)) (.op 27 3) 98 113 (Qc cZ0 (.op 27 3)) (Qc cZ0 (.op 27 4)) [(97,.v (eV wk wo wvk wvn wvt wtb wnm wA wn wc wpl wty)),(95,.v (qu1 b))] [] [] [.v (qu1 b),.v (.string ⟨#[32,87,72,69,82,69,32]⟩),.v (eV wk wo wvk wvn wvt wtb wnm wA wn wc wpl wty)] hsu4 (Km F20 F21) pt4 kb4 func113 (fun G5 w5 ps5 kb5=>(clause_pr hP _ [32,87,72,69,82,69,32] rfl iwh (p7 he18) _ _ _ _ _ _ ps5.bl ps5.wr (HZ.of (by first | omega | (simp only [Qy,QP,hz1,hz3,hz5,hz7,hz9,hz11,hz13,bS];omega)) HZ.m (by subst el4;first | (simp only [Qy,QP,hz1,hz3,hz5,hz7,hz9,hz11,hz13,bS,lS];omega) | omega)))) (top_le HZ.ho (by subst el4;have hq:=HZ.hod;first | omega | (simp only [Qy,QP,hz1,hz3,hz5,hz7,hz9,hz11,hz13,bS] at hq;omega)) HZ.m.1 HZ.m.2) fun G5 mm5 ll5 v5 b5 u5 em5 el5 bn5 hsu5 pt5 kb5=> ?_
   exact gE hsu5 Zk [] fun w' hw=>⟨rfl,(PS.cast (pt5.seg hw) (by subst el5 em5 el4;first | rfl | (simp only [Qy,QP,hz1,hz3,hz5,hz7,hz9,hz11,hz13,bS,Qr,Qq];done) | (simp only [Qy,QP,hz1,hz3,hz5,hz7,hz9,hz11,hz13,bS,Qr,Qq] <;> rfl)) (by subst el5 em5 el4;simp only [Qy,QP,hz1,hz3,hz5,hz7,hz9,hz11,hz13,bS,aS])).fin⟩
 have he29:=eq_of_beq hz9
 have F30:=sd W (Qb.addStr (t:=9) (a:=⟨#[73,78,83,69,82,84,32,73,78,84,79,32]⟩) (b:=nm) (by have hq:=HZ.hl;simp only [Qy,QP,hz1,hz3,hz5,hz7,hz9,bS,lS] at hq;simp only [QK,Zy,Qi,List.length_append];first | omega | (simp only [lS] at *;omega)))
 have kq10:=(QZ.nil:QZ b v W [])
 refine pW0 (txt:=([73,78,83,69,82,84,32,73,78,84,79,32]++nm.data.toList)) (.op 15 4) 53 104 (Qc cZ0 (.op 15 4)) (Qc cZ0 (.op 15 5)) [(52,.v (.string (⟨#[73,78,83,69,82,84,32,73,78,84,79,32]⟩++nm))),(49,.v (qu1 b)),(3,.p 1 0),(2,.p 0 0)] [bx (qu5 b),bx x1x] qu10 [.v (qu1 b),.v (.string (⟨#[73,78,83,69,82,84,32,73,78,84,79,32]⟩++nm))] hst (Je F2 F4 F6 F8 F10 F30) ps0 kq10 func104 (fun G11 w11 ps11 kb11=>(QJ ps11.wr _ ([73,78,83,69,82,84,32,73,78,84,79,32]++nm.data.toList) (Zc rfl rfl) (HZ.of ZO HZ.m (by first | (simp only [Qy,QP,hz1,hz3,hz5,hz7,hz9,bS,lS];omega) | omega)))) fun G11 ll11 v11 b11 u11 el11 hsu11 pt11 kb11=> ?_
 have F31:=kb11.ld 1 8 (t:=27) rfl rfl Qd
 obtain ⟨z32,hz32⟩: ∃ z,(decide (0<((ncl:Nat):Int)))=z:=⟨_,rfl⟩
 have F33:=nGt u11 hz32
 refine gO cZ0 (.op 16 4) [(57,.v (.bool z32)),(qu3 G11),(2,.v (qu2 G11))] [] hsu11 (Km F31 F33) fun G13 a13 w13 hst13 _=> ?_
 have hb13:=hst13.rp.below
 have ps13:=pt11.seg hb13
 have kb13_0:=(kb11.at 0 rfl).seg hb13
 have kb13_1:=(kb11.at 1 rfl).seg hb13
 have hr13:=hst13.reb
 refine joinW (k':=Qc cZ0 (.op 19 0)) (fun aa ww=> ∃ vv,EV f26.ntmps (qu6 G11) aa∧PS D b o (top o m ((if z32=true then 1 else 0))) (ll11++(if z32=true then [32]++QA ncl cl else [])) vv v W ww∧Bk b vv ww (G11.g 0) (qu5 b)∧Bk b vv ww (G11.g 1) x1x) (fun aj12 uj12 hj12=> ?_) (fun KJ12=> ?_)
 · obtain ⟨vj12,ej12,pj12,kj12_0,kj12_1⟩:=hj12
   have sj12:=ej12.st uj12
   have bn12:0≤(top o m ((if z32=true then 1 else 0)))∧(top o m ((if z32=true then 1 else 0)))≤1000:=top_le HZ.ho (by have hq:=HZ.hod;first | omega | (simp only [Qy,QP,hz1,hz3,hz5,hz7,hz9,hz32,bS] at hq;omega)) HZ.m.1 HZ.m.2
   have F34:Sd uj12 (.get 70 (qu2 G11) (qu1 b)):=Qb.cellAt (d:=0) Qd kj12_0.sb.at_ rfl kj12_0.lt Qo
   have kq14:=QZ.cons kj12_0 (QZ.cons kj12_1 QZ.nil)
   refine pW0 (txt:=[32,86,65,76,85,69,83,32]) (.op 19 1) 65 104 (Qc cZ0 (.op 19 1)) (Qc cZ0 (.op 19 2)) [(64,.v (qu1 b)),(qu3 G11),(2,.v (qu2 G11))] [] [(qu3 G11),(2,.v (qu2 G11))] [.v (qu1 b),.v (.string ⟨#[32,86,65,76,85,69,83,32]⟩)] sj12 (Zg F34) pj12 kq14 func104 (fun G15 w15 ps15 kb15=>(QJ ps15.wr _ [32,86,65,76,85,69,83,32] rfl (HZ.of ZO bn12 QRKs))) fun G15 ll15 v15 b15 u15 el15 hsu15 pt15 kb15=> ?_
   have F35:=kb15.ld 0 0 (t:=70) rfl rfl Qd
   have F36:=kb15.ld 1 9 (t:=28) rfl rfl Qd
   refine pW (dd:=(Ql nrw (fun i=>Ql (rw_ i).n (fun j=>QQ ((rw_ i).f j))+1))) (txt:=(Qk nrw (fun i=>rowL (rw_ i).n (rw_ i).f))) (.op 20 4) 70 106 (Qc cZ0 (.op 20 4)) (Qc cZ0 (.op 20 5)) [(69,.fn (Fn.func 107) [.v (qu2 G11)]),(68,.v (.slice A3 nrw c3)),(66,.v (qu1 b))] [] [] [.v (qu1 b),.v (.slice A3 nrw c3),.fn (Fn.func 107) [.v (qu2 G11)]] hsu15 (Km F35 F36) pt15 kb15 func106 (fun G16 w16 ps16 kb16=>(list_Es_pr ps16.bl ps16.wr ia.rw 107 ⟨_,_,func107,rfl,by kernel_rfl⟩ [] [.pointer (some ⟨(G11.g 0),0,none⟩)] (fun i=>rowL (rw_ i).n (rw_ i).f) (fun i=>Ql (rw_ i).n (fun j=>QQ ((rw_ i).f j))+1) (HZ.of Qe0w bn12 (by subst el15 el11;first | (simp only [Qy,QP,hz1,hz3,hz5,hz7,hz9,hz32,bS,lS];omega) | omega)) (fun i hi cs hp m' l' v' W' hb' hw' hs' hz'=>by obtain ⟨v9,hx,he9⟩:=hp;cases hx;obtain ⟨A9,c9,rfl⟩:=Z6.form he9;exact row_pr hb' hw' hP he9 (p5 he29 i hi) hz' ((kb16.at 0 rfl).call hs')))) (top_le HZ.ho (by subst el15 el11;have hq:=HZ.hod;first | omega | (simp only [Qy,QP,hz1,hz3,hz5,hz7,hz9,hz32,bS] at hq;omega)) bn12.1 bn12.2) fun G16 mm16 ll16 v16 b16 u16 em16 el16 bn16 hsu16 pt16 kb16=> ?_
   exact gE hsu16 Zk [] fun w' hw=>⟨rfl,(PS.cast (pt16.seg hw) (by subst el16 em16 el15 el11;first | rfl | (simp only [Qy,QP,hz1,hz3,hz5,hz7,hz9,hz32,bS,Qr,Qq];done) | (simp only [Qy,QP,hz1,hz3,hz5,hz7,hz9,hz32,bS,Qr,Qq] <;> rfl)) (by subst el16 em16 el15 el11;simp only [Qy,QP,hz1,hz3,hz5,hz7,hz9,hz32,bS,aS])).fin⟩
 cases z32
 · refine gO cZ0 (.op 19 0) [(qu3 G11),(2,.v (qu2 G11))] [] hr13 Zk fun g0 a0 w0 h0 _=>KJ12 _ _ ⟨_,RC.St.ev (l:=(qu6 G11)) h0,PS.cast (ps13.seg h0.rp.below) (by subst el11;first | rfl | (simp only [bS,Qr,Qq];done) | (simp only [bS,Qr,Qq] <;> rfl)) (by subst el11;simp only [bS,aS]),kb13_0.seg h0.rp.below,kb13_1.seg h0.rp.below⟩
 have F37:Sd w13 (.get 70 (qu2 G11) (qu1 b)):=Qb.cellAt (d:=0) Qd kb13_0.sb.at_ rfl kb13_0.lt Qo
 have kq17:=QZ.cons kb13_0 (QZ.cons kb13_1 QZ.nil)
 refine pW0 (txt:=[32]) (.op 17 1) 59 104 (Qc cZ0 (.op 17 1)) (Qc cZ0 (.op 17 2)) [(58,.v (qu1 b)),(qu3 G11),(2,.v (qu2 G11))] [] [(qu3 G11),(2,.v (qu2 G11))] [.v (qu1 b),.v (.string ⟨#[32]⟩)] hr13 (Zg F37) ps13 kq17 func104 (fun G18 w18 ps18 kb18=>(QJ ps18.wr _ [32] rfl (HZ.of ZO HZ.m QRKs))) fun G18 ll18 v18 b18 u18 el18 hsu18 pt18 kb18=> ?_
 have F38:=kb18.ld 0 0 (t:=70) rfl rfl Qd
 have F39:=kb18.ld 1 8 (t:=27) rfl rfl Qd
 refine pW (dd:=1) (txt:=(QA ncl cl)) (.op 18 3) 63 105 (Qc cZ0 (.op 18 3)) (Qc cZ0 (.op 18 4)) [(62,.v (.slice A2 ncl c2)),(60,.v (qu1 b)),(qu3 G11),(2,.v (qu2 G11))] [] [(qu3 G11),(2,.v (qu2 G11))] [.v (qu1 b),.v (.slice A2 ncl c2)] hsu18 (Km F38 F39) pt18 kb18 func105 (fun G19 w19 ps19 kb19=>(names_pr ia.cl _ _ _ _ _ _ ps19.bl ps19.wr (HZ.of Qe0w HZ.m (by subst el18 el11;first | (simp only [Qy,QP,hz1,hz3,hz5,hz7,hz9,hz32,bS,lS];omega) | omega)))) (top_le HZ.ho (by subst el18 el11;have hq:=HZ.hod;first | omega | (simp only [Qy,QP,hz1,hz3,hz5,hz7,hz9,hz32,bS] at hq;omega)) HZ.m.1 HZ.m.2) fun G19 mm19 ll19 v19 b19 u19 em19 el19 bn19 hsu19 pt19 kb19=> ?_
 refine gO cZ0 (.op 19 0) [(qu3 G11),(2,.v (qu2 G11))] [] hsu19 Zk fun g0 a0 w0 h0 _=>KJ12 _ _ ⟨_,RC.St.ev (l:=(qu6 G11)) h0,PS.cast (pt19.seg h0.rp.below) (by subst el19 em19 el18 el11;first | rfl | (simp only [bS,Qr,Qq];done) | (simp only [bS,Qr,Qq] <;> rfl)) (by subst el19 em19 el18 el11;simp only [bS,aS]),(kb19.at 0 rfl).seg h0.rp.below,(kb19.at 1 rfl).seg h0.rp.below⟩
end
end Go.Proofs.YtddedijencleeaaGreatDoor

/- tree.Is, Print, Expr, Depth: contracts. -/
set_option linter.all false
namespace Go.Proofs.YtddedijencleeaaGreatDoor
set_option maxRecDepth 100000
set_option maxHeartbeats 2000000
open Tryz
noncomputable section
open Go.RowKit Go.Lib RC

theorem builderText {B b:Nat} {o m:Int} {l:List UInt8} {v:Value} {w:World} (h:Wr B b o m l v w) (h0:l≠[]) :
 Calls prog 27 #[.pointer (some ⟨b,0,none⟩)] w fun e w'=>e= .returned (.string ⟨l.toArray⟩)∧Below B w w':=by
 obtain ⟨p,_,hbk⟩:=h.blk
 have hown:=h.own
 have hl0:l.length≠0:=by simpa using h0
 obtain ⟨g,cap,cur,rfl,hbg,hg,hnc,hcm,hcs,htake⟩: ∃ g cap cur,v= .slice (some ⟨g,0,none⟩) l.length cap∧B≤g∧w.heap[g]?=some (.cells cur 5 (0,0))∧l.length≤cap∧cap≤maxLen∧cur.size=cap*1∧cur.toList.take (l.length*1)=Lib.byteCells l:=by
  rcases hown.2 with ⟨_,hz⟩ | ⟨g,cap,cur,hv,r⟩
  · exact absurd hz hl0
  exact ⟨g,cap,cur,hv,r⟩
 have c1:w.drew.cell? ⟨b,1,none⟩=some (.slice (some ⟨g,0,none⟩) l.length cap):=by
  have:w.drew.heap[b]?=some (.cells #[p,.slice (some ⟨g,0,none⟩) l.length cap,.int .i64 o,.int .i64 m] 76 (0,0)):=hbk
  rw [Lib.cell_of_heap this];rfl
 have hSD:(Builtin.unsafeSliceData_ #[72] 149 #[.slice (some ⟨g,0,none⟩) l.length cap]).run prog w.drew= .ok (.pointer (some ⟨g,0,none⟩)) w.drew:=
  Lib.run_unsafeSliceData_row _ _ _ _ _ _ (by omega)
 have hUS:(Builtin.unsafeString_ #[149,3] 9 #[.pointer (some ⟨g,0,none⟩),.int .i64 l.length]).run prog w.drew= .ok (.string ⟨l.toArray⟩) (w.drew.freeze ⟨g,0,none⟩ l.length):=by
  refine Lib.run_unsafeString_row w.drew 149 3 9 5 underlying149 Qd g cur.size (by have hg':w.drew.heap[g]?=some (.cells cur 5 (0,0)):=hg;simp [World.shape?,hg']) l h0 (by omega) (by unfold maxLen at hcm;omega) ?_
  intro j x hx
  have:=hown.cells (g:=g) rfl j (.int .u8 x.toNat) (by simp [Lib.byteCells,hx])
  exact this
 have mixed:prog.follows .mixedOrders=true:=by kernel_rfl
 go_enter func27,ntmps27
 go_wp2
 go_region_o
 all_goals (go_wp2;go_ret;exact ⟨rfl,Lib.below_freeze (Below.drew (Below.refl B w)) (p:=⟨g,0,none⟩) hbg _⟩)


abbrev qv1:Array Value:=#[.pointer none,.slice none 0 0,.int .i64 0,.int .i64 0]
theorem freshW {B:Nat} {W:World} (hB:B≤W.heap.size):Wr B W.heap.size 0 0 [] (.slice none 0 0) (W.alloc (.cells #[.pointer none,.slice none 0 0,.int .i64 0,.int .i64 0] 76)):=by
 have hh:(W.alloc (.cells qv1 76)).heap[W.heap.size]?=some (.cells qv1 76 (0,0)):=by
  show (W.heap.push _)[W.heap.size]?=_
  simp
 exact ⟨hB,by simp;omega,⟨_,.inl rfl,hh⟩,World.ownsRow_nil _ _ _ 1⟩
namespace RC
section
variable {P:Program} {N:Nat} {W:World} {Q:Exit→Act→World→Prop}
def boxOf (n:Nat) (k:List K) (fr:Fr):Option (Nat × TypeId × RV × List K):=match opAt k fr with
 | some (o,k')=>(match o.op,o.dst with
   | .box t x,some d=>(match ev fr x with
     | some y=>bif Nat.blt d n then some (d,t,y,k') else none
     | none=>none)
   | _,_=>none)
 | none=>none
theorem box_at {n:Nat} {k k':List K} {fr:Fr} {bs:List Zp} {G:Env} {a:Act} {w:World} {d:Nat} {t:TypeId} {y:RV} (lv:Fr) (cs:List Value)
 (hst:St N W n fr bs G a w) (h:boxOf n k fr=some (d,t,y,k')) (hy:(QG y).all (oneB (lb bs))=true) (hc:Qu G (QG y)=cs) (hlv:(lv.map (·.1)).map (get fr)=lv.map (fun x=>some x.2))
 (hk: ∀ a',EV n ((d,.pointer (some ⟨w.heap.size,0,none⟩))::Jk G lv) a'→ZZ P Q k' .normal a' (w.alloc (.cells cs.toArray t))):ZZ P Q k .normal a w:=by
 unfold boxOf at h
 split at h
 case h_2=>cases h
 rename_i o k1 ho
 split at h
 case h_2=>cases h
 rename_i t1 x d1 hop hd
 split at h
 case h_2=>cases h
 rename_i y1 hev
 cases hdn:Nat.blt d1 n with
 | false=>rw [hdn,cond_false] at h;cases h
 | true=>
  rw [hdn,cond_true] at h
  cases h
  rw [Nat.blt_eq] at hdn
  refine at_op hst ho fun Q'=> ?_
  obtain ⟨dst,op,ty,pos,aft,gd⟩:=o
  simp only at hop hd
  subst hop hd
  have hx:a.eval x=y.conc G:=hst.env.eval hev
  have hb:=boxC_ok (P:=P) hst.rp t hy
  rw [hc] at hb
  unfold Oper.wp
  simp only [execOp,Sem.run_bind,hx,hb,Result.andThen_ok,Sem.run_pure,Oper.upon_value]
  refine hk _ ?_
  have hev2:EV n (Jk G lv) a:=(hst.less hlv).reb.ev
  exact hev2.put hdn _
end
section
variable {P:Program} {N:Nat} {W:World} {Q:Exit→Act→World→Prop}
def nilOf (n:Nat) (k:List K) (fr:Fr):Option (Nat × Bool × TypeId × RV × List K):=match opAt k fr with
 | some (o,k')=>(match o.op,o.dst with
   | .binOp .eql t x (.const .nilIface) _,some d=>(match ev fr x with
     | some y=>bif Nat.blt d n then some (d,true,t,y,k') else none
     | none=>none)
   | .binOp .neq t x (.const .nilIface) _,some d=>(match ev fr x with
     | some y=>bif Nat.blt d n then some (d,false,t,y,k') else none
     | none=>none)
   | _,_=>none)
 | none=>none
theorem nil_run {ms:Array (String × TypeId)} {t:TypeId} (hu:P.underlying t=some (.interface ms)) {v:Value} {z:Bool} (hv:(v= .nilIface∧z=true)∨((∃ T x,v= .iface T x)∧z=false)) (ox:Operand) (w:World) :
 (do eqGuard .eql t ox (.const .nilIface) v .nilIface;binOp .eql t v .nilIface:Sem Value).run P w= .ok (.bool z) w∧(do eqGuard .neq t ox (.const .nilIface) v .nilIface;binOp .neq t v .nilIface:Sem Value).run P w= .ok (.bool (!z)) w:=by
 rcases hv with ⟨rfl,rfl⟩ | ⟨⟨T,x,rfl⟩,rfl⟩
 · constructor <;> simp [eqGuard,binOp,Op.equal,Op.maxDepth] <;> rw [Op.equalIn] <;> simp [run_underlying hu]
 constructor <;> simp [eqGuard,binOp,Op.equal,Op.maxDepth] <;> rw [Op.equalIn] <;> simp [run_underlying hu]
theorem nil_at {n:Nat} {k k':List K} {fr:Fr} {bs:List Zp} {G:Env} {a:Act} {w:World} {d:Nat} {t:TypeId} {y:RV} {eq:Bool} {ms:Array (String × TypeId)} {v:Value} {z:Bool} (lv:Fr)
 (hst:St N W n fr bs G a w) (h:nilOf n k fr=some (d,eq,t,y,k')) (hu:P.underlying t=some (.interface ms)) (hy:y.conc G=v) (hv:(v= .nilIface∧z=true)∨((∃ T x,v= .iface T x)∧z=false)) (hlv:(lv.map (·.1)).map (get fr)=lv.map (fun x=>some x.2))
 (hk: ∀ a',EV n ((d,.bool (if eq then z else !z))::Jk G lv) a'→ZZ P Q k' .normal a' w):ZZ P Q k .normal a w:=by
 have hev2:EV n (Jk G lv) a:=(hst.less hlv).reb.ev
 unfold nilOf at h
 split at h
 case h_2=>cases h
 rename_i o k1 ho
 split at h
 case h_3=>cases h
 all_goals
  rename_i x yt d1 hop hd
  split at h
  case h_2=>cases h
  rename_i y1 hev
  cases hdn:Nat.blt d1 n with
  | false=>rw [hdn,cond_false] at h;cases h
  | true=>
    rw [hdn,cond_true] at h
    cases h
    rw [Nat.blt_eq] at hdn
    refine at_op hst ho fun Q'=> ?_
    obtain ⟨dst,op,ty,pos,aft,gd⟩:=o
    simp only at hop hd
    subst hop hd
    have hx:a.eval x=v:=(hst.env.eval hev).trans hy
    have hc:a.eval (.const .nilIface)= .nilIface:=rfl
    obtain ⟨r1,r2⟩:=nil_run hu hv x w
    unfold Oper.wp
    first
     | (have hrun:(execOp a.eval ⟨some d,.binOp .eql t x (.const .nilIface) yt,ty,pos,aft,gd⟩).run P w= .ok (.value (.bool z)) w:=by
         simp only [execOp,hx,hc]
         rw [Sem.run_bind,r1]
         rfl
        rw [hrun,Oper.upon_value]
        exact hk _ (hev2.put hdn _))
     | (have hrun:(execOp a.eval ⟨some d,.binOp .neq t x (.const .nilIface) yt,ty,pos,aft,gd⟩).run P w= .ok (.value (.bool (!z))) w:=by
         simp only [execOp,hx,hc]
         rw [Sem.run_bind,r2]
         rfl
        rw [hrun,Oper.upon_value]
        exact hk _ (hev2.put hdn _))
end
end RC
end
end Go.Proofs.YtddedijencleeaaGreatDoor
