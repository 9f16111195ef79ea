/- The writer writes a query. -/
import Derived.Test.YtddedijencleeaaGreatDoorSm
import Derived.Test.YtddedijencleeaaGreatDoorMSq
import Derived.Test.YtddedijencleeaaGreatDoorVh
import Derived.Lib.ItoaLen
set_option linter.all false
namespace Go.Proofs.YtddedijencleeaaGreatDoor
set_option maxRecDepth 100000
set_option maxHeartbeats 8000000
open Tryz
noncomputable section
open Go.RowKit Go.Lib RC
theorem srcW_len (i:Nat) (x:So):(QW i x).length=(if decide (0<((i:Nat):Int))=true then (if x.left=true then 5 else 0)+6 else 0)+(ZW x).length:=by
 unfold QW
 cases decide (0<((i:Nat):Int)) <;> cases x.left <;> simp <;> omega
theorem fmt_ok (n:Int) (hn:KM n) (w:World) (hp:PrW w):Calls prog 179 #[.int .i64 n,.int .i64 10] w fun e w'=>e= .returned (.string ⟨(Lib.itoa n).toArray⟩)∧Below w.heap.size w w':=by
 refine (Tryz.strconv_FormatInt_10 n hn.1 hn.2 w hp.1).mono ?_
 rintro e w2 ⟨rfl,q,os,rfl⟩
 exact ⟨rfl,below_grow _ _ Qo _ _⟩
theorem itoa_len (n:Int) (h:KM n):(Lib.itoa n).length≤30:=by
 have hd: ∀ N:Nat,N≤9223372036854775808→(Lib.decDigits N).length≤20:=fun N hN=>by rw [Lib.decDigits_length];exact Lib.nDigits_le20 N (by omega)
 unfold KM at h
 unfold Lib.itoa
 split
 · have:=hd n.natAbs (by omega);simp;omega
 have:=hd n.toNat (by omega);omega

noncomputable abbrev cY0:Code:=Qt f114
abbrev qt1(G2:Env):Value:=(.pointer (some ⟨(G2.g 0),0,none⟩))
abbrev qt2(G2:Env):Nat × RV:=(3,.v (.pointer (some ⟨(G2.g 1),0,none⟩)))
abbrev qt3(b:Nat):Value:=(.pointer (some ⟨b,0,none⟩))
abbrev qt4(G2:Env):VF:=[(3,.pointer (some ⟨(G2.g 1),0,none⟩)),(2,.pointer (some ⟨(G2.g 0),0,none⟩))]
abbrev qt5(nfr:Nat):Nat × RV:=(21,.v (.int .i64 ((nfr:Nat):Int)))
abbrev qt6(i8:Nat):Nat × RV:=(22,.v (.int .i64 ((i8:Nat):Int)))
abbrev qt7(i8 nfr c6:Nat)(A6:Option Addr)(G2:Env):VF:=[(22,.int .i64 ((i8+1:Nat):Int)),(21,.int .i64 ((nfr:Nat):Int)),(20,.slice A6 nfr c6),(3,.pointer (some ⟨(G2.g 1),0,none⟩)),(2,.pointer (some ⟨(G2.g 0),0,none⟩))]
abbrev qt8(G2:Env):Nat × RV:=(2,.v (qt1 G2))
abbrev qt9(A6:Option Addr)(nfr c6:Nat):Nat × RV:=(20,.v (.slice A6 nfr c6))
abbrev qt10(b:Nat):List Value:=[.pointer (some ⟨b,0,none⟩)]
abbrev qt11(fr:Nat→So)(i8 e9n e9c:Nat)(y6:Bool)(e9k e9o e9vk e9vn e9pl e9ty:Int)(e9vt e9tb e9nm:ByteArray)(e9A:Option Addr):Value:=(.agg #[.string (fr i8).nm,.string (fr i8).al,.bool y6,.int .i64 e9k,.int .i64 e9o,.int .i64 e9vk,.int .i64 e9vn,.string e9vt,.string e9tb,.string e9nm,.slice e9A e9n e9c,.int .i64 e9pl,.int .i64 e9ty])
abbrev qt12(i8 nfr c6:Nat)(A6:Option Addr)(G2:Env):Fr:=[(22,.v (.int .i64 ((i8+1:Nat):Int))),(qt5 nfr),(qt9 A6 nfr c6),(qt2 G2),(qt8 G2)]
theorem query_pr {D:World} (hP:PrW D) (s:S) (cs:List Value) (h:Ks D s cs) (Hit: ∀ i,i<s.nit→(s.it i).star=false→QH (s.it i).e=true) (Hfr: ∀ i,i<s.nfr→Zx (s.fr i).e=true) (hwh:Zx s.wh=true) (Hgr: ∀ i,i<s.gr.n→QH (s.gr.f i)=true) (Hhv:Zx s.hv=true) (Hod: ∀ i,i<s.nor→QH (s.od i).e=true) :
 PrF D 114 (fun b=> #[.pointer (some ⟨b,0,none⟩),.agg cs.toArray]) (Q8 s) (Zl s):=by
 intro b o m l v W hD hw HZ
 obtain ⟨kind,⟨tnm,tnc,tcols,tnk,tkeys⟩,nkc,kc,nm,ix,un,⟨ncl,cl⟩,nrw,rw_,nst,st,wh,di,nit,it,nfr,fr,⟨ngr,gr⟩,hv,nor,od,li⟩:=s
 obtain ⟨tA,tc,tB,td,A1,c1,A2,c2,A3,c3,A4,c4,A5,c5,A6,c6,A7,c7,A8,c8,wk,wo,wvk,wvn,wvt,wtb,wnm,wA,wn,wc,wpl,wty,hk,ho,hvk,hvn,hvt,htb,hnm,hA,hn,hc,hpl,hty,rfl,h0,ia,t1,t2⟩:=Ks.opn h
 let x1x:List Value:=(Zs kind tnm tA tnc tc tB tnk td A1 nkc c1 nm ix un A2 ncl c2 A3 nrw c3 A4 nst c4 wk wo wvk wvn wvt wtb wnm wA wn wc wpl wty di A5 nit c5 A6 nfr c6 A7 ngr c7 hk ho hvk hvn hvt htb hnm hA hn hc hpl hty A8 nor c8 li)
 have iwh:=ia.wh
 have ihv:=ia.hv
 have iwf:=ia.wf
 have itn:=ia.tab.1
 simp only at Hit Hfr hwh Hgr Hhv Hod
 have Hn:nfr≤9223372036854775807:=ia.fr.len
 have Hli:=iwf.li
 simp only at Hli
 have ps0:=PS.start hw hD
 refine Qj (args:=[.pointer (some ⟨b,0,none⟩),.agg (Zs kind tnm tA tnc tc tB tnk td A1 nkc c1 nm ix un A2 ncl c2 A3 nrw c3 A4 nst c4 wk wo wvk wvn wvt wtb wnm wA wn wc wpl wty di A5 nit c5 A6 nfr c6 A7 ngr c7 hk ho hvk hvn hvt htb hnm hA hn hc hpl hty A8 nor c8 li).toArray]) (c:=cY0) func114 rfl (by kernel_rfl) fun a0 hst=> ?_
 have kq1:=(QZ.nil:QZ b v W [])
 refine pW0 (txt:=[83,69,76,69,67,84,32]) (.op 1 1) 7 104 (Qc cY0 (.op 1 1)) (Qc cY0 (.op 1 2)) [(6,.v (qt3 b)),(3,.p 1 0),(2,.p 0 0)] [bx (qt10 b),bx x1x] [(3,.p 1 0),(2,.p 0 0)] [.v (qt3 b),.v (.string ⟨#[83,69,76,69,67,84,32]⟩)] hst Zk ps0 kq1 func104 (fun G2 w2 ps2 kb2=>(QJ ps2.wr _ [83,69,76,69,67,84,32] rfl (HZ.of ZO HZ.m (by first | (simp only [Q8,Zl,bS,lS];omega) | omega)))) fun G2 ll2 v2 b2 u2 el2 hsu2 pt2 kb2=> ?_
 have F1:=kb2.ld 1 21 (t:=4) rfl rfl Qd
 refine gO cY0 (.op 2 2) [(9,.v (.bool di)),(qt2 G2),(qt8 G2)] [] hsu2 (Zg F1) fun G4 a4 w4 hst4 _=> ?_
 have hb4:=hst4.rp.below
 have ps4:=pt2.seg hb4
 have kb4_0:=(kb2.at 0 rfl).seg hb4
 have kb4_1:=(kb2.at 1 rfl).seg hb4
 have hr4:=hst4.reb
 refine joinW (k':=Qc cY0 (.op 4 0)) (fun aa ww=> ∃ vv,EV f114.ntmps (qt4 G2) aa∧PS D b o m (ll2++(if di=true then [68,73,83,84,73,78,67,84,32] else [])) vv v W ww∧Bk b vv ww (G2.g 0) (qt10 b)∧Bk b vv ww (G2.g 1) x1x) (fun aj3 uj3 hj3=> ?_) (fun KJ3=> ?_)
 · obtain ⟨vj3,ej3,pj3,kj3_0,kj3_1⟩:=hj3
   have sj3:=ej3.st uj3
   have F2:Sd uj3 (.get 70 (qt1 G2) (qt3 b)):=Qb.cellAt (d:=0) Qd kj3_0.sb.at_ rfl kj3_0.lt Qo
   have F3:Sd uj3 (.get 35 (.pointer (some ⟨(G2.g 1),22,none⟩)) (.slice A5 nit c5)):=Qb.cellAt (d:=22) Qd kj3_1.sb.at_ rfl kj3_1.lt Qo
   have kq5:=QZ.cons kj3_0 (QZ.cons kj3_1 QZ.nil)
   refine pW (dd:=(Ql nit (fun i=>itemD (it i)))) (txt:=(Qk nit (fun i=>ZL (it i)))) (.op 4 4) 16 174 (Qc cY0 (.op 4 4)) (Qc cY0 (.op 4 5)) [(15,.fn (Fn.func 175) [.v (qt1 G2)]),(14,.v (.slice A5 nit c5)),(12,.v (qt3 b)),(qt2 G2),(qt8 G2)] [] [(qt2 G2),(qt8 G2)] [.v (qt3 b),.v (.slice A5 nit c5),.fn (Fn.func 175) [.v (qt1 G2)]] sj3 (Km F2 F3) pj3 kq5 func174 (fun G6 w6 ps6 kb6=>(list_Item_pr ps6.bl ps6.wr ia.it 175 ⟨_,_,func175,rfl,by kernel_rfl⟩ [] [.pointer (some ⟨(G2.g 0),0,none⟩)] (fun i=>ZL (it i)) (fun i=>itemD (it i)) (HZ.of QYy5 HZ.m QPzJ) (fun i hi cs hp m' l' v' W' hb' hw' hs' hz'=>item_pr hb' hw' hP _ cs hp (Hit i hi) hz' ((kb6.at 0 rfl).call hs')))) (top_le HZ.ho (by subst el2;have hq:=HZ.hod;first | omega | (simp only [Q8,Zl,bS] at hq;omega)) HZ.m.1 HZ.m.2) fun G6 mm6 ll6 v6 b6 u6 em6 el6 bn6 hsu6 pt6 kb6=> ?_
   have F4:=kb6.ld 0 0 (t:=70) rfl rfl Qd
   refine pW0 (txt:=[32,70,82,79,77,32]) (.op 5 1) 18 104 (Qc cY0 (.op 5 1)) (Qc cY0 (.op 5 2)) [(17,.v (qt3 b)),(qt2 G2),(qt8 G2)] [] [(qt2 G2),(qt8 G2)] [.v (qt3 b),.v (.string ⟨#[32,70,82,79,77,32]⟩)] hsu6 (Zg F4) pt6 kb6 func104 (fun G7 w7 ps7 kb7=>(QJ ps7.wr _ [32,70,82,79,77,32] rfl (HZ.of ZO bn6 (by subst el6 em6 el2;first | (simp only [Q8,Zl,bS,lS];omega) | omega)))) fun G7 ll7 v7 b7 u7 el7 hsu7 pt7 kb7=> ?_
   have F5:=kb7.ld 1 23 (t:=36) rfl rfl Qd
   refine gO cY0 (.loop 0) [(22,.v (.int .i64 ((0:Nat):Int))),(qt5 nfr),(qt9 A6 nfr c6),(qt2 G2),(qt8 G2)] [] hsu7 (Zg F5) fun G8 a8 w8 hst8 _=> ?_
   have hb8:=hst8.rp.below
   have ps8:=pt7.seg hb8
   have kb8_0:=(kb7.at 0 rfl).seg hb8
   have kb8_1:=(kb7.at 1 rfl).seg hb8
   have hr8:=hst8.reb
   refine Kt cY0 0 Qv (nfr) (fun ii aa ww=> ∃ vv,EV _ ((22,.int .i64 ((ii:Nat):Int))::[(21,.int .i64 ((nfr:Nat):Int)),(20,.slice A6 nfr c6),(3,.pointer (some ⟨(G2.g 1),0,none⟩)),(2,.pointer (some ⟨(G2.g 0),0,none⟩))]) aa∧PS D b o (top o mm6 (Ql ii (fun i=>QQ (fr i).e))) (ll7++(ZF ii (fun i=>QW i (fr i)))) vv v W ww∧Bk b vv ww (G2.g 0) (qt10 b)∧Bk b vv ww (G2.g 1) x1x) ⟨v7,hr8.ev,PS.cast ps8 rfl QKqJ,kb8_0,kb8_1⟩ (fun i8 hi8 b8 u8 hI8=> ?_) (fun b8 u8 hI8=> ?_)
   · obtain ⟨v8,he8,hP8,kc8_0,kc8_1⟩:=hI8
     have hst8_:=he8.st u8
     have bn8:0≤(top o mm6 (Ql i8 (fun i=>QQ (fr i).e)))∧(top o mm6 (Ql i8 (fun i=>QQ (fr i).e)))≤1000:=top_le HZ.ho (by have hq:=HZ.hod;have hm:(Ql i8 (fun i=>QQ (fr i).e))≤(Ql nfr (fun i=>QQ (fr i).e)):=KT (by omega);first | omega | (simp only [Q8,Zl,bS] at hq;omega)) bn6.1 bn6.2
     have htst8:decide (((i8:Nat):Int)<((nfr:Nat):Int))=true:=by simp;omega
     have hj8:=concN_step (f:=(fun i=>QW i (fr i))) hi8
     have hm8:QQ (fr i8).e≤Ql nfr (fun i=>QQ (fr i).e):=KV (f:=(fun i=>QQ (fr i).e)) hi8
     obtain ⟨eb9,eo9,ed9,es9,eq9,el9,em9,ep9,er9⟩:=ia.fr.at (i:=(i8)) hi8
     have pp9:=ep9
     obtain ⟨sz9,sa9,ds9,rfl,ie9⟩:=ep9
     obtain ⟨e9k,e9o,e9vk,e9vn,e9vt,e9tb,e9nm,e9A,e9n,e9c,e9pl,e9ty,rfl⟩:=ie9.form
     let x3x:Value:=(.agg #[.string (fr i8).nm,.string (fr i8).al,.bool true,.int .i64 e9k,.int .i64 e9o,.int .i64 e9vk,.int .i64 e9vn,.string e9vt,.string e9tb,.string e9nm,.slice e9A e9n e9c,.int .i64 e9pl,.int .i64 e9ty])
     let x2x:Value:=(.agg #[.string (fr i8).nm,.string (fr i8).al,.bool false,.int .i64 e9k,.int .i64 e9o,.int .i64 e9vk,.int .i64 e9vn,.string e9vt,.string e9tb,.string e9nm,.slice e9A e9n e9c,.int .i64 e9pl,.int .i64 e9ty])
     obtain ⟨y6,hy6⟩: ∃ z,(fr i8).left=z:=⟨_,rfl⟩
     rw [hy6] at er9 pp9
     have hk8:(ZF i8 (fun i=>QW i (fr i))).length≤(ZF nfr (fun i=>QW i (fr i))).length:=concN_mono (by omega)
     have F7:=JE u8 htst8
     have F8:=nEl u8 13 eq9 underlying36 hi8
     have F9:Sd u8 (.get 65 (.pointer (some ⟨eb9,eo9+i8*13,none⟩)) (qt11 fr i8 e9n e9c y6 e9k e9o e9vk e9vn e9pl e9ty e9vt e9tb e9nm e9A)):=Qb.row Qd Qd (Qz er9 (.below hP8.bl)) (Nat.lt_of_lt_of_le el9 hP8.bl.size) Qo
     obtain ⟨z10,hz10⟩: ∃ z,(decide (0<((i8:Nat):Int)))=z:=⟨_,rfl⟩
     have F11:=nGt u8 hz10
     cases z10
     · have F12:=nGt u8 hz10
       have F13:Sd u8 (.get 70 (qt1 G2) (qt3 b)):=Qb.cellAt (d:=0) Qd kc8_0.sb.at_ rfl kc8_0.lt Qo
       have kq10:=QZ.cons kc8_0 (QZ.cons kc8_1 QZ.nil)
       refine pW (dd:=(QQ (fr i8).e)) (txt:=(ZW (fr i8))) (.op 13 2) 43 176 (Qc (Qn cY0 0) (.op 13 2)) (Qc (Qn cY0 0) (.op 13 3)) [(42,.v (qt11 fr i8 e9n e9c y6 e9k e9o e9vk e9vn e9pl e9ty e9vt e9tb e9nm e9A)),(41,.v (qt3 b)),(qt6 i8),(qt5 nfr),(qt9 A6 nfr c6),(qt2 G2),(qt8 G2)] [bx [.string (fr i8).nm,.string (fr i8).al,.bool y6,.int .i64 e9k,.int .i64 e9o,.int .i64 e9vk,.int .i64 e9vn,.string e9vt,.string e9tb,.string e9nm,.slice e9A e9n e9c,.int .i64 e9pl,.int .i64 e9ty]] [(qt6 i8),(qt5 nfr),(qt9 A6 nfr c6),(qt2 G2),(qt8 G2)] [.v (qt3 b),.v (qt11 fr i8 e9n e9c y6 e9k e9o e9vk e9vn e9pl e9ty e9vt e9tb e9nm e9A)] hst8_ (Je F7 F8 F9 F11 F12 F13) hP8 kq10 func176 (fun G11 w11 ps11 kb11=>(source_pr hP _ _ pp9 (Hfr i8 hi8) _ _ _ _ _ _ ps11.bl ps11.wr (HZ.of QtfS bn8 QQAr))) (top_le HZ.ho (by subst el7 el6 em6 el2;have hq:=HZ.hod;first | omega | (simp only [Q8,Zl,hy6,hz10,bS] at hq;omega)) bn8.1 bn8.2) fun G11 mm11 ll11 v11 b11 u11 em11 el11 bn11 hsu11 pt11 kb11=> ?_
       have F14:=sd u11 (Qb.inc (t:=3) (i:=i8) (by omega))
       refine gF .nrm (qt12 i8 nfr c6 A6 G2) [] hsu11 (Zg F14) fun g0 a0 w0 h0 _=>⟨_,RC.St.ev (l:=(qt7 i8 nfr c6 A6 G2)) h0,PS.cast (pt11.seg h0.rp.below) (by subst el11 em11 el7 el6 em6 el2;first | rfl | (rw [Qr];rfl)) (by subst el11 em11 el7 el6 em6 el2;simp only [ZF,QW,hy6,hz10,bS,aS]),(kb11.at 1 rfl).seg h0.rp.below,(kb11.at 2 rfl).seg h0.rp.below⟩
     cases y6
     · have F15:=nGt u8 hz10
       have F16:Sd u8 (.get 70 (qt1 G2) (qt3 b)):=Qb.cellAt (d:=0) Qd kc8_0.sb.at_ rfl kc8_0.lt Qo
       have kq12:=QZ.cons kc8_0 (QZ.cons kc8_1 QZ.nil)
       refine pW0 (txt:=[32,74,79,73,78,32]) (.op 12 1) 40 104 (Qc (Qn cY0 0) (.op 12 1)) (Qc (Qn cY0 0) (.op 12 2)) [(39,.v (qt3 b)),(qt6 i8),(qt5 nfr),(qt9 A6 nfr c6),(5,.p 0 0),(qt2 G2),(qt8 G2)] [bx [.string (fr i8).nm,.string (fr i8).al,.bool false,.int .i64 e9k,.int .i64 e9o,.int .i64 e9vk,.int .i64 e9vn,.string e9vt,.string e9tb,.string e9nm,.slice e9A e9n e9c,.int .i64 e9pl,.int .i64 e9ty]] [(qt6 i8),(qt5 nfr),(qt9 A6 nfr c6),(5,.p 0 0),(qt2 G2),(qt8 G2)] [.v (qt3 b),.v (.string ⟨#[32,74,79,73,78,32]⟩)] hst8_ (Je F7 F8 F9 F11 F15 F16) hP8 kq12 func104 (fun G13 w13 ps13 kb13=>(QJ ps13.wr _ [32,74,79,73,78,32] rfl (HZ.of ZO bn8 QQAr))) fun G13 ll13 v13 b13 u13 el13 hsu13 pt13 kb13=> ?_
       have F17:=kb13.ld 1 0 (t:=70) rfl rfl Qd
       have F18:=kb13.row 0 (t:=65) rfl Qd Qd
       refine pW (dd:=(QQ (fr i8).e)) (txt:=(ZW (fr i8))) (.op 13 2) 43 176 (Qc (Qn cY0 0) (.op 13 2)) (Qc (Qn cY0 0) (.op 13 3)) [(42,.v x2x),(41,.v (qt3 b)),(qt6 i8),(qt5 nfr),(qt9 A6 nfr c6),(qt2 G2),(qt8 G2)] [] [(qt6 i8),(qt5 nfr),(qt9 A6 nfr c6),(qt2 G2),(qt8 G2)] [.v (qt3 b),.v x2x] hsu13 (Km F17 F18) pt13 kb13 func176 (fun G14 w14 ps14 kb14=>(source_pr hP _ _ pp9 (Hfr i8 hi8) _ _ _ _ _ _ ps14.bl ps14.wr (HZ.of QtfS bn8 (by subst el13 el7 el6 em6 el2;have hq:=srcW_len i8 (fr i8);simp only [hy6,hz10,bS] at hq;first | (simp only [Q8,Zl,hy6,hz10,bS,lS];omega) | omega)))) (top_le HZ.ho (by subst el13 el7 el6 em6 el2;have hq:=HZ.hod;first | omega | (simp only [Q8,Zl,hy6,hz10,bS] at hq;omega)) bn8.1 bn8.2) fun G14 mm14 ll14 v14 b14 u14 em14 el14 bn14 hsu14 pt14 kb14=> ?_
       have F19:=sd u14 (Qb.inc (t:=3) (i:=i8) (by omega))
       refine gF .nrm (qt12 i8 nfr c6 A6 G2) [] hsu14 (Zg F19) fun g0 a0 w0 h0 _=>⟨_,RC.St.ev (l:=(qt7 i8 nfr c6 A6 G2)) h0,PS.cast (pt14.seg h0.rp.below) (by subst el14 em14 el13 el7 el6 em6 el2;first | rfl | (rw [Qr];rfl)) (by subst el14 em14 el13 el7 el6 em6 el2;simp only [ZF,QW,hy6,hz10,bS,aS]),(kb14.at 1 rfl).seg h0.rp.below,(kb14.at 2 rfl).seg h0.rp.below⟩
     have F20:Sd u8 (.get 70 (qt1 G2) (qt3 b)):=Qb.cellAt (d:=0) Qd kc8_0.sb.at_ rfl kc8_0.lt Qo
     have kq15:=QZ.cons kc8_0 (QZ.cons kc8_1 QZ.nil)
     refine pW0 (txt:=[32,76,69,70,84]) (.op 11 1) 38 104 (Qc (Qn cY0 0) (.op 11 1)) (Qc (Qn cY0 0) (.op 11 2)) [(37,.v (qt3 b)),(qt6 i8),(qt5 nfr),(qt9 A6 nfr c6),(5,.p 0 0),(qt2 G2),(qt8 G2)] [bx [.string (fr i8).nm,.string (fr i8).al,.bool true,.int .i64 e9k,.int .i64 e9o,.int .i64 e9vk,.int .i64 e9vn,.string e9vt,.string e9tb,.string e9nm,.slice e9A e9n e9c,.int .i64 e9pl,.int .i64 e9ty]] [(qt6 i8),(qt5 nfr),(qt9 A6 nfr c6),(5,.p 0 0),(qt2 G2),(qt8 G2)] [.v (qt3 b),.v (.string ⟨#[32,76,69,70,84]⟩)] hst8_ (kE5 F7 F8 F9 F11 F20) hP8 kq15 func104 (fun G16 w16 ps16 kb16=>(QJ ps16.wr _ [32,76,69,70,84] rfl (HZ.of ZO bn8 QQAr))) fun G16 ll16 v16 b16 u16 el16 hsu16 pt16 kb16=> ?_
     have F21:=kb16.ld 1 0 (t:=70) rfl rfl Qd
     refine pW0 (txt:=[32,74,79,73,78,32]) (.op 12 1) 40 104 (Qc (Qn cY0 0) (.op 12 1)) (Qc (Qn cY0 0) (.op 12 2)) [(39,.v (qt3 b)),(qt6 i8),(qt5 nfr),(qt9 A6 nfr c6),(5,.v (.pointer (some ⟨(G16.g 0),0,none⟩))),(qt2 G2),(qt8 G2)] [] [(qt6 i8),(qt5 nfr),(qt9 A6 nfr c6),(5,.v (.pointer (some ⟨(G16.g 0),0,none⟩))),(qt2 G2),(qt8 G2)] [.v (qt3 b),.v (.string ⟨#[32,74,79,73,78,32]⟩)] hsu16 (Zg F21) pt16 kb16 func104 (fun G17 w17 ps17 kb17=>(QJ ps17.wr _ [32,74,79,73,78,32] rfl (HZ.of ZO bn8 (by subst el16 el7 el6 em6 el2;have hq:=srcW_len i8 (fr i8);simp only [hy6,hz10,bS] at hq;first | (simp only [Q8,Zl,hy6,hz10,bS,lS];omega) | omega)))) fun G17 ll17 v17 b17 u17 el17 hsu17 pt17 kb17=> ?_
     have F22:=kb17.ld 1 0 (t:=70) rfl rfl Qd
     have F23:=kb17.row 0 (t:=65) rfl Qd Qd
     refine pW (dd:=(QQ (fr i8).e)) (txt:=(ZW (fr i8))) (.op 13 2) 43 176 (Qc (Qn cY0 0) (.op 13 2)) (Qc (Qn cY0 0) (.op 13 3)) [(42,.v x3x),(41,.v (qt3 b)),(qt6 i8),(qt5 nfr),(qt9 A6 nfr c6),(qt2 G2),(qt8 G2)] [] [(qt6 i8),(qt5 nfr),(qt9 A6 nfr c6),(qt2 G2),(qt8 G2)] [.v (qt3 b),.v x3x] hsu17 (Km F22 F23) pt17 kb17 func176 (fun G18 w18 ps18 kb18=>(source_pr hP _ _ pp9 (Hfr i8 hi8) _ _ _ _ _ _ ps18.bl ps18.wr (HZ.of QtfS bn8 (by subst el17 el16 el7 el6 em6 el2;have hq:=srcW_len i8 (fr i8);simp only [hy6,hz10,bS] at hq;first | (simp only [Q8,Zl,hy6,hz10,bS,lS];omega) | omega)))) (top_le HZ.ho (by subst el17 el16 el7 el6 em6 el2;have hq:=HZ.hod;first | omega | (simp only [Q8,Zl,hy6,hz10,bS] at hq;omega)) bn8.1 bn8.2) fun G18 mm18 ll18 v18 b18 u18 em18 el18 bn18 hsu18 pt18 kb18=> ?_
     have F24:=sd u18 (Qb.inc (t:=3) (i:=i8) (by omega))
     refine gF .nrm (qt12 i8 nfr c6 A6 G2) [] hsu18 (Zg F24) fun g0 a0 w0 h0 _=>⟨_,RC.St.ev (l:=(qt7 i8 nfr c6 A6 G2)) h0,PS.cast (pt18.seg h0.rp.below) (by subst el18 em18 el17 el16 el7 el6 em6 el2;first | rfl | (rw [Qr];rfl)) (by subst el18 em18 el17 el16 el7 el6 em6 el2;simp only [ZF,QW,hy6,hz10,bS,aS]),(kb18.at 1 rfl).seg h0.rp.below,(kb18.at 2 rfl).seg h0.rp.below⟩
   obtain ⟨v8,he8,hP8,kc8_0,kc8_1⟩:=hI8
   have hst8_:=he8.st u8
   have bn8:0≤(top o mm6 (Ql nfr (fun i=>QQ (fr i).e)))∧(top o mm6 (Ql nfr (fun i=>QQ (fr i).e)))≤1000:=top_le HZ.ho (by have hq:=HZ.hod;have hm:(Ql nfr (fun i=>QQ (fr i).e))≤(Ql nfr (fun i=>QQ (fr i).e)):=KT (by omega);first | omega | (simp only [Q8,Zl,bS] at hq;omega)) bn6.1 bn6.2
   have htst8e:decide (((nfr:Nat):Int)<((nfr:Nat):Int))=false:=by simp
   have F25:=JE u8 htst8e
   refine gF (.ex 0) [(qt5 nfr),(qt9 A6 nfr c6),(qt2 G2),(qt8 G2)] [] hst8_ (Zg F25) fun G19 a19 w19 hst19 _=>brk ?_
   have hb19:=hst19.rp.below
   have ps19:=hP8.seg hb19
   have kb19_0:=kc8_0.seg hb19
   have kb19_1:=kc8_1.seg hb19
   have hsr19:=hst19.reb
   have F26:Sd w19 (.get 70 (qt1 G2) (qt3 b)):=Qb.cellAt (d:=0) Qd kb19_0.sb.at_ rfl kb19_0.lt Qo
   have F27:Sd w19 (.get 34 (.pointer (some ⟨(G2.g 1),11,none⟩)) (eV wk wo wvk wvn wvt wtb wnm wA wn wc wpl wty)):=Qb.part (d:=11) Qd Qd kb19_1.sb.at_ rfl kb19_1.lt Qo
   have kq20:=QZ.cons kb19_0 (QZ.cons kb19_1 QZ.nil)
   refine pW (dd:=(QQ wh)) (txt:=(Qm [32,87,72,69,82,69,32] wh)) (.op 15 3) 48 113 (Qc cY0 (.op 15 3)) (Qc cY0 (.op 15 4)) [(47,.v (eV wk wo wvk wvn wvt wtb wnm wA wn wc wpl wty)),(45,.v (qt3 b)),(qt2 G2),(qt8 G2)] [] [(qt2 G2),(qt8 G2)] [.v (qt3 b),.v (.string ⟨#[32,87,72,69,82,69,32]⟩),.v (eV wk wo wvk wvn wvt wtb wnm wA wn wc wpl wty)] hsr19 (Km F26 F27) ps19 kq20 func113 (fun G21 w21 ps21 kb21=>(clause_pr hP _ [32,87,72,69,82,69,32] rfl iwh hwh _ _ _ _ _ _ ps21.bl ps21.wr (HZ.of QYy5 bn8 (by subst el7 el6 em6 el2;first | (simp only [Q8,Zl,bS,lS];omega) | omega)))) (top_le HZ.ho (by subst el7 el6 em6 el2;have hq:=HZ.hod;first | omega | (simp only [Q8,Zl,bS] at hq;omega)) bn8.1 bn8.2) fun G21 mm21 ll21 v21 b21 u21 em21 el21 bn21 hsu21 pt21 kb21=> ?_
   have F28:=kb21.ld 1 24 (t:=32) rfl rfl Qd
   obtain ⟨z29,hz29⟩: ∃ z,(decide (0<((ngr:Nat):Int)))=z:=⟨_,rfl⟩
   have F30:=nGt u21 hz29
   refine gO cY0 (.op 16 4) [(52,.v (.bool z29)),(qt2 G2),(qt8 G2)] [] hsu21 (Km F28 F30) fun G23 a23 w23 hst23 _=> ?_
   have hb23:=hst23.rp.below
   have ps23:=pt21.seg hb23
   have kb23_0:=(kb21.at 0 rfl).seg hb23
   have kb23_1:=(kb21.at 1 rfl).seg hb23
   have hr23:=hst23.reb
   refine joinW (k':=Qc cY0 (.op 19 0)) (fun aa ww=> ∃ vv,EV f114.ntmps (qt4 G2) aa∧PS D b o (top o mm21 ((if z29=true then Ql ngr (fun i=>QQ (gr i)) else 0))) (ll21++(if z29=true then [32,71,82,79,85,80,32,66,89,32]++Qk ngr (fun i=>Qg (gr i)) else [])) vv v W ww∧Bk b vv ww (G2.g 0) (qt10 b)∧Bk b vv ww (G2.g 1) x1x) (fun aj22 uj22 hj22=> ?_) (fun KJ22=> ?_)
   · obtain ⟨vj22,ej22,pj22,kj22_0,kj22_1⟩:=hj22
     have sj22:=ej22.st uj22
     have bn22:0≤(top o mm21 ((if z29=true then Ql ngr (fun i=>QQ (gr i)) else 0)))∧(top o mm21 ((if z29=true then Ql ngr (fun i=>QQ (gr i)) else 0)))≤1000:=top_le HZ.ho (by have hq:=HZ.hod;first | omega | (simp only [Q8,Zl,hz29,bS] at hq;omega)) bn21.1 bn21.2
     have F31:Sd uj22 (.get 70 (qt1 G2) (qt3 b)):=Qb.cellAt (d:=0) Qd kj22_0.sb.at_ rfl kj22_0.lt Qo
     have F32:Sd uj22 (.get 34 (.pointer (some ⟨(G2.g 1),25,none⟩)) (eV hk ho hvk hvn hvt htb hnm hA hn hc hpl hty)):=Qb.part (d:=25) Qd Qd kj22_1.sb.at_ rfl kj22_1.lt Qo
     have kq24:=QZ.cons kj22_0 (QZ.cons kj22_1 QZ.nil)
     refine pW (dd:=(QQ hv)) (txt:=(Qm [32,72,65,86,73,78,71,32] hv)) (.op 19 3) 64 113 (Qc cY0 (.op 19 3)) (Qc cY0 (.op 19 4)) [(63,.v (eV hk ho hvk hvn hvt htb hnm hA hn hc hpl hty)),(61,.v (qt3 b)),(qt2 G2),(qt8 G2)] [] [(qt2 G2),(qt8 G2)] [.v (qt3 b),.v (.string ⟨#[32,72,65,86,73,78,71,32]⟩),.v (eV hk ho hvk hvn hvt htb hnm hA hn hc hpl hty)] sj22 (Km F31 F32) pj22 kq24 func113 (fun G25 w25 ps25 kb25=>(clause_pr hP _ [32,72,65,86,73,78,71,32] rfl ihv Hhv _ _ _ _ _ _ ps25.bl ps25.wr (HZ.of QHQa bn22 QpWG))) (top_le HZ.ho (by subst el21 em21 el7 el6 em6 el2;have hq:=HZ.hod;first | omega | (simp only [Q8,Zl,hz29,bS] at hq;omega)) bn22.1 bn22.2) fun G25 mm25 ll25 v25 b25 u25 em25 el25 bn25 hsu25 pt25 kb25=> ?_
     have F33:=kb25.ld 1 35 (t:=37) rfl rfl Qd
     obtain ⟨z34,hz34⟩: ∃ z,(decide (0<((nor:Nat):Int)))=z:=⟨_,rfl⟩
     have F35:=nGt u25 hz34
     refine gO cY0 (.op 20 4) [(68,.v (.bool z34)),(qt2 G2),(qt8 G2)] [] hsu25 (Km F33 F35) fun G27 a27 w27 hst27 _=> ?_
     have hb27:=hst27.rp.below
     have ps27:=pt25.seg hb27
     have kb27_0:=(kb25.at 0 rfl).seg hb27
     have kb27_1:=(kb25.at 1 rfl).seg hb27
     have hr27:=hst27.reb
     refine joinW (k':=Qc cY0 (.op 23 0)) (fun aa ww=> ∃ vv,EV f114.ntmps (qt4 G2) aa∧PS D b o (top o mm25 ((if z34=true then Ql nor (fun i=>QQ (od i).e) else 0))) (ll25++(if z34=true then [32,79,82,68,69,82,32,66,89,32]++Qk nor (fun i=>Zi (od i)) else [])) vv v W ww∧Bk b vv ww (G2.g 0) (qt10 b)∧Bk b vv ww (G2.g 1) x1x) (fun aj26 uj26 hj26=> ?_) (fun KJ26=> ?_)
     · obtain ⟨vj26,ej26,pj26,kj26_0,kj26_1⟩:=hj26
       have sj26:=ej26.st uj26
       have bn26:0≤(top o mm25 ((if z34=true then Ql nor (fun i=>QQ (od i).e) else 0)))∧(top o mm25 ((if z34=true then Ql nor (fun i=>QQ (od i).e) else 0)))≤1000:=top_le HZ.ho (by have hq:=HZ.hod;first | omega | (simp only [Q8,Zl,hz29,hz34,bS] at hq;omega)) bn25.1 bn25.2
       have F36:Sd uj26 (.get 2 (.pointer (some ⟨(G2.g 1),36,none⟩)) (.int .i64 li)):=Qb.cellAt (d:=36) Qd kj26_1.sb.at_ rfl kj26_1.lt Qo
       obtain ⟨z37,hz37⟩: ∃ z,(decide (0≤li))=z:=⟨_,rfl⟩
       have F38:=sd uj26 (Qb.intGe (t:=2) (k:=.i64) (a:=li) (b:=0) hz37)
       cases z37
       · exact goE sj26 (Km F36 F38) (vs:=[]) (by kernel_rfl) fun w' hw=>⟨rfl,(PS.cast (pj26.seg hw) (by subst el25 em25 el21 em21 el7 el6 em6 el2;first | rfl | (simp only [Q8,Zl,hz29,hz34,hz37,bS,Qr,Qq];done) | (simp only [Q8,Zl,hz29,hz34,hz37,bS,Qr,Qq] <;> rfl)) (by subst el25 em25 el21 em21 el7 el6 em6 el2;simp only [Q8,Zl,hz29,hz34,hz37,bS,aS])).fin⟩
       have F39:Sd uj26 (.get 70 (qt1 G2) (qt3 b)):=Qb.cellAt (d:=0) Qd kj26_0.sb.at_ rfl kj26_0.lt Qo
       have C40:Sd uj26 (.call 179 [.int .i64 li,.int .i64 10] (.string ⟨(Lib.itoa li).toArray⟩)):=by exact Qb.of func179 rfl Qd (fun w hw=>fmt_ok li Hli w (hP.below (Below.andThen pj26.bl hw)))
       have F41:=sd uj26 (Qb.addStr (t:=9) (a:=⟨#[32,76,73,77,73,84,32]⟩) (b:=(⟨(Lib.itoa li).toArray⟩:ByteArray)) (by have hq:=HZ.hl;simp only [Q8,Zl,hz29,hz34,hz37,bS,lS] at hq;simp only [QK,Zy,Qi,List.length_append];first | omega | (simp only [lS] at *;omega)))
       have kq28:=QZ.cons kj26_0 (QZ.cons kj26_1 QZ.nil)
       refine pW0 (txt:=([32,76,73,77,73,84,32]++Lib.itoa li)) (.op 24 5) 84 104 (Qc cY0 (.op 24 5)) (Qc cY0 (.op 24 6)) [(83,.v (.string (⟨#[32,76,73,77,73,84,32]⟩++(⟨(Lib.itoa li).toArray⟩:ByteArray)))),(79,.v (qt3 b))] [] [] [.v (qt3 b),.v (.string (⟨#[32,76,73,77,73,84,32]⟩++(⟨(Lib.itoa li).toArray⟩:ByteArray)))] sj26 (Je F36 F38 F39 F36 C40 F41) pj26 kq28 func104 (fun G29 w29 ps29 kb29=>(QJ ps29.wr _ ([32,76,73,77,73,84,32]++Lib.itoa li) (Zc rfl (Qi _)) (HZ.of ZO bn26 (by subst el25 em25 el21 em21 el7 el6 em6 el2;first | (simp only [Q8,Zl,hz29,hz34,hz37,bS,lS];omega) | omega)))) fun G29 ll29 v29 b29 u29 el29 hsu29 pt29 kb29=> ?_
       exact gE hsu29 Zk [] fun w' hw=>⟨rfl,(PS.cast (pt29.seg hw) (by subst el29 el25 em25 el21 em21 el7 el6 em6 el2;first | rfl | (simp only [Q8,Zl,hz29,hz34,hz37,bS,Qr,Qq];done) | (simp only [Q8,Zl,hz29,hz34,hz37,bS,Qr,Qq] <;> rfl)) (by subst el29 el25 em25 el21 em21 el7 el6 em6 el2;simp only [Q8,Zl,hz29,hz34,hz37,bS,aS])).fin⟩
     cases z34
     · refine gO cY0 (.op 23 0) [(qt2 G2),(qt8 G2)] [] hr27 Zk fun g0 a0 w0 h0 _=>KJ26 _ _ ⟨_,RC.St.ev (l:=(qt4 G2)) h0,PS.cast (ps27.seg h0.rp.below) (by subst el25 em25 el21 em21 el7 el6 em6 el2;first | rfl | (simp only [bS,Qr,Qq];done) | (simp only [bS,Qr,Qq] <;> rfl)) (by subst el25 em25 el21 em21 el7 el6 em6 el2;simp only [bS,aS]),kb27_0.seg h0.rp.below,kb27_1.seg h0.rp.below⟩
     have F42:Sd w27 (.get 70 (qt1 G2) (qt3 b)):=Qb.cellAt (d:=0) Qd kb27_0.sb.at_ rfl kb27_0.lt Qo
     have kq30:=QZ.cons kb27_0 (QZ.cons kb27_1 QZ.nil)
     refine pW0 (txt:=[32,79,82,68,69,82,32,66,89,32]) (.op 21 1) 70 104 (Qc cY0 (.op 21 1)) (Qc cY0 (.op 21 2)) [(69,.v (qt3 b)),(qt2 G2),(qt8 G2)] [] [(qt2 G2),(qt8 G2)] [.v (qt3 b),.v (.string ⟨#[32,79,82,68,69,82,32,66,89,32]⟩)] hr27 (Zg F42) ps27 kq30 func104 (fun G31 w31 ps31 kb31=>(QJ ps31.wr _ [32,79,82,68,69,82,32,66,89,32] rfl (HZ.of ZO bn25 (by subst el25 em25 el21 em21 el7 el6 em6 el2;first | (simp only [Q8,Zl,hz29,hz34,bS,lS];omega) | omega)))) fun G31 ll31 v31 b31 u31 el31 hsu31 pt31 kb31=> ?_
     have F43:=kb31.ld 0 0 (t:=70) rfl rfl Qd
     have F44:=kb31.ld 1 35 (t:=37) rfl rfl Qd
     refine pW (dd:=(Ql nor (fun i=>QQ (od i).e))) (txt:=(Qk nor (fun i=>Zi (od i)))) (.op 22 4) 75 177 (Qc cY0 (.op 22 4)) (Qc cY0 (.op 22 5)) [(74,.fn (Fn.func 178) [.v (qt1 G2)]),(73,.v (.slice A8 nor c8)),(71,.v (qt3 b)),(qt2 G2),(qt8 G2)] [] [(qt2 G2),(qt8 G2)] [.v (qt3 b),.v (.slice A8 nor c8),.fn (Fn.func 178) [.v (qt1 G2)]] hsu31 (Km F43 F44) pt31 kb31 func177 (fun G32 w32 ps32 kb32=>(list_Order_pr ps32.bl ps32.wr ia.od 178 ⟨_,_,func178,rfl,by kernel_rfl⟩ [] [.pointer (some ⟨(G2.g 0),0,none⟩)] (fun i=>Zi (od i)) (fun i=>QQ (od i).e) (HZ.of (by first | omega | (simp only [Q8,Zl,hz29,hz34,bS];omega)) bn25 (by subst el31 el25 em25 el21 em21 el7 el6 em6 el2;first | (simp only [Q8,Zl,hz29,hz34,bS,lS];omega) | omega)) (fun i hi cs hp m' l' v' W' hb' hw' hs' hz'=>order_pr hb' hw' hP _ cs hp (Hod i hi) hz' ((kb32.at 0 rfl).call hs')))) (top_le HZ.ho (by subst el31 el25 em25 el21 em21 el7 el6 em6 el2;have hq:=HZ.hod;first | omega | (simp only [Q8,Zl,hz29,hz34,bS] at hq;omega)) bn25.1 bn25.2) fun G32 mm32 ll32 v32 b32 u32 em32 el32 bn32 hsu32 pt32 kb32=> ?_
     refine gO cY0 (.op 23 0) [(qt2 G2),(qt8 G2)] [] hsu32 Zk fun g0 a0 w0 h0 _=>KJ26 _ _ ⟨_,RC.St.ev (l:=(qt4 G2)) h0,PS.cast (pt32.seg h0.rp.below) (by subst el32 em32 el31 el25 em25 el21 em21 el7 el6 em6 el2;first | rfl | (simp only [bS,Qr,Qq];done) | (simp only [bS,Qr,Qq] <;> rfl)) (by subst el32 em32 el31 el25 em25 el21 em21 el7 el6 em6 el2;simp only [bS,aS]),(kb32.at 0 rfl).seg h0.rp.below,(kb32.at 1 rfl).seg h0.rp.below⟩
   cases z29
   · refine gO cY0 (.op 19 0) [(qt2 G2),(qt8 G2)] [] hr23 Zk fun g0 a0 w0 h0 _=>KJ22 _ _ ⟨_,RC.St.ev (l:=(qt4 G2)) h0,PS.cast (ps23.seg h0.rp.below) (by subst el21 em21 el7 el6 em6 el2;first | rfl | (simp only [bS,Qr,Qq];done) | (simp only [bS,Qr,Qq] <;> rfl)) (by subst el21 em21 el7 el6 em6 el2;simp only [bS,aS]),kb23_0.seg h0.rp.below,kb23_1.seg h0.rp.below⟩
   have F45:Sd w23 (.get 70 (qt1 G2) (qt3 b)):=Qb.cellAt (d:=0) Qd kb23_0.sb.at_ rfl kb23_0.lt Qo
   have kq33:=QZ.cons kb23_0 (QZ.cons kb23_1 QZ.nil)
   refine pW0 (txt:=[32,71,82,79,85,80,32,66,89,32]) (.op 17 1) 54 104 (Qc cY0 (.op 17 1)) (Qc cY0 (.op 17 2)) [(53,.v (qt3 b)),(qt2 G2),(qt8 G2)] [] [(qt2 G2),(qt8 G2)] [.v (qt3 b),.v (.string ⟨#[32,71,82,79,85,80,32,66,89,32]⟩)] hr23 (Zg F45) ps23 kq33 func104 (fun G34 w34 ps34 kb34=>(QJ ps34.wr _ [32,71,82,79,85,80,32,66,89,32] rfl (HZ.of ZO bn21 QpWG))) fun G34 ll34 v34 b34 u34 el34 hsu34 pt34 kb34=> ?_
   have F46:=kb34.ld 0 0 (t:=70) rfl rfl Qd
   have F47:=kb34.ld 1 24 (t:=32) rfl rfl Qd
   refine pW (dd:=(Ql ngr (fun i=>QQ (gr i)))) (txt:=(Qk ngr (fun i=>Qg (gr i)))) (.op 18 5) 60 110 (Qc cY0 (.op 18 5)) (Qc cY0 (.op 18 6)) [(59,.v (.func (Fn.func 35) #[.pointer (some ⟨b,0,none⟩)] #[])),(57,.v (.slice A7 ngr c7)),(55,.v (qt3 b)),(qt2 G2),(qt8 G2)] [] [(qt2 G2),(qt8 G2)] [.v (qt3 b),.v (.slice A7 ngr c7),.v (.func (Fn.func 35) #[.pointer (some ⟨b,0,none⟩)] #[])] hsu34 (kE3 F46 F47 F46) pt34 kb34 func110 (fun G35 w35 ps35 kb35=>(JJ ps35.bl ps35.wr ia.gr 35 ⟨_,_,func35,rfl,by kernel_rfl⟩ (qt10 b) [] (fun i=>Qg (gr i)) (fun i=>QQ (gr i)) (HZ.of QHQa bn21 (by subst el34 el21 em21 el7 el6 em6 el2;first | (simp only [Q8,Zl,hz29,bS,lS];omega) | omega)) (fun i hi cs hp m' l' v' W' hb' hw' hs' hz'=>expr_pr hP _ cs (Hgr i hi) hp b o m' l' v' W' hb' hw' hz'))) (top_le HZ.ho (by subst el34 el21 em21 el7 el6 em6 el2;have hq:=HZ.hod;first | omega | (simp only [Q8,Zl,hz29,bS] at hq;omega)) bn21.1 bn21.2) fun G35 mm35 ll35 v35 b35 u35 em35 el35 bn35 hsu35 pt35 kb35=> ?_
   refine gO cY0 (.op 19 0) [(qt2 G2),(qt8 G2)] [] hsu35 Zk fun g0 a0 w0 h0 _=>KJ22 _ _ ⟨_,RC.St.ev (l:=(qt4 G2)) h0,PS.cast (pt35.seg h0.rp.below) (by subst el35 em35 el34 el21 em21 el7 el6 em6 el2;first | rfl | (simp only [bS,Qr,Qq];done) | (simp only [bS,Qr,Qq] <;> rfl)) (by subst el35 em35 el34 el21 em21 el7 el6 em6 el2;simp only [bS,aS]),(kb35.at 0 rfl).seg h0.rp.below,(kb35.at 1 rfl).seg h0.rp.below⟩
 cases di
 · refine gO cY0 (.op 4 0) [(qt2 G2),(qt8 G2)] [] hr4 Zk fun g0 a0 w0 h0 _=>KJ3 _ _ ⟨_,RC.St.ev (l:=(qt4 G2)) h0,PS.cast (ps4.seg h0.rp.below) (by subst el2;first | rfl | (simp only [bS,Qr,Qq];done) | (simp only [bS,Qr,Qq] <;> rfl)) (by subst el2;simp only [bS,aS]),kb4_0.seg h0.rp.below,kb4_1.seg h0.rp.below⟩
 have F48:Sd w4 (.get 70 (qt1 G2) (qt3 b)):=Qb.cellAt (d:=0) Qd kb4_0.sb.at_ rfl kb4_0.lt Qo
 have kq36:=QZ.cons kb4_0 (QZ.cons kb4_1 QZ.nil)
 refine pW0 (txt:=[68,73,83,84,73,78,67,84,32]) (.op 3 1) 11 104 (Qc cY0 (.op 3 1)) (Qc cY0 (.op 3 2)) [(10,.v (qt3 b)),(qt2 G2),(qt8 G2)] [] [(qt2 G2),(qt8 G2)] [.v (qt3 b),.v (.string ⟨#[68,73,83,84,73,78,67,84,32]⟩)] hr4 (Zg F48) ps4 kq36 func104 (fun G37 w37 ps37 kb37=>(QJ ps37.wr _ [68,73,83,84,73,78,67,84,32] rfl (HZ.of ZO HZ.m QPzJ))) fun G37 ll37 v37 b37 u37 el37 hsu37 pt37 kb37=> ?_
 refine gO cY0 (.op 4 0) [(qt2 G2),(qt8 G2)] [] hsu37 Zk fun g0 a0 w0 h0 _=>KJ3 _ _ ⟨_,RC.St.ev (l:=(qt4 G2)) h0,PS.cast (pt37.seg h0.rp.below) (by subst el37 el2;first | rfl | (simp only [bS,Qr,Qq];done) | (simp only [bS,Qr,Qq] <;> rfl)) (by subst el37 el2;simp only [bS,aS]),(kb37.at 0 rfl).seg h0.rp.below,(kb37.at 1 rfl).seg h0.rp.below⟩
end
end Go.Proofs.YtddedijencleeaaGreatDoor
