/- The writer writes a list. -/
import Derived.Test.YtddedijencleeaaGreatDoorSm
import Derived.Test.YtddedijencleeaaGreatDoorMSq
import Derived.Test.YtddedijencleeaaGreatDoorVc
set_option linter.all false
namespace Go.Proofs.YtddedijencleeaaGreatDoor
set_option maxRecDepth 100000
set_option maxHeartbeats 8000000
open Tryz
noncomputable section
open Go.RowKit Go.Lib RC
structure EC where
 k:Int
 o:Int
 vk:Int
 vn:Int
 vt:ByteArray
 tb:ByteArray
 nm:ByteArray
 A:Option Addr
 n:Nat
 c:Nat
 pl:Int
 ty:Int
structure AC where
 A:Option Addr
 c:Nat
theorem sep_of {i:Nat} {z:Bool} (h:decide ((0:Int)<((i:Nat):Int))=z):(if i=0 then ([]:List UInt8) else [44,32])=if z=true then [44,32] else []:=by
 subst h
 by_cases e:i=0
 · subst e;simp
 rw [if_neg e,if_pos];simp;omega
theorem joinN_step {n i:Nat} {t:Nat→List UInt8} (hi:i<n) (z:Bool) (h:decide ((0:Int)<((i:Nat):Int))=z):(Qk i t).length+((if z=true then 2 else 0)+(t i).length)≤(Qk n t).length:=by
 have:=joinN_mono (f:=t) (show i+1≤n by omega)
 rw [Qk,sep_of h] at this
 refine Nat.le_trans ?_ this
 simp only [List.length_append]
 cases z <;> simp

noncomputable abbrev cL_Expr:Code:=Qt f110
abbrev cl_Expr (es:Nat→E) (i:Nat) (y:EC):List Value:=[.int .i64 y.k,.int .i64 y.o,.int .i64 y.vk,.int .i64 y.vn,.string y.vt,.string y.tb,.string y.nm,.slice y.A y.n y.c,.int .i64 y.pl,.int .i64 y.ty]
abbrev el_Expr (es:Nat→E) (i:Nat) (y:EC):Value:=.agg (cl_Expr es i y).toArray
theorem opn_Expr {W:World} {es:Nat→E} {i:Nat} {cs:List Value} (h:QI W (es i) cs): ∃ y,cs=cl_Expr es i y:=by
 obtain ⟨k,o,vk,vn,vt,tb,nm,A,n,c,pl,ty,rfl⟩:=QI.form h
 exact QpAp
theorem ld_Expr {W:World} {b o:Nat} {es:Nat→E} {i:Nat} (y:EC) (h:W.rangeAt b o (cl_Expr es i y)) (hb:b<W.heap.size):Sd W (.get 34 (.pointer (some ⟨b,o,none⟩)) (el_Expr es i y)):=Qb.row (by kernel_rfl) (by kernel_rfl) h hb (Nat.le_refl _)
abbrev qo1(b:Nat):Nat × RV:=(0,.v (.pointer (some ⟨b,0,none⟩)))
abbrev qo2(n:Nat):Nat × RV:=(9,.v (.int .i64 ((n:Nat):Int)))
abbrev qo3(i1:Nat):Nat × RV:=(10,.v (.int .i64 ((i1:Nat):Int)))
abbrev qo4(A:Option Addr)(n c:Nat):Nat × RV:=(8,.v (.slice A n c))
abbrev qo5(b:Nat):Option Addr:=(some ⟨b,0,none⟩)
abbrev qo6(n:Nat):Nat × Value:=(9,.int .i64 ((n:Nat):Int))
abbrev qo7(i1:Nat):Nat × RV:=(10,.v (.int .i64 ((i1+1:Nat):Int)))
abbrev qo8(i1:Nat):Nat × Value:=(10,.int .i64 ((i1+1:Nat):Int))
abbrev qo9(b:Nat):Nat × Value:=(0,.pointer (qo5 b))
theorem fMVd9 {p:Prop} (h:p:=by
 let x1x:Nat × RV:=(2,.v (.func (Fn.func f) first.toArray caps.toArray))
 obtain ⟨A,c,rfl⟩:=hv.form
 have hn:=hv.len
 have ps0:=PS.start h hD
 refine Qj (args:=[.pointer (qo5 b),.slice A n c,.func (Fn.func f) first.toArray caps.toArray]) (c:=KP) fv2 rfl (by kernel_rfl) fun a0 hst=> ?_
 refine gO KP (.loop 0) [(10,.v (.int .i64 ((0:Nat):Int))),(qo2 n),(qo4 A n c),x1x,(qo1 b)] [] hst Zk fun G1 a1 w1 hst1 _=> ?_
 have hb1:=hst1.rp.below
 have ps1:=ps0.seg hb1
 have hr1:=hst1.reb
 refine Kt KP 0 Qv (n) (fun ii aa ww=> ∃ vv,EV _ ((10,.int .i64 ((ii:Nat):Int))::[(qo6 n),(8,.slice A n c),(2,.func (Fn.func f) first.toArray caps.toArray),(qo9 b)]) aa∧PS D b o (top o m (Ql ii d)) (l++(Qk ii t)) vv v W ww) ⟨v,hr1.ev,PS.cast ps1 rfl QKqJ⟩ (fun i1 hi1 b1 u1 hI1=> ?_) (fun b1 u1 hI1=> ?_)
 · obtain ⟨v1,he1,hP1⟩:=hI1
   have hst1_:=he1.st u1
   have bn1:0≤(top o m (Ql i1 d))∧(top o m (Ql i1 d))≤1000:=top_le HZ.ho QYen HZ.m.1 HZ.m.2
   have htst1:decide (((i1:Nat):Int)<((n:Nat):Int))=true:=by simp;omega
   obtain ⟨eb2,eo2,ed2,es2,eq2,el2,em2,ep2,er2⟩:=hv.at (i:=(i1)) hi1
   have pp2:=ep2
   obtain ⟨y2,rfl⟩:=fv3 pp2
   let x2x:Fr:=[(20,.v (fv9 es i1 y2)),(19,.v (.func (Fn.func f) first.toArray caps.toArray)),(qo3 i1),(qo2 n),(qo4 A n c),x1x,(qo1 b)]
   have hj1: ∀ z,decide ((0:Int)<((i1:Nat):Int))=z→(Qk i1 t).length+((if z=true then 2 else 0)+(t i1).length)≤(Qk n t).length:=joinN_step hi1
   have hd1:d i1≤Ql n d:=KV hi1
   have F1:=JE u1 htst1
   have F2:=sd u1 (Qb.elemA (t:=fv4) (e:=fv5) (size:=fv6) (i:=(i1)) (k:=.i64) eq2 fv7 Qd hi1)
   have F3:=fv8 (es:=es) (i:=i1) y2 (Qz er2 (.below hP1.bl)) (Nat.lt_of_lt_of_le el2 hP1.bl.size)
   obtain ⟨z4,hz4⟩: ∃ z,(decide (0<((i1:Nat):Int)))=z:=⟨_,rfl⟩
   have F5:=nGt u1 hz4
   cases z4
   · refine gO (Qn KP 0) (.op 5 2) x2x [bx (fv10 es i1 y2)] hst1_ (Jf F1 F2 F3 F5) fun G3 a3 w3 hst3 _=> ?_
     have hb3:=hst3.rp.below
     have ps3:=hP1.seg hb3
     refine Jm (d:=21) (fv:=.v (.func (Fn.func f) first.toArray caps.toArray)) (vs:=[.v (fv9 es i1 y2)]) (f:=f) (first:=first) (caps:=caps) (k':=Qc (Qn KP 0) (.op 5 3)) [(qo3 i1),(qo2 n),(qo4 A n c),x1x,(qo1 b)] (first++([fv9 es i1 y2]:List Value)++caps) hst3 Qv rfl ent rfl rfl (HF i1 hi1 _ pp2 _ _ _ _ ps3.bl ps3.wr ps3.ws (HZ.of QnC3 bn1 QS6D)) fun e u3 hp3=> ?_
     obtain ⟨rfl,v3,hw3,hs3⟩:=hp3
     refine ⟨_,rfl,fun b3 he3=> ?_⟩
     have pt3:PS D b o (top o (top o m (Ql i1 d)) ((d i1))) ((l++(Qk i1 t))++(t i1)) v3 v W u3:=ps3.call hw3 hs3
     have bn3:0≤(top o (top o m (Ql i1 d)) ((d i1)))∧(top o (top o m (Ql i1 d)) ((d i1)))≤1000:=top_le HZ.ho QpvY bn1.1 bn1.2
     have hsu3:=he3.st u3
     have F6:=sd u3 (Qb.inc (t:=3) (i:=i1) (by omega))
     refine gF .nrm [(qo7 i1),(qo2 n),(qo4 A n c),x1x,(qo1 b)] [] hsu3 (Zg F6) fun g0 a0 w0 h0 _=>⟨_,RC.St.ev (l:=[(qo8 i1),(qo6 n),(8,.slice A n c),(2,.func (Fn.func f) first.toArray caps.toArray),(qo9 b)]) h0,PS.cast (pt3.seg h0.rp.below) (by first | rfl | (rw [Qr];rfl)) QpjD⟩
   have kq4:=(QZ.nil:QZ b v1 u1 [])
   refine pW0 (txt:=[44,32]) (.op 4 1) 18 104 (Qc (Qn KP 0) (.op 4 1)) (Qc (Qn KP 0) (.op 4 2)) [(17,.v (.pointer (qo5 b))),(qo3 i1),(qo2 n),(qo4 A n c),(7,.p 0 0),x1x,(qo1 b)] [bx (fv10 es i1 y2)] [(qo3 i1),(qo2 n),(qo4 A n c),(7,.p 0 0),x1x,(qo1 b)] [.v (.pointer (qo5 b)),.v (.string ⟨#[44,32]⟩)] hst1_ (Jf F1 F2 F3 F5) hP1 kq4 func104 (fun G5 w5 ps5 kb5=>(QJ ps5.wr _ [44,32] rfl (HZ.of ZO bn1 QS6D))) fun G5 ll5 v5 b5 u5 el5 hsu5 pt5 kb5=> ?_
   have F7:=kb5.row 0 (t:=fv5) rfl Qd Qd
   refine gO (Qn KP 0) (.op 5 2) x2x [] hsu5 (Zg F7) fun G6 a6 w6 hst6 _=> ?_
   have hb6:=hst6.rp.below
   have ps6:=pt5.seg hb6
   have kb6_0:=(kb5.at 0 rfl).seg hb6
   refine Jm (d:=21) (fv:=.v (.func (Fn.func f) first.toArray caps.toArray)) (vs:=[.v (fv9 es i1 y2)]) (f:=f) (first:=first) (caps:=caps) (k':=Qc (Qn KP 0) (.op 5 3)) [(qo3 i1),(qo2 n),(qo4 A n c),x1x,(qo1 b)] (first++([fv9 es i1 y2]:List Value)++caps) hst6 Qv rfl ent rfl rfl (HF i1 hi1 _ pp2 _ _ _ _ ps6.bl ps6.wr ps6.ws (HZ.of QnC3 bn1 QkHd)) fun e u6 hp6=> ?_
   obtain ⟨rfl,v6,hw6,hs6⟩:=hp6
   refine ⟨_,rfl,fun b6 he6=> ?_⟩
   have pt6:PS D b o (top o (top o m (Ql i1 d)) ((d i1))) (ll5++(t i1)) v6 v W u6:=ps6.call hw6 hs6
   have bn6:0≤(top o (top o m (Ql i1 d)) ((d i1)))∧(top o (top o m (Ql i1 d)) ((d i1)))≤1000:=top_le HZ.ho QpvY bn1.1 bn1.2
   have kb6_0t:=kb6_0.call hs6
   have hsu6:=he6.st u6
   have F8:=sd u6 (Qb.inc (t:=3) (i:=i1) (by omega))
   refine gF .nrm [(qo7 i1),(qo2 n),(qo4 A n c),x1x,(qo1 b)] [] hsu6 (Zg F8) fun g0 a0 w0 h0 _=>⟨_,RC.St.ev (l:=[(qo8 i1),(qo6 n),(8,.slice A n c),(2,.func (Fn.func f) first.toArray caps.toArray),(qo9 b)]) h0,PS.cast (pt6.seg h0.rp.below) QxtV QMia⟩
 obtain ⟨v1,he1,hP1⟩:=hI1
 have hst1_:=he1.st u1
 have bn1:0≤(top o m (Ql n d))∧(top o m (Ql n d))≤1000:=top_le HZ.ho QTe4 HZ.m.1 HZ.m.2
 have htst1e:decide (((n:Nat):Int)<((n:Nat):Int))=false:=by simp
 have F9:=JE u1 htst1e
 refine gF (.ex 0) [(qo2 n),(qo4 A n c),x1x,(qo1 b)] [] hst1_ (Zg F9) fun G7 a7 w7 hst7 _=>brk ?_
 have hb7:=hst7.rp.below
 have ps7:=hP1.seg hb7
 have hsr7:=hst7.reb
 exact QtUy
 ):p:=h
namespace fVd90
noncomputable abbrev KP:= @cL_Expr
abbrev fv2:= @func110
abbrev fv3:= @opn_Expr
abbrev fv4:Nat:=32
abbrev fv5:Nat:=34
abbrev fv6:Nat:=10
abbrev fv7:= @underlying32
abbrev fv8:= @ld_Expr
abbrev fv9:= @el_Expr
abbrev fv10:= @cl_Expr
end fVd90
open fVd90 in
theorem JJ {D:World} {b:Nat} {o m:Int} {l:List UInt8} {v:Value} {W:World} (hD:Below D.heap.size D W) (h:Wr D.heap.size b o m l v W) {n:Nat} {x:Value} {es:Nat→E} (hv:QR D 10 120 n x fun i cs=>QI D (es i) cs) (f:Nat) (ent:Ent prog f) (first caps:List Value) (t:Nat→List UInt8) (d:Nat→Nat) (HZ:Pz o m (Ql n d) l (Qk n t))
 (HF: ∀ i,i<n→ ∀ cs,(QI D (es i) cs)→ ∀ m' l' v' W',Below D.heap.size D W'→Wr D.heap.size b o m' l' v' W'→WS b v v' W W'→Pz o m' (d i) l' (t i)→PrC D b o m' l' v' W' f (first++[Value.agg cs.toArray]++caps).toArray (t i) (d i)) :
 PrC D b o m l v W 110 #[.pointer (some ⟨b,0,none⟩),x,.func (Fn.func f) first.toArray caps.toArray] (Qk n t) (Ql n d):=fMVd9
noncomputable abbrev cL_Tx:Code:=Qt f172
abbrev cl_Tx (es:Nat→ByteArray) (i:Nat) (y:Unit):List Value:=[.string (es i)]
abbrev el_Tx (es:Nat→ByteArray) (i:Nat) (y:Unit):Value:=.string (es i)
theorem opn_Tx {es:Nat→ByteArray} {i:Nat} {cs:List Value} (h:cs=[.string (es i)]∧(es i).size≤9223372036854775807): ∃ y,cs=cl_Tx es i y:=by
 exact ⟨(),h.1⟩
theorem ld_Tx {W:World} {b o:Nat} {es:Nat→ByteArray} {i:Nat} (y:Unit) (h:W.rangeAt b o (cl_Tx es i y)) (hb:b<W.heap.size):Sd W (.get 9 (.pointer (some ⟨b,o,none⟩)) (el_Tx es i y)):=Qb.cellAt (d:=0) (by kernel_rfl) h rfl hb (Nat.le_refl _)
theorem fMVd10 {p:Prop} (h:p:=by
 let x1x:Nat × RV:=(2,.v (.func (Fn.func f) first.toArray caps.toArray))
 obtain ⟨A,c,rfl⟩:=hv.form
 have hn:=hv.len
 have ps0:=PS.start h hD
 refine Qj (args:=[.pointer (qo5 b),.slice A n c,.func (Fn.func f) first.toArray caps.toArray]) (c:=KP) fv2 rfl (by kernel_rfl) fun a0 hst=> ?_
 refine gO KP (.loop 0) [(10,.v (.int .i64 ((0:Nat):Int))),(qo2 n),(qo4 A n c),x1x,(qo1 b)] [] hst Zk fun G1 a1 w1 hst1 _=> ?_
 have hb1:=hst1.rp.below
 have ps1:=ps0.seg hb1
 have hr1:=hst1.reb
 refine Kt KP 0 Qv (n) (fun ii aa ww=> ∃ vv,EV _ ((10,.int .i64 ((ii:Nat):Int))::[(qo6 n),(8,.slice A n c),(2,.func (Fn.func f) first.toArray caps.toArray),(qo9 b)]) aa∧PS D b o (top o m (Ql ii d)) (l++(Qk ii t)) vv v W ww) ⟨v,hr1.ev,PS.cast ps1 rfl QKqJ⟩ (fun i1 hi1 b1 u1 hI1=> ?_) (fun b1 u1 hI1=> ?_)
 · obtain ⟨v1,he1,hP1⟩:=hI1
   have hst1_:=he1.st u1
   have bn1:0≤(top o m (Ql i1 d))∧(top o m (Ql i1 d))≤1000:=top_le HZ.ho QYen HZ.m.1 HZ.m.2
   have htst1:decide (((i1:Nat):Int)<((n:Nat):Int))=true:=by simp;omega
   obtain ⟨eb2,eo2,ed2,es2,eq2,el2,em2,ep2,er2⟩:=hv.at (i:=(i1)) hi1
   have pp2:=ep2
   obtain ⟨y2,rfl⟩:=fv3 pp2
   let x2x:Fr:=[(20,.v (fv8 es i1 y2)),(19,.v (.func (Fn.func f) first.toArray caps.toArray)),(qo3 i1),(qo2 n),(qo4 A n c),x1x,(qo1 b)]
   have hj1: ∀ z,decide ((0:Int)<((i1:Nat):Int))=z→(Qk i1 t).length+((if z=true then 2 else 0)+(t i1).length)≤(Qk n t).length:=joinN_step hi1
   have hd1:d i1≤Ql n d:=KV hi1
   have F1:=JE u1 htst1
   have F2:=sd u1 (Qb.elemA (t:=fv4) (e:=fv5) (size:=1) (i:=(i1)) (k:=.i64) eq2 fv6 Qd hi1)
   have F3:=fv7 (es:=es) (i:=i1) y2 (Qz er2 (.below hP1.bl)) (Nat.lt_of_lt_of_le el2 hP1.bl.size)
   obtain ⟨z4,hz4⟩: ∃ z,(decide (0<((i1:Nat):Int)))=z:=⟨_,rfl⟩
   have F5:=nGt u1 hz4
   cases z4
   · refine gO (Qn KP 0) (.op 5 2) x2x [] hst1_ (Jf F1 F2 F3 F5) fun G3 a3 w3 hst3 _=> ?_
     have hb3:=hst3.rp.below
     have ps3:=hP1.seg hb3
     refine Jm (d:=21) (fv:=.v (.func (Fn.func f) first.toArray caps.toArray)) (vs:=[.v (fv8 es i1 y2)]) (f:=f) (first:=first) (caps:=caps) (k':=Qc (Qn KP 0) (.op 5 3)) [(qo3 i1),(qo2 n),(qo4 A n c),x1x,(qo1 b)] (first++([fv8 es i1 y2]:List Value)++caps) hst3 Qv rfl ent rfl rfl (HF i1 hi1 _ pp2 _ _ _ _ ps3.bl ps3.wr ps3.ws (HZ.of QnC3 bn1 QS6D)) fun e u3 hp3=> ?_
     obtain ⟨rfl,v3,hw3,hs3⟩:=hp3
     refine ⟨_,rfl,fun b3 he3=> ?_⟩
     have pt3:PS D b o (top o (top o m (Ql i1 d)) ((d i1))) ((l++(Qk i1 t))++(t i1)) v3 v W u3:=ps3.call hw3 hs3
     have bn3:0≤(top o (top o m (Ql i1 d)) ((d i1)))∧(top o (top o m (Ql i1 d)) ((d i1)))≤1000:=top_le HZ.ho QpvY bn1.1 bn1.2
     have hsu3:=he3.st u3
     have F6:=sd u3 (Qb.inc (t:=3) (i:=i1) (by omega))
     refine gF .nrm [(qo7 i1),(qo2 n),(qo4 A n c),x1x,(qo1 b)] [] hsu3 (Zg F6) fun g0 a0 w0 h0 _=>⟨_,RC.St.ev (l:=[(qo8 i1),(qo6 n),(8,.slice A n c),(2,.func (Fn.func f) first.toArray caps.toArray),(qo9 b)]) h0,PS.cast (pt3.seg h0.rp.below) (by first | rfl | (rw [Qr];rfl)) QpjD⟩
   have kq4:=(QZ.nil:QZ b v1 u1 [])
   refine pW0 (txt:=[44,32]) (.op 4 1) 18 104 (Qc (Qn KP 0) (.op 4 1)) (Qc (Qn KP 0) (.op 4 2)) [(17,.v (.pointer (qo5 b))),(qo3 i1),(qo2 n),(qo4 A n c),(7,.v (fv8 es i1 y2)),x1x,(qo1 b)] [] [(qo3 i1),(qo2 n),(qo4 A n c),(7,.v (fv8 es i1 y2)),x1x,(qo1 b)] [.v (.pointer (qo5 b)),.v (.string ⟨#[44,32]⟩)] hst1_ (Jf F1 F2 F3 F5) hP1 kq4 func104 (fun G5 w5 ps5 kb5=>(QJ ps5.wr _ [44,32] rfl (HZ.of ZO bn1 QS6D))) fun G5 ll5 v5 b5 u5 el5 hsu5 pt5 kb5=> ?_
   refine gO (Qn KP 0) (.op 5 2) x2x [] hsu5 Zk fun G6 a6 w6 hst6 _=> ?_
   have hb6:=hst6.rp.below
   have ps6:=pt5.seg hb6
   refine Jm (d:=21) (fv:=.v (.func (Fn.func f) first.toArray caps.toArray)) (vs:=[.v (fv8 es i1 y2)]) (f:=f) (first:=first) (caps:=caps) (k':=Qc (Qn KP 0) (.op 5 3)) [(qo3 i1),(qo2 n),(qo4 A n c),x1x,(qo1 b)] (first++([fv8 es i1 y2]:List Value)++caps) hst6 Qv rfl ent rfl rfl (HF i1 hi1 _ pp2 _ _ _ _ ps6.bl ps6.wr ps6.ws (HZ.of QnC3 bn1 QkHd)) fun e u6 hp6=> ?_
   obtain ⟨rfl,v6,hw6,hs6⟩:=hp6
   refine ⟨_,rfl,fun b6 he6=> ?_⟩
   have pt6:PS D b o (top o (top o m (Ql i1 d)) ((d i1))) (ll5++(t i1)) v6 v W u6:=ps6.call hw6 hs6
   have bn6:0≤(top o (top o m (Ql i1 d)) ((d i1)))∧(top o (top o m (Ql i1 d)) ((d i1)))≤1000:=top_le HZ.ho QpvY bn1.1 bn1.2
   have hsu6:=he6.st u6
   have F7:=sd u6 (Qb.inc (t:=3) (i:=i1) (by omega))
   refine gF .nrm [(qo7 i1),(qo2 n),(qo4 A n c),x1x,(qo1 b)] [] hsu6 (Zg F7) fun g0 a0 w0 h0 _=>⟨_,RC.St.ev (l:=[(qo8 i1),(qo6 n),(8,.slice A n c),(2,.func (Fn.func f) first.toArray caps.toArray),(qo9 b)]) h0,PS.cast (pt6.seg h0.rp.below) QxtV QMia⟩
 obtain ⟨v1,he1,hP1⟩:=hI1
 have hst1_:=he1.st u1
 have bn1:0≤(top o m (Ql n d))∧(top o m (Ql n d))≤1000:=top_le HZ.ho QTe4 HZ.m.1 HZ.m.2
 have htst1e:decide (((n:Nat):Int)<((n:Nat):Int))=false:=by simp
 have F8:=JE u1 htst1e
 refine gF (.ex 0) [(qo2 n),(qo4 A n c),x1x,(qo1 b)] [] hst1_ (Zg F8) fun G7 a7 w7 hst7 _=>brk ?_
 have hb7:=hst7.rp.below
 have ps7:=hP1.seg hb7
 have hsr7:=hst7.reb
 exact QtUy
 ):p:=h
namespace fVd100
noncomputable abbrev KP:= @cL_Tx
abbrev fv2:= @func172
abbrev fv3:= @opn_Tx
abbrev fv4:Nat:=27
abbrev fv5:Nat:=9
abbrev fv6:= @underlying27
abbrev fv7:= @ld_Tx
abbrev fv8:= @el_Tx
end fVd100
open fVd100 in
theorem list_Tx_pr {D:World} {b:Nat} {o m:Int} {l:List UInt8} {v:Value} {W:World} (hD:Below D.heap.size D W) (h:Wr D.heap.size b o m l v W) {n:Nat} {x:Value} {es:Nat→ByteArray} (hv:QR D 1 16 n x fun i cs=>cs=[.string (es i)]∧(es i).size≤9223372036854775807) (f:Nat) (ent:Ent prog f) (first caps:List Value) (t:Nat→List UInt8) (d:Nat→Nat) (HZ:Pz o m (Ql n d) l (Qk n t))
 (HF: ∀ i,i<n→ ∀ x,([x]=[.string (es i)]∧(es i).size≤9223372036854775807)→ ∀ m' l' v' W',Below D.heap.size D W'→Wr D.heap.size b o m' l' v' W'→WS b v v' W W'→Pz o m' (d i) l' (t i)→PrC D b o m' l' v' W' f (first++[x]++caps).toArray (t i) (d i)) :
 PrC D b o m l v W 172 #[.pointer (some ⟨b,0,none⟩),x,.func (Fn.func f) first.toArray caps.toArray] (Qk n t) (Ql n d):=fMVd10
noncomputable abbrev cL_Column:Code:=Qt f168
abbrev cl_Column (es:Nat→Co) (i:Nat) (y:Unit):List Value:=[.string (es i).nm,.int .i64 (es i).ty,.bool (es i).nn]
abbrev el_Column (es:Nat→Co) (i:Nat) (y:Unit):Value:=.agg (cl_Column es i y).toArray
theorem opn_Column {es:Nat→Co} {i:Nat} {cs:List Value} (h:CoIn (es i) cs): ∃ y,cs=cl_Column es i y:=by
 exact ⟨(),h.1⟩
theorem ld_Column {W:World} {b o:Nat} {es:Nat→Co} {i:Nat} (y:Unit) (h:W.rangeAt b o (cl_Column es i y)) (hb:b<W.heap.size):Sd W (.get 105 (.pointer (some ⟨b,o,none⟩)) (el_Column es i y)):=Qb.row (by kernel_rfl) (by kernel_rfl) h hb (Nat.le_refl _)
namespace fVd91
noncomputable abbrev KP:= @cL_Column
abbrev fv2:= @func168
abbrev fv3:= @opn_Column
abbrev fv4:Nat:=22
abbrev fv5:Nat:=105
abbrev fv6:Nat:=3
abbrev fv7:= @underlying22
abbrev fv8:= @ld_Column
abbrev fv9:= @el_Column
abbrev fv10:= @cl_Column
end fVd91
open fVd91 in
theorem list_Column_pr {D:World} {b:Nat} {o m:Int} {l:List UInt8} {v:Value} {W:World} (hD:Below D.heap.size D W) (h:Wr D.heap.size b o m l v W) {n:Nat} {x:Value} {es:Nat→Co} (hv:QR D 3 32 n x fun i cs=>CoIn (es i) cs) (f:Nat) (ent:Ent prog f) (first caps:List Value) (t:Nat→List UInt8) (d:Nat→Nat) (HZ:Pz o m (Ql n d) l (Qk n t))
 (HF: ∀ i,i<n→ ∀ cs,(CoIn (es i) cs)→ ∀ m' l' v' W',Below D.heap.size D W'→Wr D.heap.size b o m' l' v' W'→WS b v v' W W'→Pz o m' (d i) l' (t i)→PrC D b o m' l' v' W' f (first++[Value.agg cs.toArray]++caps).toArray (t i) (d i)) :
 PrC D b o m l v W 168 #[.pointer (some ⟨b,0,none⟩),x,.func (Fn.func f) first.toArray caps.toArray] (Qk n t) (Ql n d):=fMVd9
noncomputable abbrev cL_Item:Code:=Qt f174
abbrev cl_Item (es:Nat→It) (i:Nat) (y:EC):List Value:=[.bool (es i).star,.int .i64 y.k,.int .i64 y.o,.int .i64 y.vk,.int .i64 y.vn,.string y.vt,.string y.tb,.string y.nm,.slice y.A y.n y.c,.int .i64 y.pl,.int .i64 y.ty,.string (es i).nm]
abbrev el_Item (es:Nat→It) (i:Nat) (y:EC):Value:=.agg (cl_Item es i y).toArray
theorem opn_Item {W:World} {es:Nat→It} {i:Nat} {cs:List Value} (h:ItIn W (es i) cs): ∃ y,cs=cl_Item es i y:=by
 obtain ⟨_,ds,rfl,h⟩:=h
 obtain ⟨k,o,vk,vn,vt,tb,nm,A,n,c,pl,ty,rfl⟩:=h.form
 exact QpAp
theorem ld_Item {W:World} {b o:Nat} {es:Nat→It} {i:Nat} (y:EC) (h:W.rangeAt b o (cl_Item es i y)) (hb:b<W.heap.size):Sd W (.get 63 (.pointer (some ⟨b,o,none⟩)) (el_Item es i y)):=Qb.row (by kernel_rfl) (by kernel_rfl) h hb (Nat.le_refl _)
namespace fVd92
noncomputable abbrev KP:= @cL_Item
abbrev fv2:= @func174
abbrev fv3:= @opn_Item
abbrev fv4:Nat:=35
abbrev fv5:Nat:=63
abbrev fv6:Nat:=12
abbrev fv7:= @underlying35
abbrev fv8:= @ld_Item
abbrev fv9:= @el_Item
abbrev fv10:= @cl_Item
end fVd92
open fVd92 in
theorem list_Item_pr {D:World} {b:Nat} {o m:Int} {l:List UInt8} {v:Value} {W:World} (hD:Below D.heap.size D W) (h:Wr D.heap.size b o m l v W) {n:Nat} {x:Value} {es:Nat→It} (hv:QR D 12 144 n x fun i cs=>ItIn D (es i) cs) (f:Nat) (ent:Ent prog f) (first caps:List Value) (t:Nat→List UInt8) (d:Nat→Nat) (HZ:Pz o m (Ql n d) l (Qk n t))
 (HF: ∀ i,i<n→ ∀ cs,(ItIn D (es i) cs)→ ∀ m' l' v' W',Below D.heap.size D W'→Wr D.heap.size b o m' l' v' W'→WS b v v' W W'→Pz o m' (d i) l' (t i)→PrC D b o m' l' v' W' f (first++[Value.agg cs.toArray]++caps).toArray (t i) (d i)) :
 PrC D b o m l v W 174 #[.pointer (some ⟨b,0,none⟩),x,.func (Fn.func f) first.toArray caps.toArray] (Qk n t) (Ql n d):=fMVd9
noncomputable abbrev cL_Es:Code:=Qt f106
abbrev cl_Es (es:Nat→Es) (i:Nat) (y:AC):List Value:=[.slice y.A (es i).n y.c]
abbrev el_Es (es:Nat→Es) (i:Nat) (y:AC):Value:=.slice y.A (es i).n y.c
theorem opn_Es {W:World} {es:Nat→Es} {i:Nat} {cs:List Value} (h: ∃ v,cs=[v]∧Z6 W (es i).n (es i).f v): ∃ y,cs=cl_Es es i y:=by
 obtain ⟨v,rfl,h⟩:=h
 obtain ⟨A,c,rfl⟩:=h.form
 exact ⟨⟨A,c⟩,rfl⟩
theorem ld_Es {W:World} {b o:Nat} {es:Nat→Es} {i:Nat} (y:AC) (h:W.rangeAt b o (cl_Es es i y)) (hb:b<W.heap.size):Sd W (.get 32 (.pointer (some ⟨b,o,none⟩)) (el_Es es i y)):=Qb.cellAt (d:=0) (by kernel_rfl) h rfl hb (Nat.le_refl _)
namespace fVd101
noncomputable abbrev KP:= @cL_Es
abbrev fv2:= @func106
abbrev fv3:= @opn_Es
abbrev fv4:Nat:=28
abbrev fv5:Nat:=32
abbrev fv6:= @underlying28
abbrev fv7:= @ld_Es
abbrev fv8:= @el_Es
end fVd101
open fVd101 in
theorem list_Es_pr {D:World} {b:Nat} {o m:Int} {l:List UInt8} {v:Value} {W:World} (hD:Below D.heap.size D W) (h:Wr D.heap.size b o m l v W) {n:Nat} {x:Value} {es:Nat→Es} (hv:QR D 1 24 n x fun i cs=> ∃ v,cs=[v]∧Z6 D (es i).n (es i).f v) (f:Nat) (ent:Ent prog f) (first caps:List Value) (t:Nat→List UInt8) (d:Nat→Nat) (HZ:Pz o m (Ql n d) l (Qk n t))
 (HF: ∀ i,i<n→ ∀ x,(∃ v,[x]=[v]∧Z6 D (es i).n (es i).f v)→ ∀ m' l' v' W',Below D.heap.size D W'→Wr D.heap.size b o m' l' v' W'→WS b v v' W W'→Pz o m' (d i) l' (t i)→PrC D b o m' l' v' W' f (first++[x]++caps).toArray (t i) (d i)) :
 PrC D b o m l v W 106 #[.pointer (some ⟨b,0,none⟩),x,.func (Fn.func f) first.toArray caps.toArray] (Qk n t) (Ql n d):=fMVd10
noncomputable abbrev cL_Set:Code:=Qt f111
abbrev cl_Set (es:Nat→Go.Proofs.YtddedijencleeaaGreatDoor.St) (i:Nat) (y:EC):List Value:=[.string (es i).nm,.int .i64 y.k,.int .i64 y.o,.int .i64 y.vk,.int .i64 y.vn,.string y.vt,.string y.tb,.string y.nm,.slice y.A y.n y.c,.int .i64 y.pl,.int .i64 y.ty]
abbrev el_Set (es:Nat→Go.Proofs.YtddedijencleeaaGreatDoor.St) (i:Nat) (y:EC):Value:=.agg (cl_Set es i y).toArray
theorem opn_Set {W:World} {es:Nat→Go.Proofs.YtddedijencleeaaGreatDoor.St} {i:Nat} {cs:List Value} (h:StIn W (es i) cs): ∃ y,cs=cl_Set es i y:=by
 obtain ⟨_,ds,rfl,h⟩:=h
 obtain ⟨k,o,vk,vn,vt,tb,nm,A,n,c,pl,ty,rfl⟩:=h.form
 exact QpAp
theorem ld_Set {W:World} {b o:Nat} {es:Nat→Go.Proofs.YtddedijencleeaaGreatDoor.St} {i:Nat} (y:EC) (h:W.rangeAt b o (cl_Set es i y)) (hb:b<W.heap.size):Sd W (.get 61 (.pointer (some ⟨b,o,none⟩)) (el_Set es i y)):=Qb.row (by kernel_rfl) (by kernel_rfl) h hb (Nat.le_refl _)
namespace fVd93
noncomputable abbrev KP:= @cL_Set
abbrev fv2:= @func111
abbrev fv3:= @opn_Set
abbrev fv4:Nat:=29
abbrev fv5:Nat:=61
abbrev fv6:Nat:=11
abbrev fv7:= @underlying29
abbrev fv8:= @ld_Set
abbrev fv9:= @el_Set
abbrev fv10:= @cl_Set
end fVd93
open fVd93 in
theorem list_Set_pr {D:World} {b:Nat} {o m:Int} {l:List UInt8} {v:Value} {W:World} (hD:Below D.heap.size D W) (h:Wr D.heap.size b o m l v W) {n:Nat} {x:Value} {es:Nat→Go.Proofs.YtddedijencleeaaGreatDoor.St} (hv:QR D 11 136 n x fun i cs=>StIn D (es i) cs) (f:Nat) (ent:Ent prog f) (first caps:List Value) (t:Nat→List UInt8) (d:Nat→Nat) (HZ:Pz o m (Ql n d) l (Qk n t))
 (HF: ∀ i,i<n→ ∀ cs,(StIn D (es i) cs)→ ∀ m' l' v' W',Below D.heap.size D W'→Wr D.heap.size b o m' l' v' W'→WS b v v' W W'→Pz o m' (d i) l' (t i)→PrC D b o m' l' v' W' f (first++[Value.agg cs.toArray]++caps).toArray (t i) (d i)) :
 PrC D b o m l v W 111 #[.pointer (some ⟨b,0,none⟩),x,.func (Fn.func f) first.toArray caps.toArray] (Qk n t) (Ql n d):=fMVd9
noncomputable abbrev cL_Order:Code:=Qt f177
abbrev cl_Order (es:Nat→Od) (i:Nat) (y:EC):List Value:=[.int .i64 y.k,.int .i64 y.o,.int .i64 y.vk,.int .i64 y.vn,.string y.vt,.string y.tb,.string y.nm,.slice y.A y.n y.c,.int .i64 y.pl,.int .i64 y.ty,.bool (es i).desc]
abbrev el_Order (es:Nat→Od) (i:Nat) (y:EC):Value:=.agg (cl_Order es i y).toArray
theorem opn_Order {W:World} {es:Nat→Od} {i:Nat} {cs:List Value} (h:OdIn W (es i) cs): ∃ y,cs=cl_Order es i y:=by
 obtain ⟨ds,rfl,h⟩:=h
 obtain ⟨k,o,vk,vn,vt,tb,nm,A,n,c,pl,ty,rfl⟩:=h.form
 exact QpAp
theorem ld_Order {W:World} {b o:Nat} {es:Nat→Od} {i:Nat} (y:EC) (h:W.rangeAt b o (cl_Order es i y)) (hb:b<W.heap.size):Sd W (.get 67 (.pointer (some ⟨b,o,none⟩)) (el_Order es i y)):=Qb.row (by kernel_rfl) (by kernel_rfl) h hb (Nat.le_refl _)
namespace fVd94
noncomputable abbrev KP:= @cL_Order
abbrev fv2:= @func177
abbrev fv3:= @opn_Order
abbrev fv4:Nat:=37
abbrev fv5:Nat:=67
abbrev fv6:Nat:=11
abbrev fv7:= @underlying37
abbrev fv8:= @ld_Order
abbrev fv9:= @el_Order
abbrev fv10:= @cl_Order
end fVd94
open fVd94 in
theorem list_Order_pr {D:World} {b:Nat} {o m:Int} {l:List UInt8} {v:Value} {W:World} (hD:Below D.heap.size D W) (h:Wr D.heap.size b o m l v W) {n:Nat} {x:Value} {es:Nat→Od} (hv:QR D 11 128 n x fun i cs=>OdIn D (es i) cs) (f:Nat) (ent:Ent prog f) (first caps:List Value) (t:Nat→List UInt8) (d:Nat→Nat) (HZ:Pz o m (Ql n d) l (Qk n t))
 (HF: ∀ i,i<n→ ∀ cs,(OdIn D (es i) cs)→ ∀ m' l' v' W',Below D.heap.size D W'→Wr D.heap.size b o m' l' v' W'→WS b v v' W W'→Pz o m' (d i) l' (t i)→PrC D b o m' l' v' W' f (first++[Value.agg cs.toArray]++caps).toArray (t i) (d i)) :
 PrC D b o m l v W 177 #[.pointer (some ⟨b,0,none⟩),x,.func (Fn.func f) first.toArray caps.toArray] (Qk n t) (Ql n d):=fMVd9
end
end Go.Proofs.YtddedijencleeaaGreatDoor

/- More facts for walks: differences and rests of lengths, rows from their second element on. No program's code. -/
set_option linter.all false
namespace Go.Proofs.YtddedijencleeaaGreatDoor
open Go.RowKit Go.Lib RC
section
variable {P:Program} {N:Nat} {W:World}
theorem wrap_nat (n:Nat) (h:n≤9223372036854775807):IntKind.wrap .i64 (n:Int)=(n:Int):=by
 unfold IntKind.wrap
 have e1:(2 ^ IntKind.i64.bits:Int)=18446744073709551616:=by decide
 have e2:(2 ^ (IntKind.i64.bits - 1):Int)=9223372036854775808:=by decide
 rw [e1,e2]
 have e3:(n:Int) % 18446744073709551616=(n:Int):=by rw [Int.emod_eq_of_lt] <;> omega
 simp only [e3]
 rw [if_neg]
 simp only [Bool.and_eq_true,decide_eq_true_eq,not_and]
 intro _
 omega
theorem Qb.subI {t:TypeId} {k:IntKind} {a b c:Int} (h:k.wrap (a - b)=c):Qb.ok P N W (.bin .sub t (.int k a) (.int k b) (.int k c)):=fun ox oy w=>by
 rw [Sem.run_bind,JL];simp [binOp,Op.intArith,h]
theorem Qb.subN {t:TypeId} {a b:Nat} (h:b≤a) (ha:a≤9223372036854775807):Qb.ok P N W (.bin .sub t (.int .i64 (a:Int)) (.int .i64 (b:Int)) (.int .i64 ((a - b:Nat):Int))):=Qb.subI (by
 rw [show (a:Int) - (b:Int)=((a - b:Nat):Int) by omega]
 exact wrap_nat _ (by omega))
theorem Qb.remN {t:TypeId} {a b:Nat} (hb:0<b) (ha:a≤9223372036854775807) (hb2:b≤9223372036854775807):Qb.ok P N W (.bin .rem t (.int .i64 (a:Int)) (.int .i64 (b:Int)) (.int .i64 ((a % b:Nat):Int))):=fun ox oy w=>by
 have h0:(b:Int)≠0:=by omega
 have h1:(a:Int).tmod (b:Int)=((a % b:Nat):Int):=by rw [Int.tmod_eq_emod_of_nonneg (by omega)];rfl
 have h2:=wrap_nat (a % b) (by have:=Nat.mod_lt a hb;omega)
 have hb0: ¬ b=0:=by omega
 rw [Sem.run_bind,JL];simp [binOp,Op.intDiv,hb0]
 exact h1
theorem cutOne {D:World} {size bytes n c:Nat} {A:Option Addr} {PP:Nat→List Value→Prop} (h:QR D size bytes n (.slice A n c) PP) (h2:2≤n) {t e:TypeId} (hu:P.underlying t=some (.slice e)) (hs:sizT P e=some size) :
 ∃ A',(∀ N W,Qb.ok P N W (.cut t (.slice A n c) (some (.int .i64 1)) none none (.slice A' (n - 1) (c - 1))))∧QR D size bytes (n - 1) (.slice A' (n - 1) (c - 1)) fun i ds=>PP (i+1) ds:=by
 obtain ⟨A0,c0,hv,h3,h4,h5,h6⟩:=h
 cases hv
 obtain ⟨b,o,rfl,hb,hcs⟩:=h6 (by omega)
 refine ⟨some ⟨b,o+1*size,none⟩,fun N W w _=> ?_,some ⟨b,o+1*size,none⟩,c - 1,rfl,by omega,by omega,Nat.le_trans (Nat.mul_le_mul_right _ (by omega)) h5,fun _=>⟨b,o+1*size,rfl,hb,fun i hi=> ?_⟩⟩
 · have hc1: ¬ c=1:=by omega
   have hn1:(1:Int)≤(n:Int):=by omega
   simp [Instr.sliceAt,run_underlying hu,Instr.slice,Instr.sliceBounds,Instr.sliceBound,asIntOf,hn1,Jo hs,hc1,Addr.add_at]
 obtain ⟨cs,q1,q2,q3,q4⟩:=hcs (i+1) (by omega)
 refine ⟨cs,q1,q2,q3,?_⟩
 rw [show o+1*size+i*size=o+(i+1)*size by rw [Nat.add_mul];omega]
 exact q4
end
theorem joinW {P:Program} {Q:Exit→Act→World→Prop} {k k':List K} {a0:Act} {w0:World} (I:Act→World→Prop) (h1: ∀ a w,I a w→ZZ P Q k' .normal a w) (h2:(∀ a w,I a w→ZZ P Q k' .normal a w)→ZZ P Q k .normal a0 w0):ZZ P Q k .normal a0 w0:=h2 h1
theorem ifOdd {α:Type} {n:Nat} {z:Bool} {a b:α} (h:(((n % 2:Nat):Int)==1)=z):(if n % 2=1 then a else b)=if z=true then a else b:=by
 subst h
 by_cases e:n % 2=1
 · rw [if_pos e,if_pos];rw [e];rfl
 rw [if_neg e,if_neg];rw [beq_iff_eq];omega
theorem Jc {α:Type} {n:Nat} {z:Bool} {a b:α} (h:(((n:Nat):Int)==0)=z):(if n=0 then a else b)=if z=true then a else b:=by
 subst h
 by_cases e:n=0
 · rw [if_pos e,if_pos];rw [e];rfl
 rw [if_neg e,if_neg];rw [beq_iff_eq];omega
theorem casesN_step {m i:Nat} {t:Nat→List UInt8} (hi:i<m):(Zo i t).length+(6+((t (2*i)).length+(6+(t (2*i+1)).length)))≤(Zo m t).length:=by
 have:=casesN_mono (f:=t) (show i+1≤m by omega)
 rw [Zo] at this
 simp only [lS] at this
 omega
theorem Kb {k op vk vn:Int} {vt tb nm:ByteArray} {n:Nat} {args:Nat→E} {pl ty:Int} (h:QH (.mk k op vk vn vt tb nm n args pl ty)=true) :
 (∀ i,i<n→QH (args i)=true)∧(1≤k∧k≤7)∧(k=3→n=1∧1≤op∧op≤4)∧(k=4→n=2∧5≤op∧op≤18)∧(k=5→2≤n)∧(k=6→2≤n)∧(k=7→(19≤op∧op≤22)∧(n=1∨(n=0∧op=19))):=by
 rw [QH,Bool.and_eq_true] at h
 obtain ⟨h1,h2⟩:=h
 refine ⟨Qx.1 h2,?_⟩
 unfold okT at h1
 by_cases k1:k=1
 · subst k1;omega
 by_cases k2:k=2
 · subst k2;omega
 by_cases k3:k=3
 · subst k3;simp at h1;omega
 by_cases k4:k=4
 · subst k4;simp at h1;omega
 by_cases k5:k=5
 · subst k5;simp at h1;omega
 by_cases k6:k=6
 · subst k6;simp at h1;omega
 by_cases k7:k=7
 · subst k7;simp at h1;omega
 simp [k1,k2,k3,k4,k5,k6,k7] at h1
theorem QK (s:ByteArray):s.size=s.data.toList.length:=by rw [Array.length_toList];rfl
theorem Qi (l:List UInt8):(⟨l.toArray⟩:ByteArray).data.toList=l:=by simp
theorem signL_len (op:Int):(signL op).length≤3:=by
 have key: ∀ (z:Bool) (a b:List UInt8),a.length≤3→b.length≤3→(if z=true then a else b).length≤3:=by
  intro z a b h1 h2
  cases z
  · exact h2
  exact h1
 unfold signL
 repeat (refine key _ _ _ (by decide) ?_)
 decide
end Go.Proofs.YtddedijencleeaaGreatDoor
