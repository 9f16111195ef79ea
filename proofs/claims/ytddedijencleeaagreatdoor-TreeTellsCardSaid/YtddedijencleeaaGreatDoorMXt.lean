/- What light says of texts and depths. No program's code. -/
import Derived.Test.YtddedijencleeaaGreatDoorSm
import Derived.Test.YtddedijencleeaaGreatDoorMXm
import Derived.Test.YtddedijencleeaaGreatDoorMSq
set_option linter.all false
namespace Go.Proofs.YtddedijencleeaaGreatDoor
open Go.RowKit Go.Lib RC
theorem wr_id {z:Int} (h: -9223372036854775808≤z∧z≤9223372036854775807):wr z=z:=by
 unfold wr IntKind.wrap
 have e1:(2 ^ IntKind.i64.bits:Int)=18446744073709551616:=by decide
 have e2:(2 ^ (IntKind.i64.bits - 1):Int)=9223372036854775808:=by decide
 rw [e1,e2]
 simp only
 by_cases h0:0≤z
 · have e3:z % 18446744073709551616=z:=by omega
   rw [e3,if_neg]
   simp only [Bool.and_eq_true,decide_eq_true_eq,not_and]
   intro _;omega
 have e3:z % 18446744073709551616=z+18446744073709551616:=by omega
 rw [e3,if_pos]
 · omega
 simp only [Bool.and_eq_true,decide_eq_true_eq]
 exact ⟨by decide,by omega⟩
theorem hund_le {s:ByteArray} (h:s.size≤9223372036854775807):0≤hund s∧hund s≤92233720368547758∧(s.size:Int)≤100*hund s+99:=by
 unfold hund
 have e:((s.size:Int)).tdiv 100=(s.size:Int) / 100:=Int.tdiv_eq_ediv_of_nonneg (by omega)
 rw [e,wr_id (by omega)]
 omega
theorem p0_eq {vt nm tb:ByteArray} (h1:vt.size≤9223372036854775807) (h2:nm.size≤9223372036854775807) (h3:tb.size≤9223372036854775807):p0 vt nm tb=1+hund vt+hund nm+hund tb∧1≤p0 vt nm tb∧p0 vt nm tb≤280000000000000000:=by
 have a:=hund_le h1
 have b:=hund_le h2
 have c:=hund_le h3
 unfold p0
 rw [wr_id (z:=1+hund vt) (by omega),wr_id (z:=1+hund vt+hund nm) (by omega),wr_id (by omega)]
 omega
theorem stepD_up (k op:Int) (i:Nat) (a:E) (d:Nat):QT k op i a d≤d+2:=by
 unfold QT
 repeat' split
 all_goals omega
theorem light_parts: ∀ (e:E) (cs:List Value) (W:World) (m:Int),QI W e cs→QH e=true→0≤m→m≤1000→(1≤ZM e m∧ZM e m≤m+280000000000000000)∧(ZM e m≤m→(Qf e:Int)≤3*ZM e m∧((Qg e).length:Int)+12≤1000*ZM e m)
 | .no,_,_,_,h,_,_,_=>False.elim h
 | .mk k op vk vn vt tb nm n args pl ty,cs,W,m,h,hI,h0,h1=>by
   have hA:=(Kb hI).1
   obtain ⟨wf,vv,rfl,hsl⟩:=h
   obtain ⟨A,c,rfl⟩:=QR.form hsl
   replace hsl:QR W 10 120 n (.slice A n c) (fun i ds=>QI W (args i) ds):=hsl
   have HT: ∀ i,i<n→ ∀ z:Int,0≤z→z≤1000→(1≤ZM (args i) z∧ZM (args i) z≤z+280000000000000000)∧(ZM (args i) z≤z→(Qf (args i):Int)≤3*ZM (args i) z∧((Qg (args i)).length:Int)+12≤1000*ZM (args i) z):=fun i hi z hz1 hz2=>by
    obtain ⟨eb,eo,ed,es,eq,el,em,ep,er⟩:=hsl.at (i:=i) hi
    exact light_parts (args i) _ W z ep (hA i hi) hz1 hz2
   have hvn:=wf.vn
   obtain ⟨hp,hp1,hp2⟩:=p0_eq wf.vt wf.nm wf.tb
   have a1:=hund_le wf.vt
   have a2:=hund_le wf.nm
   have a3:=hund_le wf.tb
   have hN:=node_len hvn hI
   rw [Qf,ZM]
   generalize hF:(fun (i:Nat) (q:Int)=>bif decide (q≤m) then wr (q+ZM (args i) (wr (m - q))) else q)=F
   have inv: ∀ i,i≤n→p0 vt nm tb≤KN i F (p0 vt nm tb)∧KN i F (p0 vt nm tb)≤m+280000000000000000∧(KN i F (p0 vt nm tb)≤m→(∀ j,j<i→(Qf (args j):Int)≤3*(KN i F (p0 vt nm tb) - p0 vt nm tb))∧((Ja i (fun j=>(Qg (args j)).length):Nat):Int)+12*(i:Int)≤1000*(KN i F (p0 vt nm tb) - p0 vt nm tb)):=by
    intro i
    induction i with
    | zero=>intro _;exact ⟨Int.le_refl _,by simp only [KN];omega,fun _=>⟨fun j hj=>by omega,by simp [KN,Ja]⟩⟩
    | succ i ih=>
      intro hi
      obtain ⟨q1,q2,q3⟩:=ih (by omega)
      rw [KN]
      generalize KN i F (p0 vt nm tb)=q at q1 q2 q3 ⊢
      have e:F i q=bif decide (q≤m) then wr (q+ZM (args i) (wr (m - q))) else q:=by rw [← hF]
      rw [e]
      by_cases hq:q≤m
      · rw [wr_id (z:=m - q) (by omega)]
        obtain ⟨⟨r1,r2⟩,r3⟩:=HT i (by omega) (m - q) (by omega) (by omega)
        generalize ZM (args i) (m - q)=r at r1 r2 r3 ⊢
        rw [wr_id (z:=q+r) (by omega)]
        have:decide (q≤m)=true:=by simp;exact hq
        rw [this,cond_true]
        refine ⟨by omega,by omega,fun hm=> ?_⟩
        obtain ⟨d1,d2⟩:=q3 hq
        obtain ⟨d3,d4⟩:=r3 (by omega)
        refine ⟨fun j hj=> ?_,?_⟩
        · by_cases ej:j=i
          · subst ej;omega
          · have:=d1 j (by omega);omega
        · rw [Ja];omega
      · have:decide (q≤m)=false:=by simp;omega
        rw [this,cond_false]
        exact ⟨q1,q2,fun hm=>by omega⟩
   obtain ⟨q1,q2,q3⟩:=inv n Qo
   generalize KN n F (p0 vt nm tb)=q at q1 q2 q3 ⊢
   refine ⟨⟨by omega,q2⟩,fun hm=> ?_⟩
   obtain ⟨d1,d2⟩:=q3 hm
   refine ⟨?_,by omega⟩
   have hs:Ql n (fun i=>QT k op i (args i) (Qf (args i)))≤(3*(q - p0 vt nm tb)).toNat+2:=JI fun i hi=>by
    have:=stepD_up k op i (args i) (Qf (args i))
    have:=d1 i hi
    omega
   have hz:(if k==3 then (if op==1||op==2 then 1 else 0) else if k==7||k==6 then 1 else 0:Nat)≤1:=by (repeat' split) <;> omega
   omega
end Go.Proofs.YtddedijencleeaaGreatDoor

/- What light says of a statement that may be. No program's code. -/
set_option linter.all false
namespace Go.Proofs.YtddedijencleeaaGreatDoor
open Go.RowKit Go.Lib RC
structure PartsOK (s:S):Prop where
 rw: ∀ i,i<s.nrw→ ∀ j,j<(s.rw i).n→QH ((s.rw i).f j)=true
 st: ∀ i,i<s.nst→QH (s.st i).e=true
 wh:Zx s.wh=true
 hv:Zx s.hv=true
 gr: ∀ i,i<s.gr.n→QH (s.gr.f i)=true
 it: ∀ i,i<s.nit→Zx (s.it i).e=true
 fr: ∀ i,i<s.nfr→Zx (s.fr i).e=true
 od: ∀ i,i<s.nor→QH (s.od i).e=true
theorem isT_may (s:S) (h:Zw s=true):PartsOK s:=by
 obtain ⟨hk,p1,p5,p6,p7,p8⟩:=isT_parts s h
 unfold Zw at h
 have q: ∀ (a b:Int),a≠b→(a==b)=false:=fun a b e=>by rw [beq_eq_false_iff_ne];exact e
 by_cases k1:s.kind=1
 · rw [k1] at h
   simp only [beq_self_eq_true,if_true,Bool.and_eq_true,QO,beq_iff_eq] at h
   obtain ⟨_,⟨⟨⟨⟨⟨⟨⟨⟨_,e⟩,_⟩,_⟩,_⟩,_⟩,hw⟩,hv⟩,_⟩⟩:=h
   exact QsF0
 by_cases k2:s.kind=2
 · rw [k2] at h
   simp only [q 2 1 (by decide),beq_self_eq_true,if_true,Bool.false_eq_true,if_false,Bool.and_eq_true,QO,beq_iff_eq] at h
   obtain ⟨_,⟨⟨⟨⟨⟨⟨⟨⟨_,e⟩,_⟩,_⟩,_⟩,_⟩,hw⟩,hv⟩,_⟩⟩:=h
   exact QsF0
 by_cases k3:s.kind=3
 · rw [k3] at h
   simp only [q 3 1 (by decide),q 3 2 (by decide),beq_self_eq_true,if_true,Bool.false_eq_true,if_false,Bool.and_eq_true,QO,beq_iff_eq] at h
   obtain ⟨_,⟨⟨⟨⟨⟨⟨⟨⟨_,e⟩,_⟩,_⟩,_⟩,_⟩,hw⟩,hv⟩,_⟩⟩:=h
   exact QsF0
 by_cases k4:s.kind=4
 · rw [k4] at h
   simp only [q 4 1 (by decide),q 4 2 (by decide),q 4 3 (by decide),beq_self_eq_true,if_true,Bool.false_eq_true,if_false,Bool.and_eq_true,QO,beq_iff_eq] at h
   obtain ⟨_,⟨⟨⟨⟨⟨⟨⟨⟨_,e⟩,_⟩,_⟩,_⟩,_⟩,hw⟩,hv⟩,_⟩⟩:=h
   exact QsF0
 by_cases k5:s.kind=5
 · rw [k5] at h
   simp only [q 5 1 (by decide),q 5 2 (by decide),q 5 3 (by decide),q 5 4 (by decide),beq_self_eq_true,if_true,Bool.false_eq_true,if_false,Bool.and_eq_true,QO,beq_iff_eq] at h
   obtain ⟨_,⟨⟨⟨⟨⟨⟨⟨⟨_,e⟩,_⟩,_⟩,_⟩,_⟩,hw⟩,hv⟩,_⟩⟩:=h
   exact ⟨p5 k5,fun i hi=>by omega,Jx hw,Jx hv,fun i hi=>by omega,fun i hi=>by omega,fun i hi=>by omega,fun i hi=>by omega⟩
 by_cases k6:s.kind=6
 · rw [k6] at h
   simp only [q 6 1 (by decide),q 6 2 (by decide),q 6 3 (by decide),q 6 4 (by decide),q 6 5 (by decide),beq_self_eq_true,if_true,Bool.false_eq_true,if_false,Bool.and_eq_true,QO,beq_iff_eq] at h
   obtain ⟨_,⟨⟨⟨⟨⟨⟨⟨⟨_,e⟩,_⟩,_⟩,_⟩,_⟩,_⟩,hv⟩,_⟩⟩:=h
   exact ⟨fun i hi=>by omega,(p6 k6).1,(p6 k6).2,Jx hv,fun i hi=>by omega,fun i hi=>by omega,fun i hi=>by omega,fun i hi=>by omega⟩
 by_cases k7:s.kind=7
 · rw [k7] at h
   simp only [q 7 1 (by decide),q 7 2 (by decide),q 7 3 (by decide),q 7 4 (by decide),q 7 5 (by decide),q 7 6 (by decide),beq_self_eq_true,if_true,Bool.false_eq_true,if_false,Bool.and_eq_true,QO,beq_iff_eq] at h
   obtain ⟨_,⟨⟨⟨⟨⟨⟨⟨⟨_,e⟩,_⟩,_⟩,_⟩,_⟩,_⟩,hv⟩,_⟩⟩:=h
   exact ⟨fun i hi=>by omega,fun i hi=>by omega,p7 k7,Jx hv,fun i hi=>by omega,fun i hi=>by omega,fun i hi=>by omega,fun i hi=>by omega⟩
 obtain k8:s.kind=8:=by omega
 rw [k8] at h
 simp only [q 8 1 (by decide),q 8 2 (by decide),q 8 3 (by decide),q 8 4 (by decide),q 8 5 (by decide),q 8 6 (by decide),q 8 7 (by decide),beq_self_eq_true,if_true,Bool.false_eq_true,if_false,Bool.and_eq_true,QO,beq_iff_eq] at h
 obtain ⟨hs,⟨⟨⟨⟨⟨⟨⟨⟨_,e⟩,_⟩,_⟩,_⟩,_⟩,_⟩,_⟩,_⟩⟩:=h
 obtain ⟨a1,a2,a3,a4,a5,a6⟩:=p8 k8
 refine ⟨fun i hi=>by omega,fun i hi=>by omega,a3,a5,a4,fun i hi=> ?_,a2,a6⟩
 simp only [Q0,Bool.and_eq_true] at hs
 have:=ZT hs.1.1.1.1.1.1 i hi
 cases hz:(s.it i).star with
 | true=>simp only [itemT,hz,if_true,Bool.and_eq_true] at this;exact Jx this.1
 | false=>exact isE_mayE (a1 i hi hz)
end Go.Proofs.YtddedijencleeaaGreatDoor

/- The bounds of a light statement that may be. No program's code. -/
set_option linter.all false
namespace Go.Proofs.YtddedijencleeaaGreatDoor
open Go.RowKit Go.Lib RC
theorem KD {W:World} {e:E} {cs:List Value} {m:Int} (h:QI W e cs) (hm:Zx e=true) (hl:Zb e m=true) (h0:0≤m) (h1:m≤200):Qf e≤600:=by
 cases hz:QE e with
 | true=>rw [(Jr hz).1];omega
 | false=>
  obtain ⟨_,h3⟩:=light_parts e cs W m h (isE_of_may hm hz) h0 (by omega)
  simp only [Zb,decide_eq_true_eq] at hl
  have:=(h3 hl).1
  omega
theorem txt_light {W:World} {e:E} {cs:List Value} {m:Int} (h:QI W e cs) (hm:QH e=true) (hl:Zb e m=true) (h0:0≤m) (h1:m≤200):(Qg e).length≤200000:=by
 obtain ⟨_,h3⟩:=light_parts e cs W m h hm h0 (by omega)
 simp only [Zb,decide_eq_true_eq] at hl
 have:=(h3 hl).2
 omega
theorem depth_bounds {W:World} {s:S} {cs:List Value} (h:Ks W s cs) (hI:Zw s=true) (hl:Q6 s=true):(∀ i,i<s.nrw→Ql (s.rw i).n (fun j=>Qf ((s.rw i).f j))≤600)∧(∀ i,i<s.nst→Qf (s.st i).e≤600)∧Qf s.wh≤600∧Qf s.hv≤600∧Ql s.gr.n (fun i=>Qf (s.gr.f i))≤600∧(∀ i,i<s.nit→Qf (s.it i).e≤600)∧(∀ i,i<s.nfr→Qf (s.fr i).e≤600)∧(∀ i,i<s.nor→Qf (s.od i).e≤600):=by
 obtain ⟨ta,vkc,vcl,vrw,vst,whc,vit,vfr,vgr,hvc,vor,rfl,ia⟩:=h
 have P:=isT_may s hI
 simp only [Q6,Bool.and_eq_true] at hl
 obtain ⟨⟨⟨⟨⟨⟨⟨_,l1⟩,l2⟩,l3⟩,l4⟩,l5⟩,l6⟩,l7,l8⟩:=hl
 have hrw:=ia.rw
 have hst:=ia.st
 have hit:=ia.it
 have hfr:=ia.fr
 have hgr:=ia.gr
 have hod:=ia.od
 refine ⟨fun i hi=>JI fun j hj=> ?_,fun i hi=> ?_,KD ia.wh P.wh l7 (by decide) (by decide),KD ia.hv P.hv l8 (by decide) (by decide),JI fun i hi=> ?_,fun i hi=> ?_,fun i hi=> ?_,fun i hi=> ?_⟩
 · obtain ⟨A,c,rfl⟩:=hrw.form
   obtain ⟨_,_,_,_,_,_,_,ep,_⟩:=hrw.at (i:=i) hi
   obtain ⟨v,rfl,ks⟩:=ep
   obtain ⟨A2,c2,rfl⟩:=ks.form
   have ks':QR W 10 120 (s.rw i).n (.slice A2 (s.rw i).n c2) (fun j ds=>QI W ((s.rw i).f j) ds):=ks
   obtain ⟨_,_,_,_,_,_,_,e2,_⟩:=ks'.at (i:=j) hj
   have:=Qx.1 l1 i hi
   simp only [Jh,Bool.and_eq_true] at this
   exact KD e2 (isE_mayE (P.rw i hi j hj)) (Qx.1 this.2 j hj) (by decide) (by decide)
 · obtain ⟨A,c,rfl⟩:=hst.form
   obtain ⟨_,_,_,_,_,_,_,ep,_⟩:=hst.at (i:=i) hi
   obtain ⟨_,ds,rfl,ie⟩:=ep
   exact KD ie (isE_mayE (P.st i hi)) (Qx.1 l2 i hi) (by decide) (by decide)
 · obtain ⟨A,c,rfl⟩:=hgr.form
   have ks':QR W 10 120 s.gr.n (.slice A s.gr.n c) (fun j ds=>QI W (s.gr.f j) ds):=hgr
   obtain ⟨_,_,_,_,_,_,_,ep,_⟩:=ks'.at (i:=i) hi
   exact KD ep (isE_mayE (P.gr i hi)) (Qx.1 l6 i hi) (by decide) (by decide)
 · obtain ⟨A,c,rfl⟩:=hit.form
   obtain ⟨_,_,_,_,_,_,_,ep,_⟩:=hit.at (i:=i) hi
   obtain ⟨_,ds,rfl,ie⟩:=ep
   exact KD ie (P.it i hi) (Qx.1 l3 i hi) (by decide) (by decide)
 · obtain ⟨A,c,rfl⟩:=hfr.form
   obtain ⟨_,_,_,_,_,_,_,ep,_⟩:=hfr.at (i:=i) hi
   obtain ⟨_,_,ds,rfl,ie⟩:=ep
   exact KD ie (P.fr i hi) (Qx.1 l4 i hi) (by decide) (by decide)
 obtain ⟨A,c,rfl⟩:=hod.form
 obtain ⟨_,_,_,_,_,_,_,ep,_⟩:=hod.at (i:=i) hi
 obtain ⟨ds,rfl,ie⟩:=ep
 exact KD ie (isE_mayE (P.od i hi)) (Qx.1 l5 i hi) (by decide) (by decide)
end Go.Proofs.YtddedijencleeaaGreatDoor

/- The depth of a light statement. No program's code. -/
set_option linter.all false
namespace Go.Proofs.YtddedijencleeaaGreatDoor
open Go.RowKit Go.Lib RC
theorem stmtD_light {W:World} {s:S} {cs:List Value} (h:Ks W s cs) (hI:Zw s=true) (hl:Q6 s=true):QP s≤1000:=by
 obtain ⟨b1,b2,b3,b4,b5,b6,b7,b8⟩:=depth_bounds h hI hl
 rw [← depS_stmtD s hI]
 have c1:depK s≤601:=by
  unfold depK
  have:Ql s.nrw (fun i=>1+Ql (s.rw i).n (fun j=>Qf ((s.rw i).f j)))≤601:=JI fun i hi=>by have:=b1 i hi;omega
  repeat' split
  all_goals omega
 have c2:=JI b2
 have c6:=JI b6
 have c7:=JI b7
 have c8:=JI b8
 simp only [depS,Jq]
 omega
theorem Ku {n B:Nat} {t:Nat→List UInt8} (h: ∀ i,i<n→(t i).length≤B) (hn:n≤12):(Qk n t).length≤12*B+24:=by
 have h1:=joinN_len t n
 have h2:=sumL_const (fun i=>(t i).length) B n h
 have h3:n*B≤12*B:=Nat.mul_le_mul_right _ hn
 omega
theorem concN_bound {n B:Nat} {t:Nat→List UInt8} (h: ∀ i,i<n→(t i).length≤B) (hn:n≤12):(ZF n t).length≤12*B:=by
 rw [concN_len]
 have h2:=sumL_const (fun i=>(t i).length) B n h
 have h3:n*B≤12*B:=Nat.mul_le_mul_right _ hn
 omega
theorem Z3 {s:ByteArray} (h:QD s=true):s.data.toList.length≤20:=by
 simp only [QD,Bool.and_eq_true,decide_eq_true_eq] at h
 rw [← QK]
 exact h.1.1.1.1.2
end Go.Proofs.YtddedijencleeaaGreatDoor

/- The text of a light statement is short. No program's code. -/
set_option linter.all false
namespace Go.Proofs.YtddedijencleeaaGreatDoor
open Go.RowKit Go.Lib RC
theorem namesL_bound {n:Nat} {f:Nat→ByteArray} (h: ∀ i,i<n→QD (f i)=true) (hn:n≤12):(QA n f).length≤270:=by
 have:=Ku (t:=fun i=>(f i).data.toList) (B:=20) (fun i hi=>Z3 (h i hi)) hn
 simp only [QA,lS];omega
theorem clauseL_bound {W:World} {word:List UInt8} {e:E} {cs:List Value} {m:Int} (h:QI W e cs) (hm:Zx e=true) (hl:Zb e m=true) (h0:0≤m) (h1:m≤200):(Qm word e).length≤word.length+200000:=by
 cases hz:QE e with
 | true=>rw [clauseL_z hm hz];simp
 | false=>
  have:=txt_light h (isE_of_may hm hz) hl h0 h1
  rw [clauseL_z hm hz]
  simp only [Bool.false_eq_true,if_false,List.length_append];omega
theorem noneB_len {s:ByteArray} (h:noneB s=true):s.data.toList.length≤20:=by
 simp only [noneB,Bool.or_eq_true] at h
 rcases h with h | h
 · rw [(strB_iff _ _).1 h];simp
 exact Z3 h
theorem colL_bound {c:Co} (h:colT c=true):(Jl c).length≤60:=by
 simp only [colT,Bool.and_eq_true] at h
 have:=Z3 h.1
 have ht:(typeL c.ty).length≤4:=by unfold typeL;repeat' split <;> simp
 simp only [Jl,lS]
 split <;> (simp only [List.length_cons,List.length_nil];omega)
theorem keyW_bound {k:Ke} {l:Na} (h: ∀ i,i<l.n→QD (l.f i)=true) (hn:l.n≤12):(keyW k l).length≤300:=by
 have:=namesL_bound h hn
 rw [keyW_len]
 split <;> omega
end Go.Proofs.YtddedijencleeaaGreatDoor

/- The text of a light statement is short. No program's code. -/
set_option linter.all false
namespace Go.Proofs.YtddedijencleeaaGreatDoor
open Go.RowKit Go.Lib RC
theorem JH {n m:Nat} (h:(!Kk n m)=true):n≤m:=by
 simp only [Kk,Bool.not_eq_true',decide_eq_false_iff_not] at h
 omega
theorem itemL_bound {W:World} {x:It} {cs:List Value} (h:QI W x.e cs) (ht:itemT x=true) (hl:Zb x.e 100=true):(ZL x).length≤200100:=by
 unfold itemT at ht
 unfold ZL
 cases hz:x.star with
 | true=>simp
 | false=>
  simp only [hz,Bool.false_eq_true,if_false,Bool.and_eq_true] at ht
  have h1:=txt_light h ht.1 hl (by decide) (by decide)
  have h2:=noneB_len ht.2
  simp only [Bool.false_eq_true,if_false,List.length_append]
  split <;> (simp only [lS];omega)
theorem srcW_bound {W:World} {i:Nat} {x:So} {cs:List Value} (h:QI W x.e cs) (ht:KS i x=true) (hm:Zx x.e=true) (hl:Zb x.e 100=true):(QW i x).length≤200200:=by
 simp only [KS,Bool.and_eq_true] at ht
 have h1:=Z3 ht.1.1.1
 have h2:=noneB_len ht.1.1.2
 have h3:=clauseL_bound (word:=[32,79,78,32]) h hm hl (by decide) (by decide)
 simp only [List.length_cons,List.length_nil] at h3
 have h4:(Jv x.al).length≤21:=by
  unfold Jv
  split <;> (simp only [lS];omega)
 have h5:(if decide (0<((i:Nat):Int))=true then (if x.left=true then [32,76,69,70,84] else [])++[32,74,79,73,78,32] else []:List UInt8).length≤11:=by
  repeat' split
  all_goals simp
 simp only [QW,ZW,List.length_append]
 omega
theorem createL_bound {s:S} (h:ZU s=true) (hl:Q6 s=true):(ZY s).length≤10000:=by
 simp only [ZU,Bool.and_eq_true,beq_iff_eq] at h
 obtain ⟨⟨⟨⟨⟨g1,g2⟩,g3⟩,g4⟩,g5⟩,g6⟩:=h
 simp only [Q6,Bool.and_eq_true] at hl
 have n1:=Z3 g1
 have l1:=JH hl.1.1.1.1.1.1.1.1.1.1.2
 have l2:=JH hl.1.1.1.1.1.1.1.1.1.2
 have l3:=hl.1.1.1.1.1.1.1.1.2
 have a1:=Ku (t:=fun i=>Jl (s.tab.cols i)) (fun i hi=>colL_bound (ZT g4 i hi)) l1
 have a2:=concN_bound (t:=fun i=>keyW (s.tab.keys i) (s.kc i)) (B:=300) (fun i hi=>keyW_bound (fun j hj=>ZT (Qx.1 g6 i (by omega)) j hj) (JH (Qx.1 l3 i (by omega)))) l2
 simp only [ZY,lS]
 omega
end Go.Proofs.YtddedijencleeaaGreatDoor

/- The text of a light statement is short. No program's code. -/
set_option linter.all false
namespace Go.Proofs.YtddedijencleeaaGreatDoor
open Go.RowKit Go.Lib RC
structure PartsIn (W:World) (s:S):Prop where
 rw: ∀ i,i<s.nrw→ ∀ j,j<(s.rw i).n→ ∃ ds,QI W ((s.rw i).f j) ds
 st: ∀ i,i<s.nst→ ∃ ds,QI W (s.st i).e ds
 wh: ∃ ds,QI W s.wh ds
 hv: ∃ ds,QI W s.hv ds
 gr: ∀ i,i<s.gr.n→ ∃ ds,QI W (s.gr.f i) ds
 it: ∀ i,i<s.nit→ ∃ ds,QI W (s.it i).e ds
 fr: ∀ i,i<s.nfr→ ∃ ds,QI W (s.fr i).e ds
 od: ∀ i,i<s.nor→ ∃ ds,QI W (s.od i).e ds
 li:KM s.li
theorem parts_in {W:World} {s:S} {cs:List Value} (h:Ks W s cs):PartsIn W s:=by
 obtain ⟨ta,vkc,vcl,vrw,vst,whc,vit,vfr,vgr,hvc,vor,rfl,ia⟩:=h
 have hrw:=ia.rw
 have hst:=ia.st
 have hit:=ia.it
 have hfr:=ia.fr
 have hgr:=ia.gr
 have hod:=ia.od
 refine ⟨fun i hi j hj=> ?_,fun i hi=> ?_,⟨_,ia.wh⟩,⟨_,ia.hv⟩,fun i hi=> ?_,fun i hi=> ?_,fun i hi=> ?_,fun i hi=> ?_,ia.wf.li⟩
 · obtain ⟨A,c,rfl⟩:=hrw.form
   obtain ⟨_,_,_,_,_,_,_,ep,_⟩:=hrw.at (i:=i) hi
   obtain ⟨v,rfl,ks⟩:=ep
   obtain ⟨A2,c2,rfl⟩:=ks.form
   have ks':QR W 10 120 (s.rw i).n (.slice A2 (s.rw i).n c2) (fun j ds=>QI W ((s.rw i).f j) ds):=ks
   obtain ⟨_,_,_,_,_,_,_,e2,_⟩:=ks'.at (i:=j) hj
   exact ⟨_,e2⟩
 · obtain ⟨A,c,rfl⟩:=hst.form
   obtain ⟨_,_,_,_,_,_,_,ep,_⟩:=hst.at (i:=i) hi
   obtain ⟨_,ds,rfl,ie⟩:=ep
   exact ⟨_,ie⟩
 · obtain ⟨A,c,rfl⟩:=hgr.form
   have ks':QR W 10 120 s.gr.n (.slice A s.gr.n c) (fun j ds=>QI W (s.gr.f j) ds):=hgr
   obtain ⟨_,_,_,_,_,_,_,ep,_⟩:=ks'.at (i:=i) hi
   exact ⟨_,ep⟩
 · obtain ⟨A,c,rfl⟩:=hit.form
   obtain ⟨_,_,_,_,_,_,_,ep,_⟩:=hit.at (i:=i) hi
   obtain ⟨_,ds,rfl,ie⟩:=ep
   exact ⟨_,ie⟩
 · obtain ⟨A,c,rfl⟩:=hfr.form
   obtain ⟨_,_,_,_,_,_,_,ep,_⟩:=hfr.at (i:=i) hi
   obtain ⟨_,_,ds,rfl,ie⟩:=ep
   exact ⟨_,ie⟩
 obtain ⟨A,c,rfl⟩:=hod.form
 obtain ⟨_,_,_,_,_,_,_,ep,_⟩:=hod.at (i:=i) hi
 obtain ⟨ds,rfl,ie⟩:=ep
 exact ⟨_,ie⟩
structure LightP (s:S):Prop where
 nrw:s.nrw≤12
 nst:s.nst≤12
 nit:s.nit≤12
 nfr:s.nfr≤12
 nor:s.nor≤12
 ngr:s.gr.n≤12
 ncl:s.cl.n≤12
 rn: ∀ i,i<s.nrw→(s.rw i).n≤12
 rw: ∀ i,i<s.nrw→ ∀ j,j<(s.rw i).n→Zb ((s.rw i).f j) 60=true
 st: ∀ i,i<s.nst→Zb (s.st i).e 100=true
 wh:Zb s.wh 200=true
 hv:Zb s.hv 200=true
 gr: ∀ i,i<s.gr.n→Zb (s.gr.f i) 100=true
 it: ∀ i,i<s.nit→Zb (s.it i).e 100=true
 fr: ∀ i,i<s.nfr→Zb (s.fr i).e 100=true
 od: ∀ i,i<s.nor→Zb (s.od i).e 100=true
theorem lightS_parts {s:S} (hl:Q6 s=true):LightP s:=by
 simp only [Q6,Bool.and_eq_true] at hl
 obtain ⟨⟨⟨⟨⟨⟨⟨⟨⟨⟨⟨⟨⟨⟨⟨⟨⟨⟨n1,n2⟩,n3⟩,n4⟩,n5⟩,n6⟩,n7⟩,n8⟩,n9⟩,n10⟩,n11⟩,n12⟩,l1⟩,l2⟩,l3⟩,l4⟩,l5⟩,l6⟩,l7,l8⟩:=hl
 have n4':=JH n4
 exact ⟨JH n1,JH n2,JH n3,by omega,JH n5,JH n6,JH n7,
  fun i hi=>by have:=Qx.1 l1 i hi;simp only [Jh,Bool.and_eq_true] at this;exact JH this.1,
  fun i hi j hj=>by have:=Qx.1 l1 i hi;simp only [Jh,Bool.and_eq_true] at this;exact Qx.1 this.2 j hj,
  Qx.1 l2,l7,l8,Qx.1 l6,Qx.1 l3,Qx.1 l4,Qx.1 l5⟩
theorem rowL_bound {n:Nat} {f:Nat→E} (h: ∀ j,j<n→(Qg (f j)).length≤200000) (hn:n≤12):(rowL n f).length≤2400100:=by
 have:=Ku h hn
 simp only [rowL,lS];omega
theorem queryL_bound {W:World} {s:S} (I:PartsIn W s) (L:LightP s) (P:PartsOK s) (h:Q0 s=true):(Q8 s).length≤100000000:=by
 simp only [Q0,ZS,Bool.and_eq_true] at h
 obtain ⟨⟨⟨⟨⟨⟨h1,h2,h3⟩,h4⟩,h5⟩,h6⟩,h7⟩,h8⟩:=h
 have b1:=Ku (t:=fun i=>ZL (s.it i)) (B:=200100) (fun i hi=>by
  obtain ⟨ds,ie⟩:=I.it i hi
  exact itemL_bound ie (ZT h1 i hi) (L.it i hi)) L.nit
 have b2:=concN_bound (t:=fun i=>QW i (s.fr i)) (B:=200200) (fun i hi=>by
  obtain ⟨ds,ie⟩:=I.fr i hi
  exact srcW_bound ie (Qx.1 h3 i hi) (P.fr i hi) (L.fr i hi)) L.nfr
 obtain ⟨dw,iw⟩:=I.wh
 obtain ⟨dh,ih⟩:=I.hv
 have b3:=clauseL_bound (word:=[32,87,72,69,82,69,32]) iw P.wh L.wh (by decide) (by decide)
 have b4:=clauseL_bound (word:=[32,72,65,86,73,78,71,32]) ih P.hv L.hv (by decide) (by decide)
 have b5:=Ku (t:=fun i=>Qg (s.gr.f i)) (B:=200000) (fun i hi=>by
  obtain ⟨ds,ie⟩:=I.gr i hi
  exact txt_light ie (P.gr i hi) (L.gr i hi) (by decide) (by decide)) L.ngr
 have b6:=Ku (t:=fun i=>Zi (s.od i)) (B:=200010) (fun i hi=>by
  obtain ⟨ds,ie⟩:=I.od i hi
  have:=txt_light ie (P.od i hi) (L.od i hi) (by decide) (by decide)
  simp only [Zi,List.length_append]
  split <;> (simp only [List.length_cons,List.length_nil];omega)) L.nor
 have b7:=itoa_len s.li I.li
 have c1:(if s.di=true then [68,73,83,84,73,78,67,84,32] else []:List UInt8).length≤9:=by split <;> simp
 have c2:(if decide (0<(s.gr.n:Int))=true then [32,71,82,79,85,80,32,66,89,32]++Qk s.gr.n (fun i=>Qg (s.gr.f i)) else []:List UInt8).length≤3000000:=by
  split
  · simp only [lS];omega
  simp
 have c3:(if decide (0<(s.nor:Int))=true then [32,79,82,68,69,82,32,66,89,32]++Qk s.nor (fun i=>Zi (s.od i)) else []:List UInt8).length≤3000000:=by
  split
  · simp only [lS];omega
  simp
 have c4:(if decide (0≤s.li)=true then [32,76,73,77,73,84,32]++Lib.itoa s.li else []:List UInt8).length≤100:=by
  split
  · simp only [lS];omega
  simp
 simp only [List.length_cons,List.length_nil] at b3 b4
 simp only [Q8,lS]
 omega
theorem stmtL_bound {W:World} {s:S} {cs:List Value} (h:Ks W s cs) (hI:Zw s=true) (hl:Q6 s=true):(Qy s).length≤100000000:=by
 have I:=parts_in h
 have L:=lightS_parts hl
 have P:=isT_may s hI
 have q: ∀ (a b:Int),a≠b→(a==b)=false:=fun a b e=>by rw [beq_eq_false_iff_ne];exact e
 obtain ⟨hk,_⟩:=isT_parts s hI
 unfold Zw at hI
 unfold Qy
 obtain ⟨dw,iw⟩:=I.wh
 have bw:=clauseL_bound (word:=[32,87,72,69,82,69,32]) iw P.wh L.wh (by decide) (by decide)
 simp only [List.length_cons,List.length_nil] at bw
 by_cases k1:s.kind=1
 · rw [k1] at hI ⊢
   simp only [beq_self_eq_true,if_true,Bool.and_eq_true] at hI ⊢
   have:=createL_bound hI.1 hl
   omega
 by_cases k2:s.kind=2
 · rw [k2] at hI ⊢
   simp only [q 2 1 (by decide),beq_self_eq_true,if_true,Bool.false_eq_true,if_false,Bool.and_eq_true] at hI ⊢
   obtain ⟨⟨⟨h1,h2⟩,h3⟩,_⟩:=hI
   have n1:=Z3 h1
   have n2:=Z3 h2
   have n3:=namesL_bound (ZT h3) L.ncl
   have c1:(if s.un=true then [85,78,73,81,85,69,32] else []:List UInt8).length≤7:=by split <;> simp
   simp only [lS]
   omega
 by_cases k3:s.kind=3
 · rw [k3] at hI ⊢
   simp only [q 3 1 (by decide),q 3 2 (by decide),beq_self_eq_true,if_true,Bool.false_eq_true,if_false,Bool.and_eq_true] at hI ⊢
   have n1:=Z3 hI.1
   simp only [lS]
   omega
 by_cases k4:s.kind=4
 · rw [k4] at hI ⊢
   simp only [q 4 1 (by decide),q 4 2 (by decide),q 4 3 (by decide),beq_self_eq_true,if_true,Bool.false_eq_true,if_false,Bool.and_eq_true] at hI ⊢
   have n1:=Z3 hI.1
   simp only [lS]
   omega
 by_cases k5:s.kind=5
 · rw [k5] at hI ⊢
   simp only [q 5 1 (by decide),q 5 2 (by decide),q 5 3 (by decide),q 5 4 (by decide),beq_self_eq_true,if_true,Bool.false_eq_true,if_false,Bool.and_eq_true] at hI ⊢
   obtain ⟨⟨⟨h1,h2⟩,h3⟩,_⟩:=hI
   have n1:=Z3 h1
   have c1:(if decide (0<(s.cl.n:Int))=true then [32]++QA s.cl.n s.cl.f else []:List UInt8).length≤300:=by
    split
    · rename_i hp
      simp only [Bool.or_eq_true,beq_iff_eq] at h2
      simp only [decide_eq_true_eq] at hp
      rcases h2 with h2 | h2
      · omega
      have n3:=namesL_bound (ZT h2) L.ncl
      simp only [lS];omega
    simp
   have b1:=Ku (t:=fun i=>rowL (s.rw i).n (s.rw i).f) (B:=2400100) (fun i hi=>rowL_bound (fun j hj=>by
    obtain ⟨ds,ie⟩:=I.rw i hi j hj
    exact txt_light ie (P.rw i hi j hj) (L.rw i hi j hj) (by decide) (by decide)) (L.rn i hi)) L.nrw
   simp only [lS] at c1 ⊢
   omega
 by_cases k6:s.kind=6
 · rw [k6] at hI ⊢
   simp only [q 6 1 (by decide),q 6 2 (by decide),q 6 3 (by decide),q 6 4 (by decide),q 6 5 (by decide),beq_self_eq_true,if_true,Bool.false_eq_true,if_false,Bool.and_eq_true] at hI ⊢
   obtain ⟨⟨⟨h1,h2⟩,h3⟩,_⟩:=hI
   have n1:=Z3 h2
   have b1:=Ku (t:=fun i=>setL (s.st i)) (B:=200100) (fun i hi=>by
    obtain ⟨ds,ie⟩:=I.st i hi
    have:=txt_light ie (P.st i hi) (L.st i hi) (by decide) (by decide)
    have ht:=ZT h1 i hi
    simp only [setT,Bool.and_eq_true] at ht
    have n2:=Z3 ht.1
    simp only [setL,lS]
    omega) L.nst
   simp only [lS]
   omega
 by_cases k7:s.kind=7
 · rw [k7] at hI ⊢
   simp only [q 7 1 (by decide),q 7 2 (by decide),q 7 3 (by decide),q 7 4 (by decide),q 7 5 (by decide),q 7 6 (by decide),beq_self_eq_true,if_true,Bool.false_eq_true,if_false,Bool.and_eq_true] at hI ⊢
   obtain ⟨⟨h1,h3⟩,_⟩:=hI
   have n1:=Z3 h1
   simp only [lS]
   omega
 obtain k8:s.kind=8:=by omega
 rw [k8] at hI ⊢
 simp only [q 8 1 (by decide),q 8 2 (by decide),q 8 3 (by decide),q 8 4 (by decide),q 8 5 (by decide),q 8 6 (by decide),q 8 7 (by decide),beq_self_eq_true,if_true,Bool.false_eq_true,if_false,Bool.and_eq_true] at hI ⊢
 exact queryL_bound I L P hI.1
end Go.Proofs.YtddedijencleeaaGreatDoor
