/- The document's side: consistoryref1.plain, Is; consistoryref6.Compare, Rows: contracts. -/
import Derived.Test.YtddedijencleeaaGreatDoorMVal1
import Derived.Laws.Runes
import Derived.Test.YtddedijencleeaaGreatDoorSm
import Derived.Test.YtddedijencleeaaGreatDoorMSq
import Derived.Test.YtddedijencleeaaGreatDoorMGi
set_option linter.all false
namespace Go.Proofs.YtddedijencleeaaGreatDoor
set_option maxRecDepth 100000
open Tryz
open Go.RowKit

def plainB (s:ByteArray):Bool:=s.data.toList.all fun b=> !(b==0)

theorem plainB_mayB (s:ByteArray):decide (firstIdx s 0<0)=plainB s:=by
 have:=firstIdx_nonneg s 0
 unfold plainB
 rw [show (fun b:UInt8=> !(b==0))=(fun b:UInt8=> !((fun b:UInt8=>b==0) b)) from rfl]
 rw [← List.not_any_eq_all_not, ← this]
 by_cases h:0≤firstIdx s 0
 · simp [h] <;> omega
 simp [h] <;> omega

theorem ref1_plain (s:ByteArray) (w:World) (hs:s.size≤9223372036854775807):Calls prog 139 #[.string s] w fun e w'=>e= .returned (.bool (plainB s))∧w=w':=by
 go_enter func139,ntmps139
 go_wp2
 go_loop [3] (fun i=> ∃ k:Nat,k≤s.size∧i= .int .i64 k∧ ∀ (j:Nat) (b:UInt8),j<k→s.data.toList[j]?=some b→b≠0) (fun i=>s.size - (intOf i).toNat)
 case atStart=>exact ⟨0,Nat.zero_le _,rfl,fun j v hj=>absurd hj (by omega)⟩
 case round=>
  obtain ⟨k,hk,rfl,hall⟩:=hrel
  have HA:=Qh hall
  clear hall
  by_cases hlt:k<s.size
  · have hget:s.data.toList[k]?=some s[k]:=by
     rw [List.getElem?_eq_getElem (by simpa using hlt)];rfl
    have HG:=Qh hget
    clear hget
    go_wp2
    · have hz:((s[k].toNat:Int)==0)=true:=by assumption
      go_ret
      refine ⟨ret_bool ?_,rfl⟩
      unfold plainB
      symm
      rw [List.all_eq_false]
      refine ⟨s[k],List.mem_of_getElem? (Qa HG),?_⟩
      have:s[k].toNat=0:=by simpa using hz
      have:s[k]=0:=UInt8.toNat_inj.1 (by simpa using this)
      simp [this]
    have hz:((s[k].toNat:Int)==0)=false:=by assumption
    go_round
    case rel=>
     refine ⟨k+1,by omega,by go_num,fun j b hj hb=> ?_⟩
     by_cases hjk:j<k
     · exact (Qa HA) j b hjk hb
     have hje:j=k:=by omega
     subst hje
     rw [Qa HG] at hb
     injection hb with hb
     subst hb
     intro h0
     rw [h0] at hz
     simp at hz
    case measure=>simp [intOf];omega
  go_wp2
  go_ret
  refine ⟨ret_bool ?_,rfl⟩
  unfold plainB
  symm
  rw [List.all_eq_true]
  intro b hb
  obtain ⟨j,hj⟩:=List.getElem?_of_mem hb
  have hl:=(List.getElem?_eq_some_iff.1 hj).1
  have:=(Qa HA) j b (by simp at hl;have:s.data.size=s.size:=rfl;omega) hj
  simpa using this

theorem ref1_Is (k n:Int) (s:ByteArray) (w:World) (hs:s.size≤9223372036854775807) :
 Calls prog 50 #[.agg #[.int .i64 k,.int .i64 n,.string s]] w fun e w'=>e= .returned (.bool (mayB k n s))∧Below w.heap.size w w':=by
 have hB: ∀ o,Below w.heap.size w (w.alloc o):=fun o=>(Below.refl _ _).alloc (Nat.le_refl _) o
 have HB:=Lib.hid hB
 clear hB
 have HP:=fun w=>Qh (ref1_plain s w hs)
 go_enter func50,ntmps50
 go_wp2_with (go_at_call 139;refine (Qa (HP _)).mono ?_;rintro e w' ⟨rfl,rfl⟩)
 all_goals (go_ret;refine ⟨?_,HB.out _⟩)
 all_goals simp_all [mayB,plainB_mayB]
 all_goals (intros;omega)

end Go.Proofs.YtddedijencleeaaGreatDoor

/- tree.counted, none, blank, zero: contracts. -/
set_option linter.all false
namespace Go.Proofs.YtddedijencleeaaGreatDoor
set_option maxRecDepth 100000
open Tryz
open Go.RowKit Go.Lib RC

theorem KF (n a b:Int) (W:World):Calls prog 46 #[.int .i64 n,.int .i64 a,.int .i64 b] W fun r W'=>r= .returned (.bool (decide (a≤n)&&decide (n≤b)))∧Below W.heap.size W W':=by
 refine Qj (args:=[.int .i64 n,.int .i64 a,.int .i64 b]) (c:=Qt f46) func46 rfl (by kernel_rfl) fun a0 hst=> ?_
 obtain ⟨z1,hz1⟩: ∃ z,(decide (a≤n))=z:=⟨_,rfl⟩
 have L1:=nGe W hz1
 obtain ⟨z2,hz2⟩: ∃ z,(decide (n≤b))=z:=⟨_,rfl⟩
 have L2:=nLe W hz2
 cases z1
 · exact gE hst (Zg L1) [.bool false] fun w' hw=>⟨by rw [hz1];rfl,hw⟩
 exact gE hst (Km L1 L2) [.bool z2] fun w' hw=>⟨by rw [hz1,hz2];rfl,hw⟩
noncomputable def noneB (s:ByteArray):Bool:=QB s ⟨#[]⟩||QD s
theorem none_ok (s:ByteArray) (hn:s.size≤9223372036854775807) (W:World):Calls prog 45 #[.string s] W fun r W'=>r= .returned (.bool (noneB s))∧Below W.heap.size W W':=by
 refine Qj (args:=[.string s]) (c:=Qt f45) func45 rfl (by kernel_rfl) fun a0 hst=> ?_
 obtain ⟨z1,hz1⟩: ∃ z,(QB s ⟨#[]⟩)=z:=⟨_,rfl⟩
 have E1:=sd W (Qb.strEq (t:=9) (a:=s) (b:=⟨#[]⟩) (z:=z1) (by rw [← hz1];rfl))
 have C1:Sd W (.call 44 [.string s] (.bool (QD s))):=Qb.of func44 rfl Qd (fun w hw=>Z4 s hn w)
 cases z1
 · exact gE hst (Km E1 C1) [.bool (QD s)] fun w' hw=>⟨by rw [noneB,hz1];rfl,hw⟩
 exact gE hst (Zg E1) [.bool true] fun w' hw=>⟨by rw [noneB,hz1];rfl,hw⟩
def ZB (op vk vn:Int) (vt tb nm:ByteArray) (pl ty:Int):Bool:=op==0&&valB vk vn 0 0 vt ⟨#[]⟩&&QB tb ⟨#[]⟩&&QB nm ⟨#[]⟩&&pl==0&&ty==0
theorem blank_ok (k op vk vn:Int) (vt tb nm:ByteArray) (A:Option Addr) (n c:Nat) (pl ty:Int) (W:World) :
 Calls prog 47 #[eV k op vk vn vt tb nm A n c pl ty] W fun r W'=>r= .returned (.bool (ZB op vk vn vt tb nm pl ty))∧Below W.heap.size W W':=by
 refine Qj (args:=[eV k op vk vn vt tb nm A n c pl ty]) (c:=Qt f47) func47 rfl (by kernel_rfl) fun a0 hst=> ?_
 obtain ⟨z1,hz1⟩: ∃ z,(op==0)=z:=⟨_,rfl⟩
 have E1:=QN W hz1
 obtain ⟨z2,hz2⟩: ∃ z,(valB vk vn 0 0 vt ⟨#[]⟩)=z:=⟨_,rfl⟩
 have E2:=sd W (Qb.aggEq (t:=31) (z:=z2) (by kernel_rfl) fun w=>(eqVal vk vn vt 0 0 ⟨#[]⟩ w).trans (by rw [← hz2]))
 obtain ⟨z3,hz3⟩: ∃ z,(QB tb ⟨#[]⟩)=z:=⟨_,rfl⟩
 have E3:=sd W (Qb.strEq (t:=9) (a:=tb) (b:=⟨#[]⟩) (z:=z3) (by rw [← hz3];rfl))
 obtain ⟨z4,hz4⟩: ∃ z,(QB nm ⟨#[]⟩)=z:=⟨_,rfl⟩
 have E4:=sd W (Qb.strEq (t:=9) (a:=nm) (b:=⟨#[]⟩) (z:=z4) (by rw [← hz4];rfl))
 obtain ⟨z5,hz5⟩: ∃ z,(pl==0)=z:=⟨_,rfl⟩
 have E5:=QN W hz5
 obtain ⟨z6,hz6⟩: ∃ z,(ty==0)=z:=⟨_,rfl⟩
 have E6:=QN W hz6
 cases z1
 · exact gE hst (Zg E1) [.bool false] fun w' hw=>⟨by simp only [ZB,hz1,Bool.and_false,Bool.false_and];rfl,hw⟩
 cases z2
 · exact gE hst (Km E1 E2) [.bool false] fun w' hw=>⟨by simp only [ZB,hz1,hz2,Bool.and_false,Bool.false_and];rfl,hw⟩
 cases z3
 · exact gE hst (kE3 E1 E2 E3) [.bool false] fun w' hw=>⟨by simp only [ZB,hz1,hz2,hz3,Bool.and_false,Bool.false_and];rfl,hw⟩
 cases z4
 · exact gE hst (Jf E1 E2 E3 E4) [.bool false] fun w' hw=>⟨by simp only [ZB,hz1,hz2,hz3,hz4,Bool.and_false,Bool.false_and];rfl,hw⟩
 cases z5
 · exact gE hst (kE5 E1 E2 E3 E4 E5) [.bool false] fun w' hw=>⟨by simp only [ZB,hz1,hz2,hz3,hz4,hz5,Bool.and_false,Bool.false_and];rfl,hw⟩
 exact gE hst (Je E1 E2 E3 E4 E5 E6) [.bool z6] fun w' hw=>⟨by rw [ZB,hz1,hz2,hz3,hz4,hz5,hz6];rfl,hw⟩
def ZA (k op vk vn:Int) (vt tb nm:ByteArray) (n:Nat) (pl ty:Int):Bool:=k==0&&ZB op vk vn vt tb nm pl ty&&((n:Int)==0)
theorem zero_ok (k op vk vn:Int) (vt tb nm:ByteArray) (A:Option Addr) (n c:Nat) (pl ty:Int) (W:World) :
 Calls prog 161 #[eV k op vk vn vt tb nm A n c pl ty] W fun r W'=>r= .returned (.bool (ZA k op vk vn vt tb nm n pl ty))∧Below W.heap.size W W':=by
 refine Qj (args:=[eV k op vk vn vt tb nm A n c pl ty]) (c:=Qt f161) func161 rfl (by kernel_rfl) fun a0 hst=> ?_
 obtain ⟨z1,hz1⟩: ∃ z,(k==0)=z:=⟨_,rfl⟩
 have E1:=QN W hz1
 obtain ⟨z2,hz2⟩: ∃ z,ZB op vk vn vt tb nm pl ty=z:=⟨_,rfl⟩
 have C2:Sd W (.call 47 [eV k op vk vn vt tb nm A n c pl ty] (.bool z2)):=by
  rw [← hz2]
  exact QwuV
 obtain ⟨z3,hz3⟩: ∃ z,(((n:Nat):Int)==0)=z:=⟨_,rfl⟩
 have E3:=QN W hz3
 cases z1
 · exact gE hst (Zg E1) [.bool false] fun w' hw=>⟨by simp only [ZA,hz1,Bool.and_false,Bool.false_and];rfl,hw⟩
 cases z2
 · exact gE hst (Km E1 C2) [.bool false] fun w' hw=>⟨by simp only [ZA,hz1,hz2,Bool.and_false,Bool.false_and];rfl,hw⟩
 exact gE hst (kE3 E1 C2 E3) [.bool z3] fun w' hw=>⟨by rw [ZA,hz1,hz2,hz3];rfl,hw⟩
end Go.Proofs.YtddedijencleeaaGreatDoor

/- tree.IsExpr: contract. -/
set_option linter.all false
namespace Go.Proofs.YtddedijencleeaaGreatDoor
set_option maxRecDepth 100000
set_option maxHeartbeats 4000000
open Tryz
open Go.RowKit Go.Lib RC

noncomputable def okT (k op vk vn:Int) (vt tb nm:ByteArray) (n:Nat) (pl ty:Int):Bool:=
 if k==1 then (n:Int)==0&&mayB vk vn vt&&ZB op 0 0 ⟨#[]⟩ tb nm pl ty
 else if k==2 then (n:Int)==0&&QD nm&&noneB tb&&ZB op vk vn vt ⟨#[]⟩ ⟨#[]⟩ pl ty
 else if k==3 then (n:Int)==1&&(decide (1≤op)&&decide (op≤4))&&ZB 0 vk vn vt tb nm pl ty
 else if k==4 then (n:Int)==2&&(decide (5≤op)&&decide (op≤18))&&ZB 0 vk vn vt tb nm pl ty
 else if k==5 then (decide (2≤(n:Int))&&decide ((n:Int)≤11))&&ZB op vk vn vt tb nm pl ty
 else if k==6 then (decide (2≤(n:Int))&&decide ((n:Int)≤21))&&ZB op vk vn vt tb nm pl ty
 else if k==7 then (decide (19≤op)&&decide (op≤22))&&((n:Int)==1||((n:Int)==0&&op==19))&&ZB 0 vk vn vt tb nm pl ty
 else false
noncomputable def QH:E→Bool
 | .no=>false
 | .mk k op vk vn vt tb nm n args pl ty=>okT k op vk vn vt tb nm n pl ty&&Zd n fun i=>QH (args i)
theorem KY: ∀ (e:E) (cs:List Value) (W:World),QI W e cs →
 Calls prog 14 #[.agg cs.toArray] W fun r W'=>r= .returned (.bool (QH e))∧Below W.heap.size W W'
 | .no,_,_,h=>False.elim h
 | .mk k op vk vn vt tb nm n args pl ty,cs,W,h=>by
   have HF:=fun (i:Nat) (cs:List Value) (W':World) (h:QI W' (args i) cs)=>KY (args i) cs W' h
   obtain ⟨wf,v,rfl,hv⟩:=h
   have hsl:QR W 10 120 n v (fun i ds=>QI W (args i) ds):=hv
   clear hv
   obtain ⟨A,c,rfl⟩:=QR.form hsl
   have w1:=wf.vt
   have w2:=wf.tb
   have w3:=wf.nm
   clear wf
   obtain ⟨zA,hzA⟩: ∃ z,(Zd n fun i=>QH (args i))=z:=⟨_,rfl⟩
   have AL:Sd W (.call 48 [.slice A n c,.func (Fn.func 14) #[] #[]] (.bool zA)):=by
    rw [← hzA]
    exact Qb.of func48 rfl Qd (fun w hw=>all_Expr (Zz func14 Qd rfl) QncV (fun W' hb i cs hi hP hl=>HF i cs W' (QI.sub (.below hb) hP)))
   refine Qj (args:=[.agg (ZG k op vk vn vt tb nm (.slice A n c) pl ty).toArray]) (c:=Qt f14) func14 rfl (by kernel_rfl) fun a0 hst=> ?_
   obtain ⟨y1,hy1⟩: ∃ z,(k==1)=z:=⟨_,rfl⟩
   have K1:=QN W hy1
   cases y1
   rotate_left
   · obtain ⟨n0,hn0⟩: ∃ z,(((n:Nat):Int)==0)=z:=⟨_,rfl⟩
     have N0:=QN W hn0
     obtain ⟨mi,hmi⟩: ∃ z,(mayB vk vn vt)=z:=⟨_,rfl⟩
     have MI:Sd W (.call 43 [.agg #[.int .i64 vk,.int .i64 vn,.string vt]] (.bool mi)):=by
      rw [← hmi]
      exact Qb.of func43 rfl Qd (fun w hw=>value_Is vk vn vt w w1)
     obtain ⟨bl,hbl⟩: ∃ z,(ZB op 0 0 ⟨#[]⟩ tb nm pl ty)=z:=⟨_,rfl⟩
     have BL:Sd W (.call 47 [.agg #[.int .i64 k,.int .i64 op,.int .i64 0,.int .i64 0,.string ⟨#[]⟩,.string tb,.string nm,.slice A n c,.int .i64 pl,.int .i64 ty]] (.bool bl)):=by
      rw [← hbl]
      exact Qb.of func47 rfl Qd (fun w hw=>blank_ok k op 0 0 ⟨#[]⟩ tb nm A n c pl ty w)
     cases n0
     · exact gE hst (Km K1 N0) [.bool false] fun w' hw=>⟨by simp only [QH,okT,hy1,hn0,bS];rfl,hw⟩
     cases mi
     · exact gE hst (kE3 K1 N0 MI) [.bool false] fun w' hw=>⟨by simp only [QH,okT,hy1,hn0,hmi,bS];rfl,hw⟩
     cases bl
     · exact gE hst (Jf K1 N0 MI BL) [.bool false] fun w' hw=>⟨by simp only [QH,okT,hy1,hn0,hmi,hbl,bS];rfl,hw⟩
     exact gE hst (kE5 K1 N0 MI BL AL) [.bool zA] fun w' hw=>⟨by simp only [QH,okT,hy1,hn0,hmi,hbl,hzA,bS];rfl,hw⟩
   obtain ⟨y2,hy2⟩: ∃ z,(k==2)=z:=⟨_,rfl⟩
   have K2:=QN W hy2
   cases y2
   rotate_left
   · obtain ⟨n0,hn0⟩: ∃ z,(((n:Nat):Int)==0)=z:=⟨_,rfl⟩
     have N0:=QN W hn0
     obtain ⟨na,hna⟩: ∃ z,(QD nm)=z:=⟨_,rfl⟩
     have NA:Sd W (.call 44 [.string nm] (.bool na)):=by
      rw [← hna]
      exact Qb.of func44 rfl Qd (fun w hw=>Z4 nm w3 w)
     obtain ⟨no,hno⟩: ∃ z,(noneB tb)=z:=⟨_,rfl⟩
     have NO:Sd W (.call 45 [.string tb] (.bool no)):=by
      rw [← hno]
      exact Qb.of func45 rfl Qd (fun w hw=>none_ok tb w2 w)
     obtain ⟨bl,hbl⟩: ∃ z,(ZB op vk vn vt ⟨#[]⟩ ⟨#[]⟩ pl ty)=z:=⟨_,rfl⟩
     have BL:Sd W (.call 47 [.agg #[.int .i64 k,.int .i64 op,.int .i64 vk,.int .i64 vn,.string vt,.string ⟨#[]⟩,.string ⟨#[]⟩,.slice A n c,.int .i64 pl,.int .i64 ty]] (.bool bl)):=by
      rw [← hbl]
      exact Qb.of func47 rfl Qd (fun w hw=>blank_ok k op vk vn vt ⟨#[]⟩ ⟨#[]⟩ A n c pl ty w)
     cases n0
     · exact gE hst (kE3 K1 K2 N0) [.bool false] fun w' hw=>⟨by simp only [QH,okT,hy1,hy2,hn0,bS];rfl,hw⟩
     cases na
     · exact gE hst (Jf K1 K2 N0 NA) [.bool false] fun w' hw=>⟨by simp only [QH,okT,hy1,hy2,hn0,hna,bS];rfl,hw⟩
     cases no
     · exact gE hst (kE5 K1 K2 N0 NA NO) [.bool false] fun w' hw=>⟨by simp only [QH,okT,hy1,hy2,hn0,hna,hno,bS];rfl,hw⟩
     cases bl
     · exact gE hst (Je K1 K2 N0 NA NO BL) [.bool false] fun w' hw=>⟨by simp only [QH,okT,hy1,hy2,hn0,hna,hno,hbl,bS];rfl,hw⟩
     exact gE hst (kE7 K1 K2 N0 NA NO BL AL) [.bool zA] fun w' hw=>⟨by simp only [QH,okT,hy1,hy2,hn0,hna,hno,hbl,hzA,bS];rfl,hw⟩
   obtain ⟨y3,hy3⟩: ∃ z,(k==3)=z:=⟨_,rfl⟩
   have K3:=QN W hy3
   cases y3
   rotate_left
   · obtain ⟨n0,hn0⟩: ∃ z,(((n:Nat):Int)==1)=z:=⟨_,rfl⟩
     have N0:=QN W hn0
     obtain ⟨co,hco⟩: ∃ z,(decide (1≤op)&&decide (op≤4))=z:=⟨_,rfl⟩
     have CO:Sd W (.call 46 [.int .i64 op,.int .i64 1,.int .i64 4] (.bool co)):=by
      rw [← hco]
      exact Qb.of func46 rfl Qd (fun w hw=>KF op 1 4 w)
     obtain ⟨bl,hbl⟩: ∃ z,(ZB 0 vk vn vt tb nm pl ty)=z:=⟨_,rfl⟩
     have BL:Sd W (.call 47 [eV k 0 vk vn vt tb nm A n c pl ty] (.bool bl)):=by
      rw [← hbl]
      exact QGgG
     cases n0
     · exact gE hst (Jf K1 K2 K3 N0) [.bool false] fun w' hw=>⟨by simp only [QH,okT,hy1,hy2,hy3,hn0,bS];rfl,hw⟩
     cases co
     · exact gE hst (kE5 K1 K2 K3 N0 CO) [.bool false] fun w' hw=>⟨by simp only [QH,okT,hy1,hy2,hy3,hn0,hco,bS];rfl,hw⟩
     cases bl
     · exact gE hst (Je K1 K2 K3 N0 CO BL) [.bool false] fun w' hw=>⟨by simp only [QH,okT,hy1,hy2,hy3,hn0,hco,hbl,bS];rfl,hw⟩
     exact gE hst (kE7 K1 K2 K3 N0 CO BL AL) [.bool zA] fun w' hw=>⟨by simp only [QH,okT,hy1,hy2,hy3,hn0,hco,hbl,hzA,bS];rfl,hw⟩
   obtain ⟨y4,hy4⟩: ∃ z,(k==4)=z:=⟨_,rfl⟩
   have K4:=QN W hy4
   cases y4
   rotate_left
   · obtain ⟨n0,hn0⟩: ∃ z,(((n:Nat):Int)==2)=z:=⟨_,rfl⟩
     have N0:=QN W hn0
     obtain ⟨co,hco⟩: ∃ z,(decide (5≤op)&&decide (op≤18))=z:=⟨_,rfl⟩
     have CO:Sd W (.call 46 [.int .i64 op,.int .i64 5,.int .i64 18] (.bool co)):=by
      rw [← hco]
      exact Qb.of func46 rfl Qd (fun w hw=>KF op 5 18 w)
     obtain ⟨bl,hbl⟩: ∃ z,(ZB 0 vk vn vt tb nm pl ty)=z:=⟨_,rfl⟩
     have BL:Sd W (.call 47 [eV k 0 vk vn vt tb nm A n c pl ty] (.bool bl)):=by
      rw [← hbl]
      exact QGgG
     cases n0
     · exact gE hst (kE5 K1 K2 K3 K4 N0) [.bool false] fun w' hw=>⟨by simp only [QH,okT,hy1,hy2,hy3,hy4,hn0,bS];rfl,hw⟩
     cases co
     · exact gE hst (Je K1 K2 K3 K4 N0 CO) [.bool false] fun w' hw=>⟨by simp only [QH,okT,hy1,hy2,hy3,hy4,hn0,hco,bS];rfl,hw⟩
     cases bl
     · exact gE hst (kE7 K1 K2 K3 K4 N0 CO BL) [.bool false] fun w' hw=>⟨by simp only [QH,okT,hy1,hy2,hy3,hy4,hn0,hco,hbl,bS];rfl,hw⟩
     exact gE hst (kE8 K1 K2 K3 K4 N0 CO BL AL) [.bool zA] fun w' hw=>⟨by simp only [QH,okT,hy1,hy2,hy3,hy4,hn0,hco,hbl,hzA,bS];rfl,hw⟩
   obtain ⟨y5,hy5⟩: ∃ z,(k==5)=z:=⟨_,rfl⟩
   have K5:=QN W hy5
   cases y5
   rotate_left
   · obtain ⟨co,hco⟩: ∃ z,(decide (2≤((n:Nat):Int))&&decide (((n:Nat):Int)≤11))=z:=⟨_,rfl⟩
     have CO:Sd W (.call 46 [.int .i64 ((n:Nat):Int),.int .i64 2,.int .i64 11] (.bool co)):=by
      rw [← hco]
      exact Qb.of func46 rfl Qd (fun w hw=>KF ((n:Nat):Int) 2 11 w)
     obtain ⟨bl,hbl⟩: ∃ z,(ZB op vk vn vt tb nm pl ty)=z:=⟨_,rfl⟩
     have BL:Sd W (.call 47 [eV k op vk vn vt tb nm A n c pl ty] (.bool bl)):=by
      rw [← hbl]
      exact QwuV
     cases co
     · exact gE hst (Je K1 K2 K3 K4 K5 CO) [.bool false] fun w' hw=>⟨by simp only [QH,okT,hy1,hy2,hy3,hy4,hy5,hco,bS];rfl,hw⟩
     cases bl
     · exact gE hst (kE7 K1 K2 K3 K4 K5 CO BL) [.bool false] fun w' hw=>⟨by simp only [QH,okT,hy1,hy2,hy3,hy4,hy5,hco,hbl,bS];rfl,hw⟩
     exact gE hst (kE8 K1 K2 K3 K4 K5 CO BL AL) [.bool zA] fun w' hw=>⟨by simp only [QH,okT,hy1,hy2,hy3,hy4,hy5,hco,hbl,hzA,bS];rfl,hw⟩
   obtain ⟨y6,hy6⟩: ∃ z,(k==6)=z:=⟨_,rfl⟩
   have K6:=QN W hy6
   cases y6
   rotate_left
   · obtain ⟨co,hco⟩: ∃ z,(decide (2≤((n:Nat):Int))&&decide (((n:Nat):Int)≤21))=z:=⟨_,rfl⟩
     have CO:Sd W (.call 46 [.int .i64 ((n:Nat):Int),.int .i64 2,.int .i64 21] (.bool co)):=by
      rw [← hco]
      exact Qb.of func46 rfl Qd (fun w hw=>KF ((n:Nat):Int) 2 21 w)
     obtain ⟨bl,hbl⟩: ∃ z,(ZB op vk vn vt tb nm pl ty)=z:=⟨_,rfl⟩
     have BL:Sd W (.call 47 [eV k op vk vn vt tb nm A n c pl ty] (.bool bl)):=by
      rw [← hbl]
      exact QwuV
     cases co
     · exact gE hst (kE7 K1 K2 K3 K4 K5 K6 CO) [.bool false] fun w' hw=>⟨by simp only [QH,okT,hy1,hy2,hy3,hy4,hy5,hy6,hco,bS];rfl,hw⟩
     cases bl
     · exact gE hst (kE8 K1 K2 K3 K4 K5 K6 CO BL) [.bool false] fun w' hw=>⟨by simp only [QH,okT,hy1,hy2,hy3,hy4,hy5,hy6,hco,hbl,bS];rfl,hw⟩
     exact gE hst (kE9 K1 K2 K3 K4 K5 K6 CO BL AL) [.bool zA] fun w' hw=>⟨by simp only [QH,okT,hy1,hy2,hy3,hy4,hy5,hy6,hco,hbl,hzA,bS];rfl,hw⟩
   obtain ⟨y7,hy7⟩: ∃ z,(k==7)=z:=⟨_,rfl⟩
   have K7:=QN W hy7
   cases y7
   rotate_left
   · obtain ⟨co,hco⟩: ∃ z,(decide (19≤op)&&decide (op≤22))=z:=⟨_,rfl⟩
     have CO:Sd W (.call 46 [.int .i64 op,.int .i64 19,.int .i64 22] (.bool co)):=by
      rw [← hco]
      exact Qb.of func46 rfl Qd (fun w hw=>KF op 19 22 w)
     obtain ⟨n1,hn1⟩: ∃ z,(((n:Nat):Int)==1)=z:=⟨_,rfl⟩
     have N1:=QN W hn1
     obtain ⟨n0,hn0⟩: ∃ z,(((n:Nat):Int)==0)=z:=⟨_,rfl⟩
     have N0:=QN W hn0
     obtain ⟨o9,ho9⟩: ∃ z,(op==19)=z:=⟨_,rfl⟩
     have O9:=QN W ho9
     obtain ⟨bl,hbl⟩: ∃ z,(ZB 0 vk vn vt tb nm pl ty)=z:=⟨_,rfl⟩
     have BL:Sd W (.call 47 [eV k 0 vk vn vt tb nm A n c pl ty] (.bool bl)):=by
      rw [← hbl]
      exact QGgG
     cases co
     · exact gE hst (kE8 K1 K2 K3 K4 K5 K6 K7 CO) [.bool false] fun w' hw=>⟨by simp only [QH,okT,hy1,hy2,hy3,hy4,hy5,hy6,hy7,hco,bS];rfl,hw⟩
     cases n1
     · cases n0
       · exact gE hst (Kr K1 K2 K3 K4 K5 K6 K7 CO N1 N0) [.bool false] fun w' hw=>⟨by simp only [QH,okT,hy1,hy2,hy3,hy4,hy5,hy6,hy7,hco,hn1,hn0,bS];rfl,hw⟩
       · cases o9
         · exact gE hst (JD K1 K2 K3 K4 K5 K6 K7 CO N1 N0 O9) [.bool false] fun w' hw=>⟨by simp only [QH,okT,hy1,hy2,hy3,hy4,hy5,hy6,hy7,hco,hn1,hn0,ho9,bS];rfl,hw⟩
         · cases bl
           · exact gE hst (kE12 K1 K2 K3 K4 K5 K6 K7 CO N1 N0 O9 BL) [.bool false] fun w' hw=>⟨by simp only [QH,okT,hy1,hy2,hy3,hy4,hy5,hy6,hy7,hco,hn1,hn0,ho9,hbl,bS];rfl,hw⟩
           · exact gE hst (kE13 K1 K2 K3 K4 K5 K6 K7 CO N1 N0 O9 BL AL) [.bool zA] fun w' hw=>⟨by simp only [QH,okT,hy1,hy2,hy3,hy4,hy5,hy6,hy7,hco,hn1,hn0,ho9,hbl,hzA,bS];rfl,hw⟩
     · cases bl
       · exact gE hst (Kr K1 K2 K3 K4 K5 K6 K7 CO N1 BL) [.bool false] fun w' hw=>⟨by simp only [QH,okT,hy1,hy2,hy3,hy4,hy5,hy6,hy7,hco,hn1,hbl,bS];rfl,hw⟩
       · exact gE hst (JD K1 K2 K3 K4 K5 K6 K7 CO N1 BL AL) [.bool zA] fun w' hw=>⟨by simp only [QH,okT,hy1,hy2,hy3,hy4,hy5,hy6,hy7,hco,hn1,hbl,hzA,bS];rfl,hw⟩
   exact gE hst (kE7 K1 K2 K3 K4 K5 K6 K7) [.bool false] fun w' hw=>⟨by simp only [QH,okT,hy1,hy2,hy3,hy4,hy5,hy6,hy7,bS];rfl,hw⟩
end Go.Proofs.YtddedijencleeaaGreatDoor
