/- consistoryref6.Digits, Print: contracts. -/
import Derived.Test.YtddedijencleeaaGreatDoorSm
import Derived.Test.YtddedijencleeaaGreatDoorMVa
import Derived.Laws.BytesArg
import Derived.Test.YtddedijencleeaaGreatDoorMBits
import Derived.Test.YtddedijencleeaaGreatDoorMTu
import Derived.Lib.BufSteps
import Derived.Lib.ItoaLen
set_option linter.all false
namespace Go.Proofs.YtddedijencleeaaGreatDoor
set_option maxRecDepth 100000
set_option maxHeartbeats 1000000
open Tryz
open Go.RowKit Go.Lib

def nums (xs:List Int):List Value:=xs.map (Value.int .u8)
theorem conv_zero {P:Program} (w:World) (src e:TypeId) (hs:P.underlying src=some (.slice e)) (he:P.underlying e=some (.int .u8)) (A:Option Addr) (c:Nat) :
 ∀ dst,P.underlying dst=some .string→(convert src dst (.slice A 0 c)).run P w= .ok (.string (strOfNums [])) w:=by
 intro dst hd
 rw [run_convert_bytes_string w src dst e _ 0 c hs he hd]
 cases A <;> simp [Conv.bytesToString,strOfNums] <;> rfl
theorem JB.conv {P:Program} {w:World} {A:Option Addr} {n:Nat} {xs:List Int} (h:JB w 1 A n (nums xs)) (src e:TypeId) (hs:P.underlying src=some (.slice e)) (he:P.underlying e=some (.int .u8)) (c:Nat) :
 ∀ dst,P.underlying dst=some .string→(convert src dst (.slice A n c)).run P w= .ok (.string (strOfNums xs)) w:=by
 have hl:xs.length=n:=by have:=h.1;simpa [nums] using this
 rcases Nat.eq_zero_or_pos n with hn | hn
 · subst hn
   obtain rfl:xs=[]:=List.eq_nil_of_length_eq_zero hl
   exact conv_zero w src e hs he A c
 obtain ⟨b,o,rfl,_,hc⟩:=h.2 hn
 refine run_convert_bytes_arg (P:=P) w src e hs he b o n c xs hl fun i hi=> ?_
 exact hc i _ (by simp [nums,List.getD,List.getElem?_eq_getElem (show i<xs.length by omega)])

theorem wrapU (x:Int):IntKind.wrap .u64 x=x % 18446744073709551616:=by
 unfold IntKind.wrap
 have e1:(2 ^ IntKind.u64.bits:Int)=18446744073709551616:=by decide
 rw [e1];rfl
theorem uneg {a:Int} (ha:KM a) (h:a<0):IntKind.u64.wrap (-IntKind.u64.wrap a)=(a.natAbs:Int):=by
 unfold KM at ha
 rw [wrapU,wrapU];omega
theorem upos {a:Int} (ha:KM a) (h: ¬ a<0):IntKind.u64.wrap a=(a.natAbs:Int):=by
 unfold KM at ha
 rw [wrapU];omega
def natOfV:Value→Nat
 | .int _ n=>n.toNat
 | _=>0
theorem digit_str (U:Nat): ∃ d:ByteArray,strOfNums [48+(U:Int) % 10]=d∧d.size=1∧d.data.toList=[UInt8.ofNat (48+U % 10)]:=by
 refine ⟨_,rfl,?_,?_⟩
 · show (strOfNums [48+(U:Int) % 10]).data.size=1
   rw [← Array.length_toList,strOfNums_data,List.length_map]
   rfl
 rw [strOfNums_data]
 show [(48+(U:Int) % 10).toNat.toUInt8]=_
 have e:(48+(U:Int) % 10).toNat=48+U % 10:=by omega
 rw [e]
theorem dec_small {U:Nat} (h:U<10):Lib.decDigits U=[UInt8.ofNat (48+U % 10)]:=by rw [Lib.decDigits_one h,Nat.mod_eq_of_lt h]
theorem dec_big {U:Nat} (h: ¬ U<10):Lib.decDigits U=Lib.decDigits (U / 10)++[UInt8.ofNat (48+U % 10)]:=by rw [Lib.decDigits,dif_neg h]
theorem dec_room {N U:Nat} {t:ByteArray} (hN:N≤9223372036854775808) (h:Lib.decDigits N=Lib.decDigits U++t.data.toList):t.size≤20:=by
 have h1:=congrArg List.length h
 rw [List.length_append,Lib.decDigits_length] at h1
 have h2:=Lib.nDigits_le20 N (by omega)
 have e:t.data.toList.length=t.size:=by rw [Array.length_toList];rfl
 omega
theorem row1 (W:World) (c:Int) (T:TypeId):JB (W.alloc (.cells #[.int .u8 c] T)) 1 (some ⟨W.heap.size,0,none⟩) 1 (nums [c]):=by
 refine ⟨rfl,fun _=>⟨_,_,rfl,by simp,fun j u hu=> ?_⟩⟩
 match j,hu with
 | 0,hu=>
  simp [nums] at hu
  subst hu
  have hb:(W.alloc (.cells #[.int .u8 c] T)).heap[W.heap.size]?=some (.cells #[.int .u8 c] T (0,0)):=by
   show (W.heap.push _)[W.heap.size]?=_
   simp
  simp only [World.cell?,hb,Nat.zero_add,Nat.add_zero]
  rfl
 | j+1,hu=>simp [nums] at hu
theorem bytes_ext {s t:ByteArray} (h:s.data.toList=t.data.toList):s=t:=ByteArray.ext (Array.ext' h)
theorem Zy (s t:ByteArray):(s++t).data.toList=s.data.toList++t.data.toList:=by simp
theorem ref6_Digits (n:Int) (w:World) (hn:KM n) :
 Calls prog 119 #[.int .i64 n] w fun e w'=>e= .returned (.string ⟨(Lib.itoa n).toArray⟩)∧Below w.heap.size w w':=by
 by_cases h0:n<0
 · have e0:=uneg hn h0
   have k0:decide (n<0)=true:=decide_eq_true h0
   unfold KM at hn
   obtain ⟨N,hN⟩: ∃ N:Nat,N=n.natAbs:=⟨_,rfl⟩
   have hN64:N≤9223372036854775808:=by omega
   have HR:Hid (Lib.itoa n=45::Lib.decDigits N):=Qh (by unfold Lib.itoa;rw [if_pos h0,hN])
   rw [← hN] at e0
   clear hN hn h0
   go_enter func119,ntmps119
   go_wp2
   go_loopw [3,4] (fun u s wr=> ∃ (U:Nat) (t:ByteArray),u= .int .u64 U∧s= .string t∧U≤9223372036854775808∧t.size≤30∧Hid (Lib.decDigits N=Lib.decDigits U++t.data.toList)∧Below w.heap.size w wr) (fun u _ _=>natOfV u)
   case atStart=>exact ⟨N,⟨#[]⟩,rfl,rfl,hN64,by decide,Qh (by simp),Below.refl _ _⟩
   case round=>
    obtain ⟨U,t,rfl,rfl,hU,ht,HD,hb⟩:=hrel
    have hs1:=hb.size
    have HB:=Qh hb
    clear hb
    obtain ⟨d,hd,hd1,hd2⟩:=digit_str U
    have hcv:=(row1 wr (48+(U:Int) % 10) 5).conv (P:=prog) 72 5 underlying72 underlying5 1 9 underlying9
    rw [hd] at hcv
    have HD2:=Qh hd2
    clear hd hd2
    by_cases hu:U<10
    · have q:((U:Int) / 10==0)=true:=by rw [beq_iff_eq];omega
      go_wp2
      go_ret
      refine ⟨congrArg (fun z=>Ending.returned (.string z)) (bytes_ext ?_),(Qa HB).alloc hs1 _⟩
      rw [Qa HR,Qa HD,dec_small hu, ← Qa HD2]
      simp
    have q:((U:Int) / 10==0)=false:=by rw [beq_eq_false_iff_ne];omega
    go_wp2
    have e:Lib.decDigits N=Lib.decDigits (U / 10)++(d++t).data.toList:=by
     rw [Qa HD,dec_big hu,Zy,Qa HD2,List.append_assoc]
    exact QLs2
 have e0:=upos hn h0
 have k0:decide (n<0)=false:=decide_eq_false h0
 unfold KM at hn
 obtain ⟨N,hN⟩: ∃ N:Nat,N=n.natAbs:=⟨_,rfl⟩
 have hN64:N≤9223372036854775808:=by omega
 have HR:Hid (Lib.itoa n=Lib.decDigits N):=Qh (by unfold Lib.itoa;rw [if_neg h0,hN];congr 1;omega)
 rw [← hN] at e0
 clear hN hn h0
 go_enter func119,ntmps119
 go_wp2
 go_loopw [3,4] (fun u s wr=> ∃ (U:Nat) (t:ByteArray),u= .int .u64 U∧s= .string t∧U≤9223372036854775808∧t.size≤30∧Hid (Lib.decDigits N=Lib.decDigits U++t.data.toList)∧Below w.heap.size w wr) (fun u _ _=>natOfV u)
 case atStart=>exact ⟨N,⟨#[]⟩,rfl,rfl,hN64,by decide,Qh (by simp),Below.refl _ _⟩
 case round=>
  obtain ⟨U,t,rfl,rfl,hU,ht,HD,hb⟩:=hrel
  have hs1:=hb.size
  have HB:=Qh hb
  clear hb
  obtain ⟨d,hd,hd1,hd2⟩:=digit_str U
  have hcv:=(row1 wr (48+(U:Int) % 10) 5).conv (P:=prog) 72 5 underlying72 underlying5 1 9 underlying9
  rw [hd] at hcv
  have HD2:=Qh hd2
  clear hd hd2
  by_cases hu:U<10
  · have q:((U:Int) / 10==0)=true:=by rw [beq_iff_eq];omega
    go_wp2
    go_ret
    refine ⟨congrArg (fun z=>Ending.returned (.string z)) (bytes_ext ?_),(Qa HB).alloc hs1 _⟩
    rw [Qa HR,Qa HD,dec_small hu, ← Qa HD2]
    simp
  have q:((U:Int) / 10==0)=false:=by rw [beq_eq_false_iff_ne];omega
  go_wp2
  have e:Lib.decDigits N=Lib.decDigits (U / 10)++(d++t).data.toList:=by
   rw [Qa HD,dec_big hu,Zy,Qa HD2,List.append_assoc]
  exact QLs2
def bcells (l:List UInt8):List Value:=nums (l.map fun b=>(b.toNat:Int))
theorem bcells_app (l:List UInt8) (b:UInt8):bcells (l++[b])=bcells l++[.int .u8 (b.toNat:Int)]:=by simp [bcells,nums]
theorem owns_reads1 {w:World} {B:Nat} {e:TypeId} {v:Value} {n:Nat} {xs:List Value} (h:w.ownsRowF B e 1 v n xs): ∃ A c,v= .slice A n c∧JB w 1 A n xs:=by
 have hlen:=h.1
 rcases h.2 with ⟨rfl,rfl⟩ | ⟨g,cap,cur,fz,rfl,hb,hg,hn,hc,hs,hfz,ht⟩
 · exact ⟨none,0,rfl,⟨by simpa using hlen,fun h=>absurd h (by omega)⟩⟩
 refine ⟨_,cap,rfl,by simpa using hlen,fun _=>⟨g,0,rfl,(Array.getElem?_eq_some_iff.1 hg).1,fun j u hu=> ?_⟩⟩
 have:=h.cells (g:=g) rfl j u hu
 unfold Addr.add at this
 split at this
 · rename_i hj;subst hj;simpa using this
 simpa using this
theorem info8:(prog.info? 5).map (fun i=>(i.zero,i.size,i.bytes))=some (some (.int .u8 0),1,1):=by kernel_rfl
theorem own_lit (W:World) (c:Int):OwnBuf W.heap.size 5 (.slice (some ⟨W.heap.size,0,none⟩) 1 1) 1 [.int .u8 c] W (W.alloc (.cells #[.int .u8 c] 5)):=by
 have hb:(W.alloc (.cells #[.int .u8 c] 5)).heap[W.heap.size]?=some (.cells #[.int .u8 c] 5 (0,0)):=by
  show (W.heap.push _)[W.heap.size]?=_
  simp
 exact ⟨⟨rfl,.inr ⟨W.heap.size,1,_,(0,0),rfl,Nat.le_refl _,hb,by decide,by decide,by unfold maxLen;decide,rfl,rfl⟩⟩,(Below.refl _ _).alloc Qo _,by simp⟩
theorem dbl_take {l:List UInt8} {j:Nat} {y:UInt8} (h:l[j]?=some y):dbl (l.take (j+1))=dbl (l.take j)++(if y=39 then [39,39] else [y]):=by
 rw [List.take_add_one,h]
 unfold dbl
 rw [List.flatMap_append]
 simp
theorem str_bytes (l:List UInt8):strOfNums (l.map fun b=>(b.toNat:Int))=⟨l.toArray⟩:=by
 apply bytes_ext
 rw [strOfNums_data]
 simp
 rw [List.map_congr_left (g:=id) (fun b _=>by simp)]
 simp
theorem own_to1 {B e n n':Nat} {v:Value} {xs xs':List Value} {W0 W:World} (h:OwnBuf B e v n xs W0 W) (hn:n=n') (hx:xs=xs'):OwnBuf B e v n' xs' W0 W:=by subst hn hx;exact h
theorem ref6_Print (k n:Int) (s:ByteArray) (w:World) (hs:s.size≤9223372036854775807) (hn:KM n) :
 Calls prog 115 #[.agg #[.int .i64 k,.int .i64 n,.string s]] w fun e w'=>e= .returned (.string (Jb k n s))∧Below w.heap.size w w':=by
 have hB0: ∀ o,Below w.heap.size w (w.alloc o):=fun o=>(Below.refl _ _).alloc Qo o
 have HBW:=Qh (hB0 (.cells #[.int .i64 k,.int .i64 n,.string s] 31))
 clear hB0
 have BA:=Blk3.new w 31 (.int .i64 k) (.int .i64 n) (.string s)
 have hI:=fun w=>Qh (ref1_Is k n s w hs)
 unfold Jb
 cases hm:mayB k n s with
 | false=>
  rw [hm] at hI
  rw [if_pos rfl]
  clear hm
  go_enter func115,ntmps115
  go_wp2_with fail
  refine (Qa (hI _)).mono ?_
  rintro e w1 ⟨rfl,hb1⟩
  replace BA:=BA.below hb1
  obtain ⟨a0,a1,a2,fA⟩:=BA.cells
  replace HBW:=Qh QTQ9
  clear hb1
  go_wp2
  go_ret
  exact ⟨rfl,Qa HBW⟩
 | true=>
  rw [hm] at hI
  rw [if_neg (by decide)]
  by_cases h0:k=0
  · rw [if_pos h0]
    have q0:(k==0)=true:=by simpa using h0
    clear hm h0
    go_enter func115,ntmps115
    go_wp2_with fail
    refine (Qa (hI _)).mono ?_
    rintro e w1 ⟨rfl,hb1⟩
    replace BA:=BA.below hb1
    obtain ⟨a0,a1,a2,fA⟩:=BA.cells
    replace HBW:=Qh QTQ9
    clear hb1
    go_wp2
    go_ret
    exact ⟨rfl,Qa HBW⟩
  rw [if_neg h0]
  have q0:(k==0)=false:=by simpa using h0
  by_cases h1:k=1
  · rw [if_pos h1]
    have q1:(k==1)=true:=by simpa using h1
    by_cases hn1:n=1
    · rw [if_pos hn1]
      have q2:(n==1)=true:=by simpa using hn1
      clear hm h0 h1 hn1
      go_enter func115,ntmps115
      go_wp2_with fail
      refine (Qa (hI _)).mono ?_
      rintro e w1 ⟨rfl,hb1⟩
      replace BA:=BA.below hb1
      obtain ⟨a0,a1,a2,fA⟩:=BA.cells
      replace HBW:=Qh QTQ9
      clear hb1
      go_wp2
      go_ret
      exact ⟨rfl,Qa HBW⟩
    rw [if_neg hn1]
    have q2:(n==1)=false:=by simpa using hn1
    clear hm h0 h1 hn1
    go_enter func115,ntmps115
    go_wp2_with fail
    refine (Qa (hI _)).mono ?_
    rintro e w1 ⟨rfl,hb1⟩
    replace BA:=BA.below hb1
    obtain ⟨a0,a1,a2,fA⟩:=BA.cells
    replace HBW:=Qh QTQ9
    clear hb1
    go_wp2
    go_ret
    exact ⟨rfl,Qa HBW⟩
  rw [if_neg h1]
  have q1:(k==1)=false:=by simpa using h1
  by_cases h2:k=2
  · rw [if_pos h2]
    have q2:(k==2)=true:=by simpa using h2
    clear hm h0 h1 h2
    have HT:=fun W=>Qh (ref6_Digits n W hn)
    go_enter func115,ntmps115
    go_wp2_with fail
    refine (Qa (hI _)).mono ?_
    rintro e w1 ⟨rfl,hb1⟩
    replace BA:=BA.below hb1
    obtain ⟨a0,a1,a2,fA⟩:=BA.cells
    replace HBW:=Qh QTQ9
    clear hb1
    go_wp2_with fail
    refine (Qa (HT _)).mono ?_
    rintro e w2 ⟨rfl,hb2⟩
    replace HBW:=Qh (Below.andThen (Qa HBW) hb2)
    clear hb2
    go_wp2
    go_ret
    exact ⟨rfl,Qa HBW⟩
  rw [if_neg h2]
  have q2:(k==2)=false:=by simpa using h2
  obtain ⟨h3,h40⟩:=mayB_text hm h0 h1 h2
  clear hm h0 h1 h2 h3
  obtain ⟨i0,hi,hz0,hz1,hz2⟩:=info_parts info8
  go_enter func115,ntmps115
  go_wp2_with fail
  refine (Qa (hI _)).mono ?_
  rintro e w1 ⟨rfl,hb1⟩
  replace BA:=BA.below hb1
  obtain ⟨a0,a1,a2,fA⟩:=BA.cells
  replace HBW:=Qh QTQ9
  clear hb1
  go_wp2_with fail
  go_loopw [3,4] (fun o i wr=> ∃ (j:Nat) (L:List UInt8),j≤s.size∧i= .int .i64 j∧L.length≤1+2*j∧Hid (L=39::dbl (s.data.toList.take j))∧Hid (OwnBuf w1.heap.size 5 o L.length (bcells L) w1 wr)) (fun _ i _=>s.size - (RowKit.intOf i).toNat)
  case atStart=>exact ⟨0,[39],Nat.zero_le _,rfl,by decide,Qh (by rw [List.take_zero];rfl),Qh (own_lit w1 39)⟩
  case round=>
   obtain ⟨j,L,hj,rfl,hL,HL,HO⟩:=hrel
   have bx:=(BA.below (Qa HO).2.1).cells
   clear a0 a1 a2 fA
   obtain ⟨a0,a1,a2,fA⟩:=bx
   by_cases hlt:j<s.size
   · have hy:s.data.toList[j]?=some s[j]:=by
      rw [List.getElem?_eq_getElem (by simpa using hlt)];rfl
     have HY:=Qh hy
     clear hy
     by_cases h39:s[j]=39
     · have q39:((s[j].toNat:Int)==39)=true:=by rw [h39];rfl
       have H39:=Qh h39
       clear h39
       go_wp2_with (first | (at_builtin;refine wpList_append_byte rfl _ _ 72 rfl w1.heap.size 5 i0 underlying72 hi hz0 hz1 hz2 u3 _ _ rfl w1 _ _ (Qa HO) rfl (by omega) ?_;rintro v2 w2 ho;have HO2:=Qh ho;have bx:=(BA.below ho.2.1).cells;obtain ⟨a0,a1,a2,fA⟩:=bx;clear ho) | (at_builtin;refine wpList_append_byte rfl _ _ 72 rfl w1.heap.size 5 i0 underlying72 hi hz0 hz1 hz2 v2 _ _ rfl w1 _ _ (Qa HO2) rfl (by omega) ?_;rintro v3 w3 ho;have HO3:=Qh ho;have bx:=(BA.below ho.2.1).cells;obtain ⟨a0,a1,a2,fA⟩:=bx;clear ho))
       refine ⟨⟨j+1,L++[39,39],by omega,rfl,by simp;omega,?_,Qh (own_to1 (Qa HO3) (by simp) ?_)⟩,by show s.size - ((j:Int)+1).toNat<s.size - (j:Int).toNat;omega⟩
       · refine Qh ?_
         rw [Qa HL,dbl_take (Qa HY),if_pos (Qa H39)]
         rfl
       rw [Qa H39,show L++[39,39]=L++[39]++[39] by simp,bcells_app,bcells_app]
       rfl
     have q39:((s[j].toNat:Int)==39)=false:=by rw [beq_eq_false_iff_ne];intro e;exact h39 (UInt8.toNat_inj.1 (show s[j].toNat=39 by omega))
     have H39:=Qh h39
     clear h39
     go_wp2_with (first | (at_builtin;refine wpList_append_byte rfl _ _ 72 rfl w1.heap.size 5 i0 underlying72 hi hz0 hz1 hz2 u3 _ _ rfl w1 _ _ (Qa HO) rfl (by omega) ?_;rintro v2 w2 ho;have HO2:=Qh ho;have bx:=(BA.below ho.2.1).cells;obtain ⟨a0,a1,a2,fA⟩:=bx;clear ho))
     refine ⟨⟨j+1,L++[s[j]],by omega,rfl,by simp;omega,?_,Qh (own_to1 (Qa HO2) (by simp) ?_)⟩,by show s.size - ((j:Int)+1).toNat<s.size - (j:Int).toNat;omega⟩
     · refine Qh ?_
       rw [Qa HL,dbl_take (Qa HY),if_neg (Qa H39)]
       rfl
     rw [bcells_app]
   have hje:j=s.size:=by omega
   subst hje
   have HQ:Hid ((⟨(L++[39]).toArray⟩:ByteArray)=quotedS s):=Qh (by
    unfold quotedS
    rw [Qa HL,List.take_of_length_le (by rw [Array.length_toList];exact Nat.le_refl _)]
    rfl)
   go_wp2_with (at_builtin;refine wpList_append_byte rfl _ _ 72 rfl w1.heap.size 5 i0 underlying72 hi hz0 hz1 hz2 u3 _ _ rfl w1 _ _ (Qa HO) rfl (by omega) ?_;rintro v2 w2 ho;refine Hid.out ?_)
   refine Lib.hid ?_
   obtain ⟨A2,c2,rfl,hr⟩:=owns_reads1 ho.1
   have hr':JB w2 1 A2 (L.length+1) (nums ((L++[39]).map fun b:UInt8=>(b.toNat:Int))):=by
    have e:=bcells_app L 39
    unfold bcells at e
    rw [e]
    exact hr
   have hcv:=hr'.conv (P:=prog) 72 5 underlying72 underlying5 c2 9 underlying9
   rw [str_bytes] at hcv
   have HB2:=Qh ((Qa HBW).trans (ho.2.1.mono (Qa HBW).size))
   clear ho hr hr'
   go_wp2
   go_ret
   exact ⟨congrArg (fun z=>Ending.returned (.string z)) (Qa HQ),Qa HB2⟩
end Go.Proofs.YtddedijencleeaaGreatDoor
