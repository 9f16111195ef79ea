/- tree.each of rows of structs: contract. -/
import Derived.Test.YtddedijencleeaaGreatDoorMGb
import Derived.Deep.DeepMust
import Derived.Lib.SliceRun
set_option linter.all false
namespace Go.Proofs.YtddedijencleeaaGreatDoor
set_option maxRecDepth 100000
set_option maxHeartbeats 2000000
open Tryz
open Go.RowKit Go.Lib

theorem info_parts {P:Program} {t:TypeId} {z:Value} {s b:Nat} (h:(P.info? t).map (fun i=>(i.zero,i.size,i.bytes))=some (some z,s,b)): ∃ i,P.info? t=some i∧i.zero=some z∧i.size=s∧i.bytes=b:=by
 cases hi:P.info? t with
 | none=>rw [hi] at h;cases h
 | some i=>
  rw [hi] at h
  simp only [Option.map_some,Option.some.injEq,Prod.mk.injEq] at h
  exact ⟨i,rfl,h.1,h.2.1,h.2.2⟩
theorem foldset: ∀ (ds:List Value) (k:Nat) (cs:Array Value),k+ds.length≤cs.size→(List.foldl (fun (cs:Array Value) (x:Value × Nat)=>cs.setIfInBounds x.snd x.fst) cs (ds.zipIdx k)).toList=cs.toList.take k++ds++cs.toList.drop (k+ds.length)
 | [],k,cs,h=>by simp
 | d::l,k,cs,h=>by
   rw [List.length_cons] at h
   have hk:k<cs.toList.length:=by rw [Array.length_toList];omega
   have hl:(cs.toList.take k).length=k:=by rw [List.length_take];omega
   have e1:(cs.toList.set k d).take (k+1)=cs.toList.take k++[d]:=by
    apply List.ext_getElem?
    intro i
    rw [List.getElem?_take,List.getElem?_append,hl]
    rcases Nat.lt_trichotomy i k with h1 | h1 | h1
    · rw [if_pos (by omega),if_pos h1,List.getElem?_set_ne (by omega),List.getElem?_take,if_pos h1]
    · subst h1
      rw [if_pos (by omega),if_neg (by omega),List.getElem?_set_self hk,Nat.sub_self];rfl
    · rw [if_neg (by omega),if_neg (by omega)]
      symm
      rw [List.getElem?_eq_none]
      simp;omega
   rw [List.zipIdx_cons,List.foldl_cons,foldset l (k+1) _ (by simp;omega),Array.toList_setIfInBounds,e1,List.drop_set_of_lt (by omega),List.append_assoc,List.append_assoc,List.append_assoc,List.length_cons,show k+1+l.length=k+(l.length+1) by omega]
   rfl
theorem fold_set (zs ds:List Value) (h:zs.length=ds.length):List.foldl (fun (cs:Array Value) (x:Value × Nat)=>cs.setIfInBounds x.snd x.fst) zs.toArray ds.zipIdx=ds.toArray:=by
 apply Array.toList_inj.1
 rw [foldset ds 0 zs.toArray (by simp [h])]
 simp [h]
theorem all_mem {ds:List Value} (h:ds.toArray.all (·.oneCell')=true): ∀ u ∈ ds,u.oneCell'=true:=by
 have:ds.all (·.oneCell')=true:=by simpa using h
 exact List.all_eq_true.1 this
theorem Ky {W wr W2:World} {e:TypeId} {size k:Nat} {v:Value} {css:Nat→List Value} {Q:World→Nat→List Value→Prop} (h:JP W wr e size k v css Q) (hb:Below wr.heap.size wr W2) (o:Obj):(W2.alloc o).ownsRow W.heap.size e size v k (ZH css k):=by
 have hb':Below wr.heap.size wr (W2.alloc o):=hb.alloc hb.size o
 exact h.own.kept (row:=none) ⟨hb'.os,hb'.tape,hb'.output,hb'.size,fun k hk _=>hb'.block k hk⟩ (by cases v.ownBlock <;> simp)
theorem inf_Expr:(prog.info? 34).map (fun i=>(i.zero,i.size,i.bytes))=some (some (.agg Zr.toArray),10,120):=by kernel_rfl
theorem each_Expr {W:World} {n:Nat} {v:Value} {P:Nat→List Value→Prop} {Q:World→Nat→List Value→Prop} {g:Nat} (he: ∀ args w,(callFunc g args).run prog w= .ok (.enter g args) w) (hv:QR W 10 120 n v P)
 (hQ: ∀ W1 W2 i cs,Jw W1 W2→Q W1 i cs→Q W2 i cs)
 (hf: ∀ W',Below W.heap.size W W'→ ∀ i cs,i<n→P i cs→cs.length=10→Calls prog g #[.agg cs.toArray] W' fun e W2=> ∃ ds,e= .returned (.agg ds.toArray)∧ds.length=10∧ds.toArray.all (·.oneCell')=true∧Q (World.only W2 fun b=>W'.heap.size≤b) i ds∧Below W'.heap.size W' W2) :
 Calls prog 67 #[v,.func (Fn.func g) #[] #[]] W fun e W'=> ∃ u,e= .returned u∧QR (World.only W' fun b=>W.heap.size≤b) 10 120 n u (fun i ds=>Q (World.only W' fun b=>W.heap.size≤b) i ds)∧Below W.heap.size W W':=by
 obtain ⟨A,c,rfl,hnc,hc,hby,hA⟩:=hv
 obtain ⟨ti,hti,hzero,hsize,hbytes⟩:=info_parts inf_Expr
 have TI:=Qh (And.intro hti (And.intro hzero (And.intro hsize hbytes)))
 have HA:=Qh hA
 have HF:=Qh hf
 have HQ:=Qh hQ
 have hn:n≤9223372036854775807:=by omega
 have HBY:=Qh hby
 clear hA hf hnc hc hby hQ hti hzero hsize hbytes
 go_enter func67,ntmps67
 go_wp2
 go_loopw [5,7,10] (fun o _ i wr=> ∃ k:Nat,k≤n∧i= .int .i64 k∧Hid (∃ css,JP W wr 34 10 k o css Q)) (fun _ _ i _=>n - (RowKit.intOf i).toNat)
 case atStart=>exact ⟨0,Nat.zero_le _,rfl,Qh ⟨fun _=>[],JP.start⟩⟩
 case round=>
  obtain ⟨k,hk,rfl,HO⟩:=hrel
  by_cases hlt:k<n
  · obtain ⟨css,hO⟩:=Qa HO
    obtain ⟨b,o,rfl,hb,hcs⟩:=(Qa HA) (by omega)
    obtain ⟨cs,hl,hone,hP,hr⟩:=hcs k hlt
    have R:=Qh (Q5 hr hO.bl)
    have BX:=Qh (boxed wr Zr cs 34 (by rw [hl];rfl))
    have HTH:Hid ((wr.alloc (.cells Zr.toArray 34)).there wr.heap.size 0 10):=Qh (SB.new wr Zr 34).there
    have HC:=Qh fun wr' hb=>Qh ((Qa HF) wr' hb k cs hlt hP hl)
    replace hO:=Qh hO
    clear hcs hr hb hP HO
    go_upto_region 5 with (first
     | (refine wpList_load_mid rfl 34 _ rfl _ _ rfl cs _ (Qa R) underlying34 rfl (by rw [hl];exact Zv) ?_)
     | (refine wpList_store_mid rfl 34 _ _ rfl wr.heap.size 0 cs.toArray rfl rfl (by rw [show cs.toArray.size=10 from hl];exact Qa HTH) (by rw [show cs.toArray.size=10 from hl];exact Zv) hone ?_))
    generalize hD:World.setCells _ _ _ _=D
    replace BX:Hid (SB D wr.heap.size cs∧Below wr.heap.size wr D∧D.heap.size=wr.heap.size+1):=by rw [← hD];exact BX
    clear hD HTH R
    replace HC:=Qa HC D (Below.andThen (Qa hO).bl (Qa BX).2.1)
    go_wp2_with (refine wpList_load_mid rfl 34 _ rfl wr.heap.size _ rfl cs _ (Qa BX).1.at_ underlying34 rfl (by rw [hl];exact Zv) ?_)
    refine (Qa HC).mono ?_
    rintro e w2 ⟨ds,rfl,hdl,hd1,hdq,hb2⟩
    have HD:=Qh (And.intro hdl (And.intro hd1 hdq))
    have HB2:=Qh (Below.andThen (Qa BX).2.1 hb2)
    have hbs:=(Qa BX).2.1.size
    have hfo:=fold_set Zr ds (by rw [hdl];rfl)
    simp only [Zr,Zr,List.cons_append,List.nil_append] at hfo
    clear hd1 hdq hb2 HC
    go_wp2_with (at_builtin;go_must (refine wpList_append_own_at _ rfl _ _ 32 rfl W.heap.size 34 ti (.agg Zr.toArray) 10 120 underlying32 (Qa TI).1 (Qa TI).2.1 (Qa TI).2.2.1 (Qa TI).2.2.2 rfl (by decide) u5 k (ZH css k) rfl (Ky (Qa hO) (Qa HB2) _) ⟨w2.heap.size,0,none⟩ 1 1 ds rfl (by rw [(Qa HD).1]) (K0 w2 ds _) (all_mem (Qa HD).2.1) (by unfold maxLen;omega) (by have:=Qa HBY;have h2:(k+1)*120≤n*120:=Nat.mul_le_mul_right _ hlt;omega) (by have h1:=(Qa hO).bl.size;have h2:=(Qa HB2).size;simp;omega) ?_);intro v' w4 ho hg _ hat)
    have HN:=Qh (JP.next (Qa hO) (Qa HQ) hbs (Qa HB2) (Qa HD).2.2 (Qa HD).1 (Qa HD).2.1 ho hg hat)
    clear ho hg hat HD HB2 BX hO hfo
    go_wp2_with fail
    go_roundw
    case rel=>exact ⟨k+1,by omega,by go_num,Qh ⟨_,Qa HN⟩⟩
    case measure=>simp [RowKit.intOf];omega
  go_wp2
  have:k=n:=by omega
  subst this
  obtain ⟨css,hO⟩:=Qa HO
  go_ret
  exact ⟨_,rfl,hO.done (Qa HQ) (Qa HBY),hO.bl⟩
theorem inf_Key:(prog.info? 59).map (fun i=>(i.zero,i.size,i.bytes))=some (some (.agg z_Key.toArray),4,48):=by kernel_rfl
theorem each_Key {W:World} {n:Nat} {v:Value} {P:Nat→List Value→Prop} {Q:World→Nat→List Value→Prop} {g:Nat} (he: ∀ args w,(callFunc g args).run prog w= .ok (.enter g args) w) (hv:QR W 4 48 n v P)
 (hQ: ∀ W1 W2 i cs,Jw W1 W2→Q W1 i cs→Q W2 i cs)
 (hf: ∀ W',Below W.heap.size W W'→ ∀ i cs,i<n→P i cs→cs.length=4→Calls prog g #[.agg cs.toArray] W' fun e W2=> ∃ ds,e= .returned (.agg ds.toArray)∧ds.length=4∧ds.toArray.all (·.oneCell')=true∧Q (World.only W2 fun b=>W'.heap.size≤b) i ds∧Below W'.heap.size W' W2) :
 Calls prog 60 #[v,.func (Fn.func g) #[] #[]] W fun e W'=> ∃ u,e= .returned u∧QR (World.only W' fun b=>W.heap.size≤b) 4 48 n u (fun i ds=>Q (World.only W' fun b=>W.heap.size≤b) i ds)∧Below W.heap.size W W':=by
 obtain ⟨A,c,rfl,hnc,hc,hby,hA⟩:=hv
 obtain ⟨ti,hti,hzero,hsize,hbytes⟩:=info_parts inf_Key
 have TI:=Qh (And.intro hti (And.intro hzero (And.intro hsize hbytes)))
 have HA:=Qh hA
 have HF:=Qh hf
 have HQ:=Qh hQ
 have hn:n≤9223372036854775807:=by omega
 have HBY:=Qh hby
 clear hA hf hnc hc hby hQ hti hzero hsize hbytes
 go_enter func60,ntmps60
 go_wp2
 go_loopw [5,7,10] (fun o _ i wr=> ∃ k:Nat,k≤n∧i= .int .i64 k∧Hid (∃ css,JP W wr 59 4 k o css Q)) (fun _ _ i _=>n - (RowKit.intOf i).toNat)
 case atStart=>exact ⟨0,Nat.zero_le _,rfl,Qh ⟨fun _=>[],JP.start⟩⟩
 case round=>
  obtain ⟨k,hk,rfl,HO⟩:=hrel
  by_cases hlt:k<n
  · obtain ⟨css,hO⟩:=Qa HO
    obtain ⟨b,o,rfl,hb,hcs⟩:=(Qa HA) (by omega)
    obtain ⟨cs,hl,hone,hP,hr⟩:=hcs k hlt
    have R:=Qh (Q5 hr hO.bl)
    have BX:=Qh (boxed wr z_Key cs 59 (by rw [hl];rfl))
    have HTH:Hid ((wr.alloc (.cells z_Key.toArray 59)).there wr.heap.size 0 4):=Qh (SB.new wr z_Key 59).there
    have HC:=Qh fun wr' hb=>Qh ((Qa HF) wr' hb k cs hlt hP hl)
    replace hO:=Qh hO
    clear hcs hr hb hP HO
    go_upto_region 5 with (first
     | (refine wpList_load_mid rfl 59 _ rfl _ _ rfl cs _ (Qa R) underlying59 rfl (by rw [hl];exact siz_Key) ?_)
     | (refine wpList_store_mid rfl 59 _ _ rfl wr.heap.size 0 cs.toArray rfl rfl (by rw [show cs.toArray.size=4 from hl];exact Qa HTH) (by rw [show cs.toArray.size=4 from hl];exact siz_Key) hone ?_))
    generalize hD:World.setCells _ _ _ _=D
    replace BX:Hid (SB D wr.heap.size cs∧Below wr.heap.size wr D∧D.heap.size=wr.heap.size+1):=by rw [← hD];exact BX
    clear hD HTH R
    replace HC:=Qa HC D (Below.andThen (Qa hO).bl (Qa BX).2.1)
    go_wp2_with (refine wpList_load_mid rfl 59 _ rfl wr.heap.size _ rfl cs _ (Qa BX).1.at_ underlying59 rfl (by rw [hl];exact siz_Key) ?_)
    refine (Qa HC).mono ?_
    rintro e w2 ⟨ds,rfl,hdl,hd1,hdq,hb2⟩
    have HD:=Qh (And.intro hdl (And.intro hd1 hdq))
    have HB2:=Qh (Below.andThen (Qa BX).2.1 hb2)
    have hbs:=(Qa BX).2.1.size
    have hfo:=fold_set z_Key ds (by rw [hdl];rfl)
    simp only [z_Key,Zr,List.cons_append,List.nil_append] at hfo
    clear hd1 hdq hb2 HC
    go_wp2_with (at_builtin;go_must (refine wpList_append_own_at _ rfl _ _ 23 rfl W.heap.size 59 ti (.agg z_Key.toArray) 4 48 underlying23 (Qa TI).1 (Qa TI).2.1 (Qa TI).2.2.1 (Qa TI).2.2.2 rfl (by decide) u5 k (ZH css k) rfl (Ky (Qa hO) (Qa HB2) _) ⟨w2.heap.size,0,none⟩ 1 1 ds rfl (by rw [(Qa HD).1]) (K0 w2 ds _) (all_mem (Qa HD).2.1) (by unfold maxLen;omega) (by have:=Qa HBY;have h2:(k+1)*48≤n*48:=Nat.mul_le_mul_right _ hlt;omega) (by have h1:=(Qa hO).bl.size;have h2:=(Qa HB2).size;simp;omega) ?_);intro v' w4 ho hg _ hat)
    have HN:=Qh (JP.next (Qa hO) (Qa HQ) hbs (Qa HB2) (Qa HD).2.2 (Qa HD).1 (Qa HD).2.1 ho hg hat)
    clear ho hg hat HD HB2 BX hO hfo
    go_wp2_with fail
    go_roundw
    case rel=>exact ⟨k+1,by omega,by go_num,Qh ⟨_,Qa HN⟩⟩
    case measure=>simp [RowKit.intOf];omega
  go_wp2
  have:k=n:=by omega
  subst this
  obtain ⟨css,hO⟩:=Qa HO
  go_ret
  exact ⟨_,rfl,hO.done (Qa HQ) (Qa HBY),hO.bl⟩
theorem inf_Set:(prog.info? 61).map (fun i=>(i.zero,i.size,i.bytes))=some (some (.agg z_Set.toArray),11,136):=by kernel_rfl
theorem each_Set {W:World} {n:Nat} {v:Value} {P:Nat→List Value→Prop} {Q:World→Nat→List Value→Prop} {g:Nat} (he: ∀ args w,(callFunc g args).run prog w= .ok (.enter g args) w) (hv:QR W 11 136 n v P)
 (hQ: ∀ W1 W2 i cs,Jw W1 W2→Q W1 i cs→Q W2 i cs)
 (hf: ∀ W',Below W.heap.size W W'→ ∀ i cs,i<n→P i cs→cs.length=11→Calls prog g #[.agg cs.toArray] W' fun e W2=> ∃ ds,e= .returned (.agg ds.toArray)∧ds.length=11∧ds.toArray.all (·.oneCell')=true∧Q (World.only W2 fun b=>W'.heap.size≤b) i ds∧Below W'.heap.size W' W2) :
 Calls prog 69 #[v,.func (Fn.func g) #[] #[]] W fun e W'=> ∃ u,e= .returned u∧QR (World.only W' fun b=>W.heap.size≤b) 11 136 n u (fun i ds=>Q (World.only W' fun b=>W.heap.size≤b) i ds)∧Below W.heap.size W W':=by
 obtain ⟨A,c,rfl,hnc,hc,hby,hA⟩:=hv
 obtain ⟨ti,hti,hzero,hsize,hbytes⟩:=info_parts inf_Set
 have TI:=Qh (And.intro hti (And.intro hzero (And.intro hsize hbytes)))
 have HA:=Qh hA
 have HF:=Qh hf
 have HQ:=Qh hQ
 have hn:n≤9223372036854775807:=by omega
 have HBY:=Qh hby
 clear hA hf hnc hc hby hQ hti hzero hsize hbytes
 go_enter func69,ntmps69
 go_wp2
 go_loopw [5,7,10] (fun o _ i wr=> ∃ k:Nat,k≤n∧i= .int .i64 k∧Hid (∃ css,JP W wr 61 11 k o css Q)) (fun _ _ i _=>n - (RowKit.intOf i).toNat)
 case atStart=>exact ⟨0,Nat.zero_le _,rfl,Qh ⟨fun _=>[],JP.start⟩⟩
 case round=>
  obtain ⟨k,hk,rfl,HO⟩:=hrel
  by_cases hlt:k<n
  · obtain ⟨css,hO⟩:=Qa HO
    obtain ⟨b,o,rfl,hb,hcs⟩:=(Qa HA) (by omega)
    obtain ⟨cs,hl,hone,hP,hr⟩:=hcs k hlt
    have R:=Qh (Q5 hr hO.bl)
    have BX:=Qh (boxed wr z_Set cs 61 (by rw [hl];rfl))
    have HTH:Hid ((wr.alloc (.cells z_Set.toArray 61)).there wr.heap.size 0 11):=Qh (SB.new wr z_Set 61).there
    have HC:=Qh fun wr' hb=>Qh ((Qa HF) wr' hb k cs hlt hP hl)
    replace hO:=Qh hO
    clear hcs hr hb hP HO
    go_upto_region 5 with (first
     | (refine wpList_load_mid rfl 61 _ rfl _ _ rfl cs _ (Qa R) underlying61 rfl (by rw [hl];exact siz_Set) ?_)
     | (refine wpList_store_mid rfl 61 _ _ rfl wr.heap.size 0 cs.toArray rfl rfl (by rw [show cs.toArray.size=11 from hl];exact Qa HTH) (by rw [show cs.toArray.size=11 from hl];exact siz_Set) hone ?_))
    generalize hD:World.setCells _ _ _ _=D
    replace BX:Hid (SB D wr.heap.size cs∧Below wr.heap.size wr D∧D.heap.size=wr.heap.size+1):=by rw [← hD];exact BX
    clear hD HTH R
    replace HC:=Qa HC D (Below.andThen (Qa hO).bl (Qa BX).2.1)
    go_wp2_with (refine wpList_load_mid rfl 61 _ rfl wr.heap.size _ rfl cs _ (Qa BX).1.at_ underlying61 rfl (by rw [hl];exact siz_Set) ?_)
    refine (Qa HC).mono ?_
    rintro e w2 ⟨ds,rfl,hdl,hd1,hdq,hb2⟩
    have HD:=Qh (And.intro hdl (And.intro hd1 hdq))
    have HB2:=Qh (Below.andThen (Qa BX).2.1 hb2)
    have hbs:=(Qa BX).2.1.size
    have hfo:=fold_set z_Set ds (by rw [hdl];rfl)
    simp only [z_Set,Zr,List.cons_append,List.nil_append] at hfo
    clear hd1 hdq hb2 HC
    go_wp2_with (at_builtin;go_must (refine wpList_append_own_at _ rfl _ _ 29 rfl W.heap.size 61 ti (.agg z_Set.toArray) 11 136 underlying29 (Qa TI).1 (Qa TI).2.1 (Qa TI).2.2.1 (Qa TI).2.2.2 rfl (by decide) u5 k (ZH css k) rfl (Ky (Qa hO) (Qa HB2) _) ⟨w2.heap.size,0,none⟩ 1 1 ds rfl (by rw [(Qa HD).1]) (K0 w2 ds _) (all_mem (Qa HD).2.1) (by unfold maxLen;omega) (by have:=Qa HBY;have h2:(k+1)*136≤n*136:=Nat.mul_le_mul_right _ hlt;omega) (by have h1:=(Qa hO).bl.size;have h2:=(Qa HB2).size;simp;omega) ?_);intro v' w4 ho hg _ hat)
    have HN:=Qh (JP.next (Qa hO) (Qa HQ) hbs (Qa HB2) (Qa HD).2.2 (Qa HD).1 (Qa HD).2.1 ho hg hat)
    clear ho hg hat HD HB2 BX hO hfo
    go_wp2_with fail
    go_roundw
    case rel=>exact ⟨k+1,by omega,by go_num,Qh ⟨_,Qa HN⟩⟩
    case measure=>simp [RowKit.intOf];omega
  go_wp2
  have:k=n:=by omega
  subst this
  obtain ⟨css,hO⟩:=Qa HO
  go_ret
  exact ⟨_,rfl,hO.done (Qa HQ) (Qa HBY),hO.bl⟩
theorem inf_Item:(prog.info? 63).map (fun i=>(i.zero,i.size,i.bytes))=some (some (.agg z_Item.toArray),12,144):=by kernel_rfl
theorem each_Item {W:World} {n:Nat} {v:Value} {P:Nat→List Value→Prop} {Q:World→Nat→List Value→Prop} {g:Nat} (he: ∀ args w,(callFunc g args).run prog w= .ok (.enter g args) w) (hv:QR W 12 144 n v P)
 (hQ: ∀ W1 W2 i cs,Jw W1 W2→Q W1 i cs→Q W2 i cs)
 (hf: ∀ W',Below W.heap.size W W'→ ∀ i cs,i<n→P i cs→cs.length=12→Calls prog g #[.agg cs.toArray] W' fun e W2=> ∃ ds,e= .returned (.agg ds.toArray)∧ds.length=12∧ds.toArray.all (·.oneCell')=true∧Q (World.only W2 fun b=>W'.heap.size≤b) i ds∧Below W'.heap.size W' W2) :
 Calls prog 71 #[v,.func (Fn.func g) #[] #[]] W fun e W'=> ∃ u,e= .returned u∧QR (World.only W' fun b=>W.heap.size≤b) 12 144 n u (fun i ds=>Q (World.only W' fun b=>W.heap.size≤b) i ds)∧Below W.heap.size W W':=by
 obtain ⟨A,c,rfl,hnc,hc,hby,hA⟩:=hv
 obtain ⟨ti,hti,hzero,hsize,hbytes⟩:=info_parts inf_Item
 have TI:=Qh (And.intro hti (And.intro hzero (And.intro hsize hbytes)))
 have HA:=Qh hA
 have HF:=Qh hf
 have HQ:=Qh hQ
 have hn:n≤9223372036854775807:=by omega
 have HBY:=Qh hby
 clear hA hf hnc hc hby hQ hti hzero hsize hbytes
 go_enter func71,ntmps71
 go_wp2
 go_loopw [5,7,10] (fun o _ i wr=> ∃ k:Nat,k≤n∧i= .int .i64 k∧Hid (∃ css,JP W wr 63 12 k o css Q)) (fun _ _ i _=>n - (RowKit.intOf i).toNat)
 case atStart=>exact ⟨0,Nat.zero_le _,rfl,Qh ⟨fun _=>[],JP.start⟩⟩
 case round=>
  obtain ⟨k,hk,rfl,HO⟩:=hrel
  by_cases hlt:k<n
  · obtain ⟨css,hO⟩:=Qa HO
    obtain ⟨b,o,rfl,hb,hcs⟩:=(Qa HA) (by omega)
    obtain ⟨cs,hl,hone,hP,hr⟩:=hcs k hlt
    have R:=Qh (Q5 hr hO.bl)
    have BX:=Qh (boxed wr z_Item cs 63 (by rw [hl];rfl))
    have HTH:Hid ((wr.alloc (.cells z_Item.toArray 63)).there wr.heap.size 0 12):=Qh (SB.new wr z_Item 63).there
    have HC:=Qh fun wr' hb=>Qh ((Qa HF) wr' hb k cs hlt hP hl)
    replace hO:=Qh hO
    clear hcs hr hb hP HO
    go_upto_region 5 with (first
     | (refine wpList_load_mid rfl 63 _ rfl _ _ rfl cs _ (Qa R) underlying63 rfl (by rw [hl];exact siz_Item) ?_)
     | (refine wpList_store_mid rfl 63 _ _ rfl wr.heap.size 0 cs.toArray rfl rfl (by rw [show cs.toArray.size=12 from hl];exact Qa HTH) (by rw [show cs.toArray.size=12 from hl];exact siz_Item) hone ?_))
    generalize hD:World.setCells _ _ _ _=D
    replace BX:Hid (SB D wr.heap.size cs∧Below wr.heap.size wr D∧D.heap.size=wr.heap.size+1):=by rw [← hD];exact BX
    clear hD HTH R
    replace HC:=Qa HC D (Below.andThen (Qa hO).bl (Qa BX).2.1)
    go_wp2_with (refine wpList_load_mid rfl 63 _ rfl wr.heap.size _ rfl cs _ (Qa BX).1.at_ underlying63 rfl (by rw [hl];exact siz_Item) ?_)
    refine (Qa HC).mono ?_
    rintro e w2 ⟨ds,rfl,hdl,hd1,hdq,hb2⟩
    have HD:=Qh (And.intro hdl (And.intro hd1 hdq))
    have HB2:=Qh (Below.andThen (Qa BX).2.1 hb2)
    have hbs:=(Qa BX).2.1.size
    have hfo:=fold_set z_Item ds (by rw [hdl];rfl)
    simp only [z_Item,Zr,List.cons_append,List.nil_append] at hfo
    clear hd1 hdq hb2 HC
    go_wp2_with (at_builtin;go_must (refine wpList_append_own_at _ rfl _ _ 35 rfl W.heap.size 63 ti (.agg z_Item.toArray) 12 144 underlying35 (Qa TI).1 (Qa TI).2.1 (Qa TI).2.2.1 (Qa TI).2.2.2 rfl (by decide) u5 k (ZH css k) rfl (Ky (Qa hO) (Qa HB2) _) ⟨w2.heap.size,0,none⟩ 1 1 ds rfl (by rw [(Qa HD).1]) (K0 w2 ds _) (all_mem (Qa HD).2.1) (by unfold maxLen;omega) (by have:=Qa HBY;have h2:(k+1)*144≤n*144:=Nat.mul_le_mul_right _ hlt;omega) (by have h1:=(Qa hO).bl.size;have h2:=(Qa HB2).size;simp;omega) ?_);intro v' w4 ho hg _ hat)
    have HN:=Qh (JP.next (Qa hO) (Qa HQ) hbs (Qa HB2) (Qa HD).2.2 (Qa HD).1 (Qa HD).2.1 ho hg hat)
    clear ho hg hat HD HB2 BX hO hfo
    go_wp2_with fail
    go_roundw
    case rel=>exact ⟨k+1,by omega,by go_num,Qh ⟨_,Qa HN⟩⟩
    case measure=>simp [RowKit.intOf];omega
  go_wp2
  have:k=n:=by omega
  subst this
  obtain ⟨css,hO⟩:=Qa HO
  go_ret
  exact ⟨_,rfl,hO.done (Qa HQ) (Qa HBY),hO.bl⟩
theorem inf_Source:(prog.info? 65).map (fun i=>(i.zero,i.size,i.bytes))=some (some (.agg KI.toArray),13,160):=by kernel_rfl
theorem each_Source {W:World} {n:Nat} {v:Value} {P:Nat→List Value→Prop} {Q:World→Nat→List Value→Prop} {g:Nat} (he: ∀ args w,(callFunc g args).run prog w= .ok (.enter g args) w) (hv:QR W 13 160 n v P)
 (hQ: ∀ W1 W2 i cs,Jw W1 W2→Q W1 i cs→Q W2 i cs)
 (hf: ∀ W',Below W.heap.size W W'→ ∀ i cs,i<n→P i cs→cs.length=13→Calls prog g #[.agg cs.toArray] W' fun e W2=> ∃ ds,e= .returned (.agg ds.toArray)∧ds.length=13∧ds.toArray.all (·.oneCell')=true∧Q (World.only W2 fun b=>W'.heap.size≤b) i ds∧Below W'.heap.size W' W2) :
 Calls prog 73 #[v,.func (Fn.func g) #[] #[]] W fun e W'=> ∃ u,e= .returned u∧QR (World.only W' fun b=>W.heap.size≤b) 13 160 n u (fun i ds=>Q (World.only W' fun b=>W.heap.size≤b) i ds)∧Below W.heap.size W W':=by
 obtain ⟨A,c,rfl,hnc,hc,hby,hA⟩:=hv
 obtain ⟨ti,hti,hzero,hsize,hbytes⟩:=info_parts inf_Source
 have TI:=Qh (And.intro hti (And.intro hzero (And.intro hsize hbytes)))
 have HA:=Qh hA
 have HF:=Qh hf
 have HQ:=Qh hQ
 have hn:n≤9223372036854775807:=by omega
 have HBY:=Qh hby
 clear hA hf hnc hc hby hQ hti hzero hsize hbytes
 go_enter func73,ntmps73
 go_wp2
 go_loopw [5,7,10] (fun o _ i wr=> ∃ k:Nat,k≤n∧i= .int .i64 k∧Hid (∃ css,JP W wr 65 13 k o css Q)) (fun _ _ i _=>n - (RowKit.intOf i).toNat)
 case atStart=>exact ⟨0,Nat.zero_le _,rfl,Qh ⟨fun _=>[],JP.start⟩⟩
 case round=>
  obtain ⟨k,hk,rfl,HO⟩:=hrel
  by_cases hlt:k<n
  · obtain ⟨css,hO⟩:=Qa HO
    obtain ⟨b,o,rfl,hb,hcs⟩:=(Qa HA) (by omega)
    obtain ⟨cs,hl,hone,hP,hr⟩:=hcs k hlt
    have R:=Qh (Q5 hr hO.bl)
    have BX:=Qh (boxed wr KI cs 65 (by rw [hl];rfl))
    have HTH:Hid ((wr.alloc (.cells KI.toArray 65)).there wr.heap.size 0 13):=Qh (SB.new wr KI 65).there
    have HC:=Qh fun wr' hb=>Qh ((Qa HF) wr' hb k cs hlt hP hl)
    replace hO:=Qh hO
    clear hcs hr hb hP HO
    go_upto_region 5 with (first
     | (refine wpList_load_mid rfl 65 _ rfl _ _ rfl cs _ (Qa R) underlying65 rfl (by rw [hl];exact siz_Source) ?_)
     | (refine wpList_store_mid rfl 65 _ _ rfl wr.heap.size 0 cs.toArray rfl rfl (by rw [show cs.toArray.size=13 from hl];exact Qa HTH) (by rw [show cs.toArray.size=13 from hl];exact siz_Source) hone ?_))
    generalize hD:World.setCells _ _ _ _=D
    replace BX:Hid (SB D wr.heap.size cs∧Below wr.heap.size wr D∧D.heap.size=wr.heap.size+1):=by rw [← hD];exact BX
    clear hD HTH R
    replace HC:=Qa HC D (Below.andThen (Qa hO).bl (Qa BX).2.1)
    go_wp2_with (refine wpList_load_mid rfl 65 _ rfl wr.heap.size _ rfl cs _ (Qa BX).1.at_ underlying65 rfl (by rw [hl];exact siz_Source) ?_)
    refine (Qa HC).mono ?_
    rintro e w2 ⟨ds,rfl,hdl,hd1,hdq,hb2⟩
    have HD:=Qh (And.intro hdl (And.intro hd1 hdq))
    have HB2:=Qh (Below.andThen (Qa BX).2.1 hb2)
    have hbs:=(Qa BX).2.1.size
    have hfo:=fold_set KI ds (by rw [hdl];rfl)
    simp only [KI,Zr,List.cons_append,List.nil_append] at hfo
    clear hd1 hdq hb2 HC
    go_wp2_with (at_builtin;go_must (refine wpList_append_own_at _ rfl _ _ 36 rfl W.heap.size 65 ti (.agg KI.toArray) 13 160 underlying36 (Qa TI).1 (Qa TI).2.1 (Qa TI).2.2.1 (Qa TI).2.2.2 rfl (by decide) u5 k (ZH css k) rfl (Ky (Qa hO) (Qa HB2) _) ⟨w2.heap.size,0,none⟩ 1 1 ds rfl (by rw [(Qa HD).1]) (K0 w2 ds _) (all_mem (Qa HD).2.1) (by unfold maxLen;omega) (by have:=Qa HBY;have h2:(k+1)*160≤n*160:=Nat.mul_le_mul_right _ hlt;omega) (by have h1:=(Qa hO).bl.size;have h2:=(Qa HB2).size;simp;omega) ?_);intro v' w4 ho hg _ hat)
    have HN:=Qh (JP.next (Qa hO) (Qa HQ) hbs (Qa HB2) (Qa HD).2.2 (Qa HD).1 (Qa HD).2.1 ho hg hat)
    clear ho hg hat HD HB2 BX hO hfo
    go_wp2_with fail
    go_roundw
    case rel=>exact ⟨k+1,by omega,by go_num,Qh ⟨_,Qa HN⟩⟩
    case measure=>simp [RowKit.intOf];omega
  go_wp2
  have:k=n:=by omega
  subst this
  obtain ⟨css,hO⟩:=Qa HO
  go_ret
  exact ⟨_,rfl,hO.done (Qa HQ) (Qa HBY),hO.bl⟩
theorem inf_Order:(prog.info? 67).map (fun i=>(i.zero,i.size,i.bytes))=some (some (.agg Jn.toArray),11,128):=by kernel_rfl
theorem each_Order {W:World} {n:Nat} {v:Value} {P:Nat→List Value→Prop} {Q:World→Nat→List Value→Prop} {g:Nat} (he: ∀ args w,(callFunc g args).run prog w= .ok (.enter g args) w) (hv:QR W 11 128 n v P)
 (hQ: ∀ W1 W2 i cs,Jw W1 W2→Q W1 i cs→Q W2 i cs)
 (hf: ∀ W',Below W.heap.size W W'→ ∀ i cs,i<n→P i cs→cs.length=11→Calls prog g #[.agg cs.toArray] W' fun e W2=> ∃ ds,e= .returned (.agg ds.toArray)∧ds.length=11∧ds.toArray.all (·.oneCell')=true∧Q (World.only W2 fun b=>W'.heap.size≤b) i ds∧Below W'.heap.size W' W2) :
 Calls prog 75 #[v,.func (Fn.func g) #[] #[]] W fun e W'=> ∃ u,e= .returned u∧QR (World.only W' fun b=>W.heap.size≤b) 11 128 n u (fun i ds=>Q (World.only W' fun b=>W.heap.size≤b) i ds)∧Below W.heap.size W W':=by
 obtain ⟨A,c,rfl,hnc,hc,hby,hA⟩:=hv
 obtain ⟨ti,hti,hzero,hsize,hbytes⟩:=info_parts inf_Order
 have TI:=Qh (And.intro hti (And.intro hzero (And.intro hsize hbytes)))
 have HA:=Qh hA
 have HF:=Qh hf
 have HQ:=Qh hQ
 have hn:n≤9223372036854775807:=by omega
 have HBY:=Qh hby
 clear hA hf hnc hc hby hQ hti hzero hsize hbytes
 go_enter func75,ntmps75
 go_wp2
 go_loopw [5,7,10] (fun o _ i wr=> ∃ k:Nat,k≤n∧i= .int .i64 k∧Hid (∃ css,JP W wr 67 11 k o css Q)) (fun _ _ i _=>n - (RowKit.intOf i).toNat)
 case atStart=>exact ⟨0,Nat.zero_le _,rfl,Qh ⟨fun _=>[],JP.start⟩⟩
 case round=>
  obtain ⟨k,hk,rfl,HO⟩:=hrel
  by_cases hlt:k<n
  · obtain ⟨css,hO⟩:=Qa HO
    obtain ⟨b,o,rfl,hb,hcs⟩:=(Qa HA) (by omega)
    obtain ⟨cs,hl,hone,hP,hr⟩:=hcs k hlt
    have R:=Qh (Q5 hr hO.bl)
    have BX:=Qh (boxed wr Jn cs 67 (by rw [hl];rfl))
    have HTH:Hid ((wr.alloc (.cells Jn.toArray 67)).there wr.heap.size 0 11):=Qh (SB.new wr Jn 67).there
    have HC:=Qh fun wr' hb=>Qh ((Qa HF) wr' hb k cs hlt hP hl)
    replace hO:=Qh hO
    clear hcs hr hb hP HO
    go_upto_region 5 with (first
     | (refine wpList_load_mid rfl 67 _ rfl _ _ rfl cs _ (Qa R) underlying67 rfl (by rw [hl];exact siz_Order) ?_)
     | (refine wpList_store_mid rfl 67 _ _ rfl wr.heap.size 0 cs.toArray rfl rfl (by rw [show cs.toArray.size=11 from hl];exact Qa HTH) (by rw [show cs.toArray.size=11 from hl];exact siz_Order) hone ?_))
    generalize hD:World.setCells _ _ _ _=D
    replace BX:Hid (SB D wr.heap.size cs∧Below wr.heap.size wr D∧D.heap.size=wr.heap.size+1):=by rw [← hD];exact BX
    clear hD HTH R
    replace HC:=Qa HC D (Below.andThen (Qa hO).bl (Qa BX).2.1)
    go_wp2_with (refine wpList_load_mid rfl 67 _ rfl wr.heap.size _ rfl cs _ (Qa BX).1.at_ underlying67 rfl (by rw [hl];exact siz_Order) ?_)
    refine (Qa HC).mono ?_
    rintro e w2 ⟨ds,rfl,hdl,hd1,hdq,hb2⟩
    have HD:=Qh (And.intro hdl (And.intro hd1 hdq))
    have HB2:=Qh (Below.andThen (Qa BX).2.1 hb2)
    have hbs:=(Qa BX).2.1.size
    have hfo:=fold_set Jn ds (by rw [hdl];rfl)
    simp only [Jn,Zr,List.cons_append,List.nil_append] at hfo
    clear hd1 hdq hb2 HC
    go_wp2_with (at_builtin;go_must (refine wpList_append_own_at _ rfl _ _ 37 rfl W.heap.size 67 ti (.agg Jn.toArray) 11 128 underlying37 (Qa TI).1 (Qa TI).2.1 (Qa TI).2.2.1 (Qa TI).2.2.2 rfl (by decide) u5 k (ZH css k) rfl (Ky (Qa hO) (Qa HB2) _) ⟨w2.heap.size,0,none⟩ 1 1 ds rfl (by rw [(Qa HD).1]) (K0 w2 ds _) (all_mem (Qa HD).2.1) (by unfold maxLen;omega) (by have:=Qa HBY;have h2:(k+1)*128≤n*128:=Nat.mul_le_mul_right _ hlt;omega) (by have h1:=(Qa hO).bl.size;have h2:=(Qa HB2).size;simp;omega) ?_);intro v' w4 ho hg _ hat)
    have HN:=Qh (JP.next (Qa hO) (Qa HQ) hbs (Qa HB2) (Qa HD).2.2 (Qa HD).1 (Qa HD).2.1 ho hg hat)
    clear ho hg hat HD HB2 BX hO hfo
    go_wp2_with fail
    go_roundw
    case rel=>exact ⟨k+1,by omega,by go_num,Qh ⟨_,Qa HN⟩⟩
    case measure=>simp [RowKit.intOf];omega
  go_wp2
  have:k=n:=by omega
  subst this
  obtain ⟨css,hO⟩:=Qa HO
  go_ret
  exact ⟨_,rfl,hO.done (Qa HQ) (Qa HBY),hO.bl⟩
end Go.Proofs.YtddedijencleeaaGreatDoor

/- A whole row appended to an empty one; slices.Clone: contracts. -/
set_option linter.all false
namespace Go.Proofs.YtddedijencleeaaGreatDoor
set_option maxRecDepth 100000
open Tryz
open Go.RowKit Go.Lib

theorem flatN_inv {css:Nat→List Value} {size:Nat}: ∀ {k:Nat},(∀ j,j<k→(css j).length=size)→ ∀ j u,(ZH css k)[j]?=some u→ ∃ i r,i<k∧j=i*size+r∧(css i)[r]?=some u
 | 0,_,j,u,h=>by simp [ZH] at h
 | k+1,hl,j,u,h=>by
   rw [KQ] at h
   have e:(ZH css k).length=k*size:=flatN_len fun j hj=>hl j (by omega)
   by_cases hj:j<k*size
   · rw [List.getElem?_append_left (by omega)] at h
     obtain ⟨i,r,h1,h2,h3⟩:=flatN_inv (fun j hj=>hl j (by omega)) j u h
     exact ⟨i,r,by omega,h2,h3⟩
   · rw [List.getElem?_append_right (by omega),e] at h
     exact ⟨k,j - k*size,by omega,by omega,h⟩
theorem flatN_one {css:Nat→List Value}: ∀ {k:Nat},(∀ j,j<k→(css j).toArray.all (·.oneCell')=true)→ ∀ u ∈ ZH css k,u.oneCell'=true
 | 0,_,u,h=>by simp [ZH] at h
 | k+1,hl,u,h=>by
   rw [KQ,List.mem_append] at h
   rcases h with h | h
   · exact flatN_one (fun j hj=>hl j (by omega)) u h
   · exact all_mem (hl k (by omega)) u h
theorem QR.named {W:World} {size bytes n:Nat} {v:Value} {P:Nat→List Value→Prop} (h:QR W size bytes n v P) :
 ∃ A c css,v= .slice A n c∧n*bytes≤140737488355328∧n≤9223372036854775807∧(∀ i,i<n→(css i).length=size∧(css i).toArray.all (·.oneCell')=true∧P i (css i))∧(∀ ad,A=some ad→ ∀ j u,(ZH css n)[j]?=some u→W.cell? (ad.add j)=some u)∧(A=none→n=0):=by
 obtain ⟨A,c,rfl,hnc,hc,hby,hA⟩:=h
 by_cases hn:0<n
 · obtain ⟨b,o,rfl,hb,hcs⟩:=hA hn
   have hcs': ∀ i,∃ cs:List Value,i<n→cs.length=size∧cs.toArray.all (·.oneCell')=true∧P i cs∧W.rangeAt b (o+i*size) cs:=fun i=>by
    by_cases hi:i<n
    · obtain ⟨cs,h⟩:=hcs i hi
      exact ⟨cs,fun _=>h⟩
    exact ⟨[],fun h=>absurd h hi⟩
   obtain ⟨css,hcss⟩:=Classical.axiomOfChoice hcs'
   refine ⟨_,c,css,rfl,hby,by omega,fun i hi=>⟨(hcss i hi).1,(hcss i hi).2.1,(hcss i hi).2.2.1⟩,fun ad had j u hj=> ?_,fun h=>by cases h⟩
   cases had
   obtain ⟨i,r,hi,rfl,hr⟩:=flatN_inv (fun j hj=>(hcss j hj).1) j u hj
   have:=(hcss i hi).2.2.2 r u hr
   rw [Addr.add_mid,show o+(i*size+r)=o+i*size+r by omega]
   exact this
 obtain rfl:n=0:=by omega
 exact ⟨A,c,fun _=>[],rfl,hby,by omega,fun i hi=>by omega,fun ad _ j u hj=>by simp [ZH] at hj,fun _=>rfl⟩
section
variable {P:Program}
theorem K9 {ops:Array Oper} {rest:List Oper} {o:Oper} {a:Act} {Q:Exit→Act→World→Prop} {w:World} (hgd:o.guard=none) (s x:Operand) (t:TypeId)
 (ho:o.op= .call { callee:=.builtin .append,args:= #[s,x],argTypes:= #[t,t] }) (W:World) (e:TypeId) (z:Value) (size bytes:Nat) (ht:P.underlying t=some (.slice e))
 (hi:(P.info? e).map (fun i=>(i.zero,i.size,i.bytes))=some (some z,size,bytes)) (hzs:z.cells.size=size) (hsz:0<size)
 (v:Value) (hs:a.eval s=v) (hown:w.ownsRow W.heap.size e size v 0 []) (hbl:Below W.heap.size W w) {n:Nat} {u:Value} {R:Nat→List Value→Prop} (hx:a.eval x=u) (hu:QR w size bytes n u R) (hnn: ∀ A c,u= .slice A n c→A≠none)
 (h: ∀ v' w',QR (World.only w' fun b=>W.heap.size≤b) size bytes n v' R→Below W.heap.size W w'→(v'.ownBlock=v.ownBlock∨v'.ownBlock=some w.heap.size)→w.grownBy w' v.ownBlock→wpList P ops Q rest (a.put o.dst v') w'):wpList P ops Q (o::rest) a w:=by
 obtain ⟨A,c,css,rfl,hby,hn,hcss,hcell,_⟩:=hu.named
 obtain ⟨ti,h1,h2,h3,h4⟩:=info_parts hi
 cases A with
 | none=>exact absurd rfl (hnn none c rfl)
 | some ad=>
  refine wpList_append_own_at w hgd s x t ho W.heap.size e ti z size bytes ht h1 h2 h3 h4 hzs hsz v 0 [] hs hown ad n c (ZH css n) hx (flatN_len fun j hj=>(hcss j hj).1) (hcell ad rfl) (flatN_one fun j hj=>(hcss j hj).2.1) (by unfold maxLen;omega) (by rw [Nat.zero_add];exact hby) hbl.size ?_
  intro v' w' ho' hg _ hat
  rw [Nat.zero_add,List.nil_append] at ho'
  have hO:JP W w' e size n v' css fun _ i cs=>R i cs:=⟨ho',hbl.grown hg hbl.size fun k hk=>(hown.lt k hk).1,fun j hj=>⟨(hcss j hj).1,(hcss j hj).2.1⟩,fun j hj=>(hcss j hj).2.2⟩
  exact h v' w' (hO.done (fun _ _ _ _ _ h=>h) hby) hO.bl hat hg
end
theorem ownsRow_empty (W:World) (e:TypeId) (size B:Nat) (hB:B≤W.heap.size):(W.alloc (.cells #[] e)).ownsRow B e size (.slice (some ⟨W.heap.size,0,none⟩) 0 0) 0 []:=by
 refine ⟨by simp,.inr ⟨W.heap.size,0, #[],rfl,hB,?_,Nat.le_refl _,by unfold maxLen;omega,by simp,by simp⟩⟩
 show (W.heap.push _)[W.heap.size]?=_
 simp
theorem infc_int:(prog.info? 3).map (fun i=>(i.zero,i.size,i.bytes))=some (some (.int .i64 0),1,8):=by kernel_rfl
theorem clone_int {W:World} {n:Nat} {v:Value} {R:Nat→List Value→Prop} (hv:QR W 1 8 n v R) :
 Calls prog 62 #[v] W fun e W'=> ∃ u,e= .returned u∧QR (World.only W' fun b=>W.heap.size≤b) 1 8 n u R∧Below W.heap.size W W':=by
 have HV:=Qh hv
 have hle:=hv.len
 obtain ⟨A,c,rfl,_,_,hby,hA⟩:=hv
 have HBY:=Qh hby
 clear hby
 have hnil:=fun w=>Lib.run_eql_slice_nil (P:=prog) w 57 3 A n c 0 0 underlying57
 cases A with
 | none=>
  have hn:n=0:=by
   rcases Nat.eq_zero_or_pos n with h | h
   · exact h
   obtain ⟨b,o,h,_⟩:=hA h;cases h
  clear hA
  subst hn
  go_enter func62,ntmps62
  go_wp2
  go_ret
  exact ⟨_,rfl,⟨none,0,rfl,Nat.le_refl _,by omega,Qa HBY,fun h=>absurd h (by omega)⟩,Below.refl _ _⟩
 | some ad=>
  clear hA
  have HB: ∀ o,Hid (Below W.heap.size W (W.alloc o)):=fun o=>Qh ((Below.refl _ _).alloc (Nat.le_refl _) o)
  go_enter func62,ntmps62
  go_wp2_with (at_builtin;go_must (refine K9 rfl _ _ 57 rfl W 3 (.int .i64 0) 1 8 underlying57 infc_int rfl (by decide) (.slice (some ⟨W.heap.size,0,none⟩) 0 0) rfl (ownsRow_empty W _ _ _ (Nat.le_refl _)) (Qa (HB _)) rfl ((Qa HV).sub (.below (Qa (HB _)))) (fun A c h=>by cases h;exact fun h=>by cases h) ?_);intro v' w' h1 h2 _ _)
  have H1:=Qh h1
  have H2:=Qh h2
  clear h1 h2
  go_wp2
  go_ret
  exact ⟨_,rfl,Qa H1,Qa H2⟩
theorem infc_string:(prog.info? 9).map (fun i=>(i.zero,i.size,i.bytes))=some (some (.string ⟨#[]⟩),1,16):=by kernel_rfl
theorem clone_string {W:World} {n:Nat} {v:Value} {R:Nat→List Value→Prop} (hv:QR W 1 16 n v R) :
 Calls prog 64 #[v] W fun e W'=> ∃ u,e= .returned u∧QR (World.only W' fun b=>W.heap.size≤b) 1 16 n u R∧Below W.heap.size W W':=by
 have HV:=Qh hv
 have hle:=hv.len
 obtain ⟨A,c,rfl,_,_,hby,hA⟩:=hv
 have HBY:=Qh hby
 clear hby
 have hnil:=fun w=>Lib.run_eql_slice_nil (P:=prog) w 27 9 A n c 0 0 underlying27
 cases A with
 | none=>
  have hn:n=0:=by
   rcases Nat.eq_zero_or_pos n with h | h
   · exact h
   obtain ⟨b,o,h,_⟩:=hA h;cases h
  clear hA
  subst hn
  go_enter func64,ntmps64
  go_wp2
  go_ret
  exact ⟨_,rfl,⟨none,0,rfl,Nat.le_refl _,by omega,Qa HBY,fun h=>absurd h (by omega)⟩,Below.refl _ _⟩
 | some ad=>
  clear hA
  have HB: ∀ o,Hid (Below W.heap.size W (W.alloc o)):=fun o=>Qh ((Below.refl _ _).alloc (Nat.le_refl _) o)
  go_enter func64,ntmps64
  go_wp2_with (at_builtin;go_must (refine K9 rfl _ _ 27 rfl W 9 (.string ⟨#[]⟩) 1 16 underlying27 infc_string rfl (by decide) (.slice (some ⟨W.heap.size,0,none⟩) 0 0) rfl (ownsRow_empty W _ _ _ (Nat.le_refl _)) (Qa (HB _)) rfl ((Qa HV).sub (.below (Qa (HB _)))) (fun A c h=>by cases h;exact fun h=>by cases h) ?_);intro v' w' h1 h2 _ _)
  have H1:=Qh h1
  have H2:=Qh h2
  clear h1 h2
  go_wp2
  go_ret
  exact ⟨_,rfl,Qa H1,Qa H2⟩
theorem infc_Column:(prog.info? 105).map (fun i=>(i.zero,i.size,i.bytes))=some (some (.agg z_Column.toArray),3,32):=by kernel_rfl
theorem clone_Column {W:World} {n:Nat} {v:Value} {R:Nat→List Value→Prop} (hv:QR W 3 32 n v R) :
 Calls prog 59 #[v] W fun e W'=> ∃ u,e= .returned u∧QR (World.only W' fun b=>W.heap.size≤b) 3 32 n u R∧Below W.heap.size W W':=by
 have HV:=Qh hv
 have hle:=hv.len
 obtain ⟨A,c,rfl,_,_,hby,hA⟩:=hv
 have HBY:=Qh hby
 clear hby
 have hnil:=fun w=>Lib.run_eql_slice_nil (P:=prog) w 22 105 A n c 0 0 underlying22
 cases A with
 | none=>
  have hn:n=0:=by
   rcases Nat.eq_zero_or_pos n with h | h
   · exact h
   obtain ⟨b,o,h,_⟩:=hA h;cases h
  clear hA
  subst hn
  go_enter func59,ntmps59
  go_wp2
  go_ret
  exact ⟨_,rfl,⟨none,0,rfl,Nat.le_refl _,by omega,Qa HBY,fun h=>absurd h (by omega)⟩,Below.refl _ _⟩
 | some ad=>
  clear hA
  have HB: ∀ o,Hid (Below W.heap.size W (W.alloc o)):=fun o=>Qh ((Below.refl _ _).alloc (Nat.le_refl _) o)
  go_enter func59,ntmps59
  go_wp2_with (at_builtin;go_must (refine K9 rfl _ _ 22 rfl W 105 (.agg z_Column.toArray) 3 32 underlying22 infc_Column rfl (by decide) (.slice (some ⟨W.heap.size,0,none⟩) 0 0) rfl (ownsRow_empty W _ _ _ (Nat.le_refl _)) (Qa (HB _)) rfl ((Qa HV).sub (.below (Qa (HB _)))) (fun A c h=>by cases h;exact fun h=>by cases h) ?_);intro v' w' h1 h2 _ _)
  have H1:=Qh h1
  have H2:=Qh h2
  clear h1 h2
  go_wp2
  go_ret
  exact ⟨_,rfl,Qa H1,Qa H2⟩
end Go.Proofs.YtddedijencleeaaGreatDoor
