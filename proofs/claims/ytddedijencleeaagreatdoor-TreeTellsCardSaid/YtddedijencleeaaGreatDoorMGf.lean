/- tree.Bare's closures: contracts. -/
import Derived.Test.YtddedijencleeaaGreatDoorMGi
import Derived.Test.YtddedijencleeaaGreatDoorMSq
set_option linter.all false
namespace Go.Proofs.YtddedijencleeaaGreatDoor
set_option maxRecDepth 100000
set_option maxHeartbeats 4000000
open Tryz
open Go.RowKit Go.Lib

theorem bare_St (x:St) (cs:List Value) (W:World) (h:StIn W x cs) :
 Calls prog 70 #[.agg cs.toArray] W fun r W'=> ∃ ds,r= .returned (.agg ds.toArray)∧StIn (World.only W' fun b=>W.heap.size≤b) { x with e:=QV x.e } ds∧ds.length=11∧ds.toArray.all (·.oneCell')=true∧Below W.heap.size W W':=by
 obtain ⟨hn,es,rfl,he⟩:=h
 have hl:=he.len
 have hone:=QI.one he
 have HC:=Qh fun W' (hb:Below W.heap.size W W')=>Qh (bare_ok x.e es W' (QI.sub (.below hb) he))
 have HB: ∀ o o',Hid (Below W.heap.size W ((W.alloc o).alloc o')):=fun o o'=>Qh (((Below.refl _ _).alloc (Nat.le_refl _) o).alloc (by simp) o')
 have S2:=Qh (SB.two W (Value.string x.nm::es) z_Set 61)
 clear he
 go_enter func70,ntmps70
 go_upto_region 1 with fail
 generalize hD:(W.alloc _).alloc _=D
 replace S2:Hid (SB D W.heap.size (Value.string x.nm::es)∧SB D (W.heap.size+1) z_Set):=by rw [← hD];exact S2
 have HW:Hid (Below W.heap.size W D∧W.heap.size+1+1=D.heap.size):=Qh ⟨by rw [← hD];exact Qa (HB _ _),by rw [← hD];simp⟩
 clear hD HB
 go_wp2_with (refine wpList_load_mid rfl 34 _ rfl W.heap.size 1 rfl es _ ((Qa S2).1.mid 1 es (by simp [hl,List.take_append,List.take_of_length_le])) underlying34 rfl (by rw [hl];exact Zv) ?_)
 refine (Qa ((Qa HC) _ (Qa HW).1)).mono ?_
 rintro e w1 ⟨fs,rfl,hf,hb1⟩
 have hfl:=hf.len
 have hfone:=QI.one hf
 have HF:=Qh hf
 have HDs:=Qh (Qa HW).2
 replace HW:=Qh (And.intro (Below.andThen (Qa HW).1 hb1) (And.intro (Qa HW).2 hb1.size))
 have Y:=Qh (((Qa S2).1.below hb1).put 1 fs (by simp [hl,hfl]))
 have Y2:=Qh (((Qa S2).2.below hb1).far (b:=W.heap.size) (by omega) 1 fs)
 have HTH:Hid (w1.there W.heap.size 1 10):=Qh (((Qa S2).1.below hb1).sub 1 10 (by simp [hl]))
 have HFAR:=Qh (fun b (hb:W.heap.size+1+1≤b)=>(Ze (b:=W.heap.size) (g:=b) (by omega) fs 1 w1))
 clear hb1 hf
 go_upto_region 2 with (refine wpList_store_mid rfl 34 _ _ rfl W.heap.size 1 fs.toArray rfl rfl (by rw [show fs.toArray.size=10 from hfl];exact Qa HTH) (by rw [show fs.toArray.size=10 from hfl];exact Zv) hfone ?_)
 generalize hD:World.setCells _ _ _ _=D2
 replace Y:Hid (SB D2 W.heap.size (Value.string x.nm::fs)):=by
  have:=Qa Y
  rw [hD] at this
  refine Qh ?_
  simpa [hl,hfl,List.take_append,List.drop_append,List.take_of_length_le,List.drop_of_length_le] using this
 replace Y2:Hid (SB D2 (W.heap.size+1) z_Set):=by rw [← hD];exact Y2
 replace HFAR:Hid ((∀ b,W.heap.size+1+1≤b→D2.heap[b]?=w1.heap[b]?)∧w1.heap.size=D2.heap.size):=by rw [← hD];exact Qh ⟨Qa HFAR,by rw [setCells_size]⟩
 replace HW:Hid (Below W.heap.size W D2∧W.heap.size+1+1≤w1.heap.size):=by rw [← hD];exact Qh ⟨Below.setCells (Nat.le_refl _) _ _ _ (Qa HW).1,by have:=(Qa HW).2;omega⟩
 clear hD HTH
 have HTH:Hid (D2.there (W.heap.size+1) 0 11):=Qh (Qa Y2).there
 have hone2:((Value.string x.nm::fs)).toArray.all (·.oneCell')=true:=by simpa [Value.oneCell'] using hfone
 have hlen2:((Value.string x.nm::fs)).length=11:=by simp [hfl]
 go_wp2_with (first
  | (refine wpList_load_mid rfl 61 _ rfl W.heap.size _ rfl (Value.string x.nm::fs) _ (Qa Y).at_ underlying61 rfl (by rw [hlen2];exact siz_Set) ?_)
  | (refine wpList_store_mid rfl 61 _ _ rfl (W.heap.size+1) 0 ((Value.string x.nm::fs)).toArray rfl rfl (by rw [show ((Value.string x.nm::fs)).toArray.size=11 from hlen2];exact Qa HTH) (by rw [show ((Value.string x.nm::fs)).toArray.size=11 from hlen2];exact siz_Set) hone2 ?_))
 have Z:=(Qa Y2).put 0 (Value.string x.nm::fs) (by rw [hlen2];exact Nat.le_refl 11)
 refine bodyPost_ret (Z0 rfl _ _ (b:=W.heap.size+1) (o:=0) rfl (cs:=(Value.string x.nm::fs)) (by
  have:=Z.at_
  simpa [hfl,z_Set,Zr] using this) underlying61 rfl (by rw [hlen2];exact siz_Set)) rfl ?_
 have hs:Jw (World.only w1 fun b=>D.heap.size≤b) (World.only (D2.setCells (W.heap.size+1) 0 (Value.string x.nm::fs)) fun b=>W.heap.size≤b):=by
  have e:=Qa HDs
  refine Za (by rw [setCells_size];exact Nat.le_of_eq (Qa HFAR).2) fun b h1 h2=>⟨by omega,?_⟩
  rw [Ze (by omega)]
  exact (Qa HFAR).1 b (by omega)
 exact ⟨(Value.string x.nm::fs),rfl,⟨hn,fs,rfl,QI.sub hs (Qa HF)⟩,hlen2,hone2,Below.setCells (by omega) _ _ _ (Qa HW).1⟩
theorem bare_It (x:It) (cs:List Value) (W:World) (h:ItIn W x cs) :
 Calls prog 72 #[.agg cs.toArray] W fun r W'=> ∃ ds,r= .returned (.agg ds.toArray)∧ItIn (World.only W' fun b=>W.heap.size≤b) { x with e:=QV x.e } ds∧ds.length=12∧ds.toArray.all (·.oneCell')=true∧Below W.heap.size W W':=by
 obtain ⟨hn,es,rfl,he⟩:=h
 have hl:=he.len
 have hone:=QI.one he
 have HC:=Qh fun W' (hb:Below W.heap.size W W')=>Qh (bare_ok x.e es W' (QI.sub (.below hb) he))
 have HB: ∀ o o',Hid (Below W.heap.size W ((W.alloc o).alloc o')):=fun o o'=>Qh (((Below.refl _ _).alloc (Nat.le_refl _) o).alloc (by simp) o')
 have S2:=Qh (SB.two W (Value.bool x.star::(es++[Value.string x.nm])) z_Item 63)
 clear he
 go_enter func72,ntmps72
 go_upto_region 1 with fail
 generalize hD:(W.alloc _).alloc _=D
 replace S2:Hid (SB D W.heap.size (Value.bool x.star::(es++[Value.string x.nm]))∧SB D (W.heap.size+1) z_Item):=by rw [← hD];exact S2
 have HW:Hid (Below W.heap.size W D∧W.heap.size+1+1=D.heap.size):=Qh ⟨by rw [← hD];exact Qa (HB _ _),by rw [← hD];simp⟩
 clear hD HB
 go_wp2_with (refine wpList_load_mid rfl 34 _ rfl W.heap.size 1 rfl es _ ((Qa S2).1.mid 1 es (by simp [hl,List.take_append,List.take_of_length_le])) underlying34 rfl (by rw [hl];exact Zv) ?_)
 refine (Qa ((Qa HC) _ (Qa HW).1)).mono ?_
 rintro e w1 ⟨fs,rfl,hf,hb1⟩
 have hfl:=hf.len
 have hfone:=QI.one hf
 have HF:=Qh hf
 have HDs:=Qh (Qa HW).2
 replace HW:=Qh (And.intro (Below.andThen (Qa HW).1 hb1) (And.intro (Qa HW).2 hb1.size))
 have Y:=Qh (((Qa S2).1.below hb1).put 1 fs (by simp [hl,hfl]))
 have Y2:=Qh (((Qa S2).2.below hb1).far (b:=W.heap.size) (by omega) 1 fs)
 have HTH:Hid (w1.there W.heap.size 1 10):=Qh (((Qa S2).1.below hb1).sub 1 10 (by simp [hl]))
 have HFAR:=Qh (fun b (hb:W.heap.size+1+1≤b)=>(Ze (b:=W.heap.size) (g:=b) (by omega) fs 1 w1))
 clear hb1 hf
 go_upto_region 2 with (refine wpList_store_mid rfl 34 _ _ rfl W.heap.size 1 fs.toArray rfl rfl (by rw [show fs.toArray.size=10 from hfl];exact Qa HTH) (by rw [show fs.toArray.size=10 from hfl];exact Zv) hfone ?_)
 generalize hD:World.setCells _ _ _ _=D2
 replace Y:Hid (SB D2 W.heap.size (Value.bool x.star::(fs++[Value.string x.nm]))):=by
  have:=Qa Y
  rw [hD] at this
  refine Qh ?_
  simpa [hl,hfl,List.take_append,List.drop_append,List.take_of_length_le,List.drop_of_length_le] using this
 replace Y2:Hid (SB D2 (W.heap.size+1) z_Item):=by rw [← hD];exact Y2
 replace HFAR:Hid ((∀ b,W.heap.size+1+1≤b→D2.heap[b]?=w1.heap[b]?)∧w1.heap.size=D2.heap.size):=by rw [← hD];exact Qh ⟨Qa HFAR,by rw [setCells_size]⟩
 replace HW:Hid (Below W.heap.size W D2∧W.heap.size+1+1≤w1.heap.size):=by rw [← hD];exact Qh ⟨Below.setCells (Nat.le_refl _) _ _ _ (Qa HW).1,by have:=(Qa HW).2;omega⟩
 clear hD HTH
 have HTH:Hid (D2.there (W.heap.size+1) 0 12):=Qh (Qa Y2).there
 have hone2:((Value.bool x.star::(fs++[Value.string x.nm]))).toArray.all (·.oneCell')=true:=by simpa [Value.oneCell'] using hfone
 have hlen2:((Value.bool x.star::(fs++[Value.string x.nm]))).length=12:=by simp [hfl]
 go_wp2_with (first
  | (refine wpList_load_mid rfl 63 _ rfl W.heap.size _ rfl (Value.bool x.star::(fs++[Value.string x.nm])) _ (Qa Y).at_ underlying63 rfl (by rw [hlen2];exact siz_Item) ?_)
  | (refine wpList_store_mid rfl 63 _ _ rfl (W.heap.size+1) 0 ((Value.bool x.star::(fs++[Value.string x.nm]))).toArray rfl rfl (by rw [show ((Value.bool x.star::(fs++[Value.string x.nm]))).toArray.size=12 from hlen2];exact Qa HTH) (by rw [show ((Value.bool x.star::(fs++[Value.string x.nm]))).toArray.size=12 from hlen2];exact siz_Item) hone2 ?_))
 have Z:=(Qa Y2).put 0 (Value.bool x.star::(fs++[Value.string x.nm])) (by rw [hlen2];exact Nat.le_refl 12)
 refine bodyPost_ret (Z0 rfl _ _ (b:=W.heap.size+1) (o:=0) rfl (cs:=(Value.bool x.star::(fs++[Value.string x.nm]))) (by
  have:=Z.at_
  simpa [hfl,z_Item,Zr] using this) underlying63 rfl (by rw [hlen2];exact siz_Item)) rfl ?_
 have hs:Jw (World.only w1 fun b=>D.heap.size≤b) (World.only (D2.setCells (W.heap.size+1) 0 (Value.bool x.star::(fs++[Value.string x.nm]))) fun b=>W.heap.size≤b):=by
  have e:=Qa HDs
  refine Za (by rw [setCells_size];exact Nat.le_of_eq (Qa HFAR).2) fun b h1 h2=>⟨by omega,?_⟩
  rw [Ze (by omega)]
  exact (Qa HFAR).1 b (by omega)
 exact ⟨(Value.bool x.star::(fs++[Value.string x.nm])),rfl,⟨hn,fs,rfl,QI.sub hs (Qa HF)⟩,hlen2,hone2,Below.setCells (by omega) _ _ _ (Qa HW).1⟩
theorem bare_So (x:So) (cs:List Value) (W:World) (h:SoIn W x cs) :
 Calls prog 74 #[.agg cs.toArray] W fun r W'=> ∃ ds,r= .returned (.agg ds.toArray)∧SoIn (World.only W' fun b=>W.heap.size≤b) { x with e:=QV x.e } ds∧ds.length=13∧ds.toArray.all (·.oneCell')=true∧Below W.heap.size W W':=by
 obtain ⟨hn,hn2,es,rfl,he⟩:=h
 have hl:=he.len
 have hone:=QI.one he
 have HC:=Qh fun W' (hb:Below W.heap.size W W')=>Qh (bare_ok x.e es W' (QI.sub (.below hb) he))
 have HB: ∀ o o',Hid (Below W.heap.size W ((W.alloc o).alloc o')):=fun o o'=>Qh (((Below.refl _ _).alloc (Nat.le_refl _) o).alloc (by simp) o')
 have S2:=Qh (SB.two W (Value.string x.nm::Value.string x.al::Value.bool x.left::es) KI 65)
 clear he
 go_enter func74,ntmps74
 go_upto_region 1 with fail
 generalize hD:(W.alloc _).alloc _=D
 replace S2:Hid (SB D W.heap.size (Value.string x.nm::Value.string x.al::Value.bool x.left::es)∧SB D (W.heap.size+1) KI):=by rw [← hD];exact S2
 have HW:Hid (Below W.heap.size W D∧W.heap.size+1+1=D.heap.size):=Qh ⟨by rw [← hD];exact Qa (HB _ _),by rw [← hD];simp⟩
 clear hD HB
 go_wp2_with (refine wpList_load_mid rfl 34 _ rfl W.heap.size 3 rfl es _ ((Qa S2).1.mid 3 es (by simp [hl,List.take_append,List.take_of_length_le])) underlying34 rfl (by rw [hl];exact Zv) ?_)
 refine (Qa ((Qa HC) _ (Qa HW).1)).mono ?_
 rintro e w1 ⟨fs,rfl,hf,hb1⟩
 have hfl:=hf.len
 have hfone:=QI.one hf
 have HF:=Qh hf
 have HDs:=Qh (Qa HW).2
 replace HW:=Qh (And.intro (Below.andThen (Qa HW).1 hb1) (And.intro (Qa HW).2 hb1.size))
 have Y:=Qh (((Qa S2).1.below hb1).put 3 fs (by simp [hl,hfl]))
 have Y2:=Qh (((Qa S2).2.below hb1).far (b:=W.heap.size) (by omega) 3 fs)
 have HTH:Hid (w1.there W.heap.size 3 10):=Qh (((Qa S2).1.below hb1).sub 3 10 (by simp [hl]))
 have HFAR:=Qh (fun b (hb:W.heap.size+1+1≤b)=>(Ze (b:=W.heap.size) (g:=b) (by omega) fs 3 w1))
 clear hb1 hf
 go_upto_region 2 with (refine wpList_store_mid rfl 34 _ _ rfl W.heap.size 3 fs.toArray rfl rfl (by rw [show fs.toArray.size=10 from hfl];exact Qa HTH) (by rw [show fs.toArray.size=10 from hfl];exact Zv) hfone ?_)
 generalize hD:World.setCells _ _ _ _=D2
 replace Y:Hid (SB D2 W.heap.size (Value.string x.nm::Value.string x.al::Value.bool x.left::fs)):=by
  have:=Qa Y
  rw [hD] at this
  refine Qh ?_
  simpa [hl,hfl,List.take_append,List.drop_append,List.take_of_length_le,List.drop_of_length_le] using this
 replace Y2:Hid (SB D2 (W.heap.size+1) KI):=by rw [← hD];exact Y2
 replace HFAR:Hid ((∀ b,W.heap.size+1+1≤b→D2.heap[b]?=w1.heap[b]?)∧w1.heap.size=D2.heap.size):=by rw [← hD];exact Qh ⟨Qa HFAR,by rw [setCells_size]⟩
 replace HW:Hid (Below W.heap.size W D2∧W.heap.size+1+1≤w1.heap.size):=by rw [← hD];exact Qh ⟨Below.setCells (Nat.le_refl _) _ _ _ (Qa HW).1,by have:=(Qa HW).2;omega⟩
 clear hD HTH
 have HTH:Hid (D2.there (W.heap.size+1) 0 13):=Qh (Qa Y2).there
 have hone2:((Value.string x.nm::Value.string x.al::Value.bool x.left::fs)).toArray.all (·.oneCell')=true:=by simpa [Value.oneCell'] using hfone
 have hlen2:((Value.string x.nm::Value.string x.al::Value.bool x.left::fs)).length=13:=by simp [hfl]
 go_wp2_with (first
  | (refine wpList_load_mid rfl 65 _ rfl W.heap.size _ rfl (Value.string x.nm::Value.string x.al::Value.bool x.left::fs) _ (Qa Y).at_ underlying65 rfl (by rw [hlen2];exact siz_Source) ?_)
  | (refine wpList_store_mid rfl 65 _ _ rfl (W.heap.size+1) 0 ((Value.string x.nm::Value.string x.al::Value.bool x.left::fs)).toArray rfl rfl (by rw [show ((Value.string x.nm::Value.string x.al::Value.bool x.left::fs)).toArray.size=13 from hlen2];exact Qa HTH) (by rw [show ((Value.string x.nm::Value.string x.al::Value.bool x.left::fs)).toArray.size=13 from hlen2];exact siz_Source) hone2 ?_))
 have Z:=(Qa Y2).put 0 (Value.string x.nm::Value.string x.al::Value.bool x.left::fs) (by rw [hlen2];exact Nat.le_refl 13)
 refine bodyPost_ret (Z0 rfl _ _ (b:=W.heap.size+1) (o:=0) rfl (cs:=(Value.string x.nm::Value.string x.al::Value.bool x.left::fs)) (by
  have:=Z.at_
  simpa [hfl,KI,Zr] using this) underlying65 rfl (by rw [hlen2];exact siz_Source)) rfl ?_
 have hs:Jw (World.only w1 fun b=>D.heap.size≤b) (World.only (D2.setCells (W.heap.size+1) 0 (Value.string x.nm::Value.string x.al::Value.bool x.left::fs)) fun b=>W.heap.size≤b):=by
  have e:=Qa HDs
  refine Za (by rw [setCells_size];exact Nat.le_of_eq (Qa HFAR).2) fun b h1 h2=>⟨by omega,?_⟩
  rw [Ze (by omega)]
  exact (Qa HFAR).1 b (by omega)
 exact ⟨(Value.string x.nm::Value.string x.al::Value.bool x.left::fs),rfl,⟨hn,hn2,fs,rfl,QI.sub hs (Qa HF)⟩,hlen2,hone2,Below.setCells (by omega) _ _ _ (Qa HW).1⟩
theorem bare_Od (x:Od) (cs:List Value) (W:World) (h:OdIn W x cs) :
 Calls prog 76 #[.agg cs.toArray] W fun r W'=> ∃ ds,r= .returned (.agg ds.toArray)∧OdIn (World.only W' fun b=>W.heap.size≤b) { x with e:=QV x.e } ds∧ds.length=11∧ds.toArray.all (·.oneCell')=true∧Below W.heap.size W W':=by
 obtain ⟨ es,rfl,he⟩:=h
 have hl:=he.len
 have hone:=QI.one he
 have HC:=Qh fun W' (hb:Below W.heap.size W W')=>Qh (bare_ok x.e es W' (QI.sub (.below hb) he))
 have HB: ∀ o o',Hid (Below W.heap.size W ((W.alloc o).alloc o')):=fun o o'=>Qh (((Below.refl _ _).alloc (Nat.le_refl _) o).alloc (by simp) o')
 have S2:=Qh (SB.two W (es++[Value.bool x.desc]) Jn 67)
 clear he
 go_enter func76,ntmps76
 go_upto_region 1 with fail
 generalize hD:(W.alloc _).alloc _=D
 replace S2:Hid (SB D W.heap.size (es++[Value.bool x.desc])∧SB D (W.heap.size+1) Jn):=by rw [← hD];exact S2
 have HW:Hid (Below W.heap.size W D∧W.heap.size+1+1=D.heap.size):=Qh ⟨by rw [← hD];exact Qa (HB _ _),by rw [← hD];simp⟩
 clear hD HB
 go_wp2_with (refine wpList_load_mid rfl 34 _ rfl W.heap.size 0 rfl es _ ((Qa S2).1.mid 0 es (by simp [hl,List.take_append,List.take_of_length_le])) underlying34 rfl (by rw [hl];exact Zv) ?_)
 refine (Qa ((Qa HC) _ (Qa HW).1)).mono ?_
 rintro e w1 ⟨fs,rfl,hf,hb1⟩
 have hfl:=hf.len
 have hfone:=QI.one hf
 have HF:=Qh hf
 have HDs:=Qh (Qa HW).2
 replace HW:=Qh (And.intro (Below.andThen (Qa HW).1 hb1) (And.intro (Qa HW).2 hb1.size))
 have Y:=Qh (((Qa S2).1.below hb1).put 0 fs (by simp [hl,hfl]))
 have Y2:=Qh (((Qa S2).2.below hb1).far (b:=W.heap.size) (by omega) 0 fs)
 have HTH:Hid (w1.there W.heap.size 0 10):=Qh (((Qa S2).1.below hb1).sub 0 10 (by simp [hl]))
 have HFAR:=Qh (fun b (hb:W.heap.size+1+1≤b)=>(Ze (b:=W.heap.size) (g:=b) (by omega) fs 0 w1))
 clear hb1 hf
 go_upto_region 2 with (refine wpList_store_mid rfl 34 _ _ rfl W.heap.size 0 fs.toArray rfl rfl (by rw [show fs.toArray.size=10 from hfl];exact Qa HTH) (by rw [show fs.toArray.size=10 from hfl];exact Zv) hfone ?_)
 generalize hD:World.setCells _ _ _ _=D2
 replace Y:Hid (SB D2 W.heap.size (fs++[Value.bool x.desc])):=by
  have:=Qa Y
  rw [hD] at this
  refine Qh ?_
  simpa [hl,hfl,List.take_append,List.drop_append,List.take_of_length_le,List.drop_of_length_le] using this
 replace Y2:Hid (SB D2 (W.heap.size+1) Jn):=by rw [← hD];exact Y2
 replace HFAR:Hid ((∀ b,W.heap.size+1+1≤b→D2.heap[b]?=w1.heap[b]?)∧w1.heap.size=D2.heap.size):=by rw [← hD];exact Qh ⟨Qa HFAR,by rw [setCells_size]⟩
 replace HW:Hid (Below W.heap.size W D2∧W.heap.size+1+1≤w1.heap.size):=by rw [← hD];exact Qh ⟨Below.setCells (Nat.le_refl _) _ _ _ (Qa HW).1,by have:=(Qa HW).2;omega⟩
 clear hD HTH
 have HTH:Hid (D2.there (W.heap.size+1) 0 11):=Qh (Qa Y2).there
 have hone2:((fs++[Value.bool x.desc])).toArray.all (·.oneCell')=true:=by simpa [Value.oneCell'] using hfone
 have hlen2:((fs++[Value.bool x.desc])).length=11:=by simp [hfl]
 go_wp2_with (first
  | (refine wpList_load_mid rfl 67 _ rfl W.heap.size _ rfl (fs++[Value.bool x.desc]) _ (Qa Y).at_ underlying67 rfl (by rw [hlen2];exact siz_Order) ?_)
  | (refine wpList_store_mid rfl 67 _ _ rfl (W.heap.size+1) 0 ((fs++[Value.bool x.desc])).toArray rfl rfl (by rw [show ((fs++[Value.bool x.desc])).toArray.size=11 from hlen2];exact Qa HTH) (by rw [show ((fs++[Value.bool x.desc])).toArray.size=11 from hlen2];exact siz_Order) hone2 ?_))
 have Z:=(Qa Y2).put 0 (fs++[Value.bool x.desc]) (by rw [hlen2];exact Nat.le_refl 11)
 refine bodyPost_ret (Z0 rfl _ _ (b:=W.heap.size+1) (o:=0) rfl (cs:=(fs++[Value.bool x.desc])) (by
  have:=Z.at_
  simpa [hfl,Jn,Zr] using this) underlying67 rfl (by rw [hlen2];exact siz_Order)) rfl ?_
 have hs:Jw (World.only w1 fun b=>D.heap.size≤b) (World.only (D2.setCells (W.heap.size+1) 0 (fs++[Value.bool x.desc])) fun b=>W.heap.size≤b):=by
  have e:=Qa HDs
  refine Za (by rw [setCells_size];exact Nat.le_of_eq (Qa HFAR).2) fun b h1 h2=>⟨by omega,?_⟩
  rw [Ze (by omega)]
  exact (Qa HFAR).1 b (by omega)
 exact ⟨(fs++[Value.bool x.desc]),rfl,⟨ fs,rfl,QI.sub hs (Qa HF)⟩,hlen2,hone2,Below.setCells (by omega) _ _ _ (Qa HW).1⟩
end Go.Proofs.YtddedijencleeaaGreatDoor

/- tree.each of rows of rows; tree.Bare's closures of keys and rows: contracts. -/
set_option linter.all false
namespace Go.Proofs.YtddedijencleeaaGreatDoor
set_option maxRecDepth 100000
set_option maxHeartbeats 4000000
open Tryz
open Go.RowKit Go.Lib

theorem cells_new1 (W:World) (x:Value) (t:TypeId): ∀ j u,[x][j]?=some u→(W.alloc (.cells #[x] t)).cell? ((⟨W.heap.size,0,none⟩:Addr).add j)=some u:=K0 W [x] t
theorem inf1_Ns:(prog.info? 27).map (fun i=>(i.zero,i.size,i.bytes))=some (some (.slice none 0 0),1,24):=by kernel_rfl
theorem fMGk4 {p:Prop} (h:p:=by
 obtain ⟨A,c,rfl,hnc,hc,hby,hA⟩:=hv
 obtain ⟨ti,hti,hzero,hsize,hbytes⟩:=info_parts KP
 have TI:=Qh (And.intro hti (And.intro hzero (And.intro hsize hbytes)))
 have HA:=Qh hA
 have HF:=Qh hf
 have HQ:=Qh hQ
 have HP:=Qh hP
 have hn:n≤9223372036854775807:=by omega
 have HBY:=Qh hby
 clear hA hf hnc hc hby hQ hti hzero hsize hbytes hP
 go_enter fv2,fv3
 go_wp2
 go_loopw [5,7,10] (fun o _ i wr=> ∃ k:Nat,k≤n∧i= .int .i64 k∧Hid (∃ css,JP W wr fv4 1 k o css Q)) (fun _ _ i _=>n - (RowKit.intOf i).toNat)
 case atStart=>exact ⟨0,Nat.zero_le _,rfl,Qh ⟨fun _=>[],JP.start⟩⟩
 case round=>
  obtain ⟨k,hk,rfl,HO⟩:=hrel
  by_cases hlt:k<n
  · obtain ⟨css,hO⟩:=Qa HO
    obtain ⟨b,o,rfl,hb,hcs⟩:=(Qa HA) (by omega)
    obtain ⟨cs,hl,hone,⟨x,rfl,hP⟩,hr⟩:=hcs k hlt
    have HC:=Qh ((Qa HF) wr hO.bl k x hlt hP)
    obtain ⟨A1,n1,c1,rfl⟩:=(Qa HP) k x hP
    have d1:wr.cell? ⟨b,o+k,none⟩=some (.slice A1 n1 c1):=by simpa using Q5 hr hO.bl 0 _ rfl
    replace hO:=Qh hO
    clear hcs hr hb hP HO hl hone
    go_wp2_with fail
    refine (Qa HC).mono ?_
    rintro e w2 ⟨A2,n2,c2,rfl,hdq,hb2⟩
    have HD:=Qh hdq
    have HB2:=Qh hb2
    clear hdq hb2 HC d1
    go_wp2_with (at_builtin;go_must (refine wpList_append_own_at _ rfl _ _ fv5 rfl W.heap.size fv4 ti (.slice none 0 0) 1 24 fv6 (Qa TI).1 (Qa TI).2.1 (Qa TI).2.2.1 (Qa TI).2.2.2 rfl (by decide) u5 k (ZH css k) rfl (Ky (Qa hO) (Qa HB2) _) ⟨w2.heap.size,0,none⟩ 1 1 [.slice A2 n2 c2] rfl rfl (cells_new1 w2 _ _) (fun u hu=>by simp at hu;subst hu;rfl) (by unfold maxLen;omega) (by have:=Qa HBY;have h2:(k+1)*24≤n*24:=Nat.mul_le_mul_right _ hlt;omega) (by have h1:=(Qa hO).bl.size;have h2:=(Qa HB2).size;simp;omega) ?_);intro v' w4 ho hg _ hat)
    have HN:=Qh (JP.next (Qa hO) (Qa HQ) (Nat.le_refl _) (Qa HB2) (Qa HD) rfl (by simp [Value.oneCell']) ho hg hat)
    clear ho hg hat HD HB2 hO
    go_wp2_with fail
    go_roundw
    case rel=>exact ⟨k+1,by omega,by go_num,Qh ⟨_,Qa HN⟩⟩
    case measure=>simp [RowKit.intOf];omega
  go_wp2
  have:k=n:=by omega
  subst this
  obtain ⟨css,hO⟩:=Qa HO
  go_ret
  exact ⟨_,rfl,hO.done (Qa HQ) (Qa HBY),hO.bl⟩
 ):p:=h
namespace fGk40
abbrev KP:= @inf1_Ns
abbrev fv2:= @func63
abbrev fv3:= @ntmps63
abbrev fv4:Nat:=27
abbrev fv5:Nat:=26
abbrev fv6:= @underlying26
end fGk40
open fGk40 in
theorem each1_Ns {W:World} {n:Nat} {v:Value} {P:Nat→Value→Prop} {Q:World→Nat→List Value→Prop} {g:Nat} (he: ∀ args w,(callFunc g args).run prog w= .ok (.enter g args) w) (hP: ∀ i x,P i x→ ∃ A n c,x= .slice A n c) (hv:QR W 1 24 n v fun i ds=> ∃ x,ds=[x]∧P i x)
 (hQ: ∀ W1 W2 i cs,Jw W1 W2→Q W1 i cs→Q W2 i cs)
 (hf: ∀ W',Below W.heap.size W W'→ ∀ i x,i<n→P i x→Calls prog g #[x] W' fun e W2=> ∃ A m c,e= .returned (.slice A m c)∧Q (World.only W2 fun b=>W'.heap.size≤b) i [.slice A m c]∧Below W'.heap.size W' W2) :
 Calls prog 63 #[v,.func (Fn.func g) #[] #[]] W fun e W'=> ∃ u,e= .returned u∧QR (World.only W' fun b=>W.heap.size≤b) 1 24 n u (fun i ds=>Q (World.only W' fun b=>W.heap.size≤b) i ds)∧Below W.heap.size W W':=fMGk4
theorem inf1_Es:(prog.info? 32).map (fun i=>(i.zero,i.size,i.bytes))=some (some (.slice none 0 0),1,24):=by kernel_rfl
namespace fGk41
abbrev KP:= @inf1_Es
abbrev fv2:= @func65
abbrev fv3:= @ntmps65
abbrev fv4:Nat:=32
abbrev fv5:Nat:=28
abbrev fv6:= @underlying28
end fGk41
open fGk41 in
theorem each1_Es {W:World} {n:Nat} {v:Value} {P:Nat→Value→Prop} {Q:World→Nat→List Value→Prop} {g:Nat} (he: ∀ args w,(callFunc g args).run prog w= .ok (.enter g args) w) (hP: ∀ i x,P i x→ ∃ A n c,x= .slice A n c) (hv:QR W 1 24 n v fun i ds=> ∃ x,ds=[x]∧P i x)
 (hQ: ∀ W1 W2 i cs,Jw W1 W2→Q W1 i cs→Q W2 i cs)
 (hf: ∀ W',Below W.heap.size W W'→ ∀ i x,i<n→P i x→Calls prog g #[x] W' fun e W2=> ∃ A m c,e= .returned (.slice A m c)∧Q (World.only W2 fun b=>W'.heap.size≤b) i [.slice A m c]∧Below W'.heap.size W' W2) :
 Calls prog 65 #[v,.func (Fn.func g) #[] #[]] W fun e W'=> ∃ u,e= .returned u∧QR (World.only W' fun b=>W.heap.size≤b) 1 24 n u (fun i ds=>Q (World.only W' fun b=>W.heap.size≤b) i ds)∧Below W.heap.size W W':=fMGk4
theorem bare_Es (x:Es) (v:Value) (W:World) (hv:Z6 W x.n x.f v) :
 Calls prog 66 #[v] W fun r W'=> ∃ A n c,r= .returned (.slice A n c)∧Z6 (World.only W' fun b=>W.heap.size≤b) (ZN x).n (ZN x).f (.slice A n c)∧Below W.heap.size W W':=by
 have HC:=Qh (each_Expr (W:=W) (Q:=fun W1 i cs=>QI W1 (QV (x.f i)) cs) (Zz func68 (by kernel_rfl) rfl) hv (fun _ _ _ _ hs h=>QI.sub hs h)
  (fun W2 hb2 i cs _ h hl=>(bare_ok (x.f i) cs W2 (QI.sub (.below hb2) h)).mono fun e W3 ⟨ds,h1,h2,h3⟩=>⟨ds,h1,h2.len,QI.one h2,h2,h3⟩))
 obtain ⟨A,c,rfl,_⟩:=hv
 go_enter func66,ntmps66
 go_wp2_with fail
 refine (Qa HC).mono ?_
 rintro e w1 ⟨u,rfl,hu,hb1⟩
 have HU:=Qh hu
 obtain ⟨A',c',hue,_⟩:=id hu
 subst hue
 have HB:=Qh hb1
 clear hu hb1
 go_wp2
 go_ret
 exact ⟨_,_,_,rfl,Qa HU,Qa HB⟩
theorem bare_Ke (x:Ke) (cs:List Value) (W:World) (h:KeIn W x cs) :
 Calls prog 61 #[.agg cs.toArray] W fun r W'=> ∃ ds,r= .returned (.agg ds.toArray)∧KeIn (World.only W' fun b=>W.heap.size≤b) x ds∧ds.length=4∧ds.toArray.all (·.oneCell')=true∧Below W.heap.size W W':=by
 obtain ⟨hn,v,rfl,hv⟩:=h
 have HC:=Qh fun W' (hb:Below W.heap.size W W')=>Qh (clone_int (hv.sub (.below hb)))
 have HB: ∀ o o',Hid (Below W.heap.size W ((W.alloc o).alloc o')):=fun o o'=>Qh (((Below.refl _ _).alloc (Nat.le_refl _) o).alloc (by simp) o')
 obtain ⟨A,c,rfl,_⟩:=hv
 have S2:=Qh (SB.two W (eKey x.nm (.slice A x.n c) x.un x.pr) z_Key 59)
 go_enter func61,ntmps61
 go_upto_region 1 with fail
 generalize hD:(W.alloc _).alloc _=D
 replace S2:Hid (SB D W.heap.size (eKey x.nm (.slice A x.n c) x.un x.pr)∧SB D (W.heap.size+1) z_Key):=by rw [← hD];exact S2
 have HW:Hid (Below W.heap.size W D∧W.heap.size+1+1=D.heap.size):=Qh ⟨by rw [← hD];exact Qa (HB _ _),by rw [← hD];simp⟩
 clear hD HB
 have x1:=(Qa S2).1.cell 1 rfl
 go_wp2_with fail
 refine (Qa ((Qa HC) _ (Qa HW).1)).mono ?_
 rintro e w1 ⟨u,rfl,hu,hb1⟩
 have HF:=Qh hu
 obtain ⟨A',c',hue,_⟩:=id hu
 subst hue
 have HDs:=Qh (Qa HW).2
 replace HW:=Qh (And.intro (Below.andThen (Qa HW).1 hb1) (And.intro (Qa HW).2 hb1.size))
 have y1:=((Qa S2).1.below hb1).cell 1 rfl
 have f1:=((Qa S2).1.below hb1).free 1 (show 1<4 by decide)
 have Y:=Qh (((Qa S2).1.below hb1).put 1 [.slice A' x.n c'] (show 2≤4 by decide))
 have Y2:=Qh (((Qa S2).2.below hb1).far (b:=W.heap.size) (by omega) 1 [.slice A' x.n c'])
 have HFAR:=Qh (fun b (hb:W.heap.size+1+1≤b)=>(Ze (b:=W.heap.size) (g:=b) (by omega) [.slice A' x.n c'] 1 w1))
 clear hb1 hu x1
 go_upto_region 2 with fail
 generalize hD:World.setCell _ _ _=D2
 replace Y:Hid (SB D2 W.heap.size (eKey x.nm (.slice A' x.n c') x.un x.pr)):=by rw [← hD];exact Y
 replace Y2:Hid (SB D2 (W.heap.size+1) z_Key):=by rw [← hD];exact Y2
 replace HFAR:Hid ((∀ b,W.heap.size+1+1≤b→D2.heap[b]?=w1.heap[b]?)∧w1.heap.size=D2.heap.size):=by rw [← hD];exact Qh ⟨Qa HFAR,by simp [World.setCell]⟩
 replace HW:Hid (Below W.heap.size W D2∧W.heap.size+1+1≤w1.heap.size):=by rw [← hD];exact Qh ⟨(Qa HW).1.setCell (p:=⟨W.heap.size,1,none⟩) (Nat.le_refl _) _,by have:=(Qa HW).2;omega⟩
 clear hD y1 f1
 have HTH:Hid (D2.there (W.heap.size+1) 0 4):=Qh (Qa Y2).there
 have hone2:(eKey x.nm (.slice A' x.n c') x.un x.pr).toArray.all (·.oneCell')=true:=by simp [eKey,Value.oneCell']
 go_wp2_with (first
  | (refine wpList_load_mid rfl 59 _ rfl W.heap.size _ rfl (eKey x.nm (.slice A' x.n c') x.un x.pr) _ (Qa Y).at_ underlying59 rfl siz_Key ?_)
  | (refine wpList_store_mid rfl 59 _ _ rfl (W.heap.size+1) 0 (eKey x.nm (.slice A' x.n c') x.un x.pr).toArray rfl rfl (Qa HTH) siz_Key hone2 ?_))
 have Z:=(Qa Y2).put 0 (eKey x.nm (.slice A' x.n c') x.un x.pr) (Nat.le_refl 4)
 refine bodyPost_ret (Z0 rfl _ _ (b:=W.heap.size+1) (o:=0) rfl (cs:=eKey x.nm (.slice A' x.n c') x.un x.pr) Z.at_ underlying59 rfl siz_Key) rfl ?_
 have hs:Jw (World.only w1 fun b=>D.heap.size≤b) (World.only (D2.setCells (W.heap.size+1) 0 (eKey x.nm (.slice A' x.n c') x.un x.pr)) fun b=>W.heap.size≤b):=by
  have e:=Qa HDs
  refine Za (by rw [setCells_size];exact Nat.le_of_eq (Qa HFAR).2) fun b h1 h2=>⟨by omega,?_⟩
  rw [Ze (by omega)]
  exact (Qa HFAR).1 b (by omega)
 exact ⟨_,rfl,⟨hn,_,rfl,(Qa HF).sub hs⟩,rfl,hone2,Below.setCells (by omega) _ _ _ (Qa HW).1⟩
end Go.Proofs.YtddedijencleeaaGreatDoor

/- tree.Same's closures: contracts. -/
set_option linter.all false
namespace Go.Proofs.YtddedijencleeaaGreatDoor
open Go.RowKit Go.Lib

end Go.Proofs.YtddedijencleeaaGreatDoor

/- tree.Same: contract. -/
set_option linter.all false
namespace Go.Proofs.YtddedijencleeaaGreatDoor
open Go.RowKit Go.Lib RC

theorem TaIn.form {W:World} {t:Ta} {cs:List Value} (h:TaIn W t cs): ∃ A n c A' n' c',cs=[.string t.nm,.slice A n c,.slice A' n' c']:=by
 obtain ⟨_,v,u,rfl,⟨A,c,rfl,_⟩,A',c',rfl,_⟩:=h
 exact ⟨_,_,_,_,_,_,rfl⟩
theorem QR.form {W:World} {size bytes n:Nat} {v:Value} {P:Nat→List Value→Prop} (h:QR W size bytes n v P): ∃ A c,v= .slice A n c:=by
 obtain ⟨A,c,h,_⟩:=h
 exact ⟨A,c,h⟩
theorem ZD.form {W:World} {n:Nat} {f:Nat→ByteArray} {v:Value} (h:ZD W n f v): ∃ A c,v= .slice A n c:=QR.form h
theorem Z6.form {W:World} {n:Nat} {f:Nat→E} {v:Value} (h:Z6 W n f v): ∃ A c,v= .slice A n c:=QR.form h
section
variable {W W':World} (hb:Below W.heap.size W W')
include hb
end
end Go.Proofs.YtddedijencleeaaGreatDoor
