/- A writer of words as it lies in memory (package tree's writer: a builder, two counters): what it holds, how it goes on. No program's code. -/
import Derived.Test.YtddedijencleeaaGreatDoorMBits
import Derived.Lib.Builder
import Derived.Lib.Hide
import Derived.Lib.UnsafeStr
import Derived.Test.YtddedijencleeaaGreatDoorChecked
import Derived.OwnWalk
import Derived.WalkKit
import Derived.WalkSpells
import Derived.Lib.AppendStr
import Derived.ProofKit
import Derived.Deep.QuietTactic
import Derived.BigQuiet
import Derived.Deep.RegionHeld3
import Derived.RegionTactic
import Derived.ChangeAlike
import Derived.Deep.LoopGhost
set_option linter.all false
namespace Go.Proofs.YtddedijencleeaaGreatDoor
open Go.RowKit Go.Lib

structure WS (b:Nat) (v v':Value) (w w':World):Prop where
 os:w'.os=w.os
 tape:w'.tape=w.tape
 output:w'.output=w.output
 size:w.heap.size≤w'.heap.size
 block: ∀ g,g<w.heap.size→g≠b→v.ownBlock≠some g→w'.heap[g]?=w.heap[g]?
 own: ∀ g,v'.ownBlock=some g→v.ownBlock=some g∨w.heap.size≤g
section
variable {b:Nat} {v v' v'':Value} {w w' w'':World}
theorem WS.refl (b:Nat) (v:Value) (w:World):WS b v v w w:=⟨rfl,rfl,rfl,Nat.le_refl _,fun _ _ _ _=>rfl,fun _ h=>.inl h⟩
theorem WS.trans (h:WS b v v' w w') (k:WS b v' v'' w' w''):WS b v v'' w w'':=by
 refine ⟨k.os.trans h.os,k.tape.trans h.tape,k.output.trans h.output,Nat.le_trans h.size k.size,fun g hg hb hv=>(k.block g (Nat.lt_of_lt_of_le hg h.size) hb fun e=> ?_).trans (h.block g hg hb hv),fun g hg=> ?_⟩
 · rcases h.own g e with q | q
   · exact hv q
   omega
 rcases k.own g hg with q | q
 · exact h.own g q
 exact .inr (Nat.le_trans h.size q)
theorem WS.ofBelow (b:Nat) (v:Value) (h:Below w.heap.size w w'):WS b v v w w':=⟨h.os,h.tape,h.output,h.size,fun g hg _ _=>h.block g hg,fun _ h=>.inl h⟩
theorem WS.alloc (h:WS b v v' w w') (o:Obj):WS b v v' w (w'.alloc o):=h.trans (WS.ofBelow b v' ((Below.refl _ _).alloc (Nat.le_refl _) o))
theorem WS.set (h:WS b v v' w w') (n:Nat) (x:Value):WS b v v' w (w'.setCell ⟨b,n,none⟩ x):=
 h.trans ⟨rfl,rfl,rfl,by simp [World.setCell],fun g _ hb _=>Below.heap_setCell _ _ _ _ (by simpa using hb),fun _ h=>.inl h⟩
theorem WS.below {B:Nat} (h:WS b v v' w w') (hb:B≤b) (hv: ∀ g,v.ownBlock=some g→B≤g) (hs:B≤w.heap.size):Below B w w' :=
 ⟨h.os,h.tape,h.output,h.size,fun g hg=>h.block g (Nat.lt_of_lt_of_le hg hs) (by omega) fun e=>by have:=hv g e;omega⟩
end

structure Wr (B b:Nat) (o m:Int) (l:List UInt8) (v:Value) (w:World):Prop where
 lo:B≤b
 hi:B≤w.heap.size
 blk: ∃ p,(p= .pointer none∨p= .pointer (some ⟨b,0,none⟩))∧w.heap[b]?=some (.cells #[p,v,.int .i64 o,.int .i64 m] 76 (0,0))
 own:w.ownsRow B 5 1 v l.length (byteCells l)
section
variable {B b:Nat} {l:List UInt8} {o m:Int} {v:Value} {w w':World}
theorem Wr.lt (h:Wr B b o m l v w):b<w.heap.size:=by
 obtain ⟨p,_,h⟩:=h.blk
 exact (Array.getElem?_eq_some_iff.1 h).1
theorem Wr.ownLo (h:Wr B b o m l v w): ∀ g,v.ownBlock=some g→B≤g∧g<w.heap.size:=by
 exact h.own.lt
theorem Wr.ne (h:Wr B b o m l v w):v.ownBlock≠some b:=by
 obtain ⟨p,_,h2⟩:=h.blk
 exact ownBlock_ne h.own h2 (by decide)
theorem Wr.form (h:Wr B b o m l v w): ∃ A c,v= .slice A l.length c:=by
 rcases h.own.2 with ⟨hv,h0⟩ | ⟨g,cap,cur,hv,_⟩
 · exact ⟨none,0,by rw [hv,h0]⟩
 exact ⟨_,_,hv⟩
theorem Wr.cells (h:Wr B b o m l v w):w.cell? ⟨b,1,none⟩=some v∧w.cell? ⟨b,2,none⟩=some (.int .i64 o)∧w.cell? ⟨b,3,none⟩=some (.int .i64 m)∧ ∀ i,w.frozen? ⟨b,i,none⟩=false:=by
 obtain ⟨p,_,h⟩:=h.blk
 refine ⟨?_,?_,?_,fun i=>Lib.frozen_of_heap h i⟩ <;> rw [Lib.cell_of_heap h] <;> rfl
theorem Wr.keep (h:Wr B b o m l v w) (hb:Below w.heap.size w w'):Wr B b o m l v w':=by
 obtain ⟨p,hp,h1⟩:=h.blk
 exact ⟨h.lo,Nat.le_trans h.hi hb.size,⟨p,hp,(hb.block b h.lt).trans h1⟩,h.own.kept (row:=none) ⟨hb.os,hb.tape,hb.output,hb.size,fun k hk _=>hb.block k hk⟩ (by
  cases v.ownBlock <;> simp)⟩
theorem Wr.alloc (h:Wr B b o m l v w) (x:Obj):Wr B b o m l v (w.alloc x):=h.keep ((Below.refl _ _).alloc (Nat.le_refl _) x)
theorem Wr.kept1 (h:Wr B b o m l v w) (p x:Value) (n:Nat) (hb:w.heap[b]?=some (.cells #[p,v,.int .i64 o,.int .i64 m] 76 (0,0))):(w.setCell ⟨b,n,none⟩ x).ownsRow B 5 1 v l.length (byteCells l):=
 h.own.kept (row:=some b) ⟨rfl,rfl,rfl,by simp [World.setCell],fun k _ hk=>Below.heap_setCell _ _ _ _ (fun e=>hk (by simp [e]))⟩ (.inr h.ne)
theorem Wr.setO (h:Wr B b o m l v w) (x:Int):Wr B b x m l v (w.setCell ⟨b,2,none⟩ (.int .i64 x)):=by
 obtain ⟨p,hp,h1⟩:=h.blk
 exact ⟨h.lo,by simpa [World.setCell] using h.hi,⟨p,hp,by simp [World.setCell,Array.getElem?_modify,h1]⟩,h.kept1 p _ _ h1⟩
theorem Wr.setM (h:Wr B b o m l v w) (x:Int):Wr B b o x l v (w.setCell ⟨b,3,none⟩ (.int .i64 x)):=by
 obtain ⟨p,hp,h1⟩:=h.blk
 exact ⟨h.lo,by simpa [World.setCell] using h.hi,⟨p,hp,by simp [World.setCell,Array.getElem?_modify,h1]⟩,h.kept1 p _ _ h1⟩
theorem Wr.drew (h:Wr B b o m l v w):Wr B b o m l v w.drew:=⟨h.lo,h.hi,h.blk,h.own⟩
theorem WS.drew {v':Value} (h:WS b v v' w w'):WS b v v' w w'.drew:=⟨h.os,h.tape,h.output,h.size,h.block,h.own⟩
structure Own (b:Nat) (v:Value) (w:World) (g:Nat):Prop where
 lt:g<w.heap.size
 ne:g≠b
 no:v.ownBlock≠some g
theorem Own.step {g:Nat} {v':Value} (h:Own b v w g) (k:WS b v v' w w'):Own b v' w' g∧w'.heap[g]?=w.heap[g]? :=
 ⟨⟨Nat.lt_of_lt_of_le h.lt k.size,h.ne,fun e=>by
   rcases k.own g e with q | q
   · exact h.no q
   · have:=h.lt;omega⟩,k.block g h.lt h.ne h.no⟩
theorem Wr.new (h:Wr B b o m l v w) (x:Obj):Own b v (w.alloc x) w.heap.size:=
 ⟨by simp,fun e=>by have:=h.lt;omega,fun e=>by have:=(h.ownLo _ e).2;omega⟩
end
end Go.Proofs.YtddedijencleeaaGreatDoor

/- The writer writes a text: (*writer).says, down to the builder's append (after the kit's walk of a builder in a block of its own). -/
set_option linter.all false
namespace Go.Proofs.YtddedijencleeaaGreatDoor
set_option maxRecDepth 100000
set_option maxHeartbeats 2000000
open Tryz
open Go.RowKit Go.Lib

theorem Kn {g : FuncId} {fn : Func} {c : Code} (hg : prog.funcs[g]? = some fn) (hname : (fn.name == "runtime.NumGoroutine") = false) (hb : fn.body = some c) (xs : Array Value) (w : World) :
 (callFunc g xs).run prog w= .ok (.enter g xs) w:=by
 simp only [callFunc,Sem.run_bind,run_program,Result.andThen_ok,hg,hname,hb,Option.isNone_some,Bool.false_eq_true,if_false,Sem.run_pure]
namespace WX
theorem ub:prog.underlying 71=some (.pointer 74):=underlying71
theorem uu:prog.underlying 167=some .unsafePointer:=underlying167
theorem sizeB:(prog.info? 74).map (·.size)=some 2:=by kernel_rfl
theorem lies:liesAt prog prog.depth 76 (4 / prog.cellsOf 76) 0 74 1=true:=by kernel_rfl
theorem byte:(prog.info? 5).map (fun i=>(i.zero,i.size,i.bytes))=some (some (.int .u8 0),1,1):=by kernel_rfl
end WX

theorem append_text_at {P:Program} (w:World) (base:Nat) (t u ty e:TypeId) (i:TypeInfo) (ht:P.underlying t=some (.slice e)) (hu:P.underlying u=some .string) (hi:P.info? e=some i) (hz:i.zero=some (.int .u8 0))
 (hsize:i.size=1) (hby:i.bytes=1) (v:Value) (n:Nat) (xs:List Value) (hown:w.ownsRow base e 1 v n xs) (s:ByteArray)
 (h63:n+s.size≤maxLen) (hbytes:n+s.size≤140737488355328) (hbase:base≤w.heap.size) :
 ∃ v' w',(Builtin.append_ #[t,u] ty #[v,.string s]).run P w= .ok v' w'∧w'.ownsRow base e 1 v' (n+s.size) (xs++strCells s)∧w.grownBy w' v.ownBlock∧(∀ g,v'.ownBlock=some g→v.ownBlock=some g∨w.heap.size≤g):=by
 obtain ⟨v',w',hr,h2,h3,h4⟩:=run_append_own_string (P:=P) w base t u ty e i ht hu hi hz hsize hby v n xs hown s h63 hbytes hbase
 refine ⟨v',w',hr,h2,h3,?_⟩
 rcases hown.2 with ⟨rfl,rfl⟩ | ⟨g,cap,cur,rfl,hbg,hg,hnc,hcm,hcs,htake⟩
 · have hx:xs=[]:=List.eq_nil_of_length_eq_zero (by simpa using hown.1)
   subst hx
   obtain ⟨v2,w2,hr2,k2,_,_⟩:=run_append_own_string (P:=P) w w.heap.size t u ty e i ht hu hi hz hsize hby (.slice none 0 0) 0 [] (World.ownsRow_nil w _ e 1) s h63 hbytes (Nat.le_refl _)
   rw [hr] at hr2
   cases hr2
   exact fun g hg=>.inr (k2.lt g hg).1
 by_cases hroom:n+s.size≤cap
 · have hr2:=run_append_room_string (P:=P) w t u ty e i ht hu hi hsize g n cap cur hg s hroom (by simp at hcs;omega)
   rw [hr] at hr2
   cases hr2
   exact fun g' hg'=>.inl (by simpa [Value.ownBlock] using hg')
 have holds: ∀ j u,xs[j]?=some u→w.cell? ((⟨g,0,none⟩:Addr).add j)=some u:=hown.cells (g:=g) rfl
 have hr2:=run_append_grow_string (P:=P) w t u ty e i (.int .u8 0) ht hu hi hz ⟨g,0,none⟩ n cap xs (by rw [hsize];simpa using hown.1) holds s (by omega) (by unfold maxLen at h63;omega) (by rw [hby];exact growslice_fits (by omega) (by omega))
 rw [hr] at hr2
 cases hr2
 exact fun g' hg'=>.inr (by simp [Value.ownBlock] at hg';omega)
theorem wp_append_text_at {P:Program} {ops:Array Oper} {rest:List Oper} {o:Oper} {a:Act} {Q:Exit→Act→World→Prop} (w:World) (hgd:o.guard=none) (sl x:Operand) (t u:TypeId)
 (ho:o.op= .call { callee:=.builtin .append,args:= #[sl,x],argTypes:= #[t,u] })
 (base:Nat) (e:TypeId) (i:TypeInfo) (ht:P.underlying t=some (.slice e)) (hu:P.underlying u=some .string) (hi:P.info? e=some i) (hz:i.zero=some (.int .u8 0))
 (hsize:i.size=1) (hby:i.bytes=1)
 (v:Value) (n:Nat) (xs:List Value) (hs:a.eval sl=v) (hown:w.ownsRow base e 1 v n xs) (s:ByteArray) (hx:a.eval x= .string s)
 (h63:n+s.size≤maxLen) (hbytes:n+s.size≤140737488355328) (hbase:base≤w.heap.size)
 (h: ∀ v' w',w'.ownsRow base e 1 v' (n+s.size) (xs++strCells s)→w.grownBy w' v.ownBlock→(∀ g,v'.ownBlock=some g→v.ownBlock=some g∨w.heap.size≤g)→wpList P ops Q rest (a.put o.dst v') w'):wpList P ops Q (o::rest) a w:=by
 refine wpList_plain hgd fun K hK=> ?_
 obtain ⟨v',w',hr,h2,h3,h4⟩:=append_text_at (P:=P) w base t u o.type e i ht hu hi hz hsize hby v n xs hown s h63 hbytes hbase
 unfold Oper.wp execOp
 simp only [ho,resolve,invoke,builtin,Sem.run_bind,Sem.run_pure,Result.andThen_ok,List.map_toArray,List.map_cons,List.map_nil,hs,hx,hr]
 exact hK _ _ (h v' w' h2 h3 h4)

theorem copyCheck_used (b:Nat) (w:World) (h0:w.cell? ⟨b,0,none⟩=some (.pointer (some ⟨b,0,none⟩))) :
 Calls prog 207 #[.pointer (some ⟨b,0,none⟩)] w fun e w'=>e= .returned (.tuple #[])∧w'=w:=by
 obtain ⟨j,hj,_⟩:=Option.map_eq_some_iff.1 WX.sizeB
 go_enter func207,ntmps207
 go_wp2
 rw [Lib.run_neq_ptr_same w _ WX.ub hj]
 go_wp2
 go_end0
 exact ⟨rfl,rfl⟩
theorem copyCheck_fresh (b:Nat) (w:World) (h0:w.cell? ⟨b,0,none⟩=some (.pointer none)) (hsh:w.shape? b=some (76,4)) (hfz:w.frozen? ⟨b,0,none⟩=false) :
 Calls prog 207 #[.pointer (some ⟨b,0,none⟩)] w fun e w'=>e= .returned (.tuple #[])∧w'=w.setCell ⟨b,0,none⟩ (.pointer (some ⟨b,0,none⟩)):=by
 obtain ⟨j,hj,hjs⟩:=Option.map_eq_some_iff.1 WX.sizeB
 go_enter func207,ntmps207
 go_wp2
 rw [Lib.run_to_unsafe w ⟨b,0,none⟩ WX.ub WX.uu hj (by rw [hjs];decide) hsh (Nat.zero_lt_succ 3)]
 simp only [Result.andThen]
 rw [Oper.upon_value]
 go_wp2
 rw [run_callFunc_extern func223 (by kernel_rfl) (by kernel_rfl) (by kernel_rfl) (e:=Extern.AbiNoEscape.same) (by kernel_rfl)]
 rw [Lib.run_noEscape]
 simp only [Result.andThen]
 rw [Oper.upon_value]
 go_wp2
 rw [Lib.run_from_unsafe w ⟨b,0,none⟩ WX.uu WX.ub hj hsh WX.lies]
 simp only [Result.andThen]
 rw [Oper.upon_value]
 go_wp2
 go_end0
 exact ⟨rfl,rfl⟩
theorem copyCheck {B b:Nat} {o m:Int} {l:List UInt8} {v:Value} {w:World} (h:Wr B b o m l v w) :
 Calls prog 207 #[.pointer (some ⟨b,0,none⟩)] w fun e w'=>e= .returned (.tuple #[])∧w'.heap[b]?=some (.cells #[.pointer (some ⟨b,0,none⟩),v,.int .i64 o,.int .i64 m] 76 (0,0)) ∧
  w'.ownsRow B 5 1 v l.length (byteCells l)∧WS b v v w w':=by
 obtain ⟨p,hp,h1⟩:=h.blk
 rcases hp with rfl | rfl
 · refine (copyCheck_fresh b w (by simp [World.cell?,h1]) (by simp [World.shape?,h1]) (by simp [World.frozen?,h1])).mono ?_
   rintro e w' ⟨rfl,rfl⟩
   exact ⟨rfl,by simp [World.setCell,Array.getElem?_modify,h1],h.kept1 _ _ _ h1,(WS.refl b v w).set 0 _⟩
 refine (copyCheck_used b w (by simp [World.cell?,h1])).mono ?_
 rintro e w' ⟨rfl,rfl⟩
 exact ⟨rfl,h1,h.own,WS.refl b v w'⟩
theorem writeString {B b:Nat} {o m:Int} {l:List UInt8} {v:Value} {w:World} (h:Wr B b o m l v w) (s:ByteArray) (hlen:l.length+s.size≤140737488355328) :
 Calls prog 170 #[.pointer (some ⟨b,0,none⟩),.string s] w fun e w'=>e= .returned (.tuple #[.int .i64 s.size,.nilIface])∧ ∃ v',Wr B b o m (l++s.data.toList) v' w'∧WS b v v' w w':=by
 obtain ⟨i0,hi,hz0,hz1,hz2⟩:=info_parts WX.byte
 have HC:=Qh (copyCheck h)
 go_enter func170,ntmps170
 go_wp2_with fail
 refine (Qa HC).mono ?_
 rintro e w1 ⟨rfl,hbk,hown,hs1⟩
 have c1:w1.cell? ⟨b,1,none⟩=some v:=by rw [Lib.cell_of_heap hbk];rfl
 have hne:v.ownBlock≠some b:=ownBlock_ne hown hbk (by decide)
 have hlt:b<w1.heap.size:=(Array.getElem?_eq_some_iff.1 hbk).1
 go_wp2_with (at_builtin;refine wp_append_text_at _ rfl _ _ 72 9 rfl B 5 i0 underlying72 underlying9 hi hz0 hz1 hz2 _ _ _ rfl hown s rfl ?c3 ?c4 ?c5 ?_)
 case c3=>unfold maxLen;omega
 case c4=>omega
 case c5=>have:=hs1.size;have:=h.hi;omega
 intro v' w2 hown' hgrow hfr
 have hb2:w2.heap[b]?=some (.cells #[.pointer (some ⟨b,0,none⟩),v,.int .i64 o,.int .i64 m] 76 (0,0)):=by
  rw [hgrow.block b hlt (fun e=>hne e.symm)]
  exact hbk
 have f1:w2.frozen? ⟨b,1,none⟩=false:=Lib.frozen_of_heap hb2 1
 have d1:w2.cell? ⟨b,1,none⟩=some v:=by rw [Lib.cell_of_heap hb2];rfl
 obtain ⟨ao,n',cap,rfl⟩: ∃ ao n' cap,v'= .slice ao n' cap:=by
  rcases hown'.2 with ⟨hv,_⟩ | ⟨g,cap,cur,hv,_⟩
  · exact ⟨_,_,_,hv⟩
  exact ⟨_,_,_,hv⟩
 go_wp2
 go_ret2
 refine ⟨rfl,_,⟨h.lo,?_,⟨_,.inr rfl,?_⟩,?_⟩,(hs1.trans ⟨hgrow.os,hgrow.tape,hgrow.output,hgrow.size,fun g hg _ hv=>hgrow.block g hg (fun e=>hv e.symm),hfr⟩).set 1 _⟩
 · have:=hs1.size;have:=hgrow.size;have:=h.hi;simp [World.setCell];omega
 · simp [World.setCell,Array.getElem?_modify,hb2]
 have:=hown'.kept (row:=some b) (w':=w2.setCell ⟨b,1,none⟩ (.slice ao n' cap)) ⟨rfl,rfl,rfl,by simp [World.setCell],fun k _ hk=>Below.heap_setCell _ _ _ _ (fun e=>hk (by simp [e]))⟩ (.inr (ownBlock_ne hown' hb2 (by decide)))
 rw [List.length_append,byteCells_append, ← strCells_eq]
 simpa using this
theorem says {B b:Nat} {o m:Int} {l:List UInt8} {v:Value} {w:World} (h:Wr B b o m l v w) (s:ByteArray) (hlen:l.length+s.data.toList.length≤140737488355328) :
 Calls prog 104 #[.pointer (some ⟨b,0,none⟩),.string s] w fun e w'=>e= .returned (.tuple #[])∧ ∃ v',Wr B b o m (l++s.data.toList) v' w'∧WS b v v' w w':=by
 have HC:=Qh (writeString h s (by rw [Array.length_toList] at hlen;exact hlen))
 go_enter func104,ntmps104
 go_wp2_with fail
 refine (Qa HC).mono ?_
 rintro e w1 ⟨rfl,v',h1,h2⟩
 go_wp2
 go_end0
 exact ⟨rfl,v',h1,h2⟩
end Go.Proofs.YtddedijencleeaaGreatDoor

/- Expressions one within the other, as values and in memory; the writer writes one: leaves, a list of one, what stands in brackets. -/
set_option linter.all false
namespace Go.Proofs.YtddedijencleeaaGreatDoor
set_option maxRecDepth 100000
open Tryz
open Go.RowKit Go.Lib

structure X where
 k:Int
 op:Int
 vk:Int
 vn:Int
 nm:ByteArray
 A:Option Addr
 n:Nat
 c:Nat
def X.val (x:X):Value:=.agg #[.int .i64 x.k,.int .i64 x.op,.int .i64 x.vk,.int .i64 x.vn,.string ⟨#[]⟩,.string ⟨#[]⟩,.string x.nm,.slice x.A x.n x.c,.int .i64 0,.int .i64 0]
def X.cells (x:X):List Value:=[.int .i64 x.k,.int .i64 x.op,.int .i64 x.vk,.int .i64 x.vn,.string ⟨#[]⟩,.string ⟨#[]⟩,.string x.nm,.slice x.A x.n x.c,.int .i64 0,.int .i64 0]
structure Keeps (b:Nat) (v:Value) (w:World) (g:Nat) (cs:List Value) (t:TypeId):Prop where
 own:Own b v w g
 blk:w.heap[g]?=some (.cells cs.toArray t (0,0))
section
variable {b g B:Nat} {v v':Value} {w w':World} {cs:List Value} {t:TypeId} {o m:Int} {l:List UInt8}
theorem Keeps.step (h:Keeps b v w g cs t) (k:WS b v v' w w'):Keeps b v' w' g cs t:=⟨(h.own.step k).1,(h.own.step k).2.trans h.blk⟩
theorem Keeps.cell (h:Keeps b v w g cs t) (n:Nat):w.cell? ⟨g,n,none⟩=cs[n]?:=by
 rw [Lib.cell_of_heap h.blk];simp
theorem Keeps.fro (h:Keeps b v w g cs t) (n:Nat):w.frozen? ⟨g,n,none⟩=false:=Lib.frozen_of_heap h.blk n
theorem Wr.box (h:Wr B b o m l v w) (cs:List Value) (t:TypeId):Keeps b v (w.alloc (.cells cs.toArray t)) w.heap.size cs t:=
 ⟨h.new _,by show (w.heap.push _)[w.heap.size]?=_;simp⟩
theorem Keeps.alloc (h:Keeps b v w g cs t) (x:Obj):Keeps b v (w.alloc x) g cs t:=h.step ((WS.refl b v w).alloc x)
theorem Keeps.drew (h:Keeps b v w g cs t):Keeps b v w.drew g cs t:=⟨⟨h.own.lt,h.own.ne,h.own.no⟩,h.blk⟩
theorem Keeps.ten (x:X) (h:Keeps b v w g x.cells t):w.cell? ⟨g,0,none⟩=some (.int .i64 x.k)∧w.cell? ⟨g,1,none⟩=some (.int .i64 x.op)∧w.cell? ⟨g,2,none⟩=some (.int .i64 x.vk)∧w.cell? ⟨g,3,none⟩=some (.int .i64 x.vn) ∧
 w.cell? ⟨g,4,none⟩=some (.string ⟨#[]⟩)∧w.cell? ⟨g,5,none⟩=some (.string ⟨#[]⟩)∧w.cell? ⟨g,6,none⟩=some (.string x.nm)∧w.cell? ⟨g,7,none⟩=some (.slice x.A x.n x.c)∧w.cell? ⟨g,8,none⟩=some (.int .i64 0)∧w.cell? ⟨g,9,none⟩=some (.int .i64 0)∧ ∀ i,w.frozen? ⟨g,i,none⟩=false:=
 ⟨h.cell 0,h.cell 1,h.cell 2,h.cell 3,h.cell 4,h.cell 5,h.cell 6,h.cell 7,h.cell 8,h.cell 9,h.fro⟩
end
def top (o m:Int):Nat→Int
 | 0=>m
 | d+1=>max m (o+(d+1:Nat))
theorem len3 {l a t z:List UInt8} (h:l.length+(a++t++z).length≤140737488355328):l.length+a.length≤140737488355328∧(l++a).length+t.length≤140737488355328∧(l++a++t).length+z.length≤140737488355328:=by
 simp only [List.length_append] at h ⊢;omega
theorem top_up (o m:Int) (d:Nat):top (o+1) (max m (o+1)) d=top o m (d+1):=by
 cases d <;> simp only [top] <;> omega
def PW (B b:Nat) (o m:Int) (l:List UInt8) (v:Value) (W W':World):Prop:= ∃ v',Wr B b o m l v' W'∧WS b v v' W W'
theorem within_pr {B b:Nat} {o m:Int} {l:List UInt8} {v:Value} {W:World} (h:Wr B b o m l v W) (a z:ByteArray) (f:Nat) (he: ∀ args w,(callFunc f args).run prog w= .ok (.enter f args) w) (p q:Value) (txt:List UInt8) (d:Nat) (ho:0≤o) (hod:o+(d+1:Nat)≤1000) (hm:0≤m) (hm2:m≤1000)
 (hl:l.length+(a.data.toList++txt++z.data.toList).length≤140737488355328)
 (HF: ∀ v' W',Wr B b (o+1) (max m (o+1)) (l++a.data.toList) v' W'→WS b v v' W W'→Calls prog f #[p,q] W' fun e W2=>e= .returned (.tuple #[])∧PW B b (o+1) (top (o+1) (max m (o+1)) d) (l++a.data.toList++txt) v' W' W2) :
 Calls prog 173 #[.pointer (some ⟨b,0,none⟩),.string a,.func (Fn.func f) #[] #[p,q],.string z] W fun e W'=>e= .returned (.tuple #[])∧PW B b o (top o m (d+1)) (l++(a.data.toList++txt++z.data.toList)) v W W':=by
 have HL:=Qh hl
 clear hl
 have H:=Qh h
 have HFF:=Qh HF
 have H1:=Qh (says h a (len3 (Qa HL)).1)
 clear h HF
 go_enter func173,ntmps173
 go_wp2_with fail
 refine (Qa H1).mono ?_
 rintro e w1 ⟨rfl,v1,hw1,hs1⟩
 have HW1:=Qh hw1
 have HS1:=Qh hs1
 obtain ⟨b1,b2,b3,fb⟩:=hw1.cells
 obtain ⟨c1,c2,c3,fc⟩:=(hw1.setO (o+1)).cells
 clear hw1 hs1 H1
 go_wp2_with fail
 go_region
 have hmx:(if m<o+1 then o+1 else m)=max m (o+1):=by split <;> omega
 rw [hmx]
 have HW2:=Qh (((Qa HW1).setO (o+1)).setM (max m (o+1))).drew
 have HS2:=Qh (((Qa HS1).set 2 (.int .i64 (o+1))).set 3 (.int .i64 (max m (o+1)))).drew
 generalize World.drew _=w2 at HW2 HS2 ⊢
 clear HW1 HS1 b1 b2 b3 fb c1 c2 c3 fc hmx
 go_wp2_with fail
 refine (Qa HFF _ _ (Qa HW2) (Qa HS2)).mono ?_
 rintro e w3 ⟨rfl,v3,hw3,hs3⟩
 have HW3:=Qh hw3
 have HS3:=Qh ((Qa HS2).trans hs3)
 obtain ⟨b1,b2,b3,fb⟩:=hw3.cells
 clear hw3 hs3 HFF HW2 HS2
 go_wp2_with fail
 refine (says ((Qa HW3).setO o) z (len3 (Qa HL)).2.2).mono ?_
 rintro e w4 ⟨rfl,v4,hw4,hs4⟩
 go_wp2
 go_end0
 refine ⟨rfl,v4,?_,((Qa HS3).set 2 _).trans hs4⟩
 rw [← top_up o m d, ← List.append_assoc, ← List.append_assoc]
 exact hw4
theorem brackets_pr {B b:Nat} {o m:Int} {l:List UInt8} {v:Value} {W:World} (h:Wr B b o m l v W) (f:Nat) (he: ∀ args w,(callFunc f args).run prog w= .ok (.enter f args) w) (p q:Value) (txt:List UInt8) (d:Nat) (ho:0≤o) (hod:o+(d+1:Nat)≤1000) (hm:0≤m) (hm2:m≤1000)
 (hl:l.length+([40]++txt++[41]).length≤140737488355328)
 (HF: ∀ v' W',Wr B b (o+1) (max m (o+1)) (l++[40]) v' W'→WS b v v' W W'→Calls prog f #[p,q] W' fun e W2=>e= .returned (.tuple #[])∧PW B b (o+1) (top (o+1) (max m (o+1)) d) (l++[40]++txt) v' W' W2) :
 Calls prog 108 #[.pointer (some ⟨b,0,none⟩),.func (Fn.func f) #[] #[p,q]] W fun e W'=>e= .returned (.tuple #[])∧PW B b o (top o m (d+1)) (l++([40]++txt++[41])) v W W':=by
 have HW:=Qh (within_pr h ⟨#[40]⟩ ⟨#[41]⟩ f he p q txt d ho hod hm hm2 hl HF)
 clear hl h HF
 go_enter func108,ntmps108
 go_wp2_with fail
 refine (Qa HW).mono ?_
 rintro e w1 ⟨rfl,h1⟩
 go_wp2
 go_end0
 exact ⟨rfl,h1⟩
end Go.Proofs.YtddedijencleeaaGreatDoor
