/- Small lemmas on worlds (no program): blocks, cells, frames; words for memory after the guide's own pages of words to copy. -/
import Derived.Below
import Derived.Maps.AppendAt
import Derived.Deep.AppendLies
import Derived.Deep.Draws
import Derived.Laws.OwnMore
import Derived.Laws.Rows
import Derived.RegionTactic
import Derived.OwnWalk
import Derived.Lib.Hide
import Derived.WalkKit
namespace Go.Proofs.YtddedijencleeaaGreatDoor
open Go.RowKit

theorem lt_of_heap {W:World} {b:Nat} {o:Obj} (h:W.heap[b]?=some o):b<W.heap.size:=by
 rcases Nat.lt_or_ge b W.heap.size with hlt | hge
 · exact hlt
 rw [Array.getElem?_eq_none hge] at h;cases h
theorem Kz {W:World} {a:Addr} {v:Value} (h:W.cell? a=some v):a.block<W.heap.size:=by
 rcases Nat.lt_or_ge a.block W.heap.size with hlt | hge
 · exact hlt
 simp [World.cell?,Array.getElem?_eq_none hge] at h

theorem only_alloc {a w:World} {row:Option Nat} (h:a.grownBy w row) (o:Obj):a.grownBy (w.alloc o) row:=
 ⟨h.os,h.tape,h.output,Nat.le_trans h.size (by simp),fun i hi hne=>(Below.heap_alloc w o i (Nat.lt_of_lt_of_le hi h.size)).trans (h.block i hi hne)⟩
theorem only_setCell {a w:World} {g:Nat} (h:a.grownBy w (some g)) {p:Addr} (hp:p.block=g∨a.heap.size≤p.block) (u:Value):a.grownBy (w.setCell p u) (some g):=
 ⟨h.os,h.tape,h.output,by simpa [World.setCell] using h.size,fun i hi hne=>(Below.heap_setCell w p u i (by
   rintro rfl
   rcases hp with hp | hp
   · exact hne (by rw [hp])
   · omega)).trans (h.block i hi hne)⟩
theorem Below.andThen {w W W1:World} (h:Below w.heap.size w W) (k:Below W.heap.size W W1):Below w.heap.size w W1:=h.trans (k.mono h.size)
theorem setCell_self {w:World} {a:Addr} {v:Value} (ht:w.cell? a=some v) (u:Value):(w.setCell a u).cell? a=some u:=by
 obtain ⟨b,o,s⟩:=a
 unfold World.cell? at ht ⊢
 unfold World.setCell
 simp only [Array.getElem?_modify,if_true] at ht ⊢
 cases hb:w.heap[b]? with
 | none=>simp [hb] at ht
 | some x=>
  cases x with
  | cells c e f=>
   simp only [hb] at ht
   simp only [Option.map_some]
   cases s with
   | some s=>simp at ht
   | none=>
    simp only [Option.isSome_none,Bool.false_eq_true,if_false] at ht ⊢
    have hlt:o<c.size:=(Array.getElem?_eq_some_iff.1 ht).1
    simp [hlt]
  | _=>simp [hb] at ht

def Blk3 (W:World) (g:Nat) (t:TypeId) (a b c:Value):Prop:=W.heap[g]?=some (.cells #[a,b,c] t (0,0))
theorem Blk3.lt {W:World} {g:Nat} {t:TypeId} {a b c:Value} (h:Blk3 W g t a b c):g<W.heap.size:=lt_of_heap h
theorem Blk3.cells {W:World} {g:Nat} {t:TypeId} {a b c:Value} (h:Blk3 W g t a b c) :
 W.cell? ⟨g,0,none⟩=some a∧W.cell? ⟨g,1,none⟩=some b∧W.cell? ⟨g,2,none⟩=some c∧(∀ i,W.frozen? ⟨g,i,none⟩=false):=by
 unfold Blk3 at h
 simp [World.cell?,World.frozen?,h]
theorem Blk3.below {W W1:World} {g:Nat} {t:TypeId} {a b c:Value} (h:Blk3 W g t a b c) (hb:Below W.heap.size W W1):Blk3 W1 g t a b c:=(hb.block g h.lt).trans h
theorem Blk3.new (W:World) (t:TypeId) (a b c:Value):Blk3 (W.alloc (.cells #[a,b,c] t)) W.heap.size t a b c:=by
 show (W.heap.push _)[W.heap.size]?=_
 simp
theorem Blk3.alloc {W:World} {g:Nat} {t:TypeId} {a b c:Value} (h:Blk3 W g t a b c) (o:Obj):Blk3 (W.alloc o) g t a b c:=(Below.heap_alloc W o g h.lt).trans h
theorem Blk3.drew {W:World} {g:Nat} {t:TypeId} {a b c:Value} (h:Blk3 W g t a b c):Blk3 W.drew g t a b c:=h

theorem Qh {p:Prop} (h:p):Hid p:=h
theorem Qa {p:Prop} (h:Hid p):p:=h
theorem ret_bool {a b:Bool} (h:a=b):Ending.returned (.bool a)= .returned (.bool b):=by rw [h]
end Go.Proofs.YtddedijencleeaaGreatDoor

/- Words for memory: a slice that reads as a list of cells (after the guide's page of words to copy); lists of values, of texts. No program. -/
namespace Go.Proofs.YtddedijencleeaaGreatDoor
open Go.RowKit

def JB (w:World) (size:Nat) (A:Option Addr) (n:Nat) (xs:List Value):Prop:=
 xs.length=n*size∧(0<n→ ∃ b o,A=some ⟨b,o,none⟩∧b<w.heap.size∧ ∀ j u,xs[j]?=some u→w.cell? ⟨b,o+j,none⟩=some u)

section
variable {w w':World} {size n:Nat} {A:Option Addr} {xs:List Value}
theorem JB.below (h:JB w size A n xs) (hb:Below w.heap.size w w'):JB w' size A n xs:=
 ⟨h.1,fun hn=>by
   obtain ⟨b,o,e,hlt,hc⟩:=h.2 hn
   exact ⟨b,o,e,Nat.lt_of_lt_of_le hlt hb.size,fun j u hu=>(hb.cell (p:=⟨b,o+j,none⟩) hlt).trans (hc j u hu)⟩⟩
theorem JB.alloc (h:JB w size A n xs) (o:Obj):JB (w.alloc o) size A n xs:=h.below ((Below.refl _ _).alloc (Nat.le_refl _) o)
theorem JB.drew (h:JB w size A n xs):JB w.drew size A n xs:=h
theorem JB.at_ {k:Nat} (h:JB w 1 A n xs) (hk:k<n): ∃ b o u,A=some ⟨b,o,none⟩∧xs[k]?=some u∧w.cell? ⟨b,o+k,none⟩=some u:=by
 obtain ⟨b,o,e,hb,hc⟩:=h.2 (by omega)
 have hl:k<xs.length:=by have:=h.1;omega
 exact ⟨b,o,xs[k],e,List.getElem?_eq_getElem hl,hc k _ (List.getElem?_eq_getElem hl)⟩
theorem JB.new (w:World) (e:TypeId) (size n:Nat) (xs:List Value) (h:xs.length=n*size):JB (w.alloc (.cells xs.toArray e)) size (some ⟨w.heap.size,0,none⟩) n xs:=
 ⟨h,fun _=>⟨w.heap.size,0,rfl,by simp,fun j u hu=>by
   have h1:(w.alloc (.cells xs.toArray e)).heap[w.heap.size]?=some (.cells xs.toArray e (0,0)):=by
    show (w.heap.push _)[w.heap.size]?=_
    simp
   unfold World.cell?
   simp only [h1]
   simpa using hu⟩⟩
end

structure V where
 k:Int
 n:Int
 t:ByteArray
def V.agg (v:V):Value:=.agg #[.int .i64 v.k,.int .i64 v.n,.string v.t]
def V.cells (v:V):List Value:=[.int .i64 v.k,.int .i64 v.n,.string v.t]
def vcells (l:List V):List Value:=l.flatMap V.cells
theorem vcells_length (l:List V):(vcells l).length=l.length*3:=by
 induction l with
 | nil=>rfl
 | cons v l ih=>
  have:vcells (v::l)=V.cells v++vcells l:=rfl
  rw [this,List.length_append,ih];simp [V.cells];omega
theorem vcells_get {l:List V} {i:Nat} {v:V} (h:l[i]?=some v) :
 (vcells l)[i*3]?=some (.int .i64 v.k)∧(vcells l)[i*3+1]?=some (.int .i64 v.n)∧(vcells l)[i*3+2]?=some (.string v.t):=by
 induction l generalizing i with
 | nil=>simp at h
 | cons x l ih=>
  have e:vcells (x::l)=V.cells x++vcells l:=rfl
  cases i with
  | zero=>
   simp only [List.getElem?_cons_zero,Option.some.injEq] at h
   subst h
   rw [e]
   simp [V.cells]
  | succ i=>
   simp only [List.getElem?_cons_succ] at h
   obtain ⟨h1,h2,h3⟩:=ih h
   have hl:(V.cells x).length=3:=rfl
   rw [e,List.getElem?_append_right (by rw [hl];omega),List.getElem?_append_right (by rw [hl];omega),List.getElem?_append_right (by rw [hl];omega),hl]
   refine ⟨?_,?_,?_⟩
   · rw [show (i+1)*3 - 3=i*3 from by omega];exact h1
   · rw [show (i+1)*3+1 - 3=i*3+1 from by omega];exact h2
   rw [show (i+1)*3+2 - 3=i*3+2 from by omega];exact h3
theorem JB.val {w:World} {A:Option Addr} {n:Nat} {l:List V} (h:JB w 3 A n (vcells l)) {i:Nat} (hi:i<n) :
 ∃ b o v,A=some ⟨b,o,none⟩∧l[i]?=some v∧w.cell? ⟨b,o+i*3,none⟩=some (.int .i64 v.k)∧w.cell? ⟨b,o+i*3+1,none⟩=some (.int .i64 v.n)∧w.cell? ⟨b,o+i*3+2,none⟩=some (.string v.t):=by
 obtain ⟨b,o,e,hb,hc⟩:=h.2 (by omega)
 have hl:i<l.length:=by have:=h.1;rw [vcells_length] at this;omega
 have hg:=List.getElem?_eq_getElem hl
 obtain ⟨h1,h2,h3⟩:=vcells_get hg
 exact ⟨b,o,l[i],e,hg,hc _ _ h1,by rw [Nat.add_assoc];exact hc _ _ h2,by rw [Nat.add_assoc];exact hc _ _ h3⟩
end Go.Proofs.YtddedijencleeaaGreatDoor

/- Signs of bits of 64-bit integers; sums, differences and products that fit (plain laws, no program). -/
namespace Go.Proofs.YtddedijencleeaaGreatDoor
open Go.RowKit

def KM (n:Int):Prop:= -9223372036854775808≤n∧n≤9223372036854775807

end Go.Proofs.YtddedijencleeaaGreatDoor
