/- General data in memory: rows of structs, expressions as trees, statements. No program's code. -/
import Derived.Test.YtddedijencleeaaGreatDoorMBits
import Derived.Deep.MidRow
import Derived.Lib.Builder
import Derived.BigFrame
set_option linter.all false
namespace Go.Proofs.YtddedijencleeaaGreatDoor
open Go.RowKit

structure Jw (W W':World):Prop where
 size:W.heap.size≤W'.heap.size
 cell: ∀ b o v,W.cell? ⟨b,o,none⟩=some v→W'.cell? ⟨b,o,none⟩=some v
theorem Jw.refl (W:World):Jw W W:=⟨Nat.le_refl _,fun _ _ _ h=>h⟩
theorem Jw.trans {W W1 W2:World} (h:Jw W W1) (k:Jw W1 W2):Jw W W2:=⟨Nat.le_trans h.size k.size,fun b o v q=>k.cell b o v (h.cell b o v q)⟩
theorem Jw.below {W W':World} (hb:Below W.heap.size W W'):Jw W W':=⟨hb.size,fun b o v h=>(hb.cell (p:=⟨b,o,none⟩) (Kz h)).trans h⟩
def World.only (W:World) (p:Nat→Prop) [DecidablePred p]:World:={ W with heap:=W.heap.mapIdx fun i o=>if p i then o else .cells #[] 0 (0,0) }
section
variable {W W':World} {p q:Nat→Prop} [DecidablePred p] [DecidablePred q]
theorem only_size:(World.only W p).heap.size=W.heap.size:=by simp [World.only]
theorem only_get (b:Nat):(World.only W p).heap[b]?=W.heap[b]?.map fun o=>if p b then o else .cells #[] 0 (0,0):=by simp [World.only]
theorem only_yes {b:Nat} (h:p b) (o:Nat):(World.only W p).cell? ⟨b,o,none⟩=W.cell? ⟨b,o,none⟩:=by
 have e:(World.only W p).heap[b]?=W.heap[b]?:=by rw [only_get];simp [h]
 unfold World.cell?
 simp only [e]
theorem only_of {b o:Nat} {v:Value} (h:(World.only W p).cell? ⟨b,o,none⟩=some v):p b∧W.cell? ⟨b,o,none⟩=some v:=by
 by_cases hp:p b
 · exact ⟨hp,by rwa [only_yes hp] at h⟩
 exfalso
 have e:=only_get (W:=W) (p:=p) b
 simp only [hp,if_false] at e
 unfold World.cell? at h
 simp only [e] at h
 cases hb:W.heap[b]? with
 | none=>simp [hb] at h
 | some x=>simp [hb] at h
theorem only_sub:Jw (World.only W p) W:=⟨Nat.le_of_eq only_size,fun _ _ _ h=>(only_of h).2⟩
theorem Za (hs:W.heap.size≤W'.heap.size) (h: ∀ b,b<W.heap.size→p b→q b∧W'.heap[b]?=W.heap[b]?):Jw (World.only W p) (World.only W' q):=by
 refine ⟨by rw [only_size,only_size];exact hs,fun b o v hc=> ?_⟩
 obtain ⟨h1,h2⟩:=only_of hc
 obtain ⟨h3,h4⟩:=h b (Kz (a:=⟨b,o,none⟩) h2) h1
 rw [only_yes h3]
 unfold World.cell? at h2 ⊢
 simpa only [h4] using h2
end
theorem Qz {W W':World} {b o:Nat} {cs:List Value} (h:W.rangeAt b o cs) (hb:Jw W W'):W'.rangeAt b o cs:=fun j v hj=>hb.cell b (o+j) v (h j v hj)
theorem Q5 {W W':World} {b o:Nat} {cs:List Value} (h:W.rangeAt b o cs) (hb:Below W.heap.size W W'):W'.rangeAt b o cs:=Qz h (.below hb)
def QR (W:World) (size bytes n:Nat) (v:Value) (P:Nat→List Value→Prop):Prop:=
 ∃ A c,v= .slice A n c∧n≤c∧c≤9223372036854775807∧n*bytes≤140737488355328∧(0<n→ ∃ b o,A=some ⟨b,o,none⟩∧b<W.heap.size∧ ∀ i,i<n→ ∃ cs,cs.length=size∧cs.toArray.all (·.oneCell')=true∧P i cs∧W.rangeAt b (o+i*size) cs)
section
variable {W W':World} {size bytes n:Nat} {v:Value} {P Q:Nat→List Value→Prop}
theorem QR.imp (h:QR W size bytes n v P) (hPQ: ∀ i cs,i<n→P i cs→Q i cs):QR W size bytes n v Q:=by
 obtain ⟨A,c,h1,h2,h3,h0,h4⟩:=h
 refine ⟨A,c,h1,h2,h3,h0,fun hn=> ?_⟩
 obtain ⟨b,o,h5,h6,h7⟩:=h4 hn
 refine ⟨b,o,h5,h6,fun i hi=> ?_⟩
 obtain ⟨cs,h8,h8',h9,h10⟩:=h7 i hi
 exact ⟨cs,h8,h8',hPQ i cs hi h9,h10⟩
theorem QR.sub (h:QR W size bytes n v P) (hb:Jw W W'):QR W' size bytes n v P:=by
 obtain ⟨A,c,h1,h2,h3,h0,h4⟩:=h
 refine ⟨A,c,h1,h2,h3,h0,fun hn=> ?_⟩
 obtain ⟨b,o,h5,h6,h7⟩:=h4 hn
 refine ⟨b,o,h5,Nat.lt_of_lt_of_le h6 hb.size,fun i hi=> ?_⟩
 obtain ⟨cs,h8,h8',h9,h10⟩:=h7 i hi
 exact ⟨cs,h8,h8',h9,Qz h10 hb⟩
theorem QR.both (h:QR W size bytes n v P) (hb:Jw W W') (hPQ: ∀ i cs,i<n→P i cs→Q i cs):QR W' size bytes n v Q:=(h.sub hb).imp hPQ
theorem QR.len (h:QR W size bytes n v P):n≤9223372036854775807:=by obtain ⟨_,_,_,h1,h2,_⟩:=h;omega
end
structure SB (W:World) (g:Nat) (cs:List Value):Prop where
 at_:W.rangeAt g 0 cs
 there:W.there g 0 cs.length
 lt:g<W.heap.size
theorem setCells_size (b:Nat): ∀ (vs:List Value) (o:Nat) (w:World),(w.setCells b o vs).heap.size=w.heap.size
 | [],_,_=>rfl
 | v::r,o,w=>by rw [World.setCells,setCells_size b r];simp [World.setCell]
theorem Below.setCells {B b:Nat} (hb:B≤b) {a:World}: ∀ (vs:List Value) (o:Nat) (w:World),Below B a w→Below B a (w.setCells b o vs)
 | [],_,_,h=>h
 | v::r,o,w,h=>by rw [World.setCells];exact Below.setCells hb r _ _ (h.setCell (p:=⟨b,o,none⟩) hb v)
theorem SB.below {W W':World} {g:Nat} {cs:List Value} (h:SB W g cs) (hb:Below W.heap.size W W'):SB W' g cs:=
 ⟨fun j v hj=>(hb.cell (p:=⟨g,0+j,none⟩) h.lt).trans (h.at_ j v hj),fun j hj=>⟨by rw [hb.cell (p:=⟨g,0+j,none⟩) h.lt];exact (h.there j hj).1,by rw [hb.frozen (p:=⟨g,0+j,none⟩) h.lt];exact (h.there j hj).2⟩,Nat.lt_of_lt_of_le h.lt hb.size⟩
theorem SB.new (W:World) (cs:List Value) (t:TypeId):SB (W.alloc (.cells cs.toArray t)) W.heap.size cs:=by
 have hh:(W.alloc (.cells cs.toArray t)).heap[W.heap.size]?=some (.cells cs.toArray t (0,0)):=by
  show (W.heap.push _)[W.heap.size]?=_
  simp
 refine ⟨fun j v hj=> ?_,fun j hj=>⟨?_,?_⟩,by simp⟩
 · rw [Lib.cell_of_heap hh,Nat.zero_add];simpa using hj
 · rw [Lib.cell_of_heap hh,Nat.zero_add];simp [hj]
 exact Lib.frozen_of_heap hh _
theorem SB.cell {W:World} {g:Nat} {cs:List Value} (h:SB W g cs) (n:Nat) {u:Value} (hu:cs[n]?=some u):W.cell? ⟨g,n,none⟩=some u:=by
 have:=h.at_ n u hu
 rwa [Nat.zero_add] at this
theorem SB.free {W:World} {g:Nat} {cs:List Value} (h:SB W g cs) (n:Nat) (hn:n<cs.length):W.frozen? ⟨g,n,none⟩=false:=by
 have:=(h.there n hn).2
 rwa [Nat.zero_add] at this
theorem SB.sub {W:World} {g:Nat} {cs:List Value} (h:SB W g cs) (o n:Nat) (hn:o+n≤cs.length):W.there g o n:=fun j hj=>by
 have:=h.there (o+j) (by omega)
 rwa [Nat.zero_add] at this
theorem SB.part {W:World} {g:Nat} {cs:List Value} (h:SB W g cs) (o:Nat) (vs:List Value) (hv: ∀ j v,vs[j]?=some v→cs[o+j]?=some v):W.rangeAt g o vs:=fun j v hj=>h.cell (o+j) (hv j v hj)
theorem SB.put {W:World} {g:Nat} {cs:List Value} (h:SB W g cs) (o:Nat) (vs:List Value) (hl:o+vs.length≤cs.length):SB (W.setCells g o vs) g (cs.take o++vs++cs.drop (o+vs.length)):=by
 have hlen:(cs.take o++vs++cs.drop (o+vs.length)).length=cs.length:=by simp;omega
 refine ⟨fun j v hj=> ?_,?_,by rw [setCells_size];exact h.lt⟩
 · rw [Nat.zero_add]
   by_cases h1:j<o
   · rw [World.cell?_setCells_out g vs o W ⟨g,j,none⟩ (fun _ _=>.inl h1)]
     refine h.cell j ?_
     rw [List.append_assoc,List.getElem?_append_left (by simp;omega),List.getElem?_take] at hj
     rwa [if_pos h1] at hj
   by_cases h2:j<o+vs.length
   · have hk:j - o<vs.length:=by omega
     have:=World.cell?_setCells_in g vs o W (fun i hi=>by have:=(h.there (o+i) (by omega)).1;rwa [Nat.zero_add] at this) (j - o) hk
     rw [show o+(j - o)=j by omega] at this
     rw [this]
     rw [List.append_assoc,List.getElem?_append_right (by simp;omega),List.length_take,Nat.min_eq_left (by omega),List.getElem?_append_left hk,List.getElem?_eq_getElem hk] at hj
     exact hj
   rw [World.cell?_setCells_out g vs o W ⟨g,j,none⟩ (fun _ _=>.inr (by show o+vs.length≤j;omega))]
   refine h.cell j ?_
   rw [List.getElem?_append_right (by simp;omega),List.getElem?_drop] at hj
   simp only [List.length_append,List.length_take,Nat.min_eq_left (show o≤cs.length by omega)] at hj
   rwa [show o+vs.length+(j - (o+vs.length))=j by omega] at hj
 rw [hlen]
 exact World.there_setCells h.there g o vs
theorem SB.far {W:World} {g b:Nat} {cs:List Value} (h:SB W g cs) (hb:b≠g) (o:Nat) (vs:List Value):SB (W.setCells b o vs) g cs:=by
 refine ⟨fun j v hj=> ?_,World.there_setCells h.there b o vs,by rw [setCells_size];exact h.lt⟩
 rw [World.cell?_setCells_out b vs o W ⟨g,0+j,none⟩ (fun e _=>absurd e.symm hb)]
 exact h.at_ j v hj
theorem boxed (W:World) (zs cs:List Value) (t:TypeId) (h:zs.length=cs.length) :
 SB ((W.alloc (.cells zs.toArray t)).setCells W.heap.size 0 cs) W.heap.size cs∧Below W.heap.size W ((W.alloc (.cells zs.toArray t)).setCells W.heap.size 0 cs)∧((W.alloc (.cells zs.toArray t)).setCells W.heap.size 0 cs).heap.size=W.heap.size+1:=by
 refine ⟨?_,Below.setCells (Nat.le_refl _) cs 0 _ ((Below.refl _ _).alloc (Nat.le_refl _) _),by rw [setCells_size];simp⟩
 have:=(SB.new W zs t).put 0 cs (by omega)
 have e:zs.take 0++cs++zs.drop (0+cs.length)=cs:=by simp [h]
 rwa [e] at this
theorem SB.mid {W:World} {g:Nat} {cs:List Value} (h:SB W g cs) (o:Nat) (ds:List Value) (e:(cs.drop o).take ds.length=ds):W.rangeAt g o ds:=h.part o ds fun j v hj=>by
 rw [← e,List.getElem?_take] at hj
 split at hj
 · rwa [List.getElem?_drop] at hj
 · cases hj
inductive E where
 | mk (k op vk vn:Int) (vt tb nm:ByteArray) (n:Nat) (args:Nat→E) (pl ty:Int)
 | no
structure WfE (k op vk vn:Int) (vt tb nm:ByteArray) (pl ty:Int):Prop where
 k:KM k
 op:KM op
 vk:KM vk
 vn:KM vn
 vt:vt.size≤9223372036854775807
 tb:tb.size≤9223372036854775807
 nm:nm.size≤9223372036854775807
 pl:KM pl
 ty:KM ty
def ZG (k op vk vn:Int) (vt tb nm:ByteArray) (v:Value) (pl ty:Int):List Value:=[.int .i64 k,.int .i64 op,.int .i64 vk,.int .i64 vn,.string vt,.string tb,.string nm,v,.int .i64 pl,.int .i64 ty]
def QI (W:World):E→List Value→Prop
 | .no,_=>False
 | .mk k op vk vn vt tb nm n args pl ty,cs=>WfE k op vk vn vt tb nm pl ty∧ ∃ v,cs=ZG k op vk vn vt tb nm v pl ty∧QR W 10 120 n v fun i ds=>QI W (args i) ds
theorem QI.sub {W W':World} (hb:Jw W W'): ∀ {e:E} {cs:List Value},QI W e cs→QI W' e cs
 | .no,_,h=>False.elim h
 | .mk ..,cs,⟨h0,v,h1,h2⟩=>⟨h0,v,h1,h2.both hb fun _ _ _ h=>QI.sub hb h⟩
theorem QI.len {W:World}: ∀ {e:E} {cs:List Value},QI W e cs→cs.length=10
 | .no,_,h=>False.elim h
 | .mk ..,cs,⟨_,v,h1,_⟩=>by subst h1;rfl
def Zd (n:Nat) (r:Nat→Bool):Bool:=(List.range n).all r
theorem Qx {n:Nat} {r:Nat→Bool}:Zd n r=true ↔ ∀ i,i<n→r i=true:=by simp [Zd]
theorem Qw {n i:Nat} {r:Nat→Bool} (hi:i<n) (h:r i=false):Zd n r=false:=by
 cases hq:Zd n r with
 | false=>rfl
 | true=>rw [Qx.1 hq i hi] at h;cases h
def eCol (nm:ByteArray) (ty:Int) (nn:Bool):List Value:=[.string nm,.int .i64 ty,.bool nn]
structure Co where
 nm:ByteArray
 ty:Int
 nn:Bool
def CoIn (c:Co) (cs:List Value):Prop:=cs=eCol c.nm c.ty c.nn∧c.nm.size≤9223372036854775807∧KM c.ty
structure Ke where
 nm:ByteArray
 n:Nat
 cols:Nat→Int
 un:Bool
 pr:Bool
def eKey (nm:ByteArray) (v:Value) (un pr:Bool):List Value:=[.string nm,v,.bool un,.bool pr]
def KeIn (W:World) (k:Ke) (cs:List Value):Prop:=k.nm.size≤9223372036854775807∧ ∃ v,cs=eKey k.nm v k.un k.pr∧QR W 1 8 k.n v fun i ds=>ds=[.int .i64 (k.cols i)]∧KM (k.cols i)
structure Ta where
 nm:ByteArray
 nc:Nat
 cols:Nat→Co
 nk:Nat
 keys:Nat→Ke
def TaIn (W:World) (t:Ta) (cs:List Value):Prop:=t.nm.size≤9223372036854775807∧ ∃ v u,cs=[.string t.nm,v,u]∧QR W 3 32 t.nc v (fun i ds=>CoIn (t.cols i) ds)∧QR W 4 48 t.nk u fun i ds=>KeIn W (t.keys i) ds
def ZD (W:World) (n:Nat) (f:Nat→ByteArray) (v:Value):Prop:=QR W 1 16 n v fun i ds=>ds=[.string (f i)]∧(f i).size≤9223372036854775807
def Z6 (W:World) (n:Nat) (f:Nat→E) (v:Value):Prop:=QR W 10 120 n v fun i ds=>QI W (f i) ds
structure Na where
 n:Nat
 f:Nat→ByteArray
structure Es where
 n:Nat
 f:Nat→E
structure St where
 nm:ByteArray
 e:E
structure It where
 star:Bool
 e:E
 nm:ByteArray
structure So where
 nm:ByteArray
 al:ByteArray
 left:Bool
 e:E
structure Od where
 e:E
 desc:Bool
def StIn (W:World) (x:St) (cs:List Value):Prop:=x.nm.size≤9223372036854775807∧ ∃ ds,cs= .string x.nm::ds∧QI W x.e ds
def ItIn (W:World) (x:It) (cs:List Value):Prop:=x.nm.size≤9223372036854775807∧ ∃ ds,cs= .bool x.star::(ds++[.string x.nm])∧QI W x.e ds
def SoIn (W:World) (x:So) (cs:List Value):Prop:=x.nm.size≤9223372036854775807∧x.al.size≤9223372036854775807∧ ∃ ds,cs= .string x.nm:: .string x.al:: .bool x.left::ds∧QI W x.e ds
def OdIn (W:World) (x:Od) (cs:List Value):Prop:= ∃ ds,cs=ds++[.bool x.desc]∧QI W x.e ds
structure S where
 kind:Int
 tab:Ta
 nkc:Nat
 kc:Nat→Na
 nm:ByteArray
 ix:ByteArray
 un:Bool
 cl:Na
 nrw:Nat
 rw:Nat→Es
 nst:Nat
 st:Nat→St
 wh:E
 di:Bool
 nit:Nat
 it:Nat→It
 nfr:Nat
 fr:Nat→So
 gr:Es
 hv:E
 nor:Nat
 od:Nat→Od
 li:Int
structure WfS (s:S):Prop where
 kind:KM s.kind
 nm:s.nm.size≤9223372036854775807
 ix:s.ix.size≤9223372036854775807
 li:KM s.li
def sCells (s:S) (tb:List Value) (vkc vcl vrw vst:Value) (wh:List Value) (vit vfr vgr:Value) (hv:List Value) (vor:Value):List Value:=
 .int .i64 s.kind::(tb++([vkc,.string s.nm,.string s.ix,.bool s.un,vcl,vrw,vst]++(wh++([.bool s.di,vit,vfr,vgr]++(hv++[vor,.int .i64 s.li])))))
structure SIns (W:World) (s:S) (tb:List Value) (vkc vcl vrw vst:Value) (wh:List Value) (vit vfr vgr:Value) (hv:List Value) (vor:Value):Prop where
 wf:WfS s
 tab:TaIn W s.tab tb
 kc:QR W 1 24 s.nkc vkc fun i ds=> ∃ v,ds=[v]∧ZD W (s.kc i).n (s.kc i).f v
 cl:ZD W s.cl.n s.cl.f vcl
 rw:QR W 1 24 s.nrw vrw fun i ds=> ∃ v,ds=[v]∧Z6 W (s.rw i).n (s.rw i).f v
 st:QR W 11 136 s.nst vst fun i ds=>StIn W (s.st i) ds
 wh:QI W s.wh wh
 it:QR W 12 144 s.nit vit fun i ds=>ItIn W (s.it i) ds
 fr:QR W 13 160 s.nfr vfr fun i ds=>SoIn W (s.fr i) ds
 gr:Z6 W s.gr.n s.gr.f vgr
 hv:QI W s.hv hv
 od:QR W 11 128 s.nor vor fun i ds=>OdIn W (s.od i) ds
def Ks (W:World) (s:S) (cs:List Value):Prop:= ∃ tb vkc vcl vrw vst wh vit vfr vgr hv vor,cs=sCells s tb vkc vcl vrw vst wh vit vfr vgr hv vor∧SIns W s tb vkc vcl vrw vst wh vit vfr vgr hv vor
section
variable {W W':World} (hb:Jw W W')
include hb
theorem KeIn.sub {k:Ke} {cs:List Value} (h:KeIn W k cs):KeIn W' k cs:=by
 obtain ⟨h0,v,h1,h2⟩:=h
 exact ⟨h0,v,h1,h2.sub hb⟩
theorem TaIn.sub {t:Ta} {cs:List Value} (h:TaIn W t cs):TaIn W' t cs:=by
 obtain ⟨h0,v,u,h1,h2,h3⟩:=h
 exact ⟨h0,v,u,h1,h2.sub hb,h3.both hb fun _ _ _ h=>h.sub hb⟩
theorem ZD.sub {n:Nat} {f:Nat→ByteArray} {v:Value} (h:ZD W n f v):ZD W' n f v:=QR.sub h hb
theorem Z6.sub {n:Nat} {f:Nat→E} {v:Value} (h:Z6 W n f v):Z6 W' n f v:=QR.both h hb fun _ _ _ h=>h.sub hb
theorem StIn.sub {x:St} {cs:List Value} (h:StIn W x cs):StIn W' x cs:=by
 obtain ⟨h0,ds,h1,h2⟩:=h
 exact ⟨h0,ds,h1,h2.sub hb⟩
theorem ItIn.sub {x:It} {cs:List Value} (h:ItIn W x cs):ItIn W' x cs:=by
 obtain ⟨h0,ds,h1,h2⟩:=h
 exact ⟨h0,ds,h1,h2.sub hb⟩
theorem SoIn.sub {x:So} {cs:List Value} (h:SoIn W x cs):SoIn W' x cs:=by
 obtain ⟨h0,h3,ds,h1,h2⟩:=h
 exact ⟨h0,h3,ds,h1,h2.sub hb⟩
theorem OdIn.sub {x:Od} {cs:List Value} (h:OdIn W x cs):OdIn W' x cs:=by
 obtain ⟨ds,h1,h2⟩:=h
 exact ⟨ds,h1,h2.sub hb⟩
theorem SIns.sub {s:S} {tb:List Value} {vkc vcl vrw vst:Value} {wh:List Value} {vit vfr vgr:Value} {hv:List Value} {vor:Value} (h:SIns W s tb vkc vcl vrw vst wh vit vfr vgr hv vor):SIns W' s tb vkc vcl vrw vst wh vit vfr vgr hv vor:=
 ⟨h.wf,h.tab.sub hb,h.kc.both hb fun _ _ _ ⟨v,h1,h2⟩=>⟨v,h1,h2.sub hb⟩,h.cl.sub hb,h.rw.both hb fun _ _ _ ⟨v,h1,h2⟩=>⟨v,h1,h2.sub hb⟩,h.st.both hb fun _ _ _ h=>h.sub hb,h.wh.sub hb,
   h.it.both hb fun _ _ _ h=>h.sub hb,h.fr.both hb fun _ _ _ h=>h.sub hb,h.gr.sub hb,h.hv.sub hb,h.od.both hb fun _ _ _ h=>h.sub hb⟩
theorem Ks.sub {s:S} {cs:List Value} (h:Ks W s cs):Ks W' s cs:=by
 obtain ⟨tb,vkc,vcl,vrw,vst,wh,vit,vfr,vgr,hv,vor,h1,h2⟩:=h
 exact ⟨tb,vkc,vcl,vrw,vst,wh,vit,vfr,vgr,hv,vor,h1,h2.sub hb⟩
end
theorem TaIn.len {W:World} {t:Ta} {cs:List Value} (h:TaIn W t cs):cs.length=3:=by
 obtain ⟨_,v,u,rfl,_⟩:=h
 rfl
end Go.Proofs.YtddedijencleeaaGreatDoor
