/- A walk with a writer: what is known of it from place to place. No program's code. -/
import Derived.Test.YtddedijencleeaaGreatDoorSm
import Derived.Test.YtddedijencleeaaGreatDoorMSq
import Derived.Test.YtddedijencleeaaGreatDoorMVa
import Derived.Test.YtddedijencleeaaGreatDoorMWl
import Derived.Test.YtddedijencleeaaGreatDoorMNtE
set_option linter.all false
namespace Go.Proofs.YtddedijencleeaaGreatDoor
open Tryz
open Go.RowKit Go.Lib RC

structure PS (D:World) (b:Nat) (o m:Int) (l:List UInt8) (v v0:Value) (W0 w:World):Prop where
 wr:Wr D.heap.size b o m l v w
 ws:WS b v0 v W0 w
 bl:Below D.heap.size D w
structure Bk (b:Nat) (v:Value) (w:World) (g:Nat) (cs:List Value):Prop where
 sb:SB w g cs
 ne:g≠b
 no:v.ownBlock≠some g
section
variable {D:World} {b:Nat} {o m o' m':Int} {l l':List UInt8} {v v' v0:Value} {W0 w w':World} {g:Nat} {cs:List Value}
theorem PS.start (h:Wr D.heap.size b o m l v w) (hb:Below D.heap.size D w):PS D b o m l v v w w:=⟨h,WS.refl b v w,hb⟩
theorem PS.seg (h:PS D b o m l v v0 W0 w) (hb:Below w.heap.size w w'):PS D b o m l v v0 W0 w':=⟨h.wr.keep hb,h.ws.trans (WS.ofBelow b v hb),Below.andThen h.bl hb⟩
theorem PS.call (h:PS D b o m l v v0 W0 w) (hw:Wr D.heap.size b o' m' l' v' w') (hs:WS b v v' w w'):PS D b o' m' l' v' v0 W0 w' :=
 ⟨hw,h.ws.trans hs,h.bl.trans (hs.below h.wr.lo (fun g hg=>(h.wr.ownLo g hg).1) h.wr.hi)⟩
theorem PS.fin (h:PS D b o m l v v0 W0 w):PW D.heap.size b o m l v0 W0 w:=⟨v,h.wr,h.ws⟩
theorem PS.cast (h:PS D b o m l v v0 W0 w) (hm:m=m') (hl:l=l'):PS D b o m' l' v v0 W0 w:=by subst hm hl;exact h
theorem Bk.seg (h:Bk b v w g cs) (hb:Below w.heap.size w w'):Bk b v w' g cs:=⟨h.sb.below hb,h.ne,h.no⟩
theorem SB.same {W W':World} {g:Nat} {cs:List Value} (h:SB W g cs) (hs:W.heap.size≤W'.heap.size) (hb:W'.heap[g]?=W.heap[g]?):SB W' g cs:=by
 have e1: ∀ n,W'.cell? ⟨g,n,none⟩=W.cell? ⟨g,n,none⟩:=fun n=>by simp only [World.cell?,hb]
 have e2: ∀ n,W'.frozen? ⟨g,n,none⟩=W.frozen? ⟨g,n,none⟩:=fun n=>by simp only [World.frozen?,hb]
 exact ⟨fun j x hj=>(e1 _).trans (h.at_ j x hj),fun j hj=>⟨by rw [e1];exact (h.there j hj).1,by rw [e2];exact (h.there j hj).2⟩,Nat.lt_of_lt_of_le h.lt hs⟩
theorem Bk.call (h:Bk b v w g cs) (hs:WS b v v' w w'):Bk b v' w' g cs:=
 ⟨h.sb.same hs.size (hs.block g h.sb.lt h.ne h.no),h.ne,fun e=>by
   rcases hs.own g e with q | q
   · exact h.no q
   · have:=h.sb.lt;omega⟩
theorem Bk.cell (h:Bk b v w g cs) (n:Nat) {u:Value} (hu:cs[n]?=some u):w.cell? ⟨g,n,none⟩=some u:=h.sb.cell n hu
theorem Bk.lt (h:Bk b v w g cs):g<w.heap.size:=h.sb.lt
theorem Bk.new {N n:Nat} {W:World} {fr:Fr} {bs:List Zp} {G:Env} {a:Act} {cl:List RV} (hst:RC.St N W n fr bs G a w) (h:Wr D.heap.size b o m l v W) (hN:N=W.heap.size) (i:Nat) (hi:bs[i]?=some (.box cl)):Bk b v w (G.g i) (Qu G cl):=by
 subst hN
 obtain ⟨h1,h2⟩:=hst.rp.sb i cl hi
 exact ⟨h1,fun e=>by have:=h.lt;omega,fun e=>by have:=(h.ownLo _ e).2;omega⟩
end
structure Pz (o m:Int) (d:Nat) (l txt:List UInt8):Prop where
 ho:0≤o
 hod:o+(d:Int)≤1000
 hm:0≤m
 hm2:m≤1000
 hl:l.length+txt.length≤140737488355328
theorem top_le {o m:Int} {d:Nat} (ho:0≤o) (hod:o+(d:Int)≤1000) (hm:0≤m) (hm2:m≤1000):0≤top o m d∧top o m d≤1000:=by
 cases d <;> simp only [top] <;> omega
theorem Qr (o m:Int) (d e:Nat):top o (top o m d) e=top o m (max d e):=by
 cases d <;> cases e <;> simp only [top]
 · simp
 · rename_i e;rw [show max 0 (e+1)=e+1 by omega]
 · rename_i d;rw [show max (d+1) 0=d+1 by omega]
 rename_i d e
 by_cases h:d≤e
 · rw [show max (d+1) (e+1)=e+1 by omega];simp only [top];omega
 rw [show max (d+1) (e+1)=d+1 by omega];simp only [top];omega
theorem Qq (o m:Int):top o m 0=m:=rfl
theorem Pz.of {o m m':Int} {d d':Nat} {l l' t t':List UInt8} (h:Pz o m d l t) (hd:d'≤d) (hm:0≤m'∧m'≤1000) (hl:l'.length+t'.length≤l.length+t.length):Pz o m' d' l' t' :=
 ⟨h.ho,by have:=h.hod;omega,hm.1,hm.2,by have:=h.hl;omega⟩
theorem Pz.m {o m:Int} {d:Nat} {l t:List UInt8} (h:Pz o m d l t):0≤m∧m≤1000:=⟨h.hm,h.hm2⟩
theorem Pz.top {o m:Int} {d e:Nat} {l t:List UInt8} (h:Pz o m d l t) (he:e≤d):0≤top o m e∧top o m e≤1000:=top_le h.ho (by have:=h.hod;omega) h.hm h.hm2
def PrC (D:World) (b:Nat) (o m:Int) (l:List UInt8) (v:Value) (W:World) (f:FuncId) (args:Array Value) (txt:List UInt8) (d:Nat):Prop:=
 Calls prog f args W fun e W'=>e= .returned (.tuple #[])∧PW D.heap.size b o (top o m d) (l++txt) v W W'
theorem QJ {D:World} {b:Nat} {o m:Int} {l:List UInt8} {v:Value} {W:World} (h:Wr D.heap.size b o m l v W) (s:ByteArray) (t:List UInt8) (hs:s.data.toList=t) {d:Nat} (hz:Pz o m d l t):PrC D b o m l v W 104 #[.pointer (some ⟨b,0,none⟩),.string s] t 0:=by
 subst hs
 exact says h s hz.hl
def PrF (D:World) (f:FuncId) (args:Nat→Array Value) (txt:List UInt8) (d:Nat):Prop:=
 ∀ (b:Nat) (o m:Int) (l:List UInt8) (v:Value) (W:World),Below D.heap.size D W→Wr D.heap.size b o m l v W→Pz o m d l txt→PrC D b o m l v W f (args b) txt d
theorem Zc {s u:ByteArray} {a b:List UInt8} (hs:s.data.toList=a) (hu:u.data.toList=b):(s++u).data.toList=a++b:=by subst hs hu;simp
theorem ZK {D:World} {b:Nat} {o m:Int} {l:List UInt8} {v:Value} {W:World} (h:Wr D.heap.size b o m l v W) (f:Nat) (he: ∀ args w,(callFunc f args).run prog w= .ok (.enter f args) w) (p q:Value) (txt:List UInt8) (d:Nat) (hz:Pz o m (d+1) l ([40]++(txt++[41])))
 (HF: ∀ v' W',Wr D.heap.size b (o+1) (max m (o+1)) (l++[40]) v' W'→WS b v v' W W'→Pz (o+1) (max m (o+1)) d (l++[40]) txt→PrC D b (o+1) (max m (o+1)) (l++[40]) v' W' f #[p,q] txt d) :
 PrC D b o m l v W 108 #[.pointer (some ⟨b,0,none⟩),.func (Fn.func f) #[] #[p,q]] ([40]++(txt++[41])) (d+1):=by
 have h1:=hz.ho
 have h2:=hz.hod
 have h3:=hz.hm
 have h4:=hz.hm2
 have h5:=hz.hl
 simp only [List.length_append] at h5
 have:=brackets_pr h f he p q txt d h1 h2 h3 h4 (by simp only [List.length_append];omega) fun v' W' hw hs=>HF v' W' hw hs ⟨by omega,by push_cast at h2;omega,by omega,by push_cast at h2;omega,by simp only [List.length_append] at h5 ⊢;omega⟩
 rw [PrC, ← List.append_assoc [40] txt [41]]
 exact this
theorem within_w {D:World} {b:Nat} {o m:Int} {l:List UInt8} {v:Value} {W:World} (h:Wr D.heap.size b o m l v W) (a z:ByteArray) (la lz:List UInt8) (ha:a.data.toList=la) (hz':z.data.toList=lz) (f:Nat) (he: ∀ args w,(callFunc f args).run prog w= .ok (.enter f args) w) (p q:Value) (txt:List UInt8) (d:Nat) (hz:Pz o m (d+1) l (la++(txt++lz)))
 (HF: ∀ v' W',Wr D.heap.size b (o+1) (max m (o+1)) (l++la) v' W'→WS b v v' W W'→Pz (o+1) (max m (o+1)) d (l++la) txt→PrC D b (o+1) (max m (o+1)) (l++la) v' W' f #[p,q] txt d) :
 PrC D b o m l v W 173 #[.pointer (some ⟨b,0,none⟩),.string a,.func (Fn.func f) #[] #[p,q],.string z] (la++(txt++lz)) (d+1):=by
 subst ha hz'
 have h1:=hz.ho
 have h2:=hz.hod
 have h3:=hz.hm
 have h4:=hz.hm2
 have h5:=hz.hl
 simp only [List.length_append] at h5
 have:=within_pr h a z f he p q txt d h1 h2 h3 h4 (by simp only [List.length_append];omega) fun v' W' hw hs=>HF v' W' hw hs ⟨by omega,by push_cast at h2;omega,by omega,by push_cast at h2;omega,by simp only [List.length_append] at h5 ⊢;omega⟩
 rw [PrC, ← List.append_assoc a.data.toList txt z.data.toList]
 exact this
structure QZ (b:Nat) (v:Value) (w:World) (ks:List (Nat × List Value)):Prop where
 all: ∀ x ∈ ks,Bk b v w x.1 x.2
section
variable {D:World} {b:Nat} {o m:Int} {l:List UInt8} {v v' v0:Value} {W0 w w':World} {g:Nat} {cs:List Value} {ks:List (Nat × List Value)}
theorem QZ.nil:QZ b v w []:=⟨fun x hx=>by cases hx⟩
theorem QZ.cons (h:Bk b v w g cs) (hk:QZ b v w ks):QZ b v w ((g,cs)::ks):=⟨fun x hx=>by
 rcases List.mem_cons.1 hx with rfl | hx
 · exact h
 · exact hk.all x hx⟩
theorem QZ.at (h:QZ b v w ks) (i:Nat) (hi:ks[i]?=some (g,cs)):Bk b v w g cs:=h.all _ (List.mem_of_getElem? hi)
theorem QZ.seg (h:QZ b v w ks) (hb:Below w.heap.size w w'):QZ b v w' ks:=⟨fun x hx=>(h.all x hx).seg hb⟩
theorem QZ.call (h:QZ b v w ks) (hs:WS b v v' w w'):QZ b v' w' ks:=⟨fun x hx=>(h.all x hx).call hs⟩
theorem QZ.ld (h:QZ b v w ks) (i d:Nat) {t:TypeId} {u:Value} (hi:ks[i]?=some (g,cs)) (e:cs[d]?=some u) (hr:RC.Zn prog t=some false):Sd w (.get t (.pointer (some ⟨g,d,none⟩)) u):=by
 have:=Qb.cellAt (P:=prog) (d:=d) hr (h.at i hi).sb.at_ e (h.at i hi).lt (Nat.le_refl w.heap.size)
 rwa [Nat.zero_add] at this
theorem QZ.row (h:QZ b v w ks) (i:Nat) {t:TypeId} (hi:ks[i]?=some (g,cs)) (hr:RC.Zn prog t=some true) (hs:RC.sizT prog t=some cs.length):Sd w (.get t (.pointer (some ⟨g,0,none⟩)) (.agg cs.toArray)):=
 Qb.row hr hs (h.at i hi).sb.at_ (h.at i hi).lt Qo
def newK (G:Env):Nat→List Zp→List (Nat × List Value)
 | _,[]=>[]
 | i,.box cl::r=>(G.g i,Qu G cl)::newK G (i+1) r
 | i,_::r=>newK G (i+1) r
theorem newK_mem {G:Env}: ∀ {bs:List Zp} {i:Nat} {x:Nat × List Value},x ∈ newK G i bs→ ∃ j cl,bs[j]?=some (.box cl)∧x=(G.g (i+j),Qu G cl)
 | [],_,_,h=>by simp [newK] at h
 | .box cl::r,i,x,h=>by
   simp only [newK,List.mem_cons] at h
   rcases h with rfl | h
   · exact ⟨0,cl,rfl,rfl⟩
   · obtain ⟨j,cl',h1,h2⟩:=newK_mem h
     exact QZ6I
 | .unk .. ::r,i,x,h=>by
   simp only [newK] at h
   obtain ⟨j,cl',h1,h2⟩:=newK_mem h
   exact QZ6I
theorem QZ.new {n:Nat} {fr:Fr} {bs:List Zp} {G:Env} {a:Act} {W:World} (hst:RC.St w.heap.size W n fr bs G a w') (h:Wr D.heap.size b o m l v w) (hb:Below w.heap.size w w') (hk:QZ b v w ks):QZ b v w' (newK G 0 bs++ks):=⟨fun x hx=>by
 rcases List.mem_append.1 hx with hx | hx
 · obtain ⟨j,cl,h1,rfl⟩:=newK_mem hx
   rw [Nat.zero_add]
   obtain ⟨q1,q2⟩:=hst.rp.sb j cl h1
   exact ⟨q1,fun e=>by have:=h.lt;omega,fun e=>by have:=(h.ownLo _ e).2;omega⟩
 · exact (hk.all x hx).seg hb⟩
theorem pW {Q:Exit→Act→World→Prop} {n:Nat} {k:List K} {fr:Fr} {G:Env} {a:Act} {sd:List Qb} {dd:Nat} {txt:List UInt8} {fn:Func} (t:Tg) (d:Nat) (f:FuncId) (k0 k':List K) (lv0:Fr) (bs':List Zp) (lv:Fr) (vs:List RV)
 (hst:RC.St w.heap.size w n fr [] G a w) (hs:QU prog w.heap.size w sd) (hp:PS D b o m l v v0 W0 w) (hkb:QZ b v w ks) (hf:prog.funcs[f]?=some fn)
 (hc: ∀ G1 w1,PS D b o m l v v0 W0 w1→QZ b v w1 (newK G1 0 bs'++ks)→PrC D b o m l v w1 f (Qu G1 vs).toArray txt dd)
 (hm:0≤top o m dd∧top o m dd≤1000)
 (hk: ∀ G1 m' l' v' a' u',m'=top o m dd→l'=l++txt→(0≤m'∧m'≤1000)→RC.St u'.heap.size u' n (vfr ((d,.tuple #[])::Jk G1 lv)) [] env0 a' u'→PS D b o m' l' v' v0 W0 u'→QZ b v' u' (newK G1 0 bs'++ks)→ZZ prog Q k' .normal a' u')
 (h1:runV prog n t k fr [] (anss sd) (lv0.map (·.1))=some (.nrm,k0,lv0.map (fun x=>some x.2),bs',sd):=by kernel_rfl)
 (h2 : callOf n k0 lv0 = some (d, .v (.func (.func f) #[] #[]), vs, k') := by kernel_rfl) (hb : fn.body.isSome = true := by kernel_rfl) (hn : (fn.name == "runtime.NumGoroutine") = false := by kernel_rfl)
 (hlv:(lv.map (·.1)).map (get lv0)=lv.map (fun x=>some x.2):=by exact rfl):ZZ prog Q k .normal a w:=by
 refine go t (e:=.nrm) lv0 bs' hst hs h1 fun G1 a1 w1 st1 _=> ?_
 have hb1:=st1.rp.below
 have ps1:=hp.seg hb1
 have kb1:=QZ.new st1 hp.wr hb1 hkb
 obtain ⟨cd,hb⟩:=Option.isSome_iff_exists.1 hb
 refine Jm (first:=[]) (caps:=[]) lv (Qu G1 vs) st1 h2 rfl ⟨fn,cd,hf,hb,hn⟩ hlv (by simp) (hc G1 w1 ps1 kb1) fun e u hq=> ?_
 obtain ⟨rfl,v',hw,hs'⟩:=hq
 exact ⟨_,rfl,fun a' he=>hk G1 _ _ v' a' u rfl rfl hm (he.st u) (ps1.call hw hs') (kb1.call hs')⟩
theorem pW0 {Q:Exit→Act→World→Prop} {n:Nat} {k:List K} {fr:Fr} {G:Env} {a:Act} {sd:List Qb} {txt:List UInt8} {fn:Func} (t:Tg) (d:Nat) (f:FuncId) (k0 k':List K) (lv0:Fr) (bs':List Zp) (lv:Fr) (vs:List RV)
 (hst:RC.St w.heap.size w n fr [] G a w) (hs:QU prog w.heap.size w sd) (hp:PS D b o m l v v0 W0 w) (hkb:QZ b v w ks) (hf:prog.funcs[f]?=some fn)
 (hc: ∀ G1 w1,PS D b o m l v v0 W0 w1→QZ b v w1 (newK G1 0 bs'++ks)→PrC D b o m l v w1 f (Qu G1 vs).toArray txt 0)
 (hk: ∀ G1 l' v' a' u',l'=l++txt→RC.St u'.heap.size u' n (vfr ((d,.tuple #[])::Jk G1 lv)) [] env0 a' u'→PS D b o m l' v' v0 W0 u'→QZ b v' u' (newK G1 0 bs'++ks)→ZZ prog Q k' .normal a' u')
 (h1:runV prog n t k fr [] (anss sd) (lv0.map (·.1))=some (.nrm,k0,lv0.map (fun x=>some x.2),bs',sd):=by kernel_rfl)
 (h2 : callOf n k0 lv0 = some (d, .v (.func (.func f) #[] #[]), vs, k') := by kernel_rfl) (hb : fn.body.isSome = true := by kernel_rfl) (hn : (fn.name == "runtime.NumGoroutine") = false := by kernel_rfl)
 (hlv:(lv.map (·.1)).map (get lv0)=lv.map (fun x=>some x.2):=by exact rfl):ZZ prog Q k .normal a w:=by
 refine go t (e:=.nrm) lv0 bs' hst hs h1 fun G1 a1 w1 st1 _=> ?_
 have hb1:=st1.rp.below
 have ps1:=hp.seg hb1
 have kb1:=QZ.new st1 hp.wr hb1 hkb
 obtain ⟨cd,hb⟩:=Option.isSome_iff_exists.1 hb
 refine Jm (first:=[]) (caps:=[]) lv (Qu G1 vs) st1 h2 rfl ⟨fn,cd,hf,hb,hn⟩ hlv (by simp) (hc G1 w1 ps1 kb1) fun e u hq=> ?_
 obtain ⟨rfl,v',hw,hs'⟩:=hq
 exact ⟨_,rfl,fun a' he=>hk G1 _ v' a' u rfl (he.st u) (ps1.call hw hs') (kb1.call hs')⟩
end
end Go.Proofs.YtddedijencleeaaGreatDoor
