/- An evaluator of code on values as they are, from place to place in a function: it follows moves, loads and stores in boxes (blocks of one's own), guards, tests and jumps; what else an operation or a call yields it takes from a list, and tells what it took ('Said'). A call may yield values of its own, of which something is known. Loops stand between. No program's code. -/
import Derived.Test.YtddedijencleeaaGreatDoorGm
import Derived.KernelRfl
import Derived.Scope
import Derived.LoopN
import Derived.OrdersHeld
import Derived.Great.FillDense
set_option linter.all false
namespace Go.Proofs.YtddedijencleeaaGreatDoor
open Go.RowKit Go.Lib
namespace RC

inductive RV where
 | v (x:Value)
 | p (i o:Nat)
 | x (i j:Nat)
 | s (i o n c:Nat)
 | agg (l:List RV)
 | tup (l:List RV)
 | fn (f:Fn) (l:List RV)
 | ifc (t:TypeId) (a:RV)
 deriving Inhabited
structure Env where
 g:Nat→Nat
 u:Nat→List Value
mutual
def RV.conc (G:Env):RV→Value
 | .v x=>x
 | .p i o=>.pointer (some ⟨G.g i,o,none⟩)
 | .x i j=>(G.u i).getD j undef
 | .s i o n c=>.slice (some ⟨G.g i,o,none⟩) n c
 | .agg l=>.agg (Qu G l).toArray
 | .tup l=>.tuple (Qu G l).toArray
 | .fn f l=>.func f #[] (Qu G l).toArray
 | .ifc t a=>.iface t (RV.conc G a)
def Qu (G:Env):List RV→List Value
 | []=>[]
 | a::l=>RV.conc G a::Qu G l
end
mutual
def RV.all (f:Nat→Bool):RV→Bool
 | .v _=>true
 | .p i _=>f i
 | .x i _=>f i
 | .s i _ _ _=>f i
 | .agg l=>Kg f l
 | .tup l=>Kg f l
 | .fn _ l=>Kg f l
 | .ifc _ a=>RV.all f a
def Kg (f:Nat→Bool):List RV→Bool
 | []=>true
 | a::l=>RV.all f a&&Kg f l
end
mutual
def RV.ixs:RV→List Nat
 | .v _=>[]
 | .p i _=>[i]
 | .x i _=>[i]
 | .s i _ _ _=>[i]
 | .agg l=>ixsL l
 | .tup l=>ixsL l
 | .fn _ l=>ixsL l
 | .ifc _ a=>RV.ixs a
def ixsL:List RV→List Nat
 | []=>[]
 | a::l=>RV.ixs a++ixsL l
end
mutual
theorem all_iff {f:Nat→Bool}: ∀ v:RV,v.all f=true ↔ ∀ i ∈ v.ixs,f i=true
 | .v _=>by simp [RV.all,RV.ixs]
 | .p i _=>by simp [RV.all,RV.ixs]
 | .x i _=>by simp [RV.all,RV.ixs]
 | .s i _ _ _=>by simp [RV.all,RV.ixs]
 | .agg l=>by simp only [RV.all,RV.ixs];exact allL_iff l
 | .tup l=>by simp only [RV.all,RV.ixs];exact allL_iff l
 | .fn _ l=>by simp only [RV.all,RV.ixs];exact allL_iff l
 | .ifc _ a=>by simp only [RV.all,RV.ixs];exact all_iff a
theorem allL_iff {f:Nat→Bool}: ∀ l:List RV,Kg f l=true ↔ ∀ i ∈ ixsL l,f i=true
 | []=>by simp [Kg,ixsL]
 | a::l=>by
   simp only [Kg,ixsL,Bool.and_eq_true,List.mem_append,all_iff a,allL_iff l]
   exact ⟨fun h i hi=>hi.elim (h.1 i) (h.2 i),fun h=>⟨fun i hi=>h i (.inl hi),fun i hi=>h i (.inr hi)⟩⟩
end
mutual
theorem all_mono {f h:Nat→Bool} (hfh: ∀ i,f i=true→h i=true): ∀ v:RV,v.all f=true→v.all h=true
 | .v _,_=>rfl
 | .p i _,q=>hfh i q
 | .x i _,q=>hfh i q
 | .s i _ _ _,q=>hfh i q
 | .agg l,q=>ZE hfh l q
 | .tup l,q=>ZE hfh l q
 | .fn _ l,q=>ZE hfh l q
 | .ifc _ a,q=>all_mono hfh a q
theorem ZE {f h:Nat→Bool} (hfh: ∀ i,f i=true→h i=true): ∀ l:List RV,Kg f l=true→Kg h l=true
 | [],_=>rfl
 | a::l,q=>by
   simp only [Kg,Bool.and_eq_true] at q ⊢
   exact ⟨all_mono hfh a q.1,ZE hfh l q.2⟩
end
def same (G' G:Env) (i:Nat):Prop:=G'.g i=G.g i∧G'.u i=G.u i
mutual
theorem conc_congr {G G':Env} {f:Nat→Bool} (h: ∀ i,f i=true→same G' G i): ∀ v:RV,v.all f=true→v.conc G'=v.conc G
 | .v _,_=>rfl
 | .p i _,q=>by simp only [RV.conc,(h i q).1]
 | .x i _,q=>by simp only [RV.conc,(h i q).2]
 | .s i _ _ _,q=>by simp only [RV.conc,(h i q).1]
 | .agg l,q=>by simp only [RV.conc,Kv h l q]
 | .tup l,q=>by simp only [RV.conc,Kv h l q]
 | .fn _ l,q=>by simp only [RV.conc,Kv h l q]
 | .ifc _ a,q=>by simp only [RV.conc,conc_congr h a q]
theorem Kv {G G':Env} {f:Nat→Bool} (h: ∀ i,f i=true→same G' G i): ∀ l:List RV,Kg f l=true→Qu G' l=Qu G l
 | [],_=>rfl
 | a::l,q=>by
   simp only [Kg,Bool.and_eq_true] at q
   simp only [Qu,conc_congr h a q.1,Kv h l q.2]
end
theorem Kq {f:Nat→Bool}: ∀ {l:List RV},Kg f l=true→ ∀ a ∈ l,a.all f=true
 | [],_,a,h=>by cases h
 | b::l,q,a,h=>by
   simp only [Kg,Bool.and_eq_true] at q
   rcases List.mem_cons.1 h with rfl | h
   · exact q.1
   · exact Kq q.2 a h
theorem allL_of {f:Nat→Bool}: ∀ {l:List RV},(∀ a ∈ l,a.all f=true)→Kg f l=true
 | [],_=>rfl
 | b::l,h=>by
   simp only [Kg,Bool.and_eq_true]
   exact ⟨h b (List.mem_cons_self ..),allL_of fun a ha=>h a (List.mem_cons_of_mem _ ha)⟩
theorem KR (G:Env) (l:List RV):Qu G l=l.map (RV.conc G):=by
 induction l with
 | nil=>rfl
 | cons a l ih=>simp [Qu,ih]
theorem KZ (G:Env) (l:List RV):(Qu G l).length=l.length:=by simp [KR]
theorem Kp (G:Env) (l r:List RV):Qu G (l++r)=Qu G l++Qu G r:=by simp [KR]
theorem concL_v (G:Env) (l:List Value):Qu G (l.map .v)=l:=by
 induction l with
 | nil=>rfl
 | cons a l ih=>simp [Qu,ih,RV.conc]
def RV.lt (n:Nat) (v:RV):Bool:=v.all fun i=>Nat.blt i n
theorem lt_mono {n m:Nat} (h:n≤m) {v:RV} (hv:v.lt n=true):v.lt m=true:=
 all_mono (fun i hi=>by simp only [Nat.blt_eq] at hi ⊢;omega) v hv
def allV:List RV→Option (List Value)
 | []=>some []
 | .v x::l=>(match allV l with
   | some r=>some (x::r)
   | none=>none)
 | _::_=>none
theorem allV_ok: ∀ {l:List RV} {r:List Value},allV l=some r→l=r.map .v
 | [],r,h=>by cases h;rfl
 | a::l,r,h=>by
   unfold allV at h
   split at h
   · cases ‹_::_=[]›
   · rename_i x l' e
     cases e
     split at h
     · rename_i r' hr
       cases h
       rw [List.map_cons, ← allV_ok hr]
     · cases h
   · cases h
def mkAgg (l:List RV):RV:=match allV l with
 | some r=>.v (.agg r.toArray)
 | none=>.agg l
theorem mkAgg_conc (G:Env) (l:List RV):(mkAgg l).conc G= .agg (Qu G l).toArray:=by
 unfold mkAgg
 split
 · rename_i r hr
   rw [allV_ok hr,concL_v];rfl
 rfl
theorem mkAgg_all {f:Nat→Bool} {l:List RV} (h:Kg f l=true):(mkAgg l).all f=true:=by
 unfold mkAgg
 split
 · rfl
 exact h
structure Po where
 p:List Value→World→Prop
 mono: ∀ us W1 W2,Jw W1 W2→p us W1→p us W2
inductive Zp where
 | box (cs:List RV)
 | unk (m:Nat) (po:Po)
def Knows (G:Env) (w:World):List (Nat × Zp)→Prop
 | []=>True
 | (i,.box cs)::l=>SB w (G.g i) (Qu G cs)∧Knows G w l
 | (i,.unk m po)::l=>((G.u i).length=m∧po.p (G.u i) w)∧Knows G w l
inductive Qb where
 | call (f:FuncId) (args:List Value) (r:Value)
 | callR (f:FuncId) (args:List RV) (need:List (Nat × Zp)) (r:Value)
 | opq (f:FuncId) (args:List Value) (m:Nat) (r:RV) (po:Po)
 | bin (o:BinOp) (t:TypeId) (x y r:Value)
 | idx (t:TypeId) (x i r:Value)
 | get (t:TypeId) (a r:Value)
 | cut (t:TypeId) (x:Value) (lo hi mx:Option Value) (r:Value)
 | app (t u:TypeId) (x y:Value) (po:Po)
 | ask (s:Sem Value) (r:Value)
def Ent (P : Program) (f : FuncId) : Prop := ∃ fn c, P.funcs[f]? = some fn ∧ fn.body = some c ∧ (fn.name == "runtime.NumGoroutine") = false
def Qb.ok (P:Program) (N:Nat) (W:World):Qb→Prop
 | .call f args r=>Ent P f∧ ∀ w,Below N W w→Calls P f args.toArray w fun e w'=>e= .returned r∧Below w.heap.size w w'
 | .callR f args need r=>Ent P f∧ ∀ G w,Below N W w→Knows G w need→Calls P f (Qu G args).toArray w fun e w'=>e= .returned r∧Below w.heap.size w w'
 | .opq f args m r po=>Ent P f∧ ∀ w,Below N W w→Calls P f args.toArray w fun e w'=> ∃ us:List Value,us.length=m∧(∀ v ∈ us,v.oneCell'=true)∧e= .returned (r.conc ⟨fun _=>0,fun _=>us⟩)∧Below w.heap.size w w'∧po.p us (World.only w' fun b=>w.heap.size≤b)
 | .bin o t x y r=> ∀ ox oy w,(do eqGuard o t ox oy x y;binOp o t x y:Sem Value).run P w= .ok r w
 | .idx t x i r=> ∀ w,(Instr.indexAt t x i).run P w= .ok r w
 | .ask s r=> ∀ w,Below N W w→s.run P w= .ok r w
 | .get t a r=> ∀ w,Below N W w→(Instr.loadAt t a).run P w= .ok r w
 | .cut t x lo hi mx r=> ∀ w,Below N W w→(Instr.sliceAt t x lo hi mx).run P w= .ok r w
 | .app t u x y po=> ∀ ty w,Below N W w→ ∃ v w',(Builtin.append_ #[t,u] ty #[x,y]).run P w= .ok v w'∧v.oneCell'=true∧Below w.heap.size w w'∧po.p [v] (World.only w' fun b=>w.heap.size≤b)
inductive Orc where
 | r (x:Value)
 | c (m:Nat) (r:RV) (po:Po)
abbrev Fr:=List (Nat × RV)
def get:Fr→Nat→Option RV
 | [],_=>none
 | (d,v)::l,s=>bif Nat.beq d s then some v else get l s
def put (n:Nat) (fr:Fr) (d:Option Tmp) (v:RV):Option Fr:=match d with
 | some d=>bif Nat.blt d n then some ((d,v)::fr) else none
 | none=>some fr
def ev (fr:Fr):Operand→Option RV
 | .tmp t=>get fr t
 | .const v=>some (.v v)
 | .global g=>some (.v (.pointer (some ⟨g,0,none⟩)))
 | .func f=>some (.v (.func (.func f) #[] #[]))
structure K8 (G:Env) (n:Nat) (fr:Fr) (a:Act):Prop where
 defers:a.defers=[]
 size:a.tmps.size=n
 get: ∀ s v,get fr s=some v→a.tmps[s]?=some (v.conc G)
def okF (b:Nat) (fr:Fr):Bool:=fr.all fun x=>x.2.lt b
theorem get_mem: ∀ {fr:Fr} {s:Nat} {v:RV},get fr s=some v→(s,v) ∈ fr
 | [],s,v,h=>by cases h
 | (d,x)::l,s,v,h=>by
   unfold get at h
   cases hd:Nat.beq d s with
   | true=>
     rw [hd,cond_true] at h
     rw [Nat.beq_eq] at hd
     cases h
     subst hd
     exact List.mem_cons_self ..
   | false=>
     rw [hd,cond_false] at h
     exact List.mem_cons_of_mem _ (get_mem h)
theorem okF_get {b:Nat} {fr:Fr} (h:okF b fr=true) {s:Nat} {v:RV} (hv:get fr s=some v):v.lt b=true:=by
 simp only [okF,List.all_eq_true] at h
 exact h _ (get_mem hv)
theorem okF_put {b n:Nat} {fr fr':Fr} {d:Option Tmp} {v:RV} (h:okF b fr=true) (hv:v.lt b=true) (hp:put n fr d v=some fr'):okF b fr'=true:=by
 unfold put at hp
 split at hp
 · rename_i d
   cases hd:Nat.blt d n with
   | false=>rw [hd,cond_false] at hp;cases hp
   | true=>
    rw [hd,cond_true] at hp
    cases hp
    simp only [okF,List.all_cons,Bool.and_eq_true] at h ⊢
    exact ⟨hv,h⟩
 cases hp;exact h
theorem okF_mono {n m:Nat} (h:n≤m) {fr:Fr} (hf:okF n fr=true):okF m fr=true:=by
 simp only [okF,List.all_eq_true] at hf ⊢
 exact fun x hx=>lt_mono h (hf x hx)
theorem Jd {f:Nat→Bool} {fr:Fr} (h: ∀ s v,get fr s=some v→v.all f=true) {x:Operand} {v:RV} (hv:ev fr x=some v):v.all f=true:=by
 cases x with
 | tmp t=>exact h t v hv
 | _=>simp only [ev,Option.some.injEq] at hv;subst hv;rfl
theorem K8.congr {G G':Env} {b n:Nat} (hg: ∀ i,i<b→same G' G i) {fr:Fr} {a:Act} (hf:okF b fr=true) (h:K8 G n fr a):K8 G' n fr a:=
 ⟨h.defers,h.size,fun s v hs=>by rw [conc_congr (f:=fun i=>Nat.blt i b) (fun i hi=>hg i (by simpa [Nat.blt_eq] using hi)) v (okF_get hf hs)];exact h.get s v hs⟩
theorem K8.eval {G:Env} {n:Nat} {fr:Fr} {a:Act} (h:K8 G n fr a) {x:Operand} {v:RV} (hv:ev fr x=some v):a.eval x=v.conc G:=by
 cases x with
 | tmp t=>
  have:=h.get t v hv
  simp [Act.eval,Array.getD_eq_getD_getElem?,this]
 | _=>simp only [ev,Option.some.injEq] at hv;subst hv;rfl
theorem K8.put {G:Env} {n:Nat} {fr fr':Fr} {a:Act} (h:K8 G n fr a) {d:Option Tmp} {v:RV} (hp:put n fr d v=some fr'):K8 G n fr' (a.put d (v.conc G)):=by
 unfold RC.put at hp
 split at hp
 · rename_i d
   cases hd:Nat.blt d n with
   | false=>rw [hd,cond_false] at hp;cases hp
   | true=>
    rw [hd,cond_true] at hp
    cases hp
    rw [Nat.blt_eq] at hd
    refine ⟨h.defers,by simp [Act.put,h.size],fun s u hs=> ?_⟩
    unfold RC.get at hs
    cases e:Nat.beq d s with
    | true=>
     rw [e,cond_true] at hs
     rw [Nat.beq_eq] at e
     cases hs
     subst e
     have:d<a.tmps.size:=by rw [h.size];exact hd
     simp [Act.put,this]
    | false=>
     rw [e,cond_false] at hs
     have hne:d≠s:=fun q=>by subst q;simp at e
     simp [Act.put,Array.getElem?_setIfInBounds_ne hne,h.get s u hs]
 cases hp;exact h
def vals (fr:Fr):List Operand→Option (List Value)
 | []=>some []
 | x::l=>match ev fr x with
   | some (.v a)=>(match vals fr l with
     | some r=>some (a::r)
     | none=>none)
   | _=>none
theorem vals_ok {G:Env} {n:Nat} {fr:Fr} {a:Act} (he:K8 G n fr a): ∀ {l:List Operand} {vs:List Value},vals fr l=some vs→l.map a.eval=vs
 | [],vs,h=>by cases h;rfl
 | x::l,vs,h=>by
   unfold vals at h
   split at h
   · rename_i y hy
     split at h
     · rename_i r hr
       cases h
       rw [List.map_cons,he.eval hy,vals_ok he hr]
       rfl
     · cases h
   · cases h
def evs (fr:Fr):List Operand→Option (List RV)
 | []=>some []
 | x::l=>match ev fr x with
   | some a=>(match evs fr l with
     | some r=>some (a::r)
     | none=>none)
   | none=>none
theorem evs_ok {G:Env} {n:Nat} {fr:Fr} {a:Act} (he:K8 G n fr a): ∀ {l:List Operand} {vs:List RV},evs fr l=some vs→l.map a.eval=Qu G vs
 | [],vs,h=>by cases h;rfl
 | x::l,vs,h=>by
   unfold evs at h
   split at h
   · rename_i y hy
     split at h
     · rename_i r hr
       cases h
       rw [List.map_cons,he.eval hy,evs_ok he hr]
       rfl
     · cases h
   · cases h
theorem evs_all {f:Nat→Bool} {fr:Fr} (h: ∀ s v,get fr s=some v→v.all f=true): ∀ {l:List Operand} {vs:List RV},evs fr l=some vs→Kg f vs=true
 | [],vs,q=>by cases q;rfl
 | x::l,vs,q=>by
   unfold evs at q
   split at q
   · rename_i y hy
     split at q
     · rename_i r hr
       cases q
       simp only [Kg,Bool.and_eq_true]
       exact ⟨Jd h hy,evs_all h hr⟩
     · cases q
   · cases q
def valO (fr:Fr):Option Operand→Option (Option Value)
 | none=>some none
 | some x=>match ev fr x with
   | some (.v a)=>some (some a)
   | _=>none
theorem valO_ok {G:Env} {n:Nat} {fr:Fr} {a:Act} (he:K8 G n fr a) {x:Option Operand} {v:Option Value} (h:valO fr x=some v):x.map a.eval=v:=by
 unfold valO at h
 split at h
 · cases h;rfl
 rename_i y
 split at h
 · rename_i b hb
   cases h
   simp [he.eval hb,RV.conc]
 cases h
section
variable (P:Program)
def Zn (t:TypeId):Option Bool:=
 match P.underlying t with
 | some (.struct _)=>some true
 | some (.array _ _)=>some true
 | some _=>some false
 | none=>none
def sizT (t:TypeId):Option Nat:=match P.info? t with | some i=>some i.size | none=>none
def offT (t:TypeId) (k:Nat):Option Nat:=
 match P.underlying t with
 | some (.struct fs)=>(match fs[k]? with
   | some f=>(match sizT P f.type with
     | some n=>bif Nat.beq n 0 then none else some f.offset
     | none=>none)
   | none=>none)
 | _=>none
def cellsV:Value→List Value
 | .agg cs=>cs.toList
 | v=>[v]
def QG:RV→List RV
 | .v x=>(cellsV x).map .v
 | .agg l=>l
 | a=>[a]
def zerC (t:TypeId):Option (List RV):=match P.info? t with
 | some i=>(match i.zero with
   | some v=>some ((cellsV v).map .v)
   | none=>none)
 | none=>none
def loadC (t:TypeId) (cs:List RV) (o:Nat):Option RV:=match Zn P t with
 | some true=>(match sizT P t with
   | some n=>bif Nat.ble (o+n) cs.length then some (mkAgg ((cs.drop o).take n)) else none
   | none=>none)
 | some false=>cs[o]?
 | none=>none
def offP (t:TypeId) (k:Nat):Option (Nat × TypeId):=
 match P.underlying t with
 | some (.struct fs)=>(match fs[k]? with
   | some f=>some (f.offset,f.type)
   | none=>none)
 | _=>none
def lenC (t:TypeId) (x:RV):Option Value:=
 match P.underlying t,x with
 | some .string,.v (.string s)=>some (goInt s.size)
 | some (.slice _),.v (.slice _ n _)=>some (goInt n)
 | some (.slice _),.s _ _ n _=>some (goInt n)
 | _,_=>none
end
def bx (cs:List Value):Zp:=.box (cs.map .v)
inductive Eff where
 | no
 | al (r:Zp)
 | st (i:Nat) (cs:List RV)
abbrev Bx:=Nat→Option Zp
def KJ (B:Bx) (i:Nat) (r:Zp):Bx:=fun j=>if j=i then some r else B j
def Eff.upd (nb:Nat) (B:Bx):Eff→Bx
 | .no=>B
 | .al r=>KJ B nb r
 | .st i cs=>KJ B i (.box cs)
def Eff.len (nb:Nat):Eff→Nat
 | .al _=>Nat.succ nb
 | _=>nb
def Eff.isAl:Eff→Bool
 | .al _=>true
 | _=>false
def Eff.cells:Eff→Option (List RV)
 | .al (.box cs)=>some cs
 | .st _ cs=>some cs
 | _=>none
def Eff.bs (bs:List Zp):Eff→List Zp
 | .no=>bs
 | .al r=>bs++[r]
 | .st i cs=>bs.set i (.box cs)
def oneB (B:Bx):RV→Bool
 | .v x=>x.oneCell'
 | .agg _=>false
 | .tup _=>false
 | .x i j=>(match B i with
   | some (.unk m _)=>Nat.blt j m
   | _=>false)
 | _=>true
def storeC (P:Program) (B:Bx) (t:TypeId) (cs:List RV) (o:Nat) (v:RV):Option (List RV):=match sizT P t with
 | some n=>bif (Nat.beq (QG v).length n&&Nat.ble (o+n) cs.length)&&(QG v).all (oneB B) then some (cs.take o++QG v++cs.drop (o+n)) else none
 | none=>none
mutual
def RV.at (nb:Nat):RV→RV
 | .x _ j=>.x nb j
 | .agg l=>.agg (atL nb l)
 | .tup l=>.tup (atL nb l)
 | .ifc t a=>.ifc t (RV.at nb a)
 | a=>a
def atL (nb:Nat):List RV→List RV
 | []=>[]
 | a::l=>RV.at nb a::atL nb l
end
mutual
def RV.noP:RV→Bool
 | .v _=>true
 | .x _ _=>true
 | .agg l=>noPL l
 | .tup l=>noPL l
 | .ifc _ a=>RV.noP a
 | _=>false
def noPL:List RV→Bool
 | []=>true
 | a::l=>RV.noP a&&noPL l
end
mutual
theorem at_conc {G:Env} {us:List Value} {nb:Nat} (h:G.u nb=us): ∀ r:RV,r.noP=true→(r.at nb).conc G=r.conc ⟨fun _=>0,fun _=>us⟩
 | .v _,_=>rfl
 | .x _ j,_=>by simp only [RV.at,RV.conc,h]
 | .agg l,q=>by simp only [RV.at,RV.conc,atL_conc h l q]
 | .tup l,q=>by simp only [RV.at,RV.conc,atL_conc h l q]
 | .ifc _ a,q=>by simp only [RV.at,RV.conc,at_conc h a q]
 | .p _ _,q=>by cases q
 | .s _ _ _ _,q=>by cases q
 | .fn _ _,q=>by cases q
theorem atL_conc {G:Env} {us:List Value} {nb:Nat} (h:G.u nb=us): ∀ l:List RV,noPL l=true→Qu G (atL nb l)=Qu ⟨fun _=>0,fun _=>us⟩ l
 | [],_=>rfl
 | a::l,q=>by
   simp only [noPL,Bool.and_eq_true] at q
   simp only [atL,Qu,at_conc h a q.1,atL_conc h l q.2]
end
mutual
theorem at_all {f:Nat→Bool} {nb:Nat} (h:f nb=true): ∀ r:RV,r.noP=true→(r.at nb).all f=true
 | .v _,_=>rfl
 | .x _ j,_=>h
 | .agg l,q=>atL_all h l q
 | .tup l,q=>atL_all h l q
 | .ifc _ a,q=>at_all h a q
 | .p _ _,q=>by cases q
 | .s _ _ _ _,q=>by cases q
 | .fn _ _,q=>by cases q
theorem atL_all {f:Nat→Bool} {nb:Nat} (h:f nb=true): ∀ l:List RV,noPL l=true→Kg f (atL nb l)=true
 | [],_=>rfl
 | a::l,q=>by
   simp only [noPL,Bool.and_eq_true] at q
   simp only [atL,Kg,Bool.and_eq_true]
   exact ⟨at_all h a q.1,atL_all h l q.2⟩
end
abbrev StepR:=RV × Eff × List Orc × List Qb
def fillR (place:Nat→Option (Nat × Nat)) (cells:List RV):List (Nat × RV)→Option (List RV)
 | []=>some cells
 | (i,v)::rest=>match place i with
   | none=>none
   | some (off,size)=>
     bif Nat.beq (QG v).length size&&Nat.ble (off+(QG v).length) cells.length then fillR place (cells.take off++QG v++cells.drop (off+(QG v).length)) rest else none
def fieldsR (P:Program) (fs:List Field):Option (List (Nat × Nat)):=
 match fs with
 | []=>some []
 | f::fs=>match sizT P f.type with
   | none=>none
   | some n=>match fieldsR P fs with
     | none=>none
     | some l=>some ((f.offset,n)::l)
def partsE (fr:Fr):List (Nat × Operand)→Option (List (Nat × RV))
 | []=>some []
 | (i,x)::l=>match ev fr x with
   | none=>none
   | some v=>match partsE fr l with
     | none=>none
     | some r=>some ((i,v)::r)
def buildR (P:Program) (t:TypeId) (ps:List (Nat × RV)):Option (List RV):=
 match zerC P t with
 | none=>none
 | some z=>match P.underlying t with
   | some (.struct fs)=>(match fieldsR P fs.toList with
     | none=>none
     | some pl=>fillR (fun i=>pl[i]?) z ps)
   | some (.array _ e)=>(match sizT P e with
     | none=>none
     | some n=>fillR (fun i=>some (i*n,n)) z ps)
   | _=>none
def sliceR (P:Program) (B:Bx) (t:TypeId) (y:RV):Option (List RV):=
 match P.underlying t with
 | some (.slice e)=>(match sizT P e,zerC P e with
   | some n,some _=>bif (Nat.beq (QG y).length n&&(!(Nat.beq n 0)&&Nat.ble n 16777216))&&(QG y).all (oneB B) then some (QG y) else none
   | _,_=>none)
 | _=>none
def oneP (op:Op):Option Operand:=match op with
 | .buildSlice _ n ps=>(match n,ps.toList with
   | 1,[(0,x)]=>some x
   | _,_=>none)
 | _=>none
def needB (B:Bx):List Nat→Option (List (Nat × Zp))
 | []=>some []
 | i::l=>match B i with
   | none=>none
   | some r=>match needB B l with
     | none=>none
     | some k=>some ((i,r)::k)
section
variable (P:Program)
def step (nb:Nat) (op:Op) (fr:Fr) (B:Bx) (rs:List Orc):Option StepR:=
 match op with
 | .move x=>(match ev fr x with | some v=>some (v,.no,rs,[]) | none=>none)
 | .assign x=>(match ev fr x with | some v=>some (v,.no,rs,[]) | none=>none)
 | .pick c a b=>(match ev fr c with
   | some (.v (.bool t))=>(match (bif t then ev fr a else ev fr b) with | some v=>some (v,.no,rs,[]) | none=>none)
   | _=>none)
 | .alloc t=>(match zerC P t with
   | some cs=>some (.p nb 0,.al (.box cs),rs,[])
   | none=>none)
 | .box t x=>(match ev fr x with
   | some y=>bif (QG y).all (oneB B) then some (.p nb 0,.al (.box (QG y)),rs,[]) else none
   | _=>none)
 | .fieldAddr t x k=>(match ev fr x with
   | some (.p i o)=>(match offT P t k with
     | some d=>some (.p i (o+d),.no,rs,[])
     | none=>none)
   | some (.v (.pointer (some ⟨b,o,none⟩)))=>(match offT P t k with
     | some d=>some (.v (.pointer (some ⟨b,o+d,none⟩)),.no,rs,[])
     | none=>none)
   | _=>none)
 | .load t x=>(match ev fr x with
   | some (.p i o)=>(match B i with
     | some (.box cs)=>(match loadC P t cs o with
       | some v=>some (v,.no,rs,[])
       | none=>none)
     | _=>none)
   | some (.v a)=>(match rs with
     | .r r::rs=>some (.v r,.no,rs,[.get t a r])
     | _=>none)
   | _=>none)
 | .store t d x=>(match ev fr d,ev fr x with
   | some (.p i o),some y=>(match B i with
     | some (.box cs)=>(match storeC P B t cs o y with
       | some cs'=>some (.v undef,.st i cs',rs,[])
       | none=>none)
     | _=>none)
   | _,_=>none)
 | .nilCheck x=>(match ev fr x with
   | some (.v (.pointer (some a)))=>some (.v (.pointer (some a)),.no,rs,[])
   | some (.p i o)=>some (.p i o,.no,rs,[])
   | _=>none)
 | .unOp .not _ x=>(match ev fr x with
   | some (.v (.bool b))=>some (.v (.bool !b),.no,rs,[])
   | _=>none)
 | .binOp o t x y _=>(match ev fr x,ev fr y,rs with
   | some (.v a),some (.v b),.r r::rs=>some (.v r,.no,rs,[.bin o t a b r])
   | _,_,_=>none)
 | .indexAddr t x i=>(match ev fr x,ev fr i,rs with
   | some (.p b o),some (.v (.int _ m)),rs=>(match P.underlying t with
     | some (.array len e)=>(match sizT P e with
       | some n=>bif decide (0≤m)&&decide (m<(len:Int)) then some (.p b (o+m.toNat*n),.no,rs,[]) else none
       | none=>none)
     | _=>none)
   | some (.v a),some (.v b),.r r::rs=>some (.v r,.no,rs,[.idx t a b r])
   | _,_,_=>none)
 | .slice t x lo hi mx=>(match ev fr x,valO fr lo,valO fr hi,valO fr mx,rs with
   | some (.v a),some lo,some hi,some mx,.r r::rs=>some (.v r,.no,rs,[.cut t a lo hi mx r])
   | _,_,_,_,_=>none)
 | .index t x i=>(match ev fr x,ev fr i,rs with
   | some (.v a),some (.v b),.r r::rs=>some (.v r,.no,rs,[.ask (Instr.index t a b) r])
   | _,_,_=>none)
 | .convert t u x=>(match ev fr x,rs with
   | some (.v a),.r r::rs=>some (.v r,.no,rs,[.ask (convert t u a) r])
   | _,_=>none)
 | .field t x k=>(match ev fr x with
   | some y=>(match y with
     | .v (.agg cs)=>(match offP P t k with
       | some (d,t')=>(match loadC P t' (cs.toList.map .v) d with
         | some v=>some (v,.no,rs,[])
         | none=>none)
       | none=>none)
     | .agg cs=>(match offP P t k with
       | some (d,t')=>(match loadC P t' cs d with
         | some v=>some (v,.no,rs,[])
         | none=>none)
       | none=>none)
     | _=>none)
   | none=>none)
 | .extract x k=>(match ev fr x with
   | some (.v (.tuple cs))=>(match cs[k]? with
     | some v=>some (.v v,.no,rs,[])
     | none=>none)
   | some (.tup l)=>(match l[k]? with
     | some v=>some (v,.no,rs,[])
     | none=>none)
   | _=>none)
 | .build t ps=>(match partsE fr ps.toList with
   | some l=>bif l.all (fun p=>(QG p.2).all (oneB B)) then (match buildR P t l with
     | some cs=>some (mkAgg cs,.no,rs,[])
     | none=>none) else none
   | none=>none)
 | .buildSlice t n ps=>(match oneP (.buildSlice t n ps) with
   | some x=>(match ev fr x with
     | some y=>(match sliceR P B t y with
       | some cs=>some (.s nb 0 1 1,.al (.box cs),rs,[])
       | none=>none)
     | none=>none)
   | none=>none)
 | .makeFunc f first caps=>(match first.toList with
   | []=>(match evs fr caps.toList with
     | some l=>some (.fn f l,.no,rs,[])
     | none=>none)
   | _::_=>(match vals fr first.toList,vals fr caps.toList with
     | some a,some b=>some (.v (.func f a.toArray b.toArray),.no,rs,[])
     | _,_=>none))
 | .makeInterface t x=>(match ev fr x with
   | some (.v _)=>none
   | some y=>none
   | none=>none)
 | .call c=>(match c.callee with
   | .builtin .len=>(match evs fr c.args.toList,c.argTypes.toList with
     | some [x],[t]=>(match lenC P t x with
       | some v=>some (.v v,.no,rs,[])
       | none=>none)
     | _,_=>none)
   | .builtin .append=>(match vals fr c.args.toList,c.argTypes.toList,rs with
     | some [x,y],[t,u],.c 1 (.x _ 0) po::rs=>some (.x nb 0,.al (.unk 1 po),rs,[.app t u x y po])
     | _,_,_=>none)
   | .builtin .max=>(match vals fr c.args.toList,rs with
     | some vs,.r r::rs=>some (.v r,.no,rs,[.ask (Builtin.max_ #[] 0 vs.toArray) r])
     | _,_=>none)
   | .value (.func f)=>(match vals fr c.args.toList,rs with
     | some vs,.r r::rs=>some (.v r,.no,rs,[.call f vs r])
     | some vs,.c m r po::rs=>bif r.noP then some (r.at nb,.al (.unk m po),rs,[.opq f vs m r po]) else none
     | none,.r r::rs=>(match evs fr c.args.toList with
       | some as=>(match needB B (ixsL as) with
         | some k=>some (.v r,.no,rs,[.callR f as k r])
         | none=>none)
       | none=>none)
     | _,_=>none)
   | _=>none)
 | _=>none
end
def hasB (B:Bx) (v:RV):Prop:=v.all (fun i=>(B i).isSome)=true
def own (N:Nat) (G:Env) (B:Bx) (b:Nat):Prop:=N≤b∧ ∀ i cs,B i=some (.box cs)→G.g i≠b
noncomputable instance (N:Nat) (G:Env) (B:Bx):DecidablePred (own N G B):=fun _=>Classical.propDecidable _
structure RpP (N:Nat) (W:World) (G:Env) (B:Bx) (w:World):Prop where
 below:Below N W w
 sb: ∀ i cs,B i=some (.box cs)→SB w (G.g i) (Qu G cs)∧N≤G.g i
 cl: ∀ i cs,B i=some (.box cs)→Kg (fun i=>(B i).isSome) cs=true
 un: ∀ i m po,B i=some (.unk m po)→(G.u i).length=m∧(∀ v ∈ G.u i,v.oneCell'=true)∧po.p (G.u i) (World.only w (own N G B))
 inj: ∀ i j ci cj,B i=some (.box ci)→B j=some (.box cj)→G.g i=G.g j→i=j
 le:N≤w.heap.size
def lb (bs:List Zp):Bx:=fun i=>bs[i]?
abbrev Rp (N:Nat) (W:World) (G:Env) (bs:List Zp) (w:World):Prop:=RpP N W G (lb bs) w
theorem isSome_upd {B:Bx} {i:Nat} {r:Zp}: ∀ j,(B j).isSome=true→(KJ B i r j).isSome=true:=fun j h=>by
 unfold KJ;split
 · rfl
 · exact h
section
variable {P:Program} {N:Nat} {W:World} {G:Env} {B:Bx} {w:World}
theorem RpP.lt (h:RpP N W G B w) {i:Nat} {cs:List RV} (hi:B i=some (.box cs)):G.g i<w.heap.size:=(h.sb i cs hi).1.lt
theorem RpP.call {w':World} (h:RpP N W G B w) (hb:Below w.heap.size w w'):RpP N W G B w' :=
 ⟨h.below.trans (hb.mono h.le),fun i cs hi=>⟨(h.sb i cs hi).1.below hb,(h.sb i cs hi).2⟩,h.cl,fun i m po hi=>⟨(h.un i m po hi).1,(h.un i m po hi).2.1,po.mono _ _ _ (Za hb.size fun b hlt hb'=>⟨hb',hb.block b hlt⟩) (h.un i m po hi).2.2⟩,h.inj,Nat.le_trans h.le hb.size⟩
theorem RpP.alloc (h:RpP N W G B w) {nb:Nat} (hn:B nb=none) (cs:List RV) (hc:Kg (fun i=>(B i).isSome) cs=true) (t:TypeId) :
 RpP N W ⟨fun j=>if j=nb then w.heap.size else G.g j,G.u⟩ (KJ B nb (.box cs)) (w.alloc (.cells (Qu G cs).toArray t)):=by
 have hs: ∀ i,(B i).isSome=true→same ⟨fun j=>if j=nb then w.heap.size else G.g j,G.u⟩ G i:=fun i hi=>by
  have:i≠nb:=fun e=>by subst e;rw [hn] at hi;cases hi
  exact ⟨by simp [this],rfl⟩
 have old: ∀ i r,KJ B nb (.box cs) i=some r→i≠nb→B i=some r:=fun i r hi e=>by unfold KJ at hi;rwa [if_neg e] at hi
 have hbl:Below w.heap.size w (w.alloc (.cells (Qu G cs).toArray t)):=(Below.refl _ _).alloc (Nat.le_refl _) _
 refine ⟨h.below.alloc h.le _,fun i ds hi=> ?_,fun i ds hi=> ?_,fun i m po hi=> ?_,fun i j ci cj hi hj e=> ?_,by simp;have:=h.le;omega⟩
 · by_cases e:i=nb
   · subst e
     unfold KJ at hi
     rw [if_pos rfl] at hi
     cases hi
     rw [Kv hs cs hc]
     simp only [if_true]
     exact ⟨SB.new w _ t,h.le⟩
   have hi':=old i _ hi e
   rw [Kv hs ds (h.cl i ds hi')]
   simp only [e,if_false]
   exact ⟨(h.sb i ds hi').1.below hbl,(h.sb i ds hi').2⟩
 · by_cases e:i=nb
   · subst e
     unfold KJ at hi
     rw [if_pos rfl] at hi
     cases hi
     exact ZE isSome_upd _ hc
   exact ZE isSome_upd _ (h.cl i ds (old i _ hi e))
 · have e:i≠nb:=fun e=>by subst e;unfold KJ at hi;rw [if_pos rfl] at hi;cases hi
   obtain ⟨q1,q2,q3⟩:=h.un i m po (old i _ hi e)
   refine ⟨q1,q2,po.mono _ _ _ (Za hbl.size fun b hlt hb=>⟨⟨hb.1,fun j ds hj=> ?_⟩,hbl.block b hlt⟩) q3⟩
   by_cases e2:j=nb
   · simp only [e2,if_true];omega
   simp only [e2,if_false]
   exact hb.2 j ds (old j _ hj e2)
 by_cases e1:i=nb <;> by_cases e2:j=nb
 · rw [e1,e2]
 · have:=h.lt (old j _ hj e2)
   simp only [e1,e2,if_true,if_false] at e
   omega
 · have:=h.lt (old i _ hi e1)
   simp only [e1,e2,if_true,if_false] at e
   omega
 simp only [e1,e2,if_false] at e
 exact h.inj i j ci cj (old i _ hi e1) (old j _ hj e2) e
theorem RpP.opq (h:RpP N W G B w) {nb:Nat} (hn:B nb=none) {us:List Value} {m:Nat} {po:Po} {w':World} (hm:us.length=m) (ho: ∀ v ∈ us,v.oneCell'=true) (hb:Below w.heap.size w w') (hp:po.p us (World.only w' fun b=>w.heap.size≤b)) :
 RpP N W ⟨G.g,fun j=>if j=nb then us else G.u j⟩ (KJ B nb (.unk m po)) w':=by
 have h':=h.call hb
 have hs: ∀ i,(B i).isSome=true→same ⟨G.g,fun j=>if j=nb then us else G.u j⟩ G i:=fun i hi=>by
  have:i≠nb:=fun e=>by subst e;rw [hn] at hi;cases hi
  exact ⟨rfl,by simp [this]⟩
 have old: ∀ i cs,KJ B nb (.unk m po) i=some (.box cs)→B i=some (.box cs):=fun i cs hi=>by
  unfold KJ at hi
  split at hi
  · cases hi
  exact hi
 refine ⟨h'.below,fun i ds hi=> ?_,fun i ds hi=>ZE isSome_upd _ (h.cl i ds (old i ds hi)),fun i m' po' hi=> ?_,fun i j ci cj hi hj e=>h.inj i j ci cj (old i ci hi) (old j cj hj) e,h'.le⟩
 · rw [Kv hs ds (h.cl i ds (old i ds hi))]
   exact h'.sb i ds (old i ds hi)
 have own': ∀ b,own N G B b→own N ⟨G.g,fun j=>if j=nb then us else G.u j⟩ (KJ B nb (.unk m po)) b:=fun b hb=>⟨hb.1,fun j ds hj=>hb.2 j ds (old j ds hj)⟩
 by_cases e:i=nb
 · subst e
   unfold KJ at hi
   rw [if_pos rfl] at hi
   cases hi
   simp only [if_true]
   refine ⟨hm,ho,po.mono _ _ _ (Za (Nat.le_refl _) fun b hlt hb2=>⟨own' b ⟨by have:=h.le;omega,fun j ds hj=> ?_⟩,rfl⟩) hp⟩
   have:=h.lt hj
   omega
 unfold KJ at hi
 rw [if_neg e] at hi
 obtain ⟨q1,q2,q3⟩:=h'.un i m' po' hi
 simp only [e,if_false]
 exact ⟨q1,q2,po'.mono _ _ _ (Za (Nat.le_refl _) fun b hlt hb2=>⟨own' b hb2,rfl⟩) q3⟩
theorem RpP.put (h:RpP N W G B w) {i o:Nat} {cs vs:List RV} (hi:B i=some (.box cs)) (hv:Kg (fun i=>(B i).isSome) vs=true) (hl:o+vs.length≤cs.length) :
 RpP N W G (KJ B i (.box (cs.take o++vs++cs.drop (o+vs.length)))) (w.setCells (G.g i) o (Qu G vs)):=by
 have key: ∀ j r,KJ B i (.box (cs.take o++vs++cs.drop (o+vs.length))) j=some r→j≠i→B j=some r:=fun j r hj e=>by unfold KJ at hj;rwa [if_neg e] at hj
 have hcs:=h.cl i cs hi
 have hcl:Kg (fun i=>(B i).isSome) (cs.take o++vs++cs.drop (o+vs.length))=true:=allL_of fun a ha=>by
  rw [List.mem_append,List.mem_append] at ha
  rcases ha with (ha | ha) | ha
  · exact Kq hcs a (List.mem_of_mem_take ha)
  · exact Kq hv a ha
  exact Kq hcs a (List.mem_of_mem_drop ha)
 refine ⟨Below.setCells (h.sb i cs hi).2 _ o w h.below,fun j ds hj=> ?_,fun j ds hj=> ?_,fun j m po hj=> ?_,fun a b ca cb ha hb e=> ?_,by rw [setCells_size];exact h.le⟩
 · by_cases e:j=i
   · subst e
     unfold KJ at hj
     rw [if_pos rfl] at hj
     cases hj
     have:=(h.sb j cs hi).1.put o (Qu G vs) (by rw [KZ,KZ];exact hl)
     rw [KZ] at this
     rw [Kp,Kp,KR G (cs.take o),KR G (cs.drop _),List.map_take,List.map_drop, ← KR]
     exact ⟨this,(h.sb j cs hi).2⟩
   have hj':=key j _ hj e
   exact ⟨(h.sb j ds hj').1.far (fun q=>e (h.inj i j cs ds hi hj' q).symm) o _,(h.sb j ds hj').2⟩
 · by_cases e:j=i
   · subst e
     unfold KJ at hj
     rw [if_pos rfl] at hj
     cases hj
     exact ZE isSome_upd _ hcl
   exact ZE isSome_upd _ (h.cl j ds (key j _ hj e))
 · have e:j≠i:=fun e=>by subst e;unfold KJ at hj;rw [if_pos rfl] at hj;cases hj
   obtain ⟨q1,q2,q3⟩:=h.un j m po (key j _ hj e)
   refine ⟨q1,q2,po.mono _ _ _ (Za (by rw [setCells_size];exact Nat.le_refl _) fun b hlt hb=>⟨⟨hb.1,fun k ds hk=> ?_⟩,?_⟩) q3⟩
   · by_cases e2:k=i
     · rw [e2];exact hb.2 i cs hi
     exact hb.2 k ds (key k _ hk e2)
   have hne:b≠G.g i:=fun q=>hb.2 i cs hi q.symm
   have heap: ∀ (vs:List Value) (o:Nat) (w:World),(w.setCells (G.g i) o vs).heap[b]?=w.heap[b]?:=by
    intro vs
    induction vs with
    | nil=>intro o w;rfl
    | cons v r ih=>intro o w;rw [World.setCells,ih];exact Below.heap_setCell _ _ _ _ (by simpa using hne)
   exact heap _ _ _
 have hA: ∃ c,B a=some (.box c):=by
  by_cases e:a=i
  · exact ⟨cs,e ▸ hi⟩
  exact ⟨ca,key a _ ha e⟩
 have hB: ∃ c,B b=some (.box c):=by
  by_cases e:b=i
  · exact ⟨cs,e ▸ hi⟩
  exact ⟨cb,key b _ hb e⟩
 obtain ⟨_,ha'⟩:=hA
 obtain ⟨_,hb'⟩:=hB
 exact h.inj a b _ _ ha' hb' e
theorem lb_lt {bs:List Zp} {i:Nat} {r:Zp} (h:lb bs i=some r):i<bs.length:=(List.getElem?_eq_some_iff.1 h).1
theorem lb_some (bs:List Zp) (i:Nat):(lb bs i).isSome=Nat.blt i bs.length:=by
 unfold lb
 by_cases h:i<bs.length
 · rw [List.getElem?_eq_getElem h]
   have:Nat.blt i bs.length=true:=by rw [Nat.blt_eq];exact h
   rw [this];rfl
 rw [List.getElem?_eq_none (by omega)]
 have:Nat.blt i bs.length=false:=by rw [← Bool.not_eq_true,Nat.blt_eq];exact h
 rw [this];rfl
theorem lb_upd (bs:List Zp) (e:Eff) (h: ∀ i cs,e= .st i cs→ ∃ c0,lb bs i=some c0):e.upd bs.length (lb bs)=lb (e.bs bs):=by
 cases e with
 | no=>rfl
 | al r=>
  funext j
  simp only [Eff.upd,KJ,lb,Eff.bs]
  by_cases q:j=bs.length
  · subst q;simp
  rw [if_neg q]
  by_cases q2:j<bs.length
  · rw [List.getElem?_append_left q2]
  rw [List.getElem?_eq_none (by omega),List.getElem?_eq_none (by simp;omega)]
 | st i cs=>
  obtain ⟨c0,hc⟩:=h i cs rfl
  have hi:=lb_lt hc
  funext j
  simp only [Eff.upd,KJ,lb,Eff.bs]
  by_cases q:j=i
  · subst q;rw [if_pos rfl,List.getElem?_set_self hi]
  rw [if_neg q,List.getElem?_set_ne (Ne.symm q)]
theorem bs_len (bs:List Zp) (e:Eff):(e.bs bs).length=e.len bs.length:=by cases e <;> simp [Eff.bs,Eff.len]
theorem rowT_ok {t:TypeId} {b:Bool} (h:Zn P t=some b) (w:World):(isAgg t).run P w= .ok b w:=by
 unfold Zn at h
 split at h <;> simp at h <;> subst h
 · rename_i hu;simp [isAgg,run_underlying hu]
 · rename_i hu;simp [isAgg,run_underlying hu]
 rename_i d h1 h2 hu
 simp only [isAgg,Sem.run_bind,run_underlying hu,Result.andThen_ok]
 cases d <;> first | rfl | exact absurd rfl (h1 _) | exact absurd rfl (h2 _ _)
theorem Jo {t:TypeId} {n:Nat} (h:sizT P t=some n) (w:World):(sizeOf t).run P w= .ok n w:=by
 unfold sizT at h
 split at h <;> simp at h
 rename_i i hi
 subst h
 simp [sizeOf,typeInfo,hi]
theorem Addr.add_at (b o j:Nat):(⟨b,o,none⟩:Addr).add j=⟨b,o+j,none⟩:=by unfold Addr.add;split <;> simp_all
theorem offT_ok {t:TypeId} {k d b o:Nat} (h:offT P t k=some d) (w:World):(Instr.fieldAt t (.pointer (some ⟨b,o,none⟩)) k).run P w= .ok (.pointer (some ⟨b,o+d,none⟩)) w:=by
 unfold offT at h
 split at h
 case h_2=>cases h
 rename_i fs hu
 split at h
 case h_2=>cases h
 rename_i f hf
 split at h
 case h_2=>cases h
 rename_i n hn
 cases hb:Nat.beq n 0 with
 | true=>rw [hb,cond_true] at h;cases h
 | false=>
  rw [hb,cond_false] at h
  cases h
  have hz:n≠0:=fun e=>by subst e;cases hb
  simp [Instr.fieldAt,run_underlying hu,hf,Instr.sureAddr,fieldPlace,Jo hn,hz,Addr.add_at]
theorem loadC_all {f:Nat→Bool} {t:TypeId} {cs:List RV} {o:Nat} {v:RV} (h:loadC P t cs o=some v) (hc:Kg f cs=true):v.all f=true:=by
 unfold loadC at h
 split at h
 · split at h
   case h_2=>cases h
   rename_i n hn
   cases hb:Nat.ble (o+n) cs.length with
   | false=>rw [hb,cond_false] at h;cases h
   | true=>
    rw [hb,cond_true] at h
    cases h
    exact mkAgg_all (allL_of fun a ha=>Kq hc a (List.mem_of_mem_drop (List.mem_of_mem_take ha)))
 · exact Kq hc v (List.mem_of_getElem? h)
 cases h
theorem concL_get {G:Env} {cs:List RV} {o:Nat} {v:RV} (h:cs[o]?=some v):(Qu G cs)[o]?=some (v.conc G):=by rw [KR,List.getElem?_map,h];rfl
theorem loadC_ok {t:TypeId} {cs:List RV} {o b:Nat} {v:RV} (h:loadC P t cs o=some v) (hs:SB w b (Qu G cs)):(Instr.loadAt t (.pointer (some ⟨b,o,none⟩))).run P w= .ok (v.conc G) w:=by
 unfold loadC at h
 split at h
 · rename_i hr
   split at h
   case h_2=>cases h
   rename_i n hn
   cases hb:Nat.ble (o+n) cs.length with
   | false=>rw [hb,cond_false] at h;cases h
   | true=>
    rw [hb,cond_true] at h
    cases h
    rw [Nat.ble_eq] at hb
    have he:Qu G ((cs.drop o).take n)=((Qu G cs).drop o).take n:=by simp [KR]
    have hl:(Qu G ((cs.drop o).take n)).length=n:=by rw [KZ];simp;omega
    have:=run_loadCells_list (P:=P) w ⟨b,o,none⟩ (Qu G ((cs.drop o).take n)) (fun j v hv=>by
     rw [Addr.add_at]
     have hj:j<n:=by have:=(List.getElem?_eq_some_iff.1 hv).1;omega
     rw [he,List.getElem?_take_of_lt hj,List.getElem?_drop] at hv
     exact hs.cell (o+j) hv)
    rw [hl] at this
    simp [Instr.loadAt,Instr.sureAddr,loadVar,rowT_ok hr,Jo hn,this,mkAgg_conc]
 · rename_i hr
   have:=hs.cell o (concL_get h)
   simp [Instr.loadAt,Instr.sureAddr,loadVar,rowT_ok hr,this]
 cases h
theorem offP_ok {t t':TypeId} {k d:Nat} {cs:List RV} {v:RV} (hd:offP P t k=some (d,t')) (hv:loadC P t' cs d=some v) (w:World):(Instr.field t (.agg (Qu G cs).toArray) k).run P w= .ok (v.conc G) w:=by
 unfold offP at hd
 split at hd
 case h_2=>cases hd
 rename_i fs hu
 split at hd
 case h_2=>cases hd
 rename_i f hf
 cases hd
 have hpart:(part f.type (Qu G cs).toArray f.offset).run P w= .ok (v.conc G) w:=by
  unfold loadC at hv
  split at hv
  · rename_i hr
    split at hv
    case h_2=>cases hv
    rename_i n hn
    cases hb:Nat.ble (f.offset+n) cs.length with
    | false=>rw [hb,cond_false] at hv;cases hv
    | true=>
     rw [hb,cond_true] at hv
     cases hv
     simp only [part,Sem.run_bind,rowT_ok hr,Jo hn,Result.andThen_ok,if_true,Sem.run_pure,mkAgg_conc]
     congr 2
     apply Array.ext'
     simp [List.take_drop,KR]
  · rename_i hr
    have:(Qu G cs)[f.offset]?=some (v.conc G):=concL_get hv
    simp [part,rowT_ok hr,this]
  cases hv
 simp [Instr.field,run_underlying hu,hf,asAgg,hpart]
theorem lenC_ok {t:TypeId} {x:RV} {v:Value} (h:lenC P t x=some v) (ty:TypeId) (w:World):(Builtin.len_ #[t] ty #[x.conc G]).run P w= .ok v w:=by
 unfold lenC at h
 split at h
 · rename_i s hu
   cases h
   simp [Builtin.len_,run_underlying hu,RV.conc]
 · rename_i e a n c hu
   cases h
   simp [Builtin.len_,run_underlying hu,RV.conc]
 · rename_i e a n c hu
   cases h
   simp [Builtin.len_,run_underlying hu,RV.conc]
 cases h
theorem cellsV_ok (v:Value):v.cells=(cellsV v).toArray:=by cases v <;> rfl
theorem cellsV_one {v:Value} (h:v.oneCell'=true):cellsV v=[v]:=by cases v <;> first | rfl | cases h
theorem Jt {f:Nat→Bool} {v:RV} (h:v.all f=true):Kg f (QG v)=true:=by
 cases v with
 | v x=>
  refine allL_of fun a ha=> ?_
  simp only [QG,List.mem_map] at ha
  obtain ⟨y,_,rfl⟩:=ha
  rfl
 | agg l=>exact h
 | _=>simp only [QG,Kg,Bool.and_true];exact h
theorem oneB_ok (hr:RpP N W G B w) {v:RV} (h1:oneB B v=true):(v.conc G).oneCell'=true:=by
 cases v with
 | v x=>exact h1
 | agg l=>cases h1
 | tup l=>cases h1
 | x i j=>
  simp only [oneB] at h1
  split at h1
  · rename_i m po hB
    rw [Nat.blt_eq] at h1
    obtain ⟨q1,q2,_⟩:=hr.un i m po hB
    have hj:j<(G.u i).length:=by rw [q1];exact h1
    simp only [RV.conc,List.getD_eq_getElem?_getD,List.getElem?_eq_getElem hj]
    exact q2 _ (List.getElem_mem hj)
  cases h1
 | _=>rfl
theorem cellsR_ok (hr:RpP N W G B w) {v:RV} (h1:(QG v).all (oneB B)=true):cellsV (v.conc G)=Qu G (QG v)∧ ∀ u ∈ Qu G (QG v),u.oneCell'=true:=by
 refine ⟨?_,fun u hu=> ?_⟩
 · cases v with
   | v x=>simp only [QG,RV.conc,concL_v]
   | agg l=>rfl
   | _=> 
     simp only [QG,List.all_cons,List.all_nil,Bool.and_true] at h1 ⊢
     exact cellsV_one (oneB_ok hr h1)
 rw [KR,List.mem_map] at hu
 obtain ⟨a,ha,rfl⟩:=hu
 exact oneB_ok hr (List.all_eq_true.1 h1 a ha)
theorem storeC_ok (hr:RpP N W G B w) {t:TypeId} {cs cs':List RV} {o b:Nat} {v:RV} (h:storeC P B t cs o v=some cs') (hs:SB w b (Qu G cs)) :
 o+(QG v).length≤cs.length∧cs'=cs.take o++QG v++cs.drop (o+(QG v).length)∧(Instr.storeAt t (.pointer (some ⟨b,o,none⟩)) (v.conc G)).run P w= .ok () (w.setCells b o (Qu G (QG v))):=by
 unfold storeC at h
 split at h
 case h_2=>cases h
 rename_i n hn
 cases hb:((Nat.beq (QG v).length n&&Nat.ble (o+n) cs.length)&&(QG v).all (oneB B)) with
 | false=>rw [hb,cond_false] at h;cases h
 | true=>
  rw [hb,cond_true] at h
  cases h
  simp only [Bool.and_eq_true,Nat.beq_eq,Nat.ble_eq] at hb
  obtain ⟨⟨rfl,h2⟩,h3⟩:=hb
  obtain ⟨q1,q2⟩:=cellsR_ok hr h3
  refine ⟨h2,rfl,?_⟩
  have hlen:(Qu G (QG v)).length=(QG v).length:=KZ _ _
  have ht:=hs.sub o (Qu G (QG v)).length (by rw [hlen,KZ];exact h2)
  have:=run_storeCells_cells (P:=P) b o (Qu G (QG v)) 0 w (fun j hj=>by simpa using (ht j hj).1) (fun j hj=>by simpa using (ht j hj).2) q2
  have hsz:=Jo hn w
  simp only [Nat.add_zero] at this
  simp [Instr.storeAt,Instr.sureAddr,storeVar,hsz,cellsV_ok,q1,hlen,this]
theorem zerC_ok {t:TypeId} {cs:List RV} (h:zerC P t=some cs) (w:World):(Instr.alloc t true (.tuple #[])).run P w= .ok (.pointer (some ⟨w.heap.size,0,none⟩)) (w.alloc (.cells (Qu G cs).toArray t))∧ ∀ f,Kg f cs=true:=by
 unfold zerC at h
 split at h
 case h_2=>cases h
 rename_i i hi
 split at h
 case h_2=>cases h
 rename_i v hv
 cases h
 refine ⟨by simp [Instr.alloc,zeroValue,typeInfo,hi,hv,newVar,newRow,concL_v,cellsV_ok],fun f=>allL_of fun a ha=> ?_⟩
 simp only [List.mem_map] at ha
 obtain ⟨y,_,rfl⟩:=ha
 rfl
theorem boxC_ok (hr:RpP N W G B w) (t:TypeId) {v:RV} (h1:(QG v).all (oneB B)=true):(Instr.box t (v.conc G)).run P w= .ok (.pointer (some ⟨w.heap.size,0,none⟩)) (w.alloc (.cells (Qu G (QG v)).toArray t)):=by
 simp [Instr.box,newVar,newRow,cellsV_ok,(cellsR_ok hr h1).1]
theorem call_wp {dst:Option Tmp} {ty:TypeId} {pos:String} {aft:Array Edge} {gd:Option (Nat × Bool)} {c:Call} {f:FuncId} {vs:List Value} {a:Act} (hc:c.callee= .value (.func f)) (hv:c.args.toList.map a.eval=vs) (hent:Ent P f) {next:Act→World→Prop} {Q:Exit→Act→World→Prop} :
 (⟨dst,.call c,ty,pos,aft,gd⟩:Oper).wp P a w next Q=Calls P f vs.toArray w fun
   | .returned v,w''=>next (a.put dst v) w''
   | .panicked chain,w''=>Q (.panic chain) a w''
   | .outgrown,_=>LetsOut Q:=by
 obtain ⟨fn,cd,k1,k2,k3⟩:=hent
 have hargs:c.args.map a.eval=vs.toArray:=by
  apply Array.ext'
  simpa using hv
 have hrun:(execOp a.eval ⟨dst,.call c,ty,pos,aft,gd⟩).run P w= .ok (.enter f vs.toArray) w:=by
  have he:a.eval (.func f)= .func (.func f) #[] #[]:=rfl
  simp only [execOp,resolve,hc,he,Deferred.ofValue,pure_bind,invoke,hargs,Array.append_empty,Array.empty_append]
  simp only [callFunc,Sem.run_bind,run_program,Result.andThen_ok,k1,k3,k2,Option.isNone_some,Bool.false_eq_true,if_false,Sem.run_pure]
 unfold Oper.wp
 rw [hrun,Oper.upon_enter]
 rfl
structure St (N:Nat) (W:World) (n:Nat) (fr:Fr) (bs:List Zp) (G:Env) (a:Act) (w:World):Prop where
 env:K8 G n fr a
 rp:Rp N W G bs w
 cl:okF bs.length fr=true
structure StepOK (P:Program) (N:Nat) (W:World) (n nb:Nat) (o:Oper) (fr:Fr) (B:Bx) (r:StepR):Prop where
 cl: ∀ f:Nat→Bool,(∀ s v,get fr s=some v→v.all f=true)→(∀ i cs,B i=some (.box cs)→Kg f cs=true)→(r.2.1.isAl=true→f nb=true)→r.1.all f=true∧(∀ cs,r.2.1.cells=some cs→Kg f cs=true)
 st: ∀ i cs,r.2.1= .st i cs→ ∃ c0,B i=some (.box c0)
 wp: ∀ G a w,K8 G n fr a→(∀ s v,get fr s=some v→hasB B v)→RpP N W G B w→(r.2.1.isAl=true→B nb=none)→(∀ s ∈ r.2.2.2,s.ok P N W)→ ∀ (next:Act→World→Prop) (Q:Exit→Act→World→Prop),
  (∀ G' w',RpP N W G' (r.2.1.upd nb B) w'→(∀ i,r.2.1.isAl=false∨i≠nb→same G' G i)→next (a.put o.dst (r.1.conc G')) w')→o.wp P a w next Q
theorem pure_ok {o:Oper} {n nb:Nat} {fr:Fr} {rs:List Orc} {v:RV} (hv: ∀ f:Nat→Bool,(∀ s v,get fr s=some v→v.all f=true)→(∀ i cs,B i=some (.box cs)→Kg f cs=true)→v.all f=true) (h: ∀ G a w,K8 G n fr a→RpP N W G B w→(execOp a.eval o).run P w= .ok (.value (v.conc G)) w):StepOK P N W n nb o fr B (v,.no,rs,[]):=by
 refine ⟨fun f h1 h2 _=>⟨hv f h1 h2,fun cs e=>(by cases e)⟩,fun i cs e=>(by cases e),fun G a w he _ hr _ _ next Q hn=> ?_⟩
 unfold Oper.wp
 rw [h G a w he hr,Oper.upon_value]
 exact hn G w hr fun _ _=>⟨rfl,rfl⟩
theorem told_ok {o:Oper} {n nb:Nat} {fr:Fr} {rs:List Orc} {v:Value} {s:Qb} (h: ∀ G a w,K8 G n fr a→RpP N W G B w→s.ok P N W→(execOp a.eval o).run P w= .ok (.value v) w):StepOK P N W n nb o fr B (.v v,.no,rs,[s]):=by
 refine ⟨fun f h1 h2 _=>⟨rfl,fun cs e=>(by cases e)⟩,fun i cs e=>(by cases e),fun G a w he _ hr _ hs next Q hn=> ?_⟩
 unfold Oper.wp
 rw [h G a w he hr (hs _ (List.mem_singleton.2 rfl)),Oper.upon_value]
 exact hn G w hr fun _ _=>⟨rfl,rfl⟩
theorem foldl_over (cs:Array Value) (l:List Value) (off:Nat) (h:off+l.length≤cs.size) :
 (l.zipIdx.foldl (fun cs (x:Value × Nat)=>cs.setIfInBounds (off+x.2) x.1) cs).toList=cs.toList.take off++l++cs.toList.drop (off+l.length):=by
 obtain ⟨h1,h2⟩:=Great.foldl_set off l 0 cs
 apply List.ext_getElem?
 intro k
 have:=h2 k
 rw [Array.getElem?_toList,this]
 simp only [Nat.add_zero,Nat.sub_zero]
 have hs:cs.toList.length=cs.size:=by simp
 by_cases c1:k<off
 · rw [if_neg (by omega),List.append_assoc,List.getElem?_append_left (by simp;omega),List.getElem?_take_of_lt c1];simp
 by_cases c2:k<off+l.length
 · rw [if_pos ⟨by omega,c2,by omega⟩,List.append_assoc,List.getElem?_append_right (by simp;omega),List.getElem?_append_left (by simp;omega)]
   congr 1;simp;omega
 rw [if_neg (by omega),List.getElem?_append_right (by simp;omega),List.getElem?_drop]
 simp
 congr 1;omega
theorem fillR_all {f:Nat→Bool} {place:Nat→Option (Nat × Nat)}: ∀ {ps:List (Nat × RV)} {cells r:List RV},(∀ x ∈ ps,x.2.all f=true)→Kg f cells=true→fillR place cells ps=some r→Kg f r=true
 | [],cells,r,_,hc,h=>by cases h;exact hc
 | (i,v)::ps,cells,r,hp,hc,h=>by
   unfold fillR at h
   split at h
   · cases h
   · rename_i off size hpl
     cases hb:(Nat.beq (QG v).length size&&Nat.ble (off+(QG v).length) cells.length) with
     | false=>rw [hb,cond_false] at h;cases h
     | true=>
       rw [hb,cond_true] at h
       refine fillR_all (fun x hx=>hp x (List.mem_cons_of_mem _ hx)) (allL_of fun a ha=> ?_) h
       rw [List.mem_append,List.mem_append] at ha
       rcases ha with (ha | ha) | ha
       · exact Kq hc a (List.mem_of_mem_take ha)
       · exact Kq (Jt (hp _ (List.mem_cons_self ..))) a ha
       · exact Kq hc a (List.mem_of_mem_drop ha)
theorem fillR_ok {place:Nat→Option (Nat × Nat)}: ∀ {ps:List (Nat × RV)} {cells r:List RV} {cs:Array Value},Qu G cells=cs.toList→(∀ x ∈ ps,cellsV (x.2.conc G)=Qu G (QG x.2))→fillR place cells ps=some r →
 ∃ rs,Instr.fill place cs (ps.map fun x=>(x.1,x.2.conc G))=some rs∧Qu G r=rs.toList
 | [],cells,r,cs,hc,_,h=>by cases h;exact ⟨cs,rfl,hc⟩
 | (i,v)::ps,cells,r,cs,hc,hp,h=>by
   unfold fillR at h
   split at h
   · cases h
   · rename_i off size hpl
     cases hb:(Nat.beq (QG v).length size&&Nat.ble (off+(QG v).length) cells.length) with
     | false=>rw [hb,cond_false] at h;cases h
     | true=>
       rw [hb,cond_true] at h
       simp only [Bool.and_eq_true,Nat.beq_eq,Nat.ble_eq] at hb
       have hv:cellsV (v.conc G)=Qu G (QG v):=hp _ (List.mem_cons_self ..)
       have hcells:(v.conc G).cells=(Qu G (QG v)).toArray:=by rw [cellsV_ok,hv]
       have hl1:(Qu G (QG v)).length=(QG v).length:=KZ _ _
       have hl2:cells.length=cs.size:=by have:=congrArg List.length hc;rw [KZ] at this;simpa using this
       have hov:=foldl_over cs (Qu G (QG v)) off (by omega)
       have hc':Qu G (cells.take off++QG v++cells.drop (off+(QG v).length))=((Qu G (QG v)).zipIdx.foldl (fun cs (x:Value × Nat)=>cs.setIfInBounds (off+x.2) x.1) cs).toList:=by
        rw [hov,Kp,Kp,hl1, ← hc]
        simp [KR]
       obtain ⟨rs,h1,h2⟩:=fillR_ok (place:=place) hc' (fun x hx=>hp x (List.mem_cons_of_mem _ hx)) h
       refine ⟨rs,?_,h2⟩
       rw [List.map_cons]
       unfold Instr.fill
       rw [hpl]
       simp only
       rw [if_neg (by rw [hcells];simp [hl1];omega)]
       rw [← h1]
       congr 1
       rw [hcells, ← Array.foldl_toList]
       simp
theorem fieldsR_ok: ∀ {fs:List Field} {l:List (Nat × Nat)},fieldsR P fs=some l→ ∀ w,(fs.mapM (m:=Sem) fun f=>Prod.mk f.offset <$> sizeOf f.type).run P w= .ok l w
 | [],l,h,w=>by simp [fieldsR] at h;subst h;rfl
 | x::fs,l,h,w=>by
   unfold fieldsR at h
   split at h
   · cases h
   · rename_i n hn
     split at h
     · cases h
     · rename_i l' hl
       cases h
       simp [List.mapM_cons,Jo hn,fieldsR_ok hl]
theorem partsE_ok {n:Nat} {fr:Fr} {a:Act} (he:K8 G n fr a): ∀ {l:List (Nat × Operand)} {ps:List (Nat × RV)},partsE fr l=some ps→l.map (fun p=>(p.1,a.eval p.2))=ps.map fun x=>(x.1,x.2.conc G)
 | [],ps,h=>by cases h;rfl
 | (i,x)::l,ps,h=>by
   unfold partsE at h
   split at h
   · cases h
   · rename_i v hv
     split at h
     · cases h
     · rename_i r hr
       cases h
       rw [List.map_cons,List.map_cons,partsE_ok he hr,he.eval hv]
theorem partsE_all {f:Nat→Bool} {fr:Fr} (h: ∀ s v,get fr s=some v→v.all f=true): ∀ {l:List (Nat × Operand)} {ps:List (Nat × RV)},partsE fr l=some ps→ ∀ x ∈ ps,x.2.all f=true
 | [],ps,q=>by cases q;intro x hx;cases hx
 | (i,x)::l,ps,q=>by
   unfold partsE at q
   split at q
   · cases q
   · rename_i v hv
     split at q
     · cases q
     · rename_i r hr
       cases q
       intro y hy
       rcases List.mem_cons.1 hy with rfl | hy
       · exact Jd h hv
       · exact partsE_all h hr y hy
theorem RpP.knows (h:RpP N W G B w): ∀ {l:List Nat} {k:List (Nat × Zp)},needB B l=some k→Knows G w k
 | [],k,q=>by cases q;trivial
 | i::l,k,q=>by
   unfold needB at q
   split at q
   · cases q
   · rename_i r hr
     split at q
     · cases q
     · rename_i k' hk
       cases q
       cases r with
       | box cs=>exact ⟨(h.sb i cs hr).1,h.knows hk⟩
       | unk m po=>
         obtain ⟨q1,_,q3⟩:=h.un i m po hr
         exact ⟨⟨q1,po.mono _ _ _ only_sub q3⟩,h.knows hk⟩
theorem step_ok {o:Oper} {n nb:Nat} {fr:Fr} {rs:List Orc} {r:StepR} (h:step P nb o.op fr B rs=some r):StepOK P N W n nb o fr B r:=by
 obtain ⟨dst,op,ty,pos,aft,gd⟩:=o
 simp only at h
 unfold step at h
 split at h
 · rename_i x
   split at h
   case h_2=>cases h
   rename_i v hv
   cases h
   exact pure_ok (fun f hf _=>Jd hf hv) fun G a w he hr=>by simp [execOp,he.eval hv]
 · rename_i x
   split at h
   case h_2=>cases h
   rename_i v hv
   cases h
   exact pure_ok (fun f hf _=>Jd hf hv) fun G a w he hr=>by simp [execOp,he.eval hv]
 · rename_i c x y
   split at h
   case h_2=>cases h
   rename_i t hc
   split at h
   case h_2=>cases h
   rename_i v hv
   cases h
   refine pure_ok (fun f hf _=> ?_) fun G a w he hr=> ?_
   · cases t <;> exact Jd hf hv
   have:a.eval c= .bool t:=he.eval hc
   cases t
   · rw [cond_false] at hv;simp [execOp,this,asBool,he.eval hv]
   rw [cond_true] at hv;simp [execOp,this,asBool,he.eval hv]
 · rename_i t
   split at h
   case h_2=>cases h
   rename_i cs hz
   cases h
   refine ⟨fun f hf _ hn=>⟨hn rfl,fun cs' e=>(by cases e;exact (zerC_ok (G:=⟨fun _=>0,fun _=>[]⟩) hz default).2 f)⟩,fun i cs e=>(by cases e),fun G a w he _ hr hnb _ next Q hn=> ?_⟩
   obtain ⟨z1,z2⟩:=zerC_ok (G:=G) hz w
   unfold Oper.wp
   simp only [execOp,Sem.run_bind,z1,Result.andThen_ok,Sem.run_pure,Oper.upon_value]
   have:=hn _ _ (hr.alloc (hnb rfl) cs (z2 _) t) (fun i hi=>by rcases hi with hi | hi;cases hi;exact ⟨by simp only [hi,if_false],rfl⟩)
   simpa [RV.conc] using this
 · rename_i t x
   split at h
   case h_2=>cases h
   rename_i y hy
   cases hc:(QG y).all (oneB B) with
   | false=>rw [hc,cond_false] at h;cases h
   | true=>
    rw [hc,cond_true] at h
    cases h
    refine ⟨fun f hf _ hn=>⟨hn rfl,fun cs' e=>(by cases e;exact Jt (Jd hf hy))⟩,fun i cs e=>(by cases e),fun G a w he hh hr hnb _ next Q hn=> ?_⟩
    unfold Oper.wp
    have:a.eval x=y.conc G:=he.eval hy
    simp only [execOp,Sem.run_bind,this,boxC_ok hr t hc,Result.andThen_ok,Sem.run_pure,Oper.upon_value]
    have:=hn _ _ (hr.alloc (hnb rfl) (QG y) (Jt (Jd hh hy)) t) (fun i hi=>by rcases hi with hi | hi;cases hi;exact ⟨by simp only [hi,if_false],rfl⟩)
    simpa [RV.conc] using this
 · rename_i t x k
   split at h
   · rename_i i o hx
     split at h
     case h_2=>cases h
     rename_i d hd
     cases h
     refine pure_ok (fun f hf _=>Jd (v:=.p i o) hf hx) fun G a w he hr=> ?_
     have:a.eval x= .pointer (some ⟨G.g i,o,none⟩):=he.eval hx
     simp only [execOp,Sem.run_bind,this,offT_ok hd,Result.andThen_ok,Sem.run_pure,RV.conc]
   · rename_i b o hx
     split at h
     case h_2=>cases h
     rename_i d hd
     cases h
     refine pure_ok (fun _ _ _=>rfl) fun G a w he hr=> ?_
     have:a.eval x= .pointer (some ⟨b,o,none⟩):=he.eval hx
     simp only [execOp,Sem.run_bind,this,offT_ok hd,Result.andThen_ok,Sem.run_pure,RV.conc]
   cases h
 · rename_i t x
   split at h
   · rename_i i o hx
     split at h
     case h_2=>cases h
     rename_i cs hcs
     split at h
     case h_2=>cases h
     rename_i v hv
     cases h
     refine pure_ok (fun f _ hb=>loadC_all hv (hb i cs hcs)) fun G a w he hr=> ?_
     have:a.eval x= .pointer (some ⟨G.g i,o,none⟩):=he.eval hx
     simp only [execOp,Sem.run_bind,this,loadC_ok hv (hr.sb i cs hcs).1,Result.andThen_ok,Sem.run_pure]
   · rename_i b hx
     split at h
     case h_2=>cases h
     rename_i y rs'
     cases h
     refine told_ok fun G a w he hr hs=> ?_
     have:a.eval x=b:=he.eval hx
     simp only [execOp,Sem.run_bind,this,hs w hr.below,Result.andThen_ok,Sem.run_pure]
   cases h
 · rename_i t d x
   split at h
   case h_2=>cases h
   rename_i i o y hd hx
   split at h
   case h_2=>cases h
   rename_i cs hcs
   split at h
   case h_2=>cases h
   rename_i cs' hst
   cases h
   have hsz:cs'=cs.take o++QG y++cs.drop (o+(QG y).length):=by
    unfold storeC at hst
    split at hst
    case h_2=>cases hst
    rename_i n hn
    cases hb:((Nat.beq (QG y).length n&&Nat.ble (o+n) cs.length)&&(QG y).all (oneB B)) with
    | false=>rw [hb,cond_false] at hst;cases hst
    | true=>
     rw [hb,cond_true] at hst
     cases hst
     simp only [Bool.and_eq_true,Nat.beq_eq] at hb
     rw [hb.1.1]
   refine ⟨fun f hf hB _=>⟨rfl,fun cs0 e=> ?_⟩,fun i' cs0 e=>(by cases e;exact ⟨cs,hcs⟩),fun G a w he hh hr _ _ next Q hn=> ?_⟩
   · cases e
     rw [hsz]
     refine allL_of fun b hb=> ?_
     rw [List.mem_append,List.mem_append] at hb
     rcases hb with (hb | hb) | hb
     · exact Kq (hB i cs hcs) b (List.mem_of_mem_take hb)
     · exact Kq (Jt (Jd hf hx)) b hb
     exact Kq (hB i cs hcs) b (List.mem_of_mem_drop hb)
   obtain ⟨h1,h2,h3⟩:=storeC_ok (P:=P) hr hst (hr.sb i cs hcs).1
   have e1:a.eval d= .pointer (some ⟨G.g i,o,none⟩):=he.eval hd
   have e2:a.eval x=y.conc G:=he.eval hx
   unfold Oper.wp
   simp only [execOp,Sem.run_bind,e1,e2,h3,Result.andThen_ok,Sem.run_pure,Oper.upon_skip]
   have:=hr.put hcs (Jt (Jd hh hx)) h1
   rw [← h2] at this
   exact hn G _ this fun _ _=>⟨rfl,rfl⟩
 · rename_i x
   split at h
   case h_3=>cases h
   · rename_i p hp
     cases h
     refine pure_ok (fun _ _ _=>rfl) fun G a w he hr=> ?_
     have:a.eval x= .pointer (some p):=he.eval hp
     simp [execOp,this,RV.conc]
   rename_i i o hp
   cases h
   refine pure_ok (fun f hf _=>Jd (v:=.p i o) hf hp) fun G a w he hr=> ?_
   have:a.eval x= .pointer (some ⟨G.g i,o,none⟩):=he.eval hp
   simp [execOp,this,RV.conc]
 · rename_i xt x
   split at h
   case h_2=>cases h
   rename_i b hb
   cases h
   refine pure_ok (fun _ _ _=>rfl) fun G a w he hr=> ?_
   have:a.eval x= .bool b:=he.eval hb
   simp [execOp,this,Op.unary,RV.conc]
 · rename_i o t x y yt
   split at h
   case h_2=>cases h
   rename_i p b v rs' hx hy
   cases h
   refine told_ok fun G a w he hr hs=> ?_
   have e1:a.eval x=p:=he.eval hx
   have e2:a.eval y=b:=he.eval hy
   have:=hs x y w
   simp only [execOp,e1,e2]
   rw [Sem.run_bind,this]
   rfl
 · rename_i t x y
   split at h
   case h_3=>cases h
   · rename_i b o k m hx hy
     split at h
     case h_2=>cases h
     rename_i len e hu
     split at h
     case h_2=>cases h
     rename_i n hn
     cases hb:(decide (0≤m)&&decide (m<(len:Int))) with
     | false=>rw [hb,cond_false] at h;cases h
     | true=>
      rw [hb,cond_true] at h
      cases h
      simp only [Bool.and_eq_true,decide_eq_true_eq] at hb
      refine pure_ok (fun f hf _=>Jd (v:=.p b o) hf hx) fun G a w he hr=> ?_
      have e1:a.eval x= .pointer (some ⟨G.g b,o,none⟩):=he.eval hx
      have e2:a.eval y= .int k m:=he.eval hy
      simp [execOp,e1,e2,Instr.indexAt,asIntOf,run_underlying hu,Jo hn,Instr.sureAddr,hb,Addr.add_at,RV.conc]
   rename_i p b v rs' hx hy
   cases h
   refine told_ok fun G a w he hr hs=> ?_
   have e1:a.eval x=p:=he.eval hx
   have e2:a.eval y=b:=he.eval hy
   simp only [execOp,Sem.run_bind,e1,e2,hs w,Result.andThen_ok,Sem.run_pure]
 · rename_i t x lo hi mx
   split at h
   case h_2=>cases h
   rename_i p lo' hi' mx' v rs' hx h1 h2 h3
   cases h
   refine told_ok fun G a w he hr hs=> ?_
   have e1:a.eval x=p:=he.eval hx
   simp only [execOp,Sem.run_bind,e1,valO_ok he h1,valO_ok he h2,valO_ok he h3,hs w hr.below,Result.andThen_ok,Sem.run_pure]
 · rename_i t x y
   split at h
   case h_2=>cases h
   rename_i p b v rs' hx hy
   cases h
   refine told_ok fun G a w he hr hs=> ?_
   have e1:a.eval x=p:=he.eval hx
   have e2:a.eval y=b:=he.eval hy
   simp only [execOp,Sem.run_bind,e1,e2,hs w hr.below,Result.andThen_ok,Sem.run_pure]
 · rename_i t u x
   split at h
   case h_2=>cases h
   rename_i p v rs' hx
   cases h
   refine told_ok fun G a w he hr hs=> ?_
   have e1:a.eval x=p:=he.eval hx
   simp only [execOp,Sem.run_bind,e1,hs w hr.below,Result.andThen_ok,Sem.run_pure]
 · rename_i t x k
   split at h
   case h_2=>cases h
   rename_i y hx
   split at h
   · rename_i cs
     split at h
     case h_2=>cases h
     rename_i d t' hd
     split at h
     case h_2=>cases h
     rename_i v hv
     cases h
     have hal: ∀ f,Kg f (cs.toList.map .v)=true:=fun f=>allL_of fun a ha=>by
      simp only [List.mem_map] at ha
      obtain ⟨z,_,rfl⟩:=ha
      rfl
     refine pure_ok (fun f _ _=>loadC_all hv (hal f)) fun G a w he hr=> ?_
     have e1:a.eval x= .agg (Qu G (cs.toList.map .v)).toArray:=by rw [he.eval hx,concL_v];rfl
     simp only [execOp,Sem.run_bind,e1,offP_ok hd hv,Result.andThen_ok,Sem.run_pure]
   · rename_i cs
     split at h
     case h_2=>cases h
     rename_i d t' hd
     split at h
     case h_2=>cases h
     rename_i v hv
     cases h
     refine pure_ok (fun f hf _=>loadC_all hv (Jd (v:=.agg cs) hf hx)) fun G a w he hr=> ?_
     have e1:a.eval x= .agg (Qu G cs).toArray:=he.eval hx
     simp only [execOp,Sem.run_bind,e1,offP_ok hd hv,Result.andThen_ok,Sem.run_pure]
   cases h
 · rename_i x k
   split at h
   · rename_i cs hx
     split at h
     case h_2=>cases h
     rename_i v hv
     cases h
     refine pure_ok (fun _ _ _=>rfl) fun G a w he hr=> ?_
     have e1:a.eval x= .tuple cs:=he.eval hx
     simp only [execOp,Sem.run_bind,e1,Instr.extract,hv,Result.andThen_ok,Sem.run_pure,RV.conc]
   · rename_i l hx
     split at h
     case h_2=>cases h
     rename_i v hv
     cases h
     refine pure_ok (fun f hf _=>Kq (Jd (v:=.tup l) hf hx) v (List.mem_of_getElem? hv)) fun G a w he hr=> ?_
     have e1:a.eval x= .tuple (Qu G l).toArray:=he.eval hx
     have e2:(Qu G l).toArray[k]?=some (v.conc G):=by simpa using concL_get hv
     simp only [execOp,Sem.run_bind,e1,Instr.extract,e2,Result.andThen_ok,Sem.run_pure]
   cases h
 · rename_i t ps
   split at h
   case h_2=>cases h
   rename_i l hl
   cases hone:l.all (fun p=>(QG p.2).all (oneB B)) with
   | false=>rw [hone,cond_false] at h;cases h
   | true=>
    rw [hone,cond_true] at h
    split at h
    case h_2=>cases h
    rename_i cs hcs
    cases h
    unfold buildR at hcs
    split at hcs
    · cases hcs
    rename_i z hz
    split at hcs
    case h_3=>cases hcs
    · rename_i fs hu
      split at hcs
      · cases hcs
      rename_i pl hpl
      refine pure_ok (fun f hf _=>mkAgg_all (fillR_all (partsE_all hf hl) ((zerC_ok (G:=⟨fun _=>0,fun _=>[]⟩) hz default).2 f) hcs)) fun G a w he hr=> ?_
      have hzc: ∃ zv:Value,(zeroValue t).run P w= .ok zv w∧Qu G z=zv.cells.toList:=by
       unfold zerC at hz
       split at hz
       case h_2=>cases hz
       rename_i i hi
       split at hz
       case h_2=>cases hz
       rename_i v hv
       cases hz
       exact ⟨v,by simp [zeroValue,typeInfo,hi,hv],by rw [concL_v,cellsV_ok]⟩
      obtain ⟨zv,hz1,hz2⟩:=hzc
      obtain ⟨rs',e1,e2⟩:=fillR_ok (place:=fun i=>pl[i]?) hz2 (fun x hx=>(cellsR_ok hr (List.all_eq_true.1 hone x hx)).1) hcs
      have hm:(fs.mapM (m:=Sem) fun f=>Prod.mk f.offset <$> sizeOf f.type).run P w= .ok pl.toArray w:=by
       rw [Array.mapM_eq_mapM_toList]
       simp [fieldsR_ok hpl]
      have hm':(fs.mapM (m:=Sem) fun f=>do pure (f.offset, ← sizeOf f.type)).run P w= .ok pl.toArray w:=by
       rw [← hm];rfl
      have e1':Instr.fill (fun i=>pl.toArray[i]?) zv.cells (l.map fun x=>(x.1,x.2.conc G))=some rs':=by simpa using e1
      have hps:(ps.map fun (i,x)=>(i,a.eval x))=(l.map fun x=>(x.1,x.2.conc G)).toArray:=by
       apply Array.ext'
       have:=partsE_ok he hl
       simpa using this
      simp only [execOp,Instr.build,hps,Sem.run_bind,hz1,Result.andThen_ok,run_underlying hu,hm',e1',Sem.run_pure,mkAgg_conc,e2]
    rename_i len e hu
    split at hcs
    · cases hcs
    rename_i n hn
    refine pure_ok (fun f hf _=>mkAgg_all (fillR_all (partsE_all hf hl) ((zerC_ok (G:=⟨fun _=>0,fun _=>[]⟩) hz default).2 f) hcs)) fun G a w he hr=> ?_
    have hzc: ∃ zv:Value,(zeroValue t).run P w= .ok zv w∧Qu G z=zv.cells.toList:=by
     unfold zerC at hz
     split at hz
     case h_2=>cases hz
     rename_i i hi
     split at hz
     case h_2=>cases hz
     rename_i v hv
     cases hz
     exact ⟨v,by simp [zeroValue,typeInfo,hi,hv],by rw [concL_v,cellsV_ok]⟩
    obtain ⟨zv,hz1,hz2⟩:=hzc
    obtain ⟨rs',e1,e2⟩:=fillR_ok (place:=fun i=>some (i*n,n)) hz2 (fun x hx=>(cellsR_ok hr (List.all_eq_true.1 hone x hx)).1) hcs
    have hps:(ps.map fun (i,x)=>(i,a.eval x))=(l.map fun x=>(x.1,x.2.conc G)).toArray:=by
     apply Array.ext'
     have:=partsE_ok he hl
     simpa using this
    simp only [execOp,Instr.build,hps,Sem.run_bind,hz1,Result.andThen_ok,run_underlying hu,Jo hn,e1,Sem.run_pure,mkAgg_conc,e2]
 · rename_i t len ps
   split at h
   case h_2=>cases h
   rename_i x hx1
   split at h
   case h_2=>cases h
   rename_i y hy
   split at h
   case h_2=>cases h
   rename_i cs hcs
   cases h
   unfold oneP at hx1
   simp only at hx1
   split at hx1
   case h_2=>cases hx1
   rename_i hps
   cases hx1
   unfold sliceR at hcs
   split at hcs
   case h_2=>cases hcs
   rename_i e hu
   split at hcs
   case h_2=>cases hcs
   rename_i n z hn hz
   cases hb:((Nat.beq (QG y).length n&&(!(Nat.beq n 0)&&Nat.ble n 16777216))&&(QG y).all (oneB B)) with
   | false=>rw [hb,cond_false] at hcs;cases hcs
   | true=>
    rw [hb,cond_true] at hcs
    cases hcs
    simp only [Bool.and_eq_true,Nat.beq_eq,Nat.ble_eq,Bool.not_eq_true',beq_eq_false_iff_ne] at hb
    obtain ⟨⟨hb1,hb2,hb3⟩,hb4⟩:=hb
    have hn0:n≠0:=fun q=>by subst q;simp at hb2
    refine ⟨fun f hf _ hn=>⟨hn rfl,fun cs' e=>(by cases e;exact Jt (Jd hf hy))⟩,fun i cs e=>(by cases e),fun G a w he hh hr hnb _ next Q hn'=> ?_⟩
    obtain ⟨q1,q2⟩:=cellsR_ok hr hb4
    have hlen:(Qu G (QG y)).length=n:=by rw [KZ,hb1]
    have hcells:(y.conc G).cells=(Qu G (QG y)).toArray:=by rw [cellsV_ok,q1]
    have hzc: ∃ zv:Value,(zeroValue e).run P w= .ok zv w:=by
     unfold zerC at hz
     split at hz
     case h_2=>cases hz
     rename_i i hi
     split at hz
     case h_2=>cases hz
     rename_i v hv
     exact ⟨v,by simp [zeroValue,typeInfo,hi,hv]⟩
    obtain ⟨zv,hz1⟩:=hzc
    have hfill:Instr.fill (fun i=>some (i*n,n)) ((Array.range (1*n)).map (zv.cells[· % zv.cells.size]!)) [(0,y.conc G)]=some (Qu G (QG y)).toArray:=by
     have hov:=foldl_over ((Array.range (1*n)).map (zv.cells[· % zv.cells.size]!)) (Qu G (QG y)) 0 (by simp [hlen])
     simp only [Instr.fill,Nat.zero_mul,Nat.zero_add]
     rw [if_neg (by rw [hcells];simp [hlen])]
     congr 1
     apply Array.ext'
     rw [hcells, ← Array.foldl_toList]
     simp only [Nat.zero_add] at hov
     simp only [Array.toList_zipIdx,List.toList_toArray] at hov ⊢
     rw [hov]
     simp [hlen]
    have hrun:(execOp a.eval ⟨dst,.buildSlice t 1 ps,ty,pos,aft,gd⟩).run P w= .ok (.value (.slice (some ⟨w.heap.size,0,none⟩) 1 1)) (w.alloc (.cells (Qu G (QG y)).toArray e)):=by
     have hps':(ps.map fun (i,x)=>(i,a.eval x)).toList=[(0,y.conc G)]:=by
      simp [hps,he.eval hy]
     have hno: ¬ 1*n>2 ^ 24:=by omega
     have h10: ¬ 1*n=0:=by omega
     simp only [execOp,Instr.buildSlice,Sem.run_bind,run_underlying hu,Result.andThen_ok,Jo hn,Sem.run_ite,hno,if_false,h10,Sem.run_pure,hz1,hps',hfill]
     simp [newRow]
    unfold Oper.wp
    rw [hrun,Oper.upon_value]
    have:=hn' _ _ (hr.alloc (hnb rfl) (QG y) (Jt (Jd hh hy)) e) (fun i hi=>by rcases hi with hi | hi;cases hi;exact ⟨by simp only [hi,if_false],rfl⟩)
    simpa [RV.conc] using this
 · rename_i f first caps
   split at h
   · rename_i hfirst
     split at h
     case h_2=>cases h
     rename_i l hl
     cases h
     refine pure_ok (fun g hf _=>evs_all hf hl) fun G a w he hr=> ?_
     have e1:first= #[]:=by apply Array.ext';simpa using hfirst
     have e2:caps.map a.eval=(Qu G l).toArray:=by
      apply Array.ext'
      simpa using evs_ok he hl
     simp [execOp,Instr.makeFunc,e1,e2,RV.conc]
   split at h
   case h_2=>cases h
   rename_i va vb ha hb
   cases h
   refine pure_ok (fun _ _ _=>rfl) fun G a w he hr=> ?_
   have e1:first.map a.eval=va.toArray:=by
    apply Array.ext'
    simpa using vals_ok he ha
   have e2:caps.map a.eval=vb.toArray:=by
    apply Array.ext'
    simpa using vals_ok he hb
   simp [execOp,Instr.makeFunc,e1,e2,RV.conc]
 · rename_i t x
   split at h <;> cases h
 · rename_i c
   split at h
   · rename_i hc
     split at h
     case h_2=>cases h
     rename_i x t hv ht
     split at h
     case h_2=>cases h
     rename_i v hl
     cases h
     refine pure_ok (fun _ _ _=>rfl) fun G a w he hr=> ?_
     have hargs:c.args.map a.eval= #[x.conc G]:=by
      have:=evs_ok he hv
      apply Array.ext'
      simpa [Qu] using this
     have hty:c.argTypes= #[t]:=by apply Array.ext';simpa using ht
     simp only [execOp,resolve,hc,pure_bind,invoke,builtin,hargs,hty,lenC_ok hl,Sem.run_bind,Result.andThen_ok,Sem.run_pure,RV.conc]
   · rename_i hc
     split at h
     case h_2=>cases h
     rename_i x y t u i po rs' hv ht
     cases h
     refine ⟨fun f _ _ hn=>⟨hn rfl,fun cs e=>(by cases e)⟩,fun i cs e=>(by cases e),fun G a w he _ hr hnb hs next Q hn=> ?_⟩
     have hargs:c.args.map a.eval= #[x,y]:=by
      have:=vals_ok he hv
      apply Array.ext'
      simpa using this
     have hty:c.argTypes= #[t,u]:=by apply Array.ext';simpa using ht
     have hS:=hs _ (List.mem_singleton.2 rfl)
     obtain ⟨v,w',q1,q2,q3,q4⟩:=hS ty w hr.below
     unfold Oper.wp
     have hrun:(execOp a.eval ⟨dst,.call c,ty,pos,aft,gd⟩).run P w= .ok (.value v) w':=by
      simp only [execOp,resolve,hc,pure_bind,invoke,builtin,hargs,hty]
      rw [Sem.run_bind,q1]
      rfl
     rw [hrun,Oper.upon_value]
     have:=hn _ w' (hr.opq (hnb rfl) (us:=[v]) (m:=1) rfl (fun z hz=>by rw [List.mem_singleton] at hz;rw [hz];exact q2) q3 q4) (fun i hi=>by rcases hi with hi | hi;cases hi;exact ⟨rfl,by simp only [hi,if_false]⟩)
     simpa [RV.conc] using this
   · rename_i hc
     split at h
     case h_2=>cases h
     rename_i vs x rs' hv
     cases h
     refine told_ok fun G a w he hr hs=> ?_
     have hargs:c.args.map a.eval=vs.toArray:=by
      apply Array.ext'
      simpa using vals_ok he hv
     have hm:(Builtin.max_ c.argTypes ty vs.toArray).run P w= .ok x w:=hs w hr.below
     simp only [execOp,resolve,hc,pure_bind,invoke,builtin,hargs,Sem.run_bind,hm,Result.andThen_ok,Sem.run_pure]
   · rename_i f hc
     split at h
     · rename_i vs x rs' hv
       cases h
       refine ⟨fun _ _ _ _=>⟨rfl,fun cs e=>(by cases e)⟩,fun i cs e=>(by cases e),fun G a w he _ hr _ hs next Q hn=> ?_⟩
       obtain ⟨hent,k4⟩:=hs _ (List.mem_singleton.2 rfl)
       rw [call_wp hc (vals_ok he hv) hent]
       refine (k4 w hr.below).mono ?_
       rintro e w' ⟨rfl,hb⟩
       exact hn G w' (hr.call hb) fun _ _=>⟨rfl,rfl⟩
     · rename_i vs m r0 po rs' hv
       cases hnp:r0.noP with
       | false=>rw [hnp,cond_false] at h;cases h
       | true=>
        rw [hnp,cond_true] at h
        cases h
        refine ⟨fun f _ _ hn=>⟨at_all (hn rfl) r0 hnp,fun cs e=>(by cases e)⟩,fun i cs e=>(by cases e),fun G a w he _ hr hnb hs next Q hn=> ?_⟩
        obtain ⟨hent,k4⟩:=hs _ (List.mem_singleton.2 rfl)
        rw [call_wp hc (vals_ok he hv) hent]
        refine (k4 w hr.below).mono ?_
        rintro e w' ⟨us,q1,q2,rfl,q3,q4⟩
        have:=hn _ w' (hr.opq (hnb rfl) q1 q2 q3 q4) (fun i hi=>by rcases hi with hi | hi;cases hi;exact ⟨rfl,by simp only [hi,if_false]⟩)
        rw [at_conc (us:=us) (by simp) r0 hnp] at this
        exact this
     · rename_i x rs' hv
       split at h
       case h_2=>cases h
       rename_i as has
       split at h
       case h_2=>cases h
       rename_i k hk
       cases h
       refine ⟨fun _ _ _ _=>⟨rfl,fun cs e=>(by cases e)⟩,fun i cs e=>(by cases e),fun G a w he _ hr _ hs next Q hn=> ?_⟩
       obtain ⟨hent,k4⟩:=hs _ (List.mem_singleton.2 rfl)
       rw [call_wp hc (evs_ok he has) hent]
       refine (k4 G w hr.below (hr.knows hk)).mono ?_
       rintro e w' ⟨rfl,hb⟩
       exact hn G w' (hr.call hb) fun _ _=>⟨rfl,rfl⟩
     cases h
   cases h
 cases h
end
def wantR (ops:Array Oper) (o:Oper) (fr:Fr):Option Bool:=
 match o.guard with
 | none=>some true
 | some (j,want)=>match ops[j]? with
   | none=>some false
   | some oj=>match oj.dst with
     | none=>some false
     | some d=>match get fr d with
       | some (.v (.bool b))=>some (b==want)
       | some (.v (.tuple _))=>some false
       | _=>none
theorem wantR_ok {G:Env} {n:Nat} {fr:Fr} {a:Act} (he:K8 G n fr a) {ops:Array Oper} {o:Oper} {b:Bool} (hw:wantR ops o fr=some b):Region.wanted o (yielded ops a.tmps)=b:=by
 unfold wantR at hw
 unfold Region.wanted
 split at hw
 · rename_i hg;cases hw;rw [hg]
 rename_i j want hg
 rw [hg]
 simp only
 split at hw
 · rename_i hj;cases hw;simp [yielded,hj]
 rename_i oj hj
 split at hw
 · rename_i hd;cases hw;simp [yielded,hj,hd]
 rename_i d hd
 split at hw
 · rename_i c hc
   cases hw
   simp [yielded,hj,hd,he.get _ _ hc,RV.conc]
 · rename_i l hc
   cases hw
   simp [yielded,hj,hd,he.get _ _ hc,RV.conc]
 cases hw
section
variable {P:Program} {N:Nat} {W:World}
def dropN:Nat→List Oper→List Oper
 | 0,l=>l
 | n+1,_::l=>dropN n l
 | _+1,[]=>[]
/-! ### Regions that draw their order -/
def ancM (acc:List Nat) (o:Oper):Nat:=
 o.after.toList.foldr (fun e s=>bif Region.binds .any e then Nat.lor (Nat.lor s (Nat.shiftLeft 1 e.on)) (acc.getD e.on 0) else s) 0
def ancL:List Oper→List Nat→List Nat
 | [],acc=>acc
 | o::l,acc=>ancL l (acc++[ancM acc o])
def backB:List Oper→Nat→Bool
 | [],_=>true
 | o::l,i=>o.after.toList.all (fun e=> !(Region.binds .any e)||Nat.blt e.on i)&&backB l (i+1)
def Closed (ops:Array Oper) (S:Nat→Bool):Prop:= ∀ j o,ops[j]?=some o→S j=true→ ∀ e ∈ o.after,Region.binds .any e=true→S e.on=true
def Due (S:Nat→Bool) (o:Oper):Prop:= ∀ e ∈ o.after,Region.binds .any e=true→S e.on=true

theorem ancL_append (l:List Oper): ∀ acc,∃ r,ancL l acc=acc++r∧r.length=l.length:=by
 induction l with
 | nil=>intro acc;exact ⟨[],by simp [ancL]⟩
 | cons o l ih=>
  intro acc
  obtain ⟨r,h1,h2⟩:=ih (acc++[ancM acc o])
  exact ⟨ancM acc o::r,by simp [ancL,h1],by simp [h2]⟩
theorem ancM_ok {acc:List Nat} {S:Nat→Bool} {o:Oper} (hd:Due S o) (hacc: ∀ j a,acc[j]?=some a→S j=true→ ∀ i,Nat.testBit a i=true→S i=true) :
 ∀ i,Nat.testBit (ancM acc o) i=true→S i=true:=by
 unfold ancM
 have key: ∀ l:List Edge,(∀ e ∈ l,Region.binds .any e=true→S e.on=true)→ ∀ i,
  Nat.testBit (l.foldr (fun e s=>bif Region.binds .any e then Nat.lor (Nat.lor s (Nat.shiftLeft 1 e.on)) (acc.getD e.on 0) else s) 0) i=true→S i=true:=by
  intro l
  induction l with
  | nil=>intro _ i h;simp at h
  | cons e l ih=>
    intro hl i h
    rw [List.foldr_cons] at h
    cases hb:Region.binds .any e with
    | false=>rw [hb,cond_false] at h;exact ih (fun x hx=>hl x (List.mem_cons_of_mem _ hx)) i h
    | true=>
      rw [hb,cond_true] at h
      have he:=hl e (List.mem_cons_self ..) hb
      change Nat.testBit ((_ ||| (1 <<< e.on)) ||| _) i=true at h
      rw [Nat.testBit_or,Nat.testBit_or,Bool.or_eq_true,Bool.or_eq_true] at h
      rcases h with (h | h) | h
      · exact ih (fun x hx=>hl x (List.mem_cons_of_mem _ hx)) i h
      · have:i=e.on:=by
         rw [Nat.one_shiftLeft,Nat.testBit_two_pow] at h
         exact (of_decide_eq_true h).symm
        rw [this];exact he
      · rw [List.getD_eq_getElem?_getD] at h
        cases ha:acc[e.on]? with
        | none=>rw [ha] at h;simp at h
        | some a=>rw [ha] at h;exact hacc e.on a ha he i h
 exact key o.after.toList (fun e he hb=>hd e (Array.mem_toList_iff.1 he) hb)
theorem ancL_ok {ops:Array Oper} {S:Nat→Bool} (hc:Closed ops S): ∀ (l:List Oper) (acc:List Nat),(∀ j,l[j]?=ops[acc.length+j]?)→(∀ j a,acc[j]?=some a→ ∀ o,ops[j]?=some o→(S j=true∨Due S o)→ ∀ i,Nat.testBit a i=true→S i=true) →
 (∀ j,j<acc.length→ ∃ o,ops[j]?=some o)→ ∀ j a o,(ancL l acc)[j]?=some a→ops[j]?=some o→(S j=true∨Due S o)→ ∀ i,Nat.testBit a i=true→S i=true
 | [],acc,_,hacc,_,j,a,o,hj,ho,hd=>hacc j a hj o ho hd
 | x::l,acc,hl,hacc,hex,j,a,o,hj,ho,hd=>by
   have h0:ops[acc.length]?=some x:=by simpa using (hl 0).symm
   refine ancL_ok hc l (acc++[ancM acc x]) (fun j=>by have:=hl (j+1);simpa [Nat.add_assoc,Nat.add_comm 1 j] using this) (fun j a hj o ho hd=> ?_) (fun j hj=> ?_) j a o hj ho hd
   · rw [List.getElem?_append] at hj
     split at hj
     · exact hacc j a hj o ho hd
     · rename_i hlt
       have hje:j=acc.length:=by
        have:=(List.getElem?_eq_some_iff.1 hj).1
        simp at this;omega
       subst hje
       simp at hj
       subst hj
       rw [h0] at ho
       cases ho
       have hdue:Due S x:=hd.elim (fun hs=>hc _ _ h0 hs) id
       refine ancM_ok hdue fun j a hj hs=> ?_
       obtain ⟨o',ho'⟩:=hex j (List.getElem?_eq_some_iff.1 hj).1
       exact hacc j a hj o' ho' (.inl hs)
   · simp at hj
     rcases Nat.lt_or_ge j acc.length with h | h
     · exact hex j h
     · have:j=acc.length:=by omega
       subst this;exact ⟨x,h0⟩
theorem backB_ok: ∀ {l:List Oper} {b:Nat},backB l b=true→ ∀ (i:Nat) (o:Oper),l[i]?=some o→ ∀ e ∈ o.after,Region.binds .any e=true→e.on<b+i
 | [],_,_,i,_,h=>by simp at h
 | x::l,b,h,i,o,hi=>by
   simp only [backB,Bool.and_eq_true] at h
   cases i with
   | zero=>
     simp at hi;subst hi
     intro e he hb
     have:=List.all_eq_true.1 h.1 e (Array.mem_toList_iff.2 he)
     rw [hb] at this
     simp only [Bool.not_true,Bool.false_or,Nat.blt,Nat.ble_eq] at this
     omega
   | succ i=>
     simp at hi
     intro e he hb
     have:=backB_ok h.2 i o hi e he hb
     omega
def addD (S:Nat→Bool) (i:Nat):Nat→Bool:=fun l=>decide (l=i)||S l
def inS (listed:Array Bool) (i:Nat):Bool:=listed.getD i false
theorem inS_set {listed:Array Bool} {i:Nat} (hi:i<listed.size):inS (listed.setIfInBounds i true)=addD (inS listed) i:=by
 funext l
 unfold inS addD
 by_cases h:l=i
 · subst h
   simp [Array.getD_eq_getD_getElem?,hi]
 simp [Array.getD_eq_getD_getElem?,Array.getElem?_setIfInBounds_ne (Ne.symm h),h]
def left (listed:Array Bool):Nat:=(List.range listed.size).countP fun i=> !(inS listed i)
theorem left_set {listed:Array Bool} {i:Nat} (hi:i<listed.size) (hn:inS listed i=false):left (listed.setIfInBounds i true)<left listed:=by
 unfold left
 rw [Array.size_setIfInBounds,inS_set hi]
 have key: ∀ l:List Nat,(l.countP fun j=> !(addD (inS listed) i j))≤(l.countP fun j=> !(inS listed j))∧(i ∈ l→(l.countP fun j=> !(addD (inS listed) i j))<(l.countP fun j=> !(inS listed j))):=by
  intro l
  induction l with
  | nil=>simp
  | cons j l ih=>
   simp only [List.countP_cons]
   have hle:(if (!(addD (inS listed) i j))=true then 1 else 0)≤(if (!(inS listed j))=true then 1 else 0):=by
    unfold addD
    cases inS listed j <;> by_cases h:j=i <;> simp [h]
   refine ⟨by omega,fun hm=> ?_⟩
   rcases List.mem_cons.1 hm with rfl | hm
   · have h1:addD (inS listed) i i=true:=by simp [addD]
     have h2:(!(inS listed i))=true:=by rw [hn];rfl
     rw [h1,h2]
     simp
     omega
   have:=ih.2 hm;omega
 exact (key _).2 (List.mem_range.2 hi)
structure Rc where
 o:Oper
 want:Bool
 rd:Fr
 bx:List (Nat × Zp)
 v:RV
 eff:Eff
 nb:Nat
 sd:List Qb
def restr (fr:Fr):List Nat→Fr
 | []=>[]
 | s::l=>match get fr s with
   | some v=>(s,v)::restr fr l
   | none=>restr fr l
theorem restr_get {fr:Fr}: ∀ {l:List Nat} {s:Nat} {v:RV},get (restr fr l) s=some v→get fr s=some v∧s ∈ l
 | [],s,v,h=>by cases h
 | x::l,s,v,h=>by
   unfold restr at h
   split at h
   · rename_i u hu
     unfold get at h
     cases e:Nat.beq x s with
     | true=>
       rw [e,cond_true] at h
       rw [Nat.beq_eq] at e
       cases h
       subst e
       exact ⟨hu,List.mem_cons_self ..⟩
     | false=>
       rw [e,cond_false] at h
       obtain ⟨h1,h2⟩:=restr_get h
       exact ⟨h1,List.mem_cons_of_mem _ h2⟩
   · obtain ⟨h1,h2⟩:=restr_get h
     exact ⟨h1,List.mem_cons_of_mem _ h2⟩
mutual
def RV.xs:RV→List Nat
 | .x i _=>[i]
 | .agg l=>xsL l
 | .tup l=>xsL l
 | .fn _ l=>xsL l
 | .ifc _ a=>RV.xs a
 | _=>[]
def xsL:List RV→List Nat
 | []=>[]
 | a::l=>RV.xs a++xsL l
end
def needI (bs:List Zp):List Nat→List (Nat × Zp)
 | []=>[]
 | i::l=>match bs[i]? with
   | some (.unk m po)=>(i,.unk m po)::needI bs l
   | _=>needI bs l
def needU (bs:List Zp):Fr→List (Nat × Zp)
 | []=>[]
 | (_,v)::l=>needI bs v.xs++needU bs l
def bxAt (bs:List Zp) (v:Option RV) (l:List (Nat × Zp)):Option (List (Nat × Zp)):=match v with
 | some (.p i _)=>(match bs[i]? with
   | some (.box cs)=>some ((i,.box cs)::l)
   | _=>none)
 | _=>some l
def bxOf (bs:List Zp) (op:Op) (rd:Fr):Option (List (Nat × Zp)):=
 match op with
 | .load _ x=>bxAt bs (ev rd x) []
 | .store _ d _=>bxAt bs (ev rd d) (needU bs rd)
 | .box _ _=>some (needU bs rd)
 | .build _ _=>some (needU bs rd)
 | .buildSlice _ _ _=>some (needU bs rd)
 | .call c=>(match vals rd c.args.toList with
   | some _=>some []
   | none=>(match evs rd c.args.toList with
     | some as=>needB (lb bs) (ixsL as)
     | none=>some []))
 | _=>some []
theorem needI_ok {bs:List Zp} {i:Nat} {r:Zp}: ∀ {l:List Nat},(i,r) ∈ needI bs l→lb bs i=some r∧i ∈ l
 | [],h=>by cases h
 | k::l,h=>by
   unfold needI at h
   split at h
   · rename_i m po hk
     rcases List.mem_cons.1 h with e | h
     · cases e;exact ⟨hk,List.mem_cons_self ..⟩
     · exact ⟨(needI_ok h).1,List.mem_cons_of_mem _ (needI_ok h).2⟩
   · exact ⟨(needI_ok h).1,List.mem_cons_of_mem _ (needI_ok h).2⟩
theorem needU_ok {bs:List Zp} {i:Nat} {r:Zp}: ∀ {l:Fr},(i,r) ∈ needU bs l→lb bs i=some r
 | [],h=>by cases h
 | (s,v)::l,h=>by
   unfold needU at h
   rcases List.mem_append.1 h with h | h
   · exact (needI_ok h).1
   · exact needU_ok h
theorem needB_ok {B:Bx} {i:Nat} {r:Zp}: ∀ {l:List Nat} {k:List (Nat × Zp)},needB B l=some k→(i,r) ∈ k→B i=some r
 | [],k,q,h=>by cases q;cases h
 | j::l,k,q,h=>by
   unfold needB at q
   split at q
   · cases q
   · rename_i r' hr
     split at q
     · cases q
     · rename_i k' hk
       cases q
       rcases List.mem_cons.1 h with e | h
       · cases e;exact hr
       · exact needB_ok hk h
theorem needB_more {B B':Bx} (hB: ∀ i r,B i=some r→B' i=some r): ∀ {l:List Nat} {k:List (Nat × Zp)},needB B l=some k→needB B' l=some k
 | [],k,q=>q
 | i::l,k,q=>by
   unfold needB at q ⊢
   split at q
   · cases q
   · rename_i r hr
     rw [hB i r hr]
     split at q
     · cases q
     · rename_i k' hk
       simp only [needB_more hB hk]
       exact q
theorem bxOf_lb {bs:List Zp} {op:Op} {rd:Fr} {l:List (Nat × Zp)} {i:Nat} {r:Zp} (h:bxOf bs op rd=some l) (hi:(i,r) ∈ l):lb bs i=some r:=by
 have at_: ∀ v l0 l,(∀ i r,(i,r) ∈ l0→lb bs i=some r)→bxAt bs v l0=some l→(i,r) ∈ l→lb bs i=some r:=fun v l0 l h0 h hi=>by
  unfold bxAt at h
  split at h
  · split at h
    · rename_i k _ cs hk
      cases h
      rcases List.mem_cons.1 hi with e | hi
      · cases e;exact hk
      exact h0 i r hi
    cases h
  cases h;exact h0 i r hi
 unfold bxOf at h
 split at h
 · exact at_ _ _ _ (fun i r h=>by cases h) h hi
 · exact at_ _ _ _ (fun i r h=>needU_ok h) h hi
 · cases h;exact needU_ok hi
 · cases h;exact needU_ok hi
 · cases h;exact needU_ok hi
 · split at h
   · cases h;cases hi
   split at h
   · exact needB_ok h hi
   cases h;cases hi
 cases h;cases hi
def bxB:List (Nat × Zp)→Bx
 | []=>fun _=>none
 | (i,r)::l=>fun j=>bif Nat.beq j i then some r else bxB l j
theorem bxB_some: ∀ {l:List (Nat × Zp)} {i:Nat} {r:Zp},bxB l i=some r→(i,r) ∈ l
 | [],i,r,h=>by cases h
 | (k,r')::l,i,r,h=>by
   unfold bxB at h
   cases e:Nat.beq i k with
   | true=>rw [e,cond_true] at h;rw [Nat.beq_eq] at e;cases h;subst e;exact List.mem_cons_self ..
   | false=>rw [e,cond_false] at h;exact List.mem_cons_of_mem _ (bxB_some h)
theorem oneB_more {B B':Bx} (hB: ∀ i r,B i=some r→B' i=some r) {v:RV} (h:oneB B v=true):oneB B' v=true:=by
 cases v with
 | x i j=>
  simp only [oneB] at h ⊢
  split at h
  · rename_i m po hi
    rw [hB i _ hi]
    exact h
  cases h
 | _=>exact h
theorem step_more {nb:Nat} {op:Op} {rd:Fr} {B B':Bx} {rs:List Orc} {r:StepR} (hB: ∀ i r,B i=some r→B' i=some r) (h:step P nb op rd B rs=some r):step P nb op rd B' rs=some r:=by
 have all_more: ∀ l:List RV,l.all (oneB B)=true→l.all (oneB B')=true:=fun l h=>List.all_eq_true.2 fun a ha=>oneB_more hB (List.all_eq_true.1 h a ha)
 cases op with
 | load t x=>
  simp only [step] at h ⊢
  split at h
  · rename_i i o hx
    split at h
    case h_2=>cases h
    rename_i cs hcs
    rw [hB i _ hcs]
    exact h
  · exact h
  cases h
 | box t x=>
  simp only [step] at h ⊢
  split at h
  case h_2=>cases h
  rename_i y hy
  cases hc:(QG y).all (oneB B) with
  | false=>rw [hc,cond_false] at h;cases h
  | true=>
   rw [hc,cond_true] at h
   simp only [all_more _ hc,cond_true]
   exact h
 | build t ps=>
  simp only [step] at h ⊢
  split at h
  case h_2=>cases h
  rename_i l hl
  cases hc:l.all (fun p=>(QG p.2).all (oneB B)) with
  | false=>rw [hc,cond_false] at h;cases h
  | true=>
   rw [hc,cond_true] at h
   have:l.all (fun p=>(QG p.2).all (oneB B'))=true:=List.all_eq_true.2 fun x hx=>all_more _ (List.all_eq_true.1 hc x hx)
   simp only [this,cond_true]
   exact h
 | buildSlice t n ps=>
  simp only [step] at h ⊢
  split at h
  case h_2=>cases h
  rename_i x hx
  split at h
  case h_2=>cases h
  rename_i y hy
  split at h
  case h_2=>cases h
  rename_i cs hcs
  have:sliceR P B' t y=some cs:=by
   unfold sliceR at hcs ⊢
   split at hcs
   case h_2=>cases hcs
   split at hcs
   case h_2=>cases hcs
   rename_i n z hn hz
   cases hb:((Nat.beq (QG y).length n&&(!(Nat.beq n 0)&&Nat.ble n 16777216))&&(QG y).all (oneB B)) with
   | false=>rw [hb,cond_false] at hcs;cases hcs
   | true=>
    rw [hb,cond_true] at hcs
    rw [Bool.and_eq_true] at hb
    rw [hb.1,all_more _ hb.2]
    exact hcs
  simp only [this]
  exact h
 | store t d x=>
  simp only [step] at h ⊢
  split at h
  case h_2=>cases h
  rename_i i o y hd hx
  split at h
  case h_2=>cases h
  rename_i cs hcs
  rw [hB i _ hcs]
  split at h
  case h_2=>cases h
  rename_i cs' hst
  have:storeC P B' t cs o y=some cs':=by
   unfold storeC at hst ⊢
   split at hst
   case h_2=>cases hst
   rename_i n hn
   cases hb:((Nat.beq (QG y).length n&&Nat.ble (o+n) cs.length)&&(QG y).all (oneB B)) with
   | false=>rw [hb,cond_false] at hst;cases hst
   | true=>
    rw [hb,cond_true] at hst
    rw [Bool.and_eq_true] at hb
    rw [hb.1,all_more _ hb.2]
    exact hst
  simp only [this]
  exact h
 | unOp o t x=>cases o <;> exact h
 | call c=>
  simp only [step] at h ⊢
  split at h
  · exact h
  · exact h
  · exact h
  · split at h
    · exact h
    · exact h
    · rename_i as hv
      split at h
      case h_2=>cases h
      rename_i as has
      split at h
      case h_2=>cases h
      rename_i k hk
      simp only [needB_more hB hk]
      exact h
    cases h
  cases h
 | _=>exact h
def evD (P:Program) (n:Nat) (ops:Array Oper):List Oper→Fr→List Zp→List Orc→Option (List Rc × Fr × List Zp × List Orc)
 | [],fr,bs,rs=>some ([],fr,bs,rs)
 | o::l,fr,bs,rs=>match wantR ops o (restr fr (o.looksAt ops)) with
   | none=>none
   | some false=>(match put n fr o.dst (.v undef) with
     | none=>none
     | some fr'=>(match evD P n ops l fr' bs rs with
       | none=>none
       | some (R,r)=>some (⟨o,false,restr fr (o.looksAt ops),[],.v undef,.no,bs.length,[]⟩::R,r)))
   | some true=>(match bxOf bs o.op (restr fr (o.looksAt ops)) with
     | none=>none
     | some bx=>(match step P bs.length o.op (restr fr (o.looksAt ops)) (bxB bx) rs with
       | none=>none
       | some (v,ef,rs',sd)=>(match put n fr o.dst v with
         | none=>none
         | some fr'=>(match evD P n ops l fr' (ef.bs bs) rs' with
           | none=>none
           | some (R,r)=>some (⟨o,true,restr fr (o.looksAt ops),bx,v,ef,bs.length,sd⟩::R,r)))))
def Rc.w (x:Rc):Option Nat:=match x.eff with
 | .no=>none
 | .al _=>some x.nb
 | .st i _=>some i
def Rc.res (x:Rc):Zp:=match x.eff with
 | .no=>.box []
 | .al r=>r
 | .st _ cs=>.box cs
def neB (b:Nat) (i:Nat):Bool:= !(Nat.beq i b)
def Rc.apartB (x:Rc) (b:Nat):Bool:=x.bx.all (fun e=>neB b e.1)&&x.rd.all (fun e=>e.2.all (neB b))&&x.v.all (neB b)&&(match x.w with | some i=>neB b i | none=>true)
def JG (ops:Array Oper) (x y:Rc):Bool:=x.o.apart ops y.o&&(match x.w with | some b=>y.apartB b | none=>true)&&(match y.w with | some b=>x.apartB b | none=>true)
def pairsR (ops:Array Oper) (x:Rc) (i:Nat):List (Rc × Nat)→Bool
 | []=>true
 | (y,a)::l=>(Nat.testBit a i||JG ops x y)&&pairsR ops x i l
def allPairsR (ops:Array Oper):Nat→List (Rc × Nat)→Bool
 | _,[]=>true
 | i,(x,_)::l=>pairsR ops x i l&&allPairsR ops (Nat.succ i) l
def sdsOf:List Rc→List Qb
 | []=>[]
 | x::l=>x.sd++sdsOf l
theorem pairsR_ok {ops:Array Oper} {x:Rc} {i:Nat}: ∀ {l:List (Rc × Nat)},pairsR ops x i l=true→ ∀ (j:Nat) (y:Rc) (a:Nat),l[j]?=some (y,a)→Nat.testBit a i=true∨JG ops x y=true
 | [],_,j,y,a,h=>by simp at h
 | (z,b)::l,h,j,y,a,hj=>by
   simp only [pairsR,Bool.and_eq_true,Bool.or_eq_true] at h
   cases j with
   | zero=>simp at hj;obtain ⟨rfl,rfl⟩:=hj;exact h.1
   | succ j=>simp at hj;exact pairsR_ok h.2 j y a hj
theorem allPairsR_ok {ops:Array Oper}: ∀ {l:List (Rc × Nat)} {b:Nat},allPairsR ops b l=true→ ∀ (i j:Nat) (x:Rc) (a:Nat) (y:Rc) (a':Nat),i<j→l[i]?=some (x,a)→l[j]?=some (y,a')→Nat.testBit a' (b+i)=true∨JG ops x y=true
 | [],b,_,i,j,x,a,y,a',_,hi,_=>by simp at hi
 | (z,c)::l,b,h,i,j,x,a,y,a',hij,hi,hj=>by
   simp only [allPairsR,Bool.and_eq_true] at h
   cases j with
   | zero=>omega
   | succ j=>
     simp at hj
     cases i with
     | zero=>simp at hi;obtain ⟨rfl,rfl⟩:=hi;simpa using pairsR_ok h.1 j y a' hj
     | succ i=>
       simp at hi
       have:=allPairsR_ok h.2 i j x a y a' (by omega) hi hj
       rwa [show b+(i+1)=Nat.succ b+i by omega]
def Src (fr0:Fr) (D:Nat→Prop) (R:List Rc) (s:Nat) (v:RV):Prop:=
 (∃ j y,D j∧R[j]?=some y∧y.o.dst=some s∧y.v=v∧ ∀ j' y',j<j'→D j'→R[j']?=some y'→y'.o.dst≠some s) ∨
 (get fr0 s=some v∧ ∀ j y,D j→R[j]?=some y→y.o.dst≠some s)
def SrcB (bs0:List Zp) (D:Nat→Prop) (R:List Rc) (i:Nat) (r:Zp):Prop:=
 (∃ j y,D j∧R[j]?=some y∧y.w=some i∧y.res=r∧ ∀ j' y',j<j'→D j'→R[j']?=some y'→y'.w≠some i) ∨
 (lb bs0 i=some r∧ ∀ j y,D j→R[j]?=some y→y.w≠some i)
structure Facts (P:Program) (n:Nat) (ops:Array Oper) (fr0:Fr) (bs0:List Zp) (R0:List Rc) (x:Rc):Prop where
 did:(wantR ops x.o x.rd=some false∧x.want=false∧x.v= .v undef∧x.eff= .no)∨(wantR ops x.o x.rd=some true∧ ∃ rs rs',step P x.nb x.o.op x.rd (bxB x.bx) rs=some (x.v,x.eff,rs',x.sd))
 dst: ∀ d,x.o.dst=some d→d<n
 rd: ∀ s v,get x.rd s=some v→Src fr0 (fun _=>True) R0 s v∧s ∈ x.o.looksAt ops
 bx: ∀ i r,(i,r) ∈ x.bx→SrcB bs0 (fun _=>True) R0 i r
 nb:bs0.length≤x.nb
 mono: ∀ y ∈ R0,y.eff.len y.nb≤x.nb
 lt:x.v.lt (x.eff.len x.nb)=true
 rlt:okF x.nb x.rd=true
 all: ∀ i,bs0.length≤i→i<x.nb→ ∃ (j:Nat) (y:Rc),R0[j]?=some y∧y.eff.isAl=true∧y.nb=i
structure InvL (fr0:Fr) (bs0:List Zp) (R0:List Rc) (fr:Fr) (bs:List Zp):Prop where
 slots: ∀ s v,get fr s=some v→Src fr0 (fun _=>True) R0 s v
 boxes: ∀ i r,lb bs i=some r→SrcB bs0 (fun _=>True) R0 i r
 clb: ∀ i cs,lb bs i=some (.box cs)→Kg (fun j=>Nat.blt j bs.length) cs=true
 cl:okF bs.length fr=true
 len:bs0.length≤bs.length
 mono: ∀ y ∈ R0,y.eff.len y.nb≤bs.length
 all: ∀ i,bs0.length≤i→i<bs.length→ ∃ (j:Nat) (y:Rc),R0[j]?=some y∧y.eff.isAl=true∧y.nb=i
theorem snoc_get {α:Type} {l:List α} {x y:α} {j:Nat} (h:(l++[x])[j]?=some y):(j<l.length∧l[j]?=some y)∨(j=l.length∧y=x):=by
 rw [List.getElem?_append] at h
 split at h
 · rename_i hj;exact .inl ⟨hj,h⟩
 rename_i hj
 have:=(List.getElem?_eq_some_iff.1 h).1
 simp at this
 have e:j - l.length=0:=by omega
 rw [e] at h
 simp at h
 exact .inr ⟨by omega,h.symm⟩
theorem Src.snoc {fr0:Fr} {R0:List Rc} {x:Rc} {s:Nat} {v:RV} (h:Src fr0 (fun _=>True) R0 s v) (hx:x.o.dst≠some s):Src fr0 (fun _=>True) (R0++[x]) s v:=by
 rcases h with ⟨j,y,_,hj,hd,hv,hl⟩ | ⟨h1,h2⟩
 · refine .inl ⟨j,y,trivial,by rw [List.getElem?_append_left (List.getElem?_eq_some_iff.1 hj).1];exact hj,hd,hv,fun j' y' hlt _ hj'=> ?_⟩
   rcases snoc_get hj' with ⟨_,q⟩ | ⟨_,rfl⟩
   · exact hl j' y' hlt trivial q
   exact hx
 refine .inr ⟨h1,fun j y _ hj=> ?_⟩
 rcases snoc_get hj with ⟨_,q⟩ | ⟨_,rfl⟩
 · exact h2 j y trivial q
 exact hx
theorem Src.last {fr0:Fr} {R0:List Rc} {x:Rc} {s:Nat} (hx:x.o.dst=some s):Src fr0 (fun _=>True) (R0++[x]) s x.v:=
 .inl ⟨R0.length,x,trivial,by simp,hx,rfl,fun j' y' hlt _ hj'=>by
  have:=(List.getElem?_eq_some_iff.1 hj').1
  simp at this
  omega⟩
theorem SrcB.snoc {bs0:List Zp} {R0:List Rc} {x:Rc} {i:Nat} {r:Zp} (h:SrcB bs0 (fun _=>True) R0 i r) (hx:x.w≠some i):SrcB bs0 (fun _=>True) (R0++[x]) i r:=by
 rcases h with ⟨j,y,_,hj,hd,hv,hl⟩ | ⟨h1,h2⟩
 · refine .inl ⟨j,y,trivial,by rw [List.getElem?_append_left (List.getElem?_eq_some_iff.1 hj).1];exact hj,hd,hv,fun j' y' hlt _ hj'=> ?_⟩
   rcases snoc_get hj' with ⟨_,q⟩ | ⟨_,rfl⟩
   · exact hl j' y' hlt trivial q
   exact hx
 refine .inr ⟨h1,fun j y _ hj=> ?_⟩
 rcases snoc_get hj with ⟨_,q⟩ | ⟨_,rfl⟩
 · exact h2 j y trivial q
 exact hx
theorem SrcB.last {bs0:List Zp} {R0:List Rc} {x:Rc} {i:Nat} (hx:x.w=some i):SrcB bs0 (fun _=>True) (R0++[x]) i x.res:=
 .inl ⟨R0.length,x,trivial,by simp,hx,rfl,fun j' y' hlt _ hj'=>by
  have:=(List.getElem?_eq_some_iff.1 hj').1
  simp at this
  omega⟩
theorem put_get {n:Nat} {fr fr':Fr} {d:Option Tmp} {v:RV} (h:put n fr d v=some fr') (s:Nat):get fr' s=if d=some s then some v else get fr s:=by
 unfold put at h
 split at h
 · rename_i d
   cases hd:Nat.blt d n with
   | false=>rw [hd,cond_false] at h;cases h
   | true=>
    rw [hd,cond_true] at h
    cases h
    simp only [get]
    cases e:Nat.beq d s with
    | true=>rw [cond_true];rw [Nat.beq_eq] at e;subst e;simp
    | false=>
     rw [cond_false]
     have:d≠s:=fun q=>by subst q;simp at e
     simp [this]
 cases h;simp
theorem put_lt {n:Nat} {fr fr':Fr} {d:Nat} {v:RV} (h:put n fr (some d) v=some fr'):d<n:=by
 unfold put at h
 simp only at h
 cases hd:Nat.blt d n with
 | false=>rw [hd,cond_false] at h;cases h
 | true=>simpa [Nat.blt_eq] using hd
theorem restr_ok {b:Nat} {fr:Fr} (h:okF b fr=true): ∀ l:List Nat,okF b (restr fr l)=true
 | []=>rfl
 | s::l=>by
   unfold restr
   split
   · rename_i v hv
     simp only [okF,List.all_cons,Bool.and_eq_true]
     exact ⟨okF_get h hv,restr_ok h l⟩
   · exact restr_ok h l
theorem InvL.next {n:Nat} {ops:Array Oper} {fr0:Fr} {bs0:List Zp} {R0:List Rc} {fr fr':Fr} {bs:List Zp} {x:Rc} (h:InvL fr0 bs0 R0 fr bs) (hp:put n fr x.o.dst x.v=some fr') (hnb:x.nb=bs.length) (hlt:x.v.lt (x.eff.len x.nb)=true)
 (hcells: ∀ cs,x.eff.cells=some cs→Kg (fun j=>Nat.blt j (x.eff.len x.nb)) cs=true) (hst: ∀ i cs,x.eff= .st i cs→ ∃ c0,lb bs i=some c0):InvL fr0 bs0 (R0++[x]) fr' (x.eff.bs bs):=by
 have hlen:=bs_len bs x.eff
 have hle:bs.length≤(x.eff.bs bs).length:=by rw [hlen];cases x.eff <;> simp [Eff.len]
 have upmono: ∀ cs,Kg (fun j=>Nat.blt j bs.length) cs=true→Kg (fun j=>Nat.blt j (x.eff.bs bs).length) cs=true:=fun cs h=>ZE (fun i hi=>by simp only [Nat.blt_eq] at hi ⊢;omega) cs h
 have hcells': ∀ cs,x.eff.cells=some cs→Kg (fun j=>Nat.blt j (x.eff.bs bs).length) cs=true:=fun cs h=>by rw [hlen, ← hnb];exact hcells cs h
 refine ⟨fun s v hs=> ?_,fun i r hi=> ?_,fun i cs hi=> ?_,?_,Nat.le_trans h.len hle,fun y hy=> ?_,fun i h1 h2=> ?_⟩
 rotate_left 5
 · by_cases hi:i<bs.length
   · obtain ⟨j,y,q1,q2,q3⟩:=h.all i h1 hi
     exact ⟨j,y,by rw [List.getElem?_append_left (List.getElem?_eq_some_iff.1 q1).1];exact q1,q2,q3⟩
   rw [hlen] at h2
   cases he:x.eff with
   | al r=>rw [he] at h2;simp only [Eff.len] at h2;exact ⟨R0.length,x,by simp,by rw [he];rfl,by omega⟩
   | no=>rw [he] at h2;simp only [Eff.len] at h2;omega
   | st k ds=>rw [he] at h2;simp only [Eff.len] at h2;omega
 · rw [put_get hp] at hs
   by_cases e:x.o.dst=some s
   · rw [if_pos e] at hs
     cases hs
     exact Src.last e
   rw [if_neg e] at hs
   exact (h.slots s v hs).snoc e
 · rw [← lb_upd bs x.eff hst] at hi
   cases he:x.eff with
   | no=>
    rw [he] at hi
    exact (h.boxes i r hi).snoc (by simp [Rc.w,he])
   | al ds=>
    rw [he] at hi
    simp only [Eff.upd,KJ] at hi
    by_cases e:i=bs.length
    · rw [if_pos e] at hi
      cases hi
      have:x.res=r:=by simp [Rc.res,he]
      rw [← this]
      exact SrcB.last (by simp [Rc.w,he,hnb,e])
    rw [if_neg e] at hi
    exact (h.boxes i r hi).snoc (by simp [Rc.w,he,hnb];omega)
   | st k ds=>
    rw [he] at hi
    simp only [Eff.upd,KJ] at hi
    by_cases e:i=k
    · rw [if_pos e] at hi
      cases hi
      have:x.res= .box ds:=by simp [Rc.res,he]
      rw [← this]
      exact SrcB.last (by simp [Rc.w,he,e])
    rw [if_neg e] at hi
    exact (h.boxes i r hi).snoc (by simp [Rc.w,he];omega)
 · rw [← lb_upd bs x.eff hst] at hi
   cases he:x.eff with
   | no=>
    rw [he] at hi
    rw [← he]
    exact upmono cs (h.clb i cs hi)
   | al ds=>
    rw [he] at hi
    rw [← he]
    simp only [Eff.upd,KJ] at hi
    by_cases e:i=bs.length
    · rw [if_pos e] at hi
      cases hi
      exact hcells' cs (by rw [he];rfl)
    rw [if_neg e] at hi
    exact upmono cs (h.clb i cs hi)
   | st k ds=>
    rw [he] at hi
    rw [← he]
    simp only [Eff.upd,KJ] at hi
    by_cases e:i=k
    · rw [if_pos e] at hi
      cases hi
      exact hcells' cs (by rw [he];rfl)
    rw [if_neg e] at hi
    exact upmono cs (h.clb i cs hi)
 · refine okF_put (okF_mono hle h.cl) ?_ hp
   rw [hlen, ← hnb]
   exact hlt
 rcases List.mem_append.1 hy with hy | hy
 · exact Nat.le_trans (h.mono y hy) hle
 rw [List.mem_singleton] at hy
 subst hy
 rw [hlen,hnb]
 exact Nat.le_refl _
theorem evD_lex {n:Nat} {ops:Array Oper} {fr0:Fr} {bs0:List Zp}: ∀ (l:List Oper) (R0:List Rc) (fr fr':Fr) (bs bs':List Zp) (rs rs':List Orc) (R:List Rc),InvL fr0 bs0 R0 fr bs→evD P n ops l fr bs rs=some (R,fr',bs',rs') →
 InvL fr0 bs0 (R0++R) fr' bs'∧R.length=l.length∧ ∀ (k:Nat) (x:Rc),R[k]?=some x→l[k]?=some x.o∧Facts P n ops fr0 bs0 (R0++R.take k) x
 | [],R0,fr,fr',bs,bs',rs,rs',R,hI,h=>by
   cases h
   exact ⟨by simpa using hI,rfl,fun k x hk=>by simp at hk⟩
 | o::l,R0,fr,fr',bs,bs',rs,rs',R,hI,h=>by
   have cons: ∀ (x:Rc) (fr1:Fr) (rs1:List Orc) (R1:List Rc),x.o=o→x.nb=bs.length→x.rd=restr fr (o.looksAt ops)→put n fr o.dst x.v=some fr1→x.v.lt (x.eff.len x.nb)=true→(∀ cs,x.eff.cells=some cs→Kg (fun j=>Nat.blt j (x.eff.len x.nb)) cs=true)→(∀ i cs,x.eff= .st i cs→ ∃ c0,lb bs i=some c0) →
    ((wantR ops x.o x.rd=some false∧x.want=false∧x.v= .v undef∧x.eff= .no)∨(wantR ops x.o x.rd=some true∧ ∃ rs rs',step P x.nb x.o.op x.rd (bxB x.bx) rs=some (x.v,x.eff,rs',x.sd)))→(∀ i r,(i,r) ∈ x.bx→lb bs i=some r) →
    evD P n ops l fr1 (x.eff.bs bs) rs1=some (R1,fr',bs',rs')→R=x::R1 →
    InvL fr0 bs0 (R0++R) fr' bs'∧R.length=(o::l).length∧ ∀ (k:Nat) (x:Rc),R[k]?=some x→(o::l)[k]?=some x.o∧Facts P n ops fr0 bs0 (R0++R.take k) x:=by
    intro x fr1 rs1 R1 ho hnb hrd hp hlt hcells hst hdid hbx hrest hR
    subst ho
    have hN:=hI.next (n:=n) (ops:=ops) hp hnb hlt hcells hst
    obtain ⟨k1,k2,k3⟩:=evD_lex l (R0++[x]) fr1 fr' (x.eff.bs bs) bs' rs1 rs' R1 hN hrest
    subst hR
    refine ⟨by simpa using k1,by simp [k2],fun k y hk=> ?_⟩
    cases k with
    | zero=>
      simp only [List.getElem?_cons_zero,Option.some.injEq] at hk
      subst hk
      refine ⟨rfl,⟨hdid,fun d hd=>by rw [hd] at hp;exact put_lt hp,fun s v hs=> ?_,fun i r hi=> ?_,by rw [hnb];exact hI.len,?_,hlt,?_,by simpa [hnb] using hI.all⟩⟩
      · rw [hrd] at hs
        obtain ⟨q1,q2⟩:=restr_get hs
        exact ⟨by simpa using hI.slots s v q1,q2⟩
      · simpa using hI.boxes i r (hbx i r hi)
      · simpa [hnb] using hI.mono
      · rw [hnb,hrd];exact restr_ok hI.cl _
    | succ k=>
      simp only [List.getElem?_cons_succ] at hk ⊢
      obtain ⟨q1,q2⟩:=k3 k y hk
      exact ⟨q1,by simpa using q2⟩
   unfold evD at h
   split at h
   · cases h
   · rename_i hw
     split at h
     case h_1=>cases h
     rename_i fr1 hp
     split at h
     · cases h
     · rename_i R1 r hr
       cases h
       exact cons ⟨o,false,restr fr (o.looksAt ops),[],.v undef,.no,bs.length,[]⟩ fr1 rs R1 rfl rfl rfl hp rfl (fun cs e=>by cases e) (fun i cs e=>by cases e) (.inl ⟨hw,rfl,rfl,rfl⟩) (fun i r e=>by cases e) hr rfl
   · rename_i hw
     split at h
     · cases h
     · rename_i bx hbx
       split at h
       · cases h
       · rename_i v ef rs1 sd hs
         split at h
         · cases h
         · rename_i fr1 hp
           split at h
           · cases h
           · rename_i R1 r hr
             cases h
             have hok:=step_ok (N:=0) (W:=default) (n:=n) hs
             have hrd:=restr_ok hI.cl (o.looksAt ops)
             obtain ⟨c1,c2⟩:=hok.cl (fun j=>Nat.blt j (ef.len bs.length)) (fun s v hv=>lt_mono (by cases ef <;> simp [Eff.len]) (okF_get hrd hv))
              (fun i cs hi=>ZE (fun j hj=>by simp only [Nat.blt_eq] at hj ⊢;cases ef <;> simp [Eff.len] <;> omega) cs (hI.clb i cs (bxOf_lb hbx (bxB_some hi))))
              (fun hal=>by cases ef <;> first | (simp [Eff.len,Nat.blt_eq];done) | cases hal)
             refine cons ⟨o,true,restr fr (o.looksAt ops),bx,v,ef,bs.length,sd⟩ fr1 rs1 R1 rfl rfl rfl hp c1 c2 (fun i cs e=> ?_) (.inr ⟨hw,rs,rs1,hs⟩) (fun i r e=>bxOf_lb hbx e) hr rfl
             obtain ⟨c0,hc⟩:=hok.st i cs e
             exact ⟨_,bxOf_lb hbx (bxB_some hc)⟩
structure LexR (P:Program) (n:Nat) (ops:Array Oper) (fr0:Fr) (bs0:List Zp) (R:List Rc):Prop where
 len:R.length≤ops.size
 op: ∀ (k:Nat) (x:Rc),R[k]?=some x→ops[k]?=some x.o
 fac: ∀ (k:Nat) (x:Rc),R[k]?=some x→Facts P n ops fr0 bs0 (R.take k) x
 back: ∀ (i:Nat) (o:Oper),ops[i]?=some o→ ∀ e ∈ o.after,Region.binds .any e=true→e.on<i
 pair: ∀ (i j:Nat) (x y:Rc),i<j→R[i]?=some x→R[j]?=some y→(∀ S:Nat→Bool,Closed ops S→(S j=true∨Due S y.o)→S i=true)∨JG ops x y=true
 fr0:okF bs0.length fr0=true
abbrev Dn (S:Nat→Bool):Nat→Prop:=fun j=>S j=true
structure Inv (N:Nat) (W:World) (n:Nat) (fr0:Fr) (bs0:List Zp) (R:List Rc) (G0:Env) (S:Nat→Bool) (a:Act) (w:World) (G:Env) (B:Bx):Prop where
 defers:a.defers=[]
 size:a.tmps.size=n
 rp:RpP N W G B w
 bx: ∀ i r,SrcB bs0 (Dn S) R i r→B i=some r
 had: ∀ i r,B i=some r→i<bs0.length∨ ∃ (j:Nat) (y:Rc),S j=true∧R[j]?=some y∧y.eff.isAl=true∧y.nb=i
 has: ∀ i,(i<bs0.length∨ ∃ (j:Nat) (y:Rc),S j=true∧R[j]?=some y∧y.eff.isAl=true∧y.nb=i)→(B i).isSome=true
 slots: ∀ s v,Src fr0 (Dn S) R s v→hasB B v→a.tmps[s]?=some (v.conc G)
 g0: ∀ i,i<bs0.length→same G G0 i
theorem isAl_w {y:Rc} (h:y.eff.isAl=true):y.w=some y.nb:=by
 unfold Rc.w
 cases he:y.eff with
 | al cs=>rfl
 | no=>rw [he] at h;cases h
 | st _ _=>rw [he] at h;cases h
theorem take_get {α:Type} {l:List α} {k j:Nat} {y:α} (h:(l.take k)[j]?=some y):j<k∧l[j]?=some y:=by
 have hj:=(List.getElem?_eq_some_iff.1 h).1
 simp only [List.length_take] at hj
 have hk:j<k:=by omega
 rw [List.getElem?_take_of_lt hk] at h
 exact ⟨hk,h⟩
theorem get_take {α:Type} {l:List α} {k j:Nat} {y:α} (hk:j<k) (h:l[j]?=some y):(l.take k)[j]?=some y:=by rw [List.getElem?_take_of_lt hk];exact h
section
variable {n:Nat} {ops:Array Oper} {fr0:Fr} {bs0:List Zp} {R:List Rc} (L:LexR P n ops fr0 bs0 R) {S:Nat→Bool} (hS:Closed ops S) {k:Nat} {x:Rc} (hx:R[k]?=some x) (hk:S k=false) (hd:Due S x.o)
include L hS hx hk
theorem LexR.behind {j:Nat} {y:Rc} (hj:S j=true) (hy:R[j]?=some y) (hkj:k<j):JG ops x y=true:=by
 rcases L.pair k j x y hkj hx hy with h | h
 · have:=h S hS (.inl hj)
   rw [hk] at this;cases this
 exact h
theorem LexR.ne {j:Nat} (hj:S j=true):j≠k:=fun e=>by subst e;rw [hk] at hj;cases hj
include hd
theorem LexR.ahead {j:Nat} {y:Rc} (hy:R[j]?=some y) (hjk:j<k):S j=true∨JG ops y x=true:=by
 rcases L.pair j k y x hjk hy hx with h | h
 · exact .inl (h S hS (.inr hd))
 exact .inr h
theorem LexR.src {s:Nat} {v:RV} (h:Src fr0 (fun _=>True) (R.take k) s v) (hs:s ∈ x.o.looksAt ops):Src fr0 (Dn S) R s v:=by
 have later: ∀ (j':Nat) (y':Rc),k<j'→S j'=true→R[j']?=some y'→y'.o.dst≠some s:=fun j' y' q1 q2 q3 q4=>by
  have:=L.behind hS hx hk q2 q3 q1
  simp only [JG,Bool.and_eq_true] at this
  exact (Oper.apart_spec this.1.1).2.2 s q4 hs
 rcases h with ⟨j,y,_,hj,hdst,hv,hl⟩ | ⟨h1,h2⟩
 · obtain ⟨hjk,hj⟩:=take_get hj
   have hSj:S j=true:=by
    rcases L.ahead hS hx hk hd hj hjk with h | h
    · exact h
    simp only [JG,Bool.and_eq_true] at h
    exact ((Oper.apart_spec h.1.1).1 s hdst hs).elim
   refine .inl ⟨j,y,hSj,hj,hdst,hv,fun j' y' q1 q2 q3=> ?_⟩
   rcases Nat.lt_trichotomy j' k with q | q | q
   · exact hl j' y' q1 trivial (get_take q q3)
   · exact absurd q (L.ne hS hx hk q2)
   exact later j' y' q q2 q3
 refine .inr ⟨h1,fun j' y' q2 q3=> ?_⟩
 rcases Nat.lt_trichotomy j' k with q | q | q
 · exact h2 j' y' trivial (get_take q q3)
 · exact absurd q (L.ne hS hx hk q2)
 exact later j' y' q q2 q3
theorem LexR.srcB {i:Nat} {r:Zp} (h:SrcB bs0 (fun _=>True) (R.take k) i r) (hb:(i,r) ∈ x.bx):SrcB bs0 (Dn S) R i r:=by
 have no:x.apartB i=false:=by
  cases hq:x.apartB i with
  | false=>rfl
  | true=>
   simp only [Rc.apartB,Bool.and_eq_true,List.all_eq_true] at hq
   have:=hq.1.1.1 _ hb
   simp [neB] at this
 have later: ∀ (j':Nat) (y':Rc),k<j'→S j'=true→R[j']?=some y'→y'.w≠some i:=fun j' y' q1 q2 q3 q4=>by
  have:=L.behind hS hx hk q2 q3 q1
  simp only [JG,Bool.and_eq_true,q4] at this
  rw [no] at this
  exact absurd this.2 (by simp)
 rcases h with ⟨j,y,_,hj,hw,hv,hl⟩ | ⟨h1,h2⟩
 · obtain ⟨hjk,hj⟩:=take_get hj
   have hSj:S j=true:=by
    rcases L.ahead hS hx hk hd hj hjk with h | h
    · exact h
    simp only [JG,Bool.and_eq_true,hw] at h
    rw [no] at h
    exact absurd h.1.2 (by simp)
   refine .inl ⟨j,y,hSj,hj,hw,hv,fun j' y' q1 q2 q3=> ?_⟩
   rcases Nat.lt_trichotomy j' k with q | q | q
   · exact hl j' y' q1 trivial (get_take q q3)
   · exact absurd q (L.ne hS hx hk q2)
   exact later j' y' q q2 q3
 refine .inr ⟨h1,fun j' y' q2 q3=> ?_⟩
 rcases Nat.lt_trichotomy j' k with q | q | q
 · exact h2 j' y' trivial (get_take q q3)
 · exact absurd q (L.ne hS hx hk q2)
 exact later j' y' q q2 q3
theorem LexR.hasF {G0 G:Env} {a:Act} {w:World} {B:Bx} (hI:Inv N W n fr0 bs0 R G0 S a w G B): ∀ s v,get x.rd s=some v→hasB B v:=fun s v hs=>by
 have F:=L.fac k x hx
 have hlt:=okF_get F.rlt hs
 unfold RV.lt at hlt
 rw [all_iff] at hlt
 unfold hasB
 rw [all_iff]
 intro i hi
 have hin:=hlt i hi
 rw [Nat.blt_eq] at hin
 rcases Nat.lt_or_ge i bs0.length with q | q
 · exact hI.has i (.inl q)
 · obtain ⟨j,y,q1,q2,q3⟩:=F.all i q hin
   obtain ⟨hjk,q1⟩:=take_get q1
   refine hI.has i (.inr ⟨j,y,?_,q1,q2,q3⟩)
   rcases L.ahead hS hx hk hd q1 hjk with h | h
   · exact h
   · exfalso
     have hw:=isAl_w q2
     rw [q3] at hw
     simp only [JG,Bool.and_eq_true,hw,Rc.apartB,List.all_eq_true] at h
     have:=h.1.2.1.1.2 _ (get_mem hs)
     rw [all_iff] at this
     have:=this i hi
     simp [neB] at this
theorem LexR.env {G0 G:Env} {a:Act} {w:World} {B:Bx} (hI:Inv N W n fr0 bs0 R G0 S a w G B):K8 G n x.rd a:=by
 have F:=L.fac k x hx
 refine ⟨hI.defers,hI.size,fun s v hs=> ?_⟩
 obtain ⟨h1,h2⟩:=F.rd s v hs
 exact hI.slots s v (L.src hS hx hk hd h1 h2) (L.hasF hS hx hk hd hI s v hs)
theorem LexR.bxs {G0 G:Env} {a:Act} {w:World} {B:Bx} (hI:Inv N W n fr0 bs0 R G0 S a w G B): ∀ i r,bxB x.bx i=some r→B i=some r:=fun i r h=>by
 have hb:=bxB_some h
 exact hI.bx i r (L.srcB hS hx hk hd ((L.fac k x hx).bx i r hb) hb)
omit hd in
theorem LexR.free {G0 G:Env} {a:Act} {w:World} {B:Bx} (hI:Inv N W n fr0 bs0 R G0 S a w G B) (hal:x.eff.isAl=true):B x.nb=none:=by
 cases hB:B x.nb with
 | none=>rfl
 | some cs=>
  exfalso
  have F:=L.fac k x hx
  have lenA: ∀ z:Rc,z.eff.isAl=true→z.eff.len z.nb=z.nb+1:=fun z hz=>by cases he:z.eff <;> rw [he] at hz <;> first | rfl | cases hz
  rcases hI.had _ _ hB with h | ⟨j,y,h1,h2,h3,h4⟩
  · have:=F.nb;omega
  rcases Nat.lt_trichotomy j k with q | q | q
  · have:=F.mono y (List.mem_of_getElem? (get_take q h2))
    rw [lenA y h3] at this
    omega
  · exact L.ne hS hx hk h1 q
  have:=(L.fac j y h2).mono x (List.mem_of_getElem? (get_take q hx))
  rw [lenA x hal] at this
  omega
theorem LexR.next {G0 G G':Env} {a:Act} {w w':World} {B:Bx} (hI:Inv N W n fr0 bs0 R G0 S a w G B) (hr:RpP N W G' (x.eff.upd x.nb B) w') (hg: ∀ i,x.eff.isAl=false∨i≠x.nb→same G' G i) (hst: ∀ i cs,x.eff= .st i cs→ ∃ c0,B i=some c0) :
 Inv N W n fr0 bs0 R G0 (addD S k) (a.put x.o.dst (x.v.conc G')) w' G' (x.eff.upd x.nb B):=by
 have F:=L.fac k x hx
 have inv: ∀ j,addD S k j=true→j=k∨S j=true:=fun j h=>by simpa [addD] using h
 have upw: ∀ i,x.w≠some i→x.eff.upd x.nb B i=B i:=fun i hw=>by
  unfold Rc.w at hw
  cases he:x.eff with
  | no=>rfl
  | al cs=>rw [he] at hw;simp only [Eff.upd,KJ];rw [if_neg fun q=>hw (by rw [q])]
  | st b cs=>rw [he] at hw;simp only [Eff.upd,KJ];rw [if_neg fun q=>hw (by rw [q])]
 have upw2: ∀ i,x.w=some i→x.eff.upd x.nb B i=some x.res:=fun i hw=>by
  unfold Rc.w at hw
  unfold Rc.res
  cases he:x.eff with
  | no=>rw [he] at hw;cases hw
  | al cs=>rw [he] at hw;cases hw;simp only [Eff.upd,KJ,if_true]
  | st b cs=>rw [he] at hw;cases hw;simp only [Eff.upd,KJ,if_true]
 have mono: ∀ i,(B i).isSome=true→(x.eff.upd x.nb B i).isSome=true:=fun i h=>by
  by_cases hw:x.w=some i
  · rw [upw2 i hw];rfl
  rw [upw i hw];exact h
 have othersB: ∀ (j:Nat) (y:Rc),S j=true→R[j]?=some y→k<j→ ∀ i,y.w=some i→x.w≠some i:=fun j y h1 h2 h3 i h4 h5=>by
  have:=L.behind hS hx hk h1 h2 h3
  simp only [JG,Bool.and_eq_true,h4,h5,Rc.apartB] at this
  simp [neB] at this
 have othersS: ∀ (j:Nat) (y:Rc),S j=true→R[j]?=some y→k<j→ ∀ s,y.o.dst=some s→x.o.dst≠some s:=fun j y h1 h2 h3 s h4 h5=>by
  have:=L.behind hS hx hk h1 h2 h3
  simp only [JG,Bool.and_eq_true] at this
  exact (Oper.apart_spec this.1.1).2.1 s h5 h4
 have xhere:addD S k k=true:=by simp [addD]
 have shere: ∀ j,S j=true→addD S k j=true:=fun j h=>by simp [addD,h]
 have hasOld: ∀ v,hasB (x.eff.upd x.nb B) v→(∀ i ∈ v.ixs,x.eff.isAl=true→i≠x.nb)→hasB B v:=fun v hB h0=>by
  unfold hasB at hB ⊢
  rw [all_iff] at hB ⊢
  intro i hi
  have h1:=hB i hi
  by_cases hw:x.w=some i
  · unfold Rc.w at hw
    cases he:x.eff with
    | no=>rw [he] at hw;cases hw
    | al ds=>rw [he] at hw;cases hw;exact absurd rfl (h0 _ hi (by rw [he];rfl))
    | st b ds=>
     rw [he] at hw;cases hw
     obtain ⟨c0,hc⟩:=hst _ ds he
     rw [hc];rfl
  rwa [upw i hw] at h1
 have concOld: ∀ v,hasB B v→v.conc G'=v.conc G:=fun v hv=>conc_congr (f:=fun i=>(B i).isSome) (fun i hi=>hg i (by
  cases hal:x.eff.isAl with
  | false=>exact .inl rfl
  | true=>
   refine .inr fun q=> ?_
   have:=L.free hS hx hk hI hal
   rw [q,this] at hi
   cases hi)) v hv
 refine ⟨?_,?_,hr,fun i r h=> ?_,fun i r h=> ?_,fun i h=> ?_,fun s v h hB=> ?_,fun i hi=> ?_⟩
 · cases hdst:x.o.dst <;> simp [Act.put,hI.defers]
 · cases hdst:x.o.dst <;> simp [Act.put,hI.size]
 · rcases h with ⟨j,y,h1,h2,h3,h4,h5⟩ | ⟨h1,h2⟩
   · rcases inv j h1 with rfl | hSj
     · rw [hx] at h2;cases h2
       rw [upw2 i h3,h4]
     have hne:x.w≠some i:=fun q=>by
      rcases Nat.lt_trichotomy j k with q1 | q1 | q1
      · exact h5 k x q1 xhere hx q
      · exact L.ne hS hx hk hSj q1
      exact othersB j y hSj h2 q1 i h3 q
     rw [upw i hne]
     exact hI.bx i r (.inl ⟨j,y,hSj,h2,h3,h4,fun j' y' q1 q2 q3=>h5 j' y' q1 (shere j' q2) q3⟩)
   have hne:x.w≠some i:=h2 k x xhere hx
   rw [upw i hne]
   exact hI.bx i r (.inr ⟨h1,fun j' y' q2 q3=>h2 j' y' (shere j' q2) q3⟩)
 · by_cases hw:x.w=some i
   · unfold Rc.w at hw
     cases he:x.eff with
     | no=>rw [he] at hw;cases hw
     | al ds=>rw [he] at hw;cases hw;exact .inr ⟨k,x,xhere,hx,by rw [he];rfl,rfl⟩
     | st b ds=>
      rw [he] at hw;cases hw
      obtain ⟨c0,hc⟩:=hst _ ds he
      exact (hI.had _ c0 hc).imp id fun ⟨j,y,q1,q2⟩=>⟨j,y,shere j q1,q2⟩
   rw [upw i hw] at h
   exact (hI.had i r h).imp id fun ⟨j,y,q1,q2⟩=>⟨j,y,shere j q1,q2⟩
 · rcases h with h | ⟨j,y,q1,q2,q3,q4⟩
   · exact mono i (hI.has i (.inl h))
   rcases inv j q1 with rfl | hSj
   · rw [hx] at q2;cases q2
     have hw:=isAl_w q3
     rw [q4] at hw
     rw [upw2 i hw];rfl
   exact mono i (hI.has i (.inr ⟨j,y,hSj,q2,q3,q4⟩))
 · rcases h with ⟨j,y,h1,h2,h3,h4,h5⟩ | ⟨h1,h2⟩
   · rcases inv j h1 with rfl | hSj
     · rw [hx] at h2;cases h2
       rw [h3,h4]
       have:s<a.tmps.size:=by rw [hI.size];exact F.dst s h3
       simp [Act.put,this]
     have hne:x.o.dst≠some s:=fun q=>by
      rcases Nat.lt_trichotomy j k with q1 | q1 | q1
      · exact h5 k x q1 xhere hx q
      · exact L.ne hS hx hk hSj q1
      exact othersS j y hSj h2 q1 s h3 q
     have hp: ∀ i ∈ v.ixs,x.eff.isAl=true→i≠x.nb:=fun i hi hal q=>by
      subst q
      rcases Nat.lt_trichotomy j k with q1 | q1 | q1
      · have e1:=(L.fac j y h2).lt
        have e2:=F.mono y (List.mem_of_getElem? (get_take q1 h2))
        rw [h4] at e1
        unfold RV.lt at e1
        rw [all_iff] at e1
        have:=e1 _ hi
        rw [Nat.blt_eq] at this
        omega
      · exact L.ne hS hx hk hSj q1
      have:=L.behind hS hx hk hSj h2 q1
      have hw:=isAl_w hal
      simp only [JG,Bool.and_eq_true,hw,Rc.apartB,h4] at this
      have:=this.1.2.1.2
      rw [all_iff] at this
      have:=this _ hi
      simp [neB] at this
     have hh:=hasOld v hB hp
     have hold:=hI.slots s v (.inl ⟨j,y,hSj,h2,h3,h4,fun j' y' q1 q2 q3=>h5 j' y' q1 (shere j' q2) q3⟩) hh
     rw [concOld v hh, ← hold]
     cases hdst:x.o.dst with
     | none=>rfl
     | some d=>
      have:d≠s:=fun q=>hne (by rw [hdst,q])
      simp [Act.put,Array.getElem?_setIfInBounds_ne this]
   have hne:x.o.dst≠some s:=h2 k x xhere hx
   have hlt:v.lt bs0.length=true:=okF_get L.fr0 h1
   have hp: ∀ i ∈ v.ixs,x.eff.isAl=true→i≠x.nb:=fun i hi _ q=>by
    subst q
    unfold RV.lt at hlt
    rw [all_iff] at hlt
    have:=hlt _ hi
    rw [Nat.blt_eq] at this
    have:=F.nb
    omega
   have hh:=hasOld v hB hp
   have hold:=hI.slots s v (.inr ⟨h1,fun j' y' q2 q3=>h2 j' y' (shere j' q2) q3⟩) hh
   rw [concOld v hh, ← hold]
   cases hdst:x.o.dst with
   | none=>rfl
   | some d=>
    have:d≠s:=fun q=>hne (by rw [hdst,q])
    simp [Act.put,Array.getElem?_setIfInBounds_ne this]
 have h1:=hg i (.inr (by have:=F.nb;omega))
 have h2:=hI.g0 i hi
 exact ⟨h1.1.trans h2.1,h1.2.trans h2.2⟩
end
theorem LexR.go {n:Nat} {ops:Array Oper} {fr0:Fr} {bs0:List Zp} {R:List Rc} (L:LexR P n ops fr0 bs0 R) {S:Nat→Bool} (hS:Closed ops S) {k:Nat} {o:Oper} (ho:ops[k]?=some o) (hlt:k<R.length) (hk:S k=false) (hd:Due S o) (hsd: ∀ s ∈ sdsOf R,s.ok P N W)
 {G0 G:Env} {a:Act} {w:World} {B:Bx} (hI:Inv N W n fr0 bs0 R G0 S a w G B) (Q:Exit→Act→World→Prop) :
 wpOp P ops Q k (fun a' w'=> ∃ G' B',Inv N W n fr0 bs0 R G0 (addD S k) a' w' G' B') a w:=by
 obtain ⟨x,hx⟩: ∃ x,R[k]?=some x:=⟨_,List.getElem?_eq_getElem hlt⟩
 have:=L.op k x hx
 rw [ho] at this
 cases this
 have F:=L.fac k x hx
 have he:=L.env hS hx hk hd hI
 have memS: ∀ (l:List Rc),x ∈ l→ ∀ s ∈ x.sd,s ∈ sdsOf l:=by
  intro l
  induction l with
  | nil=>intro h;cases h
  | cons y l ih=>
   intro h s hs
   rcases List.mem_cons.1 h with rfl | h
   · exact List.mem_append.2 (.inl hs)
   exact List.mem_append.2 (.inr (ih h s hs))
 unfold wpOp
 simp only [ho]
 rcases F.did with ⟨hw,_,hv,hef⟩ | ⟨hw,rs,rs',hs⟩
 · rw [wantR_ok he hw,if_neg (by simp)]
   have:=L.next hS hx hk hd (G':=G) (w':=w) hI (by rw [hef];exact hI.rp) (fun _ _=>⟨rfl,rfl⟩) (fun i cs e=>by rw [hef] at e;cases e)
   rw [hv] at this
   exact ⟨G,_,this⟩
 rw [wantR_ok he hw,if_pos rfl]
 have hs':=step_more (L.bxs hS hx hk hd hI) hs
 have hok:=step_ok (N:=N) (W:=W) (n:=n) hs'
 refine .inl (hok.wp G a w he (L.hasF hS hx hk hd hI) hI.rp (fun hal=>L.free hS hx hk hI hal) (fun s hm=>hsd s (memS R (List.mem_of_getElem? hx) s hm)) _ _ fun G' w' hr hg=> ?_)
 exact ⟨G',_,L.next hS hx hk hd hI hr hg fun i cs e=>let ⟨c0,hc⟩:=hok.st i cs e; ⟨_,hc⟩⟩
theorem SrcB.all {bs0:List Zp} {R:List Rc} {i:Nat} {r:Zp} {D:Nat→Prop} (hD: ∀ j,j<R.length→D j) (h:SrcB bs0 (fun _=>True) R i r):SrcB bs0 D R i r:=by
 rcases h with ⟨j,y,_,hj,q⟩ | ⟨h1,h2⟩
 · exact .inl ⟨j,y,hD j (List.getElem?_eq_some_iff.1 hj).1,hj,q.1,q.2.1,fun j' y' a _ b=>q.2.2 j' y' a trivial b⟩
 exact .inr ⟨h1,fun j y _ b=>h2 j y trivial b⟩
theorem Src.all {fr0:Fr} {R:List Rc} {s:Nat} {v:RV} {D:Nat→Prop} (hD: ∀ j,j<R.length→D j) (h:Src fr0 (fun _=>True) R s v):Src fr0 D R s v:=by
 rcases h with ⟨j,y,_,hj,q⟩ | ⟨h1,h2⟩
 · exact .inl ⟨j,y,hD j (List.getElem?_eq_some_iff.1 hj).1,hj,q.1,q.2.1,fun j' y' a _ b=>q.2.2 j' y' a trivial b⟩
 exact .inr ⟨h1,fun j y _ b=>h2 j y trivial b⟩
theorem RpP.less {B B':Bx} {G:Env} {w:World} (h:RpP N W G B w) (hB: ∀ i r,B' i=some r→B i=some r) (hcl: ∀ i cs,B' i=some (.box cs)→Kg (fun i=>(B' i).isSome) cs=true):RpP N W G B' w:=
 ⟨h.below,fun i cs hi=>h.sb i cs (hB i _ hi),hcl,fun i m po hi=>⟨(h.un i m po (hB i _ hi)).1,(h.un i m po (hB i _ hi)).2.1,po.mono _ _ _ (Za (Nat.le_refl _) fun b _ hb=>⟨⟨hb.1,fun j ds hj=>hb.2 j ds (hB j _ hj)⟩,rfl⟩) (h.un i m po (hB i _ hi)).2.2⟩,fun i j ci cj hi hj=>h.inj i j ci cj (hB i _ hi) (hB j _ hj),h.le⟩
theorem LexR.fin {n:Nat} {ops:Array Oper} {fr0 fr':Fr} {bs0 bs':List Zp} {R:List Rc} (L:LexR P n ops fr0 bs0 R) (hE:InvL fr0 bs0 R fr' bs') {S:Nat→Bool} (hall: ∀ i,i<R.length→S i=true)
 {G0 G:Env} {a:Act} {w:World} {B:Bx} (hI:Inv N W n fr0 bs0 R G0 S a w G B):K8 G n fr' a∧Rp N W G bs' w∧ ∀ i,i<bs0.length→same G G0 i:=by
 have hD: ∀ j,j<R.length→Dn S j:=hall
 refine ⟨⟨hI.defers,hI.size,fun s v hs=>hI.slots s v ((hE.slots s v hs).all hD) ?_⟩,hI.rp.less (fun i r hi=>hI.bx i r ((hE.boxes i r hi).all hD)) (fun i cs hi=>ZE (fun j hj=>by rw [lb_some];exact hj) cs (hE.clb i cs hi)),hI.g0⟩
 have hlt:=okF_get hE.cl hs
 unfold RV.lt at hlt
 unfold hasB
 rw [all_iff] at hlt ⊢
 intro i hi
 have hin:=hlt i hi
 rw [Nat.blt_eq] at hin
 rcases Nat.lt_or_ge i bs0.length with q | q
 · exact hI.has i (.inl q)
 obtain ⟨j,y,q1,q2,q3⟩:=hE.all i q hin
 exact hI.has i (.inr ⟨j,y,hD j (List.getElem?_eq_some_iff.1 q1).1,q1,q2,q3⟩)
theorem all_of_ready {ops:Array Oper} (hback: ∀ (i:Nat) (o:Oper),ops[i]?=some o→ ∀ e ∈ o.after,Region.binds .any e=true→e.on<i) {listed:Array Bool} (hsz:listed.size=ops.size) (hr:Region.ready .any ops listed=[]): ∀ i,i<ops.size→inS listed i=true:=by
 intro i
 induction i using Nat.strongRecOn with
 | _ i ih=>
  intro hi
  cases hs:inS listed i with
  | true=>rfl
  | false=>
   have ho:ops[i]?=some ops[i]:=Array.getElem?_eq_getElem hi
   have:i ∈ Region.ready .any ops listed:=mem_ready.2 ⟨by
    unfold inS at hs
    simp [Array.getD_eq_getD_getElem?,hsz,hi] at hs ⊢
    exact hs,_,ho,fun e he hb=>ih e.on (hback i _ ho e he hb) (by have:=hback i _ ho e he hb;omega)⟩
   rw [hr] at this
   cases this
theorem any_rest {ops:Array Oper} {Q:Exit→Act→World→Prop} (hback: ∀ (i:Nat) (o:Oper),ops[i]?=some o→ ∀ e ∈ o.after,Region.binds .any e=true→e.on<i) (m0:Nat)
 (hall: ∀ (i:Nat) (o:Oper),m0≤i→ops[i]?=some o→ ∀ S:Nat→Bool,Closed ops S→Due S o→ ∀ k,k<i→S k=true) :
 ∀ (d m:Nat) (fuel:Nat) (listed:Array Bool) (a:Act) (w:World),m+d=ops.size→m0≤m→d≤fuel→listed.size=ops.size→(∀ i,inS listed i=decide (i<m))→wpList P ops Q (dropN m ops.toList) a w→wpAny P .any ops Q fuel listed a w:=by
 have drop_get: ∀ (m:Nat) (l:List Oper) (o:Oper),l[m]?=some o→dropN m l=o::dropN (m+1) l:=by
  intro m
  induction m with
  | zero=>intro l o h;cases l with
    | nil=>simp at h
    | cons x l=>simp at h;subst h;rfl
  | succ m ih=>intro l o h;cases l with
    | nil=>simp at h
    | cons x l=>simp at h;exact ih l o h
 have drop_end: ∀ (l:List Oper) (m:Nat),l.length≤m→dropN m l=[]:=by
  intro l
  induction l with
  | nil=>intro m _;cases m <;> rfl
  | cons x l ih=>intro m h;cases m with
    | zero=>simp at h
    | succ m=>exact ih m (by simpa using h)
 intro d
 induction d with
 | zero=>
  intro m fuel listed a w hm _ _ hsz hl h
  rw [drop_end _ _ (by simp;omega)] at h
  have hr:Region.ready .any ops listed=[]:=by
   cases hr:Region.ready .any ops listed with
   | nil=>rfl
   | cons i r=>
    have hi:i ∈ Region.ready .any ops listed:=by rw [hr];exact List.mem_cons_self ..
    obtain ⟨q1,oi,q2,_⟩:=mem_ready.1 hi
    have hil:=(Array.getElem?_eq_some_iff.1 q2).1
    have:=hl i
    unfold inS at this
    simp [Array.getD_eq_getD_getElem?,hsz,hil] at this q1
    rw [q1] at this
    simp at this
    omega
  cases fuel with
  | zero=>exact ⟨hr,h⟩
  | succ fuel=>exact ⟨fun _=>h,fun i hi=>by rw [hr] at hi;cases hi⟩
 | succ d ih=>
  intro m fuel listed a w hm hm0 hf hsz hl h
  cases fuel with
  | zero=>omega
  | succ fuel=>
   have hmlt:m<ops.size:=by omega
   have hcl:Closed ops (inS listed):=fun j o ho hs e he hb=>by
    rw [hl] at hs ⊢
    have:=hback j o ho e he hb
    simp only [decide_eq_true_eq] at hs ⊢
    omega
   refine ⟨fun hr=> ?_,fun i hi=> ?_⟩
   · exfalso
     have ho:ops[m]?=some ops[m]:=Array.getElem?_eq_getElem hmlt
     have:m ∈ Region.ready .any ops listed:=mem_ready.2 ⟨by
      have:=hl m
      unfold inS at this
      simp [Array.getD_eq_getD_getElem?,hsz,hmlt] at this ⊢
      exact this,_,ho,fun e he hb=>by
       have h1:=hback m _ ho e he hb
       have h2:=hl e.on
       unfold inS at h2
       rw [h2]
       simpa using h1⟩
     rw [hr] at this
     cases this
   obtain ⟨q1,oi,q2,q3⟩:=mem_ready.1 hi
   have hil:=(Array.getElem?_eq_some_iff.1 q2).1
   have hnot: ¬ i<m:=fun q=>by
    have:=hl i
    unfold inS at this
    simp [Array.getD_eq_getD_getElem?,hsz,hil] at this q1
    rw [q1] at this
    simp at this
    omega
   have hle:i≤m:=by
    rcases Nat.lt_or_ge m i with q | q
    · have:=hall i oi (by omega) q2 (inS listed) hcl (fun e he hb=>q3 e he hb) m q
      rw [hl] at this
      simp at this
    exact q
   obtain rfl:i=m:=by omega
   have hd:dropN i ops.toList=oi::dropN (i+1) ops.toList:=drop_get i _ oi (by simpa using q2)
   rw [hd] at h
   unfold wpOp
   simp only [q2]
   have hl': ∀ k,inS (listed.setIfInBounds i true) k=decide (k<i+1):=fun k=>by
    rw [inS_set (by omega)]
    simp only [addD,hl]
    rw [Bool.eq_iff_iff]
    simp
    omega
   unfold wpList at h
   have next: ∀ a w,wpList P ops Q (dropN (i+1) ops.toList) a w→wpAny P .any ops Q fuel (listed.setIfInBounds i true) a w:=fun a w h=>ih (i+1) fuel _ a w (by omega) (by omega) (by omega) (by simpa using hsz) hl' h
   split
   · rename_i hw
     rw [if_pos hw] at h
     rcases h with h | h
     · exact .inl (Oper.wp_mono next h)
     exact .inr h
   rename_i hw
   rw [if_neg hw] at h
   exact next _ _ h
theorem LexR.any {n:Nat} {ops:Array Oper} {fr0 fr':Fr} {bs0 bs':List Zp} {R:List Rc} (L:LexR P n ops fr0 bs0 R) (hE:InvL fr0 bs0 R fr' bs') (hsd: ∀ s ∈ sdsOf R,s.ok P N W) {G0:Env} {Q:Exit→Act→World→Prop}
 (hall: ∀ (i:Nat) (o:Oper),R.length≤i→ops[i]?=some o→ ∀ S:Nat→Bool,Closed ops S→Due S o→ ∀ k,k<i→S k=true)
 (hQ: ∀ G a w,K8 G n fr' a→Rp N W G bs' w→(∀ i,i<bs0.length→same G G0 i)→wpList P ops Q (dropN R.length ops.toList) a w) :
 ∀ (fuel:Nat) (listed:Array Bool) (a:Act) (w:World),listed.size=ops.size→(∀ i,R.length≤i→inS listed i=false)→Closed ops (inS listed)→left listed≤fuel→(∃ G B,Inv N W n fr0 bs0 R G0 (inS listed) a w G B)→wpAny P .any ops Q fuel listed a w:=by
 have fin: ∀ (fuel:Nat) (listed:Array Bool) a w,listed.size=ops.size→(∀ i,R.length≤i→inS listed i=false)→left listed≤fuel→(∀ i,i<R.length→inS listed i=true)→(∃ G B,Inv N W n fr0 bs0 R G0 (inS listed) a w G B)→wpAny P .any ops Q fuel listed a w:=fun fuel listed a w hsz hno hl hall' ⟨G,B,hI⟩=>by
  obtain ⟨h1,h2,h3⟩:=L.fin hE hall' hI
  have hlen:=L.len
  have hcount:ops.size - R.length≤left listed:=by
   unfold left
   rw [hsz]
   have: ∀ k,k≤ops.size→k - R.length≤((List.range k).countP fun i=> !(inS listed i)):=by
    intro k
    induction k with
    | zero=>intro _;simp
    | succ k ih=>
     intro hk
     rw [List.range_succ,List.countP_append,List.countP_singleton]
     have:=ih (by omega)
     by_cases q:R.length≤k
     · rw [hno k q];simp;omega
     omega
   exact this _ (Nat.le_refl _)
  exact any_rest L.back R.length hall (ops.size - R.length) R.length fuel listed a w (by omega) (Nat.le_refl _) (by omega) hsz (fun i=>by
   by_cases q:i<R.length
   · rw [hall' i q];simp [q]
   rw [hno i (by omega)];simp [q]) (hQ G a w h1 h2 h3)
 intro fuel
 induction fuel with
 | zero=>
  intro listed a w hsz hno hcl hl hI
  have hall': ∀ i,i<R.length→inS listed i=true:=fun i hi=>by
   cases hs:inS listed i with
   | true=>rfl
   | false=>have:=left_set (by have:=L.len;omega) hs;omega
  exact fin 0 listed a w hsz hno hl hall' hI
 | succ fuel ih=>
  intro listed a w hsz hno hcl hl hI
  by_cases hfin: ∀ i,i<R.length→inS listed i=true
  · exact fin _ listed a w hsz hno hl hfin hI
  refine ⟨fun hr=> ?_,fun i hi=> ?_⟩
  · exact absurd (fun i hi=>all_of_ready L.back hsz hr i (by have:=L.len;omega)) hfin
  obtain ⟨q1,oi,q2,q3⟩:=mem_ready.1 hi
  have hil:=(Array.getElem?_eq_some_iff.1 q2).1
  have hn:inS listed i=false:=by
   unfold inS
   simp [Array.getD_eq_getD_getElem?,hsz,hil] at q1 ⊢
   exact q1
  have hd:Due (inS listed) oi:=fun e he hb=>q3 e he hb
  have hir:i<R.length:=by
   rcases Nat.lt_or_ge i R.length with q | q
   · exact q
   exact absurd (fun k hk=>hall i oi q q2 (inS listed) hcl hd k (by omega)) hfin
  obtain ⟨G,B,hI⟩:=hI
  refine wpOp_mono (fun a' w' hI'=> ?_) (L.go hcl q2 hir hn hd hsd hI Q)
  refine ih _ a' w' (by simpa using hsz) (fun k hk=> ?_) ?_ (by have:=left_set (by omega) hn;omega) (by rw [inS_set (by omega)];exact hI')
  · rw [inS_set (by omega)]
    simp only [addD,hno k hk,Bool.or_false,decide_eq_false_iff_not]
    omega
  rw [inS_set (by omega)]
  intro j o ho hs e he hb
  simp only [addD,Bool.or_eq_true,decide_eq_true_eq] at hs ⊢
  rcases hs with rfl | hs
  · rw [q2] at ho;cases ho;exact .inr (hd e he hb)
  exact .inr (hcl j o ho hs e he hb)
def QM:List Nat→Nat→Nat→Bool
 | [],_,_=>true
 | a::l,i,m=>(bif Nat.ble m i then (List.range i).all (fun k=>Nat.testBit a k) else true)&&QM l (Nat.succ i) m
theorem restB_ok: ∀ {l:List Nat} {i m:Nat},QM l i m=true→ ∀ (k a:Nat),l[k]?=some a→m≤i+k→ ∀ j,j<i+k→Nat.testBit a j=true
 | [],i,m,_,k,a,h=>by simp at h
 | b::l,i,m,h,k,a,hk=>by
   simp only [QM,Bool.and_eq_true] at h
   intro hm j hj
   cases k with
   | zero=>
     simp at hk
     subst hk
     have:Nat.ble m i=true:=by rw [Nat.ble_eq];omega
     rw [this,cond_true,List.all_eq_true] at h
     exact h.1 j (by simp;omega)
   | succ k=>
     simp at hk
     exact restB_ok h.2 k a hk (by omega) j (by omega)
def runDp (P:Program) (n m:Nat) (ops:Array Oper) (fr:Fr) (bs:List Zp) (rs:List Orc):Option (Fr × List Zp × List Orc × List Qb):=
 match evD P n ops (ops.toList.take m) fr bs rs with
 | none=>none
 | some (R,fr',bs',rs')=>bif Nat.beq R.length m&&(backB ops.toList 0&&(allPairsR ops 0 (R.zip (ancL ops.toList []))&&QM (ancL ops.toList []) 0 m)) then some (fr',bs',rs',sdsOf R) else none
theorem runDp_ok {n id m:Nat} {ops:Array Oper} {fr fr':Fr} {bs bs':List Zp} {rs rs':List Orc} {sd:List Qb} (hm:P.follows .mixedOrders=true) (h:runDp P n m ops fr bs rs=some (fr',bs',rs',sd)) {G:Env} {a:Act} {w:World} (hst:St N W n fr bs G a w) (hs: ∀ s ∈ sd,s.ok P N W) {Q:Exit→Act→World→Prop}
 (hq: ∀ G' a' w',St N W n fr' bs' G' a' w'→bs.length≤bs'.length→(∀ i,i<bs.length→same G' G i)→wpList P ops Q (dropN m ops.toList) a' w'):(Code.region id ops true).wp P Q a w:=by
 have hf:=hst.cl
 unfold runDp at h
 split at h
 · cases h
 rename_i R fr1 bs1 rs1 hev
 cases hb:(Nat.beq R.length m&&(backB ops.toList 0&&(allPairsR ops 0 (R.zip (ancL ops.toList []))&&QM (ancL ops.toList []) 0 m))) with
 | false=>rw [hb,cond_false] at h;cases h
 | true=>
  rw [hb,cond_true] at h
  cases h
  simp only [Bool.and_eq_true,Nat.beq_eq] at hb
  obtain ⟨hbm,hb1,hb2,hb3⟩:=hb
  have hI0:InvL fr bs [] fr bs:=⟨fun s v hs=>.inr ⟨hs,fun j y _ hj=>by simp at hj⟩,fun i cs hi=>.inr ⟨hi,fun j y _ hj=>by simp at hj⟩,fun i cs hi=>ZE (fun j hj=>by rw [← lb_some];exact hj) cs (hst.rp.cl i cs hi),hf,Nat.le_refl _,fun y hy=>(by cases hy),fun i h1 h2=>(by omega)⟩
  obtain ⟨k1,k2,k3⟩:=evD_lex _ [] _ _ _ _ _ _ _ hI0 hev
  simp only [List.nil_append] at k1 k3
  have hlen:R.length≤ops.size:=by rw [k2];simp;omega
  obtain ⟨r,hr1,hr2⟩:=ancL_append ops.toList []
  simp only [List.nil_append] at hr1
  have hop: ∀ (k:Nat) (x:Rc),R[k]?=some x→ops[k]?=some x.o:=fun k x hx=>by
   have:=(k3 k x hx).1
   have hk:k<m:=by rw [← hbm];exact (List.getElem?_eq_some_iff.1 hx).1
   rw [List.getElem?_take_of_lt hk] at this
   simpa using this
  have anc: ∀ (j:Nat) (o:Oper),ops[j]?=some o→ ∀ S:Nat→Bool,Closed ops S→(S j=true∨Due S o)→ ∃ a,(ancL ops.toList [])[j]?=some a∧ ∀ i,Nat.testBit a i=true→S i=true:=fun j o ho S hS hd=>by
   have hj:j<(ancL ops.toList []).length:=by
    rw [hr1,hr2];have:=(Array.getElem?_eq_some_iff.1 ho).1;simp;omega
   exact ⟨_,List.getElem?_eq_getElem hj,ancL_ok hS ops.toList [] (fun j=>by simp) (fun j a hj=>by simp at hj) (fun j hj=>by simp at hj) j _ o (List.getElem?_eq_getElem hj) ho hd⟩
  have hback: ∀ (i:Nat) (o:Oper),ops[i]?=some o→ ∀ e ∈ o.after,Region.binds .any e=true→e.on<i:=fun i o ho e he hb=>by
   have:=backB_ok hb1 i o (by simpa using ho) e he hb
   omega
  have hLex:LexR P n ops fr bs R:=by
   refine ⟨hlen,hop,fun k x hx=>(k3 k x hx).2,hback,fun i j x y hij hx hy=> ?_,hf⟩
   have hi:i<(ancL ops.toList []).length:=by
    rw [hr1,hr2];have:=(List.getElem?_eq_some_iff.1 hx).1;simp;omega
   have hj:j<(ancL ops.toList []).length:=by
    rw [hr1,hr2];have:=(List.getElem?_eq_some_iff.1 hy).1;simp;omega
   have zi:(R.zip (ancL ops.toList []))[i]?=some (x,(ancL ops.toList [])[i]):=by
    rw [List.getElem?_zip_eq_some];exact ⟨hx,List.getElem?_eq_getElem hi⟩
   have zj:(R.zip (ancL ops.toList []))[j]?=some (y,(ancL ops.toList [])[j]):=by
    rw [List.getElem?_zip_eq_some];exact ⟨hy,List.getElem?_eq_getElem hj⟩
   rcases allPairsR_ok hb2 i j x _ y _ hij zi zj with q | q
   · rw [Nat.zero_add] at q
     refine .inl fun S hS hd=> ?_
     obtain ⟨a,h1,h2⟩:=anc j y.o (hop j y hy) S hS hd
     rw [List.getElem?_eq_getElem hj] at h1
     cases h1
     exact h2 i q
   exact .inr q
  refine wp_region_any hm ?_
  have he:=hst.env
  have hr:=hst.rp
  have hfalse: ∀ i,inS (Array.replicate ops.size false) i=false:=fun i=>by
   unfold inS
   rcases Nat.lt_or_ge i ops.size with q | q <;> simp [Array.getD_eq_getD_getElem?,q]
  have drew:Rp N W G bs { w with drawn:=w.drawn+1 }:=by
   have hbw:Below w.heap.size w { w with drawn:=w.drawn+1 }:=⟨rfl,rfl,rfl,Nat.le_refl _,fun _ _=>rfl⟩
   exact hr.call hbw
  refine hLex.any k1 hs (G0:=G) (fun i o hi ho S hS hd k hk=> ?_) (fun G' a' w' h1 h2 h3=>by rw [hbm];exact hq G' a' w' ⟨h1,h2,k1.cl⟩ k1.len h3) ops.size _ a _ (by simp) (fun i _=>hfalse i) (fun j o _ hs=>by rw [hfalse] at hs;cases hs) ?_ ⟨G,lb bs,he.defers,he.size,drew,fun i cs h=> ?_,fun i cs h=>.inl (lb_lt h),fun i h=> ?_,fun s v h hB=> ?_,fun _ _=>⟨rfl,rfl⟩⟩
  · obtain ⟨a,h1,h2⟩:=anc i o ho S hS (.inr hd)
    exact h2 k (restB_ok hb3 i a h1 (by omega) k (by omega))
  · unfold left
    refine Nat.le_trans (List.countP_le_length ..) ?_
    simp
  · rcases h with ⟨j,y,h1,_⟩ | ⟨h1,_⟩
    · simp only [Dn,hfalse] at h1;cases h1
    exact h1
  · rcases h with h | ⟨j,y,h1,_⟩
    · rw [lb_some,Nat.blt_eq];exact h
    rw [hfalse] at h1;cases h1
  rcases h with ⟨j,y,h1,_⟩ | ⟨h1,_⟩
  · simp only [Dn,hfalse] at h1;cases h1
  exact he.get s v h1
end
def QU (P:Program) (N:Nat) (W:World):List Qb→Prop
 | []=>True
 | s::l=>s.ok P N W∧QU P N W l
theorem allOk_mem {P:Program} {N:Nat} {W:World}: ∀ {l:List Qb},QU P N W l→ ∀ s ∈ l,s.ok P N W
 | [],_,s,h=>by cases h
 | x::l,⟨h1,h2⟩,s,h=>by
   rcases List.mem_cons.1 h with rfl | h
   · exact h1
   · exact allOk_mem h2 s h
def Zk {P:Program} {N:Nat} {W:World}:QU P N W []:=trivial
def okC {P:Program} {N:Nat} {W:World} {s:Qb} {l:List Qb} (h:s.ok P N W) (k:QU P N W l):QU P N W (s::l):=⟨h,k⟩
section
variable {P:Program} {N:Nat} {W:World}
theorem Qb.of {f : FuncId} {args : List Value} {r : Value} {fn : Func} {c : Code} (hf : P.funcs[f]? = some fn) (hb : fn.body = some c) (hn : (fn.name == "runtime.NumGoroutine") = false) (h : ∀ w, Below N W w → Calls P f args.toArray w fun e w' => e = .returned r ∧ Below w.heap.size w w') : Qb.ok P N W (.call f args r) :=
 ⟨⟨fn,c,hf,hb,hn⟩,h⟩
theorem JL (o:BinOp) (t:TypeId) (ox oy:Operand) (k k':IntKind) (a b:Int) (w:World):(eqGuard o t ox oy (.int k a) (.int k' b)).run P w= .ok () w:=by
 unfold eqGuard;split <;> rfl
theorem eqg_str (o:BinOp) (t:TypeId) (ox oy:Operand) (a b:ByteArray) (w:World):(eqGuard o t ox oy (.string a) (.string b)).run P w= .ok () w:=by
 unfold eqGuard;split <;> rfl
theorem eqg_bool (o:BinOp) (t:TypeId) (ox oy:Operand) (a b:Bool) (w:World):(eqGuard o t ox oy (.bool a) (.bool b)).run P w= .ok () w:=by
 unfold eqGuard;split <;> rfl
theorem Qb.intEq {t:TypeId} {k:IntKind} {a b:Int} {z:Bool} (h:(a==b)=z):Qb.ok P N W (.bin .eql t (.int k a) (.int k b) (.bool z)):=fun ox oy w=>by
 rw [Sem.run_bind,JL];simp [binOp,Op.intCmp,h]
theorem Qb.intNe {t:TypeId} {k:IntKind} {a b:Int} {z:Bool} (h:(a != b)=z):Qb.ok P N W (.bin .neq t (.int k a) (.int k b) (.bool z)):=fun ox oy w=>by
 rw [Sem.run_bind,JL];simp [binOp,Op.intCmp,h]
theorem Qb.intLt {t:TypeId} {k:IntKind} {a b:Int} {z:Bool} (h:decide (a<b)=z):Qb.ok P N W (.bin .lss t (.int k a) (.int k b) (.bool z)):=fun ox oy w=>by
 rw [Sem.run_bind,JL];simp [binOp,Op.intCmp,h]
theorem Qb.intLe {t:TypeId} {k:IntKind} {a b:Int} {z:Bool} (h:decide (a≤b)=z):Qb.ok P N W (.bin .leq t (.int k a) (.int k b) (.bool z)):=fun ox oy w=>by
 rw [Sem.run_bind,JL];simp [binOp,Op.intCmp,h]
theorem Qb.intGt {t:TypeId} {k:IntKind} {a b:Int} {z:Bool} (h:decide (b<a)=z):Qb.ok P N W (.bin .gtr t (.int k a) (.int k b) (.bool z)):=fun ox oy w=>by
 rw [Sem.run_bind,JL];simp [binOp,Op.intCmp, ← h]
theorem Qb.intGe {t:TypeId} {k:IntKind} {a b:Int} {z:Bool} (h:decide (b≤a)=z):Qb.ok P N W (.bin .geq t (.int k a) (.int k b) (.bool z)):=fun ox oy w=>by
 rw [Sem.run_bind,JL];simp [binOp,Op.intCmp, ← h]
theorem Qb.strEq {t:TypeId} {a b:ByteArray} {z:Bool} (h:(a.toList==b.toList)=z):Qb.ok P N W (.bin .eql t (.string a) (.string b) (.bool z)):=fun ox oy w=>by
 rw [Sem.run_bind,eqg_str];simp [binOp,Op.stringOp,h]
theorem Qb.strNe {t:TypeId} {a b:ByteArray} {z:Bool} (h:(!(a.toList==b.toList))=z):Qb.ok P N W (.bin .neq t (.string a) (.string b) (.bool z)):=fun ox oy w=>by
 rw [Sem.run_bind,eqg_str];simp [binOp,Op.stringOp, ← h]
end
inductive K where
 | c (x:Code)
 | l (id j:Nat) (ops:Array Oper) (r:List Oper)
 | b (id:Nat)
 | s
def ZZ (P:Program) (Q:Exit→Act→World→Prop):List K→Exit→Act→World→Prop
 | []=>Q
 | .c x::k=>Exit.then (x.wp P (ZZ P Q k)) (ZZ P Q k)
 | .l _ _ ops r::k=>Exit.then (wpList P ops (ZZ P Q k) r) (ZZ P Q k)
 | .b id::k=>Exit.inBlock id (ZZ P Q k)
 | .s::k=>Exit.noGoto (ZZ P Q k)
inductive Tg where
 | fin
 | op (id j:Nat)
 | loop (id:Nat)
 | draw (id:Nat)
 | out (id:Nat)
def stopB:Tg→List K→Bool
 | .op id j,.l id' j' _ _::_=>Nat.beq id id'&&Nat.beq j j'
 | .loop id,.c (.loop _):: .b id'::_=>Nat.beq id id'
 | .draw id,.c (.region id' _ true)::_=>Nat.beq id id'
 | _,_=>false
def find (t:Tg):Code→List K→Option (List K)
 | .seq a b,k=>(match find t a (.c b::k) with
   | some r=>some r
   | none=>find t b k)
 | .cond _ a b,k=>(match find t a k with
   | some r=>some r
   | none=>find t b k)
 | .block id x,k=>(match t with
   | .out i=>bif Nat.beq i id then some k else find t x (.b id::k)
   | _=>find t x (.b id::k))
 | .scope x,k=>find t x (.s::k)
 | .loop b,k=>(match t,k with
   | .loop i,.b id::k=>bif Nat.beq i id then some (.c (.loop b):: .b id::k) else none
   | _,_=>none)
 | .region id ops d,k=>(match t,d with
   | .op i j,_=>bif Nat.beq i id then some (.l id j ops (dropN j ops.toList)::k) else none
   | .draw i,true=>bif Nat.beq i id then some (.c (.region id ops true)::k) else none
   | _,_=>none)
 | _,_=>none
def Qc (c:Code) (t:Tg):List K:=match find t c [] with
 | some k=>k
 | none=>[]
def Qn (c:Code) (id:Nat):Code:=match Qc c (.loop id) with
 | .c (.loop b)::_=>b
 | _=>.skip
inductive Ex where
 | nrm
 | ex (i:Nat)
 | ret
def Ex.conc:Ex→Exit
 | .nrm=>.normal
 | .ex i=>.exit i
 | .ret=>.ret
def unw (i:Nat):List K→Option (List K)
 | []=>none
 | .b j::k=>bif Nat.beq i j then some k else unw i k
 | _::k=>unw i k
abbrev RunR:=Ex × List K × Fr × List Zp × List Orc × List Qb
def addS (sd:List Qb):Option RunR→Option RunR
 | some (e,k,fr,bs,rs,sd')=>some (e,k,fr,bs,rs,sd++sd')
 | none=>none
def upTo (t:Tg) (id n:Nat):Nat:=match t with
 | .op i j=>bif Nat.beq i id then j else n
 | _=>n
def run (P:Program) (n:Nat) (t:Tg):Nat→List K→Fr→List Zp→List Orc→Option RunR
 | 0,_,_,_,_=>none
 | f+1,k,fr,bs,rs=>bif stopB t k then some (.nrm,k,fr,bs,rs,[]) else match k with
   | []=>some (.nrm,[],fr,bs,rs,[])
   | .b _::k=>run P n t f k fr bs rs
   | .s::k=>run P n t f k fr bs rs
   | .l id j ops r::k=>(match r with
     | []=>run P n t f k fr bs rs
     | o::r=>(match wantR ops o fr with
       | none=>none
       | some false=>(match put n fr o.dst (.v undef) with
         | some fr'=>run P n t f (.l id (Nat.succ j) ops r::k) fr' bs rs
         | none=>none)
       | some true=>(match step P bs.length o.op fr (lb bs) rs with
         | none=>none
         | some (v,ef,rs',sd)=>(match put n fr o.dst v with
           | none=>none
           | some fr'=>addS sd (run P n t f (.l id (Nat.succ j) ops r::k) fr' (ef.bs bs) rs')))))
   | .c x::k=>(match x with
     | .skip=>run P n t f k fr bs rs
     | .label _=>run P n t f k fr bs rs
     | .region id ops d=>bif d then (bif P.follows .mixedOrders then (match runDp P n (upTo t id ops.size) ops fr bs rs with
        | some (fr',bs',rs',sd)=>addS sd (run P n t f (.l id (upTo t id ops.size) ops (dropN (upTo t id ops.size) ops.toList)::k) fr' bs' rs')
        | none=>none) else none) else run P n t f (.l id 0 ops ops.toList::k) fr bs rs
     | .seq a b=>run P n t f (.c a:: .c b::k) fr bs rs
     | .cond c a b=>(match ev fr c with
       | some (.v (.bool z))=>run P n t f (.c (bif z then a else b)::k) fr bs rs
       | _=>none)
     | .block id x=>run P n t f (.c x:: .b id::k) fr bs rs
     | .scope x=>run P n t f (.c x:: .s::k) fr bs rs
     | .exit i=>(match unw i k with
       | some k'=>run P n t f k' fr bs rs
       | none=>some (.ex i,[],fr,bs,rs,[]))
     | .ret=>some (.ret,[],fr,bs,rs,[])
     | _=>none)
section
variable {P:Program} {Q:Exit→Act→World→Prop}
theorem wpX_ret {a:Act} {w:World} (h:Q .ret a w): ∀ k:List K,ZZ P Q k .ret a w
 | []=>h
 | .c _::k=>wpX_ret h k
 | .l _ _ _ _::k=>wpX_ret h k
 | .b _::k=>wpX_ret h k
 | .s::k=>wpX_ret h k
theorem wpX_exit {a:Act} {w:World} {i:Nat}: ∀ k:List K,(∀ k',unw i k=some k'→ZZ P Q k' .normal a w)→(unw i k=none→Q (.exit i) a w)→ZZ P Q k (.exit i) a w
 | [],_,h=>h rfl
 | .c _::k,h1,h2=>wpX_exit k h1 h2
 | .l _ _ _ _::k,h1,h2=>wpX_exit k h1 h2
 | .s::k,h1,h2=>wpX_exit k h1 h2
 | .b j::k,h1,h2=>by
   simp only [ZZ,Exit.inBlock]
   by_cases e:i=j
   · subst e
     rw [if_pos rfl]
     exact h1 k (by simp [unw])
   · rw [if_neg e]
     have hb:Nat.beq i j=false:=by rw [← Bool.not_eq_true,Nat.beq_eq];exact e
     refine wpX_exit k (fun k' hk=>h1 k' ?_) (fun hk=>h2 ?_) <;> simp only [unw,hb,cond_false,hk]
theorem addS_some {sd:List Qb} {r:Option RunR} {e:Ex} {k:List K} {fr:Fr} {bs:List Zp} {rs:List Orc} {sd':List Qb} (h:addS sd r=some (e,k,fr,bs,rs,sd')): ∃ s2,r=some (e,k,fr,bs,rs,s2)∧sd'=sd++s2:=by
 unfold addS at h
 split at h
 · cases h;exact ⟨_,rfl,rfl⟩
 cases h
variable {N:Nat} {W:World}
theorem St.put {n:Nat} {fr fr':Fr} {bs:List Zp} {G:Env} {a:Act} {w:World} (h:St N W n fr bs G a w) {d:Option Tmp} {v:RV} (hv:v.lt bs.length=true) (hp:put n fr d v=some fr'):St N W n fr' bs G (a.put d (v.conc G)) w:=
 ⟨h.env.put hp,h.rp,okF_put h.cl hv hp⟩
theorem St.step {n:Nat} {o:Oper} {fr fr':Fr} {bs:List Zp} {rs:List Orc} {v:RV} {ef:Eff} {rs':List Orc} {sd:List Qb} {G:Env} {a:Act} {w:World} (h:St N W n fr bs G a w) (hs:RC.step P bs.length o.op fr (lb bs) rs=some (v,ef,rs',sd)) (hsd: ∀ s ∈ sd,s.ok P N W) (hp:RC.put n fr o.dst v=some fr') {next:Act→World→Prop} {Q:Exit→Act→World→Prop}
 (hn: ∀ G' w',St N W n fr' (ef.bs bs) G' (a.put o.dst (v.conc G')) w'→bs.length≤(ef.bs bs).length→(∀ i,i<bs.length→same G' G i)→next (a.put o.dst (v.conc G')) w'):o.wp P a w next Q:=by
 have hok:=step_ok (N:=N) (W:=W) (n:=n) hs
 have hle:bs.length≤(ef.bs bs).length:=by rw [bs_len];cases ef <;> simp [Eff.len]
 have hup:=lb_upd bs ef (fun i cs e=>let ⟨c0,hc⟩:=hok.st i cs e; ⟨_,hc⟩)
 have hh: ∀ s v,get fr s=some v→hasB (lb bs) v:=fun s v hv=>all_mono (fun i hi=>by rw [lb_some];exact hi) v (okF_get h.cl hv)
 refine hok.wp G a w h.env hh h.rp (fun _=>List.getElem?_eq_none (Nat.le_refl _)) hsd _ _ fun G' w' hr hg=> ?_
 have hg': ∀ i,i<bs.length→same G' G i:=fun i hi=>hg i (.inr (by omega))
 simp only [hup] at hr
 have hvl:v.lt (ef.bs bs).length=true:=by
  rw [bs_len]
  refine (hok.cl (fun j=>Nat.blt j (ef.len bs.length)) (fun s v hv=>lt_mono (by cases ef <;> simp [Eff.len]) (okF_get h.cl hv)) (fun i cs hi=>ZE (fun j hj=> ?_) cs (h.rp.cl i cs hi)) (fun hal=> ?_)).1
  · rw [lb_some,Nat.blt_eq] at hj
    rw [Nat.blt_eq]
    cases ef <;> simp [Eff.len] <;> omega
  cases ef <;> first | (simp [Eff.len,Nat.blt_eq];done) | cases hal
 exact hn G' w' ⟨(h.env.congr hg' h.cl).put hp,hr,okF_put (okF_mono hle h.cl) hvl hp⟩ hle hg'
theorem Kx {n:Nat} {t:Tg}: ∀ (f:Nat) {k k':List K} {fr fr':Fr} {bs bs':List Zp} {rs rs':List Orc} {sd:List Qb} {e:Ex},run P n t f k fr bs rs=some (e,k',fr',bs',rs',sd) →
 ∀ G a w,St N W n fr bs G a w→(∀ s ∈ sd,s.ok P N W)→(∀ G' a' w',St N W n fr' bs' G' a' w'→bs.length≤bs'.length→(∀ i,i<bs.length→same G' G i)→ZZ P Q k' e.conc a' w')→ZZ P Q k .normal a w
 | 0,k,k',fr,fr',bs,bs',rs,rs',sd,e,h=>by cases h
 | f+1,k,k',fr,fr',bs,bs',rs,rs',sd,e,h=>by
   intro G a w hst hsd hq
   unfold run at h
   cases hs:stopB t k with
   | true=>
     rw [hs,cond_true] at h
     cases h
     exact hq G a w hst (Nat.le_refl _) fun _ _=>⟨rfl,rfl⟩
   | false=>
     rw [hs,cond_false] at h
     split at h
     · cases h
       exact hq G a w hst (Nat.le_refl _) fun _ _=>⟨rfl,rfl⟩
     · exact Kx f h G a w hst hsd hq
     · exact Kx f h G a w hst hsd hq
     · rename_i id j ops r k
       split at h
       · exact Kx f h G a w hst hsd hq
       · rename_i o r
         split at h
         · cases h
         · rename_i hw
           split at h
           case h_2=>cases h
           rename_i fr1 hp
           show wpList P ops (ZZ P Q k) (o::r) a w
           unfold wpList
           rw [wantR_ok hst.env hw,if_neg (by simp)]
           exact Kx f h G _ w (hst.put rfl hp) hsd hq
         · rename_i hw
           split at h
           case h_1=>cases h
           rename_i v ef rs1 sd1 hstep
           split at h
           case h_1=>cases h
           rename_i fr1 hp
           obtain ⟨s2,hrun,rfl⟩:=addS_some h
           show wpList P ops (ZZ P Q k) (o::r) a w
           unfold wpList
           rw [wantR_ok hst.env hw,if_pos rfl]
           refine .inl (hst.step hstep (fun s hm=>hsd s (List.mem_append.2 (.inl hm))) hp fun G1 w1 hst1 hle1 hg1=> ?_)
           exact Kx f hrun G1 _ w1 hst1 (fun s hm=>hsd s (List.mem_append.2 (.inr hm))) fun G2 a2 w2 hst2 hle2 hg2=>hq G2 a2 w2 hst2 (Nat.le_trans hle1 hle2) fun i hi=>⟨(hg2 i (Nat.lt_of_lt_of_le hi hle1)).1.trans (hg1 i hi).1,(hg2 i (Nat.lt_of_lt_of_le hi hle1)).2.trans (hg1 i hi).2⟩
     · rename_i x k
       split at h
       · exact wp_skip (Kx f h G a w hst hsd hq)
       · exact wp_label (Kx f h G a w hst hsd hq)
       · rename_i id ops d
         cases d with
         | true=>
           rw [cond_true] at h
           cases hm:P.follows .mixedOrders with
           | false=>rw [hm,cond_false] at h;cases h
           | true=>
             rw [hm,cond_true] at h
             split at h
             case h_2=>cases h
             rename_i fr1 bs1 rs1 sd1 hD
             obtain ⟨s2,hrun,rfl⟩:=addS_some h
             refine runDp_ok (id:=id) hm hD hst (fun s hm=>hsd s (List.mem_append.2 (.inl hm))) fun G1 a1 w1 hst1 hle1 hg1=> ?_
             exact Kx f hrun G1 a1 w1 hst1 (fun s hm=>hsd s (List.mem_append.2 (.inr hm))) fun G2 a2 w2 hst2 hle2 hg2=>hq G2 a2 w2 hst2 (Nat.le_trans hle1 hle2) fun i hi=>⟨(hg2 i (Nat.lt_of_lt_of_le hi hle1)).1.trans (hg1 i hi).1,(hg2 i (Nat.lt_of_lt_of_le hi hle1)).2.trans (hg1 i hi).2⟩
         | false=>
           rw [cond_false] at h
           exact wp_region_list (Kx f h G a w hst hsd hq)
       · exact wp_seq (Kx f h G a w hst hsd hq)
       · rename_i c x y
         split at h
         case h_2=>cases h
         rename_i z hc
         have:=Kx f h G a w hst hsd hq
         have hz:a.eval c= .bool z:=hst.env.eval hc
         cases z
         · exact wp_cond_false hz this
         · exact wp_cond_true hz this
       · exact wp_block (Kx f h G a w hst hsd hq)
       · exact wp_scope_straight (Kx f h G a w hst hsd hq)
       · rename_i i
         split at h
         · rename_i k2 hu
           exact wp_exit (wpX_exit k (fun k3 hk=>by rw [hu] at hk;cases hk;exact Kx f h G a w hst hsd hq) (fun hk=>by rw [hu] at hk;cases hk))
         · rename_i hu
           cases h
           exact wp_exit (wpX_exit k (fun k3 hk=>by rw [hu] at hk;cases hk) (fun _=>hq G a w hst (Nat.le_refl _) fun _ _=>⟨rfl,rfl⟩))
       · cases h
         exact wp_ret (wpX_ret (hq G a w hst (Nat.le_refl _) fun _ _=>⟨rfl,rfl⟩) k)
       · cases h
def runV (P:Program) (n:Nat) (t:Tg) (k:List K) (fr:Fr) (bs:List Zp) (rs:List Orc) (slots:List Nat):Option (Ex × List K × List (Option RV) × List Zp × List Qb):=
 match run P n t 4000 k fr bs rs with
 | some (e,k',fr',bs',_,sd)=>some (e,k',slots.map (get fr'),bs',sd)
 | none=>none
theorem get_of_look: ∀ {lv:Fr} {fr:Fr},(lv.map (·.1)).map (get fr)=lv.map (fun x=>some x.2)→ ∀ s v,(s,v) ∈ lv→get fr s=some v
 | [],fr,_,s,v,h=>by cases h
 | (d,x)::lv,fr,h,s,v,hm=>by
   simp only [List.map_cons,List.cons.injEq] at h
   rcases List.mem_cons.1 hm with e | hm
   · cases e;exact h.1
   · exact get_of_look h.2 s v hm
theorem St.less {n:Nat} {fr fr':Fr} {bs:List Zp} {G:Env} {a:Act} {w:World} (h:St N W n fr bs G a w) (hl:(fr'.map (·.1)).map (get fr)=fr'.map (fun x=>some x.2)):St N W n fr' bs G a w:=
 ⟨⟨h.env.defers,h.env.size,fun s v hs=>h.env.get s v (get_of_look hl s v (get_mem hs))⟩,h.rp,by
   simp only [okF,List.all_eq_true]
   rintro ⟨s,v⟩ hm
   exact okF_get h.cl (get_of_look hl s v hm)⟩
theorem seg {n:Nat} (t:Tg) {k k':List K} {fr:Fr} (lv:Fr) {bs:List Zp} (bs':List Zp) (rs:List Orc) {sd:List Qb} {e:Ex} {G:Env} {a:Act} {w:World} (hst:St N W n fr bs G a w)
 (h:runV P n t k fr bs rs (lv.map (·.1))=some (e,k',lv.map (fun x=>some x.2),bs',sd)) (hs:QU P N W sd)
 (hq: ∀ G' a' w',St N W n lv bs' G' a' w'→(∀ i,i<bs.length→same G' G i)→ZZ P Q k' e.conc a' w'):ZZ P Q k .normal a w:=by
 unfold runV at h
 split at h
 case h_2=>cases h
 rename_i e1 k1 fr1 bs1 rs1 sd1 hr
 simp only [Option.some.injEq,Prod.mk.injEq] at h
 obtain ⟨rfl,rfl,hl,rfl,rfl⟩:=h
 refine Kx (N:=N) (W:=W) (Q:=Q) 4000 hr G a w hst (allOk_mem hs) fun G' a' w' hst' _ hg=>hq G' a' w' (hst'.less hl) hg
end
def argsFr (i:Nat):List Value→Fr
 | []=>[]
 | v::l=>(i,.v v)::argsFr (i+1) l
theorem argsFr_get: ∀ {l:List Value} {i s:Nat} {v:RV},get (argsFr i l) s=some v→ ∃ x,v= .v x∧i≤s∧l[s - i]?=some x
 | [],i,s,v,h=>by cases h
 | y::l,i,s,v,h=>by
   unfold argsFr get at h
   cases e:Nat.beq i s with
   | true=>
     rw [e,cond_true] at h
     rw [Nat.beq_eq] at e
     cases h
     subst e
     exact ⟨y,rfl,Nat.le_refl _,by simp⟩
   | false=>
     rw [e,cond_false] at h
     obtain ⟨x,h1,h2,h3⟩:=argsFr_get h
     refine ⟨x,h1,by omega,?_⟩
     rw [show s - i=(s - (i+1))+1 by omega]
     simpa using h3
theorem argsFr_ok (b:Nat): ∀ (l:List Value) (i:Nat),okF b (argsFr i l)=true
 | [],_=>rfl
 | v::l,i=>by
   simp only [argsFr,okF,List.all_cons,RV.lt,Bool.true_and]
   exact argsFr_ok b l (i+1)
def env0:Env:=⟨fun _=>0,fun _=>[]⟩
theorem Rp.start (W:World):Rp W.heap.size W env0 [] W:=⟨Below.refl _ _,fun i cs h=>(by simp [lb] at h),fun i cs h=>(by simp [lb] at h),fun i m po h=>(by simp [lb] at h),fun i j ci cj h=>(by simp [lb] at h),Nat.le_refl _⟩
def resV (P:Program) (fr:Fr) (bs:List Zp):List ResultVar→Option (List RV)
 | []=>some []
 | .tmp t::l=>(match get fr t with
   | some x=>(match resV P fr bs l with
     | some r=>some (x::r)
     | none=>none)
   | _=>none)
 | .cell p t::l=>(match get fr p with
   | some (.p i o)=>(match bs[i]? with
     | some (.box cs)=>(match loadC P t cs o with
       | some x=>(match resV P fr bs l with
         | some r=>some (x::r)
         | none=>none)
       | none=>none)
     | _=>none)
   | _=>none)
def resR:List Value→Value
 | [v]=>v
 | l=>.tuple l.toArray
section
variable {P:Program} {N:Nat} {W:World}
theorem resV_ok {n:Nat} {fr:Fr} {bs:List Zp} {G:Env} {a:Act} {w:World} (hst:St N W n fr bs G a w) {fn:Func} {vs:List RV} (h:resV P fr bs fn.results.toList=some vs):(results fn a.tmps).run P w= .ok (resR (Qu G vs)) w:=by
 have key: ∀ (l:List ResultVar) (vs:List RV),resV P fr bs l=some vs→(l.mapM (m:=Sem) (fun
  | .tmp t=>pure (a.tmps.getD t undef)
  | .cell p t=>do loadVar t (← asAddr (a.tmps.getD p undef)))).run P w= .ok (Qu G vs) w:=by
  intro l
  induction l with
  | nil=>intro vs h;cases h;rfl
  | cons x l ih=>
    intro vs h
    cases x with
    | cell p t=>
      unfold resV at h
      split at h
      case h_2=>cases h
      rename_i i o hx
      split at h
      case h_2=>cases h
      rename_i cs hcs
      replace hcs:lb bs i=some (.box cs):=hcs
      split at h
      case h_2=>cases h
      rename_i x hl
      split at h
      case h_2=>cases h
      rename_i r hr
      cases h
      have e1:a.tmps.getD p undef= .pointer (some ⟨G.g i,o,none⟩):=hst.env.eval (x:=.tmp p) hx
      have e2:=loadC_ok (P:=P) hl (hst.rp.sb i cs hcs).1
      simp only [Instr.loadAt,Instr.sureAddr,Sem.run_bind,Sem.run_pure,Result.andThen_ok] at e2
      have e3:(asAddr (.pointer (some ⟨G.g i,o,none⟩)):Sem Addr).run P w= .ok ⟨G.g i,o,none⟩ w:=rfl
      simp only [List.mapM_cons,Sem.run_bind,Sem.run_pure,Result.andThen_ok,e1,e3,e2,ih r hr,Qu]
    | tmp t=>
      unfold resV at h
      split at h
      case h_2=>cases h
      rename_i x hx
      split at h
      case h_2=>cases h
      rename_i r hr
      cases h
      have:a.tmps.getD t undef=x.conc G:=hst.env.eval (x:=.tmp t) hx
      simp only [List.mapM_cons,Sem.run_bind,Sem.run_pure,Result.andThen_ok,this,ih r hr,Qu]
 have:=key _ _ h
 unfold results
 rw [Array.mapM_eq_mapM_toList]
 simp only [map_eq_pure_bind,bind_assoc,Sem.run_bind,Sem.run_pure]
 refine (congrArg (fun r=>Result.andThen r _) this).trans ?_
 simp only [Result.andThen_ok]
 generalize Qu G vs=l
 rcases l with _ | ⟨x,_ | ⟨y,l⟩⟩ <;> simp [resR]
theorem Qj {f:FuncId} {fn:Func} {c:Code} {args:List Value} {R:Ending→World→Prop} (hf:P.funcs[f]?=some fn) (hb:fn.body=some c) (hn:Nat.ble args.length fn.ntmps=true)
 (h: ∀ a,St W.heap.size W fn.ntmps (argsFr 0 args) [] env0 a W→ZZ P (bodyPost P fn R) [.c c] .normal a W):Calls P f args.toArray W R:=by
 refine calls_of_wp hf hb ?_
 rw [Nat.ble_eq] at hn
 refine h _ ⟨⟨rfl,by simp;omega,fun s v hs=> ?_⟩,Rp.start W,argsFr_ok _ _ _⟩
 obtain ⟨x,rfl,_,h3⟩:=argsFr_get hs
 rw [Nat.sub_zero] at h3
 have:=(List.getElem?_eq_some_iff.1 h3).1
 rw [Array.getElem?_append_left (by simpa using this)]
 simpa [RV.conc] using h3
theorem QS {n:Nat} {fr:Fr} {bs:List Zp} {G:Env} {a:Act} {w:World} {fn:Func} {R:Ending→World→Prop} {vs:List RV} (hst:St N W n fr bs G a w) (h:resV P fr bs fn.results.toList=some vs) (hR:R (.returned (resR (Qu G vs))) w):bodyPost P fn R .ret a w:=
 bodyPost_ret (resV_ok hst h) hst.env.defers hR
def runE (P:Program) (n:Nat) (k:List K) (fr:Fr) (bs:List Zp) (rs:List Orc) (l:List ResultVar):Option (List RV × List Zp × List Qb):=
 match run P n .fin 4000 k fr bs rs with
 | some (.ret,[],fr',bs',_,sd)=>(match resV P fr' bs' l with
   | some vs=>some (vs,bs',sd)
   | none=>none)
 | some (.nrm,[],fr',bs',_,sd)=>(match resV P fr' bs' l with
   | some vs=>some (vs,bs',sd)
   | none=>none)
 | _=>none
def runE' (P:Program) (n:Nat) (k:List K) (fr:Fr) (bs:List Zp) (rs:List Orc) (l:List ResultVar):Option (List RV × List Qb):=
 match runE P n k fr bs rs l with
 | some (vs,_,sd)=>some (vs,sd)
 | none=>none
theorem finB {n:Nat} {k:List K} {fr:Fr} {bs bs':List Zp} (rs:List Orc) {sd:List Qb} {vs:List RV} {G:Env} {a:Act} {w:World} {fn:Func} {R:Ending→World→Prop} (hst:St N W n fr bs G a w)
 (h:runE P n k fr bs rs fn.results.toList=some (vs,bs',sd)) (hs:QU P N W sd) (hR: ∀ G' w',Rp N W G' bs' w'→(∀ i,i<bs.length→same G' G i)→R (.returned (resR (Qu G' vs))) w'):ZZ P (bodyPost P fn R) k .normal a w:=by
 unfold runE at h
 split at h
 · rename_i fr1 bs1 rs1 sd1 hr
   split at h
   case h_2=>cases h
   rename_i vs1 hv
   cases h
   exact Kx (P:=P) (N:=N) (W:=W) (Q:=bodyPost P fn R) 4000 hr G a w hst (allOk_mem hs) fun G' a' w' hst' _ hg=>QS hst' hv (hR G' w' hst'.rp hg)
 · rename_i fr1 bs1 rs1 sd1 hr
   split at h
   case h_2=>cases h
   rename_i vs1 hv
   cases h
   exact Kx (P:=P) (N:=N) (W:=W) (Q:=bodyPost P fn R) 4000 hr G a w hst (allOk_mem hs) fun G' a' w' hst' _ hg=>bodyPost_end (resV_ok hst' hv) hst'.env.defers (hR G' w' hst'.rp hg)
 cases h
theorem fin {n:Nat} {k:List K} {fr:Fr} {bs:List Zp} (rs:List Orc) {sd:List Qb} {vs:List Value} {G:Env} {a:Act} {w:World} {fn:Func} {R:Ending→World→Prop} (hst:St N W n fr bs G a w)
 (h:runE' P n k fr bs rs fn.results.toList=some (vs.map .v,sd)) (hs:QU P N W sd) (hR: ∀ w',Below N W w'→R (.returned (resR vs)) w'):ZZ P (bodyPost P fn R) k .normal a w:=by
 unfold runE' at h
 split at h
 case h_2=>cases h
 rename_i vs1 bs1 sd1 hr
 simp only [Option.some.injEq,Prod.mk.injEq] at h
 obtain ⟨rfl,rfl⟩:=h
 exact finB rs hst hr hs fun G' w' hr' _=>by rw [concL_v];exact hR w' hr'.below
variable {Q:Exit→Act→World→Prop}
def opAt (k:List K) (fr:Fr):Option (Oper × List K):=match k with
 | .l id j ops (o::r)::k=>(match wantR ops o fr with
   | some true=>some (o,.l id (Nat.succ j) ops r::k)
   | _=>none)
 | _=>none
theorem at_op {n:Nat} {k k':List K} {fr:Fr} {bs:List Zp} {G:Env} {a:Act} {w:World} {o:Oper} (hst:St N W n fr bs G a w) (h:opAt k fr=some (o,k')) (hw: ∀ Q',o.wp P a w (fun a' w'=>ZZ P Q k' .normal a' w') Q'):ZZ P Q k .normal a w:=by
 unfold opAt at h
 split at h
 case h_2=>cases h
 rename_i id j ops o1 r k1
 split at h
 case h_2=>cases h
 rename_i hwt
 cases h
 show wpList P ops (ZZ P Q k1) (o::r) a w
 unfold wpList
 rw [wantR_ok hst.env hwt,if_pos rfl]
 exact .inl (hw _)
theorem loop_at {b:Code} {k:List K} (n:Nat) (I:Nat→Act→World→Prop) {a:Act} {w:World} (h0:I 0 a w) (hb: ∀ i,i<n→ ∀ a w,I i a w→ZZ P (Exit.then (I (i+1)) (ZZ P Q k)) [.c b] .normal a w)
 (he: ∀ a w,I n a w→ZZ P (Exit.then (fun _ _=>False) (ZZ P Q k)) [.c b] .normal a w):ZZ P Q (.c (.loop b)::k) .normal a w:=by
 show (Code.loop b).wp P (ZZ P Q k) a w
 refine wp_loop_rounds (n+1) ?_
 have key: ∀ m i,i+m=n→ ∀ a w,I i a w→Code.rounds P b (ZZ P Q k) (m+1) a w:=by
  intro m
  induction m with
  | zero=>
   intro i hi a w h
   obtain rfl:i=n:=by omega
   rw [rounds_succ]
   exact Code.wp_mono (fun e a w q=>by cases e <;> exact q) (he a w h)
  | succ m ih=>
   intro i hi a w h
   rw [rounds_succ]
   refine Code.wp_mono (fun e a w q=> ?_) (hb i (by omega) a w h)
   cases e with
   | normal=>exact ih (i+1) (by omega) a w q
   | _=>exact q
 exact key n 0 (by omega) a w h0
theorem brk {J:Act→World→Prop} {id:Nat} {k:List K} {a:Act} {w:World} (h:ZZ P Q k .normal a w):ZZ P (Exit.then J (ZZ P Q (.b id::k))) [] (Ex.ex id).conc a w:=by
 show (if id=id then ZZ P Q k .normal a w else ZZ P Q k (.exit id) a w)
 rw [if_pos rfl];exact h
end
end RC
end Go.Proofs.YtddedijencleeaaGreatDoor
