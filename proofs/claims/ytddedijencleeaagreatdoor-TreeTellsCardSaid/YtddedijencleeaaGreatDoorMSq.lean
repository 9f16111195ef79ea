/- Facts for the evaluator: elements of slices, loads of what lies in memory; loops of a function. No program's code. -/
import Derived.Test.YtddedijencleeaaGreatDoorRd
import Derived.Test.YtddedijencleeaaGreatDoorChecked
set_option linter.all false
namespace Go.Proofs.YtddedijencleeaaGreatDoor
open Go.RowKit Go.Lib
namespace RC
def Qt (fn:Func):Code:=match fn.body with
 | some c=>c
 | none=>.skip
section
variable {P:Program} {N:Nat} {W:World}
theorem Qb.elem {t e:TypeId} {b o n c size i:Nat} {k:IntKind} (hu:P.underlying t=some (.slice e)) (hs:sizT P e=some size) (hi:i<n):Qb.ok P N W (.idx t (.slice (some ⟨b,o,none⟩) n c) (.int k i) (.pointer (some ⟨b,o+i*size,none⟩))):=fun w=>by
 have h0:(0:Int)≤(i:Int):=by omega
 have h1:(i:Int)<(n:Int):=by omega
 simp [Instr.indexAt,asIntOf,run_underlying hu,Jo hs,h0,h1,hi,Addr.add_at]
theorem Qb.row {t:TypeId} {b o:Nat} {cs:List Value} (hr:Zn P t=some true) (hs:sizT P t=some cs.length) (h:W.rangeAt b o cs) (hb:b<W.heap.size) (hN:W.heap.size≤N):Qb.ok P N W (.get t (.pointer (some ⟨b,o,none⟩)) (.agg cs.toArray)):=fun w hw=>by
 have:=run_loadCells_list (P:=P) w ⟨b,o,none⟩ cs (fun j v hv=>by
  rw [Addr.add_at,hw.cell (p:=⟨b,o+j,none⟩) (by simp;omega)]
  exact h j v hv)
 simp [Instr.loadAt,Instr.sureAddr,loadVar,rowT_ok hr,Jo hs,this]
theorem Qb.cell {t:TypeId} {b o:Nat} {v:Value} (hr:Zn P t=some false) (h:W.cell? ⟨b,o,none⟩=some v) (hb:b<W.heap.size) (hN:W.heap.size≤N):Qb.ok P N W (.get t (.pointer (some ⟨b,o,none⟩)) v):=fun w hw=>by
 have:w.cell? ⟨b,o,none⟩=some v:=by rw [hw.cell (p:=⟨b,o,none⟩) (by simp;omega)];exact h
 simp [Instr.loadAt,Instr.sureAddr,loadVar,rowT_ok hr,this]
theorem Qb.addInt {t:TypeId} {k:IntKind} {a b c:Int} (h:k.wrap (a+b)=c):Qb.ok P N W (.bin .add t (.int k a) (.int k b) (.int k c)):=fun ox oy w=>by
 rw [Sem.run_bind,JL];simp [binOp,Op.intArith,h]
theorem wrapI (i:Nat) (h:i<9223372036854775807):IntKind.wrap .i64 ((i:Int)+1)=((i+1:Nat):Int):=by
 unfold IntKind.wrap
 have e1:(2 ^ IntKind.i64.bits:Int)=18446744073709551616:=by decide
 have e2:(2 ^ (IntKind.i64.bits - 1):Int)=9223372036854775808:=by decide
 rw [e1,e2]
 have e3:((i:Int)+1) % 18446744073709551616=(i:Int)+1:=Int.emod_eq_of_lt (by omega) (by omega)
 simp only [e3]
 rw [if_neg]
 · omega
 simp only [Bool.and_eq_true,decide_eq_true_eq,not_and]
 intro _
 omega
theorem Qb.inc {t:TypeId} {i:Nat} (h:i<9223372036854775807):Qb.ok P N W (.bin .add t (.int .i64 i) (.int .i64 1) (.int .i64 ((i+1:Nat):Int))):=Qb.addInt (wrapI i h)
theorem Qb.ltN {t:TypeId} {i n:Nat} {z:Bool} (h:decide (i<n)=z):Qb.ok P N W (.bin .lss t (.int .i64 i) (.int .i64 n) (.bool z)):=Qb.intLt (by rw [← h];simp)
theorem Qb.aggEq {t:TypeId} {x y:Array Value} {z:Bool} (hg:P.eqGuardType P.depth t=false) (h: ∀ w,(Op.equalIn 10000 t (.agg x) (.agg y)).run P w= .ok z w):Qb.ok P N W (.bin .eql t (.agg x) (.agg y) (.bool z)):=fun ox oy w=>by
 have:(eqGuard .eql t ox oy (.agg x) (.agg y)).run P w= .ok () w:=by
  unfold eqGuard
  simp [hg]
 rw [Sem.run_bind,this]
 simp [binOp,Op.equal,Op.maxDepth,h]
theorem Qb.aggNe {t:TypeId} {x y:Array Value} {z:Bool} (hg:P.eqGuardType P.depth t=false) (h: ∀ w,(Op.equalIn 10000 t (.agg x) (.agg y)).run P w= .ok (!z) w):Qb.ok P N W (.bin .neq t (.agg x) (.agg y) (.bool z)):=fun ox oy w=>by
 have:(eqGuard .neq t ox oy (.agg x) (.agg y)).run P w= .ok () w:=by
  unfold eqGuard
  simp [hg]
 rw [Sem.run_bind,this]
 simp [binOp,Op.equal,Op.maxDepth,h]
theorem Qb.boolNe {t:TypeId} {a b z:Bool} (hu:P.underlying t=some .bool) (h:(a != b)=z):Qb.ok P N W (.bin .neq t (.bool a) (.bool b) (.bool z)):=fun ox oy w=>by
 rw [Sem.run_bind,eqg_bool]
 simp only [Result.andThen_ok,binOp,Op.equal,Op.maxDepth]
 rw [Op.equalIn]
 simp [run_underlying hu, ← h,bne]
variable {Q:Exit→Act→World→Prop}
def okB (bs:List Zp):Bool:=bs.all fun r=>match r with
 | .box cs=>Kg (fun j=>Nat.blt j bs.length) cs
 | _=>true
theorem okB_ok {bs:List Zp} (h:okB bs=true): ∀ i cs,lb bs i=some (.box cs)→Kg (fun i=>(lb bs i).isSome) cs=true:=fun i cs hi=>by
 unfold okB at h
 have:=List.all_eq_true.1 h _ (List.mem_of_getElem? hi)
 exact ZE (fun j hj=>by rw [lb_some];exact hj) cs this
theorem St.pre {n:Nat} {fr:Fr} {bs ex:List Zp} {G:Env} {a:Act} {w:World} (h:St N W n fr (bs++ex) G a w) (hf:okF bs.length fr=true) (hb:okB bs=true):St N W n fr bs G a w:=
 ⟨h.env,h.rp.less (fun i r hi=>by
   have:=lb_lt hi
   unfold lb at hi ⊢
   rw [List.getElem?_append_left this];exact hi) (okB_ok hb),hf⟩
def Qb.ans:Qb→Orc
 | .call _ _ r=>.r r
 | .callR _ _ _ r=>.r r
 | .opq _ _ m r po=>.c m r po
 | .bin _ _ _ _ r=>.r r
 | .idx _ _ _ r=>.r r
 | .get _ _ r=>.r r
 | .cut _ _ _ _ _ r=>.r r
 | .app _ _ _ _ po=>.c 1 (.x 0 0) po
 | .ask _ r=>.r r
def anss:List Qb→List Orc
 | []=>[]
 | s::l=>s.ans::anss l
theorem Kt (c:Code) (id:Nat) (hk:Qc c (.loop id)= .c (.loop (Qn c id)):: .b id::Qc c (.out id)) (n:Nat) (I:Nat→Act→World→Prop) {a:Act} {w:World} (h0:I 0 a w)
 (hb: ∀ i,i<n→ ∀ a w,I i a w→ZZ P (Exit.then (I (i+1)) (ZZ P Q (.b id::Qc c (.out id)))) [.c (Qn c id)] .normal a w)
 (he: ∀ a w,I n a w→ZZ P (Exit.then (fun _ _=>False) (ZZ P Q (.b id::Qc c (.out id)))) [.c (Qn c id)] .normal a w):ZZ P Q (Qc c (.loop id)) .normal a w:=by
 rw [hk]
 exact loop_at n I h0 hb he
theorem Ki {J:Act→World→Prop} {k:List K} {a:Act} {w:World} (h:Q .ret a w):Exit.then J (ZZ P Q k) .ret a w:=wpX_ret h k
theorem go {n:Nat} (t:Tg) {k k':List K} {fr:Fr} (lv:Fr) {bs:List Zp} (bs':List Zp) {sd:List Qb} {e:Ex} {G:Env} {a:Act} {w:World} (hst:St N W n fr bs G a w) (hs:QU P N W sd)
 (h:runV P n t k fr bs (anss sd) (lv.map (·.1))=some (e,k',lv.map (fun x=>some x.2),bs',sd))
 (hq: ∀ G' a' w',St N W n lv bs' G' a' w'→(∀ i,i<bs.length→same G' G i)→ZZ P Q k' e.conc a' w'):ZZ P Q k .normal a w:=seg t lv bs' (anss sd) hst h hs hq
theorem goK {n:Nat} (t:Tg) {k k':List K} {fr:Fr} (lv:Fr) {bs:List Zp} {sd:List Qb} {e:Ex} {G:Env} {a:Act} {w:World} (hst:St N W n fr bs G a w) (hs:QU P N W sd)
 (h:runV P n t k fr bs (anss sd) (lv.map (·.1))=some (e,k',lv.map (fun x=>some x.2),bs,sd))
 (hq: ∀ G' a' w',St N W n lv bs G' a' w'→(∀ i,i<bs.length→same G' G i)→ZZ P Q k' e.conc a' w'):ZZ P Q k .normal a w:=seg t lv bs (anss sd) hst h hs hq
theorem goE {n:Nat} {k:List K} {fr:Fr} {bs:List Zp} {sd:List Qb} {vs:List Value} {G:Env} {a:Act} {w:World} {fn:Func} {R:Ending→World→Prop} (hst:St N W n fr bs G a w) (hs:QU P N W sd)
 (h:runE' P n k fr bs (anss sd) fn.results.toList=some (vs.map .v,sd)) (hR: ∀ w',Below N W w'→R (.returned (resR vs)) w'):ZZ P (bodyPost P fn R) k .normal a w:=fin (anss sd) hst h hs hR
theorem goX {n:Nat} {k:List K} {fr:Fr} {bs:List Zp} (bs':List Zp) {sd:List Qb} {vs:List RV} {G:Env} {a:Act} {w:World} {fn:Func} {R:Ending→World→Prop} (hst:St N W n fr bs G a w) (hs:QU P N W sd)
 (h:runE P n k fr bs (anss sd) fn.results.toList=some (vs,bs',sd)) (hR: ∀ G' w',Rp N W G' bs' w'→(∀ i,i<bs.length→same G' G i)→R (.returned (resR (Qu G' vs))) w'):ZZ P (bodyPost P fn R) k .normal a w:=finB (anss sd) hst h hs hR
theorem allOk_app {l r:List Qb} (h:QU P N W l) (k:QU P N W r):QU P N W (l++r):=by
 induction l with
 | nil=>exact k
 | cons s l ih=>exact ⟨h.1,ih h.2⟩
def sLt (t:TypeId) (i n:Nat) (z:Bool):Qb:=.bin .lss t (.int .i64 i) (.int .i64 n) (.bool z)
def sInc (t:TypeId) (i:Nat):Qb:=.bin .add t (.int .i64 i) (.int .i64 1) (.int .i64 ((i+1:Nat):Int))
def slotsOf (fr:Fr):List (Option RV):=fr.map fun x=>some x.2
def keysOf (fr:Fr):List Nat:=fr.map (·.1)
def runT (P:Program) (n:Nat) (t:Tg) (k:List K) (fr:Fr) (bs:List Zp) (rs:List Orc) (slots:List Nat):Option (Ex × List K × List (Option RV) × List Zp × List Qb):=
 match runV P n t k fr bs rs slots with
 | some (e,k',l,bs',sd)=>some (e,k',l,bs'.take bs.length,sd)
 | none=>none
def runN (P:Program) (n:Nat) (t:Tg) (k:List K) (fr:Fr) (bs:List Zp) (rs:List Orc) (slots:List Nat):Option (Ex × List K × List (Option RV) × List Qb):=
 match runV P n t k fr bs rs slots with
 | some (e,k',l,_,sd)=>some (e,k',l,sd)
 | none=>none
theorem goT {n:Nat} (t:Tg) {k k':List K} {fr:Fr} (lv:Fr) {bs:List Zp} {sd:List Qb} {e:Ex} {G:Env} {a:Act} {w:World} (hst:St N W n fr bs G a w) (hs:QU P N W sd)
 (h:runT P n t k fr bs (anss sd) (lv.map (·.1))=some (e,k',lv.map (fun x=>some x.2),bs,sd)) (cl:okF bs.length lv=true) (clb:okB bs=true)
 (hq: ∀ G' a' w',St N W n lv bs G' a' w'→(∀ i,i<bs.length→same G' G i)→ZZ P Q k' e.conc a' w'):ZZ P Q k .normal a w:=by
 unfold runT at h
 split at h
 case h_2=>cases h
 rename_i e1 k1 l1 bs1 sd1 hr
 simp only [Option.some.injEq,Prod.mk.injEq] at h
 obtain ⟨rfl,rfl,rfl,hb,rfl⟩:=h
 refine go t lv bs1 hst hs hr fun G' a' w' hst' hg=>hq G' a' w' (St.pre (ex:=bs1.drop bs.length) ?_ cl clb) hg
 have:bs++bs1.drop bs.length=bs1:=by
  have:=List.take_append_drop bs.length bs1
  rwa [hb] at this
 rw [this]
 exact hst'
theorem goN {n:Nat} (t:Tg) {k k':List K} {fr:Fr} (lv:Fr) {bs:List Zp} {sd:List Qb} {e:Ex} {G:Env} {a:Act} {w:World} (hst:St N W n fr bs G a w) (hs:QU P N W sd)
 (h:runN P n t k fr bs (anss sd) (lv.map (·.1))=some (e,k',lv.map (fun x=>some x.2),sd))
 (hq: ∀ bs' G' a' w',St N W n lv bs' G' a' w'→ZZ P Q k' e.conc a' w'):ZZ P Q k .normal a w:=by
 unfold runN at h
 split at h
 case h_2=>cases h
 rename_i e1 k1 l1 bs1 sd1 hr
 simp only [Option.some.injEq,Prod.mk.injEq] at h
 obtain ⟨rfl,rfl,rfl,rfl⟩:=h
 exact go t lv bs1 hst hs hr fun G' a' w' hst' _=>hq bs1 G' a' w' hst'
theorem Kf {nn:Nat} (c:Code) (id s r:Nat) (ti:TypeId) (n:Nat) (q:Nat→Bool) {lv:Fr} {bs:List Zp} (ans:Value) {G:Env} {a:Act} {w:World} (hn:n≤9223372036854775807)
 (hk:Qc c (.loop id)= .c (.loop (Qn c id)):: .b id::Qc c (.out id)) (hst:St N W nn ((s,.v (.int .i64 (0:Nat)))::lv) bs G a w)
 (yes: ∀ i,i<n→q i=true→ ∃ mid,QU P N W mid∧runT P nn .fin [.c (Qn c id)] ((s,.v (.int .i64 i))::lv) bs (anss (sLt ti i n true::mid++[sInc ti i])) (s::keysOf lv)=some (.nrm,[],some (.v (.int .i64 ((i+1:Nat):Int)))::slotsOf lv,bs,sLt ti i n true::mid++[sInc ti i]))
 (no: ∀ i,i<n→q i=false→ ∃ mid,QU P N W mid∧runN P nn .fin [.c (Qn c id)] ((s,.v (.int .i64 i))::lv) bs (anss (sLt ti i n true::mid)) [r]=some (.ret,[],[some (.v ans)],sLt ti i n true::mid))
 (ends:runV P nn .fin [.c (Qn c id)] ((s,.v (.int .i64 n))::lv) bs (anss [sLt ti n n false]) (keysOf lv)=some (.ex id,[],slotsOf lv,bs,[sLt ti n n false]))
 (cl:okF bs.length lv=true) (clb:okB bs=true)
 (bad: ∀ i,i<n→q i=false→ ∀ bs' G a w,St N W nn [(r,.v ans)] bs' G a w→Q .ret a w)
 (good:(∀ i,i<n→q i=true)→ ∀ G a w,St N W nn lv bs G a w→ZZ P Q (Qc c (.out id)) .normal a w):ZZ P Q (Qc c (.loop id)) .normal a w:=by
 refine Kt c id hk n (fun i a' w'=>(∃ G,St N W nn ((s,.v (.int .i64 (i:Nat)))::lv) bs G a' w')∧ ∀ j,j<i→q j=true) ⟨⟨G,hst⟩,fun j hj=>by omega⟩ ?_ ?_
 · rintro i hi a2 w2 ⟨⟨g2,hs2⟩,hall⟩
   cases hq:q i with
   | true=>
    obtain ⟨mid,hm,hrun⟩:=yes i hi hq
    refine goT .fin ((s,.v (.int .i64 ((i+1:Nat):Int)))::lv) hs2 (okC (Qb.ltN (by simp;exact hi)) (allOk_app hm (okC (Qb.inc (by omega)) Zk))) hrun (by simpa [okF,RV.lt,RV.all] using cl) clb fun g3 a3 w3 hst3 _=> ?_
    refine ⟨⟨g3,hst3⟩,fun j hj=> ?_⟩
    by_cases e:j=i
    · rw [e];exact hq
    exact hall j (by omega)
   | false=>
    obtain ⟨mid,hm,hrun⟩:=no i hi hq
    exact goN .fin [(r,.v ans)] hs2 (okC (Qb.ltN (by simp;exact hi)) hm) hrun fun bs' g3 a3 w3 hst3=>Ki (bad i hi hq bs' g3 a3 w3 hst3)
 rintro a2 w2 ⟨⟨g2,hs2⟩,hall⟩
 exact go .fin lv bs hs2 (okC (Qb.ltN (by simp)) Zk) ends fun g3 a3 w3 hst3 _=>brk (good hall g3 a3 w3 hst3)
theorem Zm {w:World} {b o:Nat} {x:Value} {cs:List Value} (h:w.rangeAt b o (x::cs)):w.rangeAt b (o+1) cs:=fun j v hj=>by
 have:=h (j+1) v (by simpa using hj)
 rwa [show o+1+j=o+(j+1) by omega]
theorem ZJ {w:World} {b o:Nat} {cs ds:List Value} (h:w.rangeAt b o (cs++ds)):w.rangeAt b o cs:=fun j v hj=>h j v (by rw [List.getElem?_append_left (List.getElem?_eq_some_iff.1 hj).1];exact hj)
def po1 (q:World→Value→Prop) (h: ∀ W1 W2 u,Jw W1 W2→q W1 u→q W2 u):Po:=⟨fun us w=> ∃ u,us=[u]∧q w u,fun us W1 W2 hs ⟨u,h1,h2⟩=>⟨u,h1,h W1 W2 u hs h2⟩⟩
def poL (q:World→List Value→Prop) (h: ∀ W1 W2 u,Jw W1 W2→q W1 u→q W2 u):Po:=⟨fun us w=>q w us,fun us W1 W2 hs h2=>h W1 W2 us hs h2⟩
def xsN (i m:Nat):List RV:=(List.range m).map (.x i)
theorem Kc {G:Env} {i m:Nat} {us:List Value} (hu:G.u i=us) (h:us.length=m):Qu G (xsN i m)=us:=by
 rw [KR,xsN,List.map_map]
 refine List.ext_getElem (by simp [h]) fun j h1 h2=> ?_
 simp only [List.getElem_map,List.getElem_range,Function.comp,RV.conc,hu,List.getD_eq_getElem?_getD,List.getElem?_eq_getElem h2,Option.getD_some]
theorem Qb.one {f : FuncId} {args : List Value} {q : World → Value → Prop} (h : ∀ W1 W2 u, Jw W1 W2 → q W1 u → q W2 u) {fn : Func} {c : Code} (hf : P.funcs[f]? = some fn) (hb : fn.body = some c) (hn : (fn.name == "runtime.NumGoroutine") = false) (h1 : ∀ w u, q w u → u.oneCell' = true)
 (hc: ∀ w,Below N W w→Calls P f args.toArray w fun e w'=> ∃ u,e= .returned u∧q (World.only w' fun b=>w.heap.size≤b) u∧Below w.heap.size w w'):Qb.ok P N W (.opq f args 1 (.x 0 0) (po1 q h)):=
 ⟨⟨fn,c,hf,hb,hn⟩,fun w hw=>(hc w hw).mono fun e w' ⟨u,h2,h3,h4⟩=>⟨[u],rfl,fun v hv=>by rw [List.mem_singleton] at hv;rw [hv];exact h1 _ u h3,h2,h4,u,rfl,h3⟩⟩
theorem Qb.cells {f : FuncId} {args : List Value} {m : Nat} {q : World → List Value → Prop} (h : ∀ W1 W2 u, Jw W1 W2 → q W1 u → q W2 u) {fn : Func} {c : Code} (hf : P.funcs[f]? = some fn) (hb : fn.body = some c) (hn : (fn.name == "runtime.NumGoroutine") = false) (h1 : ∀ w ds, q w ds → ds.length = m ∧ ∀ v ∈ ds, v.oneCell' = true)
 (hc: ∀ w,Below N W w→Calls P f args.toArray w fun e w'=> ∃ ds:List Value,e= .returned (.agg ds.toArray)∧q (World.only w' fun b=>w.heap.size≤b) ds∧Below w.heap.size w w'):Qb.ok P N W (.opq f args m (.agg (xsN 0 m)) (poL q h)):=
 ⟨⟨fn,c,hf,hb,hn⟩,fun w hw=>(hc w hw).mono fun e w' ⟨ds,h2,h3,h4⟩=>⟨ds,(h1 _ ds h3).1,(h1 _ ds h3).2,by rw [h2];simp only [RV.conc];rw [Kc rfl (h1 _ ds h3).1],h4,h3⟩⟩
theorem Rp.one {G:Env} {bs:List Zp} {w:World} (h:Rp N W G bs w) {i:Nat} {q:World→Value→Prop} {hq: ∀ W1 W2 u,Jw W1 W2→q W1 u→q W2 u} (hi:bs[i]?=some (.unk 1 (po1 q hq))): ∃ u,G.u i=[u]∧q (World.only w fun b=>N≤b) u:=by
 obtain ⟨_,_,u,h1,h2⟩:=h.un i 1 _ hi
 exact ⟨u,h1,hq _ _ _ (Za (Nat.le_refl _) fun b _ hb=>⟨hb.1,rfl⟩) h2⟩
theorem Rp.cells {G:Env} {bs:List Zp} {w:World} (h:Rp N W G bs w) {i m:Nat} {q:World→List Value→Prop} {hq: ∀ W1 W2 u,Jw W1 W2→q W1 u→q W2 u} (hi:bs[i]?=some (.unk m (poL q hq))):(G.u i).length=m∧q (World.only w fun b=>N≤b) (G.u i):=by
 obtain ⟨h0,_,h2⟩:=h.un i m _ hi
 exact ⟨h0,hq _ _ _ (Za (Nat.le_refl _) fun b _ hb=>⟨hb.1,rfl⟩) h2⟩
end
end RC
end Go.Proofs.YtddedijencleeaaGreatDoor

/- Short names for what the printed walks say often. -/
set_option linter.all false
namespace Go.Proofs.YtddedijencleeaaGreatDoor
open Tryz
open Go.RowKit Go.Lib
theorem bS:((false=true)=False)∧(∀ {α:Type} {h:Decidable False} (a b:α), @ite α False h a b=b)∧(∀ {α:Type} {h:Decidable True} (a b:α), @ite α True h a b=a)∧(∀ b,(b&&false)=false)∧(∀ b,(false&&b)=false)∧(∀ b,(true&&b)=b)∧(∀ b,(b&&true)=b)∧(∀ b,(b||false)=b)∧(∀ b,(b||true)=true)∧(∀ b,(false||b)=b)∧(∀ b,(true||b)=true)∧((!true)=false)∧((!false)=true):=
 ⟨Bool.false_eq_true,fun _ _=>if_false ..,fun _ _=>if_true ..,Bool.and_false,Bool.false_and,Bool.true_and,Bool.and_true,Bool.or_false,Bool.or_true,Bool.false_or,Bool.true_or,Bool.not_true,Bool.not_false⟩
theorem lS:(∀ {α:Type} {a b:List α},(a++b).length=a.length+b.length)∧(∀ {α:Type} {a:α} {b:List α},(a::b).length=b.length+1)∧(∀ {α:Type},([]:List α).length=0):=
 ⟨List.length_append,List.length_cons,List.length_nil⟩
theorem aS:(∀ {α:Type} (a b c:List α),a++b++c=a++(b++c))∧(∀ {α:Type} (a:List α),a++[]=a)∧(∀ {α:Type} (a:List α),[]++a=a):=⟨List.append_assoc,List.append_nil,List.nil_append⟩
abbrev eL (k op vk vn:Int) (vt tb nm:ByteArray) (A:Option Addr) (n c:Nat) (pl ty:Int):List Value:=[.int .i64 k,.int .i64 op,.int .i64 vk,.int .i64 vn,.string vt,.string tb,.string nm,.slice A n c,.int .i64 pl,.int .i64 ty]
abbrev eV (k op vk vn:Int) (vt tb nm:ByteArray) (A:Option Addr) (n c:Nat) (pl ty:Int):Value:=.agg #[.int .i64 k,.int .i64 op,.int .i64 vk,.int .i64 vn,.string vt,.string tb,.string nm,.slice A n c,.int .i64 pl,.int .i64 ty]
namespace RC
abbrev Sd (W:World) (o:Qb):Prop:=Qb.ok prog W.heap.size W o
theorem sd (W:World) {o:Qb} (h:Qb.ok prog W.heap.size W o):Qb.ok prog W.heap.size W o:=h
theorem QN (W:World) {a b:Int} {z:Bool} (h:(a==b)=z):Sd W (.bin .eql 3 (.int .i64 a) (.int .i64 b) (.bool z)):=Qb.intEq h
theorem nNe (W:World) {a b:Int} {z:Bool} (h:(a != b)=z):Sd W (.bin .neq 3 (.int .i64 a) (.int .i64 b) (.bool z)):=Qb.intNe h
theorem JE (W:World) {a b:Int} {z:Bool} (h:decide (a<b)=z):Sd W (.bin .lss 3 (.int .i64 a) (.int .i64 b) (.bool z)):=Qb.intLt h
theorem nLe (W:World) {a b:Int} {z:Bool} (h:decide (a≤b)=z):Sd W (.bin .leq 3 (.int .i64 a) (.int .i64 b) (.bool z)):=Qb.intLe h
theorem nGt (W:World) {a b:Int} {z:Bool} (h:decide (b<a)=z):Sd W (.bin .gtr 3 (.int .i64 a) (.int .i64 b) (.bool z)):=Qb.intGt h
theorem nGe (W:World) {a b:Int} {z:Bool} (h:decide (b≤a)=z):Sd W (.bin .geq 3 (.int .i64 a) (.int .i64 b) (.bool z)):=Qb.intGe h
section
variable {P:Program} {N:Nat} {W:World}
abbrev kE0:QU P N W []:=Zk
abbrev Zg {s1:Qb} (h1:s1.ok P N W):QU P N W [s1]:=⟨h1,trivial⟩
abbrev kO1 {s1:Qb} {l:List Qb} (h1:s1.ok P N W) (k:QU P N W l):QU P N W (s1::l):=⟨h1,k⟩
abbrev Km {s1 s2:Qb} (h1:s1.ok P N W) (h2:s2.ok P N W):QU P N W [s1,s2]:=⟨h1,h2,trivial⟩
abbrev kO2 {s1 s2:Qb} {l:List Qb} (h1:s1.ok P N W) (h2:s2.ok P N W) (k:QU P N W l):QU P N W (s1::s2::l):=⟨h1,h2,k⟩
abbrev kE3 {s1 s2 s3:Qb} (h1:s1.ok P N W) (h2:s2.ok P N W) (h3:s3.ok P N W):QU P N W [s1,s2,s3]:=⟨h1,h2,h3,trivial⟩
abbrev kO3 {s1 s2 s3:Qb} {l:List Qb} (h1:s1.ok P N W) (h2:s2.ok P N W) (h3:s3.ok P N W) (k:QU P N W l):QU P N W (s1::s2::s3::l):=⟨h1,h2,h3,k⟩
abbrev Jf {s1 s2 s3 s4:Qb} (h1:s1.ok P N W) (h2:s2.ok P N W) (h3:s3.ok P N W) (h4:s4.ok P N W):QU P N W [s1,s2,s3,s4]:=⟨h1,h2,h3,h4,trivial⟩
abbrev kO4 {s1 s2 s3 s4:Qb} {l:List Qb} (h1:s1.ok P N W) (h2:s2.ok P N W) (h3:s3.ok P N W) (h4:s4.ok P N W) (k:QU P N W l):QU P N W (s1::s2::s3::s4::l):=⟨h1,h2,h3,h4,k⟩
abbrev kE5 {s1 s2 s3 s4 s5:Qb} (h1:s1.ok P N W) (h2:s2.ok P N W) (h3:s3.ok P N W) (h4:s4.ok P N W) (h5:s5.ok P N W):QU P N W [s1,s2,s3,s4,s5]:=⟨h1,h2,h3,h4,h5,trivial⟩
abbrev kO5 {s1 s2 s3 s4 s5:Qb} {l:List Qb} (h1:s1.ok P N W) (h2:s2.ok P N W) (h3:s3.ok P N W) (h4:s4.ok P N W) (h5:s5.ok P N W) (k:QU P N W l):QU P N W (s1::s2::s3::s4::s5::l):=⟨h1,h2,h3,h4,h5,k⟩
abbrev Je {s1 s2 s3 s4 s5 s6:Qb} (h1:s1.ok P N W) (h2:s2.ok P N W) (h3:s3.ok P N W) (h4:s4.ok P N W) (h5:s5.ok P N W) (h6:s6.ok P N W):QU P N W [s1,s2,s3,s4,s5,s6]:=⟨h1,h2,h3,h4,h5,h6,trivial⟩
abbrev kO6 {s1 s2 s3 s4 s5 s6:Qb} {l:List Qb} (h1:s1.ok P N W) (h2:s2.ok P N W) (h3:s3.ok P N W) (h4:s4.ok P N W) (h5:s5.ok P N W) (h6:s6.ok P N W) (k:QU P N W l):QU P N W (s1::s2::s3::s4::s5::s6::l):=⟨h1,h2,h3,h4,h5,h6,k⟩
abbrev kE7 {s1 s2 s3 s4 s5 s6 s7:Qb} (h1:s1.ok P N W) (h2:s2.ok P N W) (h3:s3.ok P N W) (h4:s4.ok P N W) (h5:s5.ok P N W) (h6:s6.ok P N W) (h7:s7.ok P N W):QU P N W [s1,s2,s3,s4,s5,s6,s7]:=⟨h1,h2,h3,h4,h5,h6,h7,trivial⟩
abbrev kO7 {s1 s2 s3 s4 s5 s6 s7:Qb} {l:List Qb} (h1:s1.ok P N W) (h2:s2.ok P N W) (h3:s3.ok P N W) (h4:s4.ok P N W) (h5:s5.ok P N W) (h6:s6.ok P N W) (h7:s7.ok P N W) (k:QU P N W l):QU P N W (s1::s2::s3::s4::s5::s6::s7::l):=⟨h1,h2,h3,h4,h5,h6,h7,k⟩
abbrev kE8 {s1 s2 s3 s4 s5 s6 s7 s8:Qb} (h1:s1.ok P N W) (h2:s2.ok P N W) (h3:s3.ok P N W) (h4:s4.ok P N W) (h5:s5.ok P N W) (h6:s6.ok P N W) (h7:s7.ok P N W) (h8:s8.ok P N W):QU P N W [s1,s2,s3,s4,s5,s6,s7,s8]:=⟨h1,h2,h3,h4,h5,h6,h7,h8,trivial⟩
abbrev kO8 {s1 s2 s3 s4 s5 s6 s7 s8:Qb} {l:List Qb} (h1:s1.ok P N W) (h2:s2.ok P N W) (h3:s3.ok P N W) (h4:s4.ok P N W) (h5:s5.ok P N W) (h6:s6.ok P N W) (h7:s7.ok P N W) (h8:s8.ok P N W) (k:QU P N W l):QU P N W (s1::s2::s3::s4::s5::s6::s7::s8::l):=⟨h1,h2,h3,h4,h5,h6,h7,h8,k⟩
abbrev kE9 {s1 s2 s3 s4 s5 s6 s7 s8 s9:Qb} (h1:s1.ok P N W) (h2:s2.ok P N W) (h3:s3.ok P N W) (h4:s4.ok P N W) (h5:s5.ok P N W) (h6:s6.ok P N W) (h7:s7.ok P N W) (h8:s8.ok P N W) (h9:s9.ok P N W):QU P N W [s1,s2,s3,s4,s5,s6,s7,s8,s9]:=⟨h1,h2,h3,h4,h5,h6,h7,h8,h9,trivial⟩
abbrev kO9 {s1 s2 s3 s4 s5 s6 s7 s8 s9:Qb} {l:List Qb} (h1:s1.ok P N W) (h2:s2.ok P N W) (h3:s3.ok P N W) (h4:s4.ok P N W) (h5:s5.ok P N W) (h6:s6.ok P N W) (h7:s7.ok P N W) (h8:s8.ok P N W) (h9:s9.ok P N W) (k:QU P N W l):QU P N W (s1::s2::s3::s4::s5::s6::s7::s8::s9::l):=⟨h1,h2,h3,h4,h5,h6,h7,h8,h9,k⟩
abbrev Kr {s1 s2 s3 s4 s5 s6 s7 s8 s9 s10:Qb} (h1:s1.ok P N W) (h2:s2.ok P N W) (h3:s3.ok P N W) (h4:s4.ok P N W) (h5:s5.ok P N W) (h6:s6.ok P N W) (h7:s7.ok P N W) (h8:s8.ok P N W) (h9:s9.ok P N W) (h10:s10.ok P N W):QU P N W [s1,s2,s3,s4,s5,s6,s7,s8,s9,s10]:=⟨h1,h2,h3,h4,h5,h6,h7,h8,h9,h10,trivial⟩
abbrev kO10 {s1 s2 s3 s4 s5 s6 s7 s8 s9 s10:Qb} {l:List Qb} (h1:s1.ok P N W) (h2:s2.ok P N W) (h3:s3.ok P N W) (h4:s4.ok P N W) (h5:s5.ok P N W) (h6:s6.ok P N W) (h7:s7.ok P N W) (h8:s8.ok P N W) (h9:s9.ok P N W) (h10:s10.ok P N W) (k:QU P N W l):QU P N W (s1::s2::s3::s4::s5::s6::s7::s8::s9::s10::l):=⟨h1,h2,h3,h4,h5,h6,h7,h8,h9,h10,k⟩
abbrev JD {s1 s2 s3 s4 s5 s6 s7 s8 s9 s10 s11:Qb} (h1:s1.ok P N W) (h2:s2.ok P N W) (h3:s3.ok P N W) (h4:s4.ok P N W) (h5:s5.ok P N W) (h6:s6.ok P N W) (h7:s7.ok P N W) (h8:s8.ok P N W) (h9:s9.ok P N W) (h10:s10.ok P N W) (h11:s11.ok P N W):QU P N W [s1,s2,s3,s4,s5,s6,s7,s8,s9,s10,s11]:=⟨h1,h2,h3,h4,h5,h6,h7,h8,h9,h10,h11,trivial⟩
abbrev kO11 {s1 s2 s3 s4 s5 s6 s7 s8 s9 s10 s11:Qb} {l:List Qb} (h1:s1.ok P N W) (h2:s2.ok P N W) (h3:s3.ok P N W) (h4:s4.ok P N W) (h5:s5.ok P N W) (h6:s6.ok P N W) (h7:s7.ok P N W) (h8:s8.ok P N W) (h9:s9.ok P N W) (h10:s10.ok P N W) (h11:s11.ok P N W) (k:QU P N W l):QU P N W (s1::s2::s3::s4::s5::s6::s7::s8::s9::s10::s11::l):=⟨h1,h2,h3,h4,h5,h6,h7,h8,h9,h10,h11,k⟩
abbrev kE12 {s1 s2 s3 s4 s5 s6 s7 s8 s9 s10 s11 s12:Qb} (h1:s1.ok P N W) (h2:s2.ok P N W) (h3:s3.ok P N W) (h4:s4.ok P N W) (h5:s5.ok P N W) (h6:s6.ok P N W) (h7:s7.ok P N W) (h8:s8.ok P N W) (h9:s9.ok P N W) (h10:s10.ok P N W) (h11:s11.ok P N W) (h12:s12.ok P N W):QU P N W [s1,s2,s3,s4,s5,s6,s7,s8,s9,s10,s11,s12]:=⟨h1,h2,h3,h4,h5,h6,h7,h8,h9,h10,h11,h12,trivial⟩
abbrev kO12 {s1 s2 s3 s4 s5 s6 s7 s8 s9 s10 s11 s12:Qb} {l:List Qb} (h1:s1.ok P N W) (h2:s2.ok P N W) (h3:s3.ok P N W) (h4:s4.ok P N W) (h5:s5.ok P N W) (h6:s6.ok P N W) (h7:s7.ok P N W) (h8:s8.ok P N W) (h9:s9.ok P N W) (h10:s10.ok P N W) (h11:s11.ok P N W) (h12:s12.ok P N W) (k:QU P N W l):QU P N W (s1::s2::s3::s4::s5::s6::s7::s8::s9::s10::s11::s12::l):=⟨h1,h2,h3,h4,h5,h6,h7,h8,h9,h10,h11,h12,k⟩
abbrev kE13 {s1 s2 s3 s4 s5 s6 s7 s8 s9 s10 s11 s12 s13:Qb} (h1:s1.ok P N W) (h2:s2.ok P N W) (h3:s3.ok P N W) (h4:s4.ok P N W) (h5:s5.ok P N W) (h6:s6.ok P N W) (h7:s7.ok P N W) (h8:s8.ok P N W) (h9:s9.ok P N W) (h10:s10.ok P N W) (h11:s11.ok P N W) (h12:s12.ok P N W) (h13:s13.ok P N W):QU P N W [s1,s2,s3,s4,s5,s6,s7,s8,s9,s10,s11,s12,s13]:=⟨h1,h2,h3,h4,h5,h6,h7,h8,h9,h10,h11,h12,h13,trivial⟩
abbrev kO13 {s1 s2 s3 s4 s5 s6 s7 s8 s9 s10 s11 s12 s13:Qb} {l:List Qb} (h1:s1.ok P N W) (h2:s2.ok P N W) (h3:s3.ok P N W) (h4:s4.ok P N W) (h5:s5.ok P N W) (h6:s6.ok P N W) (h7:s7.ok P N W) (h8:s8.ok P N W) (h9:s9.ok P N W) (h10:s10.ok P N W) (h11:s11.ok P N W) (h12:s12.ok P N W) (h13:s13.ok P N W) (k:QU P N W l):QU P N W (s1::s2::s3::s4::s5::s6::s7::s8::s9::s10::s11::s12::s13::l):=⟨h1,h2,h3,h4,h5,h6,h7,h8,h9,h10,h11,h12,h13,k⟩
abbrev kE14 {s1 s2 s3 s4 s5 s6 s7 s8 s9 s10 s11 s12 s13 s14:Qb} (h1:s1.ok P N W) (h2:s2.ok P N W) (h3:s3.ok P N W) (h4:s4.ok P N W) (h5:s5.ok P N W) (h6:s6.ok P N W) (h7:s7.ok P N W) (h8:s8.ok P N W) (h9:s9.ok P N W) (h10:s10.ok P N W) (h11:s11.ok P N W) (h12:s12.ok P N W) (h13:s13.ok P N W) (h14:s14.ok P N W):QU P N W [s1,s2,s3,s4,s5,s6,s7,s8,s9,s10,s11,s12,s13,s14]:=⟨h1,h2,h3,h4,h5,h6,h7,h8,h9,h10,h11,h12,h13,h14,trivial⟩
abbrev kO14 {s1 s2 s3 s4 s5 s6 s7 s8 s9 s10 s11 s12 s13 s14:Qb} {l:List Qb} (h1:s1.ok P N W) (h2:s2.ok P N W) (h3:s3.ok P N W) (h4:s4.ok P N W) (h5:s5.ok P N W) (h6:s6.ok P N W) (h7:s7.ok P N W) (h8:s8.ok P N W) (h9:s9.ok P N W) (h10:s10.ok P N W) (h11:s11.ok P N W) (h12:s12.ok P N W) (h13:s13.ok P N W) (h14:s14.ok P N W) (k:QU P N W l):QU P N W (s1::s2::s3::s4::s5::s6::s7::s8::s9::s10::s11::s12::s13::s14::l):=⟨h1,h2,h3,h4,h5,h6,h7,h8,h9,h10,h11,h12,h13,h14,k⟩
abbrev kE15 {s1 s2 s3 s4 s5 s6 s7 s8 s9 s10 s11 s12 s13 s14 s15:Qb} (h1:s1.ok P N W) (h2:s2.ok P N W) (h3:s3.ok P N W) (h4:s4.ok P N W) (h5:s5.ok P N W) (h6:s6.ok P N W) (h7:s7.ok P N W) (h8:s8.ok P N W) (h9:s9.ok P N W) (h10:s10.ok P N W) (h11:s11.ok P N W) (h12:s12.ok P N W) (h13:s13.ok P N W) (h14:s14.ok P N W) (h15:s15.ok P N W):QU P N W [s1,s2,s3,s4,s5,s6,s7,s8,s9,s10,s11,s12,s13,s14,s15]:=⟨h1,h2,h3,h4,h5,h6,h7,h8,h9,h10,h11,h12,h13,h14,h15,trivial⟩
abbrev kO15 {s1 s2 s3 s4 s5 s6 s7 s8 s9 s10 s11 s12 s13 s14 s15:Qb} {l:List Qb} (h1:s1.ok P N W) (h2:s2.ok P N W) (h3:s3.ok P N W) (h4:s4.ok P N W) (h5:s5.ok P N W) (h6:s6.ok P N W) (h7:s7.ok P N W) (h8:s8.ok P N W) (h9:s9.ok P N W) (h10:s10.ok P N W) (h11:s11.ok P N W) (h12:s12.ok P N W) (h13:s13.ok P N W) (h14:s14.ok P N W) (h15:s15.ok P N W) (k:QU P N W l):QU P N W (s1::s2::s3::s4::s5::s6::s7::s8::s9::s10::s11::s12::s13::s14::s15::l):=⟨h1,h2,h3,h4,h5,h6,h7,h8,h9,h10,h11,h12,h13,h14,h15,k⟩
abbrev Q7 {s1 s2 s3 s4 s5 s6 s7 s8 s9 s10 s11 s12 s13 s14 s15 s16:Qb} (h1:s1.ok P N W) (h2:s2.ok P N W) (h3:s3.ok P N W) (h4:s4.ok P N W) (h5:s5.ok P N W) (h6:s6.ok P N W) (h7:s7.ok P N W) (h8:s8.ok P N W) (h9:s9.ok P N W) (h10:s10.ok P N W) (h11:s11.ok P N W) (h12:s12.ok P N W) (h13:s13.ok P N W) (h14:s14.ok P N W) (h15:s15.ok P N W) (h16:s16.ok P N W):QU P N W [s1,s2,s3,s4,s5,s6,s7,s8,s9,s10,s11,s12,s13,s14,s15,s16]:=⟨h1,h2,h3,h4,h5,h6,h7,h8,h9,h10,h11,h12,h13,h14,h15,h16,trivial⟩
abbrev kO16 {s1 s2 s3 s4 s5 s6 s7 s8 s9 s10 s11 s12 s13 s14 s15 s16:Qb} {l:List Qb} (h1:s1.ok P N W) (h2:s2.ok P N W) (h3:s3.ok P N W) (h4:s4.ok P N W) (h5:s5.ok P N W) (h6:s6.ok P N W) (h7:s7.ok P N W) (h8:s8.ok P N W) (h9:s9.ok P N W) (h10:s10.ok P N W) (h11:s11.ok P N W) (h12:s12.ok P N W) (h13:s13.ok P N W) (h14:s14.ok P N W) (h15:s15.ok P N W) (h16:s16.ok P N W) (k:QU P N W l):QU P N W (s1::s2::s3::s4::s5::s6::s7::s8::s9::s10::s11::s12::s13::s14::s15::s16::l):=⟨h1,h2,h3,h4,h5,h6,h7,h8,h9,h10,h11,h12,h13,h14,h15,h16,k⟩
variable {Q:Exit→Act→World→Prop}
theorem gO {n:Nat} (c:Code) (t:Tg) {k:List K} {fr:Fr} (lv:Fr) {bs:List Zp} (bs':List Zp) {sd:List Qb} {G:Env} {a:Act} {w:World} (hst:St N W n fr bs G a w) (hs:QU P N W sd)
 (hq: ∀ G' a' w',St N W n lv bs' G' a' w'→(∀ i,i<bs.length→same G' G i)→ZZ P Q (Qc c t) .normal a' w')
 (h:runV P n t k fr bs (anss sd) (lv.map (·.1))=some (.nrm,Qc c t,lv.map (fun x=>some x.2),bs',sd):=by kernel_rfl):ZZ P Q k .normal a w:=go t (e:=.nrm) lv bs' hst hs h hq
theorem gF {n:Nat} (e:Ex) {k:List K} {fr:Fr} (lv:Fr) {bs:List Zp} (bs':List Zp) {sd:List Qb} {G:Env} {a:Act} {w:World} (hst:St N W n fr bs G a w) (hs:QU P N W sd)
 (hq: ∀ G' a' w',St N W n lv bs' G' a' w'→(∀ i,i<bs.length→same G' G i)→ZZ P Q [] e.conc a' w')
 (h:runV P n .fin k fr bs (anss sd) (lv.map (·.1))=some (e,[],lv.map (fun x=>some x.2),bs',sd):=by kernel_rfl):ZZ P Q k .normal a w:=go .fin (e:=e) lv bs' hst hs h hq
theorem gE {n:Nat} {k:List K} {fr:Fr} {bs:List Zp} {sd:List Qb} {G:Env} {a:Act} {w:World} {fn:Func} {R:Ending→World→Prop} (hst:St N W n fr bs G a w) (hs:QU P N W sd) (vs:List Value)
 (hR: ∀ w',Below N W w'→R (.returned (resR vs)) w')
 (h:runE' P n k fr bs (anss sd) fn.results.toList=some (vs.map .v,sd):=by kernel_rfl):ZZ P (bodyPost P fn R) k .normal a w:=goE hst hs h hR
end
end RC
end Go.Proofs.YtddedijencleeaaGreatDoor
