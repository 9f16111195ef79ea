/- Rows that grow by append, for the evaluator. No program's code. -/
import Derived.Test.YtddedijencleeaaGreatDoorMSq
import Derived.Test.YtddedijencleeaaGreatDoorMGb
import Derived.Test.YtddedijencleeaaGreatDoorMGh
import Derived.Test.YtddedijencleeaaGreatDoorMTn
import Derived.Laws.ResultCell
set_option linter.all false
namespace Go.Proofs.YtddedijencleeaaGreatDoor
open Go.RowKit Go.Lib

section
variable {W wr:World} {e:TypeId} {size k:Nat} {v:Value} {css:Nat→List Value} {Q:World→Nat→List Value→Prop}
theorem JP.next' (h:JP W wr e size k v css Q) (hQ: ∀ W1 W2 i cs,Jw W1 W2→Q W1 i cs→Q W2 i cs) {W3 W4:World} {B:Nat} (hB:wr.heap.size≤B) {ds:List Value} (hb:Below wr.heap.size wr W3) (hq:Q (World.only W3 fun g=>B≤g) k ds) (hl:ds.length=size) (h1:ds.toArray.all (·.oneCell')=true)
 {v':Value} (ho:W4.ownsRow W.heap.size e size v' (k+1) (ZH css k++ds)) (hg:W3.grownBy W4 v.ownBlock) (hat:v'.ownBlock=v.ownBlock∨v'.ownBlock=some W3.heap.size) :
 JP W W4 e size (k+1) v' (fun j=>if j=k then ds else css j) Q:=by
 have hgs:=hg.size
 have hbs:=hb.size
 have hold: ∀ b,b<W3.heap.size→v.ownBlock≠some b→W4.heap[b]?=W3.heap[b]?:=fun b h1 h2=>hg.block b h1 (Ne.symm h2)
 have hv: ∀ b,v.ownBlock=some b→W.heap.size≤b∧b<wr.heap.size:=fun b hb'=>h.own.lt b hb'
 have e1:ZH (fun j=>if j=k then ds else css j) (k+1)=ZH css k++ds:=by
  rw [KQ,if_pos rfl,flatN_congr (dss:=css) fun j hj=>if_neg (by omega)]
 refine ⟨by rw [e1];exact ho,?_,fun j hj=> ?_,fun j hj=> ?_⟩
 · exact (h.bl.trans (hb.mono h.bl.size)).grown hg (by have:=h.bl.size;omega) fun k hk=>(hv k hk).1
 · split
   · exact ⟨hl,h1⟩
   exact h.len j (by omega)
 have fresh: ∀ b,b<W3.heap.size→v.ownBlock≠some b→v'.ownBlock≠some b:=fun b hb1 hb2=>by
  rcases hat with hat | hat
  · rw [hat];exact hb2
  rw [hat];exact fun hh=>by injection hh;omega
 split
 · subst j
   refine hQ _ _ _ _ (Za hgs fun b hb1 hb2=> ?_) hq
   have hne:v.ownBlock≠some b:=fun hh=>by have:=(hv b hh).2;omega
   exact ⟨⟨by have:=h.bl.size;omega,fresh b hb1 hne⟩,hold b hb1 hne⟩
 refine hQ _ _ _ _ (Za (by omega) fun b hb1 hb2=> ?_) (h.q j (by omega))
 exact ⟨⟨hb2.1,fresh b (by omega) hb2.2⟩,(hold b (by omega) hb2.2).trans (hb.block b hb1)⟩
end
theorem JP.keep {W wr w':World} {e:TypeId} {size k:Nat} {v:Value} {css:Nat→List Value} {Q:World→Nat→List Value→Prop} (h:JP W wr e size k v css Q) (hQ: ∀ W1 W2 i cs,Jw W1 W2→Q W1 i cs→Q W2 i cs) (hb:Below wr.heap.size wr w'):JP W w' e size k v css Q:=
 ⟨h.own.kept (row:=none) ⟨hb.os,hb.tape,hb.output,hb.size,fun k hk _=>hb.block k hk⟩ (by cases v.ownBlock <;> simp),h.bl.trans (hb.mono h.bl.size),h.len,fun j hj=>hQ _ _ _ _ (Za hb.size fun b h1 h2=>⟨h2,hb.block b h1⟩) (h.q j hj)⟩
namespace RC
abbrev VF:=List (Nat × Value)
def vfr:VF→Fr
 | []=>[]
 | (s,x)::l=>(s,.v x)::vfr l
def Jk (G:Env):Fr→VF
 | []=>[]
 | (s,x)::l=>(s,x.conc G)::Jk G l
theorem get_conc {G:Env}: ∀ (fr:Fr) (s:Nat),get (vfr (Jk G fr)) s=(get fr s).map fun v=>.v (v.conc G)
 | [],s=>rfl
 | (d,x)::l,s=>by
   simp only [Jk,vfr,get]
   cases Nat.beq d s with
   | true=>rfl
   | false=>exact get_conc l s
theorem vfr_lt (b:Nat): ∀ l:VF,okF b (vfr l)=true
 | []=>rfl
 | (s,x)::l=>by
   simp only [vfr,okF,List.all_cons,RV.lt,RV.all,Bool.true_and]
   exact vfr_lt b l
theorem RpP.base (w:World):Rp w.heap.size w env0 [] w:=Rp.start w
section
variable {P:Program} {N:Nat} {W:World} {Q:Exit→Act→World→Prop}
theorem St.reb {n:Nat} {fr:Fr} {bs:List Zp} {G:Env} {a:Act} {w:World} (h:St N W n fr bs G a w):St w.heap.size w n (vfr (Jk G fr)) [] env0 a w:=by
 refine ⟨⟨h.env.defers,h.env.size,fun s v hs=> ?_⟩,Rp.start w,vfr_lt _ _⟩
 rw [get_conc] at hs
 cases hv:get fr s with
 | none=>rw [hv] at hs;cases hs
 | some u=>
  rw [hv] at hs
  simp only [Option.map_some,Option.some.injEq] at hs
  subst hs
  exact h.env.get s u hv
theorem vfr_v: ∀ {l:VF} {s:Nat} {v:RV},(s,v) ∈ vfr l→ ∃ x,v= .v x
 | [],s,v,h=>by cases h
 | y::l,s,v,h=>by
   rcases List.mem_cons.1 h with e | h
   · cases e;exact ⟨_,rfl⟩
   · exact vfr_v h
def EV (n:Nat) (l:VF) (a:Act):Prop:=K8 env0 n (vfr l) a
theorem St.ev {n:Nat} {l:VF} {bs:List Zp} {G:Env} {a:Act} {w:World} (h:St N W n (vfr l) bs G a w):EV n l a:=
 ⟨h.env.defers,h.env.size,fun s v hs=>by
   obtain ⟨x,rfl⟩:=vfr_v (get_mem hs)
   exact h.env.get s _ hs⟩
theorem EV.st {n:Nat} {l:VF} {a:Act} (h:EV n l a) (w:World):St w.heap.size w n (vfr l) [] env0 a w:=⟨h,Rp.start w,vfr_lt _ _⟩
theorem EV.put {n:Nat} {l:VF} {a:Act} (h:EV n l a) {d:Nat} (hd:d<n) (v:Value):EV n ((d,v)::l) (a.put (some d) v):=
 K8.put (v:=.v v) h (by
  have:Nat.blt d n=true:=by rw [Nat.blt_eq];exact hd
  simp only [RC.put,this,cond_true];rfl)
def opOf (k:List K):Oper:=match k with
 | .l _ _ _ (o::_)::_=>o
 | _=>default
theorem Z5 {n:Nat} {k k':List K} {fr:Fr} {bs:List Zp} {G:Env} {a:Act} {wr w w0:World} {o:Oper} {te e:TypeId} {z:Value} {size bytes sA sY d jb i:Nat} {row:Value} {cs:List RV} {css:Nat→List Value} {Qe:World→Nat→List Value→Prop} (lv:VF)
 (hst:St wr.heap.size wr n fr bs G a w) (h:opAt k fr=some (o,k')) (ho:o.op= .call { callee:=.builtin .append,args:= #[.tmp sA,.tmp sY],argTypes:= #[te,te] }) (hd:o.dst=some d) (hdn:Nat.blt d n=true)
 (hA:get fr sA=some (.v row)) (hY:get fr sY=some (.s jb 0 1 1)) (hb:bs[jb]?=some (.box cs)) (hlv:(vfr lv).map (fun x=>get fr x.1)=(vfr lv).map (fun x=>some x.2))
 (ht:P.underlying te=some (.slice e)) (hi:(P.info? e).map (fun i=>(i.zero,i.size,i.bytes))=some (some z,size,bytes)) (hzs:z.cells.size=size) (hsz:0<size) (hby:(i+1)*bytes≤140737488355328) (hmax:i<9223372036854775807)
 (hout:JP w0 wr e size i row css Qe) (hQ: ∀ W1 W2 i cs,Jw W1 W2→Qe W1 i cs→Qe W2 i cs) (hcl:(Qu G cs).length=size) (hone: ∀ u ∈ Qu G cs,u.oneCell'=true) (hq:Qe (World.only w fun b=>wr.heap.size≤b) i (Qu G cs))
 (hk: ∀ v' w' a',JP w0 w' e size (i+1) v' (fun j=>if j=i then Qu G cs else css j) Qe→EV n ((d,v')::lv) a'→ZZ P Q k' .normal a' w'):ZZ P Q k .normal a w:=by
 refine at_op hst h fun Q'=> ?_
 obtain ⟨ti,h1,h2,h3,h4⟩:=(show ∃ i,P.info? e=some i∧i.zero=some z∧i.size=size∧i.bytes=bytes by
  cases hq:P.info? e with
  | none=>rw [hq] at hi;cases hi
  | some i=>rw [hq] at hi;simp only [Option.map_some,Option.some.injEq,Prod.mk.injEq] at hi;exact ⟨i,rfl,hi.1,hi.2.1,hi.2.2⟩)
 have hbl:Below wr.heap.size wr w:=hst.rp.below
 have hrow:w.ownsRow w0.heap.size e size row i (ZH css i):=
  hout.own.kept (row:=none) ⟨hbl.os,hbl.tape,hbl.output,hbl.size,fun k hk _=>hbl.block k hk⟩ (by cases row.ownBlock <;> simp)
 have e1:a.eval (.tmp sA)=row:=hst.env.eval (x:=.tmp sA) hA
 have e2:a.eval (.tmp sY)= .slice (some ⟨G.g jb,0,none⟩) 1 1:=hst.env.eval (x:=.tmp sY) hY
 have hsb:=(hst.rp.sb jb cs hb).1
 obtain ⟨v',w',q1,q2,q3,_,q5⟩:=run_append_own_at (P:=P) w w0.heap.size te o.type e ti z size bytes ht h1 h2 h3 h4 hzs hsz row i (ZH css i) hrow ⟨G.g jb,0,none⟩ 1 1 (Qu G cs) (by rw [hcl];omega) (fun j u hj=>by rw [Addr.add_at,Nat.zero_add];exact hsb.cell j hj) hone (by unfold maxLen;omega) hby (Nat.le_trans hout.bl.size hbl.size)
 have hev:EV n lv a:=⟨hst.env.defers,hst.env.size,fun s v hs=>by
  obtain ⟨x,rfl⟩:=vfr_v (get_mem hs)
  have:get fr s=some (.v x):=by
   have hm:=get_mem hs
   have:=List.map_inj_left.1 hlv _ hm
   exact this
  exact hst.env.get s _ this⟩
 rw [Nat.blt_eq] at hdn
 unfold Oper.wp execOp
 simp only [ho,resolve,invoke,builtin,Sem.run_bind,Sem.run_pure,Result.andThen_ok,List.map_toArray,List.map_cons,List.map_nil,e1,e2,q1,hd]
 exact hk v' w' _ (hout.next' hQ (Nat.le_refl _) hbl hq hcl (all_oneCell_toArray hone) q2 q3 q5) (by rw [hd];exact hev.put hdn v')
theorem rowLoop {nn:Nat} (c:Code) (id sC sR:Nat) (n:Nat) (e:TypeId) (size:Nat) (Qe:World→Nat→List Value→Prop) {lv:VF} {a:Act} {w0:World}
 (hk:Qc c (.loop id)= .c (.loop (Qn c id)):: .b id::Qc c (.out id)) (hst:EV nn ((sC,.int .i64 (0:Nat))::(sR,.slice none 0 0)::lv) a)
 (round: ∀ i,i<n→ ∀ row wr a css,JP w0 wr e size i row css Qe→EV nn ((sC,.int .i64 (i:Nat))::(sR,row)::lv) a →
   ZZ P (Exit.then (fun a' w'=> ∃ v' css',EV nn ((sC,.int .i64 ((i+1:Nat):Int))::(sR,v')::lv) a'∧JP w0 w' e size (i+1) v' css' Qe) (ZZ P Q (.b id::Qc c (.out id)))) [.c (Qn c id)] .normal a wr)
 (ends: ∀ row wr a css,JP w0 wr e size n row css Qe→EV nn ((sC,.int .i64 (n:Nat))::(sR,row)::lv) a→ZZ P (Exit.then (fun _ _=>False) (ZZ P Q (.b id::Qc c (.out id)))) [.c (Qn c id)] .normal a wr):ZZ P Q (Qc c (.loop id)) .normal a w0:=by
 refine Kt c id hk n (fun i a' w'=> ∃ row css,EV nn ((sC,.int .i64 (i:Nat))::(sR,row)::lv) a'∧JP w0 w' e size i row css Qe) ⟨_,fun _=>[],hst,JP.start⟩ ?_ ?_
 · rintro i hi a2 w2 ⟨row,css,h1,h2⟩
   exact round i hi row w2 a2 css h2 h1
 rintro a2 w2 ⟨row,css,h1,h2⟩
 exact ends row w2 a2 css h2 h1
theorem St.back {n:Nat} {fr0 fr:Fr} {bs:List Zp} {G:Env} {a a':Act} {w w':World} (h:St N W n fr0 bs G a w) (hb:Below w.heap.size w w') (hcl:okF bs.length fr=true) (he:EV n (Jk G fr) a'):St N W n fr bs G a' w' :=
 ⟨⟨he.defers,he.size,fun s v hs=>by
   have:=he.get s (.v (v.conc G)) (by rw [get_conc,hs];rfl)
   exact this⟩,h.rp.call hb,hcl⟩
theorem rowLoopR {nn:Nat} (c:Code) (id sC sR:Nat) (n:Nat) (e:TypeId) (size:Nat) (Qe:World→Nat→List Value→Prop) {lv:Fr} {bs:List Zp} {G:Env} {a:Act} {w0:World}
 (hk:Qc c (.loop id)= .c (.loop (Qn c id)):: .b id::Qc c (.out id)) (hst:St N W nn ((sC,.v (.int .i64 (0:Nat)))::(sR,.v (.slice none 0 0))::lv) bs G a w0)
 (round: ∀ i,i<n→ ∀ row wr a css,JP w0 wr e size i row css Qe→Rp N W G bs wr→St wr.heap.size wr nn (vfr ((sC,.int .i64 (i:Nat))::(sR,row)::Jk G lv)) [] env0 a wr →
   ZZ P (Exit.then (fun a' w'=> ∃ v' css',EV nn ((sC,.int .i64 ((i+1:Nat):Int))::(sR,v')::Jk G lv) a'∧JP w0 w' e size (i+1) v' css' Qe) (ZZ P Q (.b id::Qc c (.out id)))) [.c (Qn c id)] .normal a wr)
 (ends: ∀ row wr a css,JP w0 wr e size n row css Qe→St N W nn ((sC,.v (.int .i64 (n:Nat)))::(sR,.v row)::lv) bs G a wr→ZZ P (Exit.then (fun _ _=>False) (ZZ P Q (.b id::Qc c (.out id)))) [.c (Qn c id)] .normal a wr):ZZ P Q (Qc c (.loop id)) .normal a w0:=by
 have hcl:okF bs.length lv=true:=by
  have:=hst.cl
  simp only [okF,List.all_cons,Bool.and_eq_true] at this
  exact this.2.2
 refine rowLoop c id sC sR n e size Qe (lv:=Jk G lv) hk ?_ (fun i hi row wr a css h1 h2=>round i hi row wr a css h1 (hst.rp.call h1.bl) (h2.st wr)) fun row wr a css h1 h2=>ends row wr a css h1 ?_
 · have:=hst.reb.ev
   simpa [Jk,RV.conc] using this
 exact hst.back h1.bl (by simpa [okF,RV.lt,RV.all] using hcl) (by simpa [Jk,RV.conc] using h2)
theorem Qb.ofBox {G:Env} {bs:List Zp} {w:World} (h:Rp N W G bs w) {i:Nat} {cs:List RV} (hi:bs[i]?=some (.box cs)) {t:TypeId} {o:Nat} {v:RV} (hr:Zn P t=some false) (ho:cs[o]?=some v):Qb.ok P w.heap.size w (.get t (.pointer (some ⟨G.g i,o,none⟩)) (v.conc G)):=
 Qb.cell hr ((h.sb i cs hi).1.cell o (concL_get ho)) (h.lt hi) (Nat.le_refl _)
theorem Qb.appNil {te e:TypeId} {z:Value} {size bytes n:Nat} {u:Value} {R:Nat→List Value→Prop} (ht:P.underlying te=some (.slice e)) (hi:(P.info? e).map (fun i=>(i.zero,i.size,i.bytes))=some (some z,size,bytes)) (hzs:z.cells.size=size) (hsz:0<size)
 (hu:QR W size bytes n u R) (hN:N=W.heap.size):Qb.ok P N W (.app te te (.slice none 0 0) u (po1 (fun w v=>QR w size bytes n v R) (fun W1 W2 v hs h=>h.sub hs))):=by
 subst hN
 intro ty w hw
 obtain ⟨ti,h1,h2,h3,h4⟩:=info_parts hi
 have hu':QR w size bytes n u R:=hu.sub (.below hw)
 obtain ⟨A,c,css,rfl,hby,hn,hcss,hcell,hnone⟩:=hu'.named
 cases A with
 | none=>
  have h0:n=0:=hnone rfl
  subst h0
  refine ⟨.slice none 0 0,w,?_,rfl,Below.refl _ _,.slice none 0 0,rfl,⟨none,0,rfl,Nat.le_refl _,by omega,hby,fun h=>absurd h (by omega)⟩⟩
  simp [Builtin.append_,run_underlying ht,sizeOf,typeInfo,h1,Builtin.lenOf,Builtin.firstCells]
 | some ad=>
  obtain ⟨v',w',q1,q2,q3,_,q5⟩:=run_append_own_at (P:=P) w w.heap.size te ty e ti z size bytes ht h1 h2 h3 h4 hzs hsz (.slice none 0 0) 0 [] (World.ownsRow_nil w _ e size) ad n c (ZH css n) (flatN_len fun j hj=>(hcss j hj).1) (hcell ad rfl) (flatN_one fun j hj=>(hcss j hj).2.1) (by unfold maxLen;omega) (by rw [Nat.zero_add];exact hby) (Nat.le_refl _)
  rw [Nat.zero_add,List.nil_append] at q2
  have hO:JP w w' e size n v' css fun _ i cs=>R i cs:=⟨q2,(Below.refl _ _).grown q3 (Nat.le_refl _) fun k hk=>(by cases hk),fun j hj=>⟨(hcss j hj).1,(hcss j hj).2.1⟩,fun j hj=>(hcss j hj).2.2⟩
  have hd:=hO.done (fun _ _ _ _ _ h=>h) hby
  refine ⟨v',w',q1,?_,hO.bl,v',rfl,hd⟩
  obtain ⟨A',c',hv,_⟩:=hd
  rw [hv];rfl
theorem St.learn {n s:Nat} {x:Value} {fr:Fr} {bs:List Zp} {G:Env} {a:Act} {w:World} (po:Po) (h:St N W n ((s,.v x)::fr) bs G a w) (h1:x.oneCell'=true) (hp:po.p [x] (World.only w (own N G (lb bs)))) :
 ∃ G',St N W n ((s,.x bs.length 0)::fr) (bs++[.unk 1 po]) G' a w∧ ∀ i,i<bs.length→same G' G i:=by
 have hn:lb bs bs.length=none:=List.getElem?_eq_none (Nat.le_refl _)
 let G':Env:=⟨G.g,fun j=>if j=bs.length then [x] else G.u j⟩
 have hs: ∀ i,i<bs.length→same G' G i:=fun i hi=>⟨rfl,by simp only [G',show i≠bs.length by omega,if_false]⟩
 have hsB: ∀ i,(lb bs i).isSome=true→same G' G i:=fun i hi=>hs i (by rw [lb_some,Nat.blt_eq] at hi;exact hi)
 have hup:KJ (lb bs) bs.length (.unk 1 po)=lb (bs++[.unk 1 po]):=lb_upd bs (.al (.unk 1 po)) (fun i cs e=>by cases e)
 have old: ∀ i cs,KJ (lb bs) bs.length (.unk 1 po) i=some (.box cs)→lb bs i=some (.box cs):=fun i cs hi=>by
  unfold KJ at hi
  split at hi
  · cases hi
  exact hi
 have own': ∀ b,own N G (lb bs) b→own N G' (KJ (lb bs) bs.length (.unk 1 po)) b:=fun b hb=>⟨hb.1,fun j ds hj=>hb.2 j ds (old j ds hj)⟩
 have hcl:=h.cl
 simp only [okF,List.all_cons,Bool.and_eq_true] at hcl
 refine ⟨G',⟨⟨h.env.defers,h.env.size,fun t v ht=> ?_⟩,?_,?_⟩,hs⟩
 · unfold get at ht
   have hold:=h.env.get t
   unfold get at hold
   cases e:Nat.beq s t with
   | true=>
    rw [e,cond_true] at ht hold
    cases ht
    have:=hold (.v x) rfl
    rw [this]
    simp [RV.conc,G']
   | false=>
    rw [e,cond_false] at ht hold
    rw [hold v ht]
    have hv:=okF_get (b:=bs.length) (fr:=fr) (by simp only [okF];exact hcl.2) ht
    exact congrArg some (conc_congr (f:=fun i=>Nat.blt i bs.length) (fun i hi=>hs i (by simpa [Nat.blt_eq] using hi)) v hv).symm
 · show RpP N W G' (lb (bs++[.unk 1 po])) w
   rw [← hup]
   refine ⟨h.rp.below,fun i ds hi=> ?_,fun i ds hi=>ZE isSome_upd _ (h.rp.cl i ds (old i ds hi)),fun i m' po' hi=> ?_,fun i j ci cj hi hj e=>h.rp.inj i j ci cj (old i ci hi) (old j cj hj) e,h.rp.le⟩
   · rw [Kv hsB ds (h.rp.cl i ds (old i ds hi))]
     exact h.rp.sb i ds (old i ds hi)
   by_cases e:i=bs.length
   · subst e
     unfold KJ at hi
     rw [if_pos rfl] at hi
     cases hi
     simp only [G',if_true]
     exact ⟨rfl,fun v hv=>by rw [List.mem_singleton] at hv;rw [hv];exact h1,po.mono _ _ _ (Za (Nat.le_refl _) fun b hlt hb2=>⟨own' b hb2,rfl⟩) hp⟩
   unfold KJ at hi
   rw [if_neg e] at hi
   obtain ⟨q1,q2,q3⟩:=h.rp.un i m' po' hi
   simp only [G',e,if_false]
   exact ⟨q1,q2,po'.mono _ _ _ (Za (Nat.le_refl _) fun b hlt hb2=>⟨own' b hb2,rfl⟩) q3⟩
 simp only [okF,List.all_cons,Bool.and_eq_true]
 refine ⟨by simp [RV.lt,RV.all,Nat.blt_eq],?_⟩
 have:=okF_mono (n:=bs.length) (m:=(bs++[Zp.unk 1 po]).length) (by simp) (fr:=fr) (by simp only [okF];exact hcl.2)
 simpa [okF] using this
theorem St.row {n s:Nat} {x:Value} {fr:Fr} {bs:List Zp} {G:Env} {a:Act} {w0 w:World} {e:TypeId} {size bytes k:Nat} {css:Nat→List Value} {Qe:World→Nat→List Value→Prop} (po:Po) (h:St N W n ((s,.v x)::fr) bs G a w) (h0:Rp N W G bs w0) (hO:JP w0 w e size k x css Qe)
 (hQ: ∀ W1 W2 i cs,Jw W1 W2→Qe W1 i cs→Qe W2 i cs) (hby:k*bytes≤140737488355328) (hp: ∀ w,QR w size bytes k x (fun i ds=>Qe w i ds)→po.p [x] w) :
 ∃ G',St N W n ((s,.x bs.length 0)::fr) (bs++[.unk 1 po]) G' a w∧ ∀ i,i<bs.length→same G' G i:=by
 have hd:=hO.done hQ hby
 refine h.learn po (by obtain ⟨A,c,hx,_⟩:=hd;rw [hx];rfl) (po.mono _ _ _ (Za (p:=fun b=>w0.heap.size≤b) (Nat.le_refl _) fun b _ hb=>⟨⟨Nat.le_trans h0.le hb,fun i cs hi=> ?_⟩,rfl⟩) (hp _ hd))
 have:=h0.lt hi
 omega
end
end RC
end Go.Proofs.YtddedijencleeaaGreatDoor

/- Words; isWord; slices.Index, Contains of texts. -/
set_option linter.all false
namespace Go.Proofs.YtddedijencleeaaGreatDoor
set_option maxRecDepth 100000
set_option maxHeartbeats 1000000
open Tryz
open Go.RowKit Go.Lib RC

def partsT (o:Op):List ByteArray:=match o with
 | .buildSlice _ _ ps=>ps.toList.map fun p=>match p.2 with
   | .const (.string s)=>s
   | _=>⟨#[]⟩
 | _=>[]
noncomputable def ZV:List ByteArray:=partsT (opOf (Qc (Qt f135) (.op 1 0))).op
theorem words_lex' (W:World):Calls prog 135 #[] W fun r W'=>r= .returned (.slice (some ⟨W.heap.size,0,none⟩) 49 49)∧W'=W.alloc (.cells (ZV.map .string).toArray 9):=by
 go_enter func135,ntmps135
 go_wp2
 go_ret
 exact ⟨rfl,by as_aux_lemma=>kernel_rfl⟩
theorem words_lex (W:World):Calls prog 135 #[] W fun r W'=> ∃ v,r= .returned v∧ZD (World.only W' fun b=>W.heap.size≤b) 49 (fun i=>ZV.getD i ⟨#[]⟩) v∧Below W.heap.size W W':=by
 refine (words_lex' W).mono ?_
 rintro e w ⟨rfl,rfl⟩
 refine ⟨_,rfl,?_,(Below.refl _ _).alloc (Nat.le_refl _) _⟩
 have S:=SB.new W (ZV.map .string) 9
 have hl:ZV.length=49:=by kernel_rfl
 have hs: ∀ i,i<49→(ZV.getD i ⟨#[]⟩).size≤9223372036854775807:=fun i hi=>by
  have:(List.range 49).all (fun i=>decide ((ZV.getD i ⟨#[]⟩).size≤9223372036854775807))=true:=by kernel_rfl
  simpa using List.all_eq_true.1 this i (List.mem_range.2 hi)
 refine ⟨_,_,rfl,Nat.le_refl _,by omega,by omega,fun _=>⟨W.heap.size,0,rfl,by rw [only_size];exact S.lt,fun i hi=>⟨[.string (ZV.getD i ⟨#[]⟩)],rfl,by simp [Value.oneCell'],⟨rfl,hs i hi⟩,fun j v hj=> ?_⟩⟩⟩
 match j,hj with
 | 0,hj=>
  cases hj
  have:=S.cell i (u:=.string (ZV.getD i ⟨#[]⟩)) (by rw [List.getElem?_map,List.getD_eq_getElem?_getD,List.getElem?_eq_getElem (by omega)];rfl)
  rw [only_yes (Nat.le_refl _)]
  simpa using this
theorem words_ref' (W:World):Calls prog 185 #[] W fun r W'=>r= .returned (.slice (some ⟨W.heap.size,0,none⟩) 49 49)∧W'=W.alloc (.cells (ZV.map .string).toArray 9):=by
 go_enter func185,ntmps185
 go_wp2
 go_ret
 exact ⟨rfl,by as_aux_lemma=>kernel_rfl⟩
theorem words_ref (W:World):Calls prog 185 #[] W fun r W'=> ∃ v,r= .returned v∧ZD (World.only W' fun b=>W.heap.size≤b) 49 (fun i=>ZV.getD i ⟨#[]⟩) v∧Below W.heap.size W W':=by
 refine (words_ref' W).mono ?_
 rintro e w ⟨rfl,rfl⟩
 refine ⟨_,rfl,?_,(Below.refl _ _).alloc (Nat.le_refl _) _⟩
 have S:=SB.new W (ZV.map .string) 9
 have hl:ZV.length=49:=by kernel_rfl
 have hs: ∀ i,i<49→(ZV.getD i ⟨#[]⟩).size≤9223372036854775807:=fun i hi=>by
  have:(List.range 49).all (fun i=>decide ((ZV.getD i ⟨#[]⟩).size≤9223372036854775807))=true:=by kernel_rfl
  simpa using List.all_eq_true.1 this i (List.mem_range.2 hi)
 refine ⟨_,_,rfl,Nat.le_refl _,by omega,by omega,fun _=>⟨W.heap.size,0,rfl,by rw [only_size];exact S.lt,fun i hi=>⟨[.string (ZV.getD i ⟨#[]⟩)],rfl,by simp [Value.oneCell'],⟨rfl,hs i hi⟩,fun j v hj=> ?_⟩⟩⟩
 match j,hj with
 | 0,hj=>
  cases hj
  have:=S.cell i (u:=.string (ZV.getD i ⟨#[]⟩)) (by rw [List.getElem?_map,List.getD_eq_getElem?_getD,List.getElem?_eq_getElem (by omega)];rfl)
  rw [only_yes (Nat.le_refl _)]
  simpa using this
def anyN (n:Nat) (r:Nat→Bool):Bool:=(List.range n).any r
theorem anyN_at {n i:Nat} {r:Nat→Bool} (hi:i<n) (h:r i=true):anyN n r=true:=List.any_eq_true.2 ⟨i,List.mem_range.2 hi,h⟩
theorem anyN_no {n:Nat} {r:Nat→Bool} (h: ∀ i,i<n→r i=false):anyN n r=false:=by
 rw [anyN,List.any_eq_false]
 intro i hi
 rw [h i (List.mem_range.1 hi)]
 simp
theorem index_string {W:World} {n:Nat} {v:Value} {f:Nat→ByteArray} (hv:ZD W n f v) (s:ByteArray) :
 Calls prog 188 #[v,.string s] W fun e W'=> ∃ z:Int,e= .returned (.int .i64 z)∧decide (0≤z)=anyN n (fun i=>QB s (f i))∧Below W.heap.size W W':=by
 obtain ⟨A,c,rfl,hnc,hc,hby,hA⟩:=hv
 have HA:=Qh hA
 have hn:n≤9223372036854775807:=by omega
 clear hA hnc hc hby
 go_enter func188,ntmps188
 go_wp2
 go_loopw [5,8] (fun _ i wr=> ∃ k:Nat,k≤n∧i= .int .i64 k∧Hid ((∀ j,j<k→QB s (f j)=false)∧Below W.heap.size W wr)) (fun _ i _=>n - (RowKit.intOf i).toNat)
 case atStart=>exact ⟨0,Nat.zero_le _,rfl,Qh ⟨fun j hj=>by omega,Below.refl _ _⟩⟩
 case round=>
  obtain ⟨k,hk,rfl,HBW⟩:=hrel
  by_cases hlt:k<n
  · obtain ⟨b,o,rfl,hb,hcs⟩:=(Qa HA) (by omega)
    obtain ⟨cs,hl,hone,⟨rfl,_⟩,hr⟩:=hcs k hlt
    have c1:wr.cell? ⟨b,o+k,none⟩=some (.string (f k)):=by simpa using Q5 hr (Qa HBW).2 0 _ rfl
    clear hcs hr hb hl hone
    have HQ:Hid (QB s (f k)=(s.toList==(f k).toList)):=Qh rfl
    generalize hq:(s.toList==(f k).toList)=qk at HQ
    cases qk
    · go_wp2
      exact ⟨⟨k+1,by omega,by go_num,Qh ⟨fun j hj=>by rcases Nat.lt_succ_iff_lt_or_eq.1 hj with h | h;exact (Qa HBW).1 j h;rw [h];exact Qa HQ,(Qa HBW).2⟩⟩,by simp [RowKit.intOf];omega⟩
    go_wp2
    go_ret
    exact ⟨k,rfl,by rw [anyN_at hlt (Qa HQ)];simp,(Qa HBW).2⟩
  go_wp2
  go_ret
  have:k=n:=by omega
  subst this
  exact ⟨-1,rfl,by rw [anyN_no (Qa HBW).1];rfl,(Qa HBW).2⟩
theorem contains_string {W:World} {n:Nat} {v:Value} {f:Nat→ByteArray} (hv:ZD W n f v) (s:ByteArray) :
 Calls prog 134 #[v,.string s] W fun e W'=>e= .returned (.bool (anyN n (fun i=>QB s (f i))))∧Below W.heap.size W W':=by
 have HI:=Qh (index_string hv s)
 clear hv
 go_enter func134,ntmps134
 go_wp2_with fail
 refine (Qa HI).mono ?_
 rintro e w ⟨z,rfl,hz,hb⟩
 have HB:=Qh hb
 have HZ:=Qh hz
 clear hb hz
 go_wp2
 go_ret
 refine ⟨?_,Qa HB⟩
 rw [← Qa HZ]
 first | rfl | simp
theorem isWord_of (W:World) (s:ByteArray) (f:Nat→ByteArray) (hW:Calls prog 185 #[] W fun r W'=> ∃ v,r= .returned v∧ZD W' 49 f v∧Below W.heap.size W W') :
 Calls prog 128 #[.string s] W fun e W'=>e= .returned (.bool (anyN 49 (fun i=>QB s (f i))))∧Below W.heap.size W W':=by
 have HW:=Qh hW
 clear hW
 go_enter func128,ntmps128
 go_wp2_with fail
 refine (Qa HW).mono ?_
 rintro e w1 ⟨v,rfl,hv,hb1⟩
 obtain ⟨A,c,rfl,hnc,hc,hby,hA⟩:=hv
 have HA:=Qh hA
 have HB:=Qh hb1
 clear hA hnc hc hby HW hb1
 go_wp2
 go_loopw [4] (fun i wr=> ∃ k:Nat,k≤49∧i= .int .i64 k∧Hid ((∀ j,j<k→QB s (f j)=false)∧Below w1.heap.size w1 wr)) (fun i _=>49 - (RowKit.intOf i).toNat)
 case atStart=>exact ⟨0,Nat.zero_le _,rfl,Qh ⟨fun j hj=>by omega,Below.refl _ _⟩⟩
 case round=>
  obtain ⟨k,hk,rfl,HBW⟩:=hrel
  by_cases hlt:k<49
  · obtain ⟨b,o,rfl,hb,hcs⟩:=(Qa HA) (by omega)
    obtain ⟨cs,hl,hone,⟨rfl,_⟩,hr⟩:=hcs k hlt
    have c1:wr.cell? ⟨b,o+k,none⟩=some (.string (f k)):=by simpa using Q5 hr (Qa HBW).2 0 _ rfl
    clear hcs hr hb hl hone
    have HQ:Hid (QB s (f k)=((f k).toList==s.toList)):=Qh (by unfold QB;exact Bool.beq_comm ..)
    generalize hq:((f k).toList==s.toList)=qk at HQ
    cases qk
    · go_wp2
      exact ⟨⟨k+1,by omega,by go_num,Qh ⟨fun j hj=>by rcases Nat.lt_succ_iff_lt_or_eq.1 hj with h | h;exact (Qa HBW).1 j h;rw [h];exact Qa HQ,(Qa HBW).2⟩⟩,by simp [RowKit.intOf];omega⟩
    go_wp2
    go_ret
    exact ⟨by rw [anyN_at hlt (Qa HQ)];rfl,Below.andThen (Qa HB) (Qa HBW).2⟩
  go_wp2
  go_ret
  have:k=49:=by omega
  subst this
  exact ⟨by rw [anyN_no (Qa HBW).1];rfl,Below.andThen (Qa HB) (Qa HBW).2⟩
theorem isWord_ok (W:World) (s:ByteArray):Calls prog 128 #[.string s] W fun e W'=>e= .returned (.bool (anyN 49 (fun i=>QB s (ZV.getD i ⟨#[]⟩))))∧Below W.heap.size W W':=isWord_of W s _ ((words_ref W).mono fun e w ⟨v,h1,h2,h3⟩=>⟨v,h1,h2.sub only_sub,h3⟩)
end Go.Proofs.YtddedijencleeaaGreatDoor

/- tree.SameExpr, sameKey, SameTable: contracts. -/
set_option linter.all false
namespace Go.Proofs.YtddedijencleeaaGreatDoor
open Tryz
open Go.RowKit Go.Lib

theorem SB.two (W:World) (cs ds:List Value) (t:TypeId):SB ((W.alloc (.cells cs.toArray t)).alloc (.cells ds.toArray t)) W.heap.size cs∧SB ((W.alloc (.cells cs.toArray t)).alloc (.cells ds.toArray t)) (W.heap.size+1) ds:=by
 refine ⟨(SB.new W cs t).below ((Below.refl _ _).alloc (Nat.le_refl _) _),?_⟩
 have h:=SB.new (W.alloc (.cells cs.toArray t)) ds t
 have e:(W.alloc (.cells cs.toArray t)).heap.size=W.heap.size+1:=by simp
 rwa [e] at h
theorem eqVal (a b:Int) (s:ByteArray) (c d:Int) (t:ByteArray) (w:World):(Op.equalIn 10000 31 (.agg #[.int .i64 a,.int .i64 b,.string s]) (.agg #[.int .i64 c,.int .i64 d,.string t])).run prog w= .ok (valB a b c d s t) w:=by
 have u3:=underlying3
 have a3:=Tryz.isAgg3
 have z3:=Tryz.sizeOf3
 have u2:=underlying2
 have a2:=Tryz.isAgg2
 have z2:=Tryz.sizeOf2
 have u9:=underlying9
 have a9:=Tryz.isAgg9
 have z9:=Tryz.sizeOf9
 have hS:prog.underlying 31=some (.struct (prog.fieldsOf 31)):=by kernel_rfl
 have hp:prog.stoodInHeld 31=false:=by kernel_rfl
 rw [show (10000:Nat)=9999+1 from rfl,run_equalIn_agg w 9999 31 _ _ hS hp]
 simp only [Program.fieldsOf,underlying31]
 unfold valB QB
 go_simp
 by_cases h1:a=c <;> by_cases h2:b=d <;> by_cases h3:s.toList=t.toList <;> simp [h1,h2,h3]

end Go.Proofs.YtddedijencleeaaGreatDoor

/- tree.bare; tree.each of rows of rows; tree.Bare's closures: contracts. -/
set_option linter.all false
namespace Go.Proofs.YtddedijencleeaaGreatDoor
set_option maxRecDepth 100000
set_option maxHeartbeats 4000000
open Tryz
open Go.RowKit Go.Lib

theorem Z0 {P:Program} {fn:Func} {p:Tmp} {ty:TypeId} (h:fn.results= #[.cell p ty]) (tmps:Array Value) (w:World) {b o:Nat} (hp:tmps.getD p undef= .pointer (some ⟨b,o,none⟩)) {cs:List Value} {d:TypeDesc} (hc:w.rangeAt b o cs)
 (hu:P.underlying ty=some d) (hd:d.isRow=true) (hi:(P.info? ty).map (·.size)=some cs.length):(results fn tmps).run P w= .ok (.agg cs.toArray) w:=by
 have hl:=run_loadVar_mid (P:=P) w b o ty cs d hc hu hd hi
 have hp':tmps[p]?.getD undef= .pointer (some ⟨b,o,none⟩):=by simpa using hp
 have ha: ∀ w:World,(asAddr (tmps[p]?.getD undef)).run P w= .ok ⟨b,o,none⟩ w:=fun w=>by rw [hp'];rfl
 simp only [results,h]
 simp [Sem.run_bind,Result.andThen,ha,hl]
theorem Ze {b g:Nat} (hg:g≠b): ∀ (vs:List Value) (o:Nat) (w:World),(w.setCells b o vs).heap[g]?=w.heap[g]?
 | [],_,_=>rfl
 | v::r,o,w=>by rw [World.setCells,Ze hg r];exact Below.heap_setCell _ _ _ _ (by simpa using hg)
theorem eOne (k op vk vn:Int) (vt tb nm:ByteArray) (A:Option Addr) (n c:Nat) (pl ty:Int):(ZG k op vk vn vt tb nm (.slice A n c) pl ty).toArray.all (·.oneCell')=true:=by simp [ZG,Value.oneCell']
theorem Jw.later {W W':World} {B B':Nat} (hb:Below W.heap.size W W') (h:B'≤B):Jw (World.only W fun b=>B≤b) (World.only W' fun b=>B'≤b):=Za hb.size fun b h1 h2=>⟨by omega,hb.block b h1⟩
theorem bare_ok: ∀ (e:E) (cs:List Value) (W:World),QI W e cs →
 Calls prog 68 #[.agg cs.toArray] W fun r W'=> ∃ ds,r= .returned (.agg ds.toArray)∧QI (World.only W' fun b=>W.heap.size≤b) (QV e) ds∧Below W.heap.size W W'
 | .no,_,_,h=>False.elim h
 | .mk k op vk vn vt tb nm n args pl ty,cs,W,h=>by
   obtain ⟨wf,v,rfl,hv⟩:=h
   have HC:=Qh fun W' (hb:Below W.heap.size W W')=>Qh (each_Expr (W:=W') (Q:=fun W1 i cs=>QI W1 (QV (args i)) cs) (Zz func68 (by kernel_rfl) rfl) (hv.both (.below hb) fun _ _ _ h=>QI.sub (.below hb) h) (fun _ _ _ _ hs h=>QI.sub hs h)
    (fun W2 hb2 i cs _ h hl=>(bare_ok (args i) cs W2 (QI.sub (.below hb2) h)).mono fun e W3 ⟨ds,h1,h2,h3⟩=>⟨ds,h1,h2.len,QI.one h2,h2,h3⟩))
   have HB: ∀ o o',Hid (Below W.heap.size W ((W.alloc o).alloc o')):=fun o o'=>Qh (((Below.refl _ _).alloc (Nat.le_refl _) o).alloc (by simp) o')
   have WF:=Qh wf
   obtain ⟨A,c,rfl,_⟩:=hv
   have S2:=Qh (SB.two W (ZG k op vk vn vt tb nm (.slice A n c) pl ty) Zr 34)
   clear wf
   dsimp only [ZG]
   go_enter func68,ntmps68
   go_wp2_with fail
   refine (Qa ((Qa HC) _ (Qa (HB _ _)))).mono ?_
   rintro e w1 ⟨u,rfl,hu,hb1⟩
   have HU:=Qh hu
   obtain ⟨A',c',hue,_⟩:=id hu
   subst hue
   clear hu
   have X1:=(Qa S2).1.below hb1
   have X2:=(Qa S2).2.below hb1
   have HW:=Qh (Below.andThen (Qa (HB _ _)) hb1)
   have x7:=X1.cell 7 rfl
   have x8:=X1.cell 8 rfl
   have x9:=X1.cell 9 rfl
   have f7:=X1.free 7 (show 7<10 by decide)
   have f8:=X1.free 8 (show 8<10 by decide)
   have f9:=X1.free 9 (show 9<10 by decide)
   have Y1:=Qh (((X1.put 8 [.int .i64 0] (show 9≤10 by decide)).put 9 [.int .i64 0] (show 10≤10 by decide)).put 7 [.slice A' n c'] (show 8≤10 by decide))
   have Y2:=Qh (((X2.far (b:=W.heap.size) (by omega) 8 [.int .i64 0]).far (b:=W.heap.size) (by omega) 9 [.int .i64 0]).far (b:=W.heap.size) (by omega) 7 [.slice A' n c'])
   have HW2:=Qh (((Qa HW).setCell (p:=⟨W.heap.size,8,none⟩) (Nat.le_refl _) (.int .i64 0)).setCell (p:=⟨W.heap.size,9,none⟩) (Nat.le_refl _) (.int .i64 0) |>.setCell (p:=⟨W.heap.size,7,none⟩) (Nat.le_refl _) (.slice A' n c'))
   clear hb1 X1 X2
   go_upto_region 2 with fail
   have hfar: ∀ b,W.heap.size+1+1≤b→(((w1.setCell ⟨W.heap.size,8,none⟩ (.int .i64 0)).setCell ⟨W.heap.size,9,none⟩ (.int .i64 0)).setCell ⟨W.heap.size,7,none⟩ (.slice A' n c')).heap[b]?=w1.heap[b]?:=fun b hb=>by
    rw [Below.heap_setCell _ _ _ _ (by simp;omega),Below.heap_setCell _ _ _ _ (by simp;omega),Below.heap_setCell _ _ _ _ (by simp;omega)]
   have HFAR:=Qh (And.intro hfar (show w1.heap.size≤(((w1.setCell ⟨W.heap.size,8,none⟩ (.int .i64 0)).setCell ⟨W.heap.size,9,none⟩ (.int .i64 0)).setCell ⟨W.heap.size,7,none⟩ (.slice A' n c')).heap.size by simp [World.setCell]))
   generalize hD:World.setCell _ _ _=D
   replace Y1:Hid (SB D W.heap.size (ZG k op vk vn vt tb nm (.slice A' n c') 0 0)):=by rw [← hD];exact Y1
   replace Y2:Hid (SB D (W.heap.size+1) Zr):=by rw [← hD];exact Y2
   replace HW2:Hid (Below W.heap.size W D):=by rw [← hD];exact HW2
   replace HFAR:Hid ((∀ b,W.heap.size+1+1≤b→D.heap[b]?=w1.heap[b]?)∧w1.heap.size≤D.heap.size):=by rw [← hD];exact HFAR
   clear hD hfar x7 x8 x9 f7 f8 f9
   have HTH:Hid (D.there (W.heap.size+1) 0 10):=Qh (Qa Y2).there
   go_wp2_with (first
    | (refine wpList_load_mid rfl 34 _ rfl W.heap.size _ rfl (ZG k op vk vn vt tb nm (.slice A' n c') 0 0) _ (Qa Y1).at_ underlying34 rfl Zv ?_)
    | (refine wpList_store_mid rfl 34 _ _ rfl (W.heap.size+1) 0 (ZG k op vk vn vt tb nm (.slice A' n c') 0 0).toArray rfl rfl (Qa HTH) Zv (eOne _ _ _ _ _ _ _ _ _ _ _ _) ?_))
   refine bodyPost_ret (Z0 rfl _ _ (b:=W.heap.size+1) (o:=0) rfl ((Qa Y2).put 0 (ZG k op vk vn vt tb nm (.slice A' n c') 0 0) (Nat.le_refl 10)).at_ underlying34 rfl Zv) rfl ?_
   have hs:Jw (World.only w1 fun b=>((W.alloc (.cells #[.int .i64 k,.int .i64 op,.int .i64 vk,.int .i64 vn,.string vt,.string tb,.string nm,.slice A n c,.int .i64 pl,.int .i64 ty] 34)).alloc (.cells Zr.toArray 34)).heap.size≤b) (World.only (D.setCells (W.heap.size+1) 0 (ZG k op vk vn vt tb nm (.slice A' n c') 0 0)) fun b=>W.heap.size≤b):=by
    refine Za (by rw [setCells_size];exact (Qa HFAR).2) fun b h1 h2=>⟨by simp at h2;omega,?_⟩
    simp at h2
    rw [Ze (by omega)]
    exact (Qa HFAR).1 b (by omega)
   exact ⟨_,rfl,⟨⟨(Qa WF).k,(Qa WF).op,(Qa WF).vk,(Qa WF).vn,(Qa WF).vt,(Qa WF).tb,(Qa WF).nm,by constructor <;> decide,by constructor <;> decide⟩,_,rfl,(Qa HU).both hs fun _ _ _ h=>QI.sub hs h⟩,Below.setCells (by omega) _ _ _ (Qa HW2)⟩
end Go.Proofs.YtddedijencleeaaGreatDoor
