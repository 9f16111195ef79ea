/- slices.IndexFunc, slices.ContainsFunc, tree.all: contracts over rows of structs. -/
import Derived.Test.YtddedijencleeaaGreatDoorChecked
import Derived.Test.YtddedijencleeaaGreatDoorGm
import Derived.WalkKit
import Derived.ProofKit
import Derived.Deep.QuietTactic
import Derived.Deep.RegionHeld3
import Derived.Deep.LoopGhost
import Derived.Lib.Hide
import Derived.BigQuiet
import Derived.RegionTactic
import Derived.Deep.RegionWith
import Derived.Deep.DeepCutAuto
import Derived.Deep.CutBlock
import Derived.OwnWalk
import Derived.ChangeAlike
import Derived.Lib.Builder
import Derived.Test.YtddedijencleeaaGreatDoorMSq
import Derived.Lib.UnsafeStr
set_option linter.all false
namespace Go.Proofs.YtddedijencleeaaGreatDoor
set_option maxRecDepth 100000
open Tryz
open Go.RowKit Go.Lib

theorem Zz {g : FuncId} {fn : Func} {c : Code} (hg : prog.funcs[g]? = some fn) (hname : (fn.name == "runtime.NumGoroutine") = false) (hb : fn.body = some c) (xs : Array Value) (w : World) :
 (callFunc g xs).run prog w= .ok (.enter g xs) w:=by
 simp only [callFunc,Sem.run_bind,run_program,Result.andThen_ok,hg,hname,hb,Option.isNone_some,Bool.false_eq_true,if_false,Sem.run_pure]
def idxN (n:Nat) (q:Nat→Bool):Int:=match (List.range n).find? q with | some i=>(i:Int) | none=> -1
theorem idxN_at {n k:Nat} {q:Nat→Bool} (hk:k<n) (hq:q k=true) (h: ∀ j,j<k→q j=false):idxN n q=k:=by
 have:(List.range n).find? q=some k:=List.find?_range_eq_some.2 ⟨hq,List.mem_range.2 hk,fun j hj=>by simp [h j hj]⟩
 rw [idxN,this]
theorem idxN_none {n:Nat} {q:Nat→Bool} (h: ∀ j,j<n→q j=false):idxN n q= -1:=by
 have:(List.range n).find? q=none:=by simpa using h
 rw [idxN,this]
theorem idxN_all (n:Nat) (r:Nat→Bool):decide (0≤idxN n fun i=> !r i)= !Zd n r:=by
 unfold idxN Zd
 rw [List.all_eq_not_any_not,Bool.not_not]
 cases h:(List.range n).find? fun i=> !r i with
 | none=>
  have h2:=List.find?_eq_none.1 h
  have:(List.range n).any (fun i=> !r i)=false:=by
   rw [List.any_eq_false];simpa using h2
  rw [this];decide
 | some i=>
  have h2:=List.find?_some h
  have h3:=List.mem_of_find?_eq_some h
  have:(List.range n).any (fun i=> !r i)=true:=List.any_eq_true.2 ⟨i,h3,h2⟩
  rw [this]
  simp
theorem size_Expr:(prog.info? 34).map (·.size)=some 10:=by kernel_rfl
theorem fMGa1 {p:Prop} (h:p:=by
 have hD:Below W.heap.size W (W.alloc (.cells cs.toArray KP)):=(Below.refl _ _).alloc (Nat.le_refl _) _
 have hlt:=Kz hi
 have hi2:(W.alloc (.cells cs.toArray KP)).cell? ⟨gi,0,none⟩=some (.func (Fn.func f) #[] #[]):=(hD.cell (p:=⟨gi,0,none⟩) hlt).trans hi
 have hr:(W.alloc (.cells cs.toArray KP)).rangeAt W.heap.size 0 cs:=fun j v hj=>by
  rw [Nat.zero_add,Lib.cell_of_heap (show (W.alloc (.cells cs.toArray KP)).heap[W.heap.size]?=some (.cells cs.toArray KP (0,0)) by show (W.heap.push _)[W.heap.size]?=_;simp)]
  simpa using hj
 have HX:=Qh (hf _ hD)
 have HD:=Qh hD
 clear hf hD
 go_enter fv2,fv3
 go_wp2_with (refine wpList_load_mid rfl KP _ rfl _ _ rfl cs _ hr fv4 rfl (by rw [hl];exact fv5) ?_)
 refine (Qa HX).mono ?_
 rintro e w1 ⟨rfl,hb⟩
 have HW:=Qh (Below.andThen (Qa HD) hb)
 clear hb
 cases r
 all_goals
  go_wp2
  go_ret
  exact ⟨rfl,Qa HW⟩
 ):p:=h
namespace fGa10
abbrev KP:Nat:=34
abbrev fv2:= @func138
abbrev fv3:= @ntmps138
abbrev fv4:= @underlying34
abbrev fv5:= @size_Expr
end fGa10
open fGa10 in
theorem all1_Expr {W:World} {cs:List Value} {gi f:Nat} {r:Bool} (he: ∀ args w,(callFunc f args).run prog w= .ok (.enter f args) w) (hl:cs.length=10) (hi:W.cell? ⟨gi,0,none⟩=some (.func (Fn.func f) #[] #[]))
 (hf: ∀ W',Below W.heap.size W W'→Calls prog f #[.agg cs.toArray] W' fun e W2=>e= .returned (.bool r)∧Below W'.heap.size W' W2) :
 Calls prog 138 #[.agg cs.toArray,.pointer (some ⟨gi,0,none⟩)] W fun e W'=>e= .returned (.bool (!r))∧Below W.heap.size W W':=fMGa1
theorem fMGa2 {p:Prop} (h:p:=by
 obtain ⟨A,c,rfl,hnc,hc,hby,hA⟩:=hv
 have HA:=Qh hA
 have HF:=Qh hf
 have hn:n≤9223372036854775807:=by omega
 clear hA hf hnc hc hby
 go_enter KP,fv2
 go_wp2
 go_loopw [8] (fun i wr=> ∃ k:Nat,k≤n∧i= .int .i64 k∧Hid ((∀ j,j<k→q j=false)∧Below W.heap.size W wr)) (fun i _=>n - (RowKit.intOf i).toNat)
 case atStart=>exact ⟨0,Nat.zero_le _,rfl,Qh ⟨fun j hj=>by omega,Below.refl _ _⟩⟩
 case round=>
  obtain ⟨k,hk,rfl,HBW⟩:=hrel
  by_cases hlt:k<n
  · obtain ⟨b,o,rfl,hb,hcs⟩:=(Qa HA) (by omega)
    obtain ⟨cs,hl,_,hP,hr⟩:=hcs k hlt
    have hr':=Q5 hr (Qa HBW).2
    have HC:=Qh ((Qa HF) wr (Qa HBW).2 k cs hlt hP hl)
    clear hcs hr hb hP
    generalize hq:q k=qk at HC
    go_wp2_with (refine wpList_load_mid rfl fv3 _ rfl _ _ rfl cs _ hr' fv4 rfl (by rw [hl];exact fv5) ?_)
    refine (Qa HC).mono ?_
    rintro e w2 ⟨rfl,hb2⟩
    have HQ:=Qh hq
    have HB2:=Qh (Below.andThen (Qa HBW).2 hb2)
    clear hb2 hr' hq
    cases qk with
    | true=>
     go_wp2
     go_ret
     exact ⟨by rw [idxN_at hlt (Qa HQ) (Qa HBW).1];rfl,Qa HB2⟩
    | false=>
     go_wp2
     go_roundw
     case rel=>exact ⟨k+1,by omega,by go_num,Qh ⟨fun j hj=>by rcases Nat.lt_succ_iff_lt_or_eq.1 hj with h | h;exact (Qa HBW).1 j h;rw [h];exact Qa HQ,Qa HB2⟩⟩
     case measure=>simp [RowKit.intOf];omega
  go_wp2
  go_ret
  have:k=n:=by omega
  subst this
  exact ⟨by rw [idxN_none (Qa HBW).1];rfl,(Qa HBW).2⟩
 ):p:=h
namespace fGa20
abbrev KP:= @func189
abbrev fv2:= @ntmps189
abbrev fv3:Nat:=34
abbrev fv4:= @underlying34
abbrev fv5:= @size_Expr
end fGa20
open fGa20 in
theorem index_Expr {W:World} {n:Nat} {v p:Value} {P:Nat→List Value→Prop} {q:Nat→Bool} {g:Nat} (he: ∀ args w,(callFunc g args).run prog w= .ok (.enter g args) w) (hv:QR W 10 120 n v P)
 (hf: ∀ W',Below W.heap.size W W'→ ∀ i cs,i<n→P i cs→cs.length=10→Calls prog g #[.agg cs.toArray,p] W' fun e W2=>e= .returned (.bool (q i))∧Below W'.heap.size W' W2) :
 Calls prog 189 #[v,.func (Fn.func g) #[] #[p]] W fun e W'=>e= .returned (.int .i64 (idxN n q))∧Below W.heap.size W W':=fMGa2
theorem contains_Expr {W:World} {n:Nat} {v p:Value} {P:Nat→List Value→Prop} {q:Nat→Bool} {g:Nat} (he: ∀ args w,(callFunc g args).run prog w= .ok (.enter g args) w) (hv:QR W 10 120 n v P)
 (hf: ∀ W',Below W.heap.size W W'→ ∀ i cs,i<n→P i cs→cs.length=10→Calls prog g #[.agg cs.toArray,p] W' fun e W2=>e= .returned (.bool (q i))∧Below W'.heap.size W' W2) :
 Calls prog 137 #[v,.func (Fn.func g) #[] #[p]] W fun e W'=>e= .returned (.bool (decide (0≤idxN n q)))∧Below W.heap.size W W':=by
 have HF:=Qh (index_Expr he hv hf)
 clear hf he
 obtain ⟨A,c,rfl,_⟩:=hv
 go_enter func137,ntmps137
 go_wp2_with fail
 refine (Qa HF).mono ?_
 rintro e w2 ⟨rfl,hb2⟩
 go_wp2
 go_ret
 exact ⟨rfl,hb2⟩
theorem fMGa3 {p:Prop} (h:p:=by
 have hD: ∀ o,Below W.heap.size W (W.alloc o):=fun o=>(Below.refl _ _).alloc (Nat.le_refl _) o
 have HF:=Qh fun o (ho:(W.alloc o).cell? ⟨W.heap.size,0,none⟩=some (.func (Fn.func f) #[] #[]))=>Qh (KP (W:=W.alloc o) (q:=fun i=> !r i) (p:=.pointer (some ⟨W.heap.size,0,none⟩)) (Zz fv2 (by kernel_rfl) rfl) (hv.sub (.below (hD o))) (fun W' hb i cs hi hP hl=>fv3 he hl ((hb.cell (p:=⟨W.heap.size,0,none⟩) (by simp)).trans ho) (fun W2 hb2=>hf W2 (Below.andThen (Below.andThen (hD o) hb) hb2) i cs hi hP hl)))
 have HD:=Qh hD
 clear hf hD he
 obtain ⟨A,c,rfl,_⟩:=hv
 go_enter fv4,fv5
 go_wp2_with fail
 refine (Qa ((Qa HF) _ (by simp))).mono ?_
 rintro e w2 ⟨rfl,hb2⟩
 have HW:=Qh (Below.andThen ((Qa HD) _) hb2)
 clear hb2
 rw [idxN_all]
 go_wp2
 go_ret
 exact ⟨by simp,Qa HW⟩
 ):p:=h
namespace fGa30
abbrev KP:= @contains_Expr
abbrev fv2:= @func138
abbrev fv3:= @all1_Expr
abbrev fv4:= @func48
abbrev fv5:= @ntmps48
end fGa30
open fGa30 in
theorem all_Expr {W:World} {n:Nat} {v:Value} {P:Nat→List Value→Prop} {r:Nat→Bool} {f:Nat} (he: ∀ args w,(callFunc f args).run prog w= .ok (.enter f args) w) (hv:QR W 10 120 n v P)
 (hf: ∀ W',Below W.heap.size W W'→ ∀ i cs,i<n→P i cs→cs.length=10→Calls prog f #[.agg cs.toArray] W' fun e W2=>e= .returned (.bool (r i))∧Below W'.heap.size W' W2) :
 Calls prog 48 #[v,.func (Fn.func f) #[] #[]] W fun e W'=>e= .returned (.bool (Zd n r))∧Below W.heap.size W W':=fMGa3
theorem size_Key:(prog.info? 59).map (·.size)=some 4:=by kernel_rfl
namespace fGa11
abbrev KP:Nat:=59
abbrev fv2:= @func196
abbrev fv3:= @ntmps196
abbrev fv4:= @underlying59
abbrev fv5:= @size_Key
end fGa11
open fGa11 in
theorem all1_Key {W:World} {cs:List Value} {gi f:Nat} {r:Bool} (he: ∀ args w,(callFunc f args).run prog w= .ok (.enter f args) w) (hl:cs.length=4) (hi:W.cell? ⟨gi,0,none⟩=some (.func (Fn.func f) #[] #[]))
 (hf: ∀ W',Below W.heap.size W W'→Calls prog f #[.agg cs.toArray] W' fun e W2=>e= .returned (.bool r)∧Below W'.heap.size W' W2) :
 Calls prog 196 #[.agg cs.toArray,.pointer (some ⟨gi,0,none⟩)] W fun e W'=>e= .returned (.bool (!r))∧Below W.heap.size W W':=fMGa1
namespace fGa21
abbrev KP:= @func214
abbrev fv2:= @ntmps214
abbrev fv3:Nat:=59
abbrev fv4:= @underlying59
abbrev fv5:= @size_Key
end fGa21
open fGa21 in
theorem index_Key {W:World} {n:Nat} {v p:Value} {P:Nat→List Value→Prop} {q:Nat→Bool} {g:Nat} (he: ∀ args w,(callFunc g args).run prog w= .ok (.enter g args) w) (hv:QR W 4 48 n v P)
 (hf: ∀ W',Below W.heap.size W W'→ ∀ i cs,i<n→P i cs→cs.length=4→Calls prog g #[.agg cs.toArray,p] W' fun e W2=>e= .returned (.bool (q i))∧Below W'.heap.size W' W2) :
 Calls prog 214 #[v,.func (Fn.func g) #[] #[p]] W fun e W'=>e= .returned (.int .i64 (idxN n q))∧Below W.heap.size W W':=fMGa2
theorem contains_Key {W:World} {n:Nat} {v p:Value} {P:Nat→List Value→Prop} {q:Nat→Bool} {g:Nat} (he: ∀ args w,(callFunc g args).run prog w= .ok (.enter g args) w) (hv:QR W 4 48 n v P)
 (hf: ∀ W',Below W.heap.size W W'→ ∀ i cs,i<n→P i cs→cs.length=4→Calls prog g #[.agg cs.toArray,p] W' fun e W2=>e= .returned (.bool (q i))∧Below W'.heap.size W' W2) :
 Calls prog 195 #[v,.func (Fn.func g) #[] #[p]] W fun e W'=>e= .returned (.bool (decide (0≤idxN n q)))∧Below W.heap.size W W':=by
 have HF:=Qh (index_Key he hv hf)
 clear hf he
 obtain ⟨A,c,rfl,_⟩:=hv
 go_enter func195,ntmps195
 go_wp2_with fail
 refine (Qa HF).mono ?_
 rintro e w2 ⟨rfl,hb2⟩
 go_wp2
 go_ret
 exact ⟨rfl,hb2⟩
namespace fGa31
abbrev KP:= @contains_Key
abbrev fv2:= @func196
abbrev fv3:= @all1_Key
abbrev fv4:= @func154
abbrev fv5:= @ntmps154
end fGa31
open fGa31 in
theorem all_Key {W:World} {n:Nat} {v:Value} {P:Nat→List Value→Prop} {r:Nat→Bool} {f:Nat} (he: ∀ args w,(callFunc f args).run prog w= .ok (.enter f args) w) (hv:QR W 4 48 n v P)
 (hf: ∀ W',Below W.heap.size W W'→ ∀ i cs,i<n→P i cs→cs.length=4→Calls prog f #[.agg cs.toArray] W' fun e W2=>e= .returned (.bool (r i))∧Below W'.heap.size W' W2) :
 Calls prog 154 #[v,.func (Fn.func f) #[] #[]] W fun e W'=>e= .returned (.bool (Zd n r))∧Below W.heap.size W W':=fMGa3
theorem size_Column:(prog.info? 105).map (·.size)=some 3:=by kernel_rfl
namespace fGa12
abbrev KP:Nat:=105
abbrev fv2:= @func213
abbrev fv3:= @ntmps213
abbrev fv4:= @underlying105
abbrev fv5:= @size_Column
end fGa12
open fGa12 in
theorem all1_Column {W:World} {cs:List Value} {gi f:Nat} {r:Bool} (he: ∀ args w,(callFunc f args).run prog w= .ok (.enter f args) w) (hl:cs.length=3) (hi:W.cell? ⟨gi,0,none⟩=some (.func (Fn.func f) #[] #[]))
 (hf: ∀ W',Below W.heap.size W W'→Calls prog f #[.agg cs.toArray] W' fun e W2=>e= .returned (.bool r)∧Below W'.heap.size W' W2) :
 Calls prog 213 #[.agg cs.toArray,.pointer (some ⟨gi,0,none⟩)] W fun e W'=>e= .returned (.bool (!r))∧Below W.heap.size W W':=fMGa1
namespace fGa22
abbrev KP:= @func233
abbrev fv2:= @ntmps233
abbrev fv3:Nat:=105
abbrev fv4:= @underlying105
abbrev fv5:= @size_Column
end fGa22
open fGa22 in
theorem index_Column {W:World} {n:Nat} {v p:Value} {P:Nat→List Value→Prop} {q:Nat→Bool} {g:Nat} (he: ∀ args w,(callFunc g args).run prog w= .ok (.enter g args) w) (hv:QR W 3 32 n v P)
 (hf: ∀ W',Below W.heap.size W W'→ ∀ i cs,i<n→P i cs→cs.length=3→Calls prog g #[.agg cs.toArray,p] W' fun e W2=>e= .returned (.bool (q i))∧Below W'.heap.size W' W2) :
 Calls prog 233 #[v,.func (Fn.func g) #[] #[p]] W fun e W'=>e= .returned (.int .i64 (idxN n q))∧Below W.heap.size W W':=fMGa2
theorem contains_Column {W:World} {n:Nat} {v p:Value} {P:Nat→List Value→Prop} {q:Nat→Bool} {g:Nat} (he: ∀ args w,(callFunc g args).run prog w= .ok (.enter g args) w) (hv:QR W 3 32 n v P)
 (hf: ∀ W',Below W.heap.size W W'→ ∀ i cs,i<n→P i cs→cs.length=3→Calls prog g #[.agg cs.toArray,p] W' fun e W2=>e= .returned (.bool (q i))∧Below W'.heap.size W' W2) :
 Calls prog 212 #[v,.func (Fn.func g) #[] #[p]] W fun e W'=>e= .returned (.bool (decide (0≤idxN n q)))∧Below W.heap.size W W':=by
 have HF:=Qh (index_Column he hv hf)
 clear hf he
 obtain ⟨A,c,rfl,_⟩:=hv
 go_enter func212,ntmps212
 go_wp2_with fail
 refine (Qa HF).mono ?_
 rintro e w2 ⟨rfl,hb2⟩
 go_wp2
 go_ret
 exact ⟨rfl,hb2⟩
namespace fGa32
abbrev KP:= @contains_Column
abbrev fv2:= @func213
abbrev fv3:= @all1_Column
abbrev fv4:= @func194
abbrev fv5:= @ntmps194
end fGa32
open fGa32 in
theorem all_Column {W:World} {n:Nat} {v:Value} {P:Nat→List Value→Prop} {r:Nat→Bool} {f:Nat} (he: ∀ args w,(callFunc f args).run prog w= .ok (.enter f args) w) (hv:QR W 3 32 n v P)
 (hf: ∀ W',Below W.heap.size W W'→ ∀ i cs,i<n→P i cs→cs.length=3→Calls prog f #[.agg cs.toArray] W' fun e W2=>e= .returned (.bool (r i))∧Below W'.heap.size W' W2) :
 Calls prog 194 #[v,.func (Fn.func f) #[] #[]] W fun e W'=>e= .returned (.bool (Zd n r))∧Below W.heap.size W W':=fMGa3
theorem size_Set:(prog.info? 61).map (·.size)=some 11:=by kernel_rfl
namespace fGa13
abbrev KP:Nat:=61
abbrev fv2:= @func204
abbrev fv3:= @ntmps204
abbrev fv4:= @underlying61
abbrev fv5:= @size_Set
end fGa13
open fGa13 in
theorem all1_Set {W:World} {cs:List Value} {gi f:Nat} {r:Bool} (he: ∀ args w,(callFunc f args).run prog w= .ok (.enter f args) w) (hl:cs.length=11) (hi:W.cell? ⟨gi,0,none⟩=some (.func (Fn.func f) #[] #[]))
 (hf: ∀ W',Below W.heap.size W W'→Calls prog f #[.agg cs.toArray] W' fun e W2=>e= .returned (.bool r)∧Below W'.heap.size W' W2) :
 Calls prog 204 #[.agg cs.toArray,.pointer (some ⟨gi,0,none⟩)] W fun e W'=>e= .returned (.bool (!r))∧Below W.heap.size W W':=fMGa1
namespace fGa23
abbrev KP:= @func218
abbrev fv2:= @ntmps218
abbrev fv3:Nat:=61
abbrev fv4:= @underlying61
abbrev fv5:= @size_Set
end fGa23
open fGa23 in
theorem index_Set {W:World} {n:Nat} {v p:Value} {P:Nat→List Value→Prop} {q:Nat→Bool} {g:Nat} (he: ∀ args w,(callFunc g args).run prog w= .ok (.enter g args) w) (hv:QR W 11 136 n v P)
 (hf: ∀ W',Below W.heap.size W W'→ ∀ i cs,i<n→P i cs→cs.length=11→Calls prog g #[.agg cs.toArray,p] W' fun e W2=>e= .returned (.bool (q i))∧Below W'.heap.size W' W2) :
 Calls prog 218 #[v,.func (Fn.func g) #[] #[p]] W fun e W'=>e= .returned (.int .i64 (idxN n q))∧Below W.heap.size W W':=fMGa2
theorem contains_Set {W:World} {n:Nat} {v p:Value} {P:Nat→List Value→Prop} {q:Nat→Bool} {g:Nat} (he: ∀ args w,(callFunc g args).run prog w= .ok (.enter g args) w) (hv:QR W 11 136 n v P)
 (hf: ∀ W',Below W.heap.size W W'→ ∀ i cs,i<n→P i cs→cs.length=11→Calls prog g #[.agg cs.toArray,p] W' fun e W2=>e= .returned (.bool (q i))∧Below W'.heap.size W' W2) :
 Calls prog 203 #[v,.func (Fn.func g) #[] #[p]] W fun e W'=>e= .returned (.bool (decide (0≤idxN n q)))∧Below W.heap.size W W':=by
 have HF:=Qh (index_Set he hv hf)
 clear hf he
 obtain ⟨A,c,rfl,_⟩:=hv
 go_enter func203,ntmps203
 go_wp2_with fail
 refine (Qa HF).mono ?_
 rintro e w2 ⟨rfl,hb2⟩
 go_wp2
 go_ret
 exact ⟨rfl,hb2⟩
namespace fGa33
abbrev KP:= @contains_Set
abbrev fv2:= @func204
abbrev fv3:= @all1_Set
abbrev fv4:= @func160
abbrev fv5:= @ntmps160
end fGa33
open fGa33 in
theorem all_Set {W:World} {n:Nat} {v:Value} {P:Nat→List Value→Prop} {r:Nat→Bool} {f:Nat} (he: ∀ args w,(callFunc f args).run prog w= .ok (.enter f args) w) (hv:QR W 11 136 n v P)
 (hf: ∀ W',Below W.heap.size W W'→ ∀ i cs,i<n→P i cs→cs.length=11→Calls prog f #[.agg cs.toArray] W' fun e W2=>e= .returned (.bool (r i))∧Below W'.heap.size W' W2) :
 Calls prog 160 #[v,.func (Fn.func f) #[] #[]] W fun e W'=>e= .returned (.bool (Zd n r))∧Below W.heap.size W W':=fMGa3
theorem size_Item:(prog.info? 63).map (·.size)=some 12:=by kernel_rfl
namespace fGa14
abbrev KP:Nat:=63
abbrev fv2:= @func222
abbrev fv3:= @ntmps222
abbrev fv4:= @underlying63
abbrev fv5:= @size_Item
end fGa14
open fGa14 in
theorem all1_Item {W:World} {cs:List Value} {gi f:Nat} {r:Bool} (he: ∀ args w,(callFunc f args).run prog w= .ok (.enter f args) w) (hl:cs.length=12) (hi:W.cell? ⟨gi,0,none⟩=some (.func (Fn.func f) #[] #[]))
 (hf: ∀ W',Below W.heap.size W W'→Calls prog f #[.agg cs.toArray] W' fun e W2=>e= .returned (.bool r)∧Below W'.heap.size W' W2) :
 Calls prog 222 #[.agg cs.toArray,.pointer (some ⟨gi,0,none⟩)] W fun e W'=>e= .returned (.bool (!r))∧Below W.heap.size W W':=fMGa1
namespace fGa24
abbrev KP:= @func235
abbrev fv2:= @ntmps235
abbrev fv3:Nat:=63
abbrev fv4:= @underlying63
abbrev fv5:= @size_Item
end fGa24
open fGa24 in
theorem index_Item {W:World} {n:Nat} {v p:Value} {P:Nat→List Value→Prop} {q:Nat→Bool} {g:Nat} (he: ∀ args w,(callFunc g args).run prog w= .ok (.enter g args) w) (hv:QR W 12 144 n v P)
 (hf: ∀ W',Below W.heap.size W W'→ ∀ i cs,i<n→P i cs→cs.length=12→Calls prog g #[.agg cs.toArray,p] W' fun e W2=>e= .returned (.bool (q i))∧Below W'.heap.size W' W2) :
 Calls prog 235 #[v,.func (Fn.func g) #[] #[p]] W fun e W'=>e= .returned (.int .i64 (idxN n q))∧Below W.heap.size W W':=fMGa2
theorem contains_Item {W:World} {n:Nat} {v p:Value} {P:Nat→List Value→Prop} {q:Nat→Bool} {g:Nat} (he: ∀ args w,(callFunc g args).run prog w= .ok (.enter g args) w) (hv:QR W 12 144 n v P)
 (hf: ∀ W',Below W.heap.size W W'→ ∀ i cs,i<n→P i cs→cs.length=12→Calls prog g #[.agg cs.toArray,p] W' fun e W2=>e= .returned (.bool (q i))∧Below W'.heap.size W' W2) :
 Calls prog 221 #[v,.func (Fn.func g) #[] #[p]] W fun e W'=>e= .returned (.bool (decide (0≤idxN n q)))∧Below W.heap.size W W':=by
 have HF:=Qh (index_Item he hv hf)
 clear hf he
 obtain ⟨A,c,rfl,_⟩:=hv
 go_enter func221,ntmps221
 go_wp2_with fail
 refine (Qa HF).mono ?_
 rintro e w2 ⟨rfl,hb2⟩
 go_wp2
 go_ret
 exact ⟨rfl,hb2⟩
namespace fGa34
abbrev KP:= @contains_Item
abbrev fv2:= @func222
abbrev fv3:= @all1_Item
abbrev fv4:= @func206
abbrev fv5:= @ntmps206
end fGa34
open fGa34 in
theorem all_Item {W:World} {n:Nat} {v:Value} {P:Nat→List Value→Prop} {r:Nat→Bool} {f:Nat} (he: ∀ args w,(callFunc f args).run prog w= .ok (.enter f args) w) (hv:QR W 12 144 n v P)
 (hf: ∀ W',Below W.heap.size W W'→ ∀ i cs,i<n→P i cs→cs.length=12→Calls prog f #[.agg cs.toArray] W' fun e W2=>e= .returned (.bool (r i))∧Below W'.heap.size W' W2) :
 Calls prog 206 #[v,.func (Fn.func f) #[] #[]] W fun e W'=>e= .returned (.bool (Zd n r))∧Below W.heap.size W W':=fMGa3
theorem size_Order:(prog.info? 67).map (·.size)=some 11:=by kernel_rfl
namespace fGa15
abbrev KP:Nat:=67
abbrev fv2:= @func220
abbrev fv3:= @ntmps220
abbrev fv4:= @underlying67
abbrev fv5:= @size_Order
end fGa15
open fGa15 in
theorem all1_Order {W:World} {cs:List Value} {gi f:Nat} {r:Bool} (he: ∀ args w,(callFunc f args).run prog w= .ok (.enter f args) w) (hl:cs.length=11) (hi:W.cell? ⟨gi,0,none⟩=some (.func (Fn.func f) #[] #[]))
 (hf: ∀ W',Below W.heap.size W W'→Calls prog f #[.agg cs.toArray] W' fun e W2=>e= .returned (.bool r)∧Below W'.heap.size W' W2) :
 Calls prog 220 #[.agg cs.toArray,.pointer (some ⟨gi,0,none⟩)] W fun e W'=>e= .returned (.bool (!r))∧Below W.heap.size W W':=fMGa1
namespace fGa25
abbrev KP:= @func234
abbrev fv2:= @ntmps234
abbrev fv3:Nat:=67
abbrev fv4:= @underlying67
abbrev fv5:= @size_Order
end fGa25
open fGa25 in
theorem index_Order {W:World} {n:Nat} {v p:Value} {P:Nat→List Value→Prop} {q:Nat→Bool} {g:Nat} (he: ∀ args w,(callFunc g args).run prog w= .ok (.enter g args) w) (hv:QR W 11 128 n v P)
 (hf: ∀ W',Below W.heap.size W W'→ ∀ i cs,i<n→P i cs→cs.length=11→Calls prog g #[.agg cs.toArray,p] W' fun e W2=>e= .returned (.bool (q i))∧Below W'.heap.size W' W2) :
 Calls prog 234 #[v,.func (Fn.func g) #[] #[p]] W fun e W'=>e= .returned (.int .i64 (idxN n q))∧Below W.heap.size W W':=fMGa2
theorem contains_Order {W:World} {n:Nat} {v p:Value} {P:Nat→List Value→Prop} {q:Nat→Bool} {g:Nat} (he: ∀ args w,(callFunc g args).run prog w= .ok (.enter g args) w) (hv:QR W 11 128 n v P)
 (hf: ∀ W',Below W.heap.size W W'→ ∀ i cs,i<n→P i cs→cs.length=11→Calls prog g #[.agg cs.toArray,p] W' fun e W2=>e= .returned (.bool (q i))∧Below W'.heap.size W' W2) :
 Calls prog 219 #[v,.func (Fn.func g) #[] #[p]] W fun e W'=>e= .returned (.bool (decide (0≤idxN n q)))∧Below W.heap.size W W':=by
 have HF:=Qh (index_Order he hv hf)
 clear hf he
 obtain ⟨A,c,rfl,_⟩:=hv
 go_enter func219,ntmps219
 go_wp2_with fail
 refine (Qa HF).mono ?_
 rintro e w2 ⟨rfl,hb2⟩
 go_wp2
 go_ret
 exact ⟨rfl,hb2⟩
namespace fGa35
abbrev KP:= @contains_Order
abbrev fv2:= @func220
abbrev fv3:= @all1_Order
abbrev fv4:= @func205
abbrev fv5:= @ntmps205
end fGa35
open fGa35 in
theorem all_Order {W:World} {n:Nat} {v:Value} {P:Nat→List Value→Prop} {r:Nat→Bool} {f:Nat} (he: ∀ args w,(callFunc f args).run prog w= .ok (.enter f args) w) (hv:QR W 11 128 n v P)
 (hf: ∀ W',Below W.heap.size W W'→ ∀ i cs,i<n→P i cs→cs.length=11→Calls prog f #[.agg cs.toArray] W' fun e W2=>e= .returned (.bool (r i))∧Below W'.heap.size W' W2) :
 Calls prog 205 #[v,.func (Fn.func f) #[] #[]] W fun e W'=>e= .returned (.bool (Zd n r))∧Below W.heap.size W W':=fMGa3
end Go.Proofs.YtddedijencleeaaGreatDoor

/- lex.small, great; ref8.cased: a text in other letters. -/
set_option linter.all false
namespace Go.Proofs.YtddedijencleeaaGreatDoor
set_option maxRecDepth 100000
set_option maxHeartbeats 1000000
open Tryz
open Go.RowKit Go.Lib

def mapB (f:UInt8→UInt8) (s:ByteArray):ByteArray:=⟨(s.data.toList.map f).toArray⟩
def ZI (c:UInt8):UInt8:=if 65≤c.toNat∧c.toNat≤90 then UInt8.ofNat (c.toNat+32) else c
def Zj (c:UInt8):UInt8:=if 97≤c.toNat∧c.toNat≤122 then UInt8.ofNat (c.toNat - 32) else c
theorem bytes_new (W:World) (s:ByteArray) (cap:Nat) (e:TypeId):SB (W.drew.alloc (.cells (bytesRow s cap) e ((bytesRow s cap).size,(bytesRow s cap).size+1))) W.heap.size (byteCells s.data.toList):=by
 have hh:(W.drew.alloc (.cells (bytesRow s cap) e ((bytesRow s cap).size,(bytesRow s cap).size+1))).heap[W.heap.size]?=some (.cells (bytesRow s cap) e ((bytesRow s cap).size,(bytesRow s cap).size+1)):=by
  show (W.heap.push _)[W.heap.size]?=_
  simp
 have hg: ∀ j v,(byteCells s.data.toList)[j]?=some v→(bytesRow s cap)[j]?=some v∧j<(bytesRow s cap).size:=fun j v hj=>by
  have hl:j<s.data.size:=by simpa [byteCells] using (List.getElem?_eq_some_iff.1 hj).1
  have h1:=bytesRow_at s cap j hl
  refine ⟨?_,(Array.getElem?_eq_some_iff.1 h1).1⟩
  rw [h1, ← hj]
  simp only [byteCells,List.getElem?_map,Array.getElem?_toList,Array.getElem?_eq_getElem hl,Option.map_some]
 refine ⟨fun j v hj=> ?_,fun j hj=> ?_,by show _<(W.heap.push _).size;simp⟩
 · rw [Lib.cell_of_heap hh]
   rw [Nat.zero_add]
   exact (hg j v hj).1
 obtain ⟨v,hv⟩: ∃ v,(byteCells s.data.toList)[j]?=some v:=⟨_,List.getElem?_eq_getElem hj⟩
 obtain ⟨h1,h2⟩:=hg j v hv
 refine ⟨?_,?_⟩
 · rw [Lib.cell_of_heap hh,Nat.zero_add,h1];rfl
 unfold World.frozen?
 simp only [hh,Nat.zero_add]
 simp
 omega
theorem bytes_below (W:World) (o:Obj):Below W.heap.size W (W.drew.alloc o):=(Below.refl _ _).drew.alloc (Nat.le_refl _) o
def part (f:UInt8→UInt8) (l:List UInt8) (i:Nat):List UInt8:=(l.take i).map f++l.drop i
theorem part_at {f:UInt8→UInt8} {l:List UInt8} {i:Nat} {c:UInt8} (h:l[i]?=some c):(byteCells (part f l i))[i]?=some (.int .u8 c.toNat):=by
 have hl:=(List.getElem?_eq_some_iff.1 h).1
 unfold part byteCells
 rw [List.map_append,List.getElem?_append_right (by simp;omega)]
 simp only [List.length_map,List.length_take,Nat.min_eq_left (Nat.le_of_lt hl),Nat.sub_self,List.getElem?_map,List.getElem?_drop,Nat.add_zero,h,Option.map_some]
theorem part_step {f:UInt8→UInt8} {l:List UInt8} {i:Nat} {c:UInt8} (h:l[i]?=some c):(byteCells (part f l i)).take i++[.int .u8 (f c).toNat]++(byteCells (part f l i)).drop (i+1)=byteCells (part f l (i+1)):=by
 have hl:=(List.getElem?_eq_some_iff.1 h).1
 have e1:part f l (i+1)=(l.take i).map f++([f c]++l.drop (i+1)):=by
  unfold part
  rw [List.take_add_one,h]
  simp
 have e2:part f l i=(l.take i).map f++([c]++l.drop (i+1)):=by
  unfold part
  rw [List.drop_eq_getElem_cons hl]
  simp [(List.getElem?_eq_some_iff.1 h).2]
 have hn:((l.take i).map f).length=i:=by simp;omega
 rw [e1,e2]
 simp only [byteCells_append]
 rw [List.take_append_of_le_length (by rw [byteCells_length,hn];exact Nat.le_refl _),List.take_of_length_le (by rw [byteCells_length,hn];exact Nat.le_refl _),
  List.drop_append,byteCells_length,hn,List.drop_eq_nil_of_le (by rw [byteCells_length,hn];omega),show i+1 - i=1 by omega]
 simp [byteCells]
theorem part_same {f:UInt8→UInt8} {l:List UInt8} {i:Nat} {c:UInt8} (h:l[i]?=some c) (hc:f c=c):part f l (i+1)=part f l i:=by
 have hl:=(List.getElem?_eq_some_iff.1 h).1
 unfold part
 rw [List.take_add_one,h,List.drop_eq_getElem_cons hl]
 simp [hc,(List.getElem?_eq_some_iff.1 h).2]
theorem turned_small (s:ByteArray) (h0:0<s.size) (hs:s.size≤20) (W:World) :
 Calls prog 187 #[.string s,.int .u8 65,.int .i64 32] W fun r W'=>r= .returned (.string (mapB ZI s))∧Below W.heap.size W W':=by
 go_enter func187,ntmps187
 go_wp2
 rw [run_bytes_of_string W 9 72 5 s underlying9 underlying72 underlying5]
 simp only [Result.andThen]
 rw [Oper.upon_value]
 have S1:=bytes_new W s (grownCap W s.size 0 5) 5
 have B1:=bytes_below W (.cells (bytesRow s (grownCap W s.size 0 5)) 5 ((bytesRow s (grownCap W s.size 0 5)).size,(bytesRow s (grownCap W s.size 0 5)).size+1))
 generalize (W.drew.alloc _)=W1 at S1 B1 ⊢
 generalize grownCap W s.size 0 5=cap
 generalize hl:s.data.toList=l at S1
 have HL:=Qh hl
 have hn:s.size=l.length:=by rw [← hl];rfl
 rw [hn] at h0 hs ⊢
 clear hn hl
 have HI:Hid (SB W1 W.heap.size (byteCells (part ZI l 0))∧Below W.heap.size W W1):=Qh ⟨by simpa [part] using S1,B1⟩
 clear S1 B1
 generalize hg:W.heap.size=g at HI ⊢
 go_wp2
 go_loopw [8,9,14] (fun _ _ i wr=> ∃ k:Nat,k≤l.length∧i= .int .i64 k∧Hid (SB wr g (byteCells (part ZI l k))∧Below g W wr)) (fun _ _ i _=>l.length - (RowKit.intOf i).toNat)
 case atStart=>exact ⟨0,Nat.zero_le _,rfl,HI⟩
 case round=>
  obtain ⟨k,hk,rfl,HV⟩:=hrel
  by_cases hlt:k<l.length
  · obtain ⟨c,hc⟩: ∃ c,l[k]?=some c:=⟨_,List.getElem?_eq_getElem hlt⟩
    have c1:=(Qa HV).1.cell k (part_at (f:=ZI) hc)
    have f1:=(Qa HV).1.free k (by rw [byteCells_length];simp [part];omega)
    have hb:=c.toNat_lt
    obtain ⟨x,hx⟩: ∃ x:Nat,c.toNat=x:=⟨_,rfl⟩
    have HX:=Qh hx
    have HC:=Qh hc
    rw [hx] at c1 hb
    clear hx hc
    by_cases h1:((65:Nat):Int)≤(x:Int)
    · by_cases h2:(x:Int)≤((90:Nat):Int)
      · go_wp2
        have e:((ZI c).toNat:Int)=(x:Int)+32:=by
         have hx:=Qa HX
         unfold ZI
         rw [if_pos (by rw [hx];omega),hx]
         simp only [UInt8.toNat_ofNat']
         omega
        have HP:=(Qa HV).1.put k [.int .u8 ((ZI c).toNat:Int)] (by rw [byteCells_length];simp [part];omega)
        simp only [List.length_cons,List.length_nil] at HP
        rw [part_step (Qa HC),e] at HP
        exact ⟨⟨k+1,by omega,by go_num,Qh ⟨HP,Below.setCells (Nat.le_refl _) [.int .u8 ((x:Int)+32)] k wr (Qa HV).2⟩⟩,by simp [RowKit.intOf];omega⟩
      go_wp2
      have e:ZI c=c:=by
       unfold ZI
       rw [if_neg (by rw [Qa HX];omega)]
      exact ⟨⟨k+1,by omega,by go_num,Qh ⟨by rw [part_same (Qa HC) e];exact (Qa HV).1,(Qa HV).2⟩⟩,by simp [RowKit.intOf];omega⟩
    go_wp2
    have e:ZI c=c:=by
     unfold ZI
     rw [if_neg (by rw [Qa HX];omega)]
    exact ⟨⟨k+1,by omega,by go_num,Qh ⟨by rw [part_same (Qa HC) e];exact (Qa HV).1,(Qa HV).2⟩⟩,by simp [RowKit.intOf];omega⟩
  obtain rfl:k=l.length:=by omega
  go_wp2
  have hm:part ZI l l.length=l.map ZI:=by simp [part]
  have HB:=(Qa HV).1
  rw [hm] at HB
  have hrun:=run_convert_bytes_back (P:=prog) wr 72 9 5 ⟨g,0,none⟩ cap (l.map ZI) underlying72 underlying5 underlying9 (fun j hj=>by
   rw [RC.Addr.add_at,Nat.zero_add]
   exact HB.cell j (by simp [byteCells] at hj ⊢;exact ⟨_,List.getElem?_eq_getElem hj,rfl⟩))
  rw [List.length_map] at hrun
  rw [hrun]
  simp only [Result.andThen]
  rw [Oper.upon_value]
  go_wp2
  go_ret
  refine ⟨?_,by rw [hg];exact (Qa HV).2⟩
  rw [mapB,Qa HL]
  rfl
theorem turned_great (s:ByteArray) (h0:0<s.size) (hs:s.size≤20) (W:World) :
 Calls prog 187 #[.string s,.int .u8 97,.int .i64 (-32)] W fun r W'=>r= .returned (.string (mapB Zj s))∧Below W.heap.size W W':=by
 go_enter func187,ntmps187
 go_wp2
 rw [run_bytes_of_string W 9 72 5 s underlying9 underlying72 underlying5]
 simp only [Result.andThen]
 rw [Oper.upon_value]
 have S1:=bytes_new W s (grownCap W s.size 0 5) 5
 have B1:=bytes_below W (.cells (bytesRow s (grownCap W s.size 0 5)) 5 ((bytesRow s (grownCap W s.size 0 5)).size,(bytesRow s (grownCap W s.size 0 5)).size+1))
 generalize (W.drew.alloc _)=W1 at S1 B1 ⊢
 generalize grownCap W s.size 0 5=cap
 generalize hl:s.data.toList=l at S1
 have HL:=Qh hl
 have hn:s.size=l.length:=by rw [← hl];rfl
 rw [hn] at h0 hs ⊢
 clear hn hl
 have HI:Hid (SB W1 W.heap.size (byteCells (part Zj l 0))∧Below W.heap.size W W1):=Qh ⟨by simpa [part] using S1,B1⟩
 clear S1 B1
 generalize hg:W.heap.size=g at HI ⊢
 go_wp2
 go_loopw [8,9,14] (fun _ _ i wr=> ∃ k:Nat,k≤l.length∧i= .int .i64 k∧Hid (SB wr g (byteCells (part Zj l k))∧Below g W wr)) (fun _ _ i _=>l.length - (RowKit.intOf i).toNat)
 case atStart=>exact ⟨0,Nat.zero_le _,rfl,HI⟩
 case round=>
  obtain ⟨k,hk,rfl,HV⟩:=hrel
  by_cases hlt:k<l.length
  · obtain ⟨c,hc⟩: ∃ c,l[k]?=some c:=⟨_,List.getElem?_eq_getElem hlt⟩
    have c1:=(Qa HV).1.cell k (part_at (f:=Zj) hc)
    have f1:=(Qa HV).1.free k (by rw [byteCells_length];simp [part];omega)
    have hb:=c.toNat_lt
    obtain ⟨x,hx⟩: ∃ x:Nat,c.toNat=x:=⟨_,rfl⟩
    have HX:=Qh hx
    have HC:=Qh hc
    rw [hx] at c1 hb
    clear hx hc
    by_cases h1:((97:Nat):Int)≤(x:Int)
    · by_cases h2:(x:Int)≤((122:Nat):Int)
      · go_wp2
        have e:((Zj c).toNat:Int)=(x:Int)+(-32):=by
         have hx:=Qa HX
         unfold Zj
         rw [if_pos (by rw [hx];omega),hx]
         simp only [UInt8.toNat_ofNat']
         omega
        have HP:=(Qa HV).1.put k [.int .u8 ((Zj c).toNat:Int)] (by rw [byteCells_length];simp [part];omega)
        simp only [List.length_cons,List.length_nil] at HP
        rw [part_step (Qa HC),e] at HP
        exact ⟨⟨k+1,by omega,by go_num,Qh ⟨HP,Below.setCells (Nat.le_refl _) [.int .u8 ((x:Int)+(-32))] k wr (Qa HV).2⟩⟩,by simp [RowKit.intOf];omega⟩
      go_wp2
      have e:Zj c=c:=by
       unfold Zj
       rw [if_neg (by rw [Qa HX];omega)]
      exact ⟨⟨k+1,by omega,by go_num,Qh ⟨by rw [part_same (Qa HC) e];exact (Qa HV).1,(Qa HV).2⟩⟩,by simp [RowKit.intOf];omega⟩
    go_wp2
    have e:Zj c=c:=by
     unfold Zj
     rw [if_neg (by rw [Qa HX];omega)]
    exact ⟨⟨k+1,by omega,by go_num,Qh ⟨by rw [part_same (Qa HC) e];exact (Qa HV).1,(Qa HV).2⟩⟩,by simp [RowKit.intOf];omega⟩
  obtain rfl:k=l.length:=by omega
  go_wp2
  have hm:part Zj l l.length=l.map Zj:=by simp [part]
  have HB:=(Qa HV).1
  rw [hm] at HB
  have hrun:=run_convert_bytes_back (P:=prog) wr 72 9 5 ⟨g,0,none⟩ cap (l.map Zj) underlying72 underlying5 underlying9 (fun j hj=>by
   rw [RC.Addr.add_at,Nat.zero_add]
   exact HB.cell j (by simp [byteCells] at hj ⊢;exact ⟨_,List.getElem?_eq_getElem hj,rfl⟩))
  rw [List.length_map] at hrun
  rw [hrun]
  simp only [Result.andThen]
  rw [Oper.upon_value]
  go_wp2
  go_ret
  refine ⟨?_,by rw [hg];exact (Qa HV).2⟩
  rw [mapB,Qa HL]
  rfl
theorem cased_great (s:ByteArray) (h0:0<s.size) (hs:s.size≤20) (W:World) :
 Calls prog 129 #[.string s,.bool true] W fun r W'=>r= .returned (.string (mapB Zj s))∧Below W.heap.size W W':=by
 go_enter func129,ntmps129
 go_wp2
 rw [run_bytes_of_string W 9 72 5 s underlying9 underlying72 underlying5]
 simp only [Result.andThen]
 rw [Oper.upon_value]
 have S1:=bytes_new W s (grownCap W s.size 0 5) 5
 have B1:=bytes_below W (.cells (bytesRow s (grownCap W s.size 0 5)) 5 ((bytesRow s (grownCap W s.size 0 5)).size,(bytesRow s (grownCap W s.size 0 5)).size+1))
 generalize (W.drew.alloc _)=W1 at S1 B1 ⊢
 generalize grownCap W s.size 0 5=cap
 generalize hl:s.data.toList=l at S1
 have HL:=Qh hl
 have hn:s.size=l.length:=by rw [← hl];rfl
 rw [hn] at h0 hs ⊢
 clear hn hl
 have HI:Hid (SB W1 W.heap.size (byteCells (part Zj l 0))∧Below W.heap.size W W1):=Qh ⟨by simpa [part] using S1,B1⟩
 clear S1 B1
 generalize hg:W.heap.size=g at HI ⊢
 go_wp2
 go_loopw [6] (fun i wr=> ∃ k:Nat,k≤l.length∧i= .int .i64 k∧Hid (SB wr g (byteCells (part Zj l k))∧Below g W wr)) (fun i _=>l.length - (RowKit.intOf i).toNat)
 case atStart=>exact ⟨0,Nat.zero_le _,rfl,HI⟩
 case round=>
  obtain ⟨k,hk,rfl,HV⟩:=hrel
  by_cases hlt:k<l.length
  · obtain ⟨c,hc⟩: ∃ c,l[k]?=some c:=⟨_,List.getElem?_eq_getElem hlt⟩
    have c1:=(Qa HV).1.cell k (part_at (f:=Zj) hc)
    have f1:=(Qa HV).1.free k (by rw [byteCells_length];simp [part];omega)
    have hb:=c.toNat_lt
    obtain ⟨x,hx⟩: ∃ x:Nat,c.toNat=x:=⟨_,rfl⟩
    have HX:=Qh hx
    have HC:=Qh hc
    rw [hx] at c1 hb
    clear hx hc
    by_cases h1:((97:Nat):Int)≤(x:Int)
    · by_cases h2:(x:Int)≤((122:Nat):Int)
      · go_wp2
        have e:((Zj c).toNat:Int)=(x:Int) - 32:=by
         have hx:=Qa HX
         unfold Zj
         rw [if_pos (by rw [hx];omega),hx]
         simp only [UInt8.toNat_ofNat']
         omega
        have HP:=(Qa HV).1.put k [.int .u8 ((Zj c).toNat:Int)] (by rw [byteCells_length];simp [part];omega)
        simp only [List.length_cons,List.length_nil] at HP
        rw [part_step (Qa HC),e] at HP
        exact ⟨⟨k+1,by omega,by go_num,Qh ⟨HP,Below.setCells (Nat.le_refl _) [.int .u8 ((x:Int) - 32)] k wr (Qa HV).2⟩⟩,by simp [RowKit.intOf];omega⟩
      go_wp2
      have e:Zj c=c:=by
       unfold Zj
       rw [if_neg (by rw [Qa HX];omega)]
      exact ⟨⟨k+1,by omega,by go_num,Qh ⟨by rw [part_same (Qa HC) e];exact (Qa HV).1,(Qa HV).2⟩⟩,by simp [RowKit.intOf];omega⟩
    go_wp2
    have e:Zj c=c:=by
     unfold Zj
     rw [if_neg (by rw [Qa HX];omega)]
    exact ⟨⟨k+1,by omega,by go_num,Qh ⟨by rw [part_same (Qa HC) e];exact (Qa HV).1,(Qa HV).2⟩⟩,by simp [RowKit.intOf];omega⟩
  obtain rfl:k=l.length:=by omega
  go_wp2
  have hm:part Zj l l.length=l.map Zj:=by simp [part]
  have HB:=(Qa HV).1
  rw [hm] at HB
  have hrun:=run_convert_bytes_back (P:=prog) wr 72 9 5 ⟨g,0,none⟩ cap (l.map Zj) underlying72 underlying5 underlying9 (fun j hj=>by
   rw [RC.Addr.add_at,Nat.zero_add]
   exact HB.cell j (by simp [byteCells] at hj ⊢;exact ⟨_,List.getElem?_eq_getElem hj,rfl⟩))
  rw [List.length_map] at hrun
  rw [hrun]
  simp only [Result.andThen]
  rw [Oper.upon_value]
  go_wp2
  go_ret
  refine ⟨?_,by rw [hg];exact (Qa HV).2⟩
  rw [mapB,Qa HL]
  rfl
end Go.Proofs.YtddedijencleeaaGreatDoor
