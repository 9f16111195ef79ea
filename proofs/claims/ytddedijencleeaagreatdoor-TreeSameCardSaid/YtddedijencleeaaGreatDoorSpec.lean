/- consistoryhelp.Class as the evaluator takes it: told at once. No condition. -/
import Derived.Test.YtddedijencleeaaGreatDoorEvB
import Derived.Test.YtddedijencleeaaGreatDoorErrCls
import Derived.Test.YtddedijencleeaaGreatDoorTab
set_option linter.all false
namespace Go.Proofs.YtddedijencleeaaGreatDoor
open Go.RowKit

namespace Ev
noncomputable section
theorem Rep.below {ρ : Env} {m : Mem} {w w' : World} (h : Rep ρ m w) (hb : Below w.heap.size w w') : Rep ρ m w' :=
  ⟨fun i b hi => let ⟨g, hg, hok⟩ := h.blk i b hi; ⟨g, hg, hok.mono (Env.le.refl ρ) hg (hb.block g hok.lt)⟩, h.inj, h.dom, fun i g hi => Nat.lt_of_lt_of_le (h.low i g hi) hb.size, h.sep, base.stays w w' h.ok fun g hg => hb.block g (base.lt w g h.ok hg)⟩
theorem Stp.below {ρ : Env} {m : Mem} {w w' : World} (h : Rep ρ m w) (hb : Below w.heap.size w w') : Stp ρ m w ρ m w' [] :=
  ⟨Env.le.refl ρ, h.below hb, hb.os, hb.tape, hb.output, hb.size, fun g hg _ => hb.block g hg, fun _ _ h => .inl h⟩

/-- An error's number. -/
def clsA (m : Mem) : Nat → AV → Option Int
  | 0, _ => none
  | f + 1, v => match v with
    | .iface t x => (match x with
      | .int k n => bif Nat.beq t 93 && kEq k .i64 then some n else none
      | .ptr p => (match p with
        | some q => bif Nat.beq t 156 && Nat.beq q.2 0 then (match m.get q.1 with
          | some (.cells [.str _, e] ty none) => bif Nat.beq ty 158 then clsA m f e else none
          | _ => none) else none
        | none => none)
      | _ => none)
    | _ => none
theorem clsA_ok {ρ : Env} {m : Mem} {w : World} (hr : Rep ρ m w) : ∀ (f : Nat) (v : AV) (n : Int) (z : Value), clsA m f v = some n → conc ρ v = some z → ErrV w f z n
  | 0, _, _, _, h, _ => by cases h
  | f + 1, v, n, z, h, hz => by
    unfold clsA at h
    split at h
    case h_2 => cases h
    rename_i t x
    simp only [conc, Option.map_eq_some_iff] at hz
    obtain ⟨y, hy, rfl⟩ := hz
    split at h
    · rename_i k n'
      cases hb : (Nat.beq t 93 && kEq k .i64) with
      | false => rw [hb, cond_false] at h; cases h
      | true =>
        rw [hb, cond_true] at h
        cases h
        rw [Bool.and_eq_true, Nat.beq_eq] at hb
        obtain ⟨rfl, hk⟩ := hb
        have := kEq_eq hk
        subst this
        simp only [conc, Option.some.injEq] at hy
        subst hy
        exact .inl rfl
    · split at h
      case h_2 => cases h
      rename_i q
      cases hb : (Nat.beq t 156 && Nat.beq q.2 0) with
      | false => rw [hb, cond_false] at h; cases h
      | true =>
        rw [hb, cond_true] at h
        rw [Bool.and_eq_true, Nat.beq_eq, Nat.beq_eq] at hb
        obtain ⟨rfl, h0⟩ := hb
        split at h
        case h_2 => cases h
        rename_i s e ty hm
        cases ht : Nat.beq ty 158 with
        | false => rw [ht, cond_false] at h; cases h
        | true =>
          rw [ht, cond_true] at h
          rw [Nat.beq_eq] at ht
          subst ht
          obtain ⟨g, hg, rfl⟩ := ptr_conc hy
          obtain ⟨g', hg', vs, ex, fr, c1, c2, _, c4⟩ := hr.blk _ _ hm
          rw [hg] at hg'
          cases hg'
          obtain ⟨a, l1, a1, a2, rfl⟩ := concL_cons c1
          obtain ⟨b, l2, b1, b2, rfl⟩ := concL_cons a2
          simp only [concL, Option.some.injEq] at b2
          subst b2
          simp only [conc, Option.some.injEq] at a1
          subst a1
          have hex : ex = [] := c4
          subst hex
          rw [h0]
          exact .inr ⟨b, ⟨g, _, fr, c2, rfl⟩, clsA_ok hr f e n b h b1⟩
    · cases h
def clsSpec (g : FuncId) (args : List AV) (m : Mem) : Option (AV × Mem) :=
  bif Nat.beq g 16 then (match args with
    | [v] => (match v with
      | .nilIface => some (.int .i64 0, m)
      | v => ob (clsA m 100 v) fun n => some (.int .i64 n, m))
    | _ => none) else none
theorem enters {g : FuncId} {fn : Func} {c : Code} (hg : Tryz.prog.funcs[g]? = some fn) (hb : fn.body = some c) (hname : (fn.name == "runtime.NumGoroutine") = false) (xs : Array Value) (w : World) :
    (callFunc g xs).run Tryz.prog w = .ok (.enter g xs) w := by
  simp only [callFunc, Sem.run_bind, run_program, Result.andThen_ok, hg, hname, hb, Option.isNone_some, Bool.false_eq_true, if_false, Sem.run_pure]
theorem clsSpec_ok : CallSound Tryz.prog clsSpec := by
  intro g args m r m' h
  unfold clsSpec at h
  cases hg : Nat.beq g 16 with
  | false => rw [hg, cond_false] at h; cases h
  | true =>
    rw [hg, cond_true] at h
    rw [Nat.beq_eq] at hg
    subst hg
    have hent := enters (c := bodyOf Tryz.f16) Tryz.func16 rfl (by kernel_rfl)
    split at h
    case h_2 => cases h
    rename_i v
    split at h
    · cases h
      refine ⟨[], Lg.refl m, fun ρ w xs hr hxs => .inl ⟨hent _ _, ?_⟩⟩
      obtain ⟨z, l, hz, hl, rfl⟩ := concL_cons hxs
      simp only [concL, Option.some.injEq] at hl
      subst hl
      simp only [conc, Option.some.injEq] at hz
      subst hz
      refine (Class_nil w).mono ?_
      rintro e w' ⟨rfl, rfl⟩
      exact ⟨_, rfl, ρ, Stp.refl hr, rfl⟩
    · obtain ⟨n, hn, h⟩ := ob_some.1 h
      cases h
      refine ⟨[], Lg.refl m, fun ρ w xs hr hxs => .inl ⟨hent _ _, ?_⟩⟩
      obtain ⟨z, l, hz, hl, rfl⟩ := concL_cons hxs
      simp only [concL, Option.some.injEq] at hl
      subst hl
      refine (Class_err 100 z n w hr.ok (clsA_ok hr 100 v n z hn hz)).mono ?_
      rintro e w' ⟨rfl, hb⟩
      exact ⟨_, rfl, ρ, Stp.below hr hb, rfl⟩

/-- A call that yields true, without blocks handed in. -/
def okTrue (call : FuncId → List AV → Mem → Option (AV × Mem)) (g : FuncId) (args : List AV) : Bool :=
  match call g args Mem.empty with
  | some (v, _) => (match v with | .bool b => b | _ => false)
  | none => false
theorem okTrue_ok {call : FuncId → List AV → Mem → Option (AV × Mem)} (hc : CallSound Tryz.prog call) {g : FuncId} {args : List AV} (h : okTrue call g args = true) {fn : Func} {c : Code} (hg : Tryz.prog.funcs[g]? = some fn) (hb : fn.body = some c) (hname : (fn.name == "runtime.NumGoroutine") = false)
    {xs : List Value} (y : Nat → Int) (hxs : ∀ ρ : Env, ρ.y = y → concL ρ args = some xs) (w : World) (hw : OkW w) :
    Calls Tryz.prog g xs.toArray w fun e w' => e = .returned (.bool true) ∧ Below w.heap.size w w' := by
  unfold okTrue at h
  split at h
  case h_2 => cases h
  rename_i v m' h1
  split at h
  case h_2 => cases h
  subst h
  rcases hc.plain h1 y hxs (fun ρ => rfl) w hw with ⟨_, h2⟩ | ⟨v, w', h2, _⟩
  · refine h2.mono ?_
    rintro e w' ⟨v, rfl, rfl, hb⟩
    exact ⟨rfl, hb⟩
  · rw [enters hg hb hname] at h2
    cases h2
end
end Ev
end Go.Proofs.YtddedijencleeaaGreatDoor
