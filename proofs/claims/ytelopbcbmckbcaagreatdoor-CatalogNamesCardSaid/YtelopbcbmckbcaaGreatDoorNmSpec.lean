/- What is told at once for the law of names: words, slices.Delete. No condition. -/
import Derived.Test.YtelopbcbmckbcaaGreatDoorDelA
set_option linter.all false
namespace Go.Proofs.YtelopbcbmckbcaaGreatDoor
open Go.RowKit

namespace Ev
noncomputable section
set_option maxRecDepth 1000000 in
def wN : FlatT := [([.str [120]], .bool true), ([.str [121]], .bool true), ([.str [122]], .bool true)]
set_option maxRecDepth 1000000 in
theorem wN_ok : goodW cx1.call 98 wN = true := by kernel_rfl
def zT : List AV := [.str [], .slice none 0 (.known 0), .slice none 0 (.known 0)]
def zK : List AV := [.str [], .slice none 0 (.known 0), .bool false, .bool false]
theorem infoT : (Tryz.prog.info? 31).map (fun i => (i.zero, i.size)) = some (some (.agg #[.string ⟨#[]⟩, .slice none 0 0, .slice none 0 0]), 3) := by kernel_rfl
theorem infoK : (Tryz.prog.info? 70).map (fun i => (i.zero, i.size)) = some (some (.agg #[.string ⟨#[]⟩, .slice none 0 0, .bool false, .bool false]), 4) := by kernel_rfl
theorem info_two {P : Program} {t : TypeId} {z : Option Value} {s : Nat} (h : (P.info? t).map (fun i => (i.zero, i.size)) = some (z, s)) : ∃ i, P.info? t = some i ∧ i.zero = z ∧ i.size = s := by
  obtain ⟨i, hi, e⟩ := Option.map_eq_some_iff.1 h
  cases e
  exact ⟨i, hi, rfl, rfl⟩
def delSpec (g : FuncId) (args : List AV) (m : Mem) : Option (AV × Mem) :=
  bif Nat.beq g 30 then (match args with | [x, a, b] => delA 3 zT m x a b | _ => none) else
  bif Nat.beq g 31 then (match args with | [x, a, b] => delA 4 zK m x a b | _ => none) else none
theorem zT_ok (ρ : Env) : concL ρ zT = some (Builtin.zeroCells (Value.agg #[.string ⟨#[]⟩, .slice none 0 0, .slice none 0 0]).cells 1).toList := by
  have e : (Builtin.zeroCells (Value.agg #[.string ⟨#[]⟩, .slice none 0 0, .slice none 0 0]).cells 1).toList = [.string ⟨#[]⟩, .slice none 0 0, .slice none 0 0] := by kernel_rfl
  rw [e]
  rfl
theorem zK_ok (ρ : Env) : concL ρ zK = some (Builtin.zeroCells (Value.agg #[.string ⟨#[]⟩, .slice none 0 0, .bool false, .bool false]).cells 1).toList := by
  have e : (Builtin.zeroCells (Value.agg #[.string ⟨#[]⟩, .slice none 0 0, .bool false, .bool false]).cells 1).toList = [.string ⟨#[]⟩, .slice none 0 0, .bool false, .bool false] := by kernel_rfl
  rw [e]
  rfl
theorem delSpec_ok : CallSound Tryz.prog delSpec := by
  intro g args m r m' h
  unfold delSpec at h
  cases hg : Nat.beq g 30 with
  | true =>
    rw [hg, cond_true] at h
    rw [Nat.beq_eq] at hg
    subst hg
    split at h
    case h_2 => cases h
    rename_i x a b
    obtain ⟨i, hi, hz, hs⟩ := info_two infoT
    have hent := enters (c := bodyOf Tryz.f30) Tryz.func30 rfl (by kernel_rfl)
    obtain ⟨p, n0, c0, rfl, hLg⟩ := delA_lg h
    refine ⟨_, hLg, fun ρ w xs hr hxs => .inl ⟨hent _ _, ?_⟩⟩
    obtain ⟨g, n, C, k, w1, w2, rfl, h1, h2, h3, h4, h5, p', n', c', h6, h7, h8⟩ := delA_ok (P := Tryz.prog) hr Tryz.underlying25 hi hz hs (zT_ok ρ) h hxs
    cases h6
    refine (delT g n C k w w1 w2 h1 h2 (by omega) h4 h5).mono ?_
    rintro e w' ⟨rfl, rfl⟩
    exact ⟨_, rfl, ρ, h7, h8⟩
  | false =>
    rw [hg, cond_false] at h
    cases hg : Nat.beq g 31 with
    | true =>
      rw [hg, cond_true] at h
      rw [Nat.beq_eq] at hg
      subst hg
      split at h
      case h_2 => cases h
      rename_i x a b
      obtain ⟨i, hi, hz, hs⟩ := info_two infoK
      have hent := enters (c := bodyOf Tryz.f31) Tryz.func31 rfl (by kernel_rfl)
      obtain ⟨p, n0, c0, rfl, hLg⟩ := delA_lg h
      refine ⟨_, hLg, fun ρ w xs hr hxs => .inl ⟨hent _ _, ?_⟩⟩
      obtain ⟨g, n, C, k, w1, w2, rfl, h1, h2, h3, h4, h5, p', n', c', h6, h7, h8⟩ := delA_ok (P := Tryz.prog) hr Tryz.underlying29 hi hz hs (zK_ok ρ) h hxs
      cases h6
      refine (delK g n C k w w1 w2 h1 h2 (by omega) h4 h5).mono ?_
      rintro e w' ⟨rfl, rfl⟩
      exact ⟨_, rfl, ρ, h7, h8⟩
    | false => rw [hg, cond_false] at h; cases h
/-- What is told at once: classes of errors, words, known; names; slices.Delete. -/
def specD (g : FuncId) (args : List AV) (m : Mem) : Option (AV × Mem) := match spec1 g args m with
  | some r => some r
  | none => bif Nat.beq g 98 then ob (findW wN args) (fun r => some (r, m)) else delSpec g args m
theorem specD_ok : CallSound Tryz.prog specD := by
  intro g args m r m' h
  unfold specD at h
  split at h
  · rename_i q hq; cases h; exact spec1_ok g args m r m' hq
  · cases hg : Nat.beq g 98 with
    | true =>
      rw [hg, cond_true] at h
      rw [Nat.beq_eq] at hg
      subst hg
      obtain ⟨v, hv, h⟩ := ob_some.1 h
      cases h
      exact flat_ok cx1_ok wN_ok hv m
    | false =>
      rw [hg, cond_false] at h
      exact delSpec_ok g args m r m' h
abbrev cxD : Ctx := cxS Tryz.prog tab specD 3000
theorem cxD_ok : CallSound Tryz.prog cxD.call := (cxS_sound mixed tab_ok specD_ok 3000).1
end
end Ev
end Go.Proofs.YtelopbcbmckbcaaGreatDoor
