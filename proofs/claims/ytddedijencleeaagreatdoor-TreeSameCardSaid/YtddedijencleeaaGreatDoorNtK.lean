/- The prints of a minus, of a table that is dropped, of one that may not be; consistorylaw9.known yields true. -/
import Derived.Test.YtddedijencleeaaGreatDoorNtR
set_option linter.all false
namespace Go.Proofs.YtddedijencleeaaGreatDoor
open Go.RowKit Go.Lib

namespace Ev
noncomputable section
def nilIs (call : FuncId → List AV → Mem → Option (AV × Mem)) (g : FuncId) (args : List AV) : Bool := match call g args Mem.empty with
  | some (v, _) => (match v with | .nilIface => true | _ => false)
  | none => false
theorem nilIs_ok {call : FuncId → List AV → Mem → Option (AV × Mem)} (hc : CallSound Tryz.prog call) {g : FuncId} {args : List AV} (h : nilIs call g args = true) {fn : Func} {c : Code} (hg : Tryz.prog.funcs[g]? = some fn) (hb : fn.body = some c)
    (hname : (fn.name == "runtime.NumGoroutine") = false) {xs : List Value} (hxs : ∀ ρ : Env, concL ρ args = some xs) (w : World) (hw : OkW w) :
    Calls Tryz.prog g xs.toArray w fun e w' => e = .returned .nilIface ∧ Below w.heap.size w w' := by
  unfold nilIs at h
  split at h
  case h_2 => cases h
  rename_i v m hm
  split at h
  case h_2 => cases h
  rcases hc.plain hm (fun _ => 0) (fun ρ _ => hxs ρ) (z := .nilIface) (fun ρ => rfl) w hw with ⟨_, h2⟩ | ⟨v, w', h2, _⟩
  · exact h2.mono fun e w' ⟨v, hv, h1, h2⟩ => ⟨by rw [hv, h1], h2⟩
  · rw [enters hg hb hname] at h2
    cases h2
def badIs (call : FuncId → List AV → Mem → Option (AV × Mem)) (g : FuncId) (args : List AV) (n : Int) : Bool := match call g args Mem.empty with
  | some (r, m) => (match r with
    | .tuple l => (match l with
      | [a, v] => (match a with | .str s => eqS [] s && (match clsA m 100 v with | some k => eqF n k | none => false) | _ => false)
      | _ => false)
    | _ => false)
  | none => false
theorem badIs_ok {call : FuncId → List AV → Mem → Option (AV × Mem)} (hc : CallSound Tryz.prog call) {g : FuncId} {args : List AV} {n : Int} (h : badIs call g args n = true) {fn : Func} {c : Code} (hg : Tryz.prog.funcs[g]? = some fn) (hb : fn.body = some c)
    (hname : (fn.name == "runtime.NumGoroutine") = false) {xs : List Value} (hxs : ∀ ρ : Env, concL ρ args = some xs) (w : World) (hw : OkW w) :
    Calls Tryz.prog g xs.toArray w fun e w' => ∃ v, e = .returned (.tuple #[.string ⟨#[]⟩, v]) ∧ ErrV w' 100 v n ∧ Below w.heap.size w w' := by
  unfold badIs at h
  split at h
  case h_2 => cases h
  rename_i r m hm
  split at h
  case h_2 => cases h
  split at h
  case h_2 => cases h
  rename_i a v
  split at h
  case h_2 => cases h
  rw [Bool.and_eq_true, eqS_eq, beq_iff_eq] at h
  obtain ⟨rfl, h⟩ := h
  split at h
  case h_2 => cases h
  rename_i k hk
  rw [eqF_eq, beq_iff_eq] at h
  subst h
  obtain ⟨L, _, H⟩ := hc g args Mem.empty _ m hm
  rcases H ⟨fun _ => none, fun _ => 0, fun _ => 0⟩ w xs (Rep.empty _ hw) (hxs _) with ⟨h1, h2⟩ | ⟨z, w', h1, _⟩
  · refine h2.mono ?_
    rintro e w' ⟨z, rfl, ρ', k1, k2⟩
    simp only [conc, concL] at k2
    have kv : ∃ u, conc ρ' v = some u ∧ z = .tuple #[.string ⟨#[]⟩, u] := by
      cases hv : conc ρ' v with
      | none => rw [hv] at k2; simp at k2
      | some u => rw [hv] at k2; simp at k2; exact ⟨u, rfl, k2.symm⟩
    obtain ⟨u, hu, rfl⟩ := kv
    exact ⟨u, rfl, clsA_ok k1.rep 100 v n u hk hu, k1.os, k1.tape, k1.output, k1.size, fun i hi => k1.frame i hi fun _ _ e => by cases e⟩
  · rw [enters hg hb hname] at h1
    cases h1
end
noncomputable section
set_option maxRecDepth 1000000
theorem drop_run : nilIs cx0.call 25 [.agg (st0 3 [116])] = true := by kernel_rfl
theorem bad_run : badIs cx0.call 8 [.agg (st0 3 [115, 101, 108, 101, 99, 116])] 20 = true := by kernel_rfl
end
end Ev
def stC (k : Int) (nm : ByteArray) : List Value := [.int .i64 k, .string ⟨#[]⟩, .slice none 0 0, .slice none 0 0, .slice none 0 0, .string nm, .string ⟨#[]⟩, .bool false, .slice none 0 0, .slice none 0 0, .slice none 0 0, .int .i64 0, .int .i64 0, .int .i64 0, .int .i64 0, .string ⟨#[]⟩, .string ⟨#[]⟩, .string ⟨#[]⟩, .slice none 0 0, .int .i64 0, .int .i64 0, .bool false, .slice none 0 0, .slice none 0 0, .slice none 0 0, .int .i64 0, .int .i64 0, .int .i64 0, .int .i64 0, .string ⟨#[]⟩, .string ⟨#[]⟩, .string ⟨#[]⟩, .slice none 0 0, .int .i64 0, .int .i64 0, .slice none 0 0, .int .i64 0]
def stV (k : Int) (nm : ByteArray) : Value := .agg (stC k nm).toArray
theorem check_drop (w : World) (hw : OkW w) : Calls Tryz.prog 25 #[stV 3 ⟨#[116]⟩] w fun e w' => e = .returned .nilIface ∧ Below w.heap.size w w' :=
  Ev.nilIs_ok Ev.cx0_ok Ev.drop_run (c := Ev.bodyOf Tryz.f25) Tryz.func25 rfl (by kernel_rfl) (xs := [_]) (fun _ => rfl) w hw
theorem print_bad (w : World) (hw : OkW w) : Calls Tryz.prog 8 #[stV 3 ⟨#[115, 101, 108, 101, 99, 116]⟩] w fun e w' => ∃ v, e = .returned (.tuple #[.string ⟨#[]⟩, v]) ∧ ErrV w' 100 v 20 ∧ Below w.heap.size w w' :=
  Ev.badIs_ok Ev.cx0_ok Ev.bad_run (c := Ev.bodyOf Tryz.f8) Tryz.func8 rfl (by kernel_rfl) (xs := [_]) (fun _ => rfl) w hw
def tDROP : ByteArray := ⟨#[68, 82, 79, 80, 32, 84, 65, 66, 76, 69, 32, 116]⟩
set_option maxHeartbeats 2000000 in
set_option maxRecDepth 100000 in
theorem stmt_drop {B b : Nat} {v : Value} {W : World} (h : Wr B b 0 0 [] v W) :
    Calls Tryz.prog 26 #[.pointer (some ⟨b, 0, none⟩), stV 3 ⟨#[116]⟩] W fun e W' => e = .returned (.tuple #[]) ∧ PW B b 0 0 tDROP.data.toList v W W' := by
  have K := hide (h.box2 [.pointer (some ⟨b, 0, none⟩)] (stC 3 ⟨#[116]⟩) 70 39)
  have H := hide ((h.alloc (.cells #[.pointer (some ⟨b, 0, none⟩)] 70)).alloc (.cells (stC 3 ⟨#[116]⟩).toArray 39))
  have HD := hide (((WS.refl b v W).alloc (.cells #[.pointer (some ⟨b, 0, none⟩)] 70)).alloc (.cells (stC 3 ⟨#[116]⟩).toArray 39))
  clear h
  dsimp only [stV]
  go_enter Tryz.func26, Tryz.ntmps26
  go_upto_region 1 with fail
  generalize hDD : (W.alloc _).alloc _ = D
  replace K : Hid (Keeps b v D W.heap.size [.pointer (some ⟨b, 0, none⟩)] 70 ∧ Keeps b v D (W.heap.size + 1) (stC 3 ⟨#[116]⟩) 39) := by rw [← hDD]; exact K
  replace H : Hid (Wr B b 0 0 [] v D) := by rw [← hDD]; exact H
  replace HD : Hid (WS b v v W D) := by rw [← hDD]; exact HD
  clear hDD
  have w0 : D.cell? ⟨W.heap.size, 0, none⟩ = some (.pointer (some ⟨b, 0, none⟩)) := (unhide K).1.cell 0
  have e0 : D.cell? ⟨W.heap.size + 1, 0, none⟩ = some (.int .i64 3) := (unhide K).2.cell 0
  have e5 : D.cell? ⟨W.heap.size + 1, 5, none⟩ = some (.string ⟨#[116]⟩) := (unhide K).2.cell 5
  go_wp2_with fail
  have hcat : (⟨#[68, 82, 79, 80, 32, 84, 65, 66, 76, 69, 32]⟩ : ByteArray) ++ ⟨#[116]⟩ = tDROP := by kernel_rfl
  rw [hcat]
  refine (says (unhide H) tDROP (by decide)).mono ?_
  rintro e w1 ⟨rfl, v1, hw1, hs1⟩
  go_wp2
  go_end0
  exact ⟨rfl, v1, by simpa using hw1, (unhide HD).trans hs1⟩

set_option maxHeartbeats 2000000 in
set_option maxRecDepth 100000 in
theorem print_drop (W : World) (hok : OkW W) (hg : 0 < W.heap.size) :
    Calls Tryz.prog 8 #[stV 3 ⟨#[116]⟩] W fun e W' => e = .returned (.tuple #[.string ⟨#[68, 82, 79, 80, 32, 84, 65, 66, 76, 69, 32, 116]⟩, .nilIface]) ∧ Below W.heap.size W W' := by
  have HD := hide ((Below.refl W.heap.size W).alloc (Nat.le_refl _) (.cells (stC 3 ⟨#[116]⟩).toArray 39))
  have E := hide (SB.new W (stC 3 ⟨#[116]⟩) 39)
  have HC := hide fun W' (hb : Below W.heap.size W W') => hide (check_drop W' (hok.belowB hg hb))
  have HP := hide fun W' (b : Nat) v (h : Wr W.heap.size b 0 0 [] v W') => hide (stmt_drop h)
  dsimp only [stV] at *
  go_enter Tryz.func8, Tryz.ntmps8
  go_upto_region 1 with fail
  generalize hD : W.alloc _ = D
  replace E : Hid (SB D W.heap.size (stC 3 ⟨#[116]⟩)) := by rw [← hD]; exact E
  replace HD : Hid (Below W.heap.size W D) := by rw [← hD]; exact HD
  clear hD
  go_wp2_with (refine wpList_load_mid rfl 39 _ rfl _ _ rfl (stC 3 ⟨#[116]⟩) _ (unhide E).at_ Tryz.underlying39 rfl WX.size41 ?_)
  refine (unhide ((unhide HC) _ (unhide HD))).mono ?_
  rintro e w1 ⟨rfl, hb1⟩
  have E1 := hide ((unhide E).below hb1)
  have HD1 := hide (Below.andThen (unhide HD) hb1)
  clear hb1 E HD HC
  have E2 := hide ((unhide E1).below ((Below.refl _ _).alloc (Nat.le_refl _) (.cells #[.pointer none, .slice none 0 0, .int .i64 0, .int .i64 0] 76)))
  go_upto_region 5 with (refine wpList_load_mid rfl 39 _ rfl _ _ rfl (stC 3 ⟨#[116]⟩) _ (unhide E1).at_ Tryz.underlying39 rfl WX.size41 ?_)
  have HWr := hide (Wr.fresh (B := W.heap.size) (W := w1) (unhide HD1).size)
  have HD2 := hide ((unhide HD1).alloc (unhide HD1).size (.cells #[.pointer none, .slice none 0 0, .int .i64 0, .int .i64 0] 76))
  have hbw := (unhide HD1).size
  generalize hD : w1.alloc _ = D
  replace E2 : Hid (SB D W.heap.size (stC 3 ⟨#[116]⟩)) := by rw [← hD]; exact E2
  replace HWr : Hid (Wr W.heap.size w1.heap.size 0 0 [] (.slice none 0 0) D) := by rw [← hD]; exact HWr
  replace HD2 : Hid (Below W.heap.size W D) := by rw [← hD]; exact HD2
  clear hD
  go_wp2_with (refine wpList_load_mid rfl 39 _ rfl _ _ rfl (stC 3 ⟨#[116]⟩) _ (unhide E2).at_ Tryz.underlying39 rfl WX.size41 ?_)
  refine (unhide ((unhide HP) _ _ _ (unhide HWr))).mono ?_
  rintro e w2 ⟨rfl, v2, hw2, hs2⟩
  have HS := hide (builderString hw2 (by simp [tDROP]))
  have HD3 := hide ((unhide HD2).trans (hs2.below (B := W.heap.size) hbw (fun g hg => by cases hg) (unhide HD2).size))
  clear hw2 hs2 E1 E2 HD1 HP HWr
  go_wp2_with fail
  refine (unhide HS).mono ?_
  rintro e w3 ⟨rfl, hb3⟩
  replace HD3 := hide ((unhide HD3).trans hb3)
  clear hb3
  go_wp2
  go_ret2
  exact ⟨rfl, unhide HD3⟩

set_option maxHeartbeats 2000000 in
set_option maxRecDepth 100000 in
theorem expr_neg {g : Nat} (W : World) (hok : OkW W) (hg : 0 < W.heap.size) (hA : Args W.heap.size g (X.cells ⟨1, 0, 2, 1, ⟨#[]⟩, none, 0, 0⟩) W) :
    Calls Tryz.prog 10 #[X.val ⟨3, 1, 0, 0, ⟨#[]⟩, some ⟨g, 0, none⟩, 1, 1⟩] W fun e W' => e = .returned (.tuple #[.string ⟨#[45, 32, 40, 49, 41]⟩, .nilIface]) ∧ Below W.heap.size W W' := by
  have hI : IsOK W.heap.size W ⟨3, 1, 0, 0, ⟨#[]⟩, some ⟨g, 0, none⟩, 1, 1⟩ := is_neg hA (fun k hk => ⟨⟨1, 0, 2, 1, ⟨#[]⟩, none, 0, 0⟩, is_val _ W hok hg 2 1 (.inr ⟨rfl, rfl⟩), fun i u hi => by
    obtain rfl : k = 0 := by omega
    simpa using hi⟩)
  have HD := hide ((Below.refl W.heap.size W).alloc (Nat.le_refl _) (.cells (X.cells ⟨3, 1, 0, 0, ⟨#[]⟩, some ⟨g, 0, none⟩, 1, 1⟩).toArray 34))
  have E := Box.new W (X.cells ⟨3, 1, 0, 0, ⟨#[]⟩, some ⟨g, 0, none⟩, 1, 1⟩)
  have HC := hide fun W' (hb : Below W.heap.size W W') => hide (hI W' hb hb.size)
  have HP := hide fun W' (hb : Below W.heap.size W W') b v (h : Wr W.heap.size b 0 0 [] v W') => hide (node_neg hA (leafI_pr W.heap.size W hok hg) hb h (by decide))
  clear hI
  dsimp only [X.val] at *
  go_enter Tryz.func10, Tryz.ntmps10
  go_wp2_with fail
  refine (unhide ((unhide HC) _ (unhide HD))).mono ?_
  rintro e w1 ⟨rfl, hb1⟩
  replace E := E.below hb1
  have HD1 := hide (Below.andThen (unhide HD) hb1)
  clear hb1 HD HC
  have E2 := hide (E.below ((Below.refl _ _).alloc (Nat.le_refl _) (.cells #[.pointer none, .slice none 0 0, .int .i64 0, .int .i64 0] 76)))
  have HWr := hide (Wr.fresh (B := W.heap.size) (W := w1) (unhide HD1).size)
  have HD2 := hide ((unhide HD1).alloc (unhide HD1).size (.cells #[.pointer none, .slice none 0 0, .int .i64 0, .int .i64 0] 76))
  have hbw := (unhide HD1).size
  obtain ⟨a0, a1, a2, a3, a4, a5, a6, a7, a8, a9, fa⟩ := E.ten
  go_upto_region 4 with fail
  generalize hD : w1.alloc _ = D
  replace E2 : Hid (Box D W.heap.size (X.cells ⟨3, 1, 0, 0, ⟨#[]⟩, some ⟨g, 0, none⟩, 1, 1⟩)) := by rw [← hD]; exact E2
  replace HWr : Hid (Wr W.heap.size w1.heap.size 0 0 [] (.slice none 0 0) D) := by rw [← hD]; exact HWr
  replace HD2 : Hid (Below W.heap.size W D) := by rw [← hD]; exact HD2
  clear hD a0 a1 a2 a3 a4 a5 a6 a7 a8 a9 fa
  obtain ⟨a0, a1, a2, a3, a4, a5, a6, a7, a8, a9, fa⟩ := (unhide E2).ten
  go_wp2_with fail
  refine (unhide ((unhide HP) _ (unhide HD2) _ _ (unhide HWr))).mono ?_
  rintro e w2 ⟨rfl, v2, hw2, hs2⟩
  have HS := hide (builderString hw2 (by simp))
  have HD3 := hide ((unhide HD2).trans (hs2.below (B := W.heap.size) hbw (fun g hg => by cases hg) (unhide HD2).size))
  clear hw2 hs2 E E2 HD1 HP HWr a0 a1 a2 a3 a4 a5 a6 a7 a8 a9 fa
  go_wp2_with fail
  refine (unhide HS).mono ?_
  rintro e w3 ⟨rfl, hb3⟩
  replace HD3 := hide ((unhide HD3).trans hb3)
  clear hb3
  go_wp2
  go_ret2
  exact ⟨rfl, unhide HD3⟩
end Go.Proofs.YtddedijencleeaaGreatDoor
