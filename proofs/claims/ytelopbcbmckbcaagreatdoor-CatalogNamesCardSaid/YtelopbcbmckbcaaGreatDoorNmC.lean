/- The law of names: what its calls yield at each shape of its schema: contracts. -/
import Derived.Test.YtelopbcbmckbcaaGreatDoorNm2
set_option linter.all false
namespace Go.Proofs.YtelopbcbmckbcaaGreatDoor
open Go.RowKit

namespace Ev
noncomputable section
/-- Which names are tables, which are keys (of which table, from 1 on). -/
def nmTab : List (List Bool × List Nat) := [
  ([false, false, false], [0, 0, 0]),
  ([true, false, false], [0, 0, 0]),
  ([false, true, false], [0, 0, 0]),
  ([false, false, true], [0, 0, 0]),
  ([true, true, false], [0, 0, 0]),
  ([true, false, true], [0, 0, 0]),
  ([true, false, false], [0, 1, 0]),
  ([true, false, false], [0, 0, 1]),
  ([false, false, false], [0, 0, 0]),
  ([true, true, false], [0, 0, 0]),
  ([false, true, true], [0, 0, 0]),
  ([false, true, false], [2, 0, 0]),
  ([false, true, false], [0, 0, 2]),
  ([true, false, true], [0, 0, 0]),
  ([false, true, true], [0, 0, 0]),
  ([false, false, true], [3, 0, 0]),
  ([false, false, true], [0, 3, 0]),
  ([true, true, true], [0, 0, 0]),
  ([true, true, false], [0, 0, 1]),
  ([true, true, false], [0, 0, 2]),
  ([true, true, true], [0, 0, 0]),
  ([true, false, true], [0, 1, 0]),
  ([true, false, true], [0, 3, 0]),
  ([true, false, false], [0, 1, 1]),
  ([true, false, false], [0, 1, 1]),
  ([true, true, true], [0, 0, 0]),
  ([true, true, false], [0, 0, 1]),
  ([true, true, false], [0, 0, 2]),
  ([true, true, true], [0, 0, 0]),
  ([false, true, true], [2, 0, 0]),
  ([false, true, true], [3, 0, 0]),
  ([false, true, false], [2, 0, 2]),
  ([false, true, false], [2, 0, 2]),
  ([true, true, true], [0, 0, 0]),
  ([true, false, true], [0, 1, 0]),
  ([true, false, true], [0, 3, 0]),
  ([true, true, true], [0, 0, 0]),
  ([false, true, true], [2, 0, 0]),
  ([false, true, true], [3, 0, 0]),
  ([false, false, true], [3, 3, 0]),
  ([false, false, true], [3, 3, 0])]
def tabB (j k : Nat) : Bool := (((nmTab[j]?).getD ([], [])).1[k]?).getD false
def keyN (j k : Nat) : Nat := (((nmTab[j]?).getD ([], [])).2[k]?).getD 0
def nmL (k : Nat) : List UInt8 := [UInt8.ofNat (120 + k)]
def fndB (j k : Nat) : Bool := (match cxD.call 16 [(stJ j).1, .str (nmL k)] (ofL (stJ j).2) with
    | some (.int .i64 z, m) => newB (ofL (stJ j).2) m && (bif tabB j k then decide (0 ≤ z) else !decide (0 ≤ z))
    | _ => false) &&
  (match cxD.call 14 [(stJ j).1, .str (nmL k)] (ofL (stJ j).2) with
    | some (.tuple [.int .i64 z, .int .i64 _], m) => newB (ofL (stJ j).2) m && (bif Nat.blt 0 (keyN j k) then decide (0 ≤ z) else !decide (0 ≤ z))
    | _ => false)
def isB (j : Nat) : Bool := match cxD.call 18 [(stJ j).1] (ofL (stJ j).2) with
  | some (.bool b, m) => newB (ofL (stJ j).2) m && b
  | _ => false
def seeB (j : Nat) : Bool := fndB j 0 && fndB j 1 && fndB j 2 && isB j
def clsB (k : Nat) : Bool := match cxD.call 12 [(erK k).1] (ofL (erK k).2) with
  | some (.int .i64 z, m) => newB (ofL (erK k).2) m && decide (z = 3)
  | _ => false
set_option maxRecDepth 1000000 in
theorem cls0 : clsB 0 = true := by kernel_rfl
set_option maxRecDepth 1000000 in
theorem cls1 : clsB 1 = true := by kernel_rfl
set_option maxRecDepth 1000000 in
theorem cls2 : clsB 2 = true := by kernel_rfl
set_option maxRecDepth 1000000 in
theorem see0 : (List.range 14).all (fun i => seeB (0 + i)) = true := by kernel_rfl
set_option maxRecDepth 1000000 in
theorem see14 : (List.range 14).all (fun i => seeB (14 + i)) = true := by kernel_rfl
set_option maxRecDepth 1000000 in
theorem see28 : (List.range 13).all (fun i => seeB (28 + i)) = true := by kernel_rfl
theorem see_ok (j : Nat) (hj : j < 41) : seeB j = true := by
  by_cases h1 : j < 14
  · have := List.all_eq_true.1 see0 j (List.mem_range.2 h1)
    simpa using this
  · by_cases h2 : j < 28
    · have := List.all_eq_true.1 see14 (j - 14) (List.mem_range.2 (by omega))
      rwa [show 14 + (j - 14) = j by omega] at this
    · have := List.all_eq_true.1 see28 (j - 28) (List.mem_range.2 (by omega))
      rwa [show 28 + (j - 28) = j by omega] at this

/-- A value and its blocks, all of them from C on. -/
def HoldS (C : Nat) (a : AV) (bs : List (Option Blk)) (w : World) (v : Value) : Prop := ∃ ρ : Env, Rep ρ (ofL bs) w ∧ conc ρ a = some v ∧ ∀ i g, ρ.σ i = some g → C ≤ g
theorem HoldS.below {C : Nat} {a : AV} {bs : List (Option Blk)} {w w' : World} {v : Value} (h : HoldS C a bs w v) (hb : Below w.heap.size w w') : HoldS C a bs w' v := by
  obtain ⟨ρ, hr, hc, hl⟩ := h
  exact ⟨ρ, (Stp.below hr hb).rep, hc, hl⟩
/-- A store below C. -/
theorem HoldS.set {C : Nat} {a : AV} {bs : List (Option Blk)} {w : World} {v : Value} (h : HoldS C a bs w v) (p : Addr) (u : Value) (hp : p.block < C) (hk : ∀ g, base.keep g → g ≠ p.block) : HoldS C a bs (w.setCell p u) v := by
  obtain ⟨ρ, hr, hc, hl⟩ := h
  have hs : (w.setCell p u).heap.size = w.heap.size := by simp [World.setCell]
  refine ⟨ρ, ⟨fun i b hi => ?_, hr.inj, hr.dom, fun i g hi => by rw [hs]; exact hr.low i g hi, hr.sep, base.stays w _ hr.ok fun g hg => Below.heap_setCell _ _ _ _ (hk g hg)⟩, hc, hl⟩
  obtain ⟨g, hg, hb⟩ := hr.blk i b hi
  have := hl i g hg
  exact ⟨g, hg, hb.mono (Env.le.refl ρ) hg (Below.heap_setCell _ _ _ _ (by omega))⟩
theorem newB_ok {m m' : Mem} (h : newB m m' = true) {k : Nat} (hk : k ∈ m'.log) : m.next ≤ k := by
  have := List.all_eq_true.1 h k hk
  simpa using this
theorem call_at {call : FuncId → List AV → Mem → Option (AV × Mem)} (hc : CallSound Tryz.prog call) {g : FuncId} {args : List AV} {m m' : Mem} {r : AV} (h : call g args m = some (r, m')) (h0 : m.log = []) (hn : newB m m' = true)
    (hent : ∀ xs w, (callFunc g xs).run Tryz.prog w = .ok (.enter g xs) w) {ρ : Env} {w : World} {xs : List Value} (hr : Rep ρ m w) (hx : concL ρ args = some xs) :
    Calls Tryz.prog g xs.toArray w fun e w' => ∃ z ρ', e = .returned z ∧ Rep ρ' m' w' ∧ conc ρ' r = some z ∧ Below w.heap.size w w' ∧ (∀ i g, ρ'.σ i = some g → ρ.σ i = some g ∨ w.heap.size ≤ g) := by
  obtain ⟨L, hL, H⟩ := hc g args m r m' h
  rcases H ρ w xs hr hx with ⟨_, h2⟩ | ⟨v, w', h2, _⟩
  · refine h2.mono ?_
    rintro e w' ⟨v, rfl, ρ', s, c⟩
    have hm := hL.log
    rw [h0, List.append_nil] at hm
    have no : ∀ k, k ∈ L → ρ.σ k = none := fun k hk => hr.dom k (newB_ok hn (k := k) (by rw [hm]; exact hk))
    refine ⟨v, ρ', rfl, s.rep, c, ⟨s.os, s.tape, s.output, s.size, fun i hi => s.frame i hi fun k hk e => ?_⟩, fun i g e => ?_⟩
    · rw [no k hk] at e; cases e
    · rcases s.fresh i g e with q | q | ⟨k, hk, q⟩
      · exact .inl q
      · exact .inr q
      · rw [no k hk] at q; cases q
  · rw [hent] at h2
    cases h2
def HoldX (C j t : Nat) (w : World) (s x : Value) : Prop := ∃ ρ : Env, (∀ i g, ρ.σ i = some g → C ≤ g) ∧ Rep ρ ((ofL (stJ j).2).add (txT t).2.2) w ∧ conc ρ (stJ j).1 = some s ∧ conc ρ (mvA (ofL (stJ j).2).next (txT t).2.1) = some x
theorem HoldX.below {C j t : Nat} {w w' : World} {s x : Value} (h : HoldX C j t w s x) (hb : Below w.heap.size w w') : HoldX C j t w' s x := by
  obtain ⟨ρ, hl, hr, hs, hx⟩ := h
  exact ⟨ρ, hl, (Stp.below hr hb).rep, hs, hx⟩
theorem HoldS.less {C C' : Nat} {a : AV} {bs : List (Option Blk)} {w : World} {v : Value} (h : HoldS C a bs w v) (hc : C' ≤ C) : HoldS C' a bs w v := by
  obtain ⟨ρ, hr, hv, hl⟩ := h
  exact ⟨ρ, hr, hv, fun i g e => Nat.le_trans hc (hl i g e)⟩
theorem read_at (t : Nat) (ht : t < 18) : ReadS (txT t) := by
  have hc : t = 0 ∨ t = 1 ∨ t = 2 ∨ t = 3 ∨ t = 4 ∨ t = 5 ∨ t = 6 ∨ t = 7 ∨ t = 8 ∨ t = 9 ∨ t = 10 ∨ t = 11 ∨ t = 12 ∨ t = 13 ∨ t = 14 ∨ t = 15 ∨ t = 16 ∨ t = 17 := by omega
  rcases hc with rfl | rfl | rfl | rfl | rfl | rfl | rfl | rfl | rfl | rfl | rfl | rfl | rfl | rfl | rfl | rfl | rfl | rfl
  · exact nm0_ok
  · exact nm1_ok
  · exact nm2_ok
  · exact nm3_ok
  · exact nm4_ok
  · exact nm5_ok
  · exact nm6_ok
  · exact nm7_ok
  · exact nm8_ok
  · exact nm9_ok
  · exact nm10_ok
  · exact nm11_ok
  · exact nm12_ok
  · exact nm13_ok
  · exact nm14_ok
  · exact nm15_ok
  · exact nm16_ok
  · exact nm17_ok
theorem stmt_at (C j t : Nat) (ht : t < 18) {w : World} {s : Value} (hC : C ≤ w.heap.size) (h : HoldS C (stJ j).1 (stJ j).2 w s) :
    Calls Tryz.prog 9 #[.string ⟨(txT t).1.toArray⟩] w fun e w' => ∃ x, e = .returned x ∧ HoldX C j t w' s x ∧ Below w.heap.size w w' := by
  obtain ⟨ρ, hr, hc, hlow⟩ := h
  obtain ⟨L, hL, H⟩ := cx1_ok.again (read_at t ht) (fun _ _ => rfl) (ofL (stJ j).2)
  have hl := hL.log
  have hL0 : L = [] := by
    have := congrArg List.length hl
    rw [List.length_append] at this
    exact List.eq_nil_of_length_eq_zero (by
      have e : ((ofL (stJ j).2).add (txT t).2.2).log = (ofL (stJ j).2).log := rfl
      rw [e] at this
      omega)
  subst hL0
  rcases H ρ w [.string ⟨(txT t).1.toArray⟩] hr rfl with ⟨_, h2⟩ | ⟨v, w', h2, _⟩
  · refine h2.mono ?_
    rintro e w' ⟨v, rfl, ρ', s', c⟩
    refine ⟨v, rfl, ⟨ρ', fun i g e => ?_, s'.rep, conc_mono s'.le _ _ hc, c⟩, ⟨s'.os, s'.tape, s'.output, s'.size, fun i hi => s'.frame i hi fun k hk e => by cases hk⟩⟩
    rcases s'.fresh i g e with q | q | ⟨k, hk, _⟩
    · exact hlow i g q
    · omega
    · cases hk
  · rw [enters (c := bodyOf Tryz.f9) Tryz.func9 rfl (by kernel_rfl)] at h2
    cases h2
theorem slice_is {ρ : Env} {q : Option (Nat × Nat)} {l : Nat} {c : Cap} {v : Value} (h : conc ρ (.slice q l c) = some v) : ∃ A n c', v = .slice A n c' := by
  cases q with
  | none => cases c with
    | known c => simp only [conc, Option.some.injEq] at h; exact ⟨_, _, _, h.symm⟩
    | opn d => simp [conc] at h
  | some p =>
    obtain ⟨b, _, _, rfl⟩ := slice_conc h
    exact ⟨_, _, _, rfl⟩
def Applied (C j t : Nat) (w' : World) (s' v : Value) : Prop := match kdK j t with
  | .go k _ _ => v = .nilIface ∧ HoldS C (stJ k).1 (stJ k).2 w' s' ∧ k < 41
  | .err k _ _ => (∃ T y, v = .iface T y) ∧ HoldS C (erK k).1 (erK k).2 w' v
theorem apply_at (C j t : Nat) (hk : chkStep j t = true) (hkb : match kdK j t with | .go k _ _ => k < 41 | _ => True) {w : World} {s x : Value} (h : HoldX C j t w s x) :
    Calls Tryz.prog 10 #[s, x] w fun e w' => ∃ A n c v, e = .returned (.tuple #[.agg #[.slice A n c], v]) ∧ Applied w.heap.size j t w' (.agg #[.slice A n c]) v ∧ Below w.heap.size w w' := by
  obtain ⟨ρ, hlow, hr, hs, hx⟩ := h
  unfold chkStep at hk
  split at hk
  case h_2 => cases hk
  rename_i q0 l0 c0 e m' hcall
  rw [Bool.and_eq_true] at hk
  obtain ⟨hn, hk⟩ := hk
  refine (call_at cxD_ok hcall rfl hn (enters (c := bodyOf Tryz.f10) Tryz.func10 rfl (by kernel_rfl)) hr (concL_cons_mk hs (concL_cons_mk hx rfl))).mono ?_
  rintro e1 w' ⟨z, ρ', rfl, hr', hz, hb, hfr⟩
  have hlow' : ∀ (π : List Nat) (kn : List (Option Nat)), π.all (Nat.ble ((ofL (stJ j).2).add (txT t).2.2).next) = true → ∀ i g, (envOf π kn ρ').σ i = some g → w.heap.size ≤ g := fun π kn hp i g e => by
    simp only [envOf, Option.bind_eq_some_iff] at e
    obtain ⟨i1, hi1, q⟩ := e
    have hle := List.all_eq_true.1 hp i1 (List.mem_of_getElem? hi1)
    rw [Nat.ble_eq] at hle
    rcases hfr i1 g q with q | q
    · rw [hr.dom i1 hle] at q; cases q
    · exact q
  simp only [conc, Option.map_eq_some_iff] at hz
  obtain ⟨l, hl, rfl⟩ := hz
  obtain ⟨s', l1, hs', hl1, rfl⟩ := concL_cons hl
  obtain ⟨v, l2, hv, hl2, rfl⟩ := concL_cons hl1
  simp only [concL, Option.some.injEq] at hl2
  subst hl2
  have hs2 := hs'
  simp only [conc, Option.map_eq_some_iff] at hs2
  obtain ⟨l3, hl3, rfl⟩ := hs2
  obtain ⟨s1, l4, hs1, hl4, rfl⟩ := concL_cons hl3
  simp only [concL, Option.some.injEq] at hl4
  subst hl4
  obtain ⟨A1, n1, c1, rfl⟩ := slice_is hs1
  refine ⟨A1, n1, c1, v, rfl, ?_, hb⟩
  unfold Applied
  cases hkd : kdK j t with
  | go k pi kn =>
    rw [hkd] at hk
    dsimp only at hk
    rw [Bool.and_eq_true] at hk
    obtain ⟨hpi, hk⟩ := hk
    split at hk
    case h_2 => cases hk
    simp only [conc, Option.some.injEq] at hv
    obtain ⟨c1, c2⟩ := canon_ok (fun _ _ => ofL_lt) hk hr' hs'
    rw [hkd] at hkb
    exact ⟨hv.symm, ⟨_, c1, c2, hlow' _ _ hpi⟩, hkb⟩
  | err k pi kn =>
    rw [hkd] at hk
    dsimp only at hk
    rw [Bool.and_eq_true] at hk
    obtain ⟨hpi, hk⟩ := hk
    split at hk
    case h_2 => cases hk
    obtain ⟨c1, c2⟩ := canon_ok (fun _ _ => ofL_lt) hk hr' hv
    simp only [conc, Option.map_eq_some_iff] at hv
    obtain ⟨y, _, rfl⟩ := hv
    exact ⟨⟨_, _, rfl⟩, _, c1, c2, hlow' _ _ hpi⟩
theorem class_at (k : Nat) (hk : clsB k = true) {w : World} {v : Value} {C : Nat} (h : HoldS C (erK k).1 (erK k).2 w v) :
    Calls Tryz.prog 12 #[v] w fun e w' => e = .returned (.int .i64 3) ∧ Below w.heap.size w w' := by
  obtain ⟨ρ, hr, hv, _⟩ := h
  unfold clsB at hk
  split at hk
  case h_2 => cases hk
  rename_i z m' hcall
  simp only [Bool.and_eq_true, decide_eq_true_eq] at hk
  obtain ⟨hn, rfl⟩ := hk
  refine (call_at cxD_ok hcall rfl hn (enters (c := bodyOf Tryz.f12) Tryz.func12 rfl (by kernel_rfl)) hr (concL_cons_mk hv rfl)).mono ?_
  rintro e1 w' ⟨z, ρ', rfl, hr', hz, hb, _⟩
  simp only [conc, Option.some.injEq] at hz
  exact ⟨by rw [hz], hb⟩
theorem is_at (j : Nat) (hj : j < 41) {w : World} {s : Value} {C : Nat} (h : HoldS C (stJ j).1 (stJ j).2 w s) :
    Calls Tryz.prog 18 #[s] w fun e w' => e = .returned (.bool true) ∧ Below w.heap.size w w' := by
  obtain ⟨ρ, hr, hv, _⟩ := h
  have hk := see_ok j hj
  unfold seeB at hk
  simp only [Bool.and_eq_true] at hk
  have hk := hk.2
  unfold isB at hk
  split at hk
  case h_2 => cases hk
  rename_i z m' hcall
  simp only [Bool.and_eq_true] at hk
  obtain ⟨hn, rfl⟩ := hk
  refine (call_at cxD_ok hcall rfl hn (enters (c := bodyOf Tryz.f18) Tryz.func18 rfl (by kernel_rfl)) hr (concL_cons_mk hv rfl)).mono ?_
  rintro e1 w' ⟨z, ρ', rfl, hr', hz, hb, _⟩
  simp only [conc, Option.some.injEq] at hz
  exact ⟨by rw [hz], hb⟩
theorem fnd_at (j k : Nat) (hj : j < 41) (hk3 : k < 3) : fndB j k = true := by
  have hk := see_ok j hj
  unfold seeB at hk
  simp only [Bool.and_eq_true] at hk
  have : k = 0 ∨ k = 1 ∨ k = 2 := by omega
  rcases this with rfl | rfl | rfl
  · exact hk.1.1.1
  · exact hk.1.1.2
  · exact hk.1.2
theorem find_at (j k : Nat) (hj : j < 41) (hk3 : k < 3) {w : World} {s : Value} {C : Nat} (h : HoldS C (stJ j).1 (stJ j).2 w s) :
    Calls Tryz.prog 16 #[s, .string ⟨(nmL k).toArray⟩] w fun e w' => ∃ z : Int, e = .returned (.int .i64 z) ∧ decide (0 ≤ z) = tabB j k ∧ Below w.heap.size w w' := by
  obtain ⟨ρ, hr, hv, _⟩ := h
  have hk := fnd_at j k hj hk3
  unfold fndB at hk
  rw [Bool.and_eq_true] at hk
  have hk := hk.1
  split at hk
  case h_2 => cases hk
  rename_i z m' hcall
  rw [Bool.and_eq_true] at hk
  obtain ⟨hn, hk⟩ := hk
  refine (call_at cxD_ok hcall rfl hn (enters (c := bodyOf Tryz.f16) Tryz.func16 rfl (by kernel_rfl)) hr (concL_cons_mk hv (concL_cons_mk rfl rfl))).mono ?_
  rintro e1 w' ⟨z1, ρ', rfl, hr', hz, hb, _⟩
  simp only [conc, Option.some.injEq] at hz
  refine ⟨z, by rw [hz], ?_, hb⟩
  cases ht : tabB j k <;> rw [ht] at hk <;> simpa using hk
theorem findKey_at (j k : Nat) (hj : j < 41) (hk3 : k < 3) {w : World} {s : Value} {C : Nat} (h : HoldS C (stJ j).1 (stJ j).2 w s) :
    Calls Tryz.prog 14 #[s, .string ⟨(nmL k).toArray⟩] w fun e w' => ∃ z y : Int, e = .returned (.tuple #[.int .i64 z, .int .i64 y]) ∧ decide (0 ≤ z) = decide (0 < keyN j k) ∧ Below w.heap.size w w' := by
  obtain ⟨ρ, hr, hv, _⟩ := h
  have hk := fnd_at j k hj hk3
  unfold fndB at hk
  rw [Bool.and_eq_true] at hk
  have hk := hk.2
  split at hk
  case h_2 => cases hk
  rename_i z y m' hcall
  rw [Bool.and_eq_true] at hk
  obtain ⟨hn, hk⟩ := hk
  refine (call_at cxD_ok hcall rfl hn (enters (c := bodyOf Tryz.f14) Tryz.func14 rfl (by kernel_rfl)) hr (concL_cons_mk hv (concL_cons_mk rfl rfl))).mono ?_
  rintro e1 w' ⟨z1, ρ', rfl, hr', hz, hb, _⟩
  refine ⟨z, y, ?_, ?_, hb⟩
  · simp only [conc, concL, Option.bind_some, Option.map_some, Option.some.injEq] at hz
    rw [← hz]
  · cases ht : Nat.blt 0 (keyN j k) with
    | true =>
      rw [ht, cond_true] at hk
      rw [hk]
      symm
      rw [decide_eq_true_eq]
      simpa using ht
    | false =>
      rw [ht, cond_false] at hk
      have h1 : decide (0 ≤ z) = false := by simpa using hk
      rw [h1]
      symm
      rw [decide_eq_false_iff_not]
      intro hpos
      have : Nat.blt 0 (keyN j k) = true := by rw [Nat.blt_eq]; exact hpos
      rw [ht] at this
      cases this
end
end Ev
end Go.Proofs.YtelopbcbmckbcaaGreatDoor
