/- consistoryref9.SameTable: contract. -/
import Derived.Test.YtddedijencleeaaGreatDoorRfA
import Derived.Test.YtddedijencleeaaGreatDoorGb
set_option linter.all false
namespace Go.Proofs.YtddedijencleeaaGreatDoor
open Go.RowKit Go.Lib RC

noncomputable abbrev cST : Code := bodyOf Tryz.f55
noncomputable abbrev nST : Nat := Tryz.f55.ntmps
theorem SlF.at {W : World} {size bytes n : Nat} {v : Value} {P : Nat → List Value → Prop} (h : SlF W size bytes n v P) {i : Nat} (hi : i < n) : ∃ b o c cs, v = .slice (some ⟨b, o, none⟩) n c ∧ b < W.heap.size ∧ cs.length = size ∧ P i cs ∧ W.rangeAt b (o + i * size) cs := by
  obtain ⟨A, c, rfl, _, _, _, hA⟩ := h
  obtain ⟨b, o, rfl, hb, hcs⟩ := hA (by omega)
  obtain ⟨cs, h1, _, h2, h3⟩ := hcs i hi
  exact ⟨b, o, c, cs, rfl, hb, h1, h2, h3⟩
theorem TaIn.form' {W : World} {t : Ta} {cs : List Value} (h : TaIn W t cs) : ∃ A c A' c', cs = [.string t.nm, .slice A t.nc c, .slice A' t.nk c'] ∧ SlF W 3 32 t.nc (.slice A t.nc c) (fun i ds => CoIn (t.cols i) ds) ∧ SlF W 4 48 t.nk (.slice A' t.nk c') fun i ds => KeIn W (t.keys i) ds := by
  obtain ⟨_, v, u, rfl, h1, h2⟩ := h
  obtain ⟨A, c, rfl, h1'⟩ := id h1
  obtain ⟨A', c', rfl, h2'⟩ := id h2
  exact ⟨A, c, A', c', rfl, h1, h2⟩
theorem colsNo {a b : Ta} (e : a.nc = b.nc) {i : Nat} (hi : i < a.nc) (h : sameCo (a.cols i) (b.cols i) = false) : sameTa a b = false := by
  simp only [sameTa]
  rw [← e, eqN_at (r := fun i => sameCo (a.cols i) (b.cols i)) hi h]
  simp
theorem keysNo {a b : Ta} (e : a.nk = b.nk) {i : Nat} (hi : i < a.nk) (h : sameKe (a.keys i) (b.keys i) = false) : sameTa a b = false := by
  simp only [sameTa]
  rw [← e, eqN_at (r := fun i => sameKe (a.keys i) (b.keys i)) hi h]
  simp
set_option maxRecDepth 100000 in
theorem ref_sameTable (a b : Ta) (cs ds : List Value) (W : World) (ha : TaIn W a cs) (hb : TaIn W b ds) :
    Calls Tryz.prog 55 #[.agg cs.toArray, .agg ds.toArray] W fun e W' => e = .returned (.bool (sameTa a b)) ∧ Below W.heap.size W W' := by
  obtain ⟨A, c, A2, c2, rfl, hv, hv2⟩ := ha.form'
  obtain ⟨A', c', A2', c2', rfl, hu, hu2⟩ := hb.form'
  have hle := hv.len
  have hle2 := hv2.len
  refine calls_rd (c := cST) Tryz.func55 rfl (by kernel_rfl) fun a0 hst => ?_
  obtain ⟨z0, h0⟩ : ∃ z, (!(a.nm.toList == b.nm.toList)) = z := ⟨_, rfl⟩
  obtain ⟨z1, h1⟩ : ∃ z, ((a.nc : Int) != (b.nc : Int)) = z := ⟨_, rfl⟩
  obtain ⟨z2, h2⟩ : ∃ z, ((a.nk : Int) != (b.nk : Int)) = z := ⟨_, rfl⟩
  have F0 := Said.strNe (P := Tryz.prog) (N := W.heap.size) (W := W) (t := 9) h0
  have F1 := Said.intNe (P := Tryz.prog) (N := W.heap.size) (W := W) (t := 3) (k := .i64) h1
  have F2 := Said.intNe (P := Tryz.prog) (N := W.heap.size) (W := W) (t := 3) (k := .i64) h2
  cases z0
  rotate_left
  · exact goE hst (okC F0 okN) (vs := [.bool false]) (by as_aux_lemma => kernel_rfl) fun w' hw => ⟨by rw [show sameTa a b = false by simp at h0; simp [sameTa, strB, h0]]; rfl, hw⟩
  cases z1
  rotate_left
  · exact goE hst (okC F0 (okC F1 okN)) (vs := [.bool false]) (by as_aux_lemma => kernel_rfl) fun w' hw => ⟨by rw [show sameTa a b = false by simp at h1; simp [sameTa, eqN, show a.nc ≠ b.nc by omega]]; rfl, hw⟩
  cases z2
  rotate_left
  · exact goE hst (okC F0 (okC F1 (okC F2 okN))) (vs := [.bool false]) (by as_aux_lemma => kernel_rfl) fun w' hw => ⟨by rw [show sameTa a b = false by simp at h2; simp [sameTa, eqN, show a.nk ≠ b.nk by omega]]; rfl, hw⟩
  refine go (.loop 0) (k' := stackAt cST (.loop 0)) (e := .nrm) [(2, .p 0 0), (3, .p 1 0), (4, .v (.bool false)), (5, .v (.int .i64 (0 : Nat)))] [bx [.string a.nm, .slice A a.nc c, .slice A2 a.nk c2], bx [.string b.nm, .slice A' b.nc c', .slice A2' b.nk c2']] hst (okC F0 (okC F1 (okC F2 okN))) (by as_aux_lemma => kernel_rfl) fun g1 a1 w1 hst1 _ => ?_
  clear hst F0 F1 F2
  simp at h0 h1 h2
  have e1 : a.nc = b.nc := by omega
  have e2 : a.nk = b.nk := by omega
  refine loopC cST 0 (by as_aux_lemma => kernel_rfl) a.nc (fun i a' w' => (∃ g, RC.St W.heap.size W nST [(2, .p 0 0), (3, .p 1 0), (4, .v (.bool false)), (5, .v (.int .i64 (i : Nat)))] [bx [.string a.nm, .slice A a.nc c, .slice A2 a.nk c2], bx [.string b.nm, .slice A' b.nc c', .slice A2' b.nk c2']] g a' w') ∧ ∀ j, j < i → sameCo (a.cols j) (b.cols j) = true) ⟨⟨g1, hst1⟩, fun j hj => by omega⟩ ?_ ?_
  · rintro i hi a2 w2 ⟨⟨g2, hs2⟩, hall⟩
    obtain ⟨b1, o1, d1, cs1, q1, l1, l1', p1, r1⟩ := hv.at hi
    obtain ⟨b2, o2, d2, cs2, q2, l2, l2', p2, r2⟩ := hu.at (i := i) (by omega)
    cases q1
    cases q2
    obtain ⟨rfl, _, _⟩ := p1
    obtain ⟨rfl, _, _⟩ := p2
    obtain ⟨z, hz⟩ : ∃ z, sameCo (a.cols i) (b.cols i) = z := ⟨_, rfl⟩
    have G0 := Said.ltN (P := Tryz.prog) (N := W.heap.size) (W := W) (t := 3) (i := i) (n := a.nc) (z := true) (by simp; omega)
    have G1 := Said.elem (P := Tryz.prog) (N := W.heap.size) (W := W) (t := 22) (e := 105) (b := b1) (o := o1) (n := a.nc) (c := c) (size := 3) (i := i) (k := .i64) Tryz.underlying22 (by kernel_rfl) hi
    have G2 := Said.row (P := Tryz.prog) (N := W.heap.size) (W := W) (t := 105) (by kernel_rfl) (by kernel_rfl) r1 l1 (Nat.le_refl _)
    have G3 := Said.elem (P := Tryz.prog) (N := W.heap.size) (W := W) (t := 22) (e := 105) (b := b2) (o := o2) (n := b.nc) (c := c') (size := 3) (i := i) (k := .i64) Tryz.underlying22 (by kernel_rfl) (by omega)
    have G4 := Said.row (P := Tryz.prog) (N := W.heap.size) (W := W) (t := 105) (by kernel_rfl) (by kernel_rfl) r2 l2 (Nat.le_refl _)
    have G5 := Said.aggNe (P := Tryz.prog) (N := W.heap.size) (W := W) (t := 105) (z := !z) (by kernel_rfl) fun w => (eqCo (a.cols i).nm (a.cols i).ty (a.cols i).nn (b.cols i).nm (b.cols i).ty (b.cols i).nn w).trans (by rw [Bool.not_not, ← hz]; rfl)
    have G6 := Said.inc (P := Tryz.prog) (N := W.heap.size) (W := W) (t := 3) (i := i) (by omega)
    cases z
    · refine goN .fin (k' := []) (e := .ret) [(4, .v (.bool false))] hs2 (okC G0 (okC G1 (okC G2 (okC G3 (okC G4 (okC G5 okN)))))) (by as_aux_lemma => kernel_rfl) fun bs9 g9 a9 w9 hst9 => ?_
      exact outs (end_at hst9 (vs := [.v (.bool false)]) (by kernel_rfl) ⟨by rw [show sameTa a b = false from colsNo e1 hi hz]; rfl, hst9.rp.below⟩)
    · refine goK .fin (k' := []) (e := .nrm) [(2, .p 0 0), (3, .p 1 0), (4, .v (.bool false)), (5, .v (.int .i64 ((i + 1 : Nat))))] hs2 (okC G0 (okC G1 (okC G2 (okC G3 (okC G4 (okC G5 (okC G6 okN))))))) (by as_aux_lemma => kernel_rfl) fun g3 a3 w3 hst3 _ => ?_
      exact ⟨⟨g3, hst3⟩, fun j hj => by
        by_cases e : j = i
        · rw [e]; exact hz
        · exact hall j (by omega)⟩
  · rintro a2 w2 ⟨⟨g2, hs2⟩, hall⟩
    have G0 := Said.ltN (P := Tryz.prog) (N := W.heap.size) (W := W) (t := 3) (i := a.nc) (n := a.nc) (z := false) (by simp)
    refine goK .fin (k' := []) (e := .ex 0) [(2, .p 0 0), (3, .p 1 0), (4, .v (.bool false))] hs2 (okC G0 okN) (by as_aux_lemma => kernel_rfl) fun g3 a3 w3 hst3 _ => brk ?_
    have hco := hall
    clear hall hs2 G0
    refine goK (.loop 2) (k' := stackAt cST (.loop 2)) (e := .nrm) [(2, .p 0 0), (3, .p 1 0), (4, .v (.bool false)), (6, .v (.int .i64 (0 : Nat)))] hst3 okN (by as_aux_lemma => kernel_rfl) fun g4 a4 w4 hst4 _ => ?_
    refine loopC cST 2 (by as_aux_lemma => kernel_rfl) a.nk (fun i a' w' => (∃ g, RC.St W.heap.size W nST [(2, .p 0 0), (3, .p 1 0), (4, .v (.bool false)), (6, .v (.int .i64 (i : Nat)))] [bx [.string a.nm, .slice A a.nc c, .slice A2 a.nk c2], bx [.string b.nm, .slice A' b.nc c', .slice A2' b.nk c2']] g a' w') ∧ ∀ j, j < i → sameKe (a.keys j) (b.keys j) = true) ⟨⟨g4, hst4⟩, fun j hj => by omega⟩ ?_ ?_
    · rintro i hi a2 w2 ⟨⟨g2, hs2⟩, hall⟩
      obtain ⟨b1, o1, d1, cs1, q1, l1, l1', p1, r1⟩ := hv2.at hi
      obtain ⟨b2, o2, d2, cs2, q2, l2, l2', p2, r2⟩ := hu2.at (i := i) (by omega)
      cases q1
      cases q2
      obtain ⟨_, v1, rfl, s1⟩ := p1
      obtain ⟨_, v2, rfl, s2⟩ := p2
      obtain ⟨B1, k1, rfl, _⟩ := id s1
      obtain ⟨B2, k2, rfl, _⟩ := id s2
      have hlk := s1.len
      obtain ⟨y0, hy0⟩ : ∃ z, (!((a.keys i).nm.toList == (b.keys i).nm.toList)) = z := ⟨_, rfl⟩
      obtain ⟨y1, hy1⟩ : ∃ z, ((a.keys i).un != (b.keys i).un) = z := ⟨_, rfl⟩
      obtain ⟨y2, hy2⟩ : ∃ z, ((a.keys i).pr != (b.keys i).pr) = z := ⟨_, rfl⟩
      obtain ⟨y3, hy3⟩ : ∃ z, (((a.keys i).n : Int) != ((b.keys i).n : Int)) = z := ⟨_, rfl⟩
      have G0 := Said.ltN (P := Tryz.prog) (N := W.heap.size) (W := W) (t := 3) (i := i) (n := a.nk) (z := true) (by simp; omega)
      have G1 := Said.elem (P := Tryz.prog) (N := W.heap.size) (W := W) (t := 23) (e := 59) (b := b1) (o := o1) (n := a.nk) (c := c2) (size := 4) (i := i) (k := .i64) Tryz.underlying23 (by kernel_rfl) hi
      have G2 := Said.row (P := Tryz.prog) (N := W.heap.size) (W := W) (t := 59) (by kernel_rfl) (by kernel_rfl) r1 l1 (Nat.le_refl _)
      have G3 := Said.elem (P := Tryz.prog) (N := W.heap.size) (W := W) (t := 23) (e := 59) (b := b2) (o := o2) (n := b.nk) (c := c2') (size := 4) (i := i) (k := .i64) Tryz.underlying23 (by kernel_rfl) (by omega)
      have G4 := Said.row (P := Tryz.prog) (N := W.heap.size) (W := W) (t := 59) (by kernel_rfl) (by kernel_rfl) r2 l2 (Nat.le_refl _)
      have G5 := Said.strNe (P := Tryz.prog) (N := W.heap.size) (W := W) (t := 9) hy0
      have G6 := Said.boolNe (P := Tryz.prog) (N := W.heap.size) (W := W) (t := 4) Tryz.underlying4 hy1
      have G7 := Said.boolNe (P := Tryz.prog) (N := W.heap.size) (W := W) (t := 4) Tryz.underlying4 hy2
      have G8 := Said.intNe (P := Tryz.prog) (N := W.heap.size) (W := W) (t := 3) (k := .i64) hy3
      clear r1 r2 l1 l2 l1' l2'
      cases y0
      rotate_left
      · refine goN .fin (k' := []) (e := .ret) [(4, .v (.bool false))] hs2 (okC G0 (okC G1 (okC G2 (okC G3 (okC G4 (okC G5 okN)))))) (by as_aux_lemma => kernel_rfl) fun bs9 g9 a9 w9 hst9 => ?_
        exact outs (end_at hst9 (vs := [.v (.bool false)]) (by kernel_rfl) ⟨by rw [show sameTa a b = false from keysNo e2 hi (by simp at hy0; simp [sameKe, strB, hy0])]; rfl, hst9.rp.below⟩)
      cases y1
      rotate_left
      · refine goN .fin (k' := []) (e := .ret) [(4, .v (.bool false))] hs2 (okC G0 (okC G1 (okC G2 (okC G3 (okC G4 (okC G5 (okC G6 okN))))))) (by as_aux_lemma => kernel_rfl) fun bs9 g9 a9 w9 hst9 => ?_
        exact outs (end_at hst9 (vs := [.v (.bool false)]) (by kernel_rfl) ⟨by rw [show sameTa a b = false from keysNo e2 hi (by simp at hy1; simp [sameKe, hy1])]; rfl, hst9.rp.below⟩)
      cases y2
      rotate_left
      · refine goN .fin (k' := []) (e := .ret) [(4, .v (.bool false))] hs2 (okC G0 (okC G1 (okC G2 (okC G3 (okC G4 (okC G5 (okC G6 (okC G7 okN)))))))) (by as_aux_lemma => kernel_rfl) fun bs9 g9 a9 w9 hst9 => ?_
        exact outs (end_at hst9 (vs := [.v (.bool false)]) (by kernel_rfl) ⟨by rw [show sameTa a b = false from keysNo e2 hi (by simp at hy2; simp [sameKe, hy2])]; rfl, hst9.rp.below⟩)
      cases y3
      rotate_left
      · refine goN .fin (k' := []) (e := .ret) [(4, .v (.bool false))] hs2 (okC G0 (okC G1 (okC G2 (okC G3 (okC G4 (okC G5 (okC G6 (okC G7 (okC G8 okN))))))))) (by as_aux_lemma => kernel_rfl) fun bs9 g9 a9 w9 hst9 => ?_
        exact outs (end_at hst9 (vs := [.v (.bool false)]) (by kernel_rfl) ⟨by rw [show sameTa a b = false from keysNo e2 hi (by simp at hy3; simp [sameKe, eqN, show (a.keys i).n ≠ (b.keys i).n by omega])]; rfl, hst9.rp.below⟩)
      refine go (.loop 4) (k' := stackAt (loopAt cST 2) (.loop 4)) (e := .nrm) [(2, .p 0 0), (3, .p 1 0), (4, .v (.bool false)), (6, .v (.int .i64 (i : Nat))), (7, .p 2 0), (8, .p 3 0), (9, .v (.int .i64 (0 : Nat)))] [bx [.string a.nm, .slice A a.nc c, .slice (some ⟨b1, o1, none⟩) a.nk c2], bx [.string b.nm, .slice A' b.nc c', .slice (some ⟨b2, o2, none⟩) b.nk c2'], bx (eKey (a.keys i).nm (.slice B1 (a.keys i).n k1) (a.keys i).un (a.keys i).pr), bx (eKey (b.keys i).nm (.slice B2 (b.keys i).n k2) (b.keys i).un (b.keys i).pr)] hs2 (okC G0 (okC G1 (okC G2 (okC G3 (okC G4 (okC G5 (okC G6 (okC G7 (okC G8 okN))))))))) (by as_aux_lemma => kernel_rfl) fun g5 a5 w5 hst5 _ => ?_
      clear G0 G1 G2 G3 G4 G5 G6 G7 G8 hs2
      have e3 : (a.keys i).n = (b.keys i).n := by simp at hy3; omega
      refine loopC (loopAt cST 2) 4 (by as_aux_lemma => kernel_rfl) (a.keys i).n (fun j a' w' => (∃ g, RC.St W.heap.size W nST [(2, .p 0 0), (3, .p 1 0), (4, .v (.bool false)), (6, .v (.int .i64 (i : Nat))), (7, .p 2 0), (8, .p 3 0), (9, .v (.int .i64 (j : Nat)))] [bx [.string a.nm, .slice A a.nc c, .slice (some ⟨b1, o1, none⟩) a.nk c2], bx [.string b.nm, .slice A' b.nc c', .slice (some ⟨b2, o2, none⟩) b.nk c2'], bx (eKey (a.keys i).nm (.slice B1 (a.keys i).n k1) (a.keys i).un (a.keys i).pr), bx (eKey (b.keys i).nm (.slice B2 (b.keys i).n k2) (b.keys i).un (b.keys i).pr)] g a' w') ∧ ∀ l, l < j → ((a.keys i).cols l == (b.keys i).cols l) = true) ⟨⟨g5, hst5⟩, fun j hj => by omega⟩ ?_ ?_
      · rintro j hj a6 w6 ⟨⟨g6, hs6⟩, hall6⟩
        obtain ⟨b3, o3, d3, cs3, q3, l3, l3', p3, r3⟩ := s1.at hj
        obtain ⟨b4, o4, d4, cs4, q4, l4, l4', p4, r4⟩ := s2.at (i := j) (by omega)
        cases q3
        cases q4
        obtain ⟨rfl, _⟩ := p3
        obtain ⟨rfl, _⟩ := p4
        obtain ⟨z, hz⟩ : ∃ z, ((a.keys i).cols j != (b.keys i).cols j) = z := ⟨_, rfl⟩
        have G0 := Said.ltN (P := Tryz.prog) (N := W.heap.size) (W := W) (t := 3) (i := j) (n := (a.keys i).n) (z := true) (by simp; omega)
        have G1 := Said.elem (P := Tryz.prog) (N := W.heap.size) (W := W) (t := 57) (e := 3) (b := b3) (o := o3) (n := (a.keys i).n) (c := k1) (size := 1) (i := j) (k := .i64) Tryz.underlying57 (by kernel_rfl) hj
        have G2 := Said.cell (P := Tryz.prog) (N := W.heap.size) (W := W) (t := 3) (by kernel_rfl) (r3 0 _ rfl) l3 (Nat.le_refl _)
        have G3 := Said.elem (P := Tryz.prog) (N := W.heap.size) (W := W) (t := 57) (e := 3) (b := b4) (o := o4) (n := (b.keys i).n) (c := k2) (size := 1) (i := j) (k := .i64) Tryz.underlying57 (by kernel_rfl) (by omega)
        have G4 := Said.cell (P := Tryz.prog) (N := W.heap.size) (W := W) (t := 3) (by kernel_rfl) (r4 0 _ rfl) l4 (Nat.le_refl _)
        have G5 := Said.intNe (P := Tryz.prog) (N := W.heap.size) (W := W) (t := 3) (k := .i64) hz
        have G6 := Said.inc (P := Tryz.prog) (N := W.heap.size) (W := W) (t := 3) (i := j) (by omega)
        cases z
        rotate_left
        · refine goN .fin (k' := []) (e := .ret) [(4, .v (.bool false))] hs6 (okC G0 (okC G1 (okC G2 (okC G3 (okC G4 (okC G5 okN)))))) (by as_aux_lemma => kernel_rfl) fun bs9 g9 a9 w9 hst9 => ?_
          exact outs <| outs (end_at hst9 (vs := [.v (.bool false)]) (by kernel_rfl) ⟨by rw [show sameTa a b = false from keysNo e2 hi (by simp at hz; simp [sameKe, ← e3, eqN_at (r := fun l => (a.keys i).cols l == (b.keys i).cols l) hj (by simp [hz])])]; rfl, hst9.rp.below⟩)
        refine goK .fin (k' := []) (e := .nrm) [(2, .p 0 0), (3, .p 1 0), (4, .v (.bool false)), (6, .v (.int .i64 (i : Nat))), (7, .p 2 0), (8, .p 3 0), (9, .v (.int .i64 (j + 1 : Nat)))] hs6 (okC G0 (okC G1 (okC G2 (okC G3 (okC G4 (okC G5 (okC G6 okN))))))) (by as_aux_lemma => kernel_rfl) fun g3 a3 w3 hst3 _ => ?_
        exact ⟨⟨g3, hst3⟩, fun l hl => by
          by_cases e : l = j
          · rw [e]; simpa using hz
          · exact hall6 l (by omega)⟩
      · rintro a6 w6 ⟨⟨g6, hs6⟩, hall6⟩
        have G0 := Said.ltN (P := Tryz.prog) (N := W.heap.size) (W := W) (t := 3) (i := (a.keys i).n) (n := (a.keys i).n) (z := false) (by simp)
        have G1 := Said.inc (P := Tryz.prog) (N := W.heap.size) (W := W) (t := 3) (i := i) (by omega)
        refine goK .fin (k' := []) (e := .ex 4) [(2, .p 0 0), (3, .p 1 0), (4, .v (.bool false)), (6, .v (.int .i64 (i : Nat)))] hs6 (okC G0 okN) (by as_aux_lemma => kernel_rfl) fun g3 a3 w3 hst3 _ => brk ?_
        refine goK .fin (k' := []) (e := .nrm) [(2, .p 0 0), (3, .p 1 0), (4, .v (.bool false)), (6, .v (.int .i64 ((i + 1 : Nat))))] hst3 (okC G1 okN) (by as_aux_lemma => kernel_rfl) fun g7 a7 w7 hst7 _ => ?_
        exact ⟨⟨g7, St.pre (bs := [bx [.string a.nm, .slice A a.nc c, .slice (some ⟨b1, o1, none⟩) a.nk c2], bx [.string b.nm, .slice A' b.nc c', .slice (some ⟨b2, o2, none⟩) b.nk c2']]) (ex := [bx (eKey (a.keys i).nm (.slice B1 (a.keys i).n k1) (a.keys i).un (a.keys i).pr), bx (eKey (b.keys i).nm (.slice B2 (b.keys i).n k2) (b.keys i).un (b.keys i).pr)]) hst7 rfl (by kernel_rfl)⟩, fun l hl => by
          by_cases e : l = i
          · rw [e]
            simp at hy0 hy1 hy2
            simp only [sameKe, strB, hy0, hy1, hy2, ← e3, eqN_yes hall6]
            simp
          · exact hall l (by omega)⟩
    · rintro a2 w2 ⟨⟨g2, hs2⟩, hall⟩
      have G0 := Said.ltN (P := Tryz.prog) (N := W.heap.size) (W := W) (t := 3) (i := a.nk) (n := a.nk) (z := false) (by simp)
      refine goK .fin (k' := []) (e := .ex 2) [(2, .p 0 0), (3, .p 1 0), (4, .v (.bool false))] hs2 (okC G0 okN) (by as_aux_lemma => kernel_rfl) fun g3 a3 w3 hst3 _ => brk ?_
      refine goE hst3 okN (vs := [.bool true]) (by as_aux_lemma => kernel_rfl) fun w' hw => ⟨?_, hw⟩
      rw [show sameTa a b = true from ?_]; rfl
      simp only [sameTa, strB, h0, ← e1, ← e2, eqN_yes hco, eqN_yes hall]
      simp
end Go.Proofs.YtddedijencleeaaGreatDoor
