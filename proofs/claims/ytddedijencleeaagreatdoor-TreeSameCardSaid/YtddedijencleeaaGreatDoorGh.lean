/- A whole row appended to an empty one; slices.Clone: contracts. -/
import Derived.Test.YtddedijencleeaaGreatDoorGg
import Derived.Lib.SliceRun
set_option linter.all false
namespace Go.Proofs.YtddedijencleeaaGreatDoor
open Go.RowKit Go.Lib

theorem flatN_inv {css : Nat → List Value} {size : Nat} : ∀ {k : Nat}, (∀ j, j < k → (css j).length = size) → ∀ j u, (flatN css k)[j]? = some u → ∃ i r, i < k ∧ j = i * size + r ∧ (css i)[r]? = some u
  | 0, _, j, u, h => by simp [flatN] at h
  | k + 1, hl, j, u, h => by
    rw [flatN_succ] at h
    have e : (flatN css k).length = k * size := flatN_len fun j hj => hl j (by omega)
    by_cases hj : j < k * size
    · rw [List.getElem?_append_left (by omega)] at h
      obtain ⟨i, r, h1, h2, h3⟩ := flatN_inv (fun j hj => hl j (by omega)) j u h
      exact ⟨i, r, by omega, h2, h3⟩
    · rw [List.getElem?_append_right (by omega), e] at h
      exact ⟨k, j - k * size, by omega, by omega, h⟩
theorem flatN_one {css : Nat → List Value} : ∀ {k : Nat}, (∀ j, j < k → (css j).toArray.all (·.oneCell') = true) → ∀ u ∈ flatN css k, u.oneCell' = true
  | 0, _, u, h => by simp [flatN] at h
  | k + 1, hl, u, h => by
    rw [flatN_succ, List.mem_append] at h
    rcases h with h | h
    · exact flatN_one (fun j hj => hl j (by omega)) u h
    · exact all_mem (hl k (by omega)) u h
/-- The elements of a slice, named. -/
theorem SlF.named {W : World} {size bytes n : Nat} {v : Value} {P : Nat → List Value → Prop} (h : SlF W size bytes n v P) :
    ∃ A c css, v = .slice A n c ∧ n * bytes ≤ 140737488355328 ∧ n ≤ 9223372036854775807 ∧ (∀ i, i < n → (css i).length = size ∧ (css i).toArray.all (·.oneCell') = true ∧ P i (css i)) ∧ (∀ ad, A = some ad → ∀ j u, (flatN css n)[j]? = some u → W.cell? (ad.add j) = some u) ∧ (A = none → n = 0) := by
  obtain ⟨A, c, rfl, hnc, hc, hby, hA⟩ := h
  by_cases hn : 0 < n
  · obtain ⟨b, o, rfl, hb, hcs⟩ := hA hn
    have hcs' : ∀ i, ∃ cs : List Value, i < n → cs.length = size ∧ cs.toArray.all (·.oneCell') = true ∧ P i cs ∧ W.rangeAt b (o + i * size) cs := fun i => by
      by_cases hi : i < n
      · obtain ⟨cs, h⟩ := hcs i hi
        exact ⟨cs, fun _ => h⟩
      · exact ⟨[], fun h => absurd h hi⟩
    obtain ⟨css, hcss⟩ := Classical.axiomOfChoice hcs'
    refine ⟨_, c, css, rfl, hby, by omega, fun i hi => ⟨(hcss i hi).1, (hcss i hi).2.1, (hcss i hi).2.2.1⟩, fun ad had j u hj => ?_, fun h => by cases h⟩
    cases had
    obtain ⟨i, r, hi, rfl, hr⟩ := flatN_inv (fun j hj => (hcss j hj).1) j u hj
    have := (hcss i hi).2.2.2 r u hr
    rw [Addr.add_mid, show o + (i * size + r) = o + i * size + r by omega]
    exact this
  · obtain rfl : n = 0 := by omega
    exact ⟨A, c, fun _ => [], rfl, hby, by omega, fun i hi => by omega, fun ad _ j u hj => by simp [flatN] at hj, fun _ => rfl⟩
section
variable {P : Program}
/-- 'append(empty, s...)'. -/
theorem wpList_append_whole {ops : Array Oper} {rest : List Oper} {o : Oper} {a : Act} {Q : Exit → Act → World → Prop} {w : World} (hgd : o.guard = none) (s x : Operand) (t : TypeId)
    (ho : o.op = .call { callee := .builtin .append, args := #[s, x], argTypes := #[t, t] }) (W : World) (e : TypeId) (z : Value) (size bytes : Nat) (ht : P.underlying t = some (.slice e))
    (hi : (P.info? e).map (fun i => (i.zero, i.size, i.bytes)) = some (some z, size, bytes)) (hzs : z.cells.size = size) (hsz : 0 < size)
    (v : Value) (hs : a.eval s = v) (hown : w.ownsRow W.heap.size e size v 0 []) (hbl : Below W.heap.size W w) {n : Nat} {u : Value} {R : Nat → List Value → Prop} (hx : a.eval x = u) (hu : SlF w size bytes n u R) (hnn : ∀ A c, u = .slice A n c → A ≠ none)
    (h : ∀ v' w', SlF (World.only w' fun b => W.heap.size ≤ b) size bytes n v' R → Below W.heap.size W w' → (v'.ownBlock = v.ownBlock ∨ v'.ownBlock = some w.heap.size) → w.grownBy w' v.ownBlock → wpList P ops Q rest (a.put o.dst v') w') : wpList P ops Q (o :: rest) a w := by
  obtain ⟨A, c, css, rfl, hby, hn, hcss, hcell, _⟩ := hu.named
  obtain ⟨ti, h1, h2, h3, h4⟩ := info_parts hi
  cases A with
  | none => exact absurd rfl (hnn none c rfl)
  | some ad =>
    refine wpList_append_own_at w hgd s x t ho W.heap.size e ti z size bytes ht h1 h2 h3 h4 hzs hsz v 0 [] hs hown ad n c (flatN css n) hx (flatN_len fun j hj => (hcss j hj).1) (hcell ad rfl) (flatN_one fun j hj => (hcss j hj).2.1) (by unfold maxLen; omega) (by rw [Nat.zero_add]; exact hby) hbl.size ?_
    intro v' w' ho' hg _ hat
    rw [Nat.zero_add, List.nil_append] at ho'
    have hO : Out W w' e size n v' css fun _ i cs => R i cs := ⟨ho', hbl.grown hg hbl.size fun k hk => (hown.lt k hk).1, fun j hj => ⟨(hcss j hj).1, (hcss j hj).2.1⟩, fun j hj => (hcss j hj).2.2⟩
    exact h v' w' (hO.done (fun _ _ _ _ _ h => h) hby) hO.bl hat hg
end
theorem ownsRow_empty (W : World) (e : TypeId) (size B : Nat) (hB : B ≤ W.heap.size) : (W.alloc (.cells #[] e)).ownsRow B e size (.slice (some ⟨W.heap.size, 0, none⟩) 0 0) 0 [] := by
  refine ⟨by simp, .inr ⟨W.heap.size, 0, #[], rfl, hB, ?_, Nat.le_refl _, by unfold maxLen; omega, by simp, by simp⟩⟩
  show (W.heap.push _)[W.heap.size]? = _
  simp
theorem infc_int : (Tryz.prog.info? 3).map (fun i => (i.zero, i.size, i.bytes)) = some (some (.int .i64 0), 1, 8) := by kernel_rfl
set_option maxRecDepth 100000 in
theorem clone_int {W : World} {n : Nat} {v : Value} {R : Nat → List Value → Prop} (hv : SlF W 1 8 n v R) :
    Calls Tryz.prog 62 #[v] W fun e W' => ∃ u, e = .returned u ∧ SlF (World.only W' fun b => W.heap.size ≤ b) 1 8 n u R ∧ Below W.heap.size W W' := by
  have HV := hide hv
  have hle := hv.len
  obtain ⟨A, c, rfl, _, _, hby, hA⟩ := hv
  have HBY := hide hby
  clear hby
  have hnil := fun w => Lib.run_eql_slice_nil (P := Tryz.prog) w 57 3 A n c 0 0 Tryz.underlying57
  cases A with
  | none =>
    have hn : n = 0 := by
      rcases Nat.eq_zero_or_pos n with h | h
      · exact h
      · obtain ⟨b, o, h, _⟩ := hA h; cases h
    clear hA
    subst hn
    go_enter Tryz.func62, Tryz.ntmps62
    go_wp2
    go_ret
    exact ⟨_, rfl, ⟨none, 0, rfl, Nat.le_refl _, by omega, unhide HBY, fun h => absurd h (by omega)⟩, Below.refl _ _⟩
  | some ad =>
    clear hA
    have HB : ∀ o, Hid (Below W.heap.size W (W.alloc o)) := fun o => hide ((Below.refl _ _).alloc (Nat.le_refl _) o)
    go_enter Tryz.func62, Tryz.ntmps62
    go_wp2_with (at_builtin; go_must (refine wpList_append_whole rfl _ _ 57 rfl W 3 (.int .i64 0) 1 8 Tryz.underlying57 infc_int rfl (by decide) (.slice (some ⟨W.heap.size, 0, none⟩) 0 0) rfl (ownsRow_empty W _ _ _ (Nat.le_refl _)) (unhide (HB _)) rfl ((unhide HV).sub (.below (unhide (HB _)))) (fun A c h => by cases h; exact fun h => by cases h) ?_); intro v' w' h1 h2 _ _)
    have H1 := hide h1
    have H2 := hide h2
    clear h1 h2
    go_wp2
    go_ret
    exact ⟨_, rfl, unhide H1, unhide H2⟩
theorem infc_string : (Tryz.prog.info? 9).map (fun i => (i.zero, i.size, i.bytes)) = some (some (.string ⟨#[]⟩), 1, 16) := by kernel_rfl
set_option maxRecDepth 100000 in
theorem clone_string {W : World} {n : Nat} {v : Value} {R : Nat → List Value → Prop} (hv : SlF W 1 16 n v R) :
    Calls Tryz.prog 64 #[v] W fun e W' => ∃ u, e = .returned u ∧ SlF (World.only W' fun b => W.heap.size ≤ b) 1 16 n u R ∧ Below W.heap.size W W' := by
  have HV := hide hv
  have hle := hv.len
  obtain ⟨A, c, rfl, _, _, hby, hA⟩ := hv
  have HBY := hide hby
  clear hby
  have hnil := fun w => Lib.run_eql_slice_nil (P := Tryz.prog) w 27 9 A n c 0 0 Tryz.underlying27
  cases A with
  | none =>
    have hn : n = 0 := by
      rcases Nat.eq_zero_or_pos n with h | h
      · exact h
      · obtain ⟨b, o, h, _⟩ := hA h; cases h
    clear hA
    subst hn
    go_enter Tryz.func64, Tryz.ntmps64
    go_wp2
    go_ret
    exact ⟨_, rfl, ⟨none, 0, rfl, Nat.le_refl _, by omega, unhide HBY, fun h => absurd h (by omega)⟩, Below.refl _ _⟩
  | some ad =>
    clear hA
    have HB : ∀ o, Hid (Below W.heap.size W (W.alloc o)) := fun o => hide ((Below.refl _ _).alloc (Nat.le_refl _) o)
    go_enter Tryz.func64, Tryz.ntmps64
    go_wp2_with (at_builtin; go_must (refine wpList_append_whole rfl _ _ 27 rfl W 9 (.string ⟨#[]⟩) 1 16 Tryz.underlying27 infc_string rfl (by decide) (.slice (some ⟨W.heap.size, 0, none⟩) 0 0) rfl (ownsRow_empty W _ _ _ (Nat.le_refl _)) (unhide (HB _)) rfl ((unhide HV).sub (.below (unhide (HB _)))) (fun A c h => by cases h; exact fun h => by cases h) ?_); intro v' w' h1 h2 _ _)
    have H1 := hide h1
    have H2 := hide h2
    clear h1 h2
    go_wp2
    go_ret
    exact ⟨_, rfl, unhide H1, unhide H2⟩
theorem infc_Column : (Tryz.prog.info? 105).map (fun i => (i.zero, i.size, i.bytes)) = some (some (.agg z_Column.toArray), 3, 32) := by kernel_rfl
set_option maxRecDepth 100000 in
theorem clone_Column {W : World} {n : Nat} {v : Value} {R : Nat → List Value → Prop} (hv : SlF W 3 32 n v R) :
    Calls Tryz.prog 59 #[v] W fun e W' => ∃ u, e = .returned u ∧ SlF (World.only W' fun b => W.heap.size ≤ b) 3 32 n u R ∧ Below W.heap.size W W' := by
  have HV := hide hv
  have hle := hv.len
  obtain ⟨A, c, rfl, _, _, hby, hA⟩ := hv
  have HBY := hide hby
  clear hby
  have hnil := fun w => Lib.run_eql_slice_nil (P := Tryz.prog) w 22 105 A n c 0 0 Tryz.underlying22
  cases A with
  | none =>
    have hn : n = 0 := by
      rcases Nat.eq_zero_or_pos n with h | h
      · exact h
      · obtain ⟨b, o, h, _⟩ := hA h; cases h
    clear hA
    subst hn
    go_enter Tryz.func59, Tryz.ntmps59
    go_wp2
    go_ret
    exact ⟨_, rfl, ⟨none, 0, rfl, Nat.le_refl _, by omega, unhide HBY, fun h => absurd h (by omega)⟩, Below.refl _ _⟩
  | some ad =>
    clear hA
    have HB : ∀ o, Hid (Below W.heap.size W (W.alloc o)) := fun o => hide ((Below.refl _ _).alloc (Nat.le_refl _) o)
    go_enter Tryz.func59, Tryz.ntmps59
    go_wp2_with (at_builtin; go_must (refine wpList_append_whole rfl _ _ 22 rfl W 105 (.agg z_Column.toArray) 3 32 Tryz.underlying22 infc_Column rfl (by decide) (.slice (some ⟨W.heap.size, 0, none⟩) 0 0) rfl (ownsRow_empty W _ _ _ (Nat.le_refl _)) (unhide (HB _)) rfl ((unhide HV).sub (.below (unhide (HB _)))) (fun A c h => by cases h; exact fun h => by cases h) ?_); intro v' w' h1 h2 _ _)
    have H1 := hide h1
    have H2 := hide h2
    clear h1 h2
    go_wp2
    go_ret
    exact ⟨_, rfl, unhide H1, unhide H2⟩
end Go.Proofs.YtddedijencleeaaGreatDoor
