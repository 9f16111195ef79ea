/- tree.SameExpr, sameKey, SameTable: contracts. -/
import Derived.Test.YtddedijencleeaaGreatDoorGb
set_option linter.all false
namespace Go.Proofs.YtddedijencleeaaGreatDoor
open Go.RowKit Go.Lib

/-- Two structs that are laid in new blocks, one behind the other. -/
theorem SB.two (W : World) (cs ds : List Value) (t : TypeId) : SB ((W.alloc (.cells cs.toArray t)).alloc (.cells ds.toArray t)) W.heap.size cs ∧ SB ((W.alloc (.cells cs.toArray t)).alloc (.cells ds.toArray t)) (W.heap.size + 1) ds := by
  refine ⟨(SB.new W cs t).below ((Below.refl _ _).alloc (Nat.le_refl _) _), ?_⟩
  have h := SB.new (W.alloc (.cells cs.toArray t)) ds t
  have e : (W.alloc (.cells cs.toArray t)).heap.size = W.heap.size + 1 := by simp
  rwa [e] at h
theorem eqVal (a b : Int) (s : ByteArray) (c d : Int) (t : ByteArray) (w : World) : (Op.equalIn 10000 31 (.agg #[.int .i64 a, .int .i64 b, .string s]) (.agg #[.int .i64 c, .int .i64 d, .string t])).run Tryz.prog w = .ok (valB a b c d s t) w := by
  have u3 := Tryz.underlying3
  have a3 := Tryz.isAgg3
  have z3 := Tryz.sizeOf3
  have u2 := Tryz.underlying2
  have a2 := Tryz.isAgg2
  have z2 := Tryz.sizeOf2
  have u9 := Tryz.underlying9
  have a9 := Tryz.isAgg9
  have z9 := Tryz.sizeOf9
  have hS : Tryz.prog.underlying 31 = some (.struct (Tryz.prog.fieldsOf 31)) := by kernel_rfl
  have hp : Tryz.prog.stoodInHeld 31 = false := by kernel_rfl
  rw [show (10000 : Nat) = 9999 + 1 from rfl, run_equalIn_agg w 9999 31 _ _ hS hp]
  simp only [Program.fieldsOf, Tryz.underlying31]
  unfold valB strB
  go_simp
  by_cases h1 : a = c <;> by_cases h2 : b = d <;> by_cases h3 : s.toList = t.toList <;> simp [h1, h2, h3]

set_option maxHeartbeats 4000000 in
set_option maxRecDepth 100000 in
theorem sameExpr : ∀ (e e' : E) (cs cs' : List Value) (W : World), EIn W e cs → EIn W e' cs' →
    Calls Tryz.prog 84 #[.agg cs.toArray, .agg cs'.toArray] W fun r W' => r = .returned (.bool (sameE e e')) ∧ Below W.heap.size W W'
  | .no, _, _, _, _, h, _ => False.elim h
  | .mk .., .no, _, _, _, _, h => False.elim h
  | .mk k op vk vn vt tb nm n args pl ty, .mk k' op' vk' vn' vt' tb' nm' n' args' pl' ty', cs, cs', W, h, h' => by
    obtain ⟨_, v, rfl, hv⟩ := h
    obtain ⟨_, u, rfl, hu⟩ := h'
    have HC := hide fun W' (hb : Below W.heap.size W W') => hide (equalF_Expr (W := W') (q := fun i => sameE (args i) (args' i)) (entersG Tryz.func84 (by kernel_rfl) rfl) (hv.both (.below hb) fun _ _ _ h => EIn.sub (.below hb) h) (hu.both (.below hb) fun _ _ _ h => EIn.sub (.below hb) h)
      (fun W2 hb2 i cs ds _ _ h h' => sameExpr (args i) (args' i) cs ds W2 (EIn.sub (.below hb2) h) (EIn.sub (.below hb2) h')))
    have HB : ∀ o o', Hid (Below W.heap.size W ((W.alloc o).alloc o')) := fun o o' => hide (((Below.refl _ _).alloc (Nat.le_refl _) o).alloc (by simp) o')
    obtain ⟨A, c, rfl, _⟩ := hv
    obtain ⟨A', c', rfl, _⟩ := hu
    have hq := fun w => eqVal vk vn vt vk' vn' vt' w
    simp only [sameE]
    generalize eqN n n' (fun i => sameE (args i) (args' i)) = z at HC ⊢
    generalize valB vk vn vk' vn' vt vt' = b2 at hq ⊢
    generalize h0 : (k == k') = b0
    generalize h1 : (op == op') = b1
    unfold strB
    generalize h3 : (tb.toList == tb'.toList) = b3
    generalize h4 : (nm.toList == nm'.toList) = b4
    dsimp only [eCells]
    cases b0
    · go_enter Tryz.func84, Tryz.ntmps84
      go_wp2_with fail
      go_ret
      exact ⟨by simp, unhide (HB _ _)⟩
    cases b1
    · go_enter Tryz.func84, Tryz.ntmps84
      go_wp2_with fail
      go_ret
      exact ⟨by simp, unhide (HB _ _)⟩
    cases b2
    · go_enter Tryz.func84, Tryz.ntmps84
      go_wp2_with fail
      go_ret
      exact ⟨by simp, unhide (HB _ _)⟩
    cases b3
    · go_enter Tryz.func84, Tryz.ntmps84
      go_wp2_with fail
      go_ret
      exact ⟨by simp, unhide (HB _ _)⟩
    cases b4
    · go_enter Tryz.func84, Tryz.ntmps84
      go_wp2_with fail
      go_ret
      exact ⟨by simp, unhide (HB _ _)⟩
    go_enter Tryz.func84, Tryz.ntmps84
    go_wp2_with fail
    refine (unhide ((unhide HC) _ (unhide (HB _ _)))).mono ?_
    rintro e w1 ⟨rfl, hb1⟩
    have HW := hide (Below.andThen (unhide (HB _ _)) hb1)
    clear hb1
    go_wp2
    go_ret
    exact ⟨by simp, unhide HW⟩
set_option maxHeartbeats 4000000 in
set_option maxRecDepth 100000 in
theorem sameKey_ok (a b : Ke) (cs ds : List Value) (W : World) (ha : KeIn W a cs) (hb : KeIn W b ds) :
    Calls Tryz.prog 151 #[.agg cs.toArray, .agg ds.toArray] W fun r W' => r = .returned (.bool (sameKe a b)) ∧ Below W.heap.size W W' := by
  obtain ⟨_, v, rfl, hv⟩ := ha
  obtain ⟨_, u, rfl, hu⟩ := hb
  have HC := hide fun W' (hb : Below W.heap.size W W') => hide (equal_int (W := W') (hv.sub (.below hb)) (hu.sub (.below hb)))
  have HB : ∀ o o', Hid (Below W.heap.size W ((W.alloc o).alloc o')) := fun o o' => hide (((Below.refl _ _).alloc (Nat.le_refl _) o).alloc (by simp) o')
  obtain ⟨A, c, rfl, _⟩ := hv
  obtain ⟨A', c', rfl, _⟩ := hu
  obtain ⟨nm, n, cols, un, pr⟩ := a
  obtain ⟨nm', n', cols', un', pr'⟩ := b
  dsimp only at HC ⊢
  simp only [sameKe]
  generalize eqN n n' (fun i => cols i == cols' i) = z at HC ⊢
  unfold strB
  generalize h0 : (nm.toList == nm'.toList) = b0
  generalize h2 : (un == un') = b2
  generalize h3 : (pr == pr') = b3
  dsimp only [eKey]
  have S2 := hide (SB.two W (eKey nm (.slice A n c) un pr) (eKey nm' (.slice A' n' c') un' pr') 59)
  cases b0
  · go_enter Tryz.func151, Tryz.ntmps151
    go_wp2_with fail
    go_ret
    exact ⟨by simp, unhide (HB _ _)⟩
  go_enter Tryz.func151, Tryz.ntmps151
  go_wp2_with fail
  refine (unhide ((unhide HC) _ (unhide (HB _ _)))).mono ?_
  rintro e w1 ⟨rfl, hb1⟩
  have HW := hide (Below.andThen (unhide (HB _ _)) hb1)
  have x2 := ((unhide S2).1.below hb1).cell 2 rfl
  have x3 := ((unhide S2).1.below hb1).cell 3 rfl
  have y2 := ((unhide S2).2.below hb1).cell 2 rfl
  have y3 := ((unhide S2).2.below hb1).cell 3 rfl
  clear hb1 S2
  cases z <;> cases b2 <;> cases b3
  all_goals
    go_wp2
    go_ret
    exact ⟨by simp, unhide HW⟩
set_option maxHeartbeats 4000000 in
set_option maxRecDepth 100000 in
theorem sameTable_ok (a b : Ta) (cs ds : List Value) (W : World) (ha : TaIn W a cs) (hb : TaIn W b ds) :
    Calls Tryz.prog 78 #[.agg cs.toArray, .agg ds.toArray] W fun r W' => r = .returned (.bool (sameTa a b)) ∧ Below W.heap.size W W' := by
  obtain ⟨_, v, v2, rfl, hv, hv2⟩ := ha
  obtain ⟨_, u, u2, rfl, hu, hu2⟩ := hb
  have HC := hide fun W' (hb : Below W.heap.size W W') => hide (equal_Column (W := W') (hv.sub (.below hb)) (hu.sub (.below hb)))
  have HC2 := hide fun W' (hb : Below W.heap.size W W') => hide (equalF_Key (W := W') (q := fun i => sameKe (a.keys i) (b.keys i)) (entersG Tryz.func151 (by kernel_rfl) rfl) (hv2.both (.below hb) fun _ _ _ h => KeIn.sub (.below hb) h) (hu2.both (.below hb) fun _ _ _ h => KeIn.sub (.below hb) h)
      (fun W2 hb2 i cs ds _ _ h h' => sameKey_ok (a.keys i) (b.keys i) cs ds W2 (KeIn.sub (.below hb2) h) (KeIn.sub (.below hb2) h')))
  have HB : ∀ o o', Hid (Below W.heap.size W ((W.alloc o).alloc o')) := fun o o' => hide (((Below.refl _ _).alloc (Nat.le_refl _) o).alloc (by simp) o')
  obtain ⟨A, c, rfl, _⟩ := hv
  obtain ⟨A', c', rfl, _⟩ := hu
  obtain ⟨A2, c2, rfl, _⟩ := hv2
  obtain ⟨A2', c2', rfl, _⟩ := hu2
  obtain ⟨nm, nc, cols, nk, keys⟩ := a
  obtain ⟨nm', nc', cols', nk', keys'⟩ := b
  dsimp only at HC HC2 ⊢
  simp only [sameTa]
  generalize eqN nc nc' (fun i => sameCo (cols i) (cols' i)) = z at HC ⊢
  generalize eqN nk nk' (fun i => sameKe (keys i) (keys' i)) = z2 at HC2 ⊢
  unfold strB
  generalize h0 : (nm.toList == nm'.toList) = b0
  have S2 := hide (SB.two W [.string nm, .slice A nc c, .slice A2 nk c2] [.string nm', .slice A' nc' c', .slice A2' nk' c2'] 25)
  cases b0
  · go_enter Tryz.func78, Tryz.ntmps78
    go_wp2_with fail
    go_ret
    exact ⟨by simp, unhide (HB _ _)⟩
  go_enter Tryz.func78, Tryz.ntmps78
  go_wp2_with fail
  refine (unhide ((unhide HC) _ (unhide (HB _ _)))).mono ?_
  rintro e w1 ⟨rfl, hb1⟩
  have HW := hide (Below.andThen (unhide (HB _ _)) hb1)
  have x2 := ((unhide S2).1.below hb1).cell 2 rfl
  have y2 := ((unhide S2).2.below hb1).cell 2 rfl
  clear hb1 S2
  cases z
  · go_wp2_with fail
    go_ret
    exact ⟨by simp, unhide HW⟩
  go_wp2_with fail
  refine (unhide ((unhide HC2) _ (unhide HW))).mono ?_
  rintro e w2 ⟨rfl, hb2⟩
  have HW2 := hide (Below.andThen (unhide HW) hb2)
  clear hb2
  go_wp2
  go_ret
  exact ⟨by simp, unhide HW2⟩
end Go.Proofs.YtddedijencleeaaGreatDoor
