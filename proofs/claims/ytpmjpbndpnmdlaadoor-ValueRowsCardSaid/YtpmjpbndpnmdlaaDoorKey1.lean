/- value.Key: contract. -/
import Derived.Test.YtpmjpbndpnmdlaaDoorRw7
import Derived.Test.YtpmjpbndpnmdlaaDoorVal3
import Derived.Lib.BufSteps
import Derived.Laws.AppendOwnNone
set_option linter.all false
namespace Go.Proofs.YtpmjpbndpnmdlaaDoor
open Go.RowKit Go.Lib

/-- A value's bytes in a key. -/
def bodyI (v : V) : List Int := if v.k = 1 then [v.n] else if v.k = 2 then (List.range 8).map (bigI (v.n + 9223372036854775808)) else if v.k = 3 then (v.t.data.toList.map fun b => (b.toNat : Int)) ++ [0] else []
def encI (v : V) : List Int := v.k :: bodyI v
def keyI (l : List V) : List Int := l.flatMap encI
theorem keyI_take {l : List V} {k : Nat} {v : V} (h : l[k]? = some v) : keyI (l.take (k + 1)) = keyI (l.take k) ++ encI v := by
  unfold keyI
  rw [List.take_add_one, h]
  simp
theorem nums_append (a b : List Int) : nums (a ++ b) = nums a ++ nums b := by simp [nums]
def KPost (w : World) (l : List V) (e : Ending) (w' : World) : Prop :=
  if l.length ≤ 16 ∧ badB l = false then ∃ A c, e = .returned (.tuple #[.slice A (keyI l).length c, .nilIface]) ∧ Reads w' 1 A (keyI l).length (nums (keyI l)) ∧ (keyI l).length ≤ c ∧ Below w.heap.size w w'
  else ∃ v, e = .returned (.tuple #[.slice none 0 0, v]) ∧ IsErr w' v 20 ∧ Below w.heap.size w w'
theorem owns_reads {w : World} {B : Nat} {e : TypeId} {v : Value} {n : Nat} {xs : List Value} (h : w.ownsRowF B e 1 v n xs) : ∃ A c, v = .slice A n c ∧ n ≤ c ∧ Reads w 1 A n xs := by
  have hlen := h.1
  rcases h.2 with ⟨rfl, rfl⟩ | ⟨g, cap, cur, fz, rfl, hb, hg, hn, hc, hs, hfz, ht⟩
  · exact ⟨none, 0, rfl, Nat.le_refl _, ⟨by simpa using hlen, fun h => absurd h (by omega)⟩⟩
  · refine ⟨_, cap, rfl, hc, by simpa using hlen, fun _ => ⟨g, 0, rfl, (Array.getElem?_eq_some_iff.1 hg).1, fun j u hu => ?_⟩⟩
    have := h.cells (g := g) rfl j u hu
    unfold Addr.add at this
    split at this
    · rename_i hj; subst hj; simpa using this
    · simpa using this

theorem Blk3.grown {W W' : World} {g : Nat} {t : TypeId} {a b c : Value} {row : Option Nat} (h : Blk3 W g t a b c) (hg : W.grownBy W' row) (hne : row ≠ some g) : Blk3 W' g t a b c := (hg.block g h.lt (fun e => hne e.symm)).trans h
theorem own_ne {W : World} {B g n : Nat} {t e : TypeId} {v a b c : Value} {xs : List Value} (h : W.ownsRowF B e 1 v n xs) (hb : Blk3 W g t a b c) (hne : t ≠ e) : v.ownBlock ≠ some g := by
  intro hk
  rcases h.2 with ⟨rfl, _⟩ | ⟨g', cap, cur, fz, rfl, _, hg, _⟩
  · cases hk
  · simp only [Value.ownBlock, Option.some.injEq] at hk
    subst hk
    unfold Blk3 at hb
    rw [hg] at hb
    injection hb with hb
    injection hb with _ h2 _
    exact hne h2.symm
theorem own_set3 {B e n : Nat} {v : Value} {xs : List Value} {W0 W : World} (h : OwnBuf B e v n xs W0 W) {g : Nat} (hg : B ≤ g) (hne : v.ownBlock ≠ some g) (x y z : Value) :
    OwnBuf B e v n xs W0 (((W.setCell ⟨g, 0, none⟩ x).setCell ⟨g, 1, none⟩ y).setCell ⟨g, 2, none⟩ z) := by
  refine ⟨h.1.kept (row := some g) (only_setCell (g := g) (only_setCell (g := g) (only_setCell (g := g) (World.grownBy.refl W _) (p := ⟨g, 0, none⟩) (.inl rfl) x) (p := ⟨g, 1, none⟩) (.inl rfl) y) (p := ⟨g, 2, none⟩) (.inl rfl) z) (.inr hne), below_set3 h.2.1 hg x y z, ?_⟩
  have := h.2.2
  simpa [World.setCell] using this
section
variable {P : Program}
/-- 'b = append(b, c)'. -/
theorem app_byte {ops : Array Oper} {rest : List Oper} {o : Oper} {a : Act} {Q : Exit → Act → World → Prop} (hgd : o.guard = none) (s x : Operand) (t : TypeId)
    (ho : o.op = .call { callee := .builtin .append, args := #[s, x], argTypes := #[t, t] })
    (B : Nat) (e : TypeId) (i : TypeInfo) (ht : P.underlying t = some (.slice e)) (hi : P.info? e = some i) (hz : i.zero = some (.int .u8 0)) (hsize : i.size = 1) (hby : i.bytes = 1)
    (v : Value) (n : Nat) (xs : List Value) (hs : a.eval s = v) (W0 w0 : World) (c : Int) (hb : OwnBuf B e v n xs W0 w0)
    (hx : a.eval x = .slice (some ⟨w0.heap.size, 0, none⟩) 1 1) (hlen : n + 1 ≤ 140737488355328)
    (h : ∀ v' w', OwnBuf B e v' (n + 1) (xs ++ [.int .u8 c]) W0 w' → (w0.alloc (.cells #[.int .u8 c] e)).grownBy w' v.ownBlock → wpList P ops Q rest (a.put o.dst v') w') : wpList P ops Q (o :: rest) a (w0.alloc (.cells #[.int .u8 c] e)) := by
  have hb' := hb.alloc (.cells #[.int .u8 c] e)
  refine wpList_append_ownF _ hgd s x t ho B e i (.int .u8 0) 1 1 ht hi hz hsize hby rfl (by decide) v n xs hs hb'.1 ⟨w0.heap.size, 0, none⟩ 1 1 [.int .u8 c] hx rfl ?_ ?_ (by unfold maxLen; omega) (by omega) hb'.2.2 ?_
  · intro j u hj
    match j, hj with
    | 0, hj => simp at hj; subst hj; simp [Addr.add]
    | (j + 1), hj => simp at hj
  · intro u hu; simp at hu; subst hu; rfl
  · intro v' w' ho' hg _
    exact h v' w' (hb'.grown ho' hg) hg
/-- 'b = append(b, s...)'. -/
theorem app_text {ops : Array Oper} {rest : List Oper} {o : Oper} {a : Act} {Q : Exit → Act → World → Prop} {w : World} (hgd : o.guard = none) (sl x : Operand) (t u : TypeId)
    (ho : o.op = .call { callee := .builtin .append, args := #[sl, x], argTypes := #[t, u] })
    (B : Nat) (e : TypeId) (i : TypeInfo) (ht : P.underlying t = some (.slice e)) (hu : P.underlying u = some .string) (hi : P.info? e = some i) (hz : i.zero = some (.int .u8 0)) (hsize : i.size = 1) (hby : i.bytes = 1)
    (v : Value) (n : Nat) (xs : List Value) (hs : a.eval sl = v) (W0 : World) (hb : OwnBuf B e v n xs W0 w) (s : ByteArray) (hx : a.eval x = .string s) (hlen : n + s.size ≤ 140737488355328)
    (h : ∀ v' w', OwnBuf B e v' (n + s.size) (xs ++ strCells s) W0 w' → w.grownBy w' v.ownBlock → wpList P ops Q rest (a.put o.dst v') w') : wpList P ops Q (o :: rest) a w := by
  refine wpList_append_own_stringF w hgd sl x t u ho B e i ht hu hi hz hsize hby v n xs hs hb.1 s hx (by unfold maxLen; omega) hlen hb.2.2 ?_
  intro v' w' ho' hg _
  exact h v' w' (hb.grown ho' hg) hg
/-- 'b = append(b, r...)' of a row of eight bytes. -/
theorem app_row {ops : Array Oper} {rest : List Oper} {o : Oper} {a : Act} {Q : Exit → Act → World → Prop} {w : World} (hgd : o.guard = none) (s x : Operand) (t : TypeId)
    (ho : o.op = .call { callee := .builtin .append, args := #[s, x], argTypes := #[t, t] })
    (B : Nat) (e : TypeId) (i : TypeInfo) (ht : P.underlying t = some (.slice e)) (hi : P.info? e = some i) (hz : i.zero = some (.int .u8 0)) (hsize : i.size = 1) (hby : i.bytes = 1)
    (v : Value) (n : Nat) (xs : List Value) (hs : a.eval s = v) (W0 : World) (f : Nat → Int) (hb : OwnBuf B e v n xs W0 w) (g c : Nat) (hrow : w.heap[g]? = some (.cells (cells8 f) e (0, 0)))
    (hx : a.eval x = .slice (some ⟨g, 0, none⟩) 8 c) (hlen : n + 8 ≤ 140737488355328)
    (h : ∀ v' w', OwnBuf B e v' (n + 8) (xs ++ (List.range 8).map fun j => Value.int .u8 (f j)) W0 w' → w.grownBy w' v.ownBlock → wpList P ops Q rest (a.put o.dst v') w') : wpList P ops Q (o :: rest) a w := by
  refine wpList_append_ownF _ hgd s x t ho B e i (.int .u8 0) 1 1 ht hi hz hsize hby rfl (by decide) v n xs hs hb.1 ⟨g, 0, none⟩ 8 c ((List.range 8).map fun j => Value.int .u8 (f j)) hx (by simp) ?_ ?_ (by unfold maxLen; omega) (by omega) hb.2.2 ?_
  · intro j u hj
    have hadd : (⟨g, 0, none⟩ : Addr).add j = ⟨g, j, none⟩ := by unfold Addr.add; split <;> simp_all
    rw [hadd]
    simp only [World.cell?, hrow, cells8]
    simpa using hj
  · intro u hu
    simp only [List.mem_map] at hu
    obtain ⟨j, _, rfl⟩ := hu
    rfl
  · intro v' w' ho' hg _
    exact h v' w' (hb.grown ho' hg) hg
end
theorem info5 : (Tryd.prog.info? 5).map (fun i => (i.zero, i.size, i.bytes)) = some (some (.int .u8 0), 1, 1) := by kernel_rfl
theorem keyI_len {l : List V} (h : ∀ v, v ∈ l → mayB v.k v.n v.t = true) : (keyI l).length ≤ 42 * l.length := by
  induction l with
  | nil => simp [keyI]
  | cons v l ih =>
    have h1 := ih fun u hu => h u (List.mem_cons_of_mem _ hu)
    have hv := h v (List.mem_cons_self ..)
    have h2 : (encI v).length ≤ 42 := by
      unfold encI bodyI
      simp only [List.length_cons]
      unfold mayB at hv
      split
      · simp
      · split
        · rw [List.length_map, List.length_range]; decide
        · split
          · rename_i h3
            rw [if_neg (by omega), if_neg (by omega), if_neg (by omega), if_pos h3] at hv
            simp only [Bool.and_eq_true, decide_eq_true_eq] at hv
            have : v.t.data.toList.length = v.t.size := by rw [Array.length_toList]; rfl
            simp only [List.length_append, List.length_map, this, List.length_singleton]
            omega
          · simp
    have e : keyI (v :: l) = encI v ++ keyI l := rfl
    rw [e, List.length_append, List.length_cons]
    omega
theorem encI2 (n : Int) (t : ByteArray) : encI ⟨2, n, t⟩ = 2 :: (List.range 8).map (bigI (n + 9223372036854775808)) := by
  unfold encI bodyI
  rw [if_neg (show ¬ ((2 : Int) = 1) by decide), if_pos rfl]
theorem encI2_len (n : Int) (t : ByteArray) : (encI ⟨2, n, t⟩).length = 1 + 8 := by rw [encI2, List.length_cons, List.length_map, List.length_range]
theorem encI2_nums (n : Int) (t : ByteArray) : nums (encI ⟨2, n, t⟩) = [.int .u8 2] ++ (List.range 8).map fun j => Value.int .u8 (bigI (n + 9223372036854775808) j) := by
  rw [encI2]
  unfold nums
  rw [List.map_cons, List.map_map]
  rfl
theorem encI3 (n : Int) (t : ByteArray) : encI ⟨3, n, t⟩ = 3 :: ((t.data.toList.map fun b => (b.toNat : Int)) ++ [0]) := by
  unfold encI bodyI
  rw [if_neg (show ¬ ((3 : Int) = 1) by decide), if_neg (show ¬ ((3 : Int) = 2) by decide), if_pos rfl]
theorem encI3_len (n : Int) (t : ByteArray) : (encI ⟨3, n, t⟩).length = 1 + t.size + 1 := by
  rw [encI3, List.length_cons, List.length_append, List.length_map, Array.length_toList]
  have : t.data.size = t.size := rfl
  simp only [List.length_singleton, this]
  omega
theorem encI3_nums (n : Int) (t : ByteArray) : nums (encI ⟨3, n, t⟩) = [.int .u8 3] ++ strCells t ++ [.int .u8 0] := by
  rw [encI3]
  unfold nums strCells
  rw [List.map_cons, List.map_append, List.map_map]
  rfl
theorem own_below {B e n : Nat} {v : Value} {xs : List Value} {W0 W W' : World} (h : OwnBuf B e v n xs W0 W) (hb : Below W.heap.size W W') : OwnBuf B e v n xs W0 W' :=
  ⟨h.1.kept (only_of_below hb none) (by cases v.ownBlock <;> simp), h.2.1.trans (hb.mono h.2.2), Nat.le_trans h.2.2 hb.size⟩
theorem own_to {B e n n' : Nat} {v : Value} {xs xs' : List Value} {W0 W : World} (h : OwnBuf B e v n xs W0 W) (hn : n = n') (hx : xs = xs') : OwnBuf B e v n' xs' W0 W := by subst hn hx; exact h
theorem wrap_sum {n : Int} (h : In64 n) : IntKind.wrap .u64 (IntKind.wrap .u64 n + 9223372036854775808) = n + 9223372036854775808 := by
  unfold In64 at h
  have e : ∀ m : Int, IntKind.wrap .u64 m = m % 18446744073709551616 := fun m => by
    unfold IntKind.wrap
    have e1 : (2 ^ IntKind.u64.bits : Int) = 18446744073709551616 := by decide
    rw [e1]
    rfl
  rw [e, e]
  omega
theorem badB_false {l : List V} (h : badB l = false) : ∀ v, v ∈ l → mayB v.k v.n v.t = true := by
  unfold badB at h
  rw [decide_eq_false_iff_not] at h
  suffices ∀ (l : List V) (j : Nat), badIdx l j < 0 → ∀ v, v ∈ l → mayB v.k v.n v.t = true from this l 0 (by omega)
  intro l
  induction l with
  | nil => intro j _ v hv; simp at hv
  | cons u l ih =>
    intro j hj v hv
    unfold badIdx at hj
    split at hj
    · rename_i hu
      rcases List.mem_cons.1 hv with rfl | hv
      · exact hu
      · exact ih _ hj v hv
    · omega

set_option maxRecDepth 100000 in
set_option maxHeartbeats 1000000 in
theorem value_Key (A : Option Addr) (n c : Nat) (l : List V) (w : World) (hn : n ≤ 9223372036854775807) (ht : ∀ v, v ∈ l → v.t.size ≤ 9223372036854775807) (h64 : ∀ v, v ∈ l → In64 v.n) (h : Reads w 3 A n (vcells l)) :
    Calls Tryd.prog 22 #[.slice A n c] w (KPost w l) := by
  have hlen := h.vlen
  have HF := fun c hc w => hide (value_fault c hc w)
  by_cases h16 : n ≤ 16
  · have HC := hide (contains_func A n c l w hn ht h)
    cases hbad : badB l with
    | true =>
      rw [hbad] at HC
      have HK : Hid (∀ e w', (∃ v, e = .returned (.tuple #[.slice none 0 0, v]) ∧ IsErr w' v 20 ∧ Below w.heap.size w w') → KPost w l e w') := fun e w' h => by unfold KPost; rw [if_neg (by simp [hbad])]; exact h
      clear h ht h64 hbad hlen
      go_enter Tryd.func22, Tryd.ntmps22
      go_wp2_with fail
      refine (unhide HC).mono ?_
      rintro e w2 ⟨rfl, hb2⟩
      go_wp2_with fail
      refine (unhide (HF _ (by decide) _)).mono ?_
      rintro e w3 ⟨v, rfl, he, hb3⟩
      go_wp2
      go_ret2
      exact (unhide HK) _ _ ⟨v, rfl, he, Below.andThen hb2 hb3⟩
    | false =>
      rw [hbad] at HC
      have hG := badB_false hbad
      have hLEN : ∀ k, (keyI (l.take k)).length ≤ 700 := fun k => by
        have := keyI_len (l := l.take k) fun v hv => hG v (List.mem_of_mem_take hv)
        have h2 : (l.take k).length ≤ l.length := by rw [List.length_take]; omega
        omega
      have HG := hide hG
      have HLEN := hide hLEN
      have H64 := hide h64
      obtain ⟨i0, hi, hz0, hz1, hz2⟩ := info_parts info5
      have HK : Hid (∀ A c e w', e = .returned (.tuple #[.slice A (keyI l).length c, .nilIface]) → Reads w' 1 A (keyI l).length (nums (keyI l)) → (keyI l).length ≤ c → Below w.heap.size w w' → KPost w l e w') := fun A c e w' h1 h2 h3 h4 => by unfold KPost; rw [if_pos ⟨by omega, hbad⟩]; exact ⟨A, c, h1, h2, h3, h4⟩
      clear hG hLEN h64 ht hbad
      go_enter Tryd.func22, Tryd.ntmps22
      go_wp2_with fail
      refine (unhide HC).mono ?_
      rintro e w2 ⟨rfl, hb2⟩
      go_wp2
      go_loopw [4, 17] (fun o i wr => ∃ k : Nat, k ≤ n ∧ i = .int .i64 k ∧ OwnBuf w.heap.size 5 o (keyI (l.take k)).length (nums (keyI (l.take k))) w wr) (fun _ i _ => n - (RowKit.intOf i).toNat)
      case atStart => exact ⟨0, Nat.zero_le _, rfl, World.ownsRowF_nil _ _ _ _, hb2, hb2.size⟩
      case round =>
        obtain ⟨k, hk, rfl, hown⟩ := hrel
        have HL := hide h
        by_cases hlt : k < n
        · obtain ⟨b, o', v, rfl, hv, c0, c1, c2⟩ := ((unhide HL).below hown.2.1).val hlt
          have hmv := (unhide HG) v (List.mem_of_getElem? hv)
          have hvn := (unhide H64) v (List.mem_of_getElem? hv)
          have HE := hide (keyI_take hv)
          have hlk : (keyI (l.take k)).length ≤ 700 := (unhide HLEN) k
          obtain ⟨vk, vn, vt⟩ := v
          have HO2 := hide (hown.alloc (.cells #[.int .i64 vk, .int .i64 vn, .string vt] 23))
          have HBV := hide (Blk3.new wr 23 (.int .i64 vk) (.int .i64 vn) (.string vt))
          have hkv : vk = 0 ∨ vk = 1 ∨ vk = 2 ∨ vk = 3 := by
            simp only [mayB] at hmv
            by_cases h0 : vk = 0
            · exact .inl h0
            · by_cases h1 : vk = 1
              · exact .inr (.inl h1)
              · by_cases h2 : vk = 2
                · exact .inr (.inr (.inl h2))
                · by_cases h3 : vk = 3
                  · exact .inr (.inr (.inr h3))
                  · simp [h0, h1, h2, h3] at hmv
          have HMV := hide hmv
          clear hmv
          have HOWN := hide hown
          clear hown
          rcases hkv with rfl | rfl | rfl | rfl
          · have K1 : ∀ (x : Int) (w1 : World), ((wr.alloc (.cells #[.int .i64 0, .int .i64 vn, .string vt] 23)).alloc (.cells #[.int .u8 x] 5)).grownBy w1 u4.ownBlock → Blk3 w1 wr.heap.size 23 (.int .i64 0) (.int .i64 vn) (.string vt) :=
              fun x w1 hg => ((unhide HBV).alloc _).grown hg (own_ne (unhide HO2).1 (unhide HBV) (by decide))
            replace K1 := hide K1
            have BB := unhide HBV
            obtain ⟨b0, b1, b2, fB⟩ := BB.cells
            go_wp2_with (first | (at_builtin; refine app_byte rfl _ _ 49 rfl w.heap.size 5 i0 Tryd.underlying49 hi hz0 hz1 hz2 u4 _ _ rfl w _ _ (unhide HO2) (by simp [Act.eval]) (by omega) ?_; rintro v1 w1 ho1 hg1; have HO1 := hide ho1; replace BB := (unhide K1) _ _ hg1; clear b0 b1 b2 fB ho1 hg1; obtain ⟨b0, b1, b2, fB⟩ := BB.cells))
            refine ⟨⟨k + 1, by omega, by go_num, own_to (unhide HO1) (by rw [unhide HE]; simp [encI, bodyI, ByteArray.size, Nat.add_assoc]) (by rw [unhide HE]; simp [encI, bodyI, nums, strCells, Function.comp_def])⟩, by simp [RowKit.intOf]; omega⟩
          · have h01 : vn = 0 ∨ vn = 1 := by
              have := unhide HMV
              unfold mayB at this
              simp at this
              exact this.1
            rcases h01 with rfl | rfl
            · have K1 : ∀ (x : Int) (w1 : World), ((wr.alloc (.cells #[.int .i64 1, .int .i64 0, .string vt] 23)).alloc (.cells #[.int .u8 x] 5)).grownBy w1 u4.ownBlock → Blk3 w1 wr.heap.size 23 (.int .i64 1) (.int .i64 0) (.string vt) :=
                fun x w1 hg => ((unhide HBV).alloc _).grown hg (own_ne (unhide HO2).1 (unhide HBV) (by decide))
              replace K1 := hide K1
              have BB := unhide HBV
              obtain ⟨b0, b1, b2, fB⟩ := BB.cells
              go_wp2_with (first | (at_builtin; refine app_byte rfl _ _ 49 rfl w.heap.size 5 i0 Tryd.underlying49 hi hz0 hz1 hz2 u4 _ _ rfl w _ _ (unhide HO2) (by simp [Act.eval]) (by omega) ?_; rintro v1 w1 ho1 hg1; have HO1 := hide ho1; replace BB := (unhide K1) _ _ hg1; clear b0 b1 b2 fB ho1 hg1; obtain ⟨b0, b1, b2, fB⟩ := BB.cells) | (at_builtin; refine app_byte rfl _ _ 49 rfl w.heap.size 5 i0 Tryd.underlying49 hi hz0 hz1 hz2 v1 _ _ rfl w _ _ (unhide HO1) rfl (by omega) ?_; rintro v2 w2 ho2 hg2; have HO3 := hide ho2; clear ho2 hg2 b0 b1 b2 fB))
              refine ⟨⟨k + 1, by omega, by go_num, own_to (unhide HO3) (by rw [unhide HE]; simp [encI, bodyI, ByteArray.size, Nat.add_assoc]) (by rw [unhide HE]; simp [encI, bodyI, nums, strCells, Function.comp_def])⟩, by simp [RowKit.intOf]; omega⟩
            · have K1 : ∀ (x : Int) (w1 : World), ((wr.alloc (.cells #[.int .i64 1, .int .i64 1, .string vt] 23)).alloc (.cells #[.int .u8 x] 5)).grownBy w1 u4.ownBlock → Blk3 w1 wr.heap.size 23 (.int .i64 1) (.int .i64 1) (.string vt) :=
                fun x w1 hg => ((unhide HBV).alloc _).grown hg (own_ne (unhide HO2).1 (unhide HBV) (by decide))
              replace K1 := hide K1
              have BB := unhide HBV
              obtain ⟨b0, b1, b2, fB⟩ := BB.cells
              go_wp2_with (first | (at_builtin; refine app_byte rfl _ _ 49 rfl w.heap.size 5 i0 Tryd.underlying49 hi hz0 hz1 hz2 u4 _ _ rfl w _ _ (unhide HO2) (by simp [Act.eval]) (by omega) ?_; rintro v1 w1 ho1 hg1; have HO1 := hide ho1; replace BB := (unhide K1) _ _ hg1; clear b0 b1 b2 fB ho1 hg1; obtain ⟨b0, b1, b2, fB⟩ := BB.cells) | (at_builtin; refine app_byte rfl _ _ 49 rfl w.heap.size 5 i0 Tryd.underlying49 hi hz0 hz1 hz2 v1 _ _ rfl w _ _ (unhide HO1) rfl (by omega) ?_; rintro v2 w2 ho2 hg2; have HO3 := hide ho2; clear ho2 hg2 b0 b1 b2 fB))
              refine ⟨⟨k + 1, by omega, by go_num, own_to (unhide HO3) (by rw [unhide HE]; simp [encI, bodyI, ByteArray.size, Nat.add_assoc]) (by rw [unhide HE]; simp [encI, bodyI, nums, strCells, Function.comp_def])⟩, by simp [RowKit.intOf]; omega⟩
          · have HBIG0 : ∀ W, Hid (Calls Tryd.prog 43 #[.int .u64 (IntKind.wrap .u64 (IntKind.wrap .u64 vn + 9223372036854775808))] W fun e w' => e = .returned (.slice (some ⟨W.heap.size, 0, none⟩) 8 8) ∧ w'.heap[W.heap.size]? = some (.cells (cells8 (bigI (vn + 9223372036854775808))) 5 (0, 0)) ∧ Below W.heap.size W w') := fun W => by
              rw [wrap_sum hvn]
              unfold In64 at hvn
              exact value_big _ W (by omega) (by omega)
            have K1 : ∀ (x : Int) (w1 : World), ((wr.alloc (.cells #[.int .i64 2, .int .i64 vn, .string vt] 23)).alloc (.cells #[.int .u8 x] 5)).grownBy w1 u4.ownBlock → Blk3 w1 wr.heap.size 23 (.int .i64 2) (.int .i64 vn) (.string vt) :=
              fun x w1 hg => ((unhide HBV).alloc _).grown hg (own_ne (unhide HO2).1 (unhide HBV) (by decide))
            replace K1 := hide K1
            have BB := unhide HBV
            obtain ⟨b0, b1, b2, fB⟩ := BB.cells
            go_wp2_with (first | (at_builtin; refine app_byte rfl _ _ 49 rfl w.heap.size 5 i0 Tryd.underlying49 hi hz0 hz1 hz2 u4 _ _ rfl w _ _ (unhide HO2) (by simp [Act.eval]) (by omega) ?_; rintro v1 w1 ho1 hg1; have HO1 := hide ho1; replace BB := (unhide K1) _ _ hg1; clear b0 b1 b2 fB ho1 hg1; obtain ⟨b0, b1, b2, fB⟩ := BB.cells))
            refine (unhide (HBIG0 _)).mono ?_
            rintro e w2 ⟨rfl, hrow, hb2⟩
            have HROW := hide hrow
            have HO3 := hide (own_below (unhide HO1) hb2)
            clear hrow hb2 b0 b1 b2 fB BB HO1
            go_wp2_with (first | (at_builtin; refine app_row rfl _ _ 49 rfl w.heap.size 5 i0 Tryd.underlying49 hi hz0 hz1 hz2 v1 _ _ rfl w _ (unhide HO3) w1.heap.size 8 (unhide HROW) rfl (by omega) ?_; rintro v2 w3 ho3 hg3; have HO4 := hide ho3; clear ho3 hg3))
            refine ⟨⟨k + 1, by omega, by go_num, own_to (unhide HO4) (by rw [unhide HE, List.length_append, encI2_len]) (by rw [unhide HE, nums_append, encI2_nums]; simp)⟩, by simp [RowKit.intOf]; omega⟩
          · have hsz : vt.size ≤ 40 := by
              have := unhide HMV
              unfold mayB at this
              simp at this
              omega
            have K1 : ∀ (x : Int) (w1 : World), ((wr.alloc (.cells #[.int .i64 3, .int .i64 vn, .string vt] 23)).alloc (.cells #[.int .u8 x] 5)).grownBy w1 u4.ownBlock → Blk3 w1 wr.heap.size 23 (.int .i64 3) (.int .i64 vn) (.string vt) :=
              fun x w1 hg => ((unhide HBV).alloc _).grown hg (own_ne (unhide HO2).1 (unhide HBV) (by decide))
            replace K1 := hide K1
            have BB := unhide HBV
            obtain ⟨b0, b1, b2, fB⟩ := BB.cells
            go_wp2_with (first | (at_builtin; refine app_byte rfl _ _ 49 rfl w.heap.size 5 i0 Tryd.underlying49 hi hz0 hz1 hz2 u4 _ _ rfl w _ _ (unhide HO2) (by simp [Act.eval]) (by omega) ?_; rintro v1 w1 ho1 hg1; have HO1 := hide ho1; replace BB := (unhide K1) _ _ hg1; clear b0 b1 b2 fB ho1 hg1; obtain ⟨b0, b1, b2, fB⟩ := BB.cells) | (at_builtin; refine app_text rfl _ _ 49 9 rfl w.heap.size 5 i0 Tryd.underlying49 Tryd.underlying9 hi hz0 hz1 hz2 v1 _ _ rfl w (unhide HO1) vt rfl (by omega) ?_; rintro v2 w2 ho2 hg2; have HO3 := hide ho2; clear ho2 hg2 b0 b1 b2 fB) | (at_builtin; refine app_byte rfl _ _ 49 rfl w.heap.size 5 i0 Tryd.underlying49 hi hz0 hz1 hz2 v2 _ _ rfl w _ _ (unhide HO3) rfl (by omega) ?_; rintro v3 w3 ho3 hg3; have HO4 := hide ho3; clear ho3 hg3))
            refine ⟨⟨k + 1, by omega, by go_num, own_to (unhide HO4) (by rw [unhide HE, List.length_append, encI3_len]; omega) (by rw [unhide HE, nums_append, encI3_nums]; simp)⟩, by simp [RowKit.intOf]; omega⟩
        · have hkn : k = n := by omega
          have ht : l.take k = l := List.take_of_length_le (by omega)
          rw [ht] at hown
          obtain ⟨A1, c1, rfl, hcap, hr⟩ := owns_reads hown.1
          have HCAP := hide hcap
          have HR := hide hr
          have HB := hide hown.2.1
          clear hr hown ht hcap
          go_wp2
          go_ret2
          exact (unhide HK) A1 c1 _ _ rfl (unhide HR) (unhide HCAP) (unhide HB)
  · have HK : Hid (∀ e w', (∃ v, e = .returned (.tuple #[.slice none 0 0, v]) ∧ IsErr w' v 20 ∧ Below w.heap.size w w') → KPost w l e w') := fun e w' h => by unfold KPost; rw [if_neg (by omega)]; exact h
    clear h ht h64 hlen
    go_enter Tryd.func22, Tryd.ntmps22
    go_wp2_with fail
    refine (unhide (HF _ (by decide) _)).mono ?_
    rintro e w3 ⟨v, rfl, he, hb3⟩
    go_wp2
    go_ret2
    exact (unhide HK) _ _ ⟨v, rfl, he, hb3⟩
end Go.Proofs.YtpmjpbndpnmdlaaDoor
