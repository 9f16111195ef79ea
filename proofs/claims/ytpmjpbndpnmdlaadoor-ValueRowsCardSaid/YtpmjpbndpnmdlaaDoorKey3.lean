/- value.unkey of bytes that begin with a text's own: contract. -/
import Derived.Test.YtpmjpbndpnmdlaaDoorKey2
import Derived.Test.YtpmjpbndpnmdlaaDoorRw3
set_option linter.all false
namespace Go.Proofs.YtpmjpbndpnmdlaaDoor
open Go.RowKit Go.Lib

theorem bytes_IndexByte (b o n c : Nat) (xs : List Int) (cv : Int) (w : World) (h : Reads w 1 (some ⟨b, o, none⟩) n (nums xs)) :
    Calls Tryd.prog 63 #[.slice (some ⟨b, o, none⟩) n c, .int .u8 cv] w fun e w' => e = .returned (.int .i64 (Lib.indexByte (Lib.bytesOf xs) cv.toNat.toUInt8)) ∧ w' = w := by
  have hl : xs.length = n := by have := h.1; simpa [nums] using this
  have h67 := @run_callFunc_extern Tryd.prog 67 _ (Extern.BytealgIndexByte.indexByte) Tryd.func67 (by kernel_rfl) (by kernel_rfl) (by kernel_rfl) (by kernel_rfl)
  have hi := run_indexByteSlice (P := Tryd.prog) (w := w) b o n c xs hl (fun i hi => h.byte (by rw [List.getD_eq_getElem?_getD, List.getElem?_eq_getElem (by omega)]; rfl)) cv
  clear h
  go_enter Tryd.func63, Tryd.ntmps63
  go_wp2
  go_ret
  exact ⟨rfl, rfl⟩
theorem indexByte_text (rest : List UInt8) : ∀ (t : List UInt8), (∀ b ∈ t, b ≠ 0) → Lib.indexByte (t ++ 0 :: rest) 0 = t.length
  | [], _ => rfl
  | b :: t, h => by
    have hb := h b (List.mem_cons_self ..)
    have ih := indexByte_text rest t fun b hb => h b (List.mem_cons_of_mem _ hb)
    rw [List.cons_append]
    unfold Lib.indexByte
    rw [if_neg (by simpa using hb), ih]
    rw [if_neg (by simp; try omega)]
    simp
def txtI (t : ByteArray) : List Int := t.data.toList.map fun b => (b.toNat : Int)
theorem bytesOf_txt (t : ByteArray) : Lib.bytesOf (txtI t) = t.data.toList := by
  unfold Lib.bytesOf txtI
  rw [List.map_map]
  conv => rhs; rw [← List.map_id t.data.toList]
  exact List.map_congr_left fun b _ => by simp
theorem str_txt (t : ByteArray) : strOfNums (txtI t) = t := by
  have := bytesOf_txt t
  unfold Lib.bytesOf at this
  unfold strOfNums
  rw [this]
theorem txt_len (t : ByteArray) : (txtI t).length = t.size := by unfold txtI; rw [List.length_map, Array.length_toList]; rfl
theorem may3_plain {t : ByteArray} (h : mayB 3 0 t = true) : ∀ b ∈ t.data.toList, b ≠ 0 := by
  unfold mayB at h
  rw [if_neg (by decide), if_neg (by decide), if_neg (by decide), if_pos rfl] at h
  simp only [Bool.and_eq_true] at h
  have h2 := h.2.2
  rw [plainB_mayB] at h2
  unfold plainB at h2
  rw [List.all_eq_true] at h2
  intro b hb e
  have := h2 b hb
  rw [e] at this
  simp at this

set_option maxRecDepth 100000 in
set_option maxHeartbeats 1000000 in
theorem unkey_3 (b o m c : Nat) (t : ByteArray) (rest : List Int) (w : World) (hv : mayB 3 0 t = true) (ht : t.size ≤ 9223372036854775807) (hm : m ≤ 9223372036854775807) (hc : m ≤ c) (h : Reads w 1 (some ⟨b, o, none⟩) m (nums ((3 :: (txtI t ++ [0])) ++ rest))) :
    Calls Tryd.prog 45 #[.slice (some ⟨b, o, none⟩) m c] w (UPost w ⟨3, 0, t⟩ rest (some ⟨b, o, none⟩) m (3 :: (txtI t ++ [0]))) := by
  have hl : m = (t.size + 1 + rest.length) + 1 := by have := h.1; simp [nums, txt_len] at this; omega
  subst hl
  have c0 : (w.alloc (.cells #[.int .i64 0, .int .i64 0, .string ⟨#[]⟩] 23)).cell? ⟨b, o, none⟩ = some (.int .u8 3) := (h.alloc _).byte (j := 0) rfl
  have h' : Reads ((w.alloc (.cells #[.int .i64 0, .int .i64 0, .string ⟨#[]⟩] 23)).alloc (.cells #[.int .i64 3, .int .i64 0, .string ⟨#[]⟩] 23)) 1 (some ⟨b, o + 1, none⟩) (t.size + 1 + rest.length) (nums (txtI t ++ 0 :: rest)) := by
    have := ((h.alloc (.cells #[.int .i64 0, .int .i64 0, .string ⟨#[]⟩] 23)).alloc (.cells #[.int .i64 3, .int .i64 0, .string ⟨#[]⟩] 23))
    have e : (3 :: (txtI t ++ [0])) ++ rest = [3] ++ (txtI t ++ 0 :: rest) := by simp
    rw [e] at this
    have := this.shift
    simpa [txt_len, Nat.add_assoc, Nat.add_comm 1] using this
  have hix := bytes_IndexByte b (o + 1) _ (c - 1) _ 0 _ h'
  have hidx : Lib.indexByte (Lib.bytesOf (txtI t ++ 0 :: rest)) (0 : Int).toNat.toUInt8 = (t.size : Int) := by
    have e : Lib.bytesOf (txtI t ++ 0 :: rest) = t.data.toList ++ 0 :: Lib.bytesOf rest := by
      rw [← bytesOf_txt t]; simp [Lib.bytesOf]
    rw [e]
    exact (indexByte_text _ _ (may3_plain hv)).trans (by rw [Array.length_toList]; rfl)
  rw [hidx] at hix
  have HIX := hide hix
  have htx : Reads ((w.alloc (.cells #[.int .i64 0, .int .i64 0, .string ⟨#[]⟩] 23)).alloc (.cells #[.int .i64 3, .int .i64 0, .string ⟨#[]⟩] 23)) 1 (some ⟨b, o + 1, none⟩) t.size (nums (txtI t)) := by
    refine ⟨by simp [nums, txt_len], fun ht0 => ?_⟩
    obtain ⟨b', o', e, hlt, hcell⟩ := h'.2 (by omega)
    cases e
    refine ⟨b, o + 1, rfl, hlt, fun j u hu => hcell j u ?_⟩
    rw [nums_append, List.getElem?_append_left (List.getElem?_eq_some_iff.1 hu).1]
    exact hu
  have hcv := htx.conv (P := Tryd.prog) 49 5 Tryd.underlying49 Tryd.underlying5 (c - 1) 9 Tryd.underlying9
  rw [str_txt] at hcv
  have H := hide h
  clear h h' hix hidx htx
  have BR := (Blk3.new w 23 (.int .i64 0) (.int .i64 0) (.string ⟨#[]⟩)).alloc (.cells #[.int .i64 3, .int .i64 0, .string t] 23)
  have BV := Blk3.new1 w (.cells #[.int .i64 0, .int .i64 0, .string ⟨#[]⟩] 23) 23 (.int .i64 3) (.int .i64 0) (.string t)
  obtain ⟨b0, b1, b2, fB⟩ := BV.cells
  have hI := fun w => value_Is 3 0 t w ht
  rw [hv] at hI
  have HI := fun w => hide (hI w)
  clear hI hv
  have hal : Below w.heap.size w ((w.alloc (.cells #[.int .i64 0, .int .i64 0, .string ⟨#[]⟩] 23)).alloc (.cells #[.int .i64 3, .int .i64 0, .string t] 23)) := ((Below.refl _ _).alloc (Nat.le_refl _) _).alloc (by simp) _
  have HBW := hide hal
  clear hal
  have hc1 : 1 < c := by omega
  go_enter Tryd.func45, Tryd.ntmps45
  go_wp2_with fail
  refine (unhide HIX).mono ?_
  rintro e w1 ⟨rfl, rfl⟩
  by_cases hc2 : t.size + 2 < c
  · go_wp2_with fail
    refine (unhide (HI _)).mono ?_
    rintro e w2 ⟨rfl, hb2⟩
    replace BR := BR.below hb2
    replace BV := BV.below hb2
    clear b0 b1 b2 fB
    obtain ⟨b0, b1, b2, fB⟩ := BV.cells
    obtain ⟨r0, r1, r2, fR⟩ := BR.cells
    replace HBW := hide (Below.andThen (unhide HBW) hb2)
    clear hb2 c0 hcv
    go_wp2
    go_region
    go_wp2
    replace BR := BR.set3 (.int .i64 3) (.int .i64 0) (.string t)
    obtain ⟨z0, z1, z2, _⟩ := BR.cells
    replace HBW := hide (below_set3 (unhide HBW) (Nat.le_refl w.heap.size) (.int .i64 3) (.int .i64 0) (.string t)).drew
    refine bodyPost_ret (v := .tuple #[.agg #[.int .i64 3, .int .i64 0, .string t], .slice (some ⟨b, o + 1 + (t.size + 1), none⟩) rest.length (c - 1 - (t.size + 1)), .nilIface]) (by simp [results, Tryd.results45, go_sem, z0, z1, z2]) rfl ?_
    have e : (3 :: (txtI t ++ [0])).length = 1 + (t.size + 1) := by rw [List.length_cons, List.length_append, txt_len]; simp; omega
    have := upost (v := ⟨3, 0, t⟩) (c := c - 1 - (t.size + 1)) (unhide H) (unhide HBW) (by omega)
    rw [e, ← Nat.add_assoc] at this
    exact this
  · have hr0 : rest = [] := List.eq_nil_of_length_eq_zero (by omega)
    subst hr0
    have hce : c = t.size + 2 := by simp at hc; omega
    subst hce
    rw [show t.size + 2 - 1 = t.size + 1 from rfl] at hcv
    go_wp2_with fail
    refine (unhide (HI _)).mono ?_
    rintro e w2 ⟨rfl, hb2⟩
    replace BR := BR.below hb2
    replace BV := BV.below hb2
    clear b0 b1 b2 fB
    obtain ⟨b0, b1, b2, fB⟩ := BV.cells
    obtain ⟨r0, r1, r2, fR⟩ := BR.cells
    replace HBW := hide (Below.andThen (unhide HBW) hb2)
    clear hb2 c0 hcv
    go_wp2
    go_region
    go_wp2
    replace BR := BR.set3 (.int .i64 3) (.int .i64 0) (.string t)
    obtain ⟨z0, z1, z2, _⟩ := BR.cells
    replace HBW := hide (below_set3 (unhide HBW) (Nat.le_refl w.heap.size) (.int .i64 3) (.int .i64 0) (.string t)).drew
    refine bodyPost_ret (v := .tuple #[.agg #[.int .i64 3, .int .i64 0, .string t], .slice (some ⟨b, o + 1, none⟩) 0 0, .nilIface]) (by simp [results, Tryd.results45, go_sem, z0, z1, z2]) rfl ?_
    exact upost_end (unhide HBW)
end Go.Proofs.YtpmjpbndpnmdlaaDoor
