/- The evaluator, part 6: loads, stores, new blocks. No condition. -/
import Derived.Test.YtmolojjhnbchbaaGreatDoorEv5
import Derived.Laws.Cells
import Derived.Laws.Append
import Derived.Laws.BytesArg
set_option linter.all false
namespace Go.Proofs.YtmolojjhnbchbaaGreatDoor
open Go.RowKit

namespace Ev
noncomputable section

section
variable (P : Program)
def cellsAt (m : Mem) (p : Nat × Nat) (n : Nat) : Option (List AV) :=
  match m.get p.1 with
  | some (.cells c _ _) => bif Nat.ble (p.2 + n) c.length then some ((c.drop p.2).take n) else none
  | _ => none
def loadA (m : Mem) (t : TypeId) (v : AV) : Option (AV × Nat) :=
  match v with
  | .ptr (some p) => (match aggT P t with
    | some true => (match sizeT P t with
      | none => none
      | some n => match cellsAt m p n with
        | none => none
        | some l => some (.agg l, p.1))
    | some false => (match m.get p.1 with
      | some (.cells c _ _) => (match c[p.2]? with
        | none => none
        | some a => some (a, p.1))
      | _ => none)
    | none => none)
  | _ => none
def numsOf : List AV → Option (List Int)
  | [] => some []
  | .int .u8 n :: l => (match numsOf l with | none => none | some r => some (n :: r))
  | _ :: _ => none
/-- The bytes of a slice as a text; the block that it looked at. -/
def bytesStrA (m : Mem) (s d : TypeId) (v : AV) : Option (AV × Nat) :=
  match P.underlying s, P.underlying d with
  | some (.slice e), some .string => (match P.underlying e with
    | some (.int .u8) => (match v with
      | .slice none 0 (.known 0) => some (.str [], 0)
      | .slice0 p _ _ => (match m.get p.1 with
        | some (.cells _ _ _) => some (.str [], p.1)
        | _ => none)
      | .slice (some p) n _ => (match cellsAt m p n with
        | none => none
        | some l => match numsOf l with
          | none => none
          | some xs => some (.str (xs.map fun n => UInt8.ofNat n.toNat), p.1))
      | _ => none)
    | _ => none)
  | _, _ => none
/-- Keys that are plain. -/
def keyT (t : TypeId) : Bool := match P.underlying t with | some (.int _) => true | some .string => true | _ => false
def findA (k : AV) : List (AV × AV × Nat) → Nat → Option (Option (Nat × AV))
  | [], _ => some none
  | (k', v, _) :: l, i => match k, k' with
    | .int x a, .int y b => if x = y then (bif decide (a = b) then some (some (i, v)) else findA k l (Nat.succ i)) else none
    | .str a, .str b => bif a == b then some (some (i, v)) else findA k l (Nat.succ i)
    | _, _ => none
def plainKey (t : TypeId) (k : AV) : Bool := match P.underlying t, k with | some (.int _), .int _ _ => true | some .string, .str _ => true | _, _ => false
def lookupA (m : Mem) (t : TypeId) (x k : AV) (ok : Bool) : Option (AV × Nat) :=
  match P.underlying t with
  | some (.map kt et) => bif plainKey P kt k then (match zeroT P et with
    | none => none
    | some z => (match x with
      | .map none => some (bif ok then .tuple [z, .bool false] else z, 0)
      | .map (some i) => (match m.get i with
        | some (.mp es _) => (match findA k es 0 with
          | none => none
          | some none => some (bif ok then .tuple [z, .bool false] else z, i)
          | some (some r) => some (bif ok then .tuple [r.2, .bool true] else r.2, i))
        | _ => none)
      | _ => none)) else none
  | _ => none
def lenMapA (m : Mem) (t : TypeId) (x : AV) : Option (AV × Nat) :=
  match P.underlying t, x with
  | some (.map _ _), .map (some i) => (match m.get i with
    | some (.mp es _) => some (.int .i64 es.length, i)
    | _ => none)
  | _, _ => none
/-- AN OPERATION THAT LOOKS AT ONE BLOCK: what it yields, the block. -/
def lop (m : Mem) (op : Op) (f : Operand → Option AV) : Option (AV × Nat) :=
  match op with
  | .load t x => (match f x with | none => none | some v => loadA P m t v)
  | .convert s d x => (match f x with | none => none | some v => bytesStrA P m s d v)
  | .lookup t x k ok => (match f x, f k with | some x, some k => lookupA P m t x k ok | _, _ => none)
  | .call c => (match c.callee with
    | .builtin .len => (match c.argTypes.toList, listO f c.args.toList with | t :: _, some [x] => lenMapA P m t x | _, _ => none)
    | _ => none)
  | _ => none
end
section
variable {P : Program} {ρ : Env} {m : Mem} {w : World}
theorem Rep.cells (h : Rep ρ m w) {i : Nat} {c : List AV} {e : TypeId} {op : Option Nat} (hi : m.get i = some (.cells c e op)) :
    ∃ g vs extra fr, ρ.σ i = some g ∧ concL ρ c = some vs ∧ w.heap[g]? = some (.cells (vs ++ extra).toArray e fr) ∧ (∀ o, o < (vs ++ extra).length → ¬ (fr.1 ≤ o ∧ o < fr.2)) ∧ Room ρ i op extra (vs ++ extra).length := by
  obtain ⟨g, hg, vs, ex, fr, h1, h2, h3, h4⟩ := h.blk i _ hi
  exact ⟨g, vs, ex, fr, hg, h1, h2, h3, h4⟩
theorem Rep.cell (h : Rep ρ m w) {p : Nat × Nat} {c : List AV} {e : TypeId} {op : Option Nat} {g : Nat} (hi : m.get p.1 = some (.cells c e op)) (hg : ρ.σ p.1 = some g) {a : AV} (ha : c[p.2]? = some a) :
    ∃ v, conc ρ a = some v ∧ w.cell? ⟨g, p.2, none⟩ = some v := by
  obtain ⟨g', vs, ex, fr, h0, h1, h2, _, _⟩ := h.cells hi
  rw [hg] at h0
  cases h0
  obtain ⟨v, hv, hc⟩ := concL_get h1 ha
  refine ⟨v, hc, ?_⟩
  rw [cell_of_row w g p.2 _ e fr h2]
  have hl := (List.getElem?_eq_some_iff.1 hv).1
  simp only [List.getElem?_toArray]
  rw [List.getElem?_append_left hl]
  exact hv
theorem cellsAt_ok (h : Rep ρ m w) {p : Nat × Nat} {n : Nat} {l : List AV} {g : Nat} (hg : ρ.σ p.1 = some g) (hl : cellsAt m p n = some l) :
    ∃ vs, concL ρ l = some vs ∧ vs.length = n ∧ ∀ w' : World, w'.heap = w.heap → ∀ j v, vs[j]? = some v → w'.cell? ((⟨g, p.2, none⟩ : Addr).add j) = some v := by
  unfold cellsAt at hl
  split at hl
  · rename_i c e op hi
    cases hb : Nat.ble (p.2 + n) c.length with
    | false => rw [hb, cond_false] at hl; cases hl
    | true =>
      rw [hb, cond_true] at hl
      cases hl
      rw [Nat.ble_eq] at hb
      obtain ⟨g', vs, ex, fr, h0, h1, h2, _, _⟩ := h.cells hi
      rw [hg] at h0
      cases h0
      have hlen := concL_length h1
      refine ⟨(vs.drop p.2).take n, concL_take _ (concL_drop _ h1), by simp; omega, fun w' hw j v hj => ?_⟩
      rw [Addr.add_lit, cell_of_row w' g (p.2 + j) _ e fr (by rw [hw]; exact h2)]
      rw [List.getElem?_take] at hj
      split at hj
      · rw [List.getElem?_drop] at hj
        have hl := (List.getElem?_eq_some_iff.1 hj).1
        simp only [List.getElem?_toArray]
        rw [List.getElem?_append_left hl]
        exact hj
      · cases hj
  · cases hl
theorem loadA_ok (h : Rep ρ m w) {t : TypeId} {v a : AV} {x : Value} {i : Nat} (hv : conc ρ v = some x) (hl : loadA P m t v = some (a, i)) :
    ∃ z, conc ρ a = some z ∧ (Instr.loadAt t x).run P w = .ok z w := by
  unfold loadA at hl
  split at hl
  · rename_i p
    obtain ⟨g, hg, rfl⟩ := ptr_conc hv
    split at hl
    · rename_i hag
      split at hl
      · cases hl
      · rename_i n hn
        split at hl
        · cases hl
        · rename_i l hcl
          cases hl
          obtain ⟨vs, h1, h2, h3⟩ := cellsAt_ok h hg hcl
          refine ⟨.agg vs.toArray, by simp [conc, h1], ?_⟩
          have := run_loadCells_list (P := P) w ⟨g, p.2, none⟩ vs (h3 w rfl)
          rw [h2] at this
          simp [Instr.loadAt, Instr.sureAddr, loadVar, aggT_ok hag, sizeT_ok hn, this]
    · rename_i hag
      split at hl
      · rename_i c e op hi
        split at hl
        · cases hl
        · rename_i b hb
          cases hl
          obtain ⟨z, hz, hc⟩ := h.cell hi hg hb
          refine ⟨z, hz, ?_⟩
          simp [Instr.loadAt, Instr.sureAddr, loadVar, aggT_ok hag, hc]
      · cases hl
    · cases hl
  · cases hl
theorem numsOf_ok : ∀ {l : List AV} {xs : List Int}, numsOf l = some xs → l = xs.map (AV.int .u8)
  | [], xs, h => by simp [numsOf] at h; subst h; rfl
  | a :: l, xs, h => by
    unfold numsOf at h
    split at h
    · cases ‹_ :: _ = []›
    · rename_i n l' e
      cases e
      split at h
      · cases h
      · rename_i r hr
        cases h
        simp [numsOf_ok hr]
    · cases h
theorem concL_nums : ∀ (xs : List Int), concL ρ (xs.map (AV.int .u8)) = some (xs.map (Value.int .u8))
  | [] => rfl
  | x :: xs => concL_cons_mk rfl (concL_nums xs)
theorem bytesStrA_ok (h : Rep ρ m w) {s d : TypeId} {v a : AV} {x : Value} {i : Nat} (hv : conc ρ v = some x) (hl : bytesStrA P m s d v = some (a, i)) :
    ∃ z, conc ρ a = some z ∧ (convert s d x).run P w = .ok z w := by
  unfold bytesStrA at hl
  split at hl
  · rename_i e hs hd
    split at hl
    · rename_i he
      split at hl
      · cases hl
        simp only [conc, Option.some.injEq] at hv; subst hv
        refine ⟨_, rfl, ?_⟩
        rw [run_convert_bytes_string w s d e _ 0 0 hs he hd]
        rfl
      · rename_i p q dd
        split at hl
        · rename_i hi
          cases hl
          simp only [conc, Option.map_eq_some_iff] at hv
          obtain ⟨g, hg, rfl⟩ := hv
          refine ⟨_, rfl, ?_⟩
          have := run_convert_bytes_arg (P := P) w s e hs he g (if ρ.κ p.1 - dd = 0 then p.2 else q) 0 (ρ.κ p.1 - dd) [] rfl (fun i hi => absurd hi (by omega)) d hd
          exact this
        · cases hl
      · rename_i p n c
        obtain ⟨g, hg, _, rfl⟩ := slice_conc hv
        split at hl
        · cases hl
        · rename_i l hcl
          split at hl
          · cases hl
          · rename_i xs hxs
            cases hl
            obtain ⟨vs, h1, h2, h3⟩ := cellsAt_ok h hg hcl
            rw [numsOf_ok hxs, concL_nums] at h1
            cases h1
            refine ⟨.string (strOfNums xs), rfl, ?_⟩
            refine run_convert_bytes_arg (P := P) w s e hs he g p.2 n _ xs (by simpa using h2) (fun i hi => ?_) d hd
            have := h3 w rfl i (.int .u8 (xs.getD i 0)) (by
              have : i < xs.length := by simp at h2; omega
              simp [List.getD, this])
            rwa [Addr.add_lit] at this
      · cases hl
    · cases hl
  · cases hl
theorem Rep.mp (h : Rep ρ m w) {i : Nat} {es : List (AV × AV × Nat)} {cl : Nat} (hi : m.get i = some (.mp es cl)) : ∃ g ves, ρ.σ i = some g ∧ concE ρ es = some ves ∧ w.heap[g]? = some (.map ves.toArray cl) := by
  obtain ⟨g, hg, ves, h1, h2⟩ := h.blk i _ hi
  exact ⟨g, ves, hg, h1, h2⟩
theorem concE_length : ∀ {l : List (AV × AV × Nat)} {vs : List MapEntry}, concE ρ l = some vs → vs.length = l.length
  | [], vs, h => by simp [concE] at h; subst h; rfl
  | (k, v, n) :: l, vs, h => by
    simp only [concE, Option.bind_eq_some_iff, Option.map_eq_some_iff] at h
    obtain ⟨_, _, _, _, z, hz, rfl⟩ := h
    simp [concE_length hz]
/-- What a search among a map's entries comes to. -/
def Found (ρ : Env) (d : TypeDesc) (K : Value) (l : List (AV × AV × Nat)) (vs : List MapEntry) (i : Nat) : Option (Nat × AV) → Prop
  | none => Instr.findNow d K vs i = some none
  | some (j, v) => ∃ V, conc ρ v = some V ∧ Instr.findNow d K vs i = some (some (j, V)) ∧ i ≤ j ∧ ∃ e, vs[j - i]? = some e ∧ e.key = K ∧ ∃ k' n', l[j - i]? = some (k', v, n')
theorem findA_ok {kt : TypeId} {d : TypeDesc} {k : AV} {K : Value} (hd : P.underlying kt = some d) (hp : plainKey P kt k = true) (hk : conc ρ k = some K) : ∀ {l : List (AV × AV × Nat)} {vs : List MapEntry} {i : Nat} {r : Option (Nat × AV)}, concE ρ l = some vs → findA k l i = some r →
    Found ρ d K l vs i r
  | [], vs, i, r, hv, h => by
    simp only [findA, Option.some.injEq] at h
    subst h
    simp only [concE, Option.some.injEq] at hv
    subst hv
    rfl
  | (k', v, n) :: l, vs, i, r, hv, h => by
    simp only [concE, Option.bind_eq_some_iff, Option.map_eq_some_iff] at hv
    obtain ⟨K', hK', V, hV, z, hz, rfl⟩ := hv
    unfold findA at h
    have next : findA k l (Nat.succ i) = some r → Instr.sameNow d K K' = some false → Found ρ d K ((k', v, n) :: l) (⟨K', V, n⟩ :: z) i r := by
      intro h1 h2
      have ih := findA_ok hd hp hk (i := Nat.succ i) hz h1
      cases r with
      | none => show Instr.findNow d K _ i = _; simp only [Instr.findNow, h2]; exact ih
      | some q =>
        obtain ⟨j, u⟩ := q
        obtain ⟨U, u1, u2, u3, e, u4, u5, k1, n1, u6⟩ := ih
        have u3' : i + 1 ≤ j := u3
        refine ⟨U, u1, ?_, by omega, e, ?_, u5, k1, n1, ?_⟩
        · simp only [Instr.findNow, h2]; exact u2
        · rw [show j - i = (j - Nat.succ i) + 1 by have : Nat.succ i = i + 1 := rfl; omega, List.getElem?_cons_succ]; exact u4
        · rw [show j - i = (j - Nat.succ i) + 1 by have : Nat.succ i = i + 1 := rfl; omega, List.getElem?_cons_succ]; exact u6
    have here : r = some (i, v) → K' = K → Instr.sameNow d K K' = some true → Found ρ d K ((k', v, n) :: l) (⟨K', V, n⟩ :: z) i r := by
      rintro rfl e1 h2
      refine ⟨V, hV, by simp only [Instr.findNow, h2], Nat.le_refl _, ⟨K', V, n⟩, by simp, e1, k', n, by simp⟩
    cases k with
    | int x a =>
      cases k' with
      | int y b =>
        simp only [conc, Option.some.injEq] at hk hK'
        subst hk hK'
        simp only at h
        by_cases hxy : x = y
        · subst hxy
          rw [if_pos rfl] at h
          have hdi : ∃ q, d = .int q := by
            unfold plainKey at hp
            rw [hd] at hp
            cases d <;> simp at hp
            exact ⟨_, rfl⟩
          obtain ⟨q, rfl⟩ := hdi
          by_cases hab : a = b
          · rw [decide_eq_true hab, cond_true] at h
            exact here (by cases h; rfl) (by rw [hab]) (by simp [Instr.sameNow, hab])
          · rw [decide_eq_false hab, cond_false] at h
            exact next h (by simp [Instr.sameNow, hab])
        · rw [if_neg hxy] at h; cases h
      | _ => simp at h
    | str a =>
      cases k' with
      | str b =>
        simp only [conc, Option.some.injEq] at hk hK'
        subst hk hK'
        simp only at h
        have hds : d = .string := by
          unfold plainKey at hp
          rw [hd] at hp
          cases d <;> simp at hp
          rfl
        subst hds
        have hbeq : ((ByteArray.mk a.toArray) == (ByteArray.mk b.toArray)) = (a == b) := by rw [beq_toListBytes, toList_mk, toList_mk]
        cases hab : (a == b) with
        | true =>
          rw [hab, cond_true] at h
          exact here (by cases h; rfl) (by rw [eq_of_beq hab]) (by simp [Instr.sameNow, hbeq, hab])
        | false =>
          rw [hab, cond_false] at h
          exact next h (by simp [Instr.sameNow, hbeq, hab])
      | _ => simp at h
    | _ => simp at h
theorem run_getObj_of {g : Nat} {es : Array MapEntry} {cl : Nat} (h : w.heap[g]? = some (.map es cl)) : (getObj g).run P w = .ok (.map es cl) w := by
  simp [getObj, Sem.run, h]
theorem checkKey_succ {kt : TypeId} {k : AV} {K : Value} (hp : plainKey P kt k = true) (hk : conc ρ k = some K) (b : Bool) (n : Nat) : (Instr.checkKey b (n + 1) kt K).run P w = .ok () w := by
  unfold plainKey at hp
  split at hp
  · rename_i hu; simp only [conc, Option.some.injEq] at hk; subst hk; simp only [Instr.checkKey, Sem.run_bind, run_underlying hu, Result.andThen_ok]; rfl
  · rename_i hu; simp only [conc, Option.some.injEq] at hk; subst hk; simp only [Instr.checkKey, Sem.run_bind, run_underlying hu, Result.andThen_ok]; rfl
  · cases hp
theorem checkKey_ok {kt : TypeId} {k : AV} {K : Value} (hp : plainKey P kt k = true) (hk : conc ρ k = some K) (b : Bool) : (Instr.checkKey b 10000 kt K).run P w = .ok () w := checkKey_succ hp hk b 9999
theorem plainKey_desc {kt : TypeId} {k : AV} (hp : plainKey P kt k = true) : ∃ d, P.underlying kt = some d := by
  unfold plainKey at hp
  cases hu : P.underlying kt with
  | none => rw [hu] at hp; cases hp
  | some d => exact ⟨d, rfl⟩
theorem okB_ok {z : AV} {Z : Value} (hz : conc ρ z = some Z) (ok b : Bool) : conc ρ (bif ok then .tuple [z, .bool b] else z) = some (if ok then .tuple #[Z, .bool b] else Z) := by
  cases ok with
  | true => simp [conc, concL, hz]
  | false => simpa using hz
theorem lookupA_ok (h : Rep ρ m w) {t : TypeId} {x k a : AV} {X K : Value} {ok : Bool} {i : Nat} (hx : conc ρ x = some X) (hk : conc ρ k = some K) (hl : lookupA P m t x k ok = some (a, i)) :
    ∃ z, conc ρ a = some z ∧ (Instr.lookup t X K ok).run P w = .ok z w := by
  unfold lookupA at hl
  split at hl
  · rename_i kt et hu
    cases hp : plainKey P kt k with
    | false => rw [hp, cond_false] at hl; cases hl
    | true =>
      rw [hp, cond_true] at hl
      obtain ⟨d, hd⟩ := plainKey_desc hp
      split at hl
      · cases hl
      · rename_i z hz
        obtain ⟨Z, hZ, hzr⟩ := zeroT_ok (ρ := ρ) hz
        split at hl
        · cases hl
          simp only [conc, Option.some.injEq] at hx; subst hx
          refine ⟨_, okB_ok hZ ok false, ?_⟩
          have hck := checkKey_ok (P := P) (w := w) hp hk true
          simp only [Instr.lookup, Sem.run_bind, run_underlying hu, Result.andThen_ok, Sem.run_pure]
          simp only [show (#[] : Array MapEntry).isEmpty = true from rfl, hck, Result.andThen_ok, Instr.findKey, Sem.run_bind, run_underlying hd, show (#[] : Array MapEntry).toList = [] from rfl, Instr.findNow, Sem.run_pure, hzr]
        · rename_i j
          simp only [conc, Option.map_eq_some_iff] at hx
          obtain ⟨g, hg, rfl⟩ := hx
          split at hl
          · rename_i es cl hes
            obtain ⟨g', ves, h1, h2, h3⟩ := h.mp hes
            rw [hg] at h1; cases h1
            have hgo : (getObj g).run P w = .ok (.map ves.toArray cl) w := run_getObj_of h3
            have hck := checkKey_ok (P := P) (w := w) hp hk ves.toArray.isEmpty
            split at hl
            · cases hl
            · rename_i hf
              cases hl
              have hfn : Instr.findNow d K ves 0 = some none := findA_ok hd hp hk h2 hf
              refine ⟨_, okB_ok hZ ok false, ?_⟩
              simp only [Instr.lookup, Sem.run_bind, run_underlying hu, Result.andThen_ok, hgo, Sem.run_pure, hck, Instr.findKey, run_underlying hd, hfn, hzr]
            · rename_i r hf
              cases hl
              obtain ⟨V, v1, v2, _⟩ := findA_ok hd hp hk h2 hf
              refine ⟨_, okB_ok v1 ok true, ?_⟩
              simp only [Instr.lookup, Sem.run_bind, run_underlying hu, Result.andThen_ok, hgo, Sem.run_pure, hck, Instr.findKey, run_underlying hd, v2]
          · cases hl
        · cases hl
  · cases hl
theorem lenMapA_ok (h : Rep ρ m w) {t ty : TypeId} {ts : List TypeId} {x a : AV} {X : Value} {i : Nat} (hx : conc ρ x = some X) (hl : lenMapA P m t x = some (a, i)) :
    ∃ z, conc ρ a = some z ∧ (Builtin.len_ (t :: ts).toArray ty #[X]).run P w = .ok z w := by
  unfold lenMapA at hl
  split at hl
  · rename_i j _ _ hu
    simp only [conc, Option.map_eq_some_iff] at hx
    obtain ⟨g, hg, rfl⟩ := hx
    split at hl
    · rename_i es cl hes
      cases hl
      obtain ⟨g', ves, h1, h2, h3⟩ := h.mp hes
      rw [hg] at h1; cases h1
      have hgo : (getObj g).run P w = .ok (.map ves.toArray cl) w := run_getObj_of h3
      refine ⟨_, rfl, ?_⟩
      simp [Builtin.len_, run_underlying hu, hgo, goInt, concE_length h2]
    · cases hl
  · cases hl
theorem lop_ok (h : Rep ρ m w) {f : Operand → Option AV} {ev : Operand → Value} {o : Oper} {r : AV} {i : Nat} (hf : ∀ x ∈ o.op.operands, ∀ u, f x = some u → conc ρ u = some (ev x)) (hl : lop P m o.op f = some (r, i)) :
    ∃ z, conc ρ r = some z ∧ (execOp ev o).run P w = .ok (.value z) w := by
  obtain ⟨dst, op, ty, pos, aft, gd⟩ := o
  simp only at hf hl
  unfold lop at hl
  split at hl
  · rename_i t x
    split at hl
    · cases hl
    · rename_i v hv
      obtain ⟨z, hz, hr⟩ := loadA_ok h (hf x (by simp [Op.operands]) _ hv) hl
      exact ⟨z, hz, by simp [execOp, hr]⟩
  · rename_i s d x
    split at hl
    · cases hl
    · rename_i v hv
      obtain ⟨z, hz, hr⟩ := bytesStrA_ok h (hf x (by simp [Op.operands]) _ hv) hl
      exact ⟨z, hz, by simp [execOp, hr]⟩
  · rename_i t x k ok
    split at hl
    · rename_i x' k' hx hk
      obtain ⟨z, hz, hr⟩ := lookupA_ok h (hf x (by simp [Op.operands]) _ hx) (hf k (by simp [Op.operands]) _ hk) hl
      exact ⟨z, hz, by simp [execOp, hr]⟩
    · cases hl
  · rename_i c
    split at hl
    · rename_i hcb
      split at hl
      · rename_i t ts x hts hxs
        have h1 := listO_ok (ρ := ρ) (ev := ev) (fun x hx => hf x (Array.mem_append.2 (.inr (Array.mem_toList_iff.1 hx)))) hxs
        obtain ⟨X, y, k1, k2, e1⟩ := concL_cons h1
        simp only [concL, Option.some.injEq] at k2
        subst k2
        obtain ⟨z, hz, hr⟩ := lenMapA_ok (P := P) (ty := ty) (ts := ts) h k1 hl
        have ea : c.args.map ev = #[X] := Array.ext' (by simpa using e1)
        have et : c.argTypes = (t :: ts).toArray := Array.ext' (by simpa using hts)
        exact ⟨z, hz, by simp only [execOp, resolve, hcb, ea, et, pure_bind, invoke, builtin, Sem.run_bind, hr, Result.andThen_ok, Sem.run_pure]⟩
      · cases hl
    · cases hl
  · cases hl
/-- What it yields hangs on that block alone. -/
theorem lop_congr {m' : Mem} {op : Op} {f : Operand → Option AV} {r : AV} {i : Nat} (hl : lop P m op f = some (r, i)) (he : m'.get i = m.get i) : lop P m' op f = some (r, i) := by
  have hca : ∀ p n l, cellsAt m p n = some l → p.1 = i → cellsAt m' p n = some l := fun p n l h e => by
    unfold cellsAt at h ⊢
    rw [e, he, ← e]
    exact h
  unfold lop at hl ⊢
  split at hl
  · split at hl
    · cases hl
    · rename_i v hv
      unfold loadA at hl ⊢
      split at hl
      · rename_i p
        split at hl
        · split at hl
          · cases hl
          · split at hl
            · cases hl
            · rename_i l hcl; cases hl; simp only [*, hca _ _ _ hcl rfl]
        · split at hl
          · rename_i hi
            split at hl
            · cases hl
            · cases hl; simp only [*]
          · cases hl
        · cases hl
      · cases hl
  · split at hl
    · cases hl
    · rename_i v hv
      unfold bytesStrA at hl ⊢
      split at hl
      · split at hl
        · split at hl
          · exact hl
          · split at hl
            · rename_i hi
              cases hl
              simp only [*]
            · cases hl
          · split at hl
            · cases hl
            · rename_i l hcl
              split at hl
              · cases hl
              · cases hl; simp only [*, hca _ _ _ hcl rfl]
          · cases hl
        · cases hl
      · cases hl
  · split at hl
    · rename_i x k hx hk
      unfold lookupA at hl ⊢
      split at hl
      · cases hp : plainKey P _ k with
        | false => rw [hp, cond_false] at hl; cases hl
        | true =>
          rw [hp, cond_true] at hl
          simp only [hp, cond_true]
          split at hl
          · cases hl
          · rename_i z hz
            split at hl
            · exact hl
            · rename_i j
              split at hl
              · rename_i es cl hes
                have hji : j = i := by
                  split at hl
                  · cases hl
                  · cases hl; rfl
                  · cases hl; rfl
                subst hji
                rw [he, hes]
                exact hl
              · cases hl
            · cases hl
      · cases hl
    · cases hl
  · split at hl
    · split at hl
      · unfold lenMapA at hl ⊢
        split at hl
        · split at hl
          · rename_i es cl hes
            cases hl
            simp only [*]
          · cases hl
        · cases hl
      · cases hl
    · cases hl
  · cases hl
end
end
end Ev
end Go.Proofs.YtmolojjhnbchbaaGreatDoor
