/- The evaluator, part 8: all operations with an effect that call nothing. No condition. -/
import Derived.Test.YtmolojjhnbchbaaGreatDoorEv7
import Derived.Laws.MakeOwn
import Derived.Laws.IdiomStrings
set_option linter.all false
namespace Go.Proofs.YtmolojjhnbchbaaGreatDoor
open Go.RowKit

namespace Ev
noncomputable section

section
variable (P : Program)
def allocA (m : Mem) (t : TypeId) : Option (AV × Mem) :=
  match zeroT P t with
  | some z => some (.ptr (some (m.next, 0)), m.new (.cells z.cells t none))
  | none => none
def repA (z : List AV) (n : Nat) : List AV := (List.range n).map fun i => (z[Nat.mod i z.length]?).getD (.bool false)
def zerosA (e : TypeId) (n : Nat) : Option (List AV) :=
  bif Nat.beq n 0 then some [] else match zeroT P e with
  | some z => bif Nat.beq z.cells.length 0 then none else some (repA z.cells n)
  | none => none
def buildSliceA (m : Mem) (t : TypeId) (len : Nat) (ps : List (Nat × AV)) : Option (AV × Mem) :=
  match P.underlying t with
  | some (.slice e) => (match sizeT P e with
    | none => none
    | some sz => bif Nat.ble (len * sz) 16777216 then (match zerosA P e (len * sz) with
      | none => none
      | some z => match fillA (fun i => some (i * sz, sz)) z ps with
        | none => none
        | some r => some (.slice (some (m.next, 0)) len (.known len), m.new (.cells r e none))) else none)
  | _ => none
def bytesT (t : TypeId) : Option Nat := match P.info? t with | some i => some i.bytes | none => none
def makeSliceA (m : Mem) (t : TypeId) (l c : AV) : Option (AV × Mem) :=
  match l, c with
  | .int _ l, .int _ c => (match P.underlying t with
    | some (.slice e) => (match sizeT P e, bytesT P e with
      | some sz, some by_ => bif decide (0 ≤ l) && decide (l ≤ c) && decide (c ≤ 4611686018427387904) && decide (by_ * c ≤ 281474976710656) then (match zeroT P e with
        | none => none
        | some z => bif Nat.beq z.cells.length 0 then none else some (.slice (some (m.next, 0)) l.toNat (.known c.toNat), m.new (.cells (repA z.cells (c.toNat * sz)) e none))) else none
      | _, _ => none)
    | _ => none)
  | _, _ => none
def strBytesA (m : Mem) (s d : TypeId) (v : AV) : Option (AV × Mem) :=
  match v with
  | .str l => (match P.underlying s, P.underlying d with
    | some .string, some (.slice e) => (match P.underlying e with
      | some (.int .u8) => some (.slice (some (m.next, 0)) l.length (.opn 0), m.new (.cells (l.map fun b => .int .u8 b.toNat) e (some 1)))
      | _ => none)
    | _, _ => none)
  | _ => none
def newsA (m : Mem) (sz : Nat) (x : AV) : Option (Nat × List AV) :=
  match x with
  | .slice none 0 (.known 0) => some (0, [])
  | .slice0 _ _ _ => some (0, [])
  | .slice (some p) n _ => (match cellsAt m p (n * sz) with | none => none | some l => some (n, l))
  | .str s => bif Nat.beq sz 1 then some (s.length, s.map fun b => .int .u8 b.toNat) else none
  | _ => none
def fitsB (need by_ : Nat) : Bool := Nat.ble need 9223372036854775807 && Nat.ble (need * by_) 140737488355328
/-- append(s, x...). -/
def appendA (m : Mem) (t u : TypeId) (s x : AV) : Option (AV × Mem) :=
  match P.underlying t, P.underlying u with
  | some (.slice e), some du => bif (match du with | .slice _ => true | .string => true | _ => false) then
    (match P.info? e, zeroT P e with
    | some i, some z => bif Nat.beq i.size 0 || !(Nat.beq z.cells.length i.size) then none else
      (match newsA m i.size x with
      | none => none
      | some (n, news) => (match s with
        | .slice none 0 (.known 0) => bif Nat.beq n 0 then some (s, m) else
            bif fitsB n i.bytes then some (.slice (some (m.next, 0)) n (.opn 0), m.new (.cells news e (some i.size))) else none
        | .slice (some p) l (.known c) => bif Nat.ble (l + n) c then (bif Nat.beq n 0 then some (s, m) else match putA m (p.1, p.2 + l * i.size) news with
            | none => none
            | some m' => some (.slice (some p) (l + n) (.known c), m')) else
            bif fitsB (l + n) i.bytes then (match cellsAt m p (l * i.size) with
              | none => none
              | some olds => some (.slice (some (m.next, 0)) (l + n) (.opn 0), m.new (.cells (olds ++ news) e (some i.size)))) else none
        | .slice (some p) l (.opn d) => bif Nat.beq n 0 then some (s, m) else (match m.get p.1 with
          | some (.cells c e' (some sz')) => bif Nat.beq d 0 && Nat.beq p.2 0 && Nat.beq sz' i.size && Nat.beq e' e && Nat.beq c.length (l * i.size) && allOne news && fitsB (l + n) i.bytes then
              some (.slice (some (m.next, 0)) (l + n) (.opn 0), (m.write p.1 none).new (.cells (c ++ news) e (some i.size))) else none
          | _ => none)
        | .slice0 _ _ _ => bif Nat.beq n 0 then some (s, m) else none
        | _ => none))
    | _, _ => none) else none
  | _, _ => none
def copyA (m : Mem) (t : TypeId) (d x : AV) : Option (AV × Mem) :=
  match P.underlying t with
  | some (.slice e) => (match sizeT P e with
    | none => none
    | some sz => (match d with
      | .slice (some p) l _ => (match x with
        | .slice (some q) n _ => (match cellsAt m q (min n l * sz) with
          | none => none
          | some vs => match putA m p vs with
            | none => none
            | some m' => some (.int .i64 (min n l : Nat), m'))
        | _ => none)
      | _ => none))
  | _ => none
def setE : List (AV × AV × Nat) → Nat → AV → AV → List (AV × AV × Nat)
  | [], _, _, _ => []
  | (_, _, n) :: l, 0, k, v => (k, v, n) :: l
  | x :: l, i + 1, k, v => x :: setE l i k v
def mapPutA (m : Mem) (t : TypeId) (x k v : AV) : Option Mem :=
  match P.underlying t, x with
  | some (.map kt _), .map (some i) => bif plainKey P kt k then (match m.get i with
    | some (.mp es cl) => (match findA k es 0 with
      | none => none
      | some none => some (m.write i (some (.mp (es ++ [(k, v, cl)]) (Nat.succ cl))))
      | some (some r) => some (m.write i (some (.mp (setE es r.1 k v) cl))))
    | _ => none) else none
  | _, _ => none
/-- AN OPERATION WITH AN EFFECT THAT CALLS NOTHING. -/
def eop (m : Mem) (op : Op) (f : Operand → Option AV) : Option (AV × Mem) :=
  match op with
  | .alloc t => allocA P m t
  | .box t x => (match f x with | some v => some (.ptr (some (m.next, 0)), m.new (.cells v.cells t none)) | none => none)
  | .buildSlice t len ps => (match partsO f ps.toList with | some r => buildSliceA P m t len r | none => none)
  | .store t a x => (match f a, f x with
    | some a, some x => (match storeA P m t a x with | some m' => some (.tuple [], m') | none => none)
    | _, _ => none)
  | .makeSlice t l c => (match f l, f c with | some l, some c => makeSliceA P m t l c | _, _ => none)
  | .makeMap _ none => some (.map (some m.next), m.new (.mp [] 0))
  | .mapUpdate t x k v => (match f x, f k, f v with
    | some x, some k, some v => (match mapPutA P m t x k v with | some m' => some (.tuple [], m') | none => none)
    | _, _, _ => none)
  | .insert t x k v => (match f x, f k, f v with
    | some x, some k, some v => (match mapPutA P m t x k v with | some m' => some (.tuple [], m') | none => none)
    | _, _, _ => none)
  | .convert s d x => (match f x with | some v => strBytesA P m s d v | none => none)
  | .call c => (match c.callee with
    | .builtin .append => (match c.argTypes.toList, listO f c.args.toList with | [t, u], some [s, x] => appendA P m t u s x | _, _ => none)
    | .builtin .copy => (match c.argTypes.toList, listO f c.args.toList with | t :: _, some [s, x] => copyA P m t s x | _, _ => none)
    | _ => none)
  | _ => none
end

section
variable {P : Program} {ρ : Env} {m : Mem} {w : World}
theorem allocA_ok (h : Rep ρ m w) {t : TypeId} {r : AV} {m' : Mem} (ha : allocA P m t = some (r, m')) :
    ∃ ρ' w' z, Stp ρ m w ρ' m' w' [] ∧ Lg m m' [] ∧ conc ρ' r = some z ∧ (Instr.alloc t true (.tuple #[])).run P w = .ok z w' := by
  unfold allocA at ha
  split at ha
  · rename_i z hz
    cases ha
    obtain ⟨x, hx, hr⟩ := zeroT_ok (ρ := ρ) hz
    refine ⟨_, _, .pointer (some ⟨w.heap.size, 0, none⟩), new_ok h t (cells_ok hx), Lg.new _ _, by simp [conc, Env.add], ?_⟩
    simp [Instr.alloc, hr, newVar, newRow]
  · cases ha
theorem box_ok (h : Rep ρ m w) {t : TypeId} {v : AV} {x : Value} (hv : conc ρ v = some x) :
    ∃ ρ' w' z, Stp ρ m w ρ' (m.new (.cells v.cells t none)) w' [] ∧ Lg m (m.new (.cells v.cells t none)) [] ∧ conc ρ' (.ptr (some (m.next, 0))) = some z ∧ (Instr.box t x).run P w = .ok z w' := by
  refine ⟨_, _, .pointer (some ⟨w.heap.size, 0, none⟩), new_ok h t (cells_ok hv), Lg.new _ _, by simp [conc, Env.add], ?_⟩
  simp [Instr.box, newVar, newRow]
theorem repA_ok {z : List AV} {zs : List Value} (hz : concL ρ z = some zs) (hne : z.length ≠ 0) (n : Nat) : concL ρ (repA z n) = some ((Array.range n).map (zs.toArray[· % zs.toArray.size]!)).toList := by
  have hl := concL_length hz
  have key : ∀ l : List Nat, concL ρ (l.map fun i => (z[Nat.mod i z.length]?).getD (.bool false)) = some (l.map fun i => zs.toArray[i % zs.toArray.size]!) := by
    intro l
    induction l with
    | nil => rfl
    | cons i l ih =>
      refine concL_cons_mk ?_ ih
      have hi : i % z.length < z.length := Nat.mod_lt _ (by omega)
      have hg : z[i % z.length]? = some z[i % z.length] := List.getElem?_eq_getElem hi
      obtain ⟨v, hv, hc⟩ := concL_get hz hg
      show conc ρ ((z[i % z.length]?).getD (.bool false)) = some (zs.toArray[i % zs.toArray.size]!)
      rw [hg, Option.getD_some, hc]
      congr 1
      simp only [List.size_toArray, hl]
      obtain ⟨h1, h2⟩ := List.getElem?_eq_some_iff.1 hv
      simp [h1, h2]
  have := key (List.range n)
  unfold repA
  rw [this]
  congr 1
  simp
theorem zerosA_ok {e : TypeId} {n : Nat} {l : List AV} (h : zerosA P e n = some l) :
    ∃ zs : Array Value, concL ρ l = some ((Array.range n).map (zs[· % zs.size]!)).toList ∧ ((n = 0 ∧ zs = #[]) ∨ (n ≠ 0 ∧ ∃ x, zs = x.cells ∧ ∀ w, (zeroValue e).run P w = .ok x w)) := by
  unfold zerosA at h
  by_cases h0 : n = 0
  · subst h0
    simp [Nat.beq] at h
    subst h
    exact ⟨#[], by simp [concL], .inl ⟨rfl, rfl⟩⟩
  · rw [Tr.beq0 h0, cond_false] at h
    split at h
    · rename_i z hz
      obtain ⟨x, hx, hr⟩ := zeroT_ok (ρ := ρ) hz
      by_cases hl : z.cells.length = 0
      · rw [hl] at h; simp [Nat.beq] at h
      · rw [Tr.beq0 hl, cond_false] at h
        cases h
        refine ⟨x.cells, ?_, .inr ⟨h0, x, rfl, hr⟩⟩
        have := repA_ok (cells_ok hx) hl n
        simpa using this
    · cases h
theorem buildSliceA_new {t : TypeId} {len : Nat} {ps : List (Nat × AV)} {r : AV} {m m' : Mem} (hb : buildSliceA P m t len ps = some (r, m')) :
    ∃ b r', m' = m.new b ∧ r = r' ∧ ∀ (ρ : Env) (qs : List (Nat × Value)), ps.map (·.1) = qs.map (·.1) → concL ρ (ps.map (·.2)) = some (qs.map (·.2)) →
      r' = .slice (some (m.next, 0)) len (.known len) ∧ ∃ c e vs, b = .cells c e none ∧ concL ρ c = some vs ∧ ∀ w, (Instr.buildSlice t len qs.toArray).run P w = .ok (.slice (some ⟨w.heap.size, 0, none⟩) len len) (w.alloc (.cells vs.toArray e)) := by
  unfold buildSliceA at hb
  split at hb
  · rename_i e hu
    split at hb
    · cases hb
    · rename_i sz hsz
      cases hs : Nat.ble (len * sz) 16777216 with
      | false => rw [hs, cond_false] at hb; cases hb
      | true =>
        rw [hs, cond_true] at hb
        rw [Nat.ble_eq] at hs
        split at hb
        · cases hb
        · rename_i z hz
          split at hb
          · cases hb
          · rename_i q hq
            cases hb
            refine ⟨_, _, rfl, rfl, fun ρ qs h1 h2 => ⟨rfl, ?_⟩⟩
            obtain ⟨zs, hzs, hrun⟩ := zerosA_ok (ρ := ρ) hz
            obtain ⟨rs, e1, e2⟩ := fillA_ok (ρ := ρ) (cs := (Array.range (len * sz)).map (zs[· % zs.size]!)) hzs h1 h2 hq
            refine ⟨_, _, _, rfl, e2, fun w => ?_⟩
            have hno : ¬ len * sz > 2 ^ 24 := by omega
            rcases hrun with ⟨h0, rfl⟩ | ⟨h0, x, rfl, hx⟩
            · simp only [Instr.buildSlice, Sem.run_bind, run_underlying hu, Result.andThen_ok, sizeT_ok hsz, Sem.run_ite, hno, if_false, h0, if_true, Sem.run_pure]
              rw [h0] at e1
              simp only [e1]
              simp [newRow]
            · simp only [Instr.buildSlice, Sem.run_bind, run_underlying hu, Result.andThen_ok, sizeT_ok hsz, Sem.run_ite, hno, if_false, h0, Sem.run_pure, hx]
              simp only [e1]
              simp [newRow]
  · cases hb
theorem buildSliceA_ok (h : Rep ρ m w) {t : TypeId} {len : Nat} {ps : List (Nat × AV)} {qs : List (Nat × Value)} {r : AV} {m' : Mem} (h1 : ps.map (·.1) = qs.map (·.1)) (h2 : concL ρ (ps.map (·.2)) = some (qs.map (·.2)))
    (hb : buildSliceA P m t len ps = some (r, m')) : ∃ ρ' w' z, Stp ρ m w ρ' m' w' [] ∧ Lg m m' [] ∧ conc ρ' r = some z ∧ (Instr.buildSlice t len qs.toArray).run P w = .ok z w' := by
  unfold buildSliceA at hb
  split at hb
  · rename_i e hu
    split at hb
    · cases hb
    · rename_i sz hsz
      cases hs : Nat.ble (len * sz) 16777216 with
      | false => rw [hs, cond_false] at hb; cases hb
      | true =>
        rw [hs, cond_true] at hb
        rw [Nat.ble_eq] at hs
        split at hb
        · cases hb
        · rename_i z hz
          split at hb
          · cases hb
          · rename_i q hq
            cases hb
            obtain ⟨zs, hzs, hrun⟩ := zerosA_ok (ρ := ρ) hz
            obtain ⟨rs, e1, e2⟩ := fillA_ok (ρ := ρ) (cs := (Array.range (len * sz)).map (zs[· % zs.size]!)) hzs h1 h2 hq
            refine ⟨_, _, .slice (some ⟨w.heap.size, 0, none⟩) len len, new_ok h e e2, Lg.new _ _, by simp [conc, Env.add, Cap.fits, Cap.conc], ?_⟩
            have hno : ¬ len * sz > 2 ^ 24 := by omega
            rcases hrun with ⟨h0, rfl⟩ | ⟨h0, x, rfl, hx⟩
            · simp only [Instr.buildSlice, Sem.run_bind, run_underlying hu, Result.andThen_ok, sizeT_ok hsz, Sem.run_ite, hno, if_false, h0, if_true, Sem.run_pure]
              rw [h0] at e1
              simp only [e1]
              simp [newRow]
            · simp only [Instr.buildSlice, Sem.run_bind, run_underlying hu, Result.andThen_ok, sizeT_ok hsz, Sem.run_ite, hno, if_false, h0, Sem.run_pure, hx]
              simp only [e1]
              simp [newRow]
  · cases hb
theorem makeSliceA_ok (h : Rep ρ m w) {t : TypeId} {l c r : AV} {x y : Value} {m' : Mem} (hl : conc ρ l = some x) (hc : conc ρ c = some y) (hm : makeSliceA P m t l c = some (r, m')) :
    ∃ ρ' w' z, Stp ρ m w ρ' m' w' [] ∧ Lg m m' [] ∧ conc ρ' r = some z ∧ (Instr.makeSlice t x y).run P w = .ok z w' := by
  unfold makeSliceA at hm
  split at hm
  · rename_i k1 l k2 c
    simp only [conc, Option.some.injEq] at hl hc; subst hl hc
    split at hm
    · rename_i e hu
      split at hm
      · rename_i sz by_ hsz hby
        cases hb : (decide (0 ≤ l) && decide (l ≤ c) && decide (c ≤ 4611686018427387904) && decide (by_ * c ≤ 281474976710656)) with
        | false => rw [hb, cond_false] at hm; cases hm
        | true =>
          rw [hb, cond_true] at hm
          simp only [Bool.and_eq_true, decide_eq_true_eq] at hb
          obtain ⟨⟨⟨b1, b2⟩, b3⟩, b4⟩ := hb
          split at hm
          · cases hm
          · rename_i z hz
            by_cases hl : z.cells.length = 0
            · rw [hl] at hm; simp [Nat.beq] at hm
            · rw [Tr.beq0 hl, cond_false] at hm
              cases hm
              unfold zeroT at hz
              unfold bytesT at hby
              obtain ⟨i, hi, hsize⟩ := sizeT_info hsz
              rw [hi] at hz hby
              simp only [Option.some.injEq] at hz hby
              split at hz
              · rename_i zv hzv
                have hzc := cells_ok (absV_ok (ρ := ρ) hz)
                have hrep := repA_ok hzc hl (c.toNat * sz)
                subst hsize hby
                have hr := run_make (P := P) w t e i zv hu hi hzv k1 k2 l c b1 b2 b4 (by omega)
                refine ⟨_, _, .slice (some ⟨w.heap.size, 0, none⟩) l.toNat c.toNat, new_ok h e hrep, Lg.new _ _, by simp [conc, Env.add, Cap.fits, Cap.conc], ?_⟩
                rw [hr]
                unfold madeCells
                simp only [Array.toArray_toList]
              · cases hz
      · cases hm
    · cases hm
  · cases hm
theorem concL_bytes : ∀ (l : List UInt8), concL ρ (l.map fun b => AV.int .u8 b.toNat) = some (l.map fun b => Value.int .u8 b.toNat)
  | [] => rfl
  | _ :: l => concL_cons_mk rfl (concL_bytes l)
theorem strBytesA_ok (h : Rep ρ m w) {s d : TypeId} {v r : AV} {x : Value} {m' : Mem} (hv : conc ρ v = some x) (hm : strBytesA P m s d v = some (r, m')) :
    ∃ ρ' w' z, Stp ρ m w ρ' m' w' [] ∧ Lg m m' [] ∧ conc ρ' r = some z ∧ (convert s d x).run P w = .ok z w' := by
  unfold strBytesA at hm
  split at hm
  · rename_i l
    simp only [conc, Option.some.injEq] at hv; subst hv
    split at hm
    · rename_i e hs hd
      split at hm
      · rename_i he
        cases hm
        have hge := grownCap_ge w l.length 0 e
        have hr := run_bytes_of_string (P := P) w s d e ⟨l.toArray⟩ hs hd he
        rw [size_mk] at hr
        have hrow : bytesRow ⟨l.toArray⟩ (grownCap w l.length 0 e) = ((l.map fun b => Value.int .u8 b.toNat) ++ List.replicate (grownCap w l.length 0 e - l.length) (Value.int .u8 0)).toArray := by
          apply Array.ext'; simp [bytesRow, size_mk]
        have hsz : (bytesRow ⟨l.toArray⟩ (grownCap w l.length 0 e)).size = grownCap w l.length 0 e := by rw [hrow]; simp; omega
        rw [hsz, hrow] at hr
        generalize grownCap w l.length 0 e = cap at *
        have hd1 := Stp.drawn h (w.drawn + 1)
        have hn := newOpen_ok (h.drawn (w.drawn + 1)) e (cap, cap + 1) (k := cap) (sz := 1) (ex := List.replicate (cap - l.length) (.int .u8 0)) (concL_bytes l) (by simp; omega) (fun o ho => by simp at ho ⊢; omega)
        exact ⟨_, _, .slice (some ⟨w.heap.size, 0, none⟩) l.length cap, hd1.trans hn, Lg.new _ _, by simp [conc, Env.add, Cap.fits, Cap.conc, hge], hr⟩
      · cases hm
    · cases hm
  · cases hm
theorem newsA_ok (h : Rep ρ m w) {sz n : Nat} {x : AV} {X : Value} {news : List AV} (hx : conc ρ x = some X) (hn : newsA m sz x = some (n, news)) :
    ∃ vs, concL ρ news = some vs ∧ vs.length = n * sz ∧ (∀ w' : World, (Builtin.lenOf X).run P w' = .ok n w') ∧ ∀ w' : World, w'.heap = w.heap → (Builtin.firstCells sz n X).run P w' = .ok vs.toArray w' := by
  unfold newsA at hn
  split at hn
  · simp only [conc, Option.some.injEq] at hx; subst hx
    cases hn
    exact ⟨[], rfl, by simp, fun _ => rfl, fun _ _ => by simp [Builtin.firstCells]⟩
  · simp only [conc, Option.map_eq_some_iff] at hx
    obtain ⟨g, hg, rfl⟩ := hx
    cases hn
    exact ⟨[], rfl, by simp, fun _ => rfl, fun w' _ => by simp [Builtin.firstCells, loadCells, loadCellsFrom]⟩
  · rename_i p k c
    obtain ⟨g, hg, _, rfl⟩ := slice_conc hx
    split at hn
    · cases hn
    · rename_i l hl
      cases hn
      obtain ⟨vs, h1, h2, h3⟩ := cellsAt_ok h hg hl
      refine ⟨vs, h1, h2, fun _ => rfl, fun w' hw => ?_⟩
      exact run_firstCells_some (P := P) w' sz n ⟨g, p.2, none⟩ n _ vs h2 (h3 w' hw)
  · rename_i s
    simp only [conc, Option.some.injEq] at hx; subst hx
    cases hb : Nat.beq sz 1 with
    | false => rw [hb, cond_false] at hn; cases hn
    | true =>
      rw [hb, cond_true] at hn
      cases hn
      rw [Nat.beq_eq] at hb
      subst hb
      refine ⟨_, concL_bytes s, by simp, fun _ => by simp [Builtin.lenOf, size_mk], fun w' _ => ?_⟩
      have : (ByteArray.mk s.toArray).extract 0 s.length = ⟨s.toArray⟩ := by rw [extract_toArray]; simp
      simp [Builtin.firstCells, this]
  · cases hn
theorem run_append_room' {t u ty e : TypeId} {i : TypeInfo} {du : TypeDesc} (ht : P.underlying t = some (.slice e)) (hi : P.info? e = some i) (hu : P.underlying u = some du) (hdu : (∃ e', du = .slice e') ∨ du = .string)
    (base : Option Addr) (sLen sCap n : Nat) (X : Value) (news : Array Value) (hn : (Builtin.lenOf X).run P w = .ok n w) (hf : (Builtin.firstCells i.size n X).run P w = .ok news w) (hroom : sLen + n ≤ sCap) :
    (Builtin.append_ #[t, u] ty #[.slice base sLen sCap, X]).run P w = ((match base with | some a => storeCells (a.add (sLen * i.size)) news.toList | none => pure () : Sem Unit).run P w).andThen fun _ w' => .ok (.slice base (sLen + n) sCap) w' := by
  rcases hdu with ⟨e', rfl⟩ | rfl <;> cases base <;> simp [Builtin.append_, run_underlying ht, run_underlying hu, sizeOf, typeInfo, hi, hn, hroom, hf]
theorem run_append_grow' {t u ty e : TypeId} {i : TypeInfo} {z : Value} {du : TypeDesc} (ht : P.underlying t = some (.slice e)) (hi : P.info? e = some i) (hzz : i.zero = some z) (hu : P.underlying u = some du) (hdu : (∃ e', du = .slice e') ∨ du = .string)
    (base : Option Addr) (sLen sCap n : Nat) (X : Value) (olds news : Array Value) (hn : ∀ w' : World, (Builtin.lenOf X).run P w' = .ok n w') (hf : (Builtin.firstCells i.size n X).run P w.drew = .ok news w.drew)
    (ho : (Builtin.firstCells i.size sLen (.slice base sLen sCap)).run P w.drew = .ok olds w.drew) (hg : sCap < sLen + n) (h63 : ((sLen + n : Nat) : Int) ≤ 9223372036854775807) (hfit : Builtin.nextslicecap (sLen + n) sCap * i.bytes ≤ 281474976710656) :
    (Builtin.append_ #[t, u] ty #[.slice base sLen sCap, X]).run P w = .ok (.slice (some ⟨w.heap.size, 0, none⟩) (sLen + n) (grownCap w (sLen + n) sCap e))
      (w.drew.alloc (.cells (olds ++ news ++ Builtin.zeroCells z.cells (grownCap w (sLen + n) sCap e - (sLen + n))) e)) := by
  have hno : ¬ (sLen + n ≤ sCap) := by omega
  have h63' : ¬ (9223372036854775807 < ((sLen : Int) + (n : Int))) := by omega
  have h48' : ¬ (281474976710656 < Builtin.nextslicecap (sLen + n) sCap * i.bytes) := by omega
  rcases hdu with ⟨e', rfl⟩ | rfl <;> simp [Builtin.append_, run_underlying ht, run_underlying hu, sizeOf, typeInfo, zeroValue, hi, hzz, hn, hno, h63', h48', Question.forced, hf, ho, newRow, grownCap]
theorem appendA_ok (h : Rep ρ m w) {t u ty : TypeId} {s x r : AV} {S X : Value} {m' : Mem} (hs : conc ρ s = some S) (hx : conc ρ x = some X) (ha : appendA P m t u s x = some (r, m')) :
    ∃ ρ' w' z L, Stp ρ m w ρ' m' w' L ∧ Lg m m' L ∧ conc ρ' r = some z ∧ (Builtin.append_ #[t, u] ty #[S, X]).run P w = .ok z w' := by
  unfold appendA at ha
  split at ha
  · rename_i e du ht hu
    cases hdb : (match du with | .slice _ => true | .string => true | _ => false) with
    | false => rw [hdb, cond_false] at ha; cases ha
    | true =>
    rw [hdb, cond_true] at ha
    have hdu : (∃ e', du = .slice e') ∨ du = .string := by
      cases du <;> simp at hdb <;> first | exact .inl ⟨_, rfl⟩ | exact .inr rfl
    clear hdb
    split at ha
    · rename_i i z hi hz
      cases hc : (Nat.beq i.size 0 || !(Nat.beq z.cells.length i.size)) with
      | true => rw [hc, cond_true] at ha; cases ha
      | false =>
      rw [hc, cond_false] at ha
      simp only [Bool.or_eq_false_iff, Bool.not_eq_false', Nat.beq_eq] at hc
      obtain ⟨hc0, hzl⟩ := hc
      have hi0 : i.size ≠ 0 := fun e => by rw [e] at hc0; simp [Nat.beq] at hc0
      unfold zeroT at hz
      rw [hi] at hz
      simp only at hz
      split at hz
      case h_2 => cases hz
      rename_i zv hzv
      have hzc := cells_ok (absV_ok (ρ := ρ) hz)
      have hzs : zv.cells.size = i.size := by have := concL_length hzc; simp at this; omega
      split at ha
      · cases ha
      · rename_i n news hnews
        obtain ⟨vs, v1, v2, v3, v4⟩ := newsA_ok (P := P) h hx hnews
        have same : ∀ (base : Option Addr) (l c : Nat), S = .slice base l c → l + n ≤ c → n = 0 → ∃ ρ' w' z L, Stp ρ m w ρ' m w' L ∧ Lg m m L ∧ conc ρ' s = some z ∧ (Builtin.append_ #[t, u] ty #[S, X]).run P w = .ok z w' := by
          intro base l c hS hle hn0
          subst hn0
          have hv0 : vs = [] := List.eq_nil_of_length_eq_zero (by simpa using v2)
          subst hv0
          refine ⟨ρ, w, S, [], Stp.refl h, Lg.refl m, hs, ?_⟩
          subst hS
          rw [run_append_room' (P := P) ht hi hu hdu base l c 0 X #[] (v3 w) (by simpa using v4 w rfl) hle]
          cases base <;> simp [storeCells]
        have grow : ∀ (base : Option Addr) (l c : Nat) (olds : List AV) (os : List Value), S = .slice base l c → concL ρ olds = some os → os.length = l * i.size → (∀ w' : World, w'.heap = w.heap → (Builtin.firstCells i.size l (.slice base l c)).run P w' = .ok os.toArray w') → c < l + n → fitsB (l + n) i.bytes = true →
            ∃ k w', Stp ρ m w (ρ.add m.next w.heap.size k) (m.new (.cells (olds ++ news) e (some i.size))) w' [] ∧ Lg m (m.new (.cells (olds ++ news) e (some i.size))) [] ∧ conc (ρ.add m.next w.heap.size k) (.slice (some (m.next, 0)) (l + n) (.opn 0)) = some (.slice (some ⟨w.heap.size, 0, none⟩) (l + n) k) ∧
              (Builtin.append_ #[t, u] ty #[S, X]).run P w = .ok (.slice (some ⟨w.heap.size, 0, none⟩) (l + n) k) w' ∧ l + n ≤ k ∧ w'.heap[w.heap.size]? = some (.cells ((os ++ vs) ++ (Builtin.zeroCells zv.cells (k - (l + n))).toList).toArray e (0, 0)) ∧ ((os ++ vs) ++ (Builtin.zeroCells zv.cells (k - (l + n))).toList).length = k * i.size := by
          intro base l c olds os hS ho hol hof hlt hfit
          simp only [fitsB, Bool.and_eq_true, Nat.ble_eq] at hfit
          have hge := grownCap_ge w (l + n) c e
          have hr := run_append_grow' (P := P) (w := w) (ty := ty) ht hi hzv hu hdu base l c n X os.toArray vs.toArray v3 (v4 w.drew rfl) (hof w.drew rfl) hlt (by omega) (growslice_fits hlt hfit.2)
          generalize grownCap w (l + n) c e = k at *
          have hlen : ((os ++ vs) ++ (Builtin.zeroCells zv.cells (k - (l + n))).toList).length = k * i.size := by
            simp only [List.length_append, Array.length_toList, size_zeroCells, hol, v2, hzs]
            rw [← Nat.add_mul, ← Nat.add_mul]; congr 1; omega
          have hd1 := Stp.drawn h (w.drawn + 1)
          have hn := newOpen_ok (h.drawn (w.drawn + 1)) e (0, 0) (k := k) (sz := i.size) (ex := (Builtin.zeroCells zv.cells (k - (l + n))).toList) (concL_append ho v1) hlen (fun o _ => by simp)
          have harr : ((os ++ vs) ++ (Builtin.zeroCells zv.cells (k - (l + n))).toList).toArray = os.toArray ++ vs.toArray ++ Builtin.zeroCells zv.cells (k - (l + n)) := by
            apply Array.ext'; simp
          refine ⟨k, _, hd1.trans hn, Lg.new _ _, by simp [conc, Env.add, Cap.fits, Cap.conc, hge], ?_, hge, heap_alloc_new _ _, hlen⟩
          rw [hS, hr, harr]
          rfl
        split at ha
        · -- a nil slice
          simp only [conc, Option.some.injEq] at hs
          cases hn : Nat.beq n 0 with
          | true => rw [hn, cond_true] at ha; cases ha; rw [Nat.beq_eq] at hn; exact same none 0 0 hs.symm (by omega) hn
          | false =>
            rw [hn, cond_false] at ha
            have hn0 : n ≠ 0 := fun e => by rw [e] at hn; simp [Nat.beq] at hn
            cases hf : fitsB n i.bytes with
            | false => rw [hf, cond_false] at ha; cases ha
            | true =>
              rw [hf, cond_true] at ha
              cases ha
              obtain ⟨k, w', g1, g2, g3, g4, _⟩ := grow none 0 0 [] [] hs.symm rfl (by simp) (fun _ _ => by simp [Builtin.firstCells]) (by omega) (by simpa using hf)
              simp only [Nat.zero_add, List.nil_append] at g1 g2 g3 g4
              exact ⟨_, _, _, _, g1, g2, g3, g4⟩
        · rename_i p l c
          obtain ⟨g, hg, _, hS⟩ := slice_conc hs
          cases hr : Nat.ble (l + n) c with
          | true =>
            rw [hr, cond_true] at ha
            rw [Nat.ble_eq] at hr
            cases hn : Nat.beq n 0 with
            | true => rw [hn, cond_true] at ha; cases ha; rw [Nat.beq_eq] at hn; exact same _ l c hS hr hn
            | false =>
              rw [hn, cond_false] at ha
              split at ha
              · cases ha
              · rename_i m1 hm1
                cases ha
                obtain ⟨w', s1, s2, s3⟩ := putA_ok (P := P) h (p := (p.1, p.2 + l * i.size)) hg v1 hm1
                refine ⟨ρ, w', .slice (some ⟨g, p.2, none⟩) (l + n) c, [p.1], s1, s2, by simp [conc, hg, Cap.fits, Cap.conc], ?_⟩
                subst hS
                simp only [Cap.conc]
                rw [run_append_room' (P := P) ht hi hu hdu _ l c n X vs.toArray (v3 w) (v4 w rfl) hr]
                simp only [Addr.add_lit]
                rw [s3]
                rfl
          | false =>
            rw [hr, cond_false] at ha
            have hr' : c < l + n := by
              rcases Nat.lt_or_ge c (l + n) with h1 | h1
              · exact h1
              · have : Nat.ble (l + n) c = true := by rw [Nat.ble_eq]; exact h1
                rw [this] at hr; cases hr
            cases hf : fitsB (l + n) i.bytes with
            | false => rw [hf, cond_false] at ha; cases ha
            | true =>
              rw [hf, cond_true] at ha
              split at ha
              · cases ha
              · rename_i olds holds
                cases ha
                obtain ⟨os, o1, o2, o3⟩ := cellsAt_ok h hg holds
                obtain ⟨k, w', g1, g2, g3, g4, _⟩ := grow _ l c olds os hS o1 o2 (fun w' hw => run_firstCells_some (P := P) w' i.size l _ l _ os o2 (o3 w' hw)) hr' hf
                exact ⟨_, _, _, _, g1, g2, g3, g4⟩
        · rename_i p l d
          obtain ⟨g, hg, hfit, hS⟩ := slice_conc hs
          simp only [Cap.conc] at hS
          have hfit' : l ≤ ρ.κ p.1 - d := by simpa [Cap.fits] using hfit
          cases hn : Nat.beq n 0 with
          | true => rw [hn, cond_true] at ha; cases ha; rw [Nat.beq_eq] at hn; exact same _ l _ hS (by omega) hn
          | false =>
            rw [hn, cond_false] at ha
            split at ha
            · rename_i c e' sz' hp
              cases hb : (Nat.beq d 0 && Nat.beq p.2 0 && Nat.beq sz' i.size && Nat.beq e' e && Nat.beq c.length (l * i.size) && allOne news && fitsB (l + n) i.bytes) with
              | false => rw [hb, cond_false] at ha; cases ha
              | true =>
                rw [hb, cond_true] at ha
                cases ha
                simp only [Bool.and_eq_true, Nat.beq_eq] at hb
                obtain ⟨⟨⟨⟨⟨⟨b1, b2⟩, b3⟩, b4⟩, b5⟩, b6⟩, b7⟩ := hb
                subst b1 b3 b4
                obtain ⟨g', cs, ex, fr, h0, h1, h2, h3, h4⟩ := h.cells hp
                rw [hg] at h0; cases h0
                have l1 := concL_length h1
                by_cases hroom : l + n ≤ ρ.κ p.1
                · -- in place
                  have hroomL : (cs ++ ex).length = ρ.κ p.1 * i.size := h4
                  have hle : l * i.size + vs.length ≤ (cs ++ ex).length := by
                    rw [hroomL, v2, ← Nat.add_mul]; exact Nat.mul_le_mul_right _ hroom
                  have hst := run_storeCells_upd (P := P) g (l * i.size) e' fr vs 0 (cs ++ ex) w h2 (by simpa using hle) (allOne_ok v1 b6) h3
                  rw [Nat.add_zero] at hst
                  have hov : over (cs ++ ex) (l * i.size) vs = (cs ++ vs) ++ ex.drop vs.length := by
                    have e5 : cs.length = l * i.size := by omega
                    unfold over
                    rw [← e5, List.take_left, List.drop_append]
                    simp
                  rw [hov] at hst
                  have hlen : ((cs ++ vs) ++ ex.drop vs.length).length = ρ.κ p.1 * i.size := by
                    rw [← hroomL, ← hov]; exact over_length hle
                  refine ⟨_, _, .slice (some ⟨g, 0, none⟩) (l + n) (ρ.κ p.1), [p.1], Stp.move h (k := ρ.κ p.1) (b' := .cells (c ++ news) e' (some i.size)) (o := .cells ((cs ++ vs) ++ ex.drop vs.length).toArray e' fr) hp hg ?_, ?_, ?_, ?_⟩
                  · refine ⟨cs ++ vs, ex.drop vs.length, fr, concL_mono (Env.le_add (h.dom m.next (Nat.le_refl _)) _ _) _ _ (concL_append h1 v1), upd_same h2 _, fun o ho => h3 o (by rw [hroomL, ← hlen]; exact ho), ?_⟩
                    simp only [Room, Env.add, if_true]
                    exact hlen
                  · exact (Lg.write m p.1 none).trans (Lg.new _ _)
                  · simp [conc, Env.add, Cap.fits, Cap.conc, hroom]
                  · subst hS
                    rw [run_append_room' (P := P) ht hi hu hdu _ l (ρ.κ p.1 - 0) n X vs.toArray (v3 w) (v4 w rfl) (by omega)]
                    simp only [Addr.add_lit, b2, Nat.zero_add] at hst ⊢
                    rw [hst]
                    rfl
                · have hcl : cellsAt m p (l * i.size) = some c := by
                    unfold cellsAt
                    rw [hp]
                    simp only [b2, Nat.zero_add, List.drop_zero]
                    have : Nat.ble (l * i.size) c.length = true := by rw [Nat.ble_eq]; omega
                    rw [this, cond_true, List.take_of_length_le (by omega)]
                  obtain ⟨os, o1, o2, o3⟩ := cellsAt_ok h hg hcl
                  obtain ⟨k, w', g1, g2, g3, g4, g5, g6, g7⟩ := grow _ l _ c os hS o1 o2 (fun w' hw => run_firstCells_some (P := P) w' i.size l _ l _ os o2 (o3 w' hw)) (by omega) b7
                  refine ⟨_, w', _, [p.1], ?_, (Lg.write m p.1 none).trans (Lg.new _ _), g3, g4⟩
                  have hdr := Stp.drop h p.1
                  refine ⟨g1.le, ⟨fun j bj hj => ?_, fun j q bj bq x hj hq ej eq => ?_, g1.rep.dom, g1.rep.low, fun j bj x hj ej => ?_, g1.rep.ok⟩, g1.os, g1.tape, g1.output, g1.size, fun x hx _ => g1.frame x hx (fun _ hi => by cases hi), fun j x hj => ?_⟩
                  · rw [Mem.get_new] at hj
                    refine g1.rep.blk j bj ?_
                    rw [Mem.get_new]
                    by_cases ej : j = m.next
                    · rw [if_pos (show j = (m.write p.1 none).next from ej)] at hj; rw [if_pos ej]; exact hj
                    · rw [if_neg (show ¬ j = (m.write p.1 none).next from ej), Mem.get_write] at hj
                      rw [if_neg ej]
                      split at hj
                      · cases hj
                      · exact hj
                  · have lift : ∀ a ba, ((m.write p.1 none).new (.cells (c ++ news) e' (some i.size))).get a = some ba → (m.new (.cells (c ++ news) e' (some i.size))).get a = some ba := fun a ba ha => by
                      rw [Mem.get_new] at ha ⊢
                      by_cases ej : a = m.next
                      · rw [if_pos (show a = (m.write p.1 none).next from ej)] at ha; rw [if_pos ej]; exact ha
                      · rw [if_neg (show ¬ a = (m.write p.1 none).next from ej), Mem.get_write] at ha
                        rw [if_neg ej]
                        split at ha
                        · cases ha
                        · exact ha
                    exact g1.rep.inj j q bj bq x (lift j bj hj) (lift q bq hq) ej eq
                  · refine g1.rep.sep j bj x ?_ ej
                    rw [Mem.get_new] at hj ⊢
                    by_cases ej : j = m.next
                    · rw [if_pos (show j = (m.write p.1 none).next from ej)] at hj; rw [if_pos ej]; exact hj
                    · rw [if_neg (show ¬ j = (m.write p.1 none).next from ej), Mem.get_write] at hj
                      rw [if_neg ej]
                      split at hj
                      · cases hj
                      · exact hj
                  · rcases g1.fresh j x hj with h1 | h1 | ⟨_, h1, _⟩
                    · exact .inl h1
                    · exact .inr (.inl h1)
                    · cases h1
            · cases ha
        · rename_i p q d
          cases hn : Nat.beq n 0 with
          | true =>
            rw [hn, cond_true] at ha; cases ha; rw [Nat.beq_eq] at hn
            have hs' := hs
            simp only [conc, Option.map_eq_some_iff] at hs'
            obtain ⟨g, hg, hS⟩ := hs'
            exact same _ 0 _ hS.symm (by omega) hn
          | false => rw [hn, cond_false] at ha; cases ha
        · cases ha
    · cases ha
  · cases ha
theorem copyA_ok (h : Rep ρ m w) {t ty : TypeId} {ts : List TypeId} {d x r : AV} {D X : Value} {m' : Mem} (hd : conc ρ d = some D) (hx : conc ρ x = some X) (hc : copyA P m t d x = some (r, m')) :
    ∃ ρ' w' z L, Stp ρ m w ρ' m' w' L ∧ Lg m m' L ∧ conc ρ' r = some z ∧ (Builtin.copy_ (t :: ts).toArray ty #[D, X]).run P w = .ok z w' := by
  unfold copyA at hc
  split at hc
  · rename_i e hu
    split at hc
    · cases hc
    · rename_i sz hsz
      split at hc
      · rename_i p l _
        obtain ⟨g, hg, _, rfl⟩ := slice_conc hd
        split at hc
        · rename_i q n _
          obtain ⟨g2, hg2, _, rfl⟩ := slice_conc hx
          split at hc
          · cases hc
          · rename_i vs hvs
            split at hc
            · cases hc
            · rename_i m1 hm1
              cases hc
              obtain ⟨xs, x1, x2, x3⟩ := cellsAt_ok h hg2 hvs
              obtain ⟨w', s1, s2, s3⟩ := putA_ok (P := P) h hg x1 hm1
              refine ⟨ρ, w', .int .i64 (min n l : Nat), [p.1], s1, s2, rfl, ?_⟩
              have hf := fun c => run_firstCells_some (P := P) w sz (min n l) ⟨g2, q.2, none⟩ n c xs x2 (x3 w rfl)
              simp only [Builtin.copy_, Sem.run_bind, List.getElem?_toArray, List.getElem?_cons_zero, List.getElem?_cons_succ, run_underlying hu, Result.andThen_ok, Builtin.lenOf, Sem.run_pure, sizeT_ok hsz]
              rw [show Nat.min n l = min n l from rfl, hf]
              simp only [Result.andThen_ok, s3]
              rfl
        · cases hc
      · cases hc
  · cases hc
theorem concE_append : ∀ {l l' : List (AV × AV × Nat)} {vs vs' : List MapEntry}, concE ρ l = some vs → concE ρ l' = some vs' → concE ρ (l ++ l') = some (vs ++ vs')
  | [], _, vs, _, h, k => by simp [concE] at h; subst h; simpa using k
  | (a, b, n) :: l, l', vs, vs', h, k => by
    simp only [concE, Option.bind_eq_some_iff, Option.map_eq_some_iff] at h
    obtain ⟨x, hx, y, hy, z, hz, rfl⟩ := h
    simp [concE, hx, hy, concE_append hz k]
theorem setE_ok : ∀ {l : List (AV × AV × Nat)} {vs : List MapEntry} {i : Nat} {k v : AV} {K V : Value}, concE ρ l = some vs → conc ρ k = some K → conc ρ v = some V → concE ρ (setE l i k v) = some (vs.modify i fun e => { e with key := K, val := V })
  | [], vs, i, k, v, K, V, h, _, _ => by simp [concE] at h; subst h; simp [setE, concE]
  | (a, b, n) :: l, vs, 0, k, v, K, V, h, hk, hv => by
    simp only [concE, Option.bind_eq_some_iff, Option.map_eq_some_iff] at h
    obtain ⟨x, hx, y, hy, z, hz, rfl⟩ := h
    simp [setE, concE, hk, hv, hz]
  | (a, b, n) :: l, vs, i + 1, k, v, K, V, h, hk, hv => by
    simp only [concE, Option.bind_eq_some_iff, Option.map_eq_some_iff] at h
    obtain ⟨x, hx, y, hy, z, hz, rfl⟩ := h
    simp [setE, concE, hx, hy, setE_ok hz hk hv]
theorem sameBits_plain {kt : TypeId} {k : AV} {K : Value} (hp : plainKey P kt k = true) (hk : conc ρ k = some K) : Instr.sameBits 10000 K K = true := by
  unfold plainKey at hp
  split at hp
  · simp only [conc, Option.some.injEq] at hk; subst hk; simp [Instr.sameBits]
  · simp only [conc, Option.some.injEq] at hk; subst hk
    simp only [Instr.sameBits]
    rw [beq_toListBytes]
    exact beq_self_eq_true _
  · cases hp
theorem run_setObj_map {g : Nat} {o o' : Obj} (h : w.heap[g]? = some o') (hm : ∃ es cl, o' = .map es cl) : (setObj g o).run P w = .ok () (upd w g o) := by
  obtain ⟨es, cl, rfl⟩ := hm
  show (match w.heap[g]? with | some (.cells ..) => _ | some _ => _ | none => _) = _
  rw [h]
  rfl
theorem mapPutA_ok (h : Rep ρ m w) {t : TypeId} {x k v : AV} {X K V : Value} {m' : Mem} (hx : conc ρ x = some X) (hk : conc ρ k = some K) (hv : conc ρ v = some V) (hp : mapPutA P m t x k v = some m') :
    ∃ w' i, Stp ρ m w ρ m' w' [i] ∧ Lg m m' [i] ∧ (Instr.mapUpdate t X K V).run P w = .ok () w' := by
  unfold mapPutA at hp
  split at hp
  · rename_i kt et j hu
    simp only [conc, Option.map_eq_some_iff] at hx
    obtain ⟨g, hg, rfl⟩ := hx
    cases hpk : plainKey P kt k with
    | false => rw [hpk, cond_false] at hp; cases hp
    | true =>
      rw [hpk, cond_true] at hp
      obtain ⟨d, hd⟩ := plainKey_desc hpk
      split at hp
      · rename_i es cl hes
        obtain ⟨g', ves, h1, h2, h3⟩ := h.mp hes
        rw [hg] at h1; cases h1
        have hgo : (getObj g).run P w = .ok (.map ves.toArray cl) w := run_getObj_of h3
        have hck := checkKey_ok (P := P) (w := w) hpk hk false
        split at hp
        · cases hp
        · rename_i hf
          cases hp
          have hfn : Instr.findNow d K ves 0 = some none := findA_ok hd hpk hk h2 hf
          have hset := run_setObj_map (P := P) (o := .map (ves.toArray.push { key := K, val := V, born := cl }) (cl + 1)) h3 ⟨_, _, rfl⟩
          refine ⟨upd w g (.map (ves.toArray.push { key := K, val := V, born := cl }) (cl + 1)), j, Stp.write h hes hg ⟨ves ++ [⟨K, V, cl⟩], concE_append h2 (by simp [concE, hk, hv]), ?_⟩, Lg.write _ _ _, ?_⟩
          · rw [upd_same h3]; congr 2; apply Array.ext'; simp
          · simp only [Instr.mapUpdate, Sem.run_bind, run_underlying hu, Result.andThen_ok, hgo, hck, Instr.findKey, run_underlying hd, hfn, Sem.run_pure]
            exact hset
        · rename_i r hf
          cases hp
          obtain ⟨U, u1, u2, _, e, u4, u5, _⟩ := findA_ok hd hpk hk h2 hf
          have hset := run_setObj_map (P := P) (o := .map (ves.toArray.modify r.1 fun e => { e with key := K, val := V }) cl) h3 ⟨_, _, rfl⟩
          refine ⟨upd w g (.map (ves.toArray.modify r.1 fun e => { e with key := K, val := V }) cl), j, Stp.write h hes hg ⟨_, setE_ok h2 hk hv, ?_⟩, Lg.write _ _ _, ?_⟩
          · rw [upd_same h3]; congr 2; apply Array.ext'; simp
          · have hold : ((ves.toArray[r.1]?).map (·.key)).getD K = K := by
              have : ves[r.1]? = some e := by simpa using u4
              simp [this, u5]
            simp only [Instr.mapUpdate, Sem.run_bind, run_underlying hu, Result.andThen_ok, hgo, hck, Instr.findKey, run_underlying hd, u2, Sem.run_pure, hold, Instr.keyThatStays, sameBits_plain hpk hk, if_true]
            exact hset
      · cases hp
  · cases hp
/-- WHAT 'eop' TELLS THE MODEL DOES. -/
theorem eop_ok (h : Rep ρ m w) {f : Operand → Option AV} {ev : Operand → Value} {o : Oper} {r : AV} {m' : Mem} (hf : ∀ x ∈ o.op.operands, ∀ u, f x = some u → conc ρ u = some (ev x)) (he : eop P m o.op f = some (r, m')) :
    Did P ev o ρ m w r m' := by
  obtain ⟨dst, op, ty, pos, aft, gd⟩ := o
  simp only at hf he
  have val : ∀ {s : Sem Value}, (∃ ρ' w' z L, Stp ρ m w ρ' m' w' L ∧ Lg m m' L ∧ conc ρ' r = some z ∧ s.run P w = .ok z w') → execOp ev ⟨dst, op, ty, pos, aft, gd⟩ = (do pure (.value (← s))) → Did P ev ⟨dst, op, ty, pos, aft, gd⟩ ρ m w r m' := by
    rintro s ⟨ρ', w', z, L, h1, h2, h3, h4⟩ e
    exact ⟨ρ', w', z, L, h1, h2, h3, .inl (by rw [e]; simp [h4])⟩
  unfold eop at he
  split at he
  · obtain ⟨ρ', w', z, h1, h2, h3, h4⟩ := allocA_ok h he
    exact val ⟨ρ', w', z, [], h1, h2, h3, h4⟩ rfl
  · rename_i t x
    split at he
    · rename_i v hv
      cases he
      obtain ⟨ρ', w', z, h1, h2, h3, h4⟩ := box_ok (P := P) h (t := t) (hf x (by simp [Op.operands]) _ hv)
      exact val ⟨ρ', w', z, [], h1, h2, h3, h4⟩ rfl
    · cases he
  · rename_i t len ps
    split at he
    · rename_i q hq
      obtain ⟨h1, h2⟩ := partsO_ok (ρ := ρ) (ev := ev) (fun x hx => hf x (by simpa [Op.operands] using hx)) hq
      obtain ⟨ρ', w', z, k1, k2, k3, k4⟩ := buildSliceA_ok (P := P) h h1 h2 he
      refine val ⟨ρ', w', z, [], k1, k2, k3, k4⟩ ?_
      have : (ps.map fun (i, x) => (i, ev x)) = (ps.toList.map fun p => (p.1, ev p.2)).toArray := map_toList _ _
      simp only [execOp, this]
    · cases he
  · rename_i t a x
    split at he
    · rename_i a' x' ha hx
      split at he
      · rename_i m1 hm1
        cases he
        obtain ⟨w', i, k1, k2, k3⟩ := storeA_ok (P := P) h (hf a (by simp [Op.operands]) _ ha) (hf x (by simp [Op.operands]) _ hx) hm1
        exact ⟨ρ, w', undef, [i], k1, k2, rfl, .inr ⟨by simp [execOp, k3], rfl⟩⟩
      · cases he
    · cases he
  · rename_i t l c
    split at he
    · rename_i l' c' hl hc
      obtain ⟨ρ', w', z, k1, k2, k3, k4⟩ := makeSliceA_ok (P := P) h (hf l (by simp [Op.operands]) _ hl) (hf c (by simp [Op.operands]) _ hc) he
      exact val ⟨ρ', w', z, [], k1, k2, k3, k4⟩ rfl
    · cases he
  · cases he
    refine val ⟨_, _, .map (some w.heap.size), [], Stp.alloc h (.mp [] 0) (.map #[] 0) 0 ⟨[], rfl, heap_alloc_new w _⟩, Lg.new _ _, by simp [conc, Env.add], ?_⟩ rfl
    simp [Instr.makeMap]
  · rename_i t x k v
    split at he
    · rename_i x' k' v' hx hk hv
      split at he
      · rename_i m1 hm1
        cases he
        obtain ⟨w', i, k1, k2, k3⟩ := mapPutA_ok (P := P) h (hf x (by simp [Op.operands]) _ hx) (hf k (by simp [Op.operands]) _ hk) (hf v (by simp [Op.operands]) _ hv) hm1
        exact ⟨ρ, w', undef, [i], k1, k2, rfl, .inr ⟨by simp [execOp, k3], rfl⟩⟩
      · cases he
    · cases he
  · rename_i t x k v
    split at he
    · rename_i x' k' v' hx hk hv
      split at he
      · rename_i m1 hm1
        cases he
        obtain ⟨w', i, k1, k2, k3⟩ := mapPutA_ok (P := P) h (hf x (by simp [Op.operands]) _ hx) (hf k (by simp [Op.operands]) _ hk) (hf v (by simp [Op.operands]) _ hv) hm1
        exact ⟨ρ, w', undef, [i], k1, k2, rfl, .inr ⟨by simp [execOp, k3], rfl⟩⟩
      · cases he
    · cases he
  · rename_i s d x
    split at he
    · rename_i v hv
      obtain ⟨ρ', w', z, k1, k2, k3, k4⟩ := strBytesA_ok (P := P) h (hf x (by simp [Op.operands]) _ hv) he
      exact val ⟨ρ', w', z, [], k1, k2, k3, k4⟩ rfl
    · cases he
  · rename_i c
    have hargs : ∀ l, listO f c.args.toList = some l → concL ρ l = some (c.args.map ev).toList := fun l hl => by
      have := listO_ok (ρ := ρ) (ev := ev) (fun x hx => hf x (Array.mem_append.2 (.inr (Array.mem_toList_iff.1 hx)))) hl
      rw [this]; simp
    split at he
    · rename_i hcb
      split at he
      · rename_i t u s x hts hl
        have h1 := hargs _ hl
        obtain ⟨S, y, k1, k2, e1⟩ := concL_cons h1
        obtain ⟨X, y', k3, k4, e2⟩ := concL_cons k2
        simp only [concL, Option.some.injEq] at k4
        subst k4 e2
        obtain ⟨ρ', w', z, L, q1, q2, q3, q4⟩ := appendA_ok (P := P) (ty := ty) h k1 k3 he
        refine val ⟨ρ', w', z, L, q1, q2, q3, q4⟩ ?_
        have ea : c.args.map ev = #[S, X] := Array.ext' (by simpa using e1)
        have et : c.argTypes = #[t, u] := Array.ext' (by simpa using hts)
        simp only [execOp, resolve, hcb, ea, et, pure_bind, invoke, builtin]
      · cases he
    · rename_i hcb
      split at he
      · rename_i t ts s x hts hl
        have h1 := hargs _ hl
        obtain ⟨S, y, k1, k2, e1⟩ := concL_cons h1
        obtain ⟨X, y', k3, k4, e2⟩ := concL_cons k2
        simp only [concL, Option.some.injEq] at k4
        subst k4 e2
        obtain ⟨ρ', w', z, L, q1, q2, q3, q4⟩ := copyA_ok (P := P) (ty := ty) (ts := ts) h k1 k3 he
        refine val ⟨ρ', w', z, L, q1, q2, q3, q4⟩ ?_
        have ea : c.args.map ev = #[S, X] := Array.ext' (by simpa using e1)
        have et : c.argTypes = (t :: ts).toArray := Array.ext' (by simpa using hts)
        simp only [execOp, resolve, hcb, ea, et, pure_bind, invoke, builtin]
      · cases he
    · cases he
  · cases he
end
end
end Ev
end Go.Proofs.YtmolojjhnbchbaaGreatDoor
