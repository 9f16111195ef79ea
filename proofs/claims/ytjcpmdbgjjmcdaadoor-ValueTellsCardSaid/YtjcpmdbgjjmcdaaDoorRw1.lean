/- consistoryhelp.Values, Bytes; ref6.order, consistoryref1.plain, Is, ref6.Compare: contracts. -/
import Derived.Test.YtjcpmdbgjjmcdaaDoorVal2
import Derived.Test.YtjcpmdbgjjmcdaaDoorMem
import Derived.Laws.BytesArg
set_option linter.all false
namespace Go.Proofs.YtjcpmdbgjjmcdaaDoor
open Go.RowKit

/-- Bytes as numbers. -/
def nums (xs : List Int) : List Value := xs.map (Value.int .u8)
theorem conv_zero {P : Program} (w : World) (src e : TypeId) (hs : P.underlying src = some (.slice e)) (he : P.underlying e = some (.int .u8)) (A : Option Addr) (c : Nat) :
    ∀ dst, P.underlying dst = some .string → (convert src dst (.slice A 0 c)).run P w = .ok (.string (strOfNums [])) w := by
  intro dst hd
  rw [run_convert_bytes_string w src dst e _ 0 c hs he hd]
  cases A <;> simp [Conv.bytesToString, strOfNums] <;> rfl
theorem Reads.conv {P : Program} {w : World} {A : Option Addr} {n : Nat} {xs : List Int} (h : Reads w 1 A n (nums xs)) (src e : TypeId) (hs : P.underlying src = some (.slice e)) (he : P.underlying e = some (.int .u8)) (c : Nat) :
    ∀ dst, P.underlying dst = some .string → (convert src dst (.slice A n c)).run P w = .ok (.string (strOfNums xs)) w := by
  have hl : xs.length = n := by have := h.1; simpa [nums] using this
  rcases Nat.eq_zero_or_pos n with hn | hn
  · subst hn
    obtain rfl : xs = [] := List.eq_nil_of_length_eq_zero hl
    exact conv_zero w src e hs he A c
  · obtain ⟨b, o, rfl, _, hc⟩ := h.2 hn
    refine run_convert_bytes_arg (P := P) w src e hs he b o n c xs hl fun i hi => ?_
    exact hc i _ (by simp [nums, List.getD, List.getElem?_eq_getElem (show i < xs.length by omega)])


theorem ref6_order (a b : Bool) (w : World) : Calls Tryd.prog 24 #[.bool a, .bool b] w fun e w' => e = .returned (.int .i64 (if a = true then -1 else if b = true then 1 else 0)) ∧ w = w' := by
  cases a <;> cases b <;>
  · go_enter Tryd.func24, Tryd.ntmps24
    go_wp2
    go_ret
    exact ⟨rfl, rfl⟩

def V.same (u v : V) : Bool := u.k == v.k && u.n == v.n && u.t.toList == v.t.toList
def valuesB (l l' : List V) : Bool := decide (l.length = l'.length) && (List.zipWith V.same l l').all id
theorem eqV (a b : Int) (s : ByteArray) (c d : Int) (t : ByteArray) (w : World) : (Op.equalIn 10000 23 (.agg #[.int .i64 a, .int .i64 b, .string s]) (.agg #[.int .i64 c, .int .i64 d, .string t])).run Tryd.prog w = .ok (a == c && b == d && s.toList == t.toList) w := by
  have u3 := Tryd.underlying3
  have a3 := Tryd.isAgg3
  have z3 := Tryd.sizeOf3
  have u2 := Tryd.underlying2
  have a2 := Tryd.isAgg2
  have z2 := Tryd.sizeOf2
  have u9 := Tryd.underlying9
  have a9 := Tryd.isAgg9
  have z9 := Tryd.sizeOf9
  have hS : Tryd.prog.underlying 23 = some (.struct (Tryd.prog.fieldsOf 23)) := by kernel_rfl
  have hp : Tryd.prog.stoodInHeld 23 = false := by kernel_rfl
  rw [show (10000 : Nat) = 9999 + 1 from rfl, run_equalIn_agg w 9999 23 _ _ hS hp]
  simp only [Program.fieldsOf, Tryd.underlying23]
  go_simp
  by_cases h1 : a = c <;> by_cases h2 : b = d <;> by_cases h3 : s.toList = t.toList <;> simp [h1, h2, h3]

theorem all_zip {l l' : List V} {i : Nat} {v v' : V} (h : l[i]? = some v) (h' : l'[i]? = some v') (hn : V.same v v' = false) : (List.zipWith V.same l l').all id = false := by
  rw [List.all_eq_false]
  refine ⟨false, ?_, by simp⟩
  refine List.mem_of_getElem? (i := i) ?_
  rw [List.getElem?_zipWith, h, h', ← hn]
theorem zip_all {l l' : List V} (h : ∀ (i : Nat) (v v' : V), l[i]? = some v → l'[i]? = some v' → V.same v v' = true) : (List.zipWith V.same l l').all id = true := by
  rw [List.all_eq_true]
  intro b hb
  obtain ⟨i, hi⟩ := List.getElem?_of_mem hb
  rw [List.getElem?_zipWith] at hi
  cases h1 : l[i]? with
  | none => rw [h1] at hi; simp at hi
  | some v =>
    cases h2 : l'[i]? with
    | none => rw [h1, h2] at hi; simp at hi
    | some v' =>
      rw [h1, h2] at hi
      simp only [Option.some.injEq] at hi
      rw [← hi]; exact h i v v' h1 h2

end Go.Proofs.YtjcpmdbgjjmcdaaDoor
