/- A law of numbers that are only looked at by what is left of them: it is enough to look at what may be left. -/
import Derived.Test.YtldhpefbemakhaaGreatDoorSpec
set_option linter.all false
namespace Go.Proofs.YtldhpefbemakhaaGreatDoor
open Go.RowKit

namespace Ev
theorem wrap_small {n : Nat} (h : n < 9223372036854775808) : IntKind.wrap .i64 (n : Int) = (n : Int) := by
  have e := wrapF_eq .i64 (.ofNat n)
  have hb : Nat.blt n 9223372036854775808 = true := by unfold Nat.blt; rw [Nat.ble_eq]; omega
  have : wrapF .i64 (.ofNat n) = .ofNat n := by
    show (bif Nat.blt n 9223372036854775808 then Int.ofNat n else IntKind.wrap .i64 (.ofNat n)) = _
    rw [hb]; rfl
  rw [this] at e
  exact e.symm
/-- What becomes of a number in ((a%p)+p)%p. -/
def chainY (p : Nat) (a : Int) (j : Nat) : Int := match j with
  | 0 => a
  | 1 => a.tmod p
  | 2 => IntKind.wrap .i64 (a.tmod p + p)
  | _ => (IntKind.wrap .i64 (a.tmod p + p)).tmod p
theorem chain_last (p : Nat) (hp : 0 < p) (hs : p ≤ 1000) (a : Int) : ∃ r : Nat, r < p ∧ (IntKind.wrap .i64 (a.tmod p + p)).tmod p = (r : Int) := by
  have h1 : a.tmod p < p := Int.tmod_lt_of_pos a (by omega)
  have h2 : -(p : Int) < a.tmod p := by
    have := Int.lt_tmod_of_pos a (show (0 : Int) < (p : Int) by omega)
    omega
  obtain ⟨m, hm⟩ := Int.eq_ofNat_of_zero_le (show 0 ≤ a.tmod p + (p : Int) by omega)
  rw [hm]
  have hm' : m < 2000 := by omega
  rw [wrap_small (by omega)]
  exact ⟨m % p, Nat.mod_lt _ hp, (Int.ofNat_tmod m p).symm⟩
def symI (i : Nat) (p : Nat) (r : Nat) : AV := .sym .i64 i [(.rem, (p : Int)), (.add, (p : Int)), (.rem, (p : Int))] (r : Int)
def symU (i : Nat) (p : Nat) (r : Nat) : AV := .sym .u8 i [(.rem, (p : Int))] (r : Int)
theorem symI_ok {ρ : Env} {i p r : Nat} {a : Int} (hp : 0 < p) (h0 : ρ.y i = a) (h1 : ρ.y (i + 1) = a.tmod p) (h2 : ρ.y (i + 1 + 1) = IntKind.wrap .i64 (a.tmod p + p)) (h3 : ρ.y (i + 1 + 1 + 1) = (r : Int))
    (hr : (IntKind.wrap .i64 (a.tmod p + p)).tmod p = (r : Int)) : conc ρ (symI i p r) = some (.int .i64 a) := by
  have p0 : ¬ ((p : Int) = 0) := by omega
  have ok : symOK .i64 ρ.y i [(.rem, (p : Int)), (.add, (p : Int)), (.rem, (p : Int))] (r : Int) = true := by
    simp only [symOK, symStep, Nat.succ_eq_add_one, h0, h1, h2, h3, p0, if_false, hr, decide_true, Bool.and_self]
  unfold symI
  simp only [conc]
  rw [if_pos ok, h0]
theorem symU_ok {ρ : Env} {i p r : Nat} {a : Nat} (hp : 0 < p) (h0 : ρ.y i = (a : Int)) (h1 : ρ.y (i + 1) = (r : Int)) (hr : a % p = r) : conc ρ (symU i p r) = some (.int .u8 (a : Int)) := by
  have p0 : ¬ ((p : Int) = 0) := by omega
  have e : ((a : Int)).tmod (p : Int) = (r : Int) := by rw [← hr, Int.ofNat_tmod]
  have ok : symOK .u8 ρ.y i [(.rem, (p : Int))] (r : Int) = true := by
    simp only [symOK, symStep, Nat.succ_eq_add_one, h0, h1, p0, if_false, e, decide_true, Bool.and_self]
  unfold symU
  simp only [conc]
  rw [if_pos ok, h0]
section
variable {call : FuncId → List AV → Mem → Option (AV × Mem)} (hc : CallSound Tryz.prog call) {g : FuncId} {fn : Func} {c : Code} (hg : Tryz.prog.funcs[g]? = some fn) (hb : fn.body = some c) (hname : (fn.name == "runtime.NumGoroutine") = false)
include hc hg hb hname
theorem two_bytes (p q : Nat) (hp : 0 < p) (hq : 0 < q) (h : ∀ r s : Nat, r < p → s < q → okTrue call g [symU 0 p r, symU 10 q s] = true)
    (a b : Int) (ha : 0 ≤ a) (hb' : 0 ≤ b) (w : World) (hw : OkW w) : Calls Tryz.prog g #[.int .u8 a, .int .u8 b] w fun e w' => e = .returned (.bool true) ∧ Below w.heap.size w w' := by
  obtain ⟨a, rfl⟩ := Int.eq_ofNat_of_zero_le ha
  obtain ⟨b, rfl⟩ := Int.eq_ofNat_of_zero_le hb'
  have h1 := h (a % p) (b % q) (Nat.mod_lt _ hp) (Nat.mod_lt _ hq)
  refine okTrue_ok hc h1 hg hb hname (xs := [.int .u8 (a : Int), .int .u8 (b : Int)]) (fun i => if i = 0 then (a : Int) else if i = 1 then ((a % p : Nat) : Int) else if i = 10 then (b : Int) else ((b % q : Nat) : Int)) (fun ρ hy => ?_) w hw
  exact concL_cons_mk (symU_ok hp (by rw [hy]; rfl) (by rw [hy]; rfl) rfl) (concL_cons_mk (symU_ok hq (by rw [hy]; rfl) (by rw [hy]; rfl) rfl) rfl)
theorem three_ints (p q s : Nat) (hp : 0 < p ∧ p ≤ 1000) (hq : 0 < q ∧ q ≤ 1000) (hs : 0 < s ∧ s ≤ 1000) (h : ∀ r1 r2 r3 : Nat, r1 < p → r2 < q → r3 < s → okTrue call g [symI 0 p r1, symI 10 q r2, symI 20 s r3] = true)
    (a b d : Int) (w : World) (hw : OkW w) : Calls Tryz.prog g #[.int .i64 a, .int .i64 b, .int .i64 d] w fun e w' => e = .returned (.bool true) ∧ Below w.heap.size w w' := by
  obtain ⟨r1, l1, e1⟩ := chain_last p hp.1 hp.2 a
  obtain ⟨r2, l2, e2⟩ := chain_last q hq.1 hq.2 b
  obtain ⟨r3, l3, e3⟩ := chain_last s hs.1 hs.2 d
  refine okTrue_ok hc (h r1 r2 r3 l1 l2 l3) hg hb hname (xs := [.int .i64 a, .int .i64 b, .int .i64 d]) (fun i => if i < 10 then chainY p a i else if i < 20 then chainY q b (i - 10) else chainY s d (i - 20)) (fun ρ hy => ?_) w hw
  exact concL_cons_mk (symI_ok hp.1 (by rw [hy]; rfl) (by rw [hy]; rfl) (by rw [hy]; rfl) (by rw [hy]; exact e1) e1)
    (concL_cons_mk (symI_ok hq.1 (by rw [hy]; rfl) (by rw [hy]; rfl) (by rw [hy]; rfl) (by rw [hy]; exact e2) e2)
    (concL_cons_mk (symI_ok hs.1 (by rw [hy]; rfl) (by rw [hy]; rfl) (by rw [hy]; rfl) (by rw [hy]; exact e3) e3) rfl))
theorem two_ints_bools (p q : Nat) (hp : 0 < p ∧ p ≤ 1000) (hq : 0 < q ∧ q ≤ 1000) (h : ∀ (r1 r2 : Nat) (x y : Bool), r1 < p → r2 < q → okTrue call g [symI 0 p r1, symI 10 q r2, .bool x, .bool y] = true)
    (a b : Int) (x y : Bool) (w : World) (hw : OkW w) : Calls Tryz.prog g #[.int .i64 a, .int .i64 b, .bool x, .bool y] w fun e w' => e = .returned (.bool true) ∧ Below w.heap.size w w' := by
  obtain ⟨r1, l1, e1⟩ := chain_last p hp.1 hp.2 a
  obtain ⟨r2, l2, e2⟩ := chain_last q hq.1 hq.2 b
  refine okTrue_ok hc (h r1 r2 x y l1 l2) hg hb hname (xs := [.int .i64 a, .int .i64 b, .bool x, .bool y]) (fun i => if i < 10 then chainY p a i else chainY q b (i - 10)) (fun ρ hy => ?_) w hw
  exact concL_cons_mk (symI_ok hp.1 (by rw [hy]; rfl) (by rw [hy]; rfl) (by rw [hy]; rfl) (by rw [hy]; exact e1) e1)
    (concL_cons_mk (symI_ok hq.1 (by rw [hy]; rfl) (by rw [hy]; rfl) (by rw [hy]; rfl) (by rw [hy]; exact e2) e2) rfl)
end
end Ev
end Go.Proofs.YtldhpefbemakhaaGreatDoor
