/- When statements are alike: plain laws of it. No program's code. -/
import Derived.Test.YtddedijencleeaaGreatDoorGa
set_option linter.all false
namespace Go.Proofs.YtddedijencleeaaGreatDoor
open Go.RowKit

/-- Two rows that are alike, element by element. -/
def eqN (n m : Nat) (r : Nat → Bool) : Bool := decide (n = m) && allN n r
theorem eqN_refl {n : Nat} {r : Nat → Bool} (h : ∀ i, r i = true) : eqN n n r = true := by simp [eqN, allN, h]
theorem eqN_congr {n m : Nat} {r q : Nat → Bool} (h : ∀ i, r i = q i) : eqN n m r = eqN n m q := by rw [show r = q from funext h]
def strB (s t : ByteArray) : Bool := s.toList == t.toList
theorem strB_refl (s : ByteArray) : strB s s = true := by simp [strB]
def valB (k n k' n' : Int) (t t' : ByteArray) : Bool := k == k' && n == n' && strB t t'
/-- Expressions alike; but for place and type. -/
def sameE : E → E → Bool
  | .mk k op vk vn vt tb nm n args _ _, .mk k' op' vk' vn' vt' tb' nm' n' args' _ _ =>
    k == k' && op == op' && valB vk vn vk' vn' vt vt' && strB tb tb' && strB nm nm' && eqN n n' fun i => sameE (args i) (args' i)
  | .no, .no => true
  | .no, .mk .. => false
  | .mk .., .no => false
def alikeE : E → E → Bool
  | .mk k op vk vn vt tb nm n args pl ty, .mk k' op' vk' vn' vt' tb' nm' n' args' pl' ty' =>
    k == k' && op == op' && valB vk vn vk' vn' vt vt' && strB tb tb' && strB nm nm' && pl == pl' && ty == ty' && eqN n n' fun i => alikeE (args i) (args' i)
  | .no, .no => true
  | .no, .mk .. => false
  | .mk .., .no => false
def bareE : E → E
  | .no => .no
  | .mk k op vk vn vt tb nm n args _ _ => .mk k op vk vn vt tb nm n (fun i => bareE (args i)) 0 0
theorem sameE_refl : ∀ e, sameE e e = true
  | .no => by simp only [sameE]
  | .mk k op vk vn vt tb nm n args pl ty => by
    simp only [sameE, valB, strB_refl, eqN_refl fun i => sameE_refl (args i), beq_self_eq_true, Bool.and_self]
theorem sameE_bare : ∀ e, sameE e (bareE e) = true
  | .no => by simp only [sameE, bareE]
  | .mk k op vk vn vt tb nm n args pl ty => by
    simp only [sameE, bareE, valB, strB_refl, eqN_refl fun i => sameE_bare (args i), beq_self_eq_true, Bool.and_self]
theorem alike_bare : ∀ e e', alikeE (bareE e) (bareE e') = sameE e e'
  | .no, .no => by simp only [sameE, bareE, alikeE]
  | .no, .mk .. => by simp only [sameE, bareE, alikeE]
  | .mk .., .no => by simp only [sameE, bareE, alikeE]
  | .mk k op vk vn vt tb nm n args pl ty, .mk k' op' vk' vn' vt' tb' nm' n' args' pl' ty' => by
    simp only [sameE, bareE, alikeE, beq_self_eq_true, Bool.and_true, eqN_congr fun i => alike_bare (args i) (args' i)]
def sameCo (a b : Co) : Bool := strB a.nm b.nm && a.ty == b.ty && (a.nn == b.nn)
def sameKe (a b : Ke) : Bool := strB a.nm b.nm && eqN a.n b.n (fun i => a.cols i == b.cols i) && a.un == b.un && a.pr == b.pr
def sameTa (a b : Ta) : Bool := strB a.nm b.nm && eqN a.nc b.nc (fun i => sameCo (a.cols i) (b.cols i)) && eqN a.nk b.nk fun i => sameKe (a.keys i) (b.keys i)
def sameNa (a b : Na) : Bool := eqN a.n b.n fun i => strB (a.f i) (b.f i)
def sameEs (r : E → E → Bool) (a b : Es) : Bool := eqN a.n b.n fun i => r (a.f i) (b.f i)
def sameSt (r : E → E → Bool) (a b : St) : Bool := strB a.nm b.nm && r a.e b.e
def sameIt (r : E → E → Bool) (a b : It) : Bool := a.star == b.star && strB a.nm b.nm && r a.e b.e
def sameSo (r : E → E → Bool) (a b : So) : Bool := strB a.nm b.nm && strB a.al b.al && a.left == b.left && r a.e b.e
def sameOd (r : E → E → Bool) (a b : Od) : Bool := a.desc == b.desc && r a.e b.e
/-- Statements alike, their expressions by r. -/
structure SameS (r : E → E → Bool) (a b : S) : Prop where
  kind : a.kind = b.kind
  tab : sameTa a.tab b.tab = true
  kc : eqN a.nkc b.nkc (fun i => sameNa (a.kc i) (b.kc i)) = true
  nm : strB a.nm b.nm = true
  ix : strB a.ix b.ix = true
  un : a.un = b.un
  cl : sameNa a.cl b.cl = true
  rw : eqN a.nrw b.nrw (fun i => sameEs r (a.rw i) (b.rw i)) = true
  st : eqN a.nst b.nst (fun i => sameSt r (a.st i) (b.st i)) = true
  it : eqN a.nit b.nit (fun i => sameIt r (a.it i) (b.it i)) = true
  fr : eqN a.nfr b.nfr (fun i => sameSo r (a.fr i) (b.fr i)) = true
  od : eqN a.nor b.nor (fun i => sameOd r (a.od i) (b.od i)) = true
  wh : r a.wh b.wh = true
  gr : sameEs r a.gr b.gr = true
  hv : r a.hv b.hv = true
  di : a.di = b.di
  li : a.li = b.li
def bareEs (x : Es) : Es := ⟨x.n, fun i => bareE (x.f i)⟩
def bareS (s : S) : S :=
  { s with rw := fun i => bareEs (s.rw i), st := fun i => { s.st i with e := bareE (s.st i).e }, wh := bareE s.wh, it := fun i => { s.it i with e := bareE (s.it i).e }, fr := fun i => { s.fr i with e := bareE (s.fr i).e }, gr := bareEs s.gr, hv := bareE s.hv, od := fun i => { s.od i with e := bareE (s.od i).e } }
theorem sameCo_refl (a : Co) : sameCo a a = true := by simp [sameCo, strB_refl]
theorem sameKe_refl (a : Ke) : sameKe a a = true := by simp [sameKe, strB_refl, eqN_refl]
theorem sameTa_refl (a : Ta) : sameTa a a = true := by simp [sameTa, strB_refl, eqN_refl, sameCo_refl, sameKe_refl]
theorem sameNa_refl (a : Na) : sameNa a a = true := by simp [sameNa, strB_refl, eqN_refl]
theorem sameS_refl (a : S) : SameS sameE a a := by
  constructor <;> simp [sameTa_refl, sameNa_refl, eqN_refl, strB_refl, sameEs, sameSt, sameIt, sameSo, sameOd, sameE_refl]
theorem sameS_bare (a : S) : SameS sameE a (bareS a) := by
  constructor <;> simp [bareS, bareEs, sameTa_refl, sameNa_refl, eqN_refl, strB_refl, sameEs, sameSt, sameIt, sameSo, sameOd, sameE_bare]
theorem same_iff (a b : S) : SameS alikeE (bareS a) (bareS b) ↔ SameS sameE a b := by
  constructor <;> rintro ⟨h1, h2, h3, h4, h5, h6, h7, h8, h9, h10, h11, h12, h13, h14, h15, h16, h17⟩ <;>
    simp only [bareS, bareEs, sameEs, sameSt, sameIt, sameSo, sameOd, alike_bare] at h8 h9 h10 h11 h12 h13 h14 h15
  · exact ⟨h1, h2, h3, h4, h5, h6, h7, h8, h9, h10, h11, h12, h13, h14, h15, h16, h17⟩
  · refine ⟨h1, h2, h3, h4, h5, h6, h7, ?_, ?_, ?_, ?_, ?_, ?_, ?_, ?_, h16, h17⟩ <;> simp only [bareS, bareEs, sameEs, sameSt, sameIt, sameSo, sameOd, alike_bare] <;> assumption
/-- The same as one truth, in the program's order. -/
def sameSB (r : E → E → Bool) (a b : S) : Bool :=
  a.kind == b.kind && sameTa a.tab b.tab && eqN a.nkc b.nkc (fun i => sameNa (a.kc i) (b.kc i)) && strB a.nm b.nm && strB a.ix b.ix && a.un == b.un && sameNa a.cl b.cl && eqN a.nrw b.nrw (fun i => sameEs r (a.rw i) (b.rw i)) && eqN a.nst b.nst (fun i => sameSt r (a.st i) (b.st i)) &&
  eqN a.nit b.nit (fun i => sameIt r (a.it i) (b.it i)) && eqN a.nfr b.nfr (fun i => sameSo r (a.fr i) (b.fr i)) && eqN a.nor b.nor (fun i => sameOd r (a.od i) (b.od i)) && r a.wh b.wh && sameEs r a.gr b.gr && r a.hv b.hv && a.di == b.di && a.li == b.li
theorem sameSB_iff (r : E → E → Bool) (a b : S) : sameSB r a b = true ↔ SameS r a b := by
  simp only [sameSB, Bool.and_eq_true, beq_iff_eq]
  constructor
  · rintro ⟨⟨⟨⟨⟨⟨⟨⟨⟨⟨⟨⟨⟨⟨⟨⟨h1, h2⟩, h3⟩, h4⟩, h5⟩, h6⟩, h7⟩, h8⟩, h9⟩, h10⟩, h11⟩, h12⟩, h13⟩, h14⟩, h15⟩, h16⟩, h17⟩
    exact ⟨h1, h2, h3, h4, h5, h6, h7, h8, h9, h10, h11, h12, h13, h14, h15, h16, h17⟩
  · rintro ⟨h1, h2, h3, h4, h5, h6, h7, h8, h9, h10, h11, h12, h13, h14, h15, h16, h17⟩
    exact ⟨⟨⟨⟨⟨⟨⟨⟨⟨⟨⟨⟨⟨⟨⟨⟨h1, h2⟩, h3⟩, h4⟩, h5⟩, h6⟩, h7⟩, h8⟩, h9⟩, h10⟩, h11⟩, h12⟩, h13⟩, h14⟩, h15⟩, h16⟩, h17⟩
theorem EIn.form {W : World} : ∀ {e : E} {cs : List Value}, EIn W e cs → ∃ k op vk vn vt tb nm A n c pl ty, cs = [.int .i64 k, .int .i64 op, .int .i64 vk, .int .i64 vn, .string vt, .string tb, .string nm, .slice A n c, .int .i64 pl, .int .i64 ty]
  | .no, _, h => False.elim h
  | .mk .., cs, ⟨_, v, h1, A, c, h2, _⟩ => by subst h2; exact ⟨_, _, _, _, _, _, _, _, _, _, _, _, h1⟩
theorem EIn.one {W : World} {e : E} {cs : List Value} (h : EIn W e cs) : cs.toArray.all (·.oneCell') = true := by
  obtain ⟨k, op, vk, vn, vt, tb, nm, A, n, c, pl, ty, rfl⟩ := h.form
  simp [Value.oneCell']
end Go.Proofs.YtddedijencleeaaGreatDoor
