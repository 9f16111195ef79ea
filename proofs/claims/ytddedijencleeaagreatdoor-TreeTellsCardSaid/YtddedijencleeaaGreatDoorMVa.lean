/- A statement that may be: the program and the reference say the same. No program's code. -/
import Derived.Test.YtddedijencleeaaGreatDoorUh
import Derived.Shelf.Strings.Builder1
import Derived.Shelf.Strings.Builder2
import Derived.Shelf.Small.Strs
import Derived.Shelf.Strconv.Itoa0
import Derived.Shelf.Strconv.Itoa1
import Derived.Shelf.LaysM
import Derived.Shelf.Strconv.Itoa2
import Derived.Shelf.Strconv.Itoa3
import Derived.Shelf.Strconv.Itoa4
import Derived.Shelf.Strings.Search1
import Derived.Shelf.Strings.Search2
import Derived.Shelf.Strings.Search3
import Derived.Shelf.Strings.Count
import Derived.Shelf.Strings.Shaped
import Derived.Shelf.Strings.Split
import Derived.Shelf.Strings.Replace
import Derived.Shelf.Strings.SplitShaped
import Derived.Shelf.Unicode.DecodeSlow
import Derived.Test.YtddedijencleeaaGreatDoorProg
import Derived.Test.YtddedijencleeaaGreatDoorSm
import Derived.Test.YtddedijencleeaaGreatDoorMVal1
import Derived.Test.YtddedijencleeaaGreatDoorMBits
import Derived.Lib.AppendIntMem
import Derived.Lib.ReplaceLaws
set_option linter.all false
namespace Go.Proofs.YtddedijencleeaaGreatDoor
open Go.RowKit Go.Lib RC

theorem allN_congr {n:Nat} {p q:Nat→Bool} (h: ∀ i,i<n→p i=q i):Zd n p=Zd n q:=by
 rw [Bool.eq_iff_iff,Qx,Qx]
 exact ⟨fun k i hi=>by rw [← h i hi];exact k i hi,fun k i hi=>by rw [h i hi];exact k i hi⟩
theorem allN_zero {q:Nat→Bool}:Zd 0 q=true:=by rw [Qx];intro i hi;omega
theorem rowB_rowT (n:Nat) (q:Nat→Bool):JF n 1 q=Zn n q:=by
 have e1:decide ((n:Int)<1)= !decide (1≤(n:Int)):=by rw [← decide_not];exact decide_eq_decide.2 (by omega)
 have e2:decide (10<(n:Int))= !decide ((n:Int)≤10):=by rw [← decide_not];exact decide_eq_decide.2 (by omega)
 rw [JF,Zn,e1,e2,Bool.not_not,Bool.not_not]
theorem rowB_zero (n:Nat) (q:Nat→Bool):JF n 0 q=((n:Int)==0||Zn n q):=by
 have e0:decide ((n:Int)<0)=false:=by simp
 by_cases h:n=0
 · subst h
   rw [JF,e0,allN_zero];rfl
 have e1:((n:Int)==0)=false:=by rw [beq_eq_false_iff_ne];omega
 have e2:decide ((n:Int)<1)=false:=by simp;omega
 rw [e1, ← rowB_rowT,JF,JF,e0,e2,Bool.false_or]
theorem rows_zero (n:Nat) (q:Nat→Bool):(!(decide (10<(n:Int)))&&Zd n q)=((n:Int)==0||Zn n q):=by
 rw [← rowB_zero,JF]
 have e0:decide ((n:Int)<0)=false:=by simp
 rw [e0];rfl
theorem rows_one (n:Nat) (q:Nat→Bool):(!(decide ((n:Int)<1))&& !(decide (10<(n:Int)))&&Zd n q)=Zn n q:=by
 rw [← rowB_rowT,JF]
theorem itemB_eq (x:It):Jj x=itemT x:=by
 unfold Jj itemT noneB
 cases x.star <;> cases QE x.e <;> cases QH x.e <;> cases QB x.nm ⟨#[]⟩ <;> cases QD x.nm <;> rfl
theorem srcB_eq (i:Nat) (x:So):srcB i x=KS i x:=by
 unfold srcB KS noneB
 cases QB x.al ⟨#[]⟩ <;> cases QD x.al <;> rfl
theorem colB_eq (x:Co):colB x=colT x:=by
 unfold colB colT
 have e1:decide (x.ty<1)= !decide (1≤x.ty):=by rw [← decide_not];exact decide_eq_decide.2 (by omega)
 have e2:decide (3<x.ty)= !decide (x.ty≤3):=by rw [← decide_not];exact decide_eq_decide.2 (by omega)
 rw [e1,e2,Bool.not_not,Bool.not_not,Bool.and_assoc]
theorem keyB_eq (k:Ke) (l:Na):keyB k l=(keyT k&&Zn l.n fun i=>QD (l.f i)):=by
 unfold keyB keyT
 have e1:(!decide (0<(k.n:Int)))=((k.n:Int)==0):=by
  rw [Bool.eq_iff_iff]
  simp
 rw [e1,rowB_rowT]
theorem allN_and {n:Nat} {p q:Nat→Bool}:(Zd n fun i=>p i&&q i)=(Zd n p&&Zd n q):=by
 rw [Bool.eq_iff_iff,Bool.and_eq_true,Qx,Qx,Qx]
 exact ⟨fun h=>⟨fun i hi=>by have:=h i hi;simp only [Bool.and_eq_true] at this;exact this.1,fun i hi=>by have:=h i hi;simp only [Bool.and_eq_true] at this;exact this.2⟩,fun h i hi=>by rw [h.1 i hi,h.2 i hi];rfl⟩
theorem create_eq (s:S):Z7 s=ZU s:=by
 unfold Z7 ZU
 have e1:(Zd s.tab.nc fun i=>colB (s.tab.cols i))=Zd s.tab.nc fun i=>colT (s.tab.cols i):=allN_congr fun i _=>colB_eq _
 have e2:(Zd s.tab.nk fun i=>keyB (s.tab.keys i) (s.kc i))=(Zd s.tab.nk (fun i=>keyT (s.tab.keys i))&&Zd s.tab.nk fun i=>Zn (s.kc i).n fun j=>QD ((s.kc i).f j)):=by
  rw [← allN_and];exact allN_congr fun i _=>keyB_eq _ _
 have e3:((s.nkc:Int)==(s.tab.nk:Int))=((s.tab.nk:Int)==(s.nkc:Int)):=by rw [Bool.eq_iff_iff,beq_iff_eq,beq_iff_eq];exact eq_comm
 rw [e1,e2,e3, ← rows_one]
 cases h:((s.tab.nk:Int)==(s.nkc:Int)) with
 | false=>simp
 | true=>
  have:s.tab.nk=s.nkc:=by have:=eq_of_beq h;omega
  rw [← this]
  generalize (Zd s.tab.nc fun i=>colT (s.tab.cols i))=a
  generalize (Zd s.tab.nk fun i=>keyT (s.tab.keys i))=b
  generalize (Zd s.tab.nk fun i=>Zn (s.kc i).n fun j=>QD ((s.kc i).f j))=c
  generalize QD s.tab.nm=d
  generalize decide ((s.tab.nc:Int)<1)=e
  generalize decide (10<(s.tab.nc:Int))=f
  generalize decide (10<(s.tab.nk:Int))=g
  cases a <;> cases b <;> cases c <;> cases d <;> cases e <;> cases f <;> cases g <;> rfl
theorem select_eq (s:S):Zq s=Q0 s:=by
 have e1:(Zd s.nit fun i=>Jj (s.it i))=Zd s.nit fun i=>itemT (s.it i):=allN_congr fun i _=>itemB_eq _
 have e2:(Zd s.nfr fun i=>srcB i (s.fr i))=Zd s.nfr fun i=>KS i (s.fr i):=allN_congr fun i _=>srcB_eq _ _
 have e3:ZS s.nfr s.fr=(!(decide ((s.nfr:Int)<1))&& !(decide (3<(s.nfr:Int)))&&Zd s.nfr fun i=>KS i (s.fr i)):=by
  have e1:decide ((s.nfr:Int)<1)= !decide (1≤(s.nfr:Int)):=by rw [← decide_not];exact decide_eq_decide.2 (by omega)
  have e2:decide (3<(s.nfr:Int))= !decide ((s.nfr:Int)≤3):=by rw [← decide_not];exact decide_eq_decide.2 (by omega)
  rw [ZS,e1,e2,Bool.not_not,Bool.not_not]
 have e4:(!(decide (s.li<(-1))))=decide ((-1)≤s.li):=by rw [← decide_not];exact decide_eq_decide.2 (by omega)
 unfold Zq Q0
 rw [e1,e2,e3,e4,rowB_zero, ← rows_zero s.nor, ← rows_one s.nit]
 have e5:(Zd s.nor fun i=>orderT (s.od i))=Zd s.nor fun i=>QH (s.od i).e:=rfl
 rw [e5]
 generalize decide ((s.nit:Int)<1)=a
 generalize decide (10<(s.nit:Int))=b
 generalize decide ((s.nfr:Int)<1)=c
 generalize decide (3<(s.nfr:Int))=d
 generalize ((s.gr.n:Int)==0||Zn s.gr.n fun i=>QH (s.gr.f i))=e
 generalize decide (10<(s.nor:Int))=f
 generalize decide ((-1)≤s.li)=g
 generalize Zx s.wh=h
 generalize Zx s.hv=i
 generalize (Zd s.nit fun i=>itemT (s.it i))=j
 generalize (Zd s.nfr fun i=>KS i (s.fr i))=k
 generalize (Zd s.nor fun i=>QH (s.od i).e)=l
 cases a <;> cases b <;> cases c <;> cases d <;> try rfl
 all_goals
  cases e <;> cases f <;> cases g <;> cases h <;> cases i <;> cases j <;> cases k <;> cases l <;> rfl
theorem sum_zero (a b:Nat):(((a+b:Nat):Int)==0)=((a:Int)==0&&(b:Int)==0):=by
 rw [Bool.eq_iff_iff]
 simp only [Bool.and_eq_true,beq_iff_eq]
 omega
theorem is_one (s:S):Zw s=is9S s:=by
 have hs:QB ⟨#[]⟩ ⟨#[]⟩=true:=Z9 _
 have hz:ZA 0 0 0 0 ⟨#[]⟩ ⟨#[]⟩ ⟨#[]⟩ 0 0 0=true:=by simp [ZA,ZB,valB,Z9]
 have h0:(((0:Nat):Int)==0)=true:=rfl
 have h00:((0:Int)==0)=true:=rfl
 have hset: ∀ x,setT x=setB x:=fun x=>rfl
 rw [Bool.eq_iff_iff]
 unfold Zw is9S QM QO
 simp only [hs,hz,h0,h00,sum_zero,create_eq,select_eq,rowB_rowT,rowB_zero,hset,Bool.and_true,Bool.true_and,Bool.not_false]
 have r1:(!(decide ((s.nrw:Int)<1))&& !(decide (10<(s.nrw:Int)))&&Zd s.nrw fun i=>Zn (s.rw i).n fun j=>QH ((s.rw i).f j))=Zn s.nrw fun i=>Zn (s.rw i).n fun j=>QH ((s.rw i).f j):=rows_one _ _
 have r2:(!(decide ((s.nst:Int)<1))&& !(decide (10<(s.nst:Int)))&&Zd s.nst fun i=>setB (s.st i))=Zn s.nst fun i=>setB (s.st i):=rows_one _ _
 have r3:(QD s.nm&&((s.cl.n:Int)==0||Zn s.cl.n fun i=>QD (s.cl.f i))&& !(decide ((s.nrw:Int)<1))&& !(decide (10<(s.nrw:Int)))&&Zd s.nrw fun i=>Zn (s.rw i).n fun j=>QH ((s.rw i).f j))=(QD s.nm&&((s.cl.n:Int)==0||Zn s.cl.n fun i=>QD (s.cl.f i))&&Zn s.nrw fun i=>Zn (s.rw i).n fun j=>QH ((s.rw i).f j)):=by
  rw [← r1];simp only [Bool.and_assoc]
 have r4:(QD s.nm&& !(decide ((s.nst:Int)<1))&& !(decide (10<(s.nst:Int)))&&Zx s.wh&&Zd s.nst fun i=>setB (s.st i))=(QD s.nm&&Zx s.wh&&Zn s.nst fun i=>setB (s.st i)):=by
  rw [← r2]
  generalize QD s.nm=a
  generalize decide ((s.nst:Int)<1)=b
  generalize decide (10<(s.nst:Int))=c
  generalize Zx s.wh=d
  generalize (Zd s.nst fun i=>setB (s.st i))=e
  cases a <;> cases b <;> cases c <;> cases d <;> rfl
 rw [r3,r4]
 generalize ZU s=a1
 generalize Q0 s=a2
 generalize QD s.nm=a3
 generalize QD s.ix=a4
 generalize (Zn s.cl.n fun i=>QD (s.cl.f i))=a5
 generalize (Zn s.nrw fun i=>Zn (s.rw i).n fun j=>QH ((s.rw i).f j))=a6
 generalize (Zn s.nst fun i=>setB (s.st i))=a7
 generalize Zx s.wh=a8
 generalize QE s.wh=a9
 generalize QE s.hv=b1
 generalize s.un=b2
 generalize s.di=b3
 generalize QB s.nm ⟨#[]⟩=b4
 generalize QB s.ix ⟨#[]⟩=b5
 generalize QB s.tab.nm ⟨#[]⟩=b6
 generalize (s.li==0)=b7
 generalize ((s.tab.nc:Int)==0)=c1
 generalize ((s.tab.nk:Int)==0)=c2
 generalize ((s.nkc:Int)==0)=c3
 generalize ((s.cl.n:Int)==0)=c4
 generalize ((s.nrw:Int)==0)=c5
 generalize ((s.nst:Int)==0)=c6
 generalize ((s.nit:Int)==0)=c7
 generalize ((s.nfr:Int)==0)=c8
 generalize ((s.gr.n:Int)==0)=c9
 generalize ((s.nor:Int)==0)=d1
 generalize s.kind=k
 by_cases h1:k=1
 · subst h1;simp;grind
 by_cases h2:k=2
 · subst h2;simp;grind
 by_cases h3:k=3
 · subst h3;simp;grind
 by_cases h4:k=4
 · subst h4;simp;grind
 by_cases h5:k=5
 · subst h5;simp;grind
 by_cases h6:k=6
 · subst h6;simp;grind
 by_cases h7:k=7
 · subst h7;simp;grind
 by_cases h8:k=8
 · subst h8;simp;grind
 simp [h1,h2,h3,h4,h5,h6,h7,h8]
end Go.Proofs.YtddedijencleeaaGreatDoor

/-
  DERIVED: THE SHELF's CONTRACTS AT THIS DUMP, IN PLAIN WORDS (tools/lay-plain.mjs out of 'TryzShelf.lean', which tools/lay-shelf.mjs wrote): THE SAME DECLARATIONS UNDER THE SAME NAMES: 'import', 'namespace', 'open', 'def', 'theorem' AND NOTHING ELSE: no command of the shelf's: FOR A HAND-IN. Each laying: the table of numbers ('.._ren') and one theorem, a field a fact of the dump's own or the kernel's comparison; each contract: ONE APPLICATION.
-/
namespace Go.Proofs
open Go.Shelf
open Go.RowKit Go.Sort Go.Lib in
def Tryz.laysM246_ren : Go.Shelf.Ren := ⟨fun | 246 => 208 | 283 => 224 | 284 => 225 | 285 => 226 | 286 => 227 | 129 => 237 | 317 => 236 | 318 => 238 | 319 => 239 | 320 => 240 | 337 => 246 | 338 => 247 | n => n, fun | 2 => 2 | 3 => 3 | 9 => 9 | 4 => 4 | 171 => 240 | 0 => 0 | 53 => 210 | 37 => 72 | 5 => 5 | 173 => 243 | 212 => 254 | 51 => 255 | 20 => 20 | 213 => 256 | 46 => 258 | 232 => 267 | 233 => 268 | n => n, fun | 17 => 1 | 18 => 5 | 19 => 6 | n => n⟩
open Go.RowKit Go.Sort Go.Lib in
def Tryz.laysM173_ren : Go.Shelf.Ren := ⟨fun | 173 => 179 | 246 => 208 | 283 => 224 | 284 => 225 | 285 => 226 | 286 => 227 | 129 => 237 | 317 => 236 | 318 => 238 | 319 => 239 | 320 => 240 | 337 => 246 | 338 => 247 | n => n, fun | 2 => 2 | 3 => 3 | 9 => 9 | 4 => 4 | 171 => 240 | 0 => 0 | 53 => 210 | 37 => 72 | 5 => 5 | 173 => 243 | 212 => 254 | 51 => 255 | 20 => 20 | 213 => 256 | 46 => 258 | 232 => 267 | 233 => 268 | n => n, fun | 17 => 1 | 18 => 5 | 19 => 6 | n => n⟩
theorem Tryz.laysM173 : Go.Proofs.LaysM.n173 Tryz.prog Tryz.laysM173_ren := {
  mixed := by kernel_rfl
  f129 := Tryz.func237.trans (congrArg some (by kernel_rfl))
  f173 := Tryz.func179.trans (congrArg some (by kernel_rfl))
  f246 := Tryz.func208.trans (congrArg some (by kernel_rfl))
  f283 := Tryz.func224.trans (congrArg some (by kernel_rfl))
  f284 := Tryz.func225.trans (congrArg some (by kernel_rfl))
  f285 := Tryz.func226.trans (congrArg some (by kernel_rfl))
  f286 := Tryz.func227.trans (congrArg some (by kernel_rfl))
  f317 := Tryz.func236.trans (congrArg some (by kernel_rfl))
  f318 := Tryz.func238.trans (congrArg some (by kernel_rfl))
  f319 := Tryz.func239.trans (congrArg some (by kernel_rfl))
  f320 := Tryz.func240.trans (congrArg some (by kernel_rfl))
  f337 := Tryz.func246.trans (congrArg some (by kernel_rfl))
  f338 := Tryz.func247.trans (congrArg some (by kernel_rfl))
  t0 := Tryz.underlying0
  a0 := Tryz.isAgg0
  z0 := Tryz.sizeOf0
  v0 := Tryz.zeroValue0
  t2 := Tryz.underlying2
  a2 := Tryz.isAgg2
  z2 := Tryz.sizeOf2
  v2 := Tryz.zeroValue2
  t3 := Tryz.underlying3
  a3 := Tryz.isAgg3
  z3 := Tryz.sizeOf3
  v3 := Tryz.zeroValue3
  t4 := Tryz.underlying4
  a4 := Tryz.isAgg4
  z4 := Tryz.sizeOf4
  v4 := Tryz.zeroValue4
  t5 := Tryz.underlying5
  a5 := Tryz.isAgg5
  z5 := Tryz.sizeOf5
  v5 := Tryz.zeroValue5
  t9 := Tryz.underlying9
  a9 := Tryz.isAgg9
  z9 := Tryz.sizeOf9
  v9 := Tryz.zeroValue9
  t20 := Tryz.underlying20
  a20 := Tryz.isAgg20
  z20 := Tryz.sizeOf20
  v20 := Tryz.zeroValue20
  t37 := Tryz.underlying72
  a37 := Tryz.isAgg72
  z37 := Tryz.sizeOf72
  v37 := Tryz.zeroValue72
  t46 := Tryz.underlying258
  a46 := Tryz.isAgg258
  z46 := Tryz.sizeOf258
  v46 := Tryz.zeroValue258
  t51 := Tryz.underlying255
  a51 := Tryz.isAgg255
  z51 := Tryz.sizeOf255
  v51 := Tryz.zeroValue255
  t53 := Tryz.underlying210
  a53 := Tryz.isAgg210
  z53 := Tryz.sizeOf210
  v53 := Tryz.zeroValue210
  t171 := Tryz.underlying240
  a171 := Tryz.isAgg240
  z171 := Tryz.sizeOf240
  v171 := Tryz.zeroValue240
  t173 := Tryz.underlying243
  a173 := Tryz.isAgg243
  z173 := Tryz.sizeOf243
  v173 := Tryz.zeroValue243
  t212 := Tryz.underlying254
  a212 := Tryz.isAgg254
  z212 := Tryz.sizeOf254
  v212 := Tryz.zeroValue254
  t213 := Tryz.underlying256
  a213 := Tryz.isAgg256
  z213 := Tryz.sizeOf256
  t232 := Tryz.underlying267
  a232 := Tryz.isAgg267
  z232 := Tryz.sizeOf267
  v232 := Tryz.zeroValue267
  t233 := Tryz.underlying268
  a233 := Tryz.isAgg268
  z233 := Tryz.sizeOf268
  v233 := Tryz.zeroValue268
  g17 := by kernel_rfl
  g18 := by kernel_rfl
  g19 := by kernel_rfl
  i0 := by kernel_rfl
  i2 := by kernel_rfl
  i3 := by kernel_rfl
  i4 := by kernel_rfl
  i5 := by kernel_rfl
  i9 := by kernel_rfl
  i20 := by kernel_rfl
  i37 := by kernel_rfl
  i46 := by kernel_rfl
  i51 := by kernel_rfl
  i53 := by kernel_rfl
  i171 := by kernel_rfl
  i173 := by kernel_rfl
  i212 := by kernel_rfl
  i232 := by kernel_rfl
  i233 := by kernel_rfl
  m17 := by kernel_rfl
  m18 := by kernel_rfl
  m19 := by kernel_rfl }
open Go.RowKit Go.Sort Go.Lib in
/-- strconv.FormatInt: "FormatInt returns the string representation of i in the given base": AT BASE 10: i's decimal numeral, for every int64. (LAID: no walk: one application.) -/
theorem Tryz.strconv_FormatInt_10 (n : Int) (h0 : -9223372036854775808 ≤ n) (h1 : n ≤ 9223372036854775807) (w : World) (htab : Lib.TabIs Tryz.prog w "internal/strconv.uint64pow10" .u64 Lib.pow10Tab) :
    Calls Tryz.prog 179 #[.int .i64 n, .int .i64 10] w fun e w' => e = .returned (.string ⟨(Lib.itoa n).toArray⟩) ∧ ∃ k os, w' = grow (w.drewN k) os := Any.strconv_FormatInt_10 Tryz.laysM173 n h0 h1 w htab
open Go.RowKit Go.Lib in
def Tryz.lays154_ren : Go.Shelf.Ren := ⟨fun | 154 => 209 | 138 => 228 | 165 => 229 | 143 => 230 | 166 => 170 | 197 => 231 | 169 => 27 | 195 => 241 | 218 => 242 | 240 => 207 | 241 => 243 | 219 => 244 | 260 => 245 | 276 => 223 | 277 => 248 | 217 => 210 | 225 => 249 | 224 => 250 | 267 => 251 | 266 => 232 | 314 => 252 | n => n, fun | 9 => 9 | 3 => 3 | 4 => 4 | 72 => 74 | 0 => 0 | 76 => 199 | 105 => 247 | 21 => 21 | 5 => 5 | 70 => 71 | 20 => 20 | 37 => 72 | 75 => 44 | 127 => 149 | 164 => 167 | 46 => 258 | 119 => 263 | 139 => 266 | 138 => 265 | 146 => 269 | 51 => 255 | 80 => 78 | n => n, fun | 1 => 2 | 3 => 3 | 4 => 4 | n => n⟩
open Go.RowKit Go.Lib in
def Tryz.lays155_ren : Go.Shelf.Ren := ⟨fun | 155 => 180 | 154 => 209 | 138 => 228 | 165 => 229 | 143 => 230 | 166 => 170 | 197 => 231 | 169 => 27 | 195 => 241 | 218 => 242 | 240 => 207 | 241 => 243 | 219 => 244 | 260 => 245 | 276 => 223 | 277 => 248 | 217 => 210 | 225 => 249 | 224 => 250 | 267 => 251 | 266 => 232 | 314 => 252 | n => n, fun | 9 => 9 | 3 => 3 | 4 => 4 | 72 => 74 | 0 => 0 | 76 => 199 | 105 => 247 | 21 => 21 | 5 => 5 | 70 => 71 | 20 => 20 | 37 => 72 | 75 => 44 | 127 => 149 | 164 => 167 | 46 => 258 | 119 => 263 | 139 => 266 | 138 => 265 | 146 => 269 | 51 => 255 | 80 => 78 | n => n, fun | 1 => 2 | 3 => 3 | 4 => 4 | n => n⟩
theorem Tryz.lays155 : Go.Proofs.Lays.n155 Tryz.prog Tryz.lays155_ren := {
  mixed := by kernel_rfl
  f138 := Tryz.func228.trans (congrArg some (by kernel_rfl))
  f143 := Tryz.func230.trans (congrArg some (by kernel_rfl))
  f154 := Tryz.func209.trans (congrArg some (by kernel_rfl))
  f155 := Tryz.func180.trans (congrArg some (by kernel_rfl))
  f165 := Tryz.func229.trans (congrArg some (by kernel_rfl))
  f166 := Tryz.func170.trans (congrArg some (by kernel_rfl))
  f169 := Tryz.func27.trans (congrArg some (by kernel_rfl))
  f195 := Tryz.func241.trans (congrArg some (by kernel_rfl))
  f197 := Tryz.func231.trans (congrArg some (by kernel_rfl))
  f217 := Tryz.func210.trans (congrArg some (by kernel_rfl))
  f218 := Tryz.func242.trans (congrArg some (by kernel_rfl))
  f219 := Tryz.func244.trans (congrArg some (by kernel_rfl))
  f224 := Tryz.func250.trans (congrArg some (by kernel_rfl))
  f225 := Tryz.func249.trans (congrArg some (by kernel_rfl))
  f240 := Tryz.func207.trans (congrArg some (by kernel_rfl))
  f241 := Tryz.func243.trans (congrArg some (by kernel_rfl))
  f260 := Tryz.func245.trans (congrArg some (by kernel_rfl))
  f266 := Tryz.func232.trans (congrArg some (by kernel_rfl))
  f267 := Tryz.func251.trans (congrArg some (by kernel_rfl))
  f276 := Tryz.func223.trans (congrArg some (by kernel_rfl))
  f277 := Tryz.func248.trans (congrArg some (by kernel_rfl))
  f314 := Tryz.func252.trans (congrArg some (by kernel_rfl))
  t0 := Tryz.underlying0
  a0 := Tryz.isAgg0
  z0 := Tryz.sizeOf0
  v0 := Tryz.zeroValue0
  t3 := Tryz.underlying3
  a3 := Tryz.isAgg3
  z3 := Tryz.sizeOf3
  v3 := Tryz.zeroValue3
  t4 := Tryz.underlying4
  a4 := Tryz.isAgg4
  z4 := Tryz.sizeOf4
  v4 := Tryz.zeroValue4
  t5 := Tryz.underlying5
  a5 := Tryz.isAgg5
  z5 := Tryz.sizeOf5
  v5 := Tryz.zeroValue5
  t9 := Tryz.underlying9
  a9 := Tryz.isAgg9
  z9 := Tryz.sizeOf9
  v9 := Tryz.zeroValue9
  t20 := Tryz.underlying20
  a20 := Tryz.isAgg20
  z20 := Tryz.sizeOf20
  v20 := Tryz.zeroValue20
  t21 := Tryz.underlying21
  a21 := Tryz.isAgg21
  z21 := Tryz.sizeOf21
  v21 := Tryz.zeroValue21
  t37 := Tryz.underlying72
  a37 := Tryz.isAgg72
  z37 := Tryz.sizeOf72
  v37 := Tryz.zeroValue72
  t46 := Tryz.underlying258
  a46 := Tryz.isAgg258
  z46 := Tryz.sizeOf258
  v46 := Tryz.zeroValue258
  t51 := Tryz.underlying255
  a51 := Tryz.isAgg255
  z51 := Tryz.sizeOf255
  v51 := Tryz.zeroValue255
  t70 := Tryz.underlying71
  a70 := Tryz.isAgg71
  z70 := Tryz.sizeOf71
  v70 := Tryz.zeroValue71
  t72 := Tryz.underlying74
  a72 := Tryz.isAgg74
  z72 := Tryz.sizeOf74
  v72 := Tryz.zeroValue74
  t75 := Tryz.underlying44
  a75 := Tryz.isAgg44
  z75 := Tryz.sizeOf44
  v75 := Tryz.zeroValue44
  t76 := Tryz.underlying199
  a76 := Tryz.isAgg199
  z76 := Tryz.sizeOf199
  v76 := Tryz.zeroValue199
  t105 := Tryz.underlying247
  a105 := Tryz.isAgg247
  z105 := Tryz.sizeOf247
  v105 := Tryz.zeroValue247
  t119 := Tryz.underlying263
  a119 := Tryz.isAgg263
  z119 := Tryz.sizeOf263
  t127 := Tryz.underlying149
  a127 := Tryz.isAgg149
  z127 := Tryz.sizeOf149
  v127 := Tryz.zeroValue149
  t138 := Tryz.underlying265
  a138 := Tryz.isAgg265
  z138 := Tryz.sizeOf265
  v138 := Tryz.zeroValue265
  t139 := Tryz.underlying266
  a139 := Tryz.isAgg266
  z139 := Tryz.sizeOf266
  v139 := Tryz.zeroValue266
  t146 := Tryz.underlying269
  a146 := Tryz.isAgg269
  z146 := Tryz.sizeOf269
  v146 := Tryz.zeroValue269
  t164 := Tryz.underlying167
  a164 := Tryz.isAgg167
  z164 := Tryz.sizeOf167
  v164 := Tryz.zeroValue167
  g1 := by kernel_rfl
  g3 := by kernel_rfl
  g4 := by kernel_rfl }
theorem Tryz.Builder_Extra_155 : Builder.Extra Tryz.prog Tryz.lays155_ren := {
  sizeBuilder := by kernel_rfl
  liesBuilder := by kernel_rfl
  t5 := Tryz.underlying5
  a5 := Tryz.isAgg5
  z5 := Tryz.sizeOf5
  v5 := Tryz.zeroValue5
  infoByte := by kernel_rfl
  cellsByte := by kernel_rfl
  sizeByte := by kernel_rfl
  neB5 := by decide }
open Go.RowKit Go.Lib in
/-- strings.ReplaceAll: "ReplaceAll returns a copy of the string s with all non-overlapping instances of old replaced by new.": AT AN old THAT IS NOT EMPTY: 'Lib.replaceAll s old new'. (LAID: no walk: one application.) -/
theorem Tryz.strings_ReplaceAll (s old new : ByteArray) (m : Int) (w : World) (hs : s.size < 4294967281) (hm : w.cell? ⟨2, 0, none⟩ = some (.int .i64 m)) (h1 : 1 ≤ old.size) (hlen : s.size + Lib.countB s old * new.size ≤ 140737488355328) :
    Calls Tryz.prog 180 #[.string s, .string old, .string new] w fun e w' =>
      e = .returned (.string ⟨(Lib.replaceAll s.data.toList old.data.toList new.data.toList).toArray⟩) ∧ Below w.heap.size w w' := Any.strings_ReplaceAll Tryz.lays155 Tryz.Builder_Extra_155 s old new m w hs hm h1 hlen
end Go.Proofs

/- A value's print: plain law; value.Print: contract. -/
set_option linter.all false
namespace Go.Proofs.YtddedijencleeaaGreatDoor
set_option maxRecDepth 100000
set_option maxHeartbeats 1000000
open Tryz
open Go.RowKit Go.Lib

def dbl (l:List UInt8):List UInt8:=l.flatMap fun b=>if b=39 then [39,39] else [b]
theorem dbl_cons (b:UInt8) (l:List UInt8):dbl (b::l)=(if b=39 then [39,39] else [b])++dbl l:=by
 unfold dbl
 rw [List.flatMap_cons]
theorem replaceK_dbl: ∀ l:List UInt8,Lib.replaceK [39] [39,39] (Lib.count l [39]) l=dbl l
 | []=>by rw [Lib.count_one];rfl
 | b::l=>by
   have ih:=replaceK_dbl l
   rw [dbl_cons, ← ih]
   by_cases hb:b=39
   · subst hb
     rw [if_pos rfl,Lib.count_cons_eq,Nat.add_comm 1,Lib.replaceK_hit [39] [39,39] _ _ 0 (by unfold Lib.index;simp)]
     simp
   · rw [if_neg hb,Lib.count_cons_ne b 39 l hb]
     cases hc:Lib.count l [39] with
     | zero=>rfl
     | succ k=>
       obtain ⟨i,hi⟩:=Lib.index_of_count (s:=l) (old:=[39]) (by omega)
       have hi':Lib.index (b::l) [39]=((i+1:Nat):Int):=by
        have hne:(39==b)=false:=by rw [beq_eq_false_iff_ne];exact fun h=>hb h.symm
        have hq:((i:Int)== -1)=false:=by rw [beq_eq_false_iff_ne];omega
        unfold Lib.index
        rw [hi]
        simp [List.isPrefixOf,hne,hq]
       rw [Lib.replaceK_hit [39] [39,39] k (b::l) (i+1) hi',Lib.replaceK_hit [39] [39,39] k l i hi]
       simp
theorem replaceAll_dbl (l:List UInt8):Lib.replaceAll l [39] [39,39]=dbl l:=by
 unfold Lib.replaceAll Lib.replace
 rw [if_neg (by decide)]
 unfold Lib.replaceNum
 rw [if_pos (.inl (by decide))]
 exact replaceK_dbl l
theorem dbl_len: ∀ l:List UInt8,(dbl l).length≤2*l.length
 | []=>Nat.le_refl _
 | b::l=>by
   have:=dbl_len l
   rw [dbl_cons,List.length_append]
   by_cases hb:b=39
   · rw [if_pos hb];simp;omega
   · rw [if_neg hb];simp;omega
def quotedS (s:ByteArray):ByteArray:=⟨([39]++dbl s.data.toList++[39]).toArray⟩
def Jb (k n:Int) (s:ByteArray):ByteArray:=
 if mayB k n s=false then ⟨#[63]⟩
 else if k=0 then ⟨#[78,85,76,76]⟩
 else if k=1 then (if n=1 then ⟨#[84,82,85,69]⟩ else ⟨#[70,65,76,83,69]⟩)
 else if k=2 then ⟨(Lib.itoa n).toArray⟩
 else quotedS s
def PrW (w : World) : Prop := Lib.TabIs prog w "internal/strconv.uint64pow10" .u64 Lib.pow10Tab ∧ ∃ m, w.cell? ⟨2, 0, none⟩ = some (.int .i64 m)
theorem PrW.below {w w':World} (h:PrW w) (hb:Below w.heap.size w w'):PrW w' :=
 ⟨Lib.tabBelow_of_tabIs h.1 w' hb,by obtain ⟨m,hm⟩:=h.2;exact ⟨m,(hb.cell (p:=⟨2,0,none⟩) (Kz hm)).trans hm⟩⟩
theorem mayB_text {k n:Int} {s:ByteArray} (h:mayB k n s=true) (h0:k≠0) (h1:k≠1) (h2:k≠2):k=3∧s.size≤40:=by
 unfold mayB at h
 rw [if_neg h0,if_neg h1,if_neg h2] at h
 by_cases h3:k=3
 · rw [if_pos h3] at h
   simp only [Bool.and_eq_true,decide_eq_true_eq] at h
   exact ⟨h3,by omega⟩
 rw [if_neg h3] at h;cases h
theorem value_Print (k n:Int) (s:ByteArray) (w:World) (hs:s.size≤9223372036854775807) (hn:KM n) (hp:PrW w) :
 Calls prog 120 #[.agg #[.int .i64 k,.int .i64 n,.string s]] w fun e w'=>e= .returned (.string (Jb k n s))∧Below w.heap.size w w':=by
 have HP:=Qh hp
 clear hp
 have hB0: ∀ o,Below w.heap.size w (w.alloc o):=fun o=>(Below.refl _ _).alloc Qo o
 have HBW:=Qh (hB0 (.cells #[.int .i64 k,.int .i64 n,.string s] 31))
 clear hB0
 have BA:=Blk3.new w 31 (.int .i64 k) (.int .i64 n) (.string s)
 have hI:=fun w=>Qh (value_Is k n s w hs)
 unfold Jb
 cases hm:mayB k n s with
 | false=>
  rw [hm] at hI
  rw [if_pos rfl]
  clear hm
  go_enter func120,ntmps120
  go_wp2_with fail
  refine (Qa (hI _)).mono ?_
  rintro e w1 ⟨rfl,hb1⟩
  replace BA:=BA.below hb1
  obtain ⟨a0,a1,a2,fA⟩:=BA.cells
  replace HBW:=Qh QTQ9
  clear hb1
  go_wp2
  go_ret
  exact ⟨rfl,Qa HBW⟩
 | true=>
  rw [hm] at hI
  rw [if_neg (by decide)]
  by_cases h0:k=0
  · rw [if_pos h0]
    have q0:(k==0)=true:=by simpa using h0
    clear hm h0
    go_enter func120,ntmps120
    go_wp2_with fail
    refine (Qa (hI _)).mono ?_
    rintro e w1 ⟨rfl,hb1⟩
    replace BA:=BA.below hb1
    obtain ⟨a0,a1,a2,fA⟩:=BA.cells
    replace HBW:=Qh QTQ9
    clear hb1
    go_wp2
    go_ret
    exact ⟨rfl,Qa HBW⟩
  rw [if_neg h0]
  have q0:(k==0)=false:=by simpa using h0
  by_cases h1:k=1
  · rw [if_pos h1]
    have q1:(k==1)=true:=by simpa using h1
    by_cases hn1:n=1
    · rw [if_pos hn1]
      have q2:(n==1)=true:=by simpa using hn1
      clear hm h0 h1 hn1
      go_enter func120,ntmps120
      go_wp2_with fail
      refine (Qa (hI _)).mono ?_
      rintro e w1 ⟨rfl,hb1⟩
      replace BA:=BA.below hb1
      obtain ⟨a0,a1,a2,fA⟩:=BA.cells
      replace HBW:=Qh QTQ9
      clear hb1
      go_wp2
      go_ret
      exact ⟨rfl,Qa HBW⟩
    rw [if_neg hn1]
    have q2:(n==1)=false:=by simpa using hn1
    clear hm h0 h1 hn1
    go_enter func120,ntmps120
    go_wp2_with fail
    refine (Qa (hI _)).mono ?_
    rintro e w1 ⟨rfl,hb1⟩
    replace BA:=BA.below hb1
    obtain ⟨a0,a1,a2,fA⟩:=BA.cells
    replace HBW:=Qh QTQ9
    clear hb1
    go_wp2
    go_ret
    exact ⟨rfl,Qa HBW⟩
  rw [if_neg h1]
  have q1:(k==1)=false:=by simpa using h1
  by_cases h2:k=2
  · rw [if_pos h2]
    have q2:(k==2)=true:=by simpa using h2
    clear hm h0 h1 h2
    have HT:=fun W (h:Below w.heap.size w W)=>Qh (Tryz.strconv_FormatInt_10 n hn.1 hn.2 W ((Qa HP).below h).1)
    go_enter func120,ntmps120
    go_wp2_with fail
    refine (Qa (hI _)).mono ?_
    rintro e w1 ⟨rfl,hb1⟩
    replace BA:=BA.below hb1
    obtain ⟨a0,a1,a2,fA⟩:=BA.cells
    replace HBW:=Qh QTQ9
    clear hb1
    go_wp2_with fail
    refine (Qa (HT _ (Qa HBW))).mono ?_
    rintro e w2 ⟨rfl,q,os,rfl⟩
    go_wp2
    go_ret
    exact ⟨rfl,Below.andThen (Qa HBW) (below_grow _ _ Qo _ _)⟩
  rw [if_neg h2]
  have q2:(k==2)=false:=by simpa using h2
  obtain ⟨h3,h40⟩:=mayB_text hm h0 h1 h2
  have HT:=fun W (h:Below w.heap.size w W)=>Qh (by
   obtain ⟨m,hmm⟩:=((Qa HP).below h).2
   exact Tryz.strings_ReplaceAll s ⟨#[39]⟩ ⟨#[39,39]⟩ m W (by omega) hmm (by decide) (by have:=countB_le ⟨#[39]⟩ (by decide) s.size s Qo;have e:(⟨#[39,39]⟩:ByteArray).size=2:=rfl;rw [e];omega))
  obtain ⟨t,ht,ht2,ht3⟩: ∃ t:ByteArray,(⟨(Lib.replaceAll s.data.toList (⟨#[39]⟩:ByteArray).data.toList (⟨#[39,39]⟩:ByteArray).data.toList).toArray⟩:ByteArray)=t∧t.size≤80∧quotedS s=(⟨#[39]⟩:ByteArray)++t++(⟨#[39]⟩:ByteArray):=by
   refine ⟨_,rfl,?_,?_⟩
   · have e:Lib.replaceAll s.data.toList (⟨#[39]⟩:ByteArray).data.toList (⟨#[39,39]⟩:ByteArray).data.toList=dbl s.data.toList:=replaceAll_dbl _
     rw [e]
     have:=dbl_len s.data.toList
     have e2:s.data.toList.length=s.size:=by rw [Array.length_toList];rfl
     show (dbl s.data.toList).toArray.size≤80
     rw [List.size_toArray]
     omega
   have e:Lib.replaceAll s.data.toList (⟨#[39]⟩:ByteArray).data.toList (⟨#[39,39]⟩:ByteArray).data.toList=dbl s.data.toList:=replaceAll_dbl _
   rw [e]
   apply ByteArray.ext
   unfold quotedS
   simp
  rw [ht] at HT
  rw [ht3]
  clear hm h0 h1 h2 h3 ht ht3
  go_enter func120,ntmps120
  go_wp2_with fail
  refine (Qa (hI _)).mono ?_
  rintro e w1 ⟨rfl,hb1⟩
  replace BA:=BA.below hb1
  obtain ⟨a0,a1,a2,fA⟩:=BA.cells
  replace HBW:=Qh QTQ9
  clear hb1
  go_wp2_with fail
  refine (Qa (HT _ (Qa HBW))).mono ?_
  rintro e w2 ⟨rfl,hb2⟩
  replace HBW:=Qh (Below.andThen (Qa HBW) hb2)
  clear hb2
  go_wp2
  go_ret
  exact ⟨rfl,Qa HBW⟩
end Go.Proofs.YtddedijencleeaaGreatDoor

/- The text of an expression and how deep it is: plain. No program's code. -/
set_option linter.all false
namespace Go.Proofs.YtddedijencleeaaGreatDoor
open Go.RowKit Go.Lib RC

def JK:E→Int
 | .no=>0
 | .mk k op vk vn vt tb nm n args pl ty=>k
def vkE:E→Int
 | .no=>0
 | .mk k op vk vn vt tb nm n args pl ty=>vk
def vnE:E→Int
 | .no=>0
 | .mk k op vk vn vt tb nm n args pl ty=>vn
def closedB (k op ak avk avn:Int):Bool:=(ak==3||ak==4||ak==5)||(ak==1&&avk==2&&(decide (avn<0)||(k==3&&op==1)))
def Qs (k op:Int) (a:E):Bool:=closedB k op (JK a) (vkE a) (vnE a)
theorem QF (k op ak aop avk avn:Int) (vt tb nm:ByteArray) (n:Nat) (args:Nat→E) (pl ty:Int):Qs k op (.mk ak aop avk avn vt tb nm n args pl ty)=((ak==3||ak==4||ak==5)||(ak==1&&avk==2&&(decide (avn<0)||(k==3&&op==1)))):=rfl
def Kd (z:Bool) (l:List UInt8):List UInt8:=if z then [40]++(l++[41]) else l
def Qk:Nat→(Nat→List UInt8)→List UInt8
 | 0,_=>[]
 | n+1,f=>Qk n f++((if n=0 then [] else [44,32])++f n)
def Zo:Nat→(Nat→List UInt8)→List UInt8
 | 0,_=>[]
 | m+1,f=>Zo m f++([32,87,72,69,78,32]++(f (2*m)++([32,84,72,69,78,32]++f (2*m+1))))
def ZF:Nat→(Nat→List UInt8)→List UInt8
 | 0,_=>[]
 | n+1,f=>ZF n f++f n
def Ql:Nat→(Nat→Nat)→Nat
 | 0,_=>0
 | n+1,f=>max (Ql n f) (f n)
def signL (op:Int):List UInt8:=
 if op==5 then [61] else if op==6 then [60,62] else if op==7 then [60] else if op==8 then [60,61] else if op==9 then [62] else if op==10 then [62,61] else if op==11 then [43] else if op==12 then [45] else if op==13 then [42] else if op==14 then [47] else if op==15 then [37] else if op==16 then [124,124] else if op==17 then [65,78,68] else [79,82]
def aggL (op:Int):List UInt8:=if op==19 then [67,79,85,78,84] else if op==20 then [83,85,77] else if op==21 then [77,73,78] else [77,65,88]
def Qp (op:Int) (t:List UInt8):List UInt8:=if op==1 then [45,32]++t else if op==2 then [78,79,84,32]++t else if op==3 then t++[32,73,83,32,78,85,76,76] else t++[32,73,83,32,78,79,84,32,78,85,76,76]
def QC (n:Nat) (f:Nat→List UInt8):List UInt8:=[67,65,83,69]++(Zo (n / 2) f++((if n % 2=1 then [32,69,76,83,69,32]++f (n - 1) else [])++[32,69,78,68]))
def QX (op:Int) (n:Nat) (f:Nat→List UInt8):List UInt8:=aggL op++([40]++((if n=0 then [42] else Qk n f)++[41]))
noncomputable def Qg:E→List UInt8
 | .no=>[]
 | .mk k op vk vn vt tb nm n args pl ty=>
   if k==1 then (Jb vk vn vt).data.toList
   else if k==2 then (if QB tb ⟨#[]⟩ then nm.data.toList else tb.data.toList++([46]++nm.data.toList))
   else if k==3 then Qp op (Kd (Qs k op (args 0)) (Qg (args 0)))
   else if k==4 then Kd (Qs k op (args 0)) (Qg (args 0))++([32]++(signL op++([32]++Kd (Qs k op (args 1)) (Qg (args 1)))))
   else if k==5 then Kd (Qs k op (args 0)) (Qg (args 0))++([32,73,78,32]++([40]++(Qk (n - 1) (fun i=>Qg (args (i+1)))++[41])))
   else if k==6 then QC n fun i=>Qg (args i)
   else if k==7 then QX op n fun i=>Qg (args i) else []
def dB (z:Bool) (d:Nat):Nat:=if z then d+1 else d
def Kw (op:Int) (d:Nat):Nat:=if op==1||op==2 then d+1 else d
def QQ:E→Nat
 | .no=>0
 | .mk k op vk vn vt tb nm n args pl ty=>
   if k==3 then Kw op (dB (Qs k op (args 0)) (QQ (args 0)))
   else if k==4 then max (dB (Qs k op (args 0)) (QQ (args 0))) (dB (Qs k op (args 1)) (QQ (args 1)))
   else if k==5 then max (dB (Qs k op (args 0)) (QQ (args 0))) (Ql (n - 1) (fun i=>QQ (args (i+1)))+1)
   else if k==6||k==7 then Ql n (fun i=>QQ (args i))+1
   else 0
theorem Ka (f:Nat→List UInt8):Qk 1 f=f 0:=by simp [Qk]
theorem KV {n i:Nat} {f:Nat→Nat} (h:i<n):f i≤Ql n f:=by
 induction n with
 | zero=>omega
 | succ n ih=>
  rw [Ql]
  by_cases e:i=n
  · subst e;omega
  have:=ih (by omega);omega
theorem JI {n k:Nat} {f:Nat→Nat} (h: ∀ i,i<n→f i≤k):Ql n f≤k:=by
 induction n with
 | zero=>simp [Ql]
 | succ n ih=>
  rw [Ql]
  have:=ih fun i hi=>h i (by omega)
  have:=h n (by omega)
  omega
theorem KT {n k:Nat} {f:Nat→Nat} (h:n≤k):Ql n f≤Ql k f:=JI fun i hi=>KV (by omega)
theorem joinN_mono {n k:Nat} {f:Nat→List UInt8} (h:n≤k):(Qk n f).length≤(Qk k f).length:=by
 induction k with
 | zero=>rw [show n=0 by omega];exact Nat.le_refl _
 | succ k ih=>
  by_cases e:n=k+1
  · rw [e];exact Nat.le_refl _
  rw [Qk,List.length_append]
  have:=ih (by omega)
  omega
theorem casesN_mono {n k:Nat} {f:Nat→List UInt8} (h:n≤k):(Zo n f).length≤(Zo k f).length:=by
 induction k with
 | zero=>rw [show n=0 by omega];exact Nat.le_refl _
 | succ k ih=>
  by_cases e:n=k+1
  · rw [e];exact Nat.le_refl _
  rw [Zo,List.length_append]
  have:=ih (by omega)
  omega
theorem concN_mono {n k:Nat} {f:Nat→List UInt8} (h:n≤k):(ZF n f).length≤(ZF k f).length:=by
 induction k with
 | zero=>rw [show n=0 by omega];exact Nat.le_refl _
 | succ k ih=>
  by_cases e:n=k+1
  · rw [e];exact Nat.le_refl _
  rw [ZF,List.length_append]
  have:=ih (by omega)
  omega
theorem concN_step {n i:Nat} {f:Nat→List UInt8} (hi:i<n):(ZF i f).length+(f i).length≤(ZF n f).length:=by
 have:=concN_mono (f:=f) (show i+1≤n by omega)
 rw [ZF,List.length_append] at this
 exact this
end Go.Proofs.YtddedijencleeaaGreatDoor
