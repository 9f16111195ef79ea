/- lex.sort, run, Name; ref8.Name: one truth. -/
import Derived.Test.YtddedijencleeaaGreatDoorMSq
import Derived.Test.YtddedijencleeaaGreatDoorMGi
import Derived.Test.YtddedijencleeaaGreatDoorMGw
import Derived.Test.YtddedijencleeaaGreatDoorMErrAs
import Derived.WalkSpells
import Derived.WalkLawsBesides
import Derived.Deep.QuietTactic
import Derived.BigQuiet
import Derived.Deep.RegionWith
import Derived.Deep.DeepMust
set_option linter.all false
namespace Go.Proofs.YtddedijencleeaaGreatDoor
set_option maxRecDepth 100000
set_option maxHeartbeats 2000000
open Tryz
open Go.RowKit Go.Lib RC

theorem Qb.sidx {P:Program} {N:Nat} {W:World} {t:TypeId} (hu:P.underlying t=some .string) {s:ByteArray} {i:Nat} {c:UInt8} (h:s.data.toList[i]?=some c):Qb.ok P N W (.ask (Instr.index t (.string s) (.int .i64 i)) (.int .u8 c.toNat)):=fun w _=>by
 have h0:(0:Int)≤(i:Int):=by omega
 have h1:s[i]?=some c:=by
  have:=(List.getElem?_eq_some_iff.1 h)
  obtain ⟨hl,he⟩:=this
  have hl':i<s.size:=by simpa using hl
  rw [getElem?_pos s i hl']
  congr 1
 simp [Instr.index,asIntOf,run_underlying hu,h0,h1]
def bl (x:Nat):Bool:=x==32||x==9||x==10||x==13
def sg (x:Nat):Bool:=x==40||x==41||x==44||x==59||x==46||x==42||x==43||x==45||x==47||x==37||x==61||x==60||x==62||x==124
def Zt (x:Nat):Int:=if bl x then 1 else if x==39 then 4 else if sg x then 5 else if x==95 then 2 else if 97≤x&&x≤122 then 2 else if 65≤x&&x≤90 then 2 else if 48≤x&&x≤57 then 3 else 0
theorem sort_ok (x:Nat) (W:World):Calls prog 131 #[.int .u8 x] W fun r W'=>r= .returned (.int .i64 (Zt x))∧Below W.heap.size W W':=by
 refine Qj (args:=[.int .u8 x]) (c:=Qt f131) func131 rfl (by kernel_rfl) fun a0 hst=> ?_
 obtain ⟨z32,h32⟩: ∃ z,(((x:Nat):Int)==32)=z:=⟨_,rfl⟩
 have E32:=sd W (Qb.intEq (t:=5) (k:=.u8) (a:=((x:Nat):Int)) (b:=32) h32)
 cases z32
 rotate_left
 · obtain rfl:x=32:=by have:=eq_of_beq h32;omega
   exact gE hst (Zg E32) [.int .i64 1] fun w' hw=>⟨by rw [show Zt 32=1 by decide];rfl,hw⟩
 obtain ⟨z9,h9⟩: ∃ z,(((x:Nat):Int)==9)=z:=⟨_,rfl⟩
 have E9:=sd W (Qb.intEq (t:=5) (k:=.u8) (a:=((x:Nat):Int)) (b:=9) h9)
 cases z9
 rotate_left
 · obtain rfl:x=9:=by have:=eq_of_beq h9;omega
   exact gE hst (Km E32 E9) [.int .i64 1] fun w' hw=>⟨by rw [show Zt 9=1 by decide];rfl,hw⟩
 obtain ⟨z10,h10⟩: ∃ z,(((x:Nat):Int)==10)=z:=⟨_,rfl⟩
 have E10:=sd W (Qb.intEq (t:=5) (k:=.u8) (a:=((x:Nat):Int)) (b:=10) h10)
 cases z10
 rotate_left
 · obtain rfl:x=10:=by have:=eq_of_beq h10;omega
   exact gE hst (kE3 E32 E9 E10) [.int .i64 1] fun w' hw=>⟨by rw [show Zt 10=1 by decide];rfl,hw⟩
 obtain ⟨z13,h13⟩: ∃ z,(((x:Nat):Int)==13)=z:=⟨_,rfl⟩
 have E13:=sd W (Qb.intEq (t:=5) (k:=.u8) (a:=((x:Nat):Int)) (b:=13) h13)
 cases z13
 rotate_left
 · obtain rfl:x=13:=by have:=eq_of_beq h13;omega
   exact gE hst (Jf E32 E9 E10 E13) [.int .i64 1] fun w' hw=>⟨by rw [show Zt 13=1 by decide];rfl,hw⟩
 obtain ⟨z39,h39⟩: ∃ z,(((x:Nat):Int)==39)=z:=⟨_,rfl⟩
 have E39:=sd W (Qb.intEq (t:=5) (k:=.u8) (a:=((x:Nat):Int)) (b:=39) h39)
 cases z39
 rotate_left
 · obtain rfl:x=39:=by have:=eq_of_beq h39;omega
   exact gE hst (kE5 E32 E9 E10 E13 E39) [.int .i64 4] fun w' hw=>⟨by rw [show Zt 39=4 by decide];rfl,hw⟩
 obtain ⟨z40,h40⟩: ∃ z,(((x:Nat):Int)==40)=z:=⟨_,rfl⟩
 have E40:=sd W (Qb.intEq (t:=5) (k:=.u8) (a:=((x:Nat):Int)) (b:=40) h40)
 cases z40
 rotate_left
 · obtain rfl:x=40:=by have:=eq_of_beq h40;omega
   exact gE hst (Je E32 E9 E10 E13 E39 E40) [.int .i64 5] fun w' hw=>⟨by rw [show Zt 40=5 by decide];rfl,hw⟩
 obtain ⟨z41,h41⟩: ∃ z,(((x:Nat):Int)==41)=z:=⟨_,rfl⟩
 have E41:=sd W (Qb.intEq (t:=5) (k:=.u8) (a:=((x:Nat):Int)) (b:=41) h41)
 cases z41
 rotate_left
 · obtain rfl:x=41:=by have:=eq_of_beq h41;omega
   exact gE hst (kE7 E32 E9 E10 E13 E39 E40 E41) [.int .i64 5] fun w' hw=>⟨by rw [show Zt 41=5 by decide];rfl,hw⟩
 obtain ⟨z44,h44⟩: ∃ z,(((x:Nat):Int)==44)=z:=⟨_,rfl⟩
 have E44:=sd W (Qb.intEq (t:=5) (k:=.u8) (a:=((x:Nat):Int)) (b:=44) h44)
 cases z44
 rotate_left
 · obtain rfl:x=44:=by have:=eq_of_beq h44;omega
   exact gE hst (kE8 E32 E9 E10 E13 E39 E40 E41 E44) [.int .i64 5] fun w' hw=>⟨by rw [show Zt 44=5 by decide];rfl,hw⟩
 obtain ⟨z59,h59⟩: ∃ z,(((x:Nat):Int)==59)=z:=⟨_,rfl⟩
 have E59:=sd W (Qb.intEq (t:=5) (k:=.u8) (a:=((x:Nat):Int)) (b:=59) h59)
 cases z59
 rotate_left
 · obtain rfl:x=59:=by have:=eq_of_beq h59;omega
   exact gE hst (kE9 E32 E9 E10 E13 E39 E40 E41 E44 E59) [.int .i64 5] fun w' hw=>⟨by rw [show Zt 59=5 by decide];rfl,hw⟩
 obtain ⟨z46,h46⟩: ∃ z,(((x:Nat):Int)==46)=z:=⟨_,rfl⟩
 have E46:=sd W (Qb.intEq (t:=5) (k:=.u8) (a:=((x:Nat):Int)) (b:=46) h46)
 cases z46
 rotate_left
 · obtain rfl:x=46:=by have:=eq_of_beq h46;omega
   exact gE hst (Kr E32 E9 E10 E13 E39 E40 E41 E44 E59 E46) [.int .i64 5] fun w' hw=>⟨by rw [show Zt 46=5 by decide];rfl,hw⟩
 obtain ⟨z42,h42⟩: ∃ z,(((x:Nat):Int)==42)=z:=⟨_,rfl⟩
 have E42:=sd W (Qb.intEq (t:=5) (k:=.u8) (a:=((x:Nat):Int)) (b:=42) h42)
 cases z42
 rotate_left
 · obtain rfl:x=42:=by have:=eq_of_beq h42;omega
   exact gE hst (JD E32 E9 E10 E13 E39 E40 E41 E44 E59 E46 E42) [.int .i64 5] fun w' hw=>⟨by rw [show Zt 42=5 by decide];rfl,hw⟩
 obtain ⟨z43,h43⟩: ∃ z,(((x:Nat):Int)==43)=z:=⟨_,rfl⟩
 have E43:=sd W (Qb.intEq (t:=5) (k:=.u8) (a:=((x:Nat):Int)) (b:=43) h43)
 cases z43
 rotate_left
 · obtain rfl:x=43:=by have:=eq_of_beq h43;omega
   exact gE hst (kE12 E32 E9 E10 E13 E39 E40 E41 E44 E59 E46 E42 E43) [.int .i64 5] fun w' hw=>⟨by rw [show Zt 43=5 by decide];rfl,hw⟩
 obtain ⟨z45,h45⟩: ∃ z,(((x:Nat):Int)==45)=z:=⟨_,rfl⟩
 have E45:=sd W (Qb.intEq (t:=5) (k:=.u8) (a:=((x:Nat):Int)) (b:=45) h45)
 cases z45
 rotate_left
 · obtain rfl:x=45:=by have:=eq_of_beq h45;omega
   exact gE hst (kE13 E32 E9 E10 E13 E39 E40 E41 E44 E59 E46 E42 E43 E45) [.int .i64 5] fun w' hw=>⟨by rw [show Zt 45=5 by decide];rfl,hw⟩
 obtain ⟨z47,h47⟩: ∃ z,(((x:Nat):Int)==47)=z:=⟨_,rfl⟩
 have E47:=sd W (Qb.intEq (t:=5) (k:=.u8) (a:=((x:Nat):Int)) (b:=47) h47)
 cases z47
 rotate_left
 · obtain rfl:x=47:=by have:=eq_of_beq h47;omega
   exact gE hst (kE14 E32 E9 E10 E13 E39 E40 E41 E44 E59 E46 E42 E43 E45 E47) [.int .i64 5] fun w' hw=>⟨by rw [show Zt 47=5 by decide];rfl,hw⟩
 obtain ⟨z37,h37⟩: ∃ z,(((x:Nat):Int)==37)=z:=⟨_,rfl⟩
 have E37:=sd W (Qb.intEq (t:=5) (k:=.u8) (a:=((x:Nat):Int)) (b:=37) h37)
 cases z37
 rotate_left
 · obtain rfl:x=37:=by have:=eq_of_beq h37;omega
   exact gE hst (kE15 E32 E9 E10 E13 E39 E40 E41 E44 E59 E46 E42 E43 E45 E47 E37) [.int .i64 5] fun w' hw=>⟨by rw [show Zt 37=5 by decide];rfl,hw⟩
 obtain ⟨z61,h61⟩: ∃ z,(((x:Nat):Int)==61)=z:=⟨_,rfl⟩
 have E61:=sd W (Qb.intEq (t:=5) (k:=.u8) (a:=((x:Nat):Int)) (b:=61) h61)
 cases z61
 rotate_left
 · obtain rfl:x=61:=by have:=eq_of_beq h61;omega
   exact gE hst (Q7 E32 E9 E10 E13 E39 E40 E41 E44 E59 E46 E42 E43 E45 E47 E37 E61) [.int .i64 5] fun w' hw=>⟨by rw [show Zt 61=5 by decide];rfl,hw⟩
 obtain ⟨z60,h60⟩: ∃ z,(((x:Nat):Int)==60)=z:=⟨_,rfl⟩
 have E60:=sd W (Qb.intEq (t:=5) (k:=.u8) (a:=((x:Nat):Int)) (b:=60) h60)
 cases z60
 rotate_left
 · obtain rfl:x=60:=by have:=eq_of_beq h60;omega
   exact gE hst (kO1 E32 (Q7 E9 E10 E13 E39 E40 E41 E44 E59 E46 E42 E43 E45 E47 E37 E61 E60)) [.int .i64 5] fun w' hw=>⟨by rw [show Zt 60=5 by decide];rfl,hw⟩
 obtain ⟨z62,h62⟩: ∃ z,(((x:Nat):Int)==62)=z:=⟨_,rfl⟩
 have E62:=sd W (Qb.intEq (t:=5) (k:=.u8) (a:=((x:Nat):Int)) (b:=62) h62)
 cases z62
 rotate_left
 · obtain rfl:x=62:=by have:=eq_of_beq h62;omega
   exact gE hst (kO2 E32 E9 (Q7 E10 E13 E39 E40 E41 E44 E59 E46 E42 E43 E45 E47 E37 E61 E60 E62)) [.int .i64 5] fun w' hw=>⟨by rw [show Zt 62=5 by decide];rfl,hw⟩
 obtain ⟨z124,h124⟩: ∃ z,(((x:Nat):Int)==124)=z:=⟨_,rfl⟩
 have E124:=sd W (Qb.intEq (t:=5) (k:=.u8) (a:=((x:Nat):Int)) (b:=124) h124)
 cases z124
 rotate_left
 · obtain rfl:x=124:=by have:=eq_of_beq h124;omega
   exact gE hst (kO3 E32 E9 E10 (Q7 E13 E39 E40 E41 E44 E59 E46 E42 E43 E45 E47 E37 E61 E60 E62 E124)) [.int .i64 5] fun w' hw=>⟨by rw [show Zt 124=5 by decide];rfl,hw⟩
 obtain ⟨z95,h95⟩: ∃ z,(((x:Nat):Int)==95)=z:=⟨_,rfl⟩
 have E95:=sd W (Qb.intEq (t:=5) (k:=.u8) (a:=((x:Nat):Int)) (b:=95) h95)
 cases z95
 rotate_left
 · obtain rfl:x=95:=by have:=eq_of_beq h95;omega
   exact gE hst (kO4 E32 E9 E10 E13 (Q7 E39 E40 E41 E44 E59 E46 E42 E43 E45 E47 E37 E61 E60 E62 E124 E95)) [.int .i64 2] fun w' hw=>⟨by rw [show Zt 95=2 by decide];rfl,hw⟩
 have n1:bl x=false:=by simp [bl] at *;omega
 have n2:sg x=false:=by simp [sg] at *;omega
 have n3:(x==39)=false:=by simp at *;omega
 have n4:(x==95)=false:=by simp at *;omega
 clear h32 h9 h10 h13 h39 h40 h41 h44 h59 h46 h42 h43 h45 h47 h37 h61 h60 h62 h124 h95
 obtain ⟨z97,h97⟩: ∃ z,decide ((97:Int)≤((x:Nat):Int))=z:=⟨_,rfl⟩
 have L97:=sd W (Qb.intGe (t:=5) (k:=.u8) (a:=((x:Nat):Int)) (b:=97) h97)
 obtain ⟨z122,h122⟩: ∃ z,decide (((x:Nat):Int)≤122)=z:=⟨_,rfl⟩
 have L122:=sd W (Qb.intLe (t:=5) (k:=.u8) (a:=((x:Nat):Int)) (b:=122) h122)
 obtain ⟨z65,h65⟩: ∃ z,decide ((65:Int)≤((x:Nat):Int))=z:=⟨_,rfl⟩
 have L65:=sd W (Qb.intGe (t:=5) (k:=.u8) (a:=((x:Nat):Int)) (b:=65) h65)
 obtain ⟨z90,h90⟩: ∃ z,decide (((x:Nat):Int)≤90)=z:=⟨_,rfl⟩
 have L90:=sd W (Qb.intLe (t:=5) (k:=.u8) (a:=((x:Nat):Int)) (b:=90) h90)
 obtain ⟨z48,h48⟩: ∃ z,decide ((48:Int)≤((x:Nat):Int))=z:=⟨_,rfl⟩
 have L48:=sd W (Qb.intGe (t:=5) (k:=.u8) (a:=((x:Nat):Int)) (b:=48) h48)
 obtain ⟨z57,h57⟩: ∃ z,decide (((x:Nat):Int)≤57)=z:=⟨_,rfl⟩
 have L57:=sd W (Qb.intLe (t:=5) (k:=.u8) (a:=((x:Nat):Int)) (b:=57) h57)
 cases z97
 · have m97:(decide (97≤x)&&decide (x≤122))=false:=by simp at *;omega
   cases z65
   · have m65:(decide (65≤x)&&decide (x≤90))=false:=by simp at *;omega
     cases z48
     · have m48:(decide (48≤x)&&decide (x≤57))=false:=by simp at *;omega
       exact gE hst (kO7 E32 E9 E10 E13 E39 E40 E41 (Q7 E44 E59 E46 E42 E43 E45 E47 E37 E61 E60 E62 E124 E95 L97 L65 L48)) [.int .i64 0] fun w' hw=>⟨by rw [Zt,n1,n3,n2,n4,m97,m65,m48];rfl,hw⟩
     cases z57
     · have m48:(decide (48≤x)&&decide (x≤57))=false:=by simp at *;omega
       exact gE hst (kO8 E32 E9 E10 E13 E39 E40 E41 E44 (Q7 E59 E46 E42 E43 E45 E47 E37 E61 E60 E62 E124 E95 L97 L65 L48 L57)) [.int .i64 0] fun w' hw=>⟨by rw [Zt,n1,n3,n2,n4,m97,m65,m48];rfl,hw⟩
     have m48:(decide (48≤x)&&decide (x≤57))=true:=by simp at *;omega
     exact gE hst (kO8 E32 E9 E10 E13 E39 E40 E41 E44 (Q7 E59 E46 E42 E43 E45 E47 E37 E61 E60 E62 E124 E95 L97 L65 L48 L57)) [.int .i64 3] fun w' hw=>⟨by rw [Zt,n1,n3,n2,n4,m97,m65,m48];rfl,hw⟩
   cases z90
   · have m65:(decide (65≤x)&&decide (x≤90))=false:=by simp at *;omega
     cases z48
     · have m48:(decide (48≤x)&&decide (x≤57))=false:=by simp at *;omega
       exact gE hst (kO8 E32 E9 E10 E13 E39 E40 E41 E44 (Q7 E59 E46 E42 E43 E45 E47 E37 E61 E60 E62 E124 E95 L97 L65 L90 L48)) [.int .i64 0] fun w' hw=>⟨by rw [Zt,n1,n3,n2,n4,m97,m65,m48];rfl,hw⟩
     cases z57
     · have m48:(decide (48≤x)&&decide (x≤57))=false:=by simp at *;omega
       exact gE hst (kO9 E32 E9 E10 E13 E39 E40 E41 E44 E59 (Q7 E46 E42 E43 E45 E47 E37 E61 E60 E62 E124 E95 L97 L65 L90 L48 L57)) [.int .i64 0] fun w' hw=>⟨by rw [Zt,n1,n3,n2,n4,m97,m65,m48];rfl,hw⟩
     have m48:(decide (48≤x)&&decide (x≤57))=true:=by simp at *;omega
     exact gE hst (kO9 E32 E9 E10 E13 E39 E40 E41 E44 E59 (Q7 E46 E42 E43 E45 E47 E37 E61 E60 E62 E124 E95 L97 L65 L90 L48 L57)) [.int .i64 3] fun w' hw=>⟨by rw [Zt,n1,n3,n2,n4,m97,m65,m48];rfl,hw⟩
   have m65:(decide (65≤x)&&decide (x≤90))=true:=by simp at *;omega
   exact gE hst (kO7 E32 E9 E10 E13 E39 E40 E41 (Q7 E44 E59 E46 E42 E43 E45 E47 E37 E61 E60 E62 E124 E95 L97 L65 L90)) [.int .i64 2] fun w' hw=>⟨by rw [Zt,n1,n3,n2,n4,m97,m65];rfl,hw⟩
 cases z122
 rotate_left
 · have m97:(decide (97≤x)&&decide (x≤122))=true:=by simp at *;omega
   exact gE hst (kO6 E32 E9 E10 E13 E39 E40 (Q7 E41 E44 E59 E46 E42 E43 E45 E47 E37 E61 E60 E62 E124 E95 L97 L122)) [.int .i64 2] fun w' hw=>⟨by rw [Zt,n1,n3,n2,n4,m97];rfl,hw⟩
 have m97:(decide (97≤x)&&decide (x≤122))=false:=by simp at *;omega
 cases z65
 · have m65:(decide (65≤x)&&decide (x≤90))=false:=by simp at *;omega
   cases z48
   · have m48:(decide (48≤x)&&decide (x≤57))=false:=by simp at *;omega
     exact gE hst (kO8 E32 E9 E10 E13 E39 E40 E41 E44 (Q7 E59 E46 E42 E43 E45 E47 E37 E61 E60 E62 E124 E95 L97 L122 L65 L48)) [.int .i64 0] fun w' hw=>⟨by rw [Zt,n1,n3,n2,n4,m97,m65,m48];rfl,hw⟩
   cases z57
   · have m48:(decide (48≤x)&&decide (x≤57))=false:=by simp at *;omega
     exact gE hst (kO9 E32 E9 E10 E13 E39 E40 E41 E44 E59 (Q7 E46 E42 E43 E45 E47 E37 E61 E60 E62 E124 E95 L97 L122 L65 L48 L57)) [.int .i64 0] fun w' hw=>⟨by rw [Zt,n1,n3,n2,n4,m97,m65,m48];rfl,hw⟩
   have m48:(decide (48≤x)&&decide (x≤57))=true:=by simp at *;omega
   exact gE hst (kO9 E32 E9 E10 E13 E39 E40 E41 E44 E59 (Q7 E46 E42 E43 E45 E47 E37 E61 E60 E62 E124 E95 L97 L122 L65 L48 L57)) [.int .i64 3] fun w' hw=>⟨by rw [Zt,n1,n3,n2,n4,m97,m65,m48];rfl,hw⟩
 cases z90
 · have m65:(decide (65≤x)&&decide (x≤90))=false:=by simp at *;omega
   cases z48
   · have m48:(decide (48≤x)&&decide (x≤57))=false:=by simp at *;omega
     exact gE hst (kO9 E32 E9 E10 E13 E39 E40 E41 E44 E59 (Q7 E46 E42 E43 E45 E47 E37 E61 E60 E62 E124 E95 L97 L122 L65 L90 L48)) [.int .i64 0] fun w' hw=>⟨by rw [Zt,n1,n3,n2,n4,m97,m65,m48];rfl,hw⟩
   cases z57
   · have m48:(decide (48≤x)&&decide (x≤57))=false:=by simp at *;omega
     exact gE hst (kO10 E32 E9 E10 E13 E39 E40 E41 E44 E59 E46 (Q7 E42 E43 E45 E47 E37 E61 E60 E62 E124 E95 L97 L122 L65 L90 L48 L57)) [.int .i64 0] fun w' hw=>⟨by rw [Zt,n1,n3,n2,n4,m97,m65,m48];rfl,hw⟩
   have m48:(decide (48≤x)&&decide (x≤57))=true:=by simp at *;omega
   exact gE hst (kO10 E32 E9 E10 E13 E39 E40 E41 E44 E59 E46 (Q7 E42 E43 E45 E47 E37 E61 E60 E62 E124 E95 L97 L122 L65 L90 L48 L57)) [.int .i64 3] fun w' hw=>⟨by rw [Zt,n1,n3,n2,n4,m97,m65,m48];rfl,hw⟩
 have m65:(decide (65≤x)&&decide (x≤90))=true:=by simp at *;omega
 exact gE hst (kO8 E32 E9 E10 E13 E39 E40 E41 E44 (Q7 E59 E46 E42 E43 E45 E47 E37 E61 E60 E62 E124 E95 L97 L122 L65 L90)) [.int .i64 2] fun w' hw=>⟨by rw [Zt,n1,n3,n2,n4,m97,m65];rfl,hw⟩
def ldB (c:UInt8):Bool:=Zt c.toNat==2||Zt c.toNat==3
theorem run_at {f:UInt8→Bool}: ∀ {l:List UInt8} {k:Nat} {c:UInt8},l[k]?=some c→(∀ (j:Nat) (d:UInt8),j<k→l[j]?=some d→f d=true)→f c=false→(l.takeWhile f).length=k
 | [],k,c,h,_,_=>by simp at h
 | a::l,0,c,h,_,hc=>by
   simp only [List.getElem?_cons_zero,Option.some.injEq] at h
   subst h
   simp [List.takeWhile,hc]
 | a::l,k+1,c,h,ha,hc=>by
   have h0:=ha 0 a (by omega) rfl
   simp only [List.takeWhile,h0,List.length_cons]
   rw [run_at (l:=l) (k:=k) (by simpa using h) (fun j d hj hd=>ha (j+1) d (by omega) (by simpa using hd)) hc]
theorem run_all {f:UInt8→Bool}: ∀ {l:List UInt8},(∀ (j:Nat) (d:UInt8),l[j]?=some d→f d=true)→(l.takeWhile f).length=l.length
 | [],_=>rfl
 | a::l,ha=>by
   have h0:=ha 0 a rfl
   simp only [List.takeWhile,h0,List.length_cons]
   rw [run_all (l:=l) fun j d hd=>ha (j+1) d (by simpa using hd)]
noncomputable abbrev cRu:Code:=Qt f132
noncomputable abbrev nRu:Nat:=f132.ntmps
theorem Kx (s:ByteArray) (hn:s.size≤9223372036854775807) (W:World) :
 Calls prog 132 #[.string s,.bool false] W fun r W'=>r= .returned (.int .i64 ((s.data.toList.takeWhile ldB).length:Nat))∧Below W.heap.size W W':=by
 have hl:s.data.toList.length=s.size:=by simp
 refine Qj (args:=[.string s,.bool false]) (c:=cRu) func132 rfl (by kernel_rfl) fun a0 hst=> ?_
 refine gO cRu (.loop 0) [(8,.v (.int .i64 (0:Nat))),(7,.v (.int .i64 (s.size:Nat))),(0,.v (.string s)),(1,.v (.bool false))] [] hst Zk fun G1 a1 w1 hst1 _=> ?_
 refine Kt cRu 0 (by as_aux_lemma=>kernel_rfl) s.size (fun i a w=>(∃ G,RC.St W.heap.size W nRu [(8,.v (.int .i64 (i:Nat))),(7,.v (.int .i64 (s.size:Nat))),(0,.v (.string s)),(1,.v (.bool false))] [] G a w)∧ ∀ j d,j<i→s.data.toList[j]?=some d→ldB d=true) ⟨⟨_,hst1⟩,fun j d hj=>by omega⟩ (fun i hi a w hG=> ?_) (fun a w hG=> ?_)
 · obtain ⟨⟨G,hs⟩,hall⟩:=hG
   obtain ⟨c,hc⟩: ∃ c,s.data.toList[i]?=some c:=⟨_,List.getElem?_eq_getElem (by omega)⟩
   have T1:=sd W (Qb.ltN (t:=3) (i:=i) (n:=s.size) (z:=true) (by simp;omega))
   have SI:=sd W (Qb.sidx (t:=9) underlying9 hc)
   have SC:Sd W (.call 131 [.int .u8 c.toNat] (.int .i64 (Zt c.toNat))):=Qb.of func131 rfl (by kernel_rfl) (fun w hw=>sort_ok c.toNat w)
   obtain ⟨z2,h2⟩: ∃ z,(Zt c.toNat==2)=z:=⟨_,rfl⟩
   have E2:=QN W h2
   obtain ⟨z3,h3⟩: ∃ z,(Zt c.toNat==3)=z:=⟨_,rfl⟩
   have E3:=QN W h3
   have GN:=sd W (Qb.inc (t:=3) (i:=i) (by omega))
   have next:(z2||z3)=true→ ∀ j d,j<i+1→s.data.toList[j]?=some d→ldB d=true:=fun hz j d hj hd=>by
    by_cases e:j=i
    · subst e
      rw [hc] at hd
      cases hd
      rw [ldB,h2,h3];exact hz
    exact hall j d (by omega) hd
   cases z2 with
   | true=>exact goK .fin (k':=[]) (e:=.nrm) [(8,.v (.int .i64 ((i+1:Nat):Int))),(7,.v (.int .i64 (s.size:Nat))),(0,.v (.string s)),(1,.v (.bool false))] hs (kE5 T1 SI SC E2 GN) (by as_aux_lemma=>kernel_rfl) fun G2 a2 w2 h2 _=>⟨⟨G2,h2⟩,next rfl⟩
   | false=>cases z3 with
     | true=>exact goK .fin (k':=[]) (e:=.nrm) [(8,.v (.int .i64 ((i+1:Nat):Int))),(7,.v (.int .i64 (s.size:Nat))),(0,.v (.string s)),(1,.v (.bool false))] hs (Je T1 SI SC E2 E3 GN) (by as_aux_lemma=>kernel_rfl) fun G2 a2 w2 h2 _=>⟨⟨G2,h2⟩,next rfl⟩
     | false=>
       have hr:(s.data.toList.takeWhile ldB).length=i:=run_at hc hall (by rw [ldB,h2,h3];rfl)
       exact goN .fin [(4,.v (.int .i64 (i:Nat)))] hs (kE5 T1 SI SC E2 E3) (e:=.ret) (k':=[]) (by as_aux_lemma=>kernel_rfl) fun bs9 g9 a9 w9 hst=>Ki (QS hst (vs:=[.v (.int .i64 (i:Nat))]) (by kernel_rfl) ⟨by rw [hr];rfl,hst.rp.below⟩)
 obtain ⟨⟨G,hs⟩,hall⟩:=hG
 have T1:=sd W (Qb.ltN (t:=3) (i:=s.size) (n:=s.size) (z:=false) (by simp))
 have hr:(s.data.toList.takeWhile ldB).length=s.size:=by
  rw [run_all (fun j d hd=>hall j d (by have:=(List.getElem?_eq_some_iff.1 hd).1;omega) hd),hl]
 exact goK .fin (k':=[]) (e:=.ex 0) [(0,.v (.string s))] hs (Zg T1) (by as_aux_lemma=>kernel_rfl) fun G2 a2 w2 h2 _=>brk (gE h2 Zk [.int .i64 (s.size:Nat)] fun w' hw=>⟨by rw [hr];rfl,hw⟩)
theorem small_ok (s:ByteArray) (h0:0<s.size) (hs:s.size≤20) (W:World):Calls prog 133 #[.string s] W fun r W'=>r= .returned (.string (mapB ZI s))∧Below W.heap.size W W':=by
 have SC:Sd W (.call 187 [.string s,.int .u8 65,.int .i64 32] (.string (mapB ZI s))):=Qb.of func187 rfl (by kernel_rfl) (fun w hw=>turned_small s h0 hs w)
 refine Qj (args:=[.string s]) (c:=Qt f133) func133 rfl (by kernel_rfl) fun a0 hst=> ?_
 exact gE hst (Zg SC) [.string (mapB ZI s)] fun w' hw=>⟨rfl,hw⟩
theorem great_ok (s:ByteArray) (h0:0<s.size) (hs:s.size≤20) (W:World):Calls prog 136 #[.string s] W fun r W'=>r= .returned (.string (mapB Zj s))∧Below W.heap.size W W':=by
 have SC:Sd W (.call 187 [.string s,.int .u8 97,.int .i64 (-32)] (.string (mapB Zj s))):=Qb.of func187 rfl (by kernel_rfl) (fun w hw=>turned_great s h0 hs w)
 refine Qj (args:=[.string s]) (c:=Qt f136) func136 rfl (by kernel_rfl) fun a0 hst=> ?_
 exact gE hst (Zg SC) [.string (mapB Zj s)] fun w' hw=>⟨rfl,hw⟩
theorem bytes_at {s:ByteArray} (h:0<s.size): ∃ c,s.data.toList[0]?=some c:=⟨_,List.getElem?_eq_getElem (by simpa using h)⟩
theorem empty_of {s:ByteArray} (h:QB s ⟨#[]⟩=false):0<s.size:=by
 cases hs:s.size with
 | succ n=>omega
 | zero=>
  exfalso
  have:s=⟨#[]⟩:=by
   obtain ⟨d⟩:=s
   have:d= #[]:=Array.eq_empty_of_size_eq_zero hs
   rw [this]
  rw [this,Z9] at h
  cases h
noncomputable def QD (s:ByteArray):Bool:=
 !(QB s ⟨#[]⟩)&&decide (s.size≤20)&&(Zt (s.data.toList.headD 0).toNat==2)&&((s.data.toList.takeWhile ldB).length==s.size)&&QB s (mapB ZI s)&& !(anyN 49 fun i=>QB (mapB Zj s) (ZV.getD i ⟨#[]⟩))
noncomputable abbrev cNa:Code:=Qt f44
theorem Z4 (s:ByteArray) (hn:s.size≤9223372036854775807) (W:World) :
 Calls prog 44 #[.string s] W fun r W'=>r= .returned (.bool (QD s))∧Below W.heap.size W W':=by
 refine Qj (args:=[.string s]) (c:=cNa) func44 rfl (by kernel_rfl) fun a0 hst=> ?_
 obtain ⟨z1,h1⟩: ∃ z,QB s ⟨#[]⟩=z:=⟨_,rfl⟩
 have N1:=sd W (Qb.strNe (t:=9) (a:=s) (b:=⟨#[]⟩) (z:= !z1) (by rw [← h1];rfl))
 cases z1
 rotate_left
 · exact gE hst (Zg N1) [.bool false] fun w' hw=>⟨by rw [QD,h1];rfl,hw⟩
 have h0:=empty_of h1
 obtain ⟨z2,h2⟩: ∃ z,decide (s.size≤20)=z:=⟨_,rfl⟩
 have L1:=sd W (Qb.intLe (t:=3) (k:=.i64) (a:=((s.size:Nat):Int)) (b:=20) (z:=z2) (by rw [← h2];simp;omega))
 cases z2
 · exact gE hst (Km N1 L1) [.bool false] fun w' hw=>⟨by rw [QD,h2];simp;rfl,hw⟩
 have h20:s.size≤20:=by simpa using h2
 obtain ⟨c,hc⟩:=bytes_at h0
 have hh:s.data.toList.headD 0=c:=by
  cases hd:s.data.toList with
  | nil=>rw [hd] at hc;cases hc
  | cons x l=>rw [hd] at hc;simpa using hc
 have I1:=sd W (Qb.sidx (t:=9) underlying9 hc)
 have SC:Sd W (.call 131 [.int .u8 c.toNat] (.int .i64 (Zt c.toNat))):=Qb.of func131 rfl (by kernel_rfl) (fun w hw=>sort_ok c.toNat w)
 obtain ⟨z3,h3⟩: ∃ z,(Zt c.toNat==2)=z:=⟨_,rfl⟩
 have E1:=QN W h3
 cases z3
 · exact gE hst (kE5 N1 L1 I1 SC E1) [.bool false] fun w' hw=>⟨by rw [QD,hh,h3];simp;rfl,hw⟩
 obtain ⟨n,hr⟩: ∃ n,(s.data.toList.takeWhile ldB).length=n:=⟨_,rfl⟩
 have RC1:Sd W (.call 132 [.string s,.bool false] (.int .i64 (n:Nat))):=by
  rw [← hr]
  exact Qb.of func132 rfl (by kernel_rfl) (fun w hw=>Kx s hn w)
 obtain ⟨z4,h4⟩: ∃ z,(n==s.size)=z:=⟨_,rfl⟩
 have E2:=sd W (Qb.intEq (t:=3) (k:=.i64) (a:=((n:Nat):Int)) (b:=((s.size:Nat):Int)) (z:=z4) (by rw [← h4,Bool.eq_iff_iff];simp;omega))
 cases z4
 · exact gE hst (kE7 N1 L1 I1 SC E1 RC1 E2) [.bool false] fun w' hw=>⟨by rw [QD,hr,h4];simp;rfl,hw⟩
 have SM:Sd W (.call 133 [.string s] (.string (mapB ZI s))):=Qb.of func133 rfl (by kernel_rfl) (fun w hw=>small_ok s h0 h20 w)
 obtain ⟨z5,h5⟩: ∃ z,QB s (mapB ZI s)=z:=⟨_,rfl⟩
 have E3:=sd W (Qb.strEq (t:=9) (a:=s) (b:=mapB ZI s) (z:=z5) (by rw [← h5];rfl))
 cases z5
 · exact gE hst (kE9 N1 L1 I1 SC E1 RC1 E2 SM E3) [.bool false] fun w' hw=>⟨by rw [QD,h5];simp;rfl,hw⟩
 have GR:Sd W (.call 136 [.string s] (.string (mapB Zj s))):=Qb.of func136 rfl (by kernel_rfl) (fun w hw=>great_ok s h0 h20 w)
 have WD:=sd W (Qb.one (f:=135) (args:=[]) (q:=fun w u=>ZD w 49 (fun i=>ZV.getD i ⟨#[]⟩) u) (fun W1 W2 u hs h=>h.sub hs) func135 rfl (by kernel_rfl) (fun w u h=>QR.one h) (fun w hw=>words_lex w))
 obtain ⟨z6,h6⟩: ∃ z,(anyN 49 fun i=>QB (mapB Zj s) (ZV.getD i ⟨#[]⟩))=z:=⟨_,rfl⟩
 have CT:Sd W (.callR 134 [.x 0 0,.v (.string (mapB Zj s))] [(0,Zp.unk 1 (po1 (fun w u=>ZD w 49 (fun i=>ZV.getD i ⟨#[]⟩) u) (fun W1 W2 u hs h=>h.sub hs)))] (.bool z6)):=by
  rw [← h6]
  refine ⟨⟨_,_,func134,rfl,by kernel_rfl⟩,fun G w hw hk=> ?_⟩
  obtain ⟨l1,u,k1,k2⟩:=Knows.mem (i:=0) (m:=1) hk (List.mem_cons_self ..)
  have:=contains_string k2 (mapB Zj s)
  simp only [Qu,RV.conc,k1]
  exact this
 exact gE hst (kE12 N1 L1 I1 SC E1 RC1 E2 SM E3 WD GR CT) [.bool (!z6)] fun w' hw=>⟨by rw [QD,h1,h2,hh,h3,hr,h4,h5,h6];rfl,hw⟩
end Go.Proofs.YtddedijencleeaaGreatDoor

/- ref8.Name: contract; the same truth as lex.Name's. -/
set_option linter.all false
namespace Go.Proofs.YtddedijencleeaaGreatDoor
set_option maxRecDepth 100000
set_option maxHeartbeats 2000000
open Tryz
open Go.RowKit Go.Lib RC

def digB (x:Nat):Bool:=decide (48≤x)&&decide (x≤57)
theorem digit_ok (x:Nat) (W:World):Calls prog 127 #[.int .u8 x] W fun r W'=>r= .returned (.bool (digB x))∧Below W.heap.size W W':=by
 refine Qj (args:=[.int .u8 x]) (c:=Qt f127) func127 rfl (by kernel_rfl) fun a0 hst=> ?_
 obtain ⟨z1,h1⟩: ∃ z,decide (48≤x)=z:=⟨_,rfl⟩
 obtain ⟨z2,h2⟩: ∃ z,decide (x≤57)=z:=⟨_,rfl⟩
 have L1:=sd W (Qb.intGe (t:=5) (k:=.u8) (a:=((x:Nat):Int)) (b:=48) (z:=z1) (by rw [← h1,Bool.eq_iff_iff,decide_eq_true_iff,decide_eq_true_iff];omega))
 have L2:=sd W (Qb.intLe (t:=5) (k:=.u8) (a:=((x:Nat):Int)) (b:=57) (z:=z2) (by rw [← h2,Bool.eq_iff_iff,decide_eq_true_iff,decide_eq_true_iff];omega))
 cases z1
 · exact gE hst (Zg L1) [.bool false] fun w' hw=>⟨by rw [digB,h1];rfl,hw⟩
 exact gE hst (Km L1 L2) [.bool z2] fun w' hw=>⟨by rw [digB,h1,h2];rfl,hw⟩
def okU (c:UInt8):Bool:= !((decide (c.toNat<97)||decide (122<c.toNat))&& !(digB c.toNat)&& !(c.toNat==95))
noncomputable def nameR (s:ByteArray):Bool:=
 !(decide (s.size<1))&& !(decide (20<s.size))&& !(digB (s.data.toList.headD 0).toNat)&& !(anyN 49 fun i=>QB (mapB Zj s) (ZV.getD i ⟨#[]⟩))&&Zd s.size fun i=>okU (s.data.toList.getD i 0)
noncomputable abbrev cN8:Code:=Qt f37
theorem ZR (s:ByteArray) (hn:s.size≤9223372036854775807) (W:World) :
 Calls prog 37 #[.string s] W fun r W'=>r= .returned (.bool (nameR s))∧Below W.heap.size W W':=by
 refine Qj (args:=[.string s]) (c:=cN8) func37 rfl (by kernel_rfl) fun a0 hst=> ?_
 obtain ⟨z1,h1⟩: ∃ z,decide (s.size<1)=z:=⟨_,rfl⟩
 have N1:=sd W (Qb.intLt (t:=3) (k:=.i64) (a:=((s.size:Nat):Int)) (b:=1) (z:=z1) (by rw [← h1,Bool.eq_iff_iff,decide_eq_true_iff,decide_eq_true_iff];omega))
 cases z1
 rotate_left
 · exact gE hst (Zg N1) [.bool false] fun w' hw=>⟨by rw [nameR,h1];rfl,hw⟩
 have h0:0<s.size:=by have:=of_decide_eq_false h1;omega
 obtain ⟨z2,h2⟩: ∃ z,decide (20<s.size)=z:=⟨_,rfl⟩
 have L1:=sd W (Qb.intGt (t:=3) (k:=.i64) (a:=((s.size:Nat):Int)) (b:=20) (z:=z2) (by rw [← h2,Bool.eq_iff_iff,decide_eq_true_iff,decide_eq_true_iff];omega))
 cases z2
 rotate_left
 · exact gE hst (Km N1 L1) [.bool false] fun w' hw=>⟨by rw [nameR,h2];simp;rfl,hw⟩
 have h20:s.size≤20:=by have:=of_decide_eq_false h2;omega
 obtain ⟨c,hc⟩:=bytes_at h0
 have hh:s.data.toList.headD 0=c:=by
  cases hd:s.data.toList with
  | nil=>rw [hd] at hc;cases hc
  | cons x l=>rw [hd] at hc;simpa using hc
 have I1:=sd W (Qb.sidx (t:=9) underlying9 hc)
 obtain ⟨z3,h3⟩: ∃ z,digB c.toNat=z:=⟨_,rfl⟩
 have DG:Sd W (.call 127 [.int .u8 c.toNat] (.bool z3)):=by
  rw [← h3]
  exact Qb.of func127 rfl (by kernel_rfl) (fun w hw=>digit_ok c.toNat w)
 cases z3
 rotate_left
 · exact gE hst (Jf N1 L1 I1 DG) [.bool false] fun w' hw=>⟨by rw [nameR,hh,h3];simp;rfl,hw⟩
 have CA:Sd W (.call 129 [.string s,.bool true] (.string (mapB Zj s))):=Qb.of func129 rfl (by kernel_rfl) (fun w hw=>cased_great s h0 h20 w)
 obtain ⟨z4,h4⟩: ∃ z,(anyN 49 fun i=>QB (mapB Zj s) (ZV.getD i ⟨#[]⟩))=z:=⟨_,rfl⟩
 have IW:Sd W (.call 128 [.string (mapB Zj s)] (.bool z4)):=by
  rw [← h4]
  exact Qb.of func128 rfl (by kernel_rfl) (fun w hw=>isWord_ok w _)
 cases z4
 rotate_left
 · exact gE hst (Je N1 L1 I1 DG CA IW) [.bool false] fun w' hw=>⟨by rw [nameR,h4];simp;rfl,hw⟩
 refine gO cN8 (.loop 0) [(3,.v (.int .i64 (0:Nat))),(0,.v (.string s)),(2,.v (.bool false))] [] hst (Je N1 L1 I1 DG CA IW) fun G1 a1 w1 hst1 _=> ?_
 refine Kf cN8 0 3 2 3 s.size (fun i=>okU (s.data.toList.getD i 0)) (.bool false) hn (by as_aux_lemma=>kernel_rfl) hst1 (fun i hi hq=> ?_) (fun i hi hq=> ?_) (by as_aux_lemma=>kernel_rfl) rfl (by kernel_rfl) (fun i hi hq bs9 g9 a9 w9 hst=>QS hst (vs:=[.v (.bool false)]) (by kernel_rfl) ⟨by rw [nameR,Qw (r:=fun i=>okU (s.data.toList.getD i 0)) hi hq,Bool.and_false];rfl,hst.rp.below⟩) fun hl g2 a2 w2 hstG=> ?_
 · obtain ⟨c,hc⟩: ∃ c,s.data.toList[i]?=some c:=⟨_,List.getElem?_eq_getElem (by simpa using hi)⟩
   have hg:s.data.toList.getD i 0=c:=by rw [List.getD_eq_getElem?_getD,hc];rfl
   simp only [hg] at hq
   have I:=sd W (Qb.sidx (t:=9) underlying9 hc)
   obtain ⟨z1,h1⟩: ∃ z,decide (c.toNat<97)=z:=⟨_,rfl⟩
   have A1:=sd W (Qb.intLt (t:=5) (k:=.u8) (a:=((c.toNat:Nat):Int)) (b:=97) (z:=z1) (by rw [← h1,Bool.eq_iff_iff,decide_eq_true_iff,decide_eq_true_iff];omega))
   obtain ⟨z2,h2⟩: ∃ z,decide (122<c.toNat)=z:=⟨_,rfl⟩
   have A2:=sd W (Qb.intGt (t:=5) (k:=.u8) (a:=((c.toNat:Nat):Int)) (b:=122) (z:=z2) (by rw [← h2,Bool.eq_iff_iff,decide_eq_true_iff,decide_eq_true_iff];omega))
   obtain ⟨z3,h3⟩: ∃ z,digB c.toNat=z:=⟨_,rfl⟩
   have D:Sd W (.call 127 [.int .u8 c.toNat] (.bool z3)):=by
    rw [← h3]
    exact Qb.of func127 rfl (by kernel_rfl) (fun w hw=>digit_ok c.toNat w)
   obtain ⟨z4,h4⟩: ∃ z,(c.toNat==95)=z:=⟨_,rfl⟩
   have U:=sd W (Qb.intNe (t:=5) (k:=.u8) (a:=((c.toNat:Nat):Int)) (b:=95) (z:= !z4) (by rw [← h4];simp [bne];rw [Bool.eq_iff_iff];simp;omega))
   simp only [okU,h1,h2,h3,h4] at hq
   cases z1 <;> cases z2 <;> cases z3 <;> cases z4
   · exact ⟨_,(Jf I A1 I A2),by as_aux_lemma=>kernel_rfl⟩
   · exact ⟨_,(Jf I A1 I A2),by as_aux_lemma=>kernel_rfl⟩
   · exact ⟨_,(Jf I A1 I A2),by as_aux_lemma=>kernel_rfl⟩
   · exact ⟨_,(Jf I A1 I A2),by as_aux_lemma=>kernel_rfl⟩
   · cases hq
   · exact ⟨_,(kE8 I A1 I A2 I D I U),by as_aux_lemma=>kernel_rfl⟩
   · exact ⟨_,(Je I A1 I A2 I D),by as_aux_lemma=>kernel_rfl⟩
   · exact ⟨_,(Je I A1 I A2 I D),by as_aux_lemma=>kernel_rfl⟩
   · cases hq
   · exact ⟨_,(Je I A1 I D I U),by as_aux_lemma=>kernel_rfl⟩
   · exact ⟨_,(Jf I A1 I D),by as_aux_lemma=>kernel_rfl⟩
   · exact ⟨_,(Jf I A1 I D),by as_aux_lemma=>kernel_rfl⟩
   · cases hq
   · exact ⟨_,(Je I A1 I D I U),by as_aux_lemma=>kernel_rfl⟩
   · exact ⟨_,(Jf I A1 I D),by as_aux_lemma=>kernel_rfl⟩
   exact ⟨_,(Jf I A1 I D),by as_aux_lemma=>kernel_rfl⟩
 · obtain ⟨c,hc⟩: ∃ c,s.data.toList[i]?=some c:=⟨_,List.getElem?_eq_getElem (by simpa using hi)⟩
   have hg:s.data.toList.getD i 0=c:=by rw [List.getD_eq_getElem?_getD,hc];rfl
   simp only [hg] at hq
   have I:=sd W (Qb.sidx (t:=9) underlying9 hc)
   obtain ⟨z1,h1⟩: ∃ z,decide (c.toNat<97)=z:=⟨_,rfl⟩
   have A1:=sd W (Qb.intLt (t:=5) (k:=.u8) (a:=((c.toNat:Nat):Int)) (b:=97) (z:=z1) (by rw [← h1,Bool.eq_iff_iff,decide_eq_true_iff,decide_eq_true_iff];omega))
   obtain ⟨z2,h2⟩: ∃ z,decide (122<c.toNat)=z:=⟨_,rfl⟩
   have A2:=sd W (Qb.intGt (t:=5) (k:=.u8) (a:=((c.toNat:Nat):Int)) (b:=122) (z:=z2) (by rw [← h2,Bool.eq_iff_iff,decide_eq_true_iff,decide_eq_true_iff];omega))
   obtain ⟨z3,h3⟩: ∃ z,digB c.toNat=z:=⟨_,rfl⟩
   have D:Sd W (.call 127 [.int .u8 c.toNat] (.bool z3)):=by
    rw [← h3]
    exact Qb.of func127 rfl (by kernel_rfl) (fun w hw=>digit_ok c.toNat w)
   obtain ⟨z4,h4⟩: ∃ z,(c.toNat==95)=z:=⟨_,rfl⟩
   have U:=sd W (Qb.intNe (t:=5) (k:=.u8) (a:=((c.toNat:Nat):Int)) (b:=95) (z:= !z4) (by rw [← h4];simp [bne];rw [Bool.eq_iff_iff];simp;omega))
   simp only [okU,h1,h2,h3,h4] at hq
   cases z1 <;> cases z2 <;> cases z3 <;> cases z4
   · cases hq
   · cases hq
   · cases hq
   · cases hq
   · exact ⟨_,(kE8 I A1 I A2 I D I U),by as_aux_lemma=>kernel_rfl⟩
   · cases hq
   · cases hq
   · cases hq
   · exact ⟨_,(Je I A1 I D I U),by as_aux_lemma=>kernel_rfl⟩
   · cases hq
   · cases hq
   · cases hq
   · exact ⟨_,(Je I A1 I D I U),by as_aux_lemma=>kernel_rfl⟩
   · cases hq
   · cases hq
   cases hq
 have hal:Zd s.size (fun i=>okU (s.data.toList.getD i 0))=true:=Qx.2 hl
 exact gE hstG Zk [.bool true] fun w' hw=>⟨by rw [nameR,h1,h2,hh,h3,h4,hal];rfl,hw⟩
end Go.Proofs.YtddedijencleeaaGreatDoor

/- Names: the program's truth and the document's are one. Plain. -/
set_option linter.all false
namespace Go.Proofs.YtddedijencleeaaGreatDoor
open Go.RowKit Go.Lib RC

theorem strB_iff (s t:ByteArray):QB s t=true ↔ s.data.toList=t.data.toList:=by
 unfold QB
 rw [beq_iff_eq,Go.ByteArray.toList_eq,Go.ByteArray.toList_eq]
theorem byte_all {p:UInt8→Bool} (h:(List.range 256).all (fun n=>p (UInt8.ofNat n))=true) (c:UInt8):p c=true:=by
 have:=List.all_eq_true.1 h c.toNat (List.mem_range.2 c.toNat_lt)
 simpa using this
theorem byte_ok (c:UInt8):(ldB c&&(ZI c==c))=okU c:=by
 have:=byte_all (p:=fun c=>(ldB c&&(ZI c==c))==okU c) (by decide +kernel) c
 simpa using this
theorem byte_first (c:UInt8) (h:okU c=true):(Zt c.toNat==2)= !(digB c.toNat):=by
 have:=byte_all (p:=fun c=> !(okU c)||((Zt c.toNat==2)== !(digB c.toNat))) (by decide +kernel) c
 simp only [h,Bool.not_true,Bool.false_or,beq_iff_eq] at this
 exact this
theorem map_same {f:UInt8→UInt8}: ∀ {l:List UInt8},l=l.map f ↔ ∀ c ∈ l,f c=c
 | []=>by simp
 | a::l=>by
   simp only [List.map_cons,List.cons.injEq,List.mem_cons,forall_eq_or_imp,map_same (l:=l)]
   exact ⟨fun h=>⟨h.1.symm,h.2⟩,fun h=>⟨h.1.symm,h.2⟩⟩
theorem takeAll {f:UInt8→Bool}: ∀ {l:List UInt8},(l.takeWhile f).length=l.length ↔ ∀ c ∈ l,f c=true
 | []=>by simp
 | a::l=>by
   cases h:f a with
   | false=>simp [List.takeWhile,h]
   | true=>simp [List.takeWhile,h,takeAll (l:=l)]
theorem KK (s:ByteArray):nameR s=QD s:=by
 obtain ⟨l,hl⟩: ∃ l,s.data.toList=l:=⟨_,rfl⟩
 have hn:s.size=l.length:=by rw [← hl];simp
 have h1:QB s ⟨#[]⟩=decide (l.length<1):=by
  rw [Bool.eq_iff_iff,strB_iff,hl,decide_eq_true_iff]
  cases l <;> simp
 have h2:decide (s.size≤20)= !(decide (20<l.length)):=by
  rw [hn,Bool.eq_iff_iff];simp
 have h3:((l.takeWhile ldB).length==l.length)=l.all ldB:=by
  rw [Bool.eq_iff_iff,beq_iff_eq,takeAll,List.all_eq_true]
 have h4:QB s (mapB ZI s)=l.all (fun c=>ZI c==c):=by
  rw [Bool.eq_iff_iff,strB_iff,List.all_eq_true]
  simp only [mapB,hl,List.toList_toArray,map_same,beq_iff_eq]
 have h5:(l.all ldB&&l.all (fun c=>ZI c==c))=l.all okU:=by
  rw [Bool.eq_iff_iff,Bool.and_eq_true,List.all_eq_true,List.all_eq_true,List.all_eq_true]
  constructor
  · intro h c hc
    rw [← byte_ok,h.1 c hc,h.2 c hc];rfl
  intro h
  refine ⟨fun c hc=> ?_,fun c hc=> ?_⟩ <;> have:=h c hc <;> rw [← byte_ok,Bool.and_eq_true] at this
  · exact this.1
  exact this.2
 have h6:Zd l.length (fun i=>okU (l.getD i 0))=l.all okU:=by
  rw [Bool.eq_iff_iff,Qx,List.all_eq_true]
  constructor
  · intro h c hc
    obtain ⟨i,hi,rfl⟩:=List.getElem_of_mem hc
    have:=h i hi
    rwa [List.getD_eq_getElem?_getD,List.getElem?_eq_getElem hi] at this
  intro h i hi
  rw [List.getD_eq_getElem?_getD,List.getElem?_eq_getElem hi]
  exact h _ (List.getElem_mem hi)
 unfold nameR QD
 rw [h1,h2,hl,hn,h3,h4,h6]
 generalize (anyN 49 fun i=>QB (mapB Zj s) (ZV.getD i ⟨#[]⟩))=W
 rw [← h5]
 cases l with
 | nil=>rfl
 | cons c l=>
  simp only [List.headD_cons]
  cases ha:(c::l).all ldB with
  | false=>simp
  | true=>cases hb:(c::l).all (fun c=>ZI c==c) with
    | false=>simp
    | true=>
      have hok:okU c=true:=by
       have:=List.all_eq_true.1 (h5.symm.trans (by rw [ha,hb];rfl)) c (List.mem_cons_self ..)
       exact this
      rw [byte_first c hok]
      cases digB c.toNat <;> cases W <;> simp
end Go.Proofs.YtddedijencleeaaGreatDoor

/- Package value, its small functions: walks. -/
namespace Go.Proofs.YtddedijencleeaaGreatDoor
open Tryz
open Go.RowKit

theorem stringslite_IndexByte (s:ByteArray) (c:Int) (w:World):Calls prog 210 #[.string s,.int .u8 c] w fun e w'=>e= .returned (.int .i64 (firstIdx s c.toNat.toUInt8))∧w=w':=by
 have h68:= @run_callFunc_extern prog 232 _ (Extern.BytealgIndexByte.indexByte) func232 (by kernel_rfl) (by kernel_rfl) (by kernel_rfl) (by kernel_rfl)
 have hi:=fun w=> @run_indexByte_string prog s c w
 go_enter func210,ntmps210
 go_wp2
 go_ret
 exact ⟨rfl,rfl⟩
theorem strings_IndexByte (s:ByteArray) (c:Int) (w:World):Calls prog 186 #[.string s,.int .u8 c] w fun e w'=>e= .returned (.int .i64 (firstIdx s c.toNat.toUInt8))∧w=w':=by
 go_enter func186,ntmps186
 go_wp2_with (go_at_call 210;refine (stringslite_IndexByte s c _).mono ?_;rintro e w' ⟨rfl,rfl⟩)
 go_ret
 exact ⟨rfl,rfl⟩

def mayB (k n:Int) (s:ByteArray):Bool:=
 if k=0 then decide (n=0)&&s.toList.isEmpty
 else if k=1 then (decide (n=0)||decide (n=1))&&s.toList.isEmpty
 else if k=2 then s.toList.isEmpty
 else if k=3 then decide (n=0)&&(decide ((s.size:Int)≤40)&&decide (firstIdx s 0<0))
 else false

theorem wire_May (k n:Int) (s:ByteArray) (w:World) (hs:s.size≤9223372036854775807) :
 Calls prog 130 #[.agg #[.int .i64 k,.int .i64 n,.string s]] w fun e w'=>e= .returned (.bool (mayB k n s))∧Below w.heap.size w w':=by
 have hB: ∀ o,Below w.heap.size w (w.alloc o):=fun o=>(Below.refl _ _).alloc (Nat.le_refl _) o
 have HB:=Lib.hid hB
 clear hB
 go_enter func130,ntmps130
 go_wp2_with (go_at_call 186;refine (strings_IndexByte s _ _).mono ?_;rintro e w' ⟨rfl,rfl⟩)
 all_goals (go_ret;refine ⟨?_,HB.out _⟩)
 all_goals simp_all [mayB]
 all_goals (intros;omega)

theorem value_Is (k n:Int) (s:ByteArray) (w:World) (hs:s.size≤9223372036854775807) :
 Calls prog 43 #[.agg #[.int .i64 k,.int .i64 n,.string s]] w fun e w'=>e= .returned (.bool (mayB k n s))∧Below w.heap.size w w':=by
 have hB: ∀ o,Below w.heap.size w (w.alloc o):=fun o=>(Below.refl _ _).alloc (Nat.le_refl _) o
 have HB:=Lib.hid hB
 clear hB
 go_enter func43,ntmps43
 go_wp2_with (go_at_call 130;refine (wire_May k n s _ hs).mono ?_;rintro e w1 ⟨rfl,hb1⟩)
 go_ret
 exact ⟨rfl,Below.andThen (HB.out _) hb1⟩

end Go.Proofs.YtddedijencleeaaGreatDoor
