/- Names for what the texts say often: each is filled in where it stands. -/
import Derived.Below
import Derived.BigFrame
import Derived.BigQuiet
import Derived.ChangeAlike
import Derived.Deep.AppendLies
import Derived.Deep.CutBlock
import Derived.Deep.DeepCutAuto
import Derived.Deep.DeepMust
import Derived.Deep.Draws
import Derived.Deep.LoopGhost
import Derived.Deep.MidRow
import Derived.Deep.QuietTactic
import Derived.Deep.RegionHeld3
import Derived.Deep.RegionWith
import Derived.Great.FillDense
import Derived.KernelRfl
import Derived.LaidEql
import Derived.Laws.BytesArg
import Derived.Laws.OwnMore
import Derived.Laws.ResultCell
import Derived.Laws.Rows
import Derived.Laws.Runes
import Derived.Lib.AppendIntMem
import Derived.Lib.AppendStr
import Derived.Lib.BufSteps
import Derived.Lib.Builder
import Derived.Lib.Hide
import Derived.Lib.ItoaLen
import Derived.Lib.ReplaceLaws
import Derived.Lib.SliceRun
import Derived.Lib.UnsafeStr
import Derived.LoopN
import Derived.Maps.AppendAt
import Derived.OrdersHeld
import Derived.OwnWalk
import Derived.ProofKit
import Derived.RegionTactic
import Derived.RowKitTokens
import Derived.Scope
import Derived.Shelf.RegionOpenPlain
import Derived.Stop.Asserts
import Derived.WalkKit
import Derived.WalkLawsBesides
import Derived.WalkSpells
set_option linter.all false
namespace Go.Proofs.YtddedijencleeaaGreatDoor
abbrev QTGy{α}(x:α:=by exact Qb.of Tryz.func56 rfl (by kernel_rfl) (fun w hw=>ref_strings (x1.sub (.below hw)) (x2.sub (.below hw)))):α:=x
abbrev Qi31{α}(x:α:=by exact ⟨_,(kE5 G1 G3 G2 G4 G5),by kernel_rfl⟩):α:=x
abbrev QhGQ{α}(x:α:=by exact Qb.of Tryz.func57 rfl (by kernel_rfl) (fun w hw=>alikes_ok (x1.sub (.below hw)) (x2.sub (.below hw)))):α:=x
abbrev Quo0{α}(x:α:=by exact Qb.of Tryz.func58 rfl (by kernel_rfl) (fun w hw=>alike_ok _ _ es1 es2 w (x1.sub (.below hw)) (x2.sub (.below hw)))):α:=x
abbrev QdNn{α}(x:α:=by exact ⟨_,(Kr G1 G3 G2 G4 Y0 G1 G5 G2 G6 G9),by kernel_rfl⟩):α:=x
abbrev QaKw{α}(x:α:=by exact ⟨_,(kE5 G1 G3 G2 G4 Y0),by kernel_rfl⟩):α:=x
abbrev QZkm{α}(x:α:=by exact ⟨_,(kE15 G1 G3 G2 G4 Y0 G1 G7 G2 G8 Y1 G1 G5 G2 G6 G9),by kernel_rfl⟩):α:=x
abbrev QIe4{α}(x:α:=by exact ⟨_,(kE8 G1 G5 G2 G6 Y0 Y1 Y2 G9),by kernel_rfl⟩):α:=x
abbrev Qcrs{α}(x:α:=by exact ⟨v',_,h5.ev,hO4.keep (fun W1 W2 i cs hs h=>let ⟨v,h1,h2⟩:=h; ⟨v,h1,h2.sub hs⟩) h5.rp.below⟩):α:=x
abbrev QMSj{α}(x:α:=by exact ⟨_,(kE3 G1 G3 G4),by kernel_rfl⟩):α:=x
abbrev Qtj6{α}(x:α:=by exact Qb.of Tryz.func7 rfl (by kernel_rfl) (fun w hw=>KU ((a.rw i).f k) cs2 w 60 (QI.sub (.below hw) p2))):α:=x
abbrev QNb1{α}(x:α:=by exact ⟨_,(kE5 G1 G3 G6 G7 G8),by kernel_rfl⟩):α:=x
abbrev QKNG{α}(x:α:=by exact Qb.of Tryz.func7 rfl (by kernel_rfl) (fun w hw=>KU (a.st i).e es1 w 100 (x1.sub (.below hw)))):α:=x
abbrev Qw0C{α}(x:α:=by exact ⟨_,(kE3 G1 G3 G5),by kernel_rfl⟩):α:=x
abbrev QvOQ{α}(x:α:=by exact Qb.of Tryz.func7 rfl (by kernel_rfl) (fun w hw=>KU (a.it i).e es1 w 100 (x1.sub (.below hw)))):α:=x
abbrev QVvL{α}(x:α:=by exact Qb.of Tryz.func7 rfl (by kernel_rfl) (fun w hw=>KU (a.fr i).e es1 w 100 (x1.sub (.below hw)))):α:=x
abbrev QxSW{α}(x:α:=by exact Qb.of Tryz.func7 rfl (by kernel_rfl) (fun w hw=>KU (a.od i).e es1 w 100 (x1.sub (.below hw)))):α:=x
abbrev QJph{α}(x:α:=by exact Qb.of Tryz.func7 rfl (by kernel_rfl) (fun w hw=>KU (a.gr.f i) es1 w 100 (x1.sub (.below hw)))):α:=x
abbrev QwuV{α}(x:α:=by exact Qb.of Tryz.func47 rfl (by kernel_rfl) (fun w hw=>blank_ok k op vk vn vt tb nm A n c pl ty w)):α:=x
abbrev QGgG{α}(x:α:=by exact Qb.of Tryz.func47 rfl (by kernel_rfl) (fun w hw=>blank_ok k 0 vk vn vt tb nm A n c pl ty w)):α:=x
abbrev QluH{α}(x:α:=by exact Qb.of Tryz.func15 rfl (by kernel_rfl) (fun w hw=>HF i cs1 w (QI.sub (.below hw) p1))):α:=x
abbrev QHir{α}(x:α:=by exact ⟨_,okC GI (Km GR GC),by kernel_rfl⟩):α:=x
abbrev QY0E{α}(x:α:=by exact Qb.of Tryz.func49 rfl (by kernel_rfl) (fun w hw=>bareExpr_ok k op vk vn vt tb nm A n c pl ty w)):α:=x
abbrev ZC{α}(x:α:=by first | ((have q1:(((n:Nat):Int)==1)=false:=by (have:=of_decide_eq_false hu1);rw [beq_eq_false_iff_ne];omega);(have q0:(((n:Nat):Int)==0)=false:=by (have:=of_decide_eq_false hu1);rw [beq_eq_false_iff_ne];omega);simp only [okT,q1,q0,Bool.and_false,Bool.false_and,Bool.or_false];simp_all;done) | (simp_all [okT,ZB,noneB];done) | (simp only [okT,ZB,noneB];simp_all;done) | (simp_all [okT,ZB,noneB];omega) | ((have hq:n=0∨n=1∨2≤n:=by omega);rcases hq with rfl | rfl | hq <;> (simp_all [okT,ZB,noneB] <;> omega))):α:=x
abbrev Qw0i{α}(x:α:=by exact gE hst (Km CZ CI) [.bool (QH e)] fun w' hw=>⟨by rw [Zx,hz];rfl,hw⟩):α:=x
abbrev QVoI{α}(x:α:=by exact gE hst (Zg CZ) [.bool true] fun w' hw=>⟨by rw [Zx,hz];rfl,hw⟩):α:=x
abbrev QnCW{α}(x:α:=by exact gE hst (Zg L1) [.bool false] fun w' hw=>⟨by rw [JF,h1];rfl,hw⟩):α:=x
abbrev QVr6{α}(x:α:=by exact gE hst (Km L1 L2) [.bool false] fun w' hw=>⟨by rw [JF,h1,h2];rfl,hw⟩):α:=x
abbrev Qf1n{α}(x:α:=by exact Qb.of Tryz.func15 rfl (by kernel_rfl) (fun w hw=>ZX (f i) cs1 w (QI.sub (.below hw) p1))):α:=x
abbrev QDm7{α}(x:α:=by exact gE hstG Zk [.bool true] fun w' hw=>⟨by rw [JF,h1,h2,Qx.2 hl];rfl,hw⟩):α:=x
abbrev Qv5q{α}(x:α:=by exact Qb.of Tryz.func37 rfl (by kernel_rfl) (fun w hw=>by rw [← KK];exact ZR (f i) hsz w)):α:=x
abbrev Qvoy{α}(x:α:=by exact gE hst (kO10 F2 F4 F6 F7 F9 F11 F13 F15 F17 F19 (Q7 F21 F23 F24 F26 F28 F29 F30 F31 F33 F34 F36 F37 F39 F40 F41 C43)) [.bool false] fun w' hw=>⟨by simp only [QM,hz1,hz3,hz5,hz8,hz10,hz12,hz14,hz16,hz18,hz20,hz22,hz25,hz27,hz32,hz35,hz38,hz42,bS];rfl,hw⟩):α:=x
abbrev QasC{α}(x:α:=by exact gE hst (kO9 F2 F4 F6 F7 F9 F11 F13 F15 F17 (Q7 F19 F21 F23 F24 F26 F55 F56 F57 F59 F60 F62 F63 F65 F66 F67 C69)) [.bool false] fun w' hw=>⟨by simp only [QM,hz1,hz3,hz5,hz8,hz10,hz12,hz14,hz16,hz18,hz20,hz22,hz25,hz58,hz61,hz64,hz68,bS];rfl,hw⟩):α:=x
abbrev QiQg{α}(x:α:=by exact gE hst (kO5 F2 F4 F6 F7 F9 (Q7 F11 F13 F15 F17 F136 F138 F140 F141 F142 F143 F144 F146 F148 F149 F151 C153)) [.bool false] fun w' hw=>⟨by simp only [QM,hz1,hz3,hz5,hz8,hz10,hz12,hz14,hz16,hl137,hz139,hl145,hz147,hl150,hz152,bS];rfl,hw⟩):α:=x
abbrev QIrI{α}(x:α:=by exact gE hst (kO6 F2 F4 F6 F7 F9 F11 (Q7 F13 F15 F165 F167 F169 F170 F171 F173 F175 F176 F178 F180 F182 F183 F185 C187)) [.bool false] fun w' hw=>⟨by simp only [QM,hz1,hz3,hz5,hz8,hz10,hz12,hz14,hl166,hz168,hl172,hz174,hz177,hl179,hz181,hl184,hz186,bS];rfl,hw⟩):α:=x
abbrev Qni1{α}(x:α:=by exact gE hst (kO1 F2 (Q7 F4 F6 F7 F9 F11 F13 F199 F200 F201 F203 F205 F207 F209 F210 F212 C214)) [.bool false] fun w' hw=>⟨by simp only [QM,hz1,hz3,hz5,hz8,hz10,hz12,hl202,hz204,hl206,hz208,hl211,hz213,bS];rfl,hw⟩):α:=x
abbrev QxRD{α}(x:α:=by exact gE hst (kO6 F2 F4 F227 F229 F231 F233 (Q7 F235 F237 F238 F240 F242 F243 F244 F245 F247 F248 F250 F251 F253 F254 F255 C257)) [.bool false] fun w' hw=>⟨by simp only [QM,hz1,hz3,hl226,hl228,hl230,hl232,hl234,hz236,hl239,hz241,hz246,hz249,hz252,hz256,bS];rfl,hw⟩):α:=x
abbrev QM7t{α}(x:α:=by exact gE hst (kE5 C2 C4 F6 F8 C64) [.bool false] fun w' hw=>⟨by simp only [is9S,hz1,hz3,hz5,hz7,hz63,bS];rfl,hw⟩):α:=x
abbrev Qaz6{α}(x:α:=by exact gE hst (Zg C2) [.bool z1] fun w' hw=>⟨by simp only [hz1,bS];rfl,hw⟩):α:=x
abbrev QMVi{α}(x:α:=by exact gE hst (kE8 F2 C4 C6 C8 C10 F12 C14 C16) [.bool false] fun w' hw=>⟨by simp only [Q0,hz1,hz3,hz5,hz7,hz9,hz11,hz13,hz15,bS];rfl,hw⟩):α:=x
abbrev QwEV{α}(x:α:=by exact gE hst (kE7 F2 C4 C6 C8 C10 F12 C20) [.bool false] fun w' hw=>⟨by simp only [Q0,hz1,hz3,hz5,hz7,hz9,hz11,hz19,bS];rfl,hw⟩):α:=x
abbrev QH54{α}(x:α:=by exact gE hst (kE13 F1 F2 F3 F4 F5 F6 F7 F8 F9 F11 F13 F15 F17) [.bool false] fun w' hw=>⟨by simp only [QO,hz10,hz12,hz14,hz16,bS];rfl,hw⟩):α:=x
abbrev QLs2{α}(x:α:=by exact ⟨⟨U / 10,d++t,congrArg (Value.int .u64) (by omega),rfl,by omega,by have:=dec_room hN64 e;omega,Qh e,(Qa HB).alloc hs1 _⟩,by show ((U:Int) / 10).toNat<(U:Int).toNat;omega⟩):α:=x
abbrev QZ6I{α}(x:α:=by exact ⟨j+1,cl',by simpa using h1,by rw [h2];congr 2;omega⟩):α:=x
abbrev QrKd{α}(x:α:=by exact gE hsu2 Zk [] fun w' hw=>⟨rfl,(PS.cast (pt2.seg hw) (by subst_vars;rfl) (by subst_vars;rfl)).fin⟩):α:=x
abbrev QpAp{α}(x:α:=by exact ⟨⟨k,o,vk,vn,vt,tb,nm,A,n,c,pl,ty⟩,rfl⟩):α:=x
abbrev QtUy{α}(x:α:=by exact gE hsr7 Zk [] fun w' hw=>⟨rfl,(PS.cast (ps7.seg hw) (by rfl) (by rfl)).fin⟩):α:=x
abbrev QvOI{α}(x:α:=by exact gE hsu3 Zk [] fun w' hw=>⟨rfl,(PS.cast (pt3.seg hw) (by subst_vars;rfl) (by subst_vars;simp only [List.append_assoc])).fin⟩):α:=x
abbrev QlbI{α}(x:α:=by exact gE hst (Zg F1) [.string ⟨#[61]⟩] fun w' hw=>⟨rfl,hw⟩):α:=x
abbrev QF58{α}(x:α:=by exact gE hst (Zg F1) [.string ⟨#[60,62]⟩] fun w' hw=>⟨rfl,hw⟩):α:=x
abbrev QhWs{α}(x:α:=by exact gE hst (Zg F1) [.string ⟨#[60]⟩] fun w' hw=>⟨rfl,hw⟩):α:=x
abbrev QOew{α}(x:α:=by exact gE hst (Zg F1) [.string ⟨#[60,61]⟩] fun w' hw=>⟨rfl,hw⟩):α:=x
abbrev QV63{α}(x:α:=by exact gE hst (Zg F1) [.string ⟨#[62]⟩] fun w' hw=>⟨rfl,hw⟩):α:=x
abbrev QMXJ{α}(x:α:=by exact gE hst (Zg F1) [.string ⟨#[62,61]⟩] fun w' hw=>⟨rfl,hw⟩):α:=x
abbrev QeIx{α}(x:α:=by exact gE hst (Zg F1) [.string ⟨#[43]⟩] fun w' hw=>⟨rfl,hw⟩):α:=x
abbrev Qd3H{α}(x:α:=by exact gE hst (Zg F1) [.string ⟨#[45]⟩] fun w' hw=>⟨rfl,hw⟩):α:=x
abbrev QfYF{α}(x:α:=by exact gE hst (Zg F1) [.string ⟨#[42]⟩] fun w' hw=>⟨rfl,hw⟩):α:=x
abbrev QKp2{α}(x:α:=by exact gE hst (Zg F1) [.string ⟨#[47]⟩] fun w' hw=>⟨rfl,hw⟩):α:=x
abbrev QawA{α}(x:α:=by exact gE hst (Zg F1) [.string ⟨#[37]⟩] fun w' hw=>⟨rfl,hw⟩):α:=x
abbrev Qvy1{α}(x:α:=by exact gE hst (Zg F1) [.string ⟨#[124,124]⟩] fun w' hw=>⟨rfl,hw⟩):α:=x
abbrev QePY{α}(x:α:=by exact gE hst (Zg F1) [.string ⟨#[65,78,68]⟩] fun w' hw=>⟨rfl,hw⟩):α:=x
abbrev QSXL{α}(x:α:=by exact gE hst (Zg F1) [.string ⟨#[79,82]⟩] fun w' hw=>⟨rfl,hw⟩):α:=x
abbrev QsF0{α}(x:α:=by exact ⟨fun i hi=>by omega,fun i hi=>by omega,Jx hw,Jx hv,fun i hi=>by omega,fun i hi=>by omega,fun i hi=>by omega,fun i hi=>by omega⟩):α:=x
abbrev Qd{α}(x:α:=by exact (by kernel_rfl)):α:=x
abbrev QACa{α}(x:α:=by exact (Nat.le_trans (Nat.add_le_add_left hq9 ((((([83,69,76,69,67,84,32]:List UInt8)++(if di=true then [68,73,83,84,73,78,67,84,32] else []))++(Qk nit (fun i=>((fun i=>(⟨(ZL (it i)).toArray⟩:ByteArray)) i).data.toList)))++[32,70,82,79,77,32])).length) hbs)):α:=x
abbrev Qv{α}(x:α:=by exact (by kernel_rfl)):α:=x
abbrev Qo{α}(x:α:=by exact (Nat.le_refl _)):α:=x
abbrev QkQO{α}(x:α:=by exact (by have hq:=hbI;(try simp only [Qi,Qy,QA,hz4,hz6,bS,lS] at hq);first | omega | (simp only [Qi,QA,lS];omega))):α:=x
abbrev QkzC{α}(x:α:=by exact (by intro u hu;simp only [Qu,RV.conc,List.mem_singleton] at hu;subst hu;rfl)):α:=x
abbrev QpaA{α}(x:α:=by exact (fun w hw=>arg9c k op vk vn vt tb nm A n c pl ty (hsl.both (.below hw) fun _ _ _ h=>QI.sub (.below hw) h) 0 (by omega) (hsb _ (by omega)) (wrapB_eq (by omega)) (fun cs w2 hw2 h2=>HT 0 (by omega) cs w2 (Below.andThen hw hw2) h2))):α:=x
abbrev KH{α}(x:α:=by exact (fun W1 W2 i cs hs h=>h)):α:=x
abbrev QIqP{α}(x:α:=by exact (by have:=ne_of_beq_false hz13;omega)):α:=x
abbrev QLGG{α}(x:α:=by exact (bytes_eq (Eq.trans (Qi _) (by first | rfl | (simp only [Qg,Qp,QC,QX,hz1,hz3,hz5,hz7,hz9,hz11,hz57,bS,aS];done) | (simp only [Qg,Qp,QC,QX,hz1,hz3,hz5,hz7,hz9,hz11,hz57,bS];rw [ifOdd hz57];simp only [Qg,Qp,QC,QX,hz1,hz3,hz5,hz7,hz9,hz11,hz57,bS,aS];done) | (simp only [Qg,Qp,QC,QX,hz1,hz3,hz5,hz7,hz9,hz11,hz57,bS];rw [ifOdd hz57];simp only [Qg,Qp,QC,QX,hz1,hz3,hz5,hz7,hz9,hz11,hz57,bS,aS] <;> rfl) | (simp only [Qg,Qp,QC,QX,hz1,hz3,hz5,hz7,hz9,hz11,hz57,bS];rw [ifOdd hz57];simp only [Qg,Qp,QC,QX,hz1,hz3,hz5,hz7,hz9,hz11,hz57,bS,aS] <;> simp [Ka,show n=1 from (by omega)]))))):α:=x
abbrev Qkco{α}(x:α:=by exact (Below.andThen hst1.rp.below hb)):α:=x
abbrev Qsz0{α}(x:α:=by exact (by simp only [Kp,Qu,Kc rfl hu,RV.conc,List.mem_append,List.mem_cons,List.not_mem_nil,or_false];intro x hx;repeat' (first | rfl | (rcases hx with hx | hx) | (exact (QI.ones hq).2 x hx) | (subst hx;rfl)))):α:=x
abbrev QJhU{α}(x:α:=by exact (bytes_eq (Eq.trans (Qi _) (by first | rfl | (simp only [Qg,Qp,QC,QX,hz1,hz3,hz5,hz83,hz85,hz87,bS,aS];done) | (simp only [Qg,Qp,QC,QX,hz1,hz3,hz5,hz83,hz85,hz87,bS];simp only [Qg,Qp,QC,QX,hz1,hz3,hz5,hz83,hz85,hz87,bS,aS];done) | (simp only [Qg,Qp,QC,QX,hz1,hz3,hz5,hz83,hz85,hz87,bS];simp only [Qg,Qp,QC,QX,hz1,hz3,hz5,hz83,hz85,hz87,bS,aS] <;> rfl) | (simp only [Qg,Qp,QC,QX,hz1,hz3,hz5,hz83,hz85,hz87,bS];simp only [Qg,Qp,QC,QX,hz1,hz3,hz5,hz83,hz85,hz87,bS,aS] <;> simp [Ka,show n=1 from (by omega)]))))):α:=x
abbrev QtJW{α}(x:α:=by exact (Eq.trans (Qi _) (by first | rfl | (simp only [bS,aS];done) | (simp only [bS,aS] <;> rfl)))):α:=x
abbrev QLLY{α}(x:α:=by exact (by have hq:=hbI;(try simp only [Qi,Qy,QA,hz4,hz6,hz8,hz10,hz12,hz14,bS,lS] at hq);first | omega | (simp only [Qi,QA,lS];omega))):α:=x
abbrev QHyp{α}(x:α:=by exact (by have hq:=hbI;(try simp only [Qi,Qy,QA,hz4,hz6,hz8,hz10,hz12,hz50,bS,lS] at hq);first | omega | (simp only [Qi,QA,lS];omega))):α:=x
abbrev QKfY{α}(x:α:=by exact (fun W1 W2 u hs h=>QI.sub hs h)):α:=x
abbrev QloB{α}(x:α:=by exact (by first | (simp only [lS];omega) | (simp only [Qi,lS];have hL3:(Qk (tnc+tnk) (fun i=>crow tnc tcols tkeys kc i)).length=(Qk (tnc+tnk) (crow tnc tcols tkeys kc)).length:=rfl;omega))):α:=x
abbrev ZO{α}(x:α:=by exact (Nat.zero_le _)):α:=x
abbrev QrEx{α}(x:α:=by exact (Nat.lt_of_lt_of_le sb1_0.lt pm1.b2.size)):α:=x
abbrev QTgh{α}(x:α:=by exact (Qz sb1_0.at_ (.below pm1.b2))):α:=x
abbrev QJ9Z{α}(x:α:=by exact (by have hq:=hb;simp only [Qg,Qp,QC,QX,hz1,hz3,hz5,hz7,hz9,hz11,hz57,bS] at hq;rw [ifOdd hz57] at hq;simp only [bS,lS] at hq;first | omega | (simp only [lS];omega))):α:=x
abbrev Qt7i{α}(x:α:=by exact (by have hq:=hb;simp only [Qg,Qp,QC,QX,hz1,hz3,hz5,hz7,hz9,hz11,bS] at hq;(first | (simp only [bS,lS] at hq) | skip);first | omega | (simp only [lS];omega))):α:=x
abbrev QehV{α}(x:α:=by exact (by first | rfl | (simp only [Qg,Qp,QC,QX,hz1,hz3,hz101,bS,aS];done) | (simp only [Qg,Qp,QC,QX,hz1,hz3,hz101,bS];simp only [Qg,Qp,QC,QX,hz1,hz3,hz101,bS,aS];done) | (simp only [Qg,Qp,QC,QX,hz1,hz3,hz101,bS];simp only [Qg,Qp,QC,QX,hz1,hz3,hz101,bS,aS] <;> rfl) | (simp only [Qg,Qp,QC,QX,hz1,hz3,hz101,bS];simp only [Qg,Qp,QC,QX,hz1,hz3,hz101,bS,aS] <;> simp [Ka,show n=1 from (by omega)]))):α:=x
abbrev QKsB{α}(x:α:=by exact (by have hq:=HZ.hl;simp only [Qy,QP,hz1,hz3,bS,lS] at hq;simp only [QK,Zy,Qi,List.length_append];first | omega | (simp only [lS] at *;omega))):α:=x
abbrev QXFj{α}(x:α:=by exact (by have hq:=hb;simp only [Qg,Qp,QC,QX,hz1,hz3,hz5,hz7,bS] at hq;(first | (simp only [bS,lS] at hq) | skip);first | omega | (simp only [lS];omega))):α:=x
abbrev QncV{α}(x:α:=by exact (hsl.both (.below hw) fun _ _ _ h=>QI.sub (.below hw) h)):α:=x
abbrev QQnX{α}(x:α:=by exact (by first | (simp only [bS,lS];omega) | omega)):α:=x
abbrev QJ0p{α}(x:α:=by exact (by first | omega | (simp only [bS];omega))):α:=x
abbrev QxrG{α}(x:α:=by exact (by have hq:=hb;(try simp only [Qi,hz76,bS,lS] at hq);first | omega | (simp only [Qi,Kh,lS];omega))):α:=x
abbrev Qz6S{α}(x:α:=by exact (by have hq:=hb;(try simp only [Qi,bS,lS] at hq);first | omega | (simp only [Qi,Kh,lS];omega))):α:=x
abbrev QyFn{α}(x:α:=by exact (by rw [x1.len];kernel_rfl)):α:=x
abbrev QWWB{α}(x:α:=by exact (by have hq:=hq11;(try simp only [Qi,QA,keyR,hy34,hy35,bS,lS] at hq);first | omega | (simp only [Qi,lS];omega))):α:=x
abbrev QrjB{α}(x:α:=by exact (by have hq:=HZ.hod;first | omega | (simp only [bS] at hq;omega))):α:=x
abbrev QNh3{α}(x:α:=by exact (by subst_vars;have hq:=HZ.hod;first | omega | (simp only [bS] at hq;omega))):α:=x
abbrev QS6D{α}(x:α:=by exact (by have hq:=hj1 _ hz4;simp only [Bool.false_eq_true,if_false,if_true] at hq;first | (simp only [hz4,bS,lS];omega) | omega)):α:=x
abbrev QPjn{α}(x:α:=by exact (fun w hw=>zeroE_ref hv _ w (QI.sub (.below hw) ihv))):α:=x
abbrev QJio{α}(x:α:=by exact (by have hq:=hb;simp only [Qg,Qp,QC,QX,hz1,hz3,hz5,hz7,hz9,bS] at hq;(first | (simp only [bS,lS] at hq) | skip);first | omega | (simp only [lS];omega))):α:=x
abbrev Qnve{α}(x:α:=by exact (by simp only [Kp,Qu,Kc rfl hu,RV.conc,List.length_cons,List.length_append,hu,List.length_nil])):α:=x
abbrev Qsly{α}(x:α:=by exact (by subst_vars;first | (simp only [bS,lS];omega) | omega)):α:=x
abbrev Qpk3{α}(x:α:=by exact (by have hq:=hbI;(try simp only [Qi,Qy,QA,hz4,hz6,hz8,hz10,hz12,hz14,hz16,bS,lS] at hq);first | omega | (simp only [Qi,QA,lS];omega))):α:=x
abbrev QHdW{α}(x:α:=by exact (by have hq:=hq2;(try simp only [Qi,Qy,QA,hz4,hz6,hz8,hz10,hz12,hz14,bS,lS] at hq);first | omega | (simp only [Qi,QA,lS];omega))):α:=x
abbrev Qa8F{α}(x:α:=by exact (by have hq:=hq7;(try simp only [Qi,Qy,QA,hz4,hz6,hz8,hz10,hz12,hz50,bS,lS] at hq);first | omega | (simp only [Qi,QA,lS];omega))):α:=x
abbrev QQAr{α}(x:α:=by exact (by subst el7 el6 em6 el2;have hq:=srcW_len i8 (fr i8);simp only [hy6,hz10,bS] at hq;first | (simp only [Q8,Zl,hy6,hz10,bS,lS];omega) | omega)):α:=x
abbrev QTQ9{α}(x:α:=by exact (Below.andThen (Qa HBW) hb1)):α:=x
abbrev QOF2{α}(x:α:=by exact (QI.sub (.below hw) iwh)):α:=x
abbrev QKE7{α}(x:α:=by exact (QI.sub (.below hw) ihv)):α:=x
abbrev QyNa{α}(x:α:=by exact (.below (Below.andThen hw hb))):α:=x
abbrev QFnl{α}(x:α:=by exact (fun w hw=>KB ncl cl _ w (ZD.sub (.below (Below.andThen pm1.bl hw)) ia.cl) (by (try simp only [Qi]);have hq:=hbI;(try simp only [Qi,Qy,QA,hz4,hz6,bS,lS] at hq);first | omega | (simp only [Qi,QA,lS];omega)))):α:=x
abbrev QQhL{α}(x:α:=by exact (fun w hw=>KO kind tnm tA tB A1 none none A4 A5 A6 A7 A8 wA hA tnc tc tnk td nkc c1 0 0 0 0 nst c4 nit c5 nfr c6 ngr c7 nor c8 wn wc hn hc ⟨#[]⟩ ix un di wk wo wvk wvn wvt wtb wnm wpl wty hk ho hvk hvn hvt htb hnm hpl hty li w (by omega))):α:=x
abbrev Qx7n{α}(x:α:=by exact (.below (Below.andThen pr3.bl hw))):α:=x
abbrev QG44{α}(x:α:=by exact (by have hq:=hj1 _ hz2;simp only [Bool.false_eq_true,if_false,if_true] at hq;first | omega | (simp only [lS];omega))):α:=x
abbrev QJlX{α}(x:α:=by exact (by subst_vars;first | rfl | (rw [KC (by omega)];rfl) | (rw [KC (by omega)];done) | (simp only [Qg,QQ,hz1,hz3,hz37,bS,Qr,Qq];done) | (simp only [Qg,QQ,hz1,hz3,hz37,bS,Qr,Qq] <;> rfl))):α:=x
abbrev QX7N{α}(x:α:=by exact (fun w u h=>QR.one h)):α:=x
abbrev QvGB{α}(x:α:=by exact (by first | (simp only [Qp,Kw,hz1,hz3,hz5,bS,lS];omega) | omega)):α:=x
abbrev QgWA{α}(x:α:=by exact (hs7.below (hW5.keep h6.rp.below).lo (fun g hg=>((hW5.keep h6.rp.below).ownLo g hg).1) (hW5.keep h6.rp.below).hi)):α:=x
abbrev QCrP{α}(x:α:=by exact (fun W1 W2 u hs h=>Ks.sub hs h)):α:=x
abbrev QPEH{α}(x:α:=by exact (.below (Below.andThen b4 hw))):α:=x
abbrev QpvY{α}(x:α:=by exact (by have hq:=HZ.hod;first | omega | (simp only [hz4,bS] at hq;omega))):α:=x
abbrev QlgO{α}(x:α:=by exact (fun W1 W2 i cs hs h=>let ⟨v,h1,h2⟩:=h; ⟨v,h1,h2.sub hs⟩)):α:=x
abbrev QT7H{α}(x:α:=by exact (by have hq:=QACa;(try simp only [Qi,hy24,hz29,hz33,bS,lS] at hq);first | omega | (simp only [Qi,Kh,lS];omega))):α:=x
abbrev QGD8{α}(x:α:=by exact (by have hq:=QACa;(try simp only [Qi,hy24,hz29,hz46,bS,lS] at hq);first | omega | (simp only [Qi,Kh,lS];omega))):α:=x
abbrev QlAS{α}(x:α:=by exact (by have hq:=QACa;(try simp only [Qi,hy24,hz29,hz60,bS,lS] at hq);first | omega | (simp only [Qi,Kh,lS];omega))):α:=x
abbrev Qx8C{α}(x:α:=by exact (by have hq:=QACa;(try simp only [Qi,hy24,hz29,bS,lS] at hq);first | omega | (simp only [Qi,Kh,lS];omega))):α:=x
abbrev QLtY{α}(x:α:=by exact (by have hq:=hb;simp only [Qg,Qp,QC,QX,hz1,hz3,hz5,hz7,hz9,hz11,h77,hz13,aggL_19,bS] at hq;(first | (simp only [bS,lS] at hq) | skip);have h0:=hsb 0 QIqP;first | omega | (simp only [lS];omega))):α:=x
abbrev QxBp{α}(x:α:=by exact (by have hq:=hb;simp only [Qg,Qp,QC,QX,hz1,hz3,hz5,hz7,hz9,hz11,h77,hz13,aggL_20,bS] at hq;(first | (simp only [bS,lS] at hq) | skip);have h0:=hsb 0 QIqP;first | omega | (simp only [lS];omega))):α:=x
abbrev QDJW{α}(x:α:=by exact (by have hq:=hb;simp only [Qg,Qp,QC,QX,hz1,hz3,hz5,hz7,hz9,hz11,h77,hz13,aggL_21,bS] at hq;(first | (simp only [bS,lS] at hq) | skip);have h0:=hsb 0 QIqP;first | omega | (simp only [lS];omega))):α:=x
abbrev QTJ3{α}(x:α:=by exact (by have hq:=hb;simp only [Qg,Qp,QC,QX,hz1,hz3,hz5,hz7,hz9,hz11,h77,hz13,aggL_22,bS] at hq;(first | (simp only [bS,lS] at hq) | skip);have h0:=hsb 0 QIqP;first | omega | (simp only [lS];omega))):α:=x
abbrev QCBm{α}(x:α:=by exact (bytes_eq (Eq.trans (Qi _) (by first | (simp only [Qi,Qy,QA,hz4,hz6,bS,aS,List.cons_append];done) | (simp only [Qi,Qy,QA,hz4,hz6,bS,aS,List.cons_append];rfl))))):α:=x
abbrev QwtR{α}(x:α:=by exact (by have hq:=HZ.hl;simp only [Qg,QQ,hz1,hz3,hz5,hz7,bS,lS] at hq;simp only [QK,Zy,Qi,List.length_append];have:=signL_len op;first | omega | (simp only [lS];omega))):α:=x
abbrev QEu2{α}(x:α:=by exact (fun w hw=>row_Es (Zz Tryz.func96 Qd rfl) (ia.rw.sub (.below hw)) (fun W' hb i u hi hp=>by obtain ⟨v,e,hs⟩:=hp;cases e;exact check1_ok (rw_ i).n (rw_ i).f _ W' (Z6.sub QyNa hs)))):α:=x
abbrev QWFu{α}(x:α:=by exact (by have hq:=HZ.hl;simp only [Qy,QP,hz1,hz3,hz5,hz7,hz9,hz11,bS,lS] at hq;simp only [QK,Zy,Qi,List.length_append];first | omega | (simp only [lS] at *;omega))):α:=x
abbrev Qavz{α}(x:α:=by exact (Nat.lt_of_lt_of_le el3 pr2.bl.size)):α:=x
abbrev Qjph{α}(x:α:=by exact (by rw [l1'];kernel_rfl)):α:=x
abbrev Qk9C{α}(x:α:=by exact (fun w hw=>KB (kc i11).n (kc i11).f _ w (ZD.sub (.below (Below.andThen pr11.bl hw)) ks12) (by have hq:=hq11;simp only [QA,lS] at hq;first | omega | (simp only [Qi];omega)))):α:=x
abbrev Qacg{α}(x:α:=by exact (by subst_vars;rw [Jc hz2];have hj:=joinN_zero (t:=(fun i=>Qg (args i))) hz2;simp only [Bool.false_eq_true,if_false,if_true] at hj ⊢ <;> first | rfl | (rw [hj,List.append_nil]))):α:=x
abbrev QSed{α}(x:α:=by exact (by (try simp only [Qi]);have hq:=hbI;(try simp only [Qi,Qy,QA,hz4,hz6,hz8,hz10,hz12,hz50,bS,lS] at hq);first | omega | (simp only [Qi,QA,lS];omega))):α:=x
abbrev QfLB{α}(x:α:=by exact (Nat.lt_of_lt_of_le sb1_0.lt pr2.b2.size)):α:=x
abbrev QGEB{α}(x:α:=by exact (Nat.lt_of_lt_of_le sb1_0.lt pr3.b2.size)):α:=x
abbrev QnJZ{α}(x:α:=by exact (fun w hw=>ZX (fr i5).e _ w (QI.sub (.below hw) ie6))):α:=x
abbrev QvEX{α}(x:α:=by exact (by rw [Jc hz2];have hj:=joinN_len_zero (t:=(fun i=>Qg (args i))) hz2;simp only [Bool.false_eq_true,if_false,if_true] at hj;first | (simp only [hz2,bS,lS];omega) | omega)):α:=x
abbrev QywK{α}(x:α:=by exact (by subst_vars;rfl)):α:=x
abbrev QJyj{α}(x:α:=by exact (by have hq:=hb;simp only [Qg,Qp,QC,QX,hz1,hz3,hz5,hz83,hz85,hz87,bS] at hq;(first | (simp only [bS,lS] at hq) | skip);first | omega | (simp only [lS];omega))):α:=x
abbrev QOjj{α}(x:α:=by exact (by simp;omega)):α:=x
abbrev QEBn{α}(x:α:=by exact (Qz sb1_0.at_ (.below pr2.b2))):α:=x
abbrev Qmwe{α}(x:α:=by exact (Qz sb1_0.at_ (.below pr3.b2))):α:=x
abbrev Qsh6{α}(x:α:=by exact (Qz er3 (.below pr2.bl))):α:=x
abbrev Qewt{α}(x:α:=by exact (by have hq:=HZ.hl;simp only [ZY,Jp,bS,lS] at hq;simp only [QK,Zy,Qi,List.length_append];first | omega | (simp only [lS] at *;omega))):α:=x
abbrev QEaf{α}(x:α:=by exact (fun w hw=>row_Tx (Zz Tryz.func44 Qd rfl) (QR.sub ia.cl (.below hw)) (fun W' hb i u hi hp=>by obtain ⟨e,hs⟩:=hp;cases e;exact Z4 (cl i) hs W'))):α:=x
abbrev QHH6{α}(x:α:=by exact (by have hq:=HZ.hl;simp only [Jl,typeL_1,bS,lS] at hq;simp only [QK,Zy,Qi,List.length_append];first | omega | (simp only [lS] at *;omega))):α:=x
abbrev QFvT{α}(x:α:=by exact (by have hq:=HZ.hl;simp only [Jl,typeL_2,bS,lS] at hq;simp only [QK,Zy,Qi,List.length_append];first | omega | (simp only [lS] at *;omega))):α:=x
abbrev QqJN{α}(x:α:=by exact (by have hq:=HZ.hl;simp only [Jl,typeL_3,bS,lS] at hq;simp only [QK,Zy,Qi,List.length_append];first | omega | (simp only [lS] at *;omega))):α:=x
abbrev QdgK{α}(x:α:=by exact (by have hq:=hb;simp only [Qg,Qp,QC,QX,hz1,hz3,hz101,bS] at hq;(first | (simp only [bS,lS] at hq) | skip);first | omega | (simp only [lS];omega))):α:=x
abbrev QgdQ{α}(x:α:=by exact (Ks.sub (.below hw) h0)):α:=x
abbrev QMg9{α}(x:α:=by exact (fun w hw=>zeroE_ref wh _ w QOF2)):α:=x
abbrev Qgq1{α}(x:α:=by exact (by subst_vars;first | (simp only [ZW,Jv,hz2,bS,lS];omega) | omega)):α:=x
abbrev QsgC{α}(x:α:=by exact (by subst_vars;first | rfl | (simp only [ZL,itemD,hz3,bS,Qr,Qq];done) | (simp only [ZL,itemD,hz3,bS,Qr,Qq] <;> rfl))):α:=x
abbrev QalH{α}(x:α:=by exact (fun w hw=>row_Item (Zz Tryz.func165 Qd rfl) (QR.sub ia.it (.below hw)) (fun W' hb i cs hi hp hl=>item_ok (it i) cs W' (ItIn.sub QyNa hp)))):α:=x
abbrev Qr4y{α}(x:α:=by exact (fun w hw=>row_Expr (Zz Tryz.func14 Qd rfl) (QR.sub ia.gr (.below hw)) (fun W' hb i cs hi hp hl=>KY (gr i) cs W' (QI.sub QyNa hp)))):α:=x
abbrev QrEw{α}(x:α:=by exact (by subst el2 em2;have hq:=keyW_len (tkeys i3) (kc i3);simp only [hy4,hy5,bS] at hq;first | (simp only [hy4,hy5,bS,lS];omega) | omega)):α:=x
abbrev QkHd{α}(x:α:=by exact (by subst_vars;have hq:=hj1 _ hz4;simp only [Bool.false_eq_true,if_false,if_true] at hq;first | (simp only [hz4,bS,lS];omega) | omega)):α:=x
abbrev QpHD{α}(x:α:=by exact (by have hq:=hq2;(try simp only [Qi,QA,keyR,hy1,hty9,typeL_1,bS,lS] at hq);first | omega | (simp only [Qi,lS];omega))):α:=x
abbrev QeSd{α}(x:α:=by exact (by have hq:=hq2;(try simp only [Qi,QA,keyR,hy1,hty9,typeL_2,bS,lS] at hq);first | omega | (simp only [Qi,lS];omega))):α:=x
abbrev QOof{α}(x:α:=by exact (by have hq:=hq2;(try simp only [Qi,QA,keyR,hy1,hty9,typeL_3,bS,lS] at hq);first | omega | (simp only [Qi,lS];omega))):α:=x
abbrev QnC3{α}(x:α:=by exact (by first | omega | (simp only [hz4,bS];omega))):α:=x
abbrev QtfS{α}(x:α:=by exact (by first | omega | (simp only [Q8,Zl,hy6,hz10,bS];omega))):α:=x
abbrev QdrA{α}(x:α:=by exact (fun W1 W2 v hs h=>h.sub hs)):α:=x
abbrev Qiug{α}(x:α:=by exact (by have hq:=HZ.hod;first | omega | (simp only [QF,Kd,dB,hz1,hz14,hl16,hl18,hl20,hz24,hz26,hz29,bS] at hq;omega))):α:=x
abbrev QbNA{α}(x:α:=by exact (by have hq:=hb;(try simp only [Qi,hz76,hz93,hz96,bS,lS] at hq);first | omega | (simp only [Qi,Kh,lS];omega))):α:=x
abbrev QWkx{α}(x:α:=by exact (fun w hw=>Z4 nm iwf.nm w)):α:=x
abbrev Qg9t{α}(x:α:=by exact (by subst_vars;first | rfl | (simp only [Zi,bS,Qr,Qq];done) | (simp only [Zi,bS,Qr,Qq] <;> rfl))):α:=x
abbrev QlPV{α}(x:α:=by exact (QI.sub (.below hw) ie3)):α:=x
abbrev QWnm{α}(x:α:=by exact (by have hq:=hq13;(try simp only [Qi,hz76,hy81,bS,lS] at hq);first | omega | (simp only [Qi,Kh,lS];omega))):α:=x
abbrev QYen{α}(x:α:=by exact (by have hq:=HZ.hod;have hm:(Ql i1 d)≤(Ql n d):=KT (by omega);first | omega | (simp only [bS] at hq;omega))):α:=x
abbrev QsSF{α}(x:α:=by exact (by have hq:=hq3;(try simp only [Qi,hy2,hz10,bS,lS] at hq);first | omega | (simp only [Qi,Kh,lS];omega))):α:=x
abbrev Qfqi{α}(x:α:=by exact (by have hq:=hb;(try simp only [Qi,hz76,hz93,bS,lS] at hq);first | omega | (simp only [Qi,Kh,lS];omega))):α:=x
abbrev Qiqp{α}(x:α:=by exact (fun W1 W2 v hs h=>ZD.sub hs h)):α:=x
abbrev QTe4{α}(x:α:=by exact (by have hq:=HZ.hod;have hm:(Ql n d)≤(Ql n d):=KT (by omega);first | omega | (simp only [bS] at hq;omega))):α:=x
abbrev QH2G{α}(x:α:=by exact (bytes_eq (Eq.trans (Qi _) (by first | rfl | (simp only [Kd,hz1,bS,aS];done) | (simp only [Kd,hz1,bS,aS] <;> rfl))))):α:=x
abbrev QTFl{α}(x:α:=by exact (by rw [x2.len];kernel_rfl)):α:=x
abbrev QWxQ{α}(x:α:=by exact (fun w hw=>Js ⟨#[79,78]⟩ [79,78] rfl (by decide) (fr i9).e _ w (QI.sub Qx7n ie10) (Hfr i9 hi9) (KG (word:=[32,79,78,32]) (Hfr i9 hi9) QT7H))):α:=x
abbrev QAV9{α}(x:α:=by exact (fun w hw=>Js ⟨#[79,78]⟩ [79,78] rfl (by decide) (fr i9).e _ w (QI.sub Qx7n ie10) (Hfr i9 hi9) (KG (word:=[32,79,78,32]) (Hfr i9 hi9) QGD8))):α:=x
abbrev Qcg8{α}(x:α:=by exact (fun w hw=>Js ⟨#[79,78]⟩ [79,78] rfl (by decide) (fr i9).e _ w (QI.sub Qx7n ie10) (Hfr i9 hi9) (KG (word:=[32,79,78,32]) (Hfr i9 hi9) QlAS))):α:=x
abbrev QMia{α}(x:α:=by exact (by subst_vars;rw [Qk,sep_of hz4];simp only [Bool.false_eq_true,if_false,if_true,List.append_assoc,List.nil_append])):α:=x
abbrev Qx7B{α}(x:α:=by exact (Nat.lt_of_lt_of_le sb1_0.lt pr11.b2.size)):α:=x
abbrev QKqJ{α}(x:α:=by exact (by simp [Qk,Zo,ZF])):α:=x
abbrev QL3c{α}(x:α:=by exact (by subst_vars;simp only [QF,Kd,dB,hz1,hz14,hl16,hl18,hl20,hz24,hz26,hz29,bS,Qr,Qq])):α:=x
abbrev Qzvx{α}(x:α:=by exact (by subst_vars;simp only [QF,Kd,dB,hz1,hz14,hl16,hl18,hl20,hz24,hz26,hz29,bS,List.append_assoc])):α:=x
abbrev Qbz0{α}(x:α:=by exact (by first | (simp only [QF,Kd,dB,hz1,hz14,hl16,hl18,hl20,hz24,hz26,hz29,bS,lS];omega) | omega)):α:=x
abbrev QpjD{α}(x:α:=by exact (by rw [Qk,sep_of hz4];simp only [Bool.false_eq_true,if_false,if_true,List.append_assoc,List.nil_append])):α:=x
abbrev QCWm{α}(x:α:=by exact (Qz sb1_0.at_ (.below pr11.b2))):α:=x
abbrev QZQ8{α}(x:α:=by exact (by first | omega | (simp only [QF,Kd,dB,hz1,hz14,hl16,hl18,hl20,hz24,hz26,hz29,bS];omega))):α:=x
abbrev QKUm{α}(x:α:=by exact (bytes_eq (Eq.trans (Qi _) (by simp only [Qi,accC_eq,hz76,hz93,hz96,bS,aS,List.cons_append])))):α:=x
abbrev QMDu{α}(x:α:=by exact (fun W1 W2 u hs h=>h.sub hs)):α:=x
abbrev QwDR{α}(x:α:=by exact (by simp only [Qu,RV.conc,hu,List.mem_cons,List.not_mem_nil,or_false];rintro x rfl;exact QR.one hq)):α:=x
abbrev QhLU{α}(x:α:=by exact (by have hq:=HZ.hod;first | omega | (simp only [QF,Kd,dB,hz1,hz3,hz5,hz7,bS] at hq;omega))):α:=x
abbrev QRKs{α}(x:α:=by exact (by subst el11;first | (simp only [Qy,QP,hz1,hz3,hz5,hz7,hz9,hz32,bS,lS];omega) | omega)):α:=x
abbrev Qujb{α}(x:α:=by exact (fun w hw=>KY e _ w (QI.sub (.below hw) ie))):α:=x
abbrev QSRg{α}(x:α:=by exact (Eq.trans (Qi _) (by rw [crow_ge];simp only [keyR,QA,hy34,hy35,bS,aS,List.cons_append]))):α:=x
abbrev QivK{α}(x:α:=by exact (by subst_vars;have hq:=HZ.hod;first | omega | (simp only [ZW,Jv,hz2,bS] at hq;omega))):α:=x
abbrev QpWG{α}(x:α:=by exact (by subst el21 em21 el7 el6 em6 el2;first | (simp only [Q8,Zl,hz29,bS,lS];omega) | omega)):α:=x
abbrev Qdpi{α}(x:α:=by exact (Nat.lt_of_lt_of_le el4 pr3.bl.size)):α:=x
abbrev Qe5x{α}(x:α:=by exact (by have hq:=HZ.hod;first | omega | (simp only [Qp,Kw,hz1,hz3,hz5,bS] at hq;omega))):α:=x
abbrev QSYe{α}(x:α:=by exact (by subst_vars;simp only [Qp,Kw,hz1,hz3,hz5,bS,List.append_assoc,List.append_nil])):α:=x
abbrev Qedn{α}(x:α:=by exact (by subst_vars;first | (simp only [Qg,QQ,hz1,hz3,hz5,hz7,hz9,bS,lS];omega) | omega)):α:=x
abbrev QTTK{α}(x:α:=by exact (fun w hw=>maybe_ok hv _ w QKE7)):α:=x
abbrev QLrt{α}(x:α:=by exact (.below (Below.andThen pm1.bl hw))):α:=x
abbrev QuGq{α}(x:α:=by exact (fun w hw=>sources_ok nfr fr _ w (ia.fr.both (.below hw) fun _ _ _ h=>h.sub (.below hw)))):α:=x
abbrev QChZ{α}(x:α:=by exact (Qz er4 (.below pr3.bl))):α:=x
abbrev QaY5{α}(x:α:=by exact (by subst_vars;simp only [QF,Kd,dB,hz1,hz3,hz5,hz7,bS,Qr,Qq])):α:=x
abbrev QOnm{α}(x:α:=by exact (by subst_vars;simp only [QF,Kd,dB,hz1,hz3,hz5,hz7,bS,List.append_assoc])):α:=x
abbrev Qfgm{α}(x:α:=by exact (by subst_vars;first | (simp only [Qg,QQ,hz1,hz3,hz5,hz7,bS,lS];omega) | omega)):α:=x
abbrev QHjE{α}(x:α:=by exact (Eq.trans (Qi _) (by rw [JN hi2];simp only [Jl,hy1,hty9,typeL_1,bS,aS]))):α:=x
abbrev QzrN{α}(x:α:=by exact (Eq.trans (Qi _) (by rw [JN hi2];simp only [Jl,hy1,hty9,typeL_2,bS,aS]))):α:=x
abbrev QLPq{α}(x:α:=by exact (Eq.trans (Qi _) (by rw [JN hi2];simp only [Jl,hy1,hty9,typeL_3,bS,aS]))):α:=x
abbrev QWCW{α}(x:α:=by exact (by first | (simp only [QF,Kd,dB,hz1,hz3,hz5,hz7,bS,lS];omega) | omega)):α:=x
abbrev QqzG{α}(x:α:=by exact (fun i hi cs hp m' l' v' W' hb' hw' hs' hz'=>HA i hi cs hp b o m' l' v' W' hb' hw' hz')):α:=x
abbrev QQ9u{α}(x:α:=by exact (by first | omega | (simp only [Qy,QP,hz1,hz3,hz5,hz7,hz9,hz11,bS];omega))):α:=x
abbrev Qe0w{α}(x:α:=by exact (by first | omega | (simp only [Qy,QP,hz1,hz3,hz5,hz7,hz9,hz32,bS];omega))):α:=x
abbrev QUGc{α}(x:α:=by exact (by have hbb:=hb hz1;simp only [lS];omega)):α:=x
abbrev QFFb{α}(x:α:=by exact (QI.sub (.below hw) h0)):α:=x
abbrev QkBX{α}(x:α:=by exact (by first | omega | (simp only [QF,Kd,dB,hz1,hz3,hz5,hz7,bS];omega))):α:=x
abbrev Qp3R{α}(x:α:=by exact (by subst el25;first | (simp only [Qy,QP,hz1,hz3,bS,lS];omega) | omega)):α:=x
abbrev Qc4b{α}(x:α:=by exact (Eq.trans (Qi _) (by simp only [Zi,hz76,hy81,bS,aS,List.cons_append]))):α:=x
abbrev QOy9{α}(x:α:=by exact (fun W1 W2 u hs h=>h.both hs fun _ _ _ ⟨v,h1,h2⟩=>⟨v,h1,h2.sub hs⟩)):α:=x
abbrev QqQE{α}(x:α:=by exact (by rw [x1.len];omega)):α:=x
abbrev QmqK{α}(x:α:=by exact (QI.sub (.below hw) h)):α:=x
abbrev QQW1{α}(x:α:=by exact (by subst_vars;simp only [Jl,typeL_1,bS,List.append_assoc,List.append_nil])):α:=x
abbrev QMLs{α}(x:α:=by exact (by subst_vars;simp only [Jl,typeL_2,bS,List.append_assoc,List.append_nil])):α:=x
abbrev Qqdh{α}(x:α:=by exact (by subst_vars;simp only [Jl,typeL_3,bS,List.append_assoc,List.append_nil])):α:=x
abbrev QdlO{α}(x:α:=by exact (Eq.trans (Qi _) (by simp only [ZL,hy2,hz10,bS,aS,List.cons_append]))):α:=x
abbrev QHNg{α}(x:α:=by exact (by subst_vars;simp only [Qp,Kw,hz1,hz3,hz5,bS,Qr,Qq])):α:=x
abbrev Qxix{α}(x:α:=by exact (fun w hw=>maybe_ok (.mk wk wo wvk wvn wvt wtb wnm wn wargs wpl wty) _ w QOF2)):α:=x
abbrev QC5S{α}(x:α:=by exact (by first | omega | (simp only [Qg,QQ,hz1,hz3,hz5,hz7,hz9,bS];omega))):α:=x
abbrev QjyW{α}(x:α:=by exact (Nat.lt_of_lt_of_le sb1_1.lt pr2.b2.size)):α:=x
abbrev QmFs{α}(x:α:=by exact (by subst_vars;simp only [Qg,QQ,hz1,hz3,hz37,bS,List.append_assoc])):α:=x
abbrev QiTK{α}(x:α:=by exact (by first | omega | (simp only [Qp,Kw,hz1,hz3,hz5,bS];omega))):α:=x
abbrev Qryt{α}(x:α:=by exact (by first | omega | (simp only [Qg,QQ,hz1,hz3,hz5,hz7,bS];omega))):α:=x
abbrev QKSS{α}(x:α:=by exact (by first | (simp only [Qg,QQ,hz1,hz3,hz37,bS,lS];omega) | omega)):α:=x
abbrev QPzJ{α}(x:α:=by exact (by subst el2;first | (simp only [Q8,Zl,bS,lS];omega) | omega)):α:=x
abbrev QZB4{α}(x:α:=by exact (Qz sb1_1.at_ (.below pr2.b2))):α:=x
abbrev QmeO{α}(x:α:=by exact (fun W1 W2 i cs hs h=>KeIn.sub hs h)):α:=x
abbrev Qomw{α}(x:α:=by exact (fun W1 W2 i cs hs h=>StIn.sub hs h)):α:=x
abbrev QOxk{α}(x:α:=by exact (fun W1 W2 i cs hs h=>ItIn.sub hs h)):α:=x
abbrev QacL{α}(x:α:=by exact (fun W1 W2 i cs hs h=>SoIn.sub hs h)):α:=x
abbrev QrMl{α}(x:α:=by exact (fun W1 W2 i cs hs h=>OdIn.sub hs h)):α:=x
abbrev QsOc{α}(x:α:=by exact (Ks.sub QPEH h0)):α:=x
abbrev QpXX{α}(x:α:=by exact (by simpa [Kk] using hq)):α:=x
abbrev QQbV{α}(x:α:=by exact (by rw [l2'];kernel_rfl)):α:=x
abbrev QWH9{α}(x:α:=by exact (QI.sub (.below hw) ep2)):α:=x
abbrev QyAJ{α}(x:α:=by exact (.below hO.bl)):α:=x
abbrev QjVY{α}(x:α:=by exact (by first | omega | (simp only [ZW,Jv,hz2,bS];omega))):α:=x
abbrev QHQa{α}(x:α:=by exact (by first | omega | (simp only [Q8,Zl,hz29,bS];omega))):α:=x
abbrev QxZi{α}(x:α:=by exact (QI.sub (.below hw) x1)):α:=x
abbrev QIu1{α}(x:α:=by exact (fun w hw=>zeroE_ref (fr i5).e _ w (QI.sub (.below hw) ie6))):α:=x
abbrev Qozy{α}(x:α:=by exact (fun w hw=>may9_ok wh _ w QOF2)):α:=x
abbrev QP7e{α}(x:α:=by exact (by rw [← QB,hz33];try rfl)):α:=x
abbrev QgAR{α}(x:α:=by exact (by rw [x2.len];omega)):α:=x
abbrev QgFG{α}(x:α:=by exact (by first | (simp only [ZL,itemD,bS,lS];omega) | omega)):α:=x
abbrev QYy5{α}(x:α:=by exact (by first | omega | (simp only [Q8,Zl,bS];omega))):α:=x
abbrev Qdnl{α}(x:α:=by exact (Below.andThen bl5 h6.rp.below)):α:=x
abbrev Qpry{α}(x:α:=by exact (fun _ _ _ _ hs ⟨v,h1,h2⟩=>⟨v,h1,h2.sub hs⟩)):α:=x
abbrev QXdE{α}(x:α:=by exact (by subst_vars;simp only [ZW,Jv,hz2,bS,aS])):α:=x
abbrev Qjzk{α}(x:α:=by exact (by subst_vars;simp only [ZL,itemD,hz3,bS,aS])):α:=x
abbrev QGeT{α}(x:α:=by exact (by first | omega | (simp only [hy4,hy5,bS];omega))):α:=x
abbrev QxtV{α}(x:α:=by exact (by subst_vars;first | rfl | (rw [Qr];rfl))):α:=x
abbrev QTcd{α}(x:α:=by exact (by first | omega | (simp only [hz2,bS];omega))):α:=x
end Go.Proofs.YtddedijencleeaaGreatDoor
