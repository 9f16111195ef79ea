/- ref9.rest: what a kind has no use for is zero. -/
import Derived.Test.YtddedijencleeaaGreatDoorSm
import Derived.Test.YtddedijencleeaaGreatDoorMSq
import Derived.Test.YtddedijencleeaaGreatDoorMUf
set_option linter.all false
namespace Go.Proofs.YtddedijencleeaaGreatDoor
set_option maxRecDepth 100000
set_option maxHeartbeats 8000000
open Tryz
open Go.RowKit Go.Lib RC
noncomputable abbrev c9rest:Code:=Qt f36
theorem QR.small {W:World} {size bytes n:Nat} {v:Value} {P:Nat→List Value→Prop} (h:QR W size bytes n v P):n*bytes≤140737488355328:=by obtain ⟨_,_,_,_,_,h,_⟩:=h;exact h

noncomputable def QM (s:S):Bool:=
 (s.kind==1||(QB s.tab.nm ⟨#[]⟩&&((s.tab.nc+s.tab.nk:Nat):Int)==0&&(s.nkc:Int)==0)) &&
 (s.kind==2||s.kind==3||s.kind==5||s.kind==6||s.kind==7||QB s.nm ⟨#[]⟩) &&
 (s.kind==2||s.kind==4||QB s.ix ⟨#[]⟩)&&(s.kind==2|| !s.un) &&
 (s.kind==2||s.kind==5||(s.cl.n:Int)==0)&&(s.kind==5||(s.nrw:Int)==0) &&
 (s.kind==6||(s.nst:Int)==0)&&(s.kind==6||s.kind==7||s.kind==8||QE s.wh) &&
 (s.kind==8||(!s.di&&((s.nit+s.nfr+s.gr.n+s.nor:Nat):Int)==0&&QE s.hv&&s.li==0))
theorem rest9_ok (s:S) (cs:List Value) (W:World) (h:Ks W s cs) :
 Calls prog 36 #[.agg cs.toArray] W fun r W'=>r= .returned (.bool (QM s))∧Below W.heap.size W W':=by
 obtain ⟨kind,⟨tnm,tnc,tcols,tnk,tkeys⟩,nkc,kc,nm,ix,un,⟨ncl,cl⟩,nrw,rw_,nst,st,wh,di,nit,it,nfr,fr,⟨ngr,gr⟩,hv,nor,od,li⟩:=s
 obtain ⟨tA,tc,tB,td,A1,c1,A2,c2,A3,c3,A4,c4,A5,c5,A6,c6,A7,c7,A8,c8,wk,wo,wvk,wvn,wvt,wtb,wnm,wA,wn,wc,wpl,wty,hk,ho,hvk,hvn,hvt,htb,hnm,hA,hn,hc,hpl,hty,rfl,h0,ia,t1,t2⟩:=Ks.opn h
 have iwh:=ia.wh
 have ihv:=ia.hv
 have sumA:tnc+tnk≤9223372036854775807:=by have b1:tnc*32≤140737488355328:=t1.small;have b2:tnk*48≤140737488355328:=t2.small;omega
 have sumB:nit+nfr+ngr+nor≤9223372036854775807:=by have b1:nit*144≤140737488355328:=ia.it.small;have b2:nfr*160≤140737488355328:=ia.fr.small;have b3:ngr*120≤140737488355328:=QR.small ia.gr;have b4:nor*128≤140737488355328:=ia.od.small;omega
 refine Qj (args:=[.agg (Zs kind tnm tA tnc tc tB tnk td A1 nkc c1 nm ix un A2 ncl c2 A3 nrw c3 A4 nst c4 wk wo wvk wvn wvt wtb wnm wA wn wc wpl wty di A5 nit c5 A6 nfr c6 A7 ngr c7 hk ho hvk hvn hvt htb hnm hA hn hc hpl hty A8 nor c8 li).toArray]) (c:=c9rest) func36 rfl (by kernel_rfl) fun a0 hst=> ?_
 obtain ⟨z1,hz1⟩: ∃ z,(kind==8)=z:=⟨_,rfl⟩
 have F2:=QN W hz1
 obtain ⟨z3,hz3⟩: ∃ z,(kind==1)=z:=⟨_,rfl⟩
 have F4:=QN W hz3
 cases z3
 rotate_left
 · have he225:=eq_of_beq hz3
   have hl226:(kind==2)=false:=by rw [he225];rfl
   have F227:=QN W hl226
   have hl228:(kind==3)=false:=by rw [he225];rfl
   have F229:=QN W hl228
   have hl230:(kind==5)=false:=by rw [he225];rfl
   have F231:=QN W hl230
   have hl232:(kind==6)=false:=by rw [he225];rfl
   have F233:=QN W hl232
   have hl234:(kind==7)=false:=by rw [he225];rfl
   have F235:=QN W hl234
   obtain ⟨z236,hz236⟩: ∃ z,(QB nm ⟨#[]⟩)=z:=⟨_,rfl⟩
   have F237:=sd W (Qb.strEq (t:=9) (a:=nm) (b:=⟨#[]⟩) (by rw [← QB,hz236]))
   cases z236
   · exact gE hst (kE8 F2 F4 F227 F229 F231 F233 F235 F237) [.bool false] fun w' hw=>⟨by simp only [QM,hz1,hz3,hl226,hl228,hl230,hl232,hl234,hz236,bS];rfl,hw⟩
   have F238:=QN W hl226
   have hl239:(kind==4)=false:=by rw [he225];rfl
   have F240:=QN W hl239
   obtain ⟨z241,hz241⟩: ∃ z,(QB ix ⟨#[]⟩)=z:=⟨_,rfl⟩
   have F242:=sd W (Qb.strEq (t:=9) (a:=ix) (b:=⟨#[]⟩) (by rw [← QB,hz241]))
   cases z241
   · exact gE hst (JD F2 F4 F227 F229 F231 F233 F235 F237 F238 F240 F242) [.bool false] fun w' hw=>⟨by simp only [QM,hz1,hz3,hl226,hl228,hl230,hl232,hl234,hz236,hl239,hz241,bS];rfl,hw⟩
   have F243:=QN W hl226
   cases un
   rotate_left
   · exact gE hst (kE12 F2 F4 F227 F229 F231 F233 F235 F237 F238 F240 F242 F243) [.bool false] fun w' hw=>⟨by simp only [QM,hz1,hz3,hl226,hl228,hl230,hl232,hl234,hz236,hl239,hz241,bS];rfl,hw⟩
   have F244:=QN W hl226
   have F245:=QN W hl230
   obtain ⟨z246,hz246⟩: ∃ z,(((ncl:Nat):Int)==0)=z:=⟨_,rfl⟩
   have F247:=QN W hz246
   cases z246
   · exact gE hst (kE15 F2 F4 F227 F229 F231 F233 F235 F237 F238 F240 F242 F243 F244 F245 F247) [.bool false] fun w' hw=>⟨by simp only [QM,hz1,hz3,hl226,hl228,hl230,hl232,hl234,hz236,hl239,hz241,hz246,bS];rfl,hw⟩
   have F248:=QN W hl230
   obtain ⟨z249,hz249⟩: ∃ z,(((nrw:Nat):Int)==0)=z:=⟨_,rfl⟩
   have F250:=QN W hz249
   cases z249
   · exact gE hst (kO1 F2 (Q7 F4 F227 F229 F231 F233 F235 F237 F238 F240 F242 F243 F244 F245 F247 F248 F250)) [.bool false] fun w' hw=>⟨by simp only [QM,hz1,hz3,hl226,hl228,hl230,hl232,hl234,hz236,hl239,hz241,hz246,hz249,bS];rfl,hw⟩
   have F251:=QN W hl232
   obtain ⟨z252,hz252⟩: ∃ z,(((nst:Nat):Int)==0)=z:=⟨_,rfl⟩
   have F253:=QN W hz252
   cases z252
   · exact gE hst (kO3 F2 F4 F227 (Q7 F229 F231 F233 F235 F237 F238 F240 F242 F243 F244 F245 F247 F248 F250 F251 F253)) [.bool false] fun w' hw=>⟨by simp only [QM,hz1,hz3,hl226,hl228,hl230,hl232,hl234,hz236,hl239,hz241,hz246,hz249,hz252,bS];rfl,hw⟩
   have F254:=QN W hl232
   have F255:=QN W hl234
   cases z1
   rotate_left
   · have he267:=eq_of_beq hz1
     exact gE hst (kO5 F2 F4 F227 F229 F231 (Q7 F233 F235 F237 F238 F240 F242 F243 F244 F245 F247 F248 F250 F251 F253 F254 F255)) [.bool true] fun w' hw=>⟨by simp only [QM,hz1,hz3,hl226,hl228,hl230,hl232,hl234,hz236,hl239,hz241,hz246,hz249,hz252,bS];rfl,hw⟩
   obtain ⟨z256,hz256⟩: ∃ z,(QE wh)=z:=⟨_,rfl⟩
   have C257:Sd W (.call 118 [eV wk wo wvk wvn wvt wtb wnm wA wn wc wpl wty] (.bool z256)):=by rw [← hz256];exact Qb.of func118 rfl Qd QMg9
   cases z256
   · exact QxRD
   cases di
   · have F258:=sd W (Qb.addN (t:=3) (a:=nit) (b:=nfr) (by omega))
     have F259:=sd W (Qb.addN (t:=3) (a:=nit+nfr) (b:=ngr) (by omega))
     have F260:=sd W (Qb.addN (t:=3) (a:=nit+nfr+ngr) (b:=nor) (by omega))
     obtain ⟨z261,hz261⟩: ∃ z,(((nit+nfr+ngr+nor:Nat):Int)==0)=z:=⟨_,rfl⟩
     have F262:=QN W hz261
     cases z261
     · exact gE hst (kO10 F2 F4 F227 F229 F231 F233 F235 F237 F238 F240 (Q7 F242 F243 F244 F245 F247 F248 F250 F251 F253 F254 F255 C257 F258 F259 F260 F262)) [.bool false] fun w' hw=>⟨by simp only [QM,hz1,hz3,hl226,hl228,hl230,hl232,hl234,hz236,hl239,hz241,hz246,hz249,hz252,hz256,hz261,bS];rfl,hw⟩
     obtain ⟨z263,hz263⟩: ∃ z,(QE hv)=z:=⟨_,rfl⟩
     have C264:Sd W (.call 118 [eV hk ho hvk hvn hvt htb hnm hA hn hc hpl hty] (.bool z263)):=by rw [← hz263];exact Qb.of func118 rfl Qd QPjn
     cases z263
     · exact gE hst (kO11 F2 F4 F227 F229 F231 F233 F235 F237 F238 F240 F242 (Q7 F243 F244 F245 F247 F248 F250 F251 F253 F254 F255 C257 F258 F259 F260 F262 C264)) [.bool false] fun w' hw=>⟨by simp only [QM,hz1,hz3,hl226,hl228,hl230,hl232,hl234,hz236,hl239,hz241,hz246,hz249,hz252,hz256,hz261,hz263,bS];rfl,hw⟩
     obtain ⟨z265,hz265⟩: ∃ z,(li==0)=z:=⟨_,rfl⟩
     have F266:=sd W (Qb.intEq (t:=2) (k:=.i64) (a:=li) (b:=0) hz265)
     exact gE hst (kO12 F2 F4 F227 F229 F231 F233 F235 F237 F238 F240 F242 F243 (Q7 F244 F245 F247 F248 F250 F251 F253 F254 F255 C257 F258 F259 F260 F262 C264 F266)) [.bool z265] fun w' hw=>⟨by simp only [QM,hz1,hz3,hl226,hl228,hl230,hl232,hl234,hz236,hl239,hz241,hz246,hz249,hz252,hz256,hz261,hz263,hz265,bS];rfl,hw⟩
   exact QxRD
 obtain ⟨z5,hz5⟩: ∃ z,(QB tnm ⟨#[]⟩)=z:=⟨_,rfl⟩
 have F6:=sd W (Qb.strEq (t:=9) (a:=tnm) (b:=⟨#[]⟩) (by rw [← QB,hz5]))
 cases z5
 · exact gE hst (kE3 F2 F4 F6) [.bool false] fun w' hw=>⟨by simp only [QM,hz1,hz3,hz5,bS];rfl,hw⟩
 have F7:=sd W (Qb.addN (t:=3) (a:=tnc) (b:=tnk) (by omega))
 obtain ⟨z8,hz8⟩: ∃ z,(((tnc+tnk:Nat):Int)==0)=z:=⟨_,rfl⟩
 have F9:=QN W hz8
 cases z8
 · exact gE hst (kE5 F2 F4 F6 F7 F9) [.bool false] fun w' hw=>⟨by simp only [QM,hz1,hz3,hz5,hz8,bS];rfl,hw⟩
 obtain ⟨z10,hz10⟩: ∃ z,(((nkc:Nat):Int)==0)=z:=⟨_,rfl⟩
 have F11:=QN W hz10
 cases z10
 · exact gE hst (Je F2 F4 F6 F7 F9 F11) [.bool false] fun w' hw=>⟨by simp only [QM,hz1,hz3,hz5,hz8,hz10,bS];rfl,hw⟩
 obtain ⟨z12,hz12⟩: ∃ z,(kind==2)=z:=⟨_,rfl⟩
 have F13:=QN W hz12
 cases z12
 rotate_left
 · have he198:=eq_of_beq hz12
   have F199:=QN W hz12
   have F200:=QN W hz12
   have F201:=QN W hz12
   have hl202:(kind==5)=false:=by rw [he198];rfl
   have F203:=QN W hl202
   obtain ⟨z204,hz204⟩: ∃ z,(((nrw:Nat):Int)==0)=z:=⟨_,rfl⟩
   have F205:=QN W hz204
   cases z204
   · exact gE hst (kE12 F2 F4 F6 F7 F9 F11 F13 F199 F200 F201 F203 F205) [.bool false] fun w' hw=>⟨by simp only [QM,hz1,hz3,hz5,hz8,hz10,hz12,hl202,hz204,bS];rfl,hw⟩
   have hl206:(kind==6)=false:=by rw [he198];rfl
   have F207:=QN W hl206
   obtain ⟨z208,hz208⟩: ∃ z,(((nst:Nat):Int)==0)=z:=⟨_,rfl⟩
   have F209:=QN W hz208
   cases z208
   · exact gE hst (kE14 F2 F4 F6 F7 F9 F11 F13 F199 F200 F201 F203 F205 F207 F209) [.bool false] fun w' hw=>⟨by simp only [QM,hz1,hz3,hz5,hz8,hz10,hz12,hl202,hz204,hl206,hz208,bS];rfl,hw⟩
   have F210:=QN W hl206
   have hl211:(kind==7)=false:=by rw [he198];rfl
   have F212:=QN W hl211
   cases z1
   rotate_left
   · have he224:=eq_of_beq hz1
     exact gE hst (Q7 F2 F4 F6 F7 F9 F11 F13 F199 F200 F201 F203 F205 F207 F209 F210 F212) [.bool true] fun w' hw=>⟨by simp only [QM,hz1,hz3,hz5,hz8,hz10,hz12,hl202,hz204,hl206,hz208,hl211,bS];rfl,hw⟩
   obtain ⟨z213,hz213⟩: ∃ z,(QE wh)=z:=⟨_,rfl⟩
   have C214:Sd W (.call 118 [eV wk wo wvk wvn wvt wtb wnm wA wn wc wpl wty] (.bool z213)):=by rw [← hz213];exact Qb.of func118 rfl Qd QMg9
   cases z213
   · exact Qni1
   cases di
   · have F215:=sd W (Qb.addN (t:=3) (a:=nit) (b:=nfr) (by omega))
     have F216:=sd W (Qb.addN (t:=3) (a:=nit+nfr) (b:=ngr) (by omega))
     have F217:=sd W (Qb.addN (t:=3) (a:=nit+nfr+ngr) (b:=nor) (by omega))
     obtain ⟨z218,hz218⟩: ∃ z,(((nit+nfr+ngr+nor:Nat):Int)==0)=z:=⟨_,rfl⟩
     have F219:=QN W hz218
     cases z218
     · exact gE hst (kO5 F2 F4 F6 F7 F9 (Q7 F11 F13 F199 F200 F201 F203 F205 F207 F209 F210 F212 C214 F215 F216 F217 F219)) [.bool false] fun w' hw=>⟨by simp only [QM,hz1,hz3,hz5,hz8,hz10,hz12,hl202,hz204,hl206,hz208,hl211,hz213,hz218,bS];rfl,hw⟩
     obtain ⟨z220,hz220⟩: ∃ z,(QE hv)=z:=⟨_,rfl⟩
     have C221:Sd W (.call 118 [eV hk ho hvk hvn hvt htb hnm hA hn hc hpl hty] (.bool z220)):=by rw [← hz220];exact Qb.of func118 rfl Qd QPjn
     cases z220
     · exact gE hst (kO6 F2 F4 F6 F7 F9 F11 (Q7 F13 F199 F200 F201 F203 F205 F207 F209 F210 F212 C214 F215 F216 F217 F219 C221)) [.bool false] fun w' hw=>⟨by simp only [QM,hz1,hz3,hz5,hz8,hz10,hz12,hl202,hz204,hl206,hz208,hl211,hz213,hz218,hz220,bS];rfl,hw⟩
     obtain ⟨z222,hz222⟩: ∃ z,(li==0)=z:=⟨_,rfl⟩
     have F223:=sd W (Qb.intEq (t:=2) (k:=.i64) (a:=li) (b:=0) hz222)
     exact gE hst (kO7 F2 F4 F6 F7 F9 F11 F13 (Q7 F199 F200 F201 F203 F205 F207 F209 F210 F212 C214 F215 F216 F217 F219 C221 F223)) [.bool z222] fun w' hw=>⟨by simp only [QM,hz1,hz3,hz5,hz8,hz10,hz12,hl202,hz204,hl206,hz208,hl211,hz213,hz218,hz220,hz222,bS];rfl,hw⟩
   exact Qni1
 obtain ⟨z14,hz14⟩: ∃ z,(kind==3)=z:=⟨_,rfl⟩
 have F15:=QN W hz14
 cases z14
 rotate_left
 · have he164:=eq_of_beq hz14
   have F165:=QN W hz12
   have hl166:(kind==4)=false:=by rw [he164];rfl
   have F167:=QN W hl166
   obtain ⟨z168,hz168⟩: ∃ z,(QB ix ⟨#[]⟩)=z:=⟨_,rfl⟩
   have F169:=sd W (Qb.strEq (t:=9) (a:=ix) (b:=⟨#[]⟩) (by rw [← QB,hz168]))
   cases z168
   · exact gE hst (JD F2 F4 F6 F7 F9 F11 F13 F15 F165 F167 F169) [.bool false] fun w' hw=>⟨by simp only [QM,hz1,hz3,hz5,hz8,hz10,hz12,hz14,hl166,hz168,bS];rfl,hw⟩
   have F170:=QN W hz12
   cases un
   rotate_left
   · exact gE hst (kE12 F2 F4 F6 F7 F9 F11 F13 F15 F165 F167 F169 F170) [.bool false] fun w' hw=>⟨by simp only [QM,hz1,hz3,hz5,hz8,hz10,hz12,hz14,hl166,hz168,bS];rfl,hw⟩
   have F171:=QN W hz12
   have hl172:(kind==5)=false:=by rw [he164];rfl
   have F173:=QN W hl172
   obtain ⟨z174,hz174⟩: ∃ z,(((ncl:Nat):Int)==0)=z:=⟨_,rfl⟩
   have F175:=QN W hz174
   cases z174
   · exact gE hst (kE15 F2 F4 F6 F7 F9 F11 F13 F15 F165 F167 F169 F170 F171 F173 F175) [.bool false] fun w' hw=>⟨by simp only [QM,hz1,hz3,hz5,hz8,hz10,hz12,hz14,hl166,hz168,hl172,hz174,bS];rfl,hw⟩
   have F176:=QN W hl172
   obtain ⟨z177,hz177⟩: ∃ z,(((nrw:Nat):Int)==0)=z:=⟨_,rfl⟩
   have F178:=QN W hz177
   cases z177
   · exact gE hst (kO1 F2 (Q7 F4 F6 F7 F9 F11 F13 F15 F165 F167 F169 F170 F171 F173 F175 F176 F178)) [.bool false] fun w' hw=>⟨by simp only [QM,hz1,hz3,hz5,hz8,hz10,hz12,hz14,hl166,hz168,hl172,hz174,hz177,bS];rfl,hw⟩
   have hl179:(kind==6)=false:=by rw [he164];rfl
   have F180:=QN W hl179
   obtain ⟨z181,hz181⟩: ∃ z,(((nst:Nat):Int)==0)=z:=⟨_,rfl⟩
   have F182:=QN W hz181
   cases z181
   · exact gE hst (kO3 F2 F4 F6 (Q7 F7 F9 F11 F13 F15 F165 F167 F169 F170 F171 F173 F175 F176 F178 F180 F182)) [.bool false] fun w' hw=>⟨by simp only [QM,hz1,hz3,hz5,hz8,hz10,hz12,hz14,hl166,hz168,hl172,hz174,hz177,hl179,hz181,bS];rfl,hw⟩
   have F183:=QN W hl179
   have hl184:(kind==7)=false:=by rw [he164];rfl
   have F185:=QN W hl184
   cases z1
   rotate_left
   · have he197:=eq_of_beq hz1
     exact gE hst (kO5 F2 F4 F6 F7 F9 (Q7 F11 F13 F15 F165 F167 F169 F170 F171 F173 F175 F176 F178 F180 F182 F183 F185)) [.bool true] fun w' hw=>⟨by simp only [QM,hz1,hz3,hz5,hz8,hz10,hz12,hz14,hl166,hz168,hl172,hz174,hz177,hl179,hz181,hl184,bS];rfl,hw⟩
   obtain ⟨z186,hz186⟩: ∃ z,(QE wh)=z:=⟨_,rfl⟩
   have C187:Sd W (.call 118 [eV wk wo wvk wvn wvt wtb wnm wA wn wc wpl wty] (.bool z186)):=by rw [← hz186];exact Qb.of func118 rfl Qd QMg9
   cases z186
   · exact QIrI
   cases di
   · have F188:=sd W (Qb.addN (t:=3) (a:=nit) (b:=nfr) (by omega))
     have F189:=sd W (Qb.addN (t:=3) (a:=nit+nfr) (b:=ngr) (by omega))
     have F190:=sd W (Qb.addN (t:=3) (a:=nit+nfr+ngr) (b:=nor) (by omega))
     obtain ⟨z191,hz191⟩: ∃ z,(((nit+nfr+ngr+nor:Nat):Int)==0)=z:=⟨_,rfl⟩
     have F192:=QN W hz191
     cases z191
     · exact gE hst (kO10 F2 F4 F6 F7 F9 F11 F13 F15 F165 F167 (Q7 F169 F170 F171 F173 F175 F176 F178 F180 F182 F183 F185 C187 F188 F189 F190 F192)) [.bool false] fun w' hw=>⟨by simp only [QM,hz1,hz3,hz5,hz8,hz10,hz12,hz14,hl166,hz168,hl172,hz174,hz177,hl179,hz181,hl184,hz186,hz191,bS];rfl,hw⟩
     obtain ⟨z193,hz193⟩: ∃ z,(QE hv)=z:=⟨_,rfl⟩
     have C194:Sd W (.call 118 [eV hk ho hvk hvn hvt htb hnm hA hn hc hpl hty] (.bool z193)):=by rw [← hz193];exact Qb.of func118 rfl Qd QPjn
     cases z193
     · exact gE hst (kO11 F2 F4 F6 F7 F9 F11 F13 F15 F165 F167 F169 (Q7 F170 F171 F173 F175 F176 F178 F180 F182 F183 F185 C187 F188 F189 F190 F192 C194)) [.bool false] fun w' hw=>⟨by simp only [QM,hz1,hz3,hz5,hz8,hz10,hz12,hz14,hl166,hz168,hl172,hz174,hz177,hl179,hz181,hl184,hz186,hz191,hz193,bS];rfl,hw⟩
     obtain ⟨z195,hz195⟩: ∃ z,(li==0)=z:=⟨_,rfl⟩
     have F196:=sd W (Qb.intEq (t:=2) (k:=.i64) (a:=li) (b:=0) hz195)
     exact gE hst (kO12 F2 F4 F6 F7 F9 F11 F13 F15 F165 F167 F169 F170 (Q7 F171 F173 F175 F176 F178 F180 F182 F183 F185 C187 F188 F189 F190 F192 C194 F196)) [.bool z195] fun w' hw=>⟨by simp only [QM,hz1,hz3,hz5,hz8,hz10,hz12,hz14,hl166,hz168,hl172,hz174,hz177,hl179,hz181,hl184,hz186,hz191,hz193,hz195,bS];rfl,hw⟩
   exact QIrI
 obtain ⟨z16,hz16⟩: ∃ z,(kind==5)=z:=⟨_,rfl⟩
 have F17:=QN W hz16
 cases z16
 rotate_left
 · have he135:=eq_of_beq hz16
   have F136:=QN W hz12
   have hl137:(kind==4)=false:=by rw [he135];rfl
   have F138:=QN W hl137
   obtain ⟨z139,hz139⟩: ∃ z,(QB ix ⟨#[]⟩)=z:=⟨_,rfl⟩
   have F140:=sd W (Qb.strEq (t:=9) (a:=ix) (b:=⟨#[]⟩) (by rw [← QB,hz139]))
   cases z139
   · exact gE hst (kE12 F2 F4 F6 F7 F9 F11 F13 F15 F17 F136 F138 F140) [.bool false] fun w' hw=>⟨by simp only [QM,hz1,hz3,hz5,hz8,hz10,hz12,hz14,hz16,hl137,hz139,bS];rfl,hw⟩
   have F141:=QN W hz12
   cases un
   rotate_left
   · exact gE hst (kE13 F2 F4 F6 F7 F9 F11 F13 F15 F17 F136 F138 F140 F141) [.bool false] fun w' hw=>⟨by simp only [QM,hz1,hz3,hz5,hz8,hz10,hz12,hz14,hz16,hl137,hz139,bS];rfl,hw⟩
   have F142:=QN W hz12
   have F143:=QN W hz16
   have F144:=QN W hz16
   have hl145:(kind==6)=false:=by rw [he135];rfl
   have F146:=QN W hl145
   obtain ⟨z147,hz147⟩: ∃ z,(((nst:Nat):Int)==0)=z:=⟨_,rfl⟩
   have F148:=QN W hz147
   cases z147
   · exact gE hst (kO2 F2 F4 (Q7 F6 F7 F9 F11 F13 F15 F17 F136 F138 F140 F141 F142 F143 F144 F146 F148)) [.bool false] fun w' hw=>⟨by simp only [QM,hz1,hz3,hz5,hz8,hz10,hz12,hz14,hz16,hl137,hz139,hl145,hz147,bS];rfl,hw⟩
   have F149:=QN W hl145
   have hl150:(kind==7)=false:=by rw [he135];rfl
   have F151:=QN W hl150
   cases z1
   rotate_left
   · have he163:=eq_of_beq hz1
     exact gE hst (kO4 F2 F4 F6 F7 (Q7 F9 F11 F13 F15 F17 F136 F138 F140 F141 F142 F143 F144 F146 F148 F149 F151)) [.bool true] fun w' hw=>⟨by simp only [QM,hz1,hz3,hz5,hz8,hz10,hz12,hz14,hz16,hl137,hz139,hl145,hz147,hl150,bS];rfl,hw⟩
   obtain ⟨z152,hz152⟩: ∃ z,(QE wh)=z:=⟨_,rfl⟩
   have C153:Sd W (.call 118 [eV wk wo wvk wvn wvt wtb wnm wA wn wc wpl wty] (.bool z152)):=by rw [← hz152];exact Qb.of func118 rfl Qd QMg9
   cases z152
   · exact QiQg
   cases di
   · have F154:=sd W (Qb.addN (t:=3) (a:=nit) (b:=nfr) (by omega))
     have F155:=sd W (Qb.addN (t:=3) (a:=nit+nfr) (b:=ngr) (by omega))
     have F156:=sd W (Qb.addN (t:=3) (a:=nit+nfr+ngr) (b:=nor) (by omega))
     obtain ⟨z157,hz157⟩: ∃ z,(((nit+nfr+ngr+nor:Nat):Int)==0)=z:=⟨_,rfl⟩
     have F158:=QN W hz157
     cases z157
     · exact gE hst (kO9 F2 F4 F6 F7 F9 F11 F13 F15 F17 (Q7 F136 F138 F140 F141 F142 F143 F144 F146 F148 F149 F151 C153 F154 F155 F156 F158)) [.bool false] fun w' hw=>⟨by simp only [QM,hz1,hz3,hz5,hz8,hz10,hz12,hz14,hz16,hl137,hz139,hl145,hz147,hl150,hz152,hz157,bS];rfl,hw⟩
     obtain ⟨z159,hz159⟩: ∃ z,(QE hv)=z:=⟨_,rfl⟩
     have C160:Sd W (.call 118 [eV hk ho hvk hvn hvt htb hnm hA hn hc hpl hty] (.bool z159)):=by rw [← hz159];exact Qb.of func118 rfl Qd QPjn
     cases z159
     · exact gE hst (kO10 F2 F4 F6 F7 F9 F11 F13 F15 F17 F136 (Q7 F138 F140 F141 F142 F143 F144 F146 F148 F149 F151 C153 F154 F155 F156 F158 C160)) [.bool false] fun w' hw=>⟨by simp only [QM,hz1,hz3,hz5,hz8,hz10,hz12,hz14,hz16,hl137,hz139,hl145,hz147,hl150,hz152,hz157,hz159,bS];rfl,hw⟩
     obtain ⟨z161,hz161⟩: ∃ z,(li==0)=z:=⟨_,rfl⟩
     have F162:=sd W (Qb.intEq (t:=2) (k:=.i64) (a:=li) (b:=0) hz161)
     exact gE hst (kO11 F2 F4 F6 F7 F9 F11 F13 F15 F17 F136 F138 (Q7 F140 F141 F142 F143 F144 F146 F148 F149 F151 C153 F154 F155 F156 F158 C160 F162)) [.bool z161] fun w' hw=>⟨by simp only [QM,hz1,hz3,hz5,hz8,hz10,hz12,hz14,hz16,hl137,hz139,hl145,hz147,hl150,hz152,hz157,hz159,hz161,bS];rfl,hw⟩
   exact QiQg
 obtain ⟨z18,hz18⟩: ∃ z,(kind==6)=z:=⟨_,rfl⟩
 have F19:=QN W hz18
 cases z18
 rotate_left
 · have he109:=eq_of_beq hz18
   have F110:=QN W hz12
   have hl111:(kind==4)=false:=by rw [he109];rfl
   have F112:=QN W hl111
   obtain ⟨z113,hz113⟩: ∃ z,(QB ix ⟨#[]⟩)=z:=⟨_,rfl⟩
   have F114:=sd W (Qb.strEq (t:=9) (a:=ix) (b:=⟨#[]⟩) (by rw [← QB,hz113]))
   cases z113
   · exact gE hst (kE13 F2 F4 F6 F7 F9 F11 F13 F15 F17 F19 F110 F112 F114) [.bool false] fun w' hw=>⟨by simp only [QM,hz1,hz3,hz5,hz8,hz10,hz12,hz14,hz16,hz18,hl111,hz113,bS];rfl,hw⟩
   have F115:=QN W hz12
   cases un
   rotate_left
   · exact gE hst (kE14 F2 F4 F6 F7 F9 F11 F13 F15 F17 F19 F110 F112 F114 F115) [.bool false] fun w' hw=>⟨by simp only [QM,hz1,hz3,hz5,hz8,hz10,hz12,hz14,hz16,hz18,hl111,hz113,bS];rfl,hw⟩
   have F116:=QN W hz12
   have F117:=QN W hz16
   obtain ⟨z118,hz118⟩: ∃ z,(((ncl:Nat):Int)==0)=z:=⟨_,rfl⟩
   have F119:=QN W hz118
   cases z118
   · exact gE hst (kO1 F2 (Q7 F4 F6 F7 F9 F11 F13 F15 F17 F19 F110 F112 F114 F115 F116 F117 F119)) [.bool false] fun w' hw=>⟨by simp only [QM,hz1,hz3,hz5,hz8,hz10,hz12,hz14,hz16,hz18,hl111,hz113,hz118,bS];rfl,hw⟩
   have F120:=QN W hz16
   obtain ⟨z121,hz121⟩: ∃ z,(((nrw:Nat):Int)==0)=z:=⟨_,rfl⟩
   have F122:=QN W hz121
   cases z121
   · exact gE hst (kO3 F2 F4 F6 (Q7 F7 F9 F11 F13 F15 F17 F19 F110 F112 F114 F115 F116 F117 F119 F120 F122)) [.bool false] fun w' hw=>⟨by simp only [QM,hz1,hz3,hz5,hz8,hz10,hz12,hz14,hz16,hz18,hl111,hz113,hz118,hz121,bS];rfl,hw⟩
   have F123:=QN W hz18
   have F124:=QN W hz18
   cases z1
   · cases di
     · have F125:=sd W (Qb.addN (t:=3) (a:=nit) (b:=nfr) (by omega))
       have F126:=sd W (Qb.addN (t:=3) (a:=nit+nfr) (b:=ngr) (by omega))
       have F127:=sd W (Qb.addN (t:=3) (a:=nit+nfr+ngr) (b:=nor) (by omega))
       obtain ⟨z128,hz128⟩: ∃ z,(((nit+nfr+ngr+nor:Nat):Int)==0)=z:=⟨_,rfl⟩
       have F129:=QN W hz128
       cases z128
       · exact gE hst (kO9 F2 F4 F6 F7 F9 F11 F13 F15 F17 (Q7 F19 F110 F112 F114 F115 F116 F117 F119 F120 F122 F123 F124 F125 F126 F127 F129)) [.bool false] fun w' hw=>⟨by simp only [QM,hz1,hz3,hz5,hz8,hz10,hz12,hz14,hz16,hz18,hl111,hz113,hz118,hz121,hz128,bS];rfl,hw⟩
       obtain ⟨z130,hz130⟩: ∃ z,(QE hv)=z:=⟨_,rfl⟩
       have C131:Sd W (.call 118 [eV hk ho hvk hvn hvt htb hnm hA hn hc hpl hty] (.bool z130)):=by rw [← hz130];exact Qb.of func118 rfl Qd QPjn
       cases z130
       · exact gE hst (kO10 F2 F4 F6 F7 F9 F11 F13 F15 F17 F19 (Q7 F110 F112 F114 F115 F116 F117 F119 F120 F122 F123 F124 F125 F126 F127 F129 C131)) [.bool false] fun w' hw=>⟨by simp only [QM,hz1,hz3,hz5,hz8,hz10,hz12,hz14,hz16,hz18,hl111,hz113,hz118,hz121,hz128,hz130,bS];rfl,hw⟩
       obtain ⟨z132,hz132⟩: ∃ z,(li==0)=z:=⟨_,rfl⟩
       have F133:=sd W (Qb.intEq (t:=2) (k:=.i64) (a:=li) (b:=0) hz132)
       exact gE hst (kO11 F2 F4 F6 F7 F9 F11 F13 F15 F17 F19 F110 (Q7 F112 F114 F115 F116 F117 F119 F120 F122 F123 F124 F125 F126 F127 F129 C131 F133)) [.bool z132] fun w' hw=>⟨by simp only [QM,hz1,hz3,hz5,hz8,hz10,hz12,hz14,hz16,hz18,hl111,hz113,hz118,hz121,hz128,hz130,hz132,bS];rfl,hw⟩
     exact gE hst (kO5 F2 F4 F6 F7 F9 (Q7 F11 F13 F15 F17 F19 F110 F112 F114 F115 F116 F117 F119 F120 F122 F123 F124)) [.bool false] fun w' hw=>⟨by simp only [QM,hz1,hz3,hz5,hz8,hz10,hz12,hz14,hz16,hz18,hl111,hz113,hz118,hz121,bS];rfl,hw⟩
   have he134:=eq_of_beq hz1
   exact gE hst (kO5 F2 F4 F6 F7 F9 (Q7 F11 F13 F15 F17 F19 F110 F112 F114 F115 F116 F117 F119 F120 F122 F123 F124)) [.bool true] fun w' hw=>⟨by simp only [QM,hz1,hz3,hz5,hz8,hz10,hz12,hz14,hz16,hz18,hl111,hz113,hz118,hz121,bS];rfl,hw⟩
 obtain ⟨z20,hz20⟩: ∃ z,(kind==7)=z:=⟨_,rfl⟩
 have F21:=QN W hz20
 cases z20
 rotate_left
 · have he80:=eq_of_beq hz20
   have F81:=QN W hz12
   have hl82:(kind==4)=false:=by rw [he80];rfl
   have F83:=QN W hl82
   obtain ⟨z84,hz84⟩: ∃ z,(QB ix ⟨#[]⟩)=z:=⟨_,rfl⟩
   have F85:=sd W (Qb.strEq (t:=9) (a:=ix) (b:=⟨#[]⟩) (by rw [← QB,hz84]))
   cases z84
   · exact gE hst (kE14 F2 F4 F6 F7 F9 F11 F13 F15 F17 F19 F21 F81 F83 F85) [.bool false] fun w' hw=>⟨by simp only [QM,hz1,hz3,hz5,hz8,hz10,hz12,hz14,hz16,hz18,hz20,hl82,hz84,bS];rfl,hw⟩
   have F86:=QN W hz12
   cases un
   rotate_left
   · exact gE hst (kE15 F2 F4 F6 F7 F9 F11 F13 F15 F17 F19 F21 F81 F83 F85 F86) [.bool false] fun w' hw=>⟨by simp only [QM,hz1,hz3,hz5,hz8,hz10,hz12,hz14,hz16,hz18,hz20,hl82,hz84,bS];rfl,hw⟩
   have F87:=QN W hz12
   have F88:=QN W hz16
   obtain ⟨z89,hz89⟩: ∃ z,(((ncl:Nat):Int)==0)=z:=⟨_,rfl⟩
   have F90:=QN W hz89
   cases z89
   · exact gE hst (kO2 F2 F4 (Q7 F6 F7 F9 F11 F13 F15 F17 F19 F21 F81 F83 F85 F86 F87 F88 F90)) [.bool false] fun w' hw=>⟨by simp only [QM,hz1,hz3,hz5,hz8,hz10,hz12,hz14,hz16,hz18,hz20,hl82,hz84,hz89,bS];rfl,hw⟩
   have F91:=QN W hz16
   obtain ⟨z92,hz92⟩: ∃ z,(((nrw:Nat):Int)==0)=z:=⟨_,rfl⟩
   have F93:=QN W hz92
   cases z92
   · exact gE hst (kO4 F2 F4 F6 F7 (Q7 F9 F11 F13 F15 F17 F19 F21 F81 F83 F85 F86 F87 F88 F90 F91 F93)) [.bool false] fun w' hw=>⟨by simp only [QM,hz1,hz3,hz5,hz8,hz10,hz12,hz14,hz16,hz18,hz20,hl82,hz84,hz89,hz92,bS];rfl,hw⟩
   have F94:=QN W hz18
   obtain ⟨z95,hz95⟩: ∃ z,(((nst:Nat):Int)==0)=z:=⟨_,rfl⟩
   have F96:=QN W hz95
   cases z95
   · exact gE hst (kO6 F2 F4 F6 F7 F9 F11 (Q7 F13 F15 F17 F19 F21 F81 F83 F85 F86 F87 F88 F90 F91 F93 F94 F96)) [.bool false] fun w' hw=>⟨by simp only [QM,hz1,hz3,hz5,hz8,hz10,hz12,hz14,hz16,hz18,hz20,hl82,hz84,hz89,hz92,hz95,bS];rfl,hw⟩
   have F97:=QN W hz18
   have F98:=QN W hz20
   cases z1
   · cases di
     · have F99:=sd W (Qb.addN (t:=3) (a:=nit) (b:=nfr) (by omega))
       have F100:=sd W (Qb.addN (t:=3) (a:=nit+nfr) (b:=ngr) (by omega))
       have F101:=sd W (Qb.addN (t:=3) (a:=nit+nfr+ngr) (b:=nor) (by omega))
       obtain ⟨z102,hz102⟩: ∃ z,(((nit+nfr+ngr+nor:Nat):Int)==0)=z:=⟨_,rfl⟩
       have F103:=QN W hz102
       cases z102
       · exact gE hst (kO12 F2 F4 F6 F7 F9 F11 F13 F15 F17 F19 F21 F81 (Q7 F83 F85 F86 F87 F88 F90 F91 F93 F94 F96 F97 F98 F99 F100 F101 F103)) [.bool false] fun w' hw=>⟨by simp only [QM,hz1,hz3,hz5,hz8,hz10,hz12,hz14,hz16,hz18,hz20,hl82,hz84,hz89,hz92,hz95,hz102,bS];rfl,hw⟩
       obtain ⟨z104,hz104⟩: ∃ z,(QE hv)=z:=⟨_,rfl⟩
       have C105:Sd W (.call 118 [eV hk ho hvk hvn hvt htb hnm hA hn hc hpl hty] (.bool z104)):=by rw [← hz104];exact Qb.of func118 rfl Qd QPjn
       cases z104
       · exact gE hst (kO13 F2 F4 F6 F7 F9 F11 F13 F15 F17 F19 F21 F81 F83 (Q7 F85 F86 F87 F88 F90 F91 F93 F94 F96 F97 F98 F99 F100 F101 F103 C105)) [.bool false] fun w' hw=>⟨by simp only [QM,hz1,hz3,hz5,hz8,hz10,hz12,hz14,hz16,hz18,hz20,hl82,hz84,hz89,hz92,hz95,hz102,hz104,bS];rfl,hw⟩
       obtain ⟨z106,hz106⟩: ∃ z,(li==0)=z:=⟨_,rfl⟩
       have F107:=sd W (Qb.intEq (t:=2) (k:=.i64) (a:=li) (b:=0) hz106)
       exact gE hst (kO14 F2 F4 F6 F7 F9 F11 F13 F15 F17 F19 F21 F81 F83 F85 (Q7 F86 F87 F88 F90 F91 F93 F94 F96 F97 F98 F99 F100 F101 F103 C105 F107)) [.bool z106] fun w' hw=>⟨by simp only [QM,hz1,hz3,hz5,hz8,hz10,hz12,hz14,hz16,hz18,hz20,hl82,hz84,hz89,hz92,hz95,hz102,hz104,hz106,bS];rfl,hw⟩
     exact gE hst (kO8 F2 F4 F6 F7 F9 F11 F13 F15 (Q7 F17 F19 F21 F81 F83 F85 F86 F87 F88 F90 F91 F93 F94 F96 F97 F98)) [.bool false] fun w' hw=>⟨by simp only [QM,hz1,hz3,hz5,hz8,hz10,hz12,hz14,hz16,hz18,hz20,hl82,hz84,hz89,hz92,hz95,bS];rfl,hw⟩
   have he108:=eq_of_beq hz1
   exact gE hst (kO8 F2 F4 F6 F7 F9 F11 F13 F15 (Q7 F17 F19 F21 F81 F83 F85 F86 F87 F88 F90 F91 F93 F94 F96 F97 F98)) [.bool true] fun w' hw=>⟨by simp only [QM,hz1,hz3,hz5,hz8,hz10,hz12,hz14,hz16,hz18,hz20,hl82,hz84,hz89,hz92,hz95,bS];rfl,hw⟩
 obtain ⟨z22,hz22⟩: ∃ z,(QB nm ⟨#[]⟩)=z:=⟨_,rfl⟩
 have F23:=sd W (Qb.strEq (t:=9) (a:=nm) (b:=⟨#[]⟩) (by rw [← QB,hz22]))
 cases z22
 · exact gE hst (kE12 F2 F4 F6 F7 F9 F11 F13 F15 F17 F19 F21 F23) [.bool false] fun w' hw=>⟨by simp only [QM,hz1,hz3,hz5,hz8,hz10,hz12,hz14,hz16,hz18,hz20,hz22,bS];rfl,hw⟩
 have F24:=QN W hz12
 obtain ⟨z25,hz25⟩: ∃ z,(kind==4)=z:=⟨_,rfl⟩
 have F26:=QN W hz25
 cases z25
 · obtain ⟨z27,hz27⟩: ∃ z,(QB ix ⟨#[]⟩)=z:=⟨_,rfl⟩
   have F28:=sd W (Qb.strEq (t:=9) (a:=ix) (b:=⟨#[]⟩) (by rw [← QB,hz27]))
   cases z27
   · exact gE hst (kE15 F2 F4 F6 F7 F9 F11 F13 F15 F17 F19 F21 F23 F24 F26 F28) [.bool false] fun w' hw=>⟨by simp only [QM,hz1,hz3,hz5,hz8,hz10,hz12,hz14,hz16,hz18,hz20,hz22,hz25,hz27,bS];rfl,hw⟩
   have F29:=QN W hz12
   cases un
   rotate_left
   · exact gE hst (Q7 F2 F4 F6 F7 F9 F11 F13 F15 F17 F19 F21 F23 F24 F26 F28 F29) [.bool false] fun w' hw=>⟨by simp only [QM,hz1,hz3,hz5,hz8,hz10,hz12,hz14,hz16,hz18,hz20,hz22,hz25,hz27,bS];rfl,hw⟩
   have F30:=QN W hz12
   have F31:=QN W hz16
   obtain ⟨z32,hz32⟩: ∃ z,(((ncl:Nat):Int)==0)=z:=⟨_,rfl⟩
   have F33:=QN W hz32
   cases z32
   · exact gE hst (kO3 F2 F4 F6 (Q7 F7 F9 F11 F13 F15 F17 F19 F21 F23 F24 F26 F28 F29 F30 F31 F33)) [.bool false] fun w' hw=>⟨by simp only [QM,hz1,hz3,hz5,hz8,hz10,hz12,hz14,hz16,hz18,hz20,hz22,hz25,hz27,hz32,bS];rfl,hw⟩
   have F34:=QN W hz16
   obtain ⟨z35,hz35⟩: ∃ z,(((nrw:Nat):Int)==0)=z:=⟨_,rfl⟩
   have F36:=QN W hz35
   cases z35
   · exact gE hst (kO5 F2 F4 F6 F7 F9 (Q7 F11 F13 F15 F17 F19 F21 F23 F24 F26 F28 F29 F30 F31 F33 F34 F36)) [.bool false] fun w' hw=>⟨by simp only [QM,hz1,hz3,hz5,hz8,hz10,hz12,hz14,hz16,hz18,hz20,hz22,hz25,hz27,hz32,hz35,bS];rfl,hw⟩
   have F37:=QN W hz18
   obtain ⟨z38,hz38⟩: ∃ z,(((nst:Nat):Int)==0)=z:=⟨_,rfl⟩
   have F39:=QN W hz38
   cases z38
   · exact gE hst (kO7 F2 F4 F6 F7 F9 F11 F13 (Q7 F15 F17 F19 F21 F23 F24 F26 F28 F29 F30 F31 F33 F34 F36 F37 F39)) [.bool false] fun w' hw=>⟨by simp only [QM,hz1,hz3,hz5,hz8,hz10,hz12,hz14,hz16,hz18,hz20,hz22,hz25,hz27,hz32,hz35,hz38,bS];rfl,hw⟩
   have F40:=QN W hz18
   have F41:=QN W hz20
   cases z1
   rotate_left
   · have he53:=eq_of_beq hz1
     exact gE hst (kO9 F2 F4 F6 F7 F9 F11 F13 F15 F17 (Q7 F19 F21 F23 F24 F26 F28 F29 F30 F31 F33 F34 F36 F37 F39 F40 F41)) [.bool true] fun w' hw=>⟨by simp only [QM,hz1,hz3,hz5,hz8,hz10,hz12,hz14,hz16,hz18,hz20,hz22,hz25,hz27,hz32,hz35,hz38,bS];rfl,hw⟩
   obtain ⟨z42,hz42⟩: ∃ z,(QE wh)=z:=⟨_,rfl⟩
   have C43:Sd W (.call 118 [eV wk wo wvk wvn wvt wtb wnm wA wn wc wpl wty] (.bool z42)):=by rw [← hz42];exact Qb.of func118 rfl Qd QMg9
   cases z42
   · exact Qvoy
   cases di
   · have F44:=sd W (Qb.addN (t:=3) (a:=nit) (b:=nfr) (by omega))
     have F45:=sd W (Qb.addN (t:=3) (a:=nit+nfr) (b:=ngr) (by omega))
     have F46:=sd W (Qb.addN (t:=3) (a:=nit+nfr+ngr) (b:=nor) (by omega))
     obtain ⟨z47,hz47⟩: ∃ z,(((nit+nfr+ngr+nor:Nat):Int)==0)=z:=⟨_,rfl⟩
     have F48:=QN W hz47
     cases z47
     · exact gE hst (kO14 F2 F4 F6 F7 F9 F11 F13 F15 F17 F19 F21 F23 F24 F26 (Q7 F28 F29 F30 F31 F33 F34 F36 F37 F39 F40 F41 C43 F44 F45 F46 F48)) [.bool false] fun w' hw=>⟨by simp only [QM,hz1,hz3,hz5,hz8,hz10,hz12,hz14,hz16,hz18,hz20,hz22,hz25,hz27,hz32,hz35,hz38,hz42,hz47,bS];rfl,hw⟩
     obtain ⟨z49,hz49⟩: ∃ z,(QE hv)=z:=⟨_,rfl⟩
     have C50:Sd W (.call 118 [eV hk ho hvk hvn hvt htb hnm hA hn hc hpl hty] (.bool z49)):=by rw [← hz49];exact Qb.of func118 rfl Qd QPjn
     cases z49
     · exact gE hst (kO15 F2 F4 F6 F7 F9 F11 F13 F15 F17 F19 F21 F23 F24 F26 F28 (Q7 F29 F30 F31 F33 F34 F36 F37 F39 F40 F41 C43 F44 F45 F46 F48 C50)) [.bool false] fun w' hw=>⟨by simp only [QM,hz1,hz3,hz5,hz8,hz10,hz12,hz14,hz16,hz18,hz20,hz22,hz25,hz27,hz32,hz35,hz38,hz42,hz47,hz49,bS];rfl,hw⟩
     obtain ⟨z51,hz51⟩: ∃ z,(li==0)=z:=⟨_,rfl⟩
     have F52:=sd W (Qb.intEq (t:=2) (k:=.i64) (a:=li) (b:=0) hz51)
     exact gE hst (kO16 F2 F4 F6 F7 F9 F11 F13 F15 F17 F19 F21 F23 F24 F26 F28 F29 (Q7 F30 F31 F33 F34 F36 F37 F39 F40 F41 C43 F44 F45 F46 F48 C50 F52)) [.bool z51] fun w' hw=>⟨by simp only [QM,hz1,hz3,hz5,hz8,hz10,hz12,hz14,hz16,hz18,hz20,hz22,hz25,hz27,hz32,hz35,hz38,hz42,hz47,hz49,hz51,bS];rfl,hw⟩
   exact Qvoy
 have he54:=eq_of_beq hz25
 have F55:=QN W hz12
 cases un
 rotate_left
 · exact gE hst (kE15 F2 F4 F6 F7 F9 F11 F13 F15 F17 F19 F21 F23 F24 F26 F55) [.bool false] fun w' hw=>⟨by simp only [QM,hz1,hz3,hz5,hz8,hz10,hz12,hz14,hz16,hz18,hz20,hz22,hz25,bS];rfl,hw⟩
 have F56:=QN W hz12
 have F57:=QN W hz16
 obtain ⟨z58,hz58⟩: ∃ z,(((ncl:Nat):Int)==0)=z:=⟨_,rfl⟩
 have F59:=QN W hz58
 cases z58
 · exact gE hst (kO2 F2 F4 (Q7 F6 F7 F9 F11 F13 F15 F17 F19 F21 F23 F24 F26 F55 F56 F57 F59)) [.bool false] fun w' hw=>⟨by simp only [QM,hz1,hz3,hz5,hz8,hz10,hz12,hz14,hz16,hz18,hz20,hz22,hz25,hz58,bS];rfl,hw⟩
 have F60:=QN W hz16
 obtain ⟨z61,hz61⟩: ∃ z,(((nrw:Nat):Int)==0)=z:=⟨_,rfl⟩
 have F62:=QN W hz61
 cases z61
 · exact gE hst (kO4 F2 F4 F6 F7 (Q7 F9 F11 F13 F15 F17 F19 F21 F23 F24 F26 F55 F56 F57 F59 F60 F62)) [.bool false] fun w' hw=>⟨by simp only [QM,hz1,hz3,hz5,hz8,hz10,hz12,hz14,hz16,hz18,hz20,hz22,hz25,hz58,hz61,bS];rfl,hw⟩
 have F63:=QN W hz18
 obtain ⟨z64,hz64⟩: ∃ z,(((nst:Nat):Int)==0)=z:=⟨_,rfl⟩
 have F65:=QN W hz64
 cases z64
 · exact gE hst (kO6 F2 F4 F6 F7 F9 F11 (Q7 F13 F15 F17 F19 F21 F23 F24 F26 F55 F56 F57 F59 F60 F62 F63 F65)) [.bool false] fun w' hw=>⟨by simp only [QM,hz1,hz3,hz5,hz8,hz10,hz12,hz14,hz16,hz18,hz20,hz22,hz25,hz58,hz61,hz64,bS];rfl,hw⟩
 have F66:=QN W hz18
 have F67:=QN W hz20
 cases z1
 rotate_left
 · have he79:=eq_of_beq hz1
   exact gE hst (kO8 F2 F4 F6 F7 F9 F11 F13 F15 (Q7 F17 F19 F21 F23 F24 F26 F55 F56 F57 F59 F60 F62 F63 F65 F66 F67)) [.bool true] fun w' hw=>⟨by simp only [QM,hz1,hz3,hz5,hz8,hz10,hz12,hz14,hz16,hz18,hz20,hz22,hz25,hz58,hz61,hz64,bS];rfl,hw⟩
 obtain ⟨z68,hz68⟩: ∃ z,(QE wh)=z:=⟨_,rfl⟩
 have C69:Sd W (.call 118 [eV wk wo wvk wvn wvt wtb wnm wA wn wc wpl wty] (.bool z68)):=by rw [← hz68];exact Qb.of func118 rfl Qd QMg9
 cases z68
 · exact QasC
 cases di
 · have F70:=sd W (Qb.addN (t:=3) (a:=nit) (b:=nfr) (by omega))
   have F71:=sd W (Qb.addN (t:=3) (a:=nit+nfr) (b:=ngr) (by omega))
   have F72:=sd W (Qb.addN (t:=3) (a:=nit+nfr+ngr) (b:=nor) (by omega))
   obtain ⟨z73,hz73⟩: ∃ z,(((nit+nfr+ngr+nor:Nat):Int)==0)=z:=⟨_,rfl⟩
   have F74:=QN W hz73
   cases z73
   · exact gE hst (kO13 F2 F4 F6 F7 F9 F11 F13 F15 F17 F19 F21 F23 F24 (Q7 F26 F55 F56 F57 F59 F60 F62 F63 F65 F66 F67 C69 F70 F71 F72 F74)) [.bool false] fun w' hw=>⟨by simp only [QM,hz1,hz3,hz5,hz8,hz10,hz12,hz14,hz16,hz18,hz20,hz22,hz25,hz58,hz61,hz64,hz68,hz73,bS];rfl,hw⟩
   obtain ⟨z75,hz75⟩: ∃ z,(QE hv)=z:=⟨_,rfl⟩
   have C76:Sd W (.call 118 [eV hk ho hvk hvn hvt htb hnm hA hn hc hpl hty] (.bool z75)):=by rw [← hz75];exact Qb.of func118 rfl Qd QPjn
   cases z75
   · exact gE hst (kO14 F2 F4 F6 F7 F9 F11 F13 F15 F17 F19 F21 F23 F24 F26 (Q7 F55 F56 F57 F59 F60 F62 F63 F65 F66 F67 C69 F70 F71 F72 F74 C76)) [.bool false] fun w' hw=>⟨by simp only [QM,hz1,hz3,hz5,hz8,hz10,hz12,hz14,hz16,hz18,hz20,hz22,hz25,hz58,hz61,hz64,hz68,hz73,hz75,bS];rfl,hw⟩
   obtain ⟨z77,hz77⟩: ∃ z,(li==0)=z:=⟨_,rfl⟩
   have F78:=sd W (Qb.intEq (t:=2) (k:=.i64) (a:=li) (b:=0) hz77)
   exact gE hst (kO15 F2 F4 F6 F7 F9 F11 F13 F15 F17 F19 F21 F23 F24 F26 F55 (Q7 F56 F57 F59 F60 F62 F63 F65 F66 F67 C69 F70 F71 F72 F74 C76 F78)) [.bool z77] fun w' hw=>⟨by simp only [QM,hz1,hz3,hz5,hz8,hz10,hz12,hz14,hz16,hz18,hz20,hz22,hz25,hz58,hz61,hz64,hz68,hz73,hz75,hz77,bS];rfl,hw⟩
 exact QasC
end Go.Proofs.YtddedijencleeaaGreatDoor
