/- consistoryref9.strings, bares, bare: contracts. -/
import Derived.Test.YtddedijencleeaaGreatDoorMGf
import Derived.Test.YtddedijencleeaaGreatDoorMGl
set_option linter.all false
namespace Go.Proofs.YtddedijencleeaaGreatDoor
set_option maxRecDepth 100000
set_option maxHeartbeats 4000000
open Tryz
open Go.RowKit Go.Lib

theorem ref_strings {W:World} {n m:Nat} {v u:Value} {f g:Nat→ByteArray} (hv:ZD W n f v) (hu:ZD W m g u) :
 Calls prog 56 #[v,u] W fun e W'=>e= .returned (.bool (eqN n m fun i=>QB (f i) (g i)))∧Below W.heap.size W W':=by
 obtain ⟨A,c,rfl,hnc,hc,hby,hA⟩:=hv
 obtain ⟨A',c',rfl,hmc,hc',hby',hA'⟩:=hu
 have HA:=Qh hA
 have HA':=Qh hA'
 have hn:n≤9223372036854775807:=by omega
 have hm:m≤9223372036854775807:=by omega
 clear hA hA' hnc hc hby hmc hc' hby'
 by_cases hnm:n=m
 · subst hnm
   go_enter func56,ntmps56
   go_wp2
   go_loopw [5] (fun i wr=> ∃ k:Nat,k≤n∧i= .int .i64 k∧Hid ((∀ j,j<k→QB (f j) (g j)=true)∧Below W.heap.size W wr)) (fun i _=>n - (RowKit.intOf i).toNat)
   case atStart=>exact ⟨0,Nat.zero_le _,rfl,Qh ⟨fun j hj=>by omega,Below.refl _ _⟩⟩
   case round=>
    obtain ⟨k,hk,rfl,HBW⟩:=hrel
    by_cases hlt:k<n
    · obtain ⟨b,o,rfl,hb,hcs⟩:=(Qa HA) (by omega)
      obtain ⟨cs,hl,hone,⟨rfl,_⟩,hr⟩:=hcs k hlt
      obtain ⟨b',o',rfl,hb',hds⟩:=(Qa HA') (by omega)
      obtain ⟨ds,hl',hone',⟨rfl,_⟩,hr'⟩:=hds k hlt
      have c1:wr.cell? ⟨b,o+k,none⟩=some (.string (f k)):=by simpa using Q5 hr (Qa HBW).2 0 _ rfl
      have c2:wr.cell? ⟨b',o'+k,none⟩=some (.string (g k)):=by simpa using Q5 hr' (Qa HBW).2 0 _ rfl
      clear hcs hds hr hr' hb hb' hl hl' hone hone'
      have HQ:Hid (QB (f k) (g k)=((f k).toList==(g k).toList)):=Qh rfl
      generalize hq:((f k).toList==(g k).toList)=qk at HQ
      cases qk
      · go_upto_region 6 with fail
        go_region
        go_wp2
        go_ret
        exact ⟨by rw [eqN_at hlt (Qa HQ)];rfl,(Qa HBW).2.drew⟩
      go_upto_region 6 with fail
      go_region
      go_wp2
      go_roundw
      case rel=>exact ⟨k+1,by omega,by go_num,Qh ⟨fun j hj=>by rcases Nat.lt_succ_iff_lt_or_eq.1 hj with h | h;exact (Qa HBW).1 j h;rw [h];exact Qa HQ,(Qa HBW).2.drew⟩⟩
      case measure=>simp [RowKit.intOf];omega
    go_wp2
    go_ret
    have:k=n:=by omega
    subst this
    exact ⟨by rw [JM (Qa HBW).1];rfl,(Qa HBW).2⟩
 go_enter func56,ntmps56
 go_wp2
 go_ret
 exact ⟨by rw [eqN_no hnm];rfl,Below.refl _ _⟩
theorem bares_gen {W:World} {n:Nat} {v:Value} {P:Nat→List Value→Prop} {Q:World→Nat→List Value→Prop} (hv:QR W 10 120 n v P)
 (hQ: ∀ W1 W2 i cs,Jw W1 W2→Q W1 i cs→Q W2 i cs)
 (hf: ∀ W',Below W.heap.size W W'→ ∀ i cs,i<n→P i cs→cs.length=10→Calls prog 192 #[.agg cs.toArray] W' fun e W2=> ∃ ds,e= .returned (.agg ds.toArray)∧ds.length=10∧ds.toArray.all (·.oneCell')=true∧Q (World.only W2 fun b=>W'.heap.size≤b) i ds∧Below W'.heap.size W' W2) :
 Calls prog 211 #[v] W fun e W'=> ∃ u,e= .returned u∧QR (World.only W' fun b=>W.heap.size≤b) 10 120 n u (fun i ds=>Q (World.only W' fun b=>W.heap.size≤b) i ds)∧Below W.heap.size W W':=by
 obtain ⟨A,c,rfl,hnc,hc,hby,hA⟩:=hv
 obtain ⟨ti,hti,hzero,hsize,hbytes⟩:=info_parts inf_Expr
 have TI:=Qh (And.intro hti (And.intro hzero (And.intro hsize hbytes)))
 have HA:=Qh hA
 have HF:=Qh hf
 have HQ:=Qh hQ
 have hn:n≤9223372036854775807:=by omega
 have HBY:=Qh hby
 clear hA hf hnc hc hby hQ hti hzero hsize hbytes
 go_enter func211,ntmps211
 go_wp2
 go_loopw [3,4] (fun o i wr=> ∃ k:Nat,k≤n∧i= .int .i64 k∧Hid (∃ css,JP W wr 34 10 k o css Q)) (fun _ i _=>n - (RowKit.intOf i).toNat)
 case atStart=>exact ⟨0,Nat.zero_le _,rfl,Qh ⟨fun _=>[],JP.start⟩⟩
 case round=>
  obtain ⟨k,hk,rfl,HO⟩:=hrel
  by_cases hlt:k<n
  · obtain ⟨css,hO⟩:=Qa HO
    obtain ⟨b,o,rfl,hb,hcs⟩:=(Qa HA) (by omega)
    obtain ⟨cs,hl,hone,hP,hr⟩:=hcs k hlt
    have R:=Qh (Q5 hr hO.bl)
    have HC:=Qh ((Qa HF) wr hO.bl k cs hlt hP hl)
    replace hO:=Qh hO
    clear hcs hr hb hP HO
    go_wp2_with (refine wpList_load_mid rfl 34 _ rfl _ _ rfl cs _ (Qa R) underlying34 rfl (by rw [hl];exact Zv) ?_)
    refine (Qa HC).mono ?_
    rintro e w2 ⟨ds,rfl,hdl,hd1,hdq,hb2⟩
    have HD:=Qh (And.intro hdl (And.intro hd1 hdq))
    have HB2:=Qh hb2
    have hfo:=fold_set Zr ds (by rw [hdl];rfl)
    simp only [Zr] at hfo
    clear hd1 hdq hb2 HC
    go_wp2_with (at_builtin;go_must (refine wpList_append_own_at _ rfl _ _ 32 rfl W.heap.size 34 ti (.agg Zr.toArray) 10 120 underlying32 (Qa TI).1 (Qa TI).2.1 (Qa TI).2.2.1 (Qa TI).2.2.2 rfl (by decide) u3 k (ZH css k) rfl (Ky (Qa hO) (Qa HB2) _) ⟨w2.heap.size,0,none⟩ 1 1 ds rfl (by rw [(Qa HD).1]) (K0 w2 ds _) (all_mem (Qa HD).2.1) (by unfold maxLen;omega) (by have:=Qa HBY;have h2:(k+1)*120≤n*120:=Nat.mul_le_mul_right _ hlt;omega) (by have h1:=(Qa hO).bl.size;have h2:=(Qa HB2).size;simp;omega) ?_);intro v' w4 ho hg _ hat)
    have HN:=Qh (JP.next (Qa hO) (Qa HQ) (Nat.le_refl _) (Qa HB2) (Qa HD).2.2 (Qa HD).1 (Qa HD).2.1 ho hg hat)
    clear ho hg hat HD HB2 hO hfo
    go_wp2_with fail
    go_roundw
    case rel=>exact ⟨k+1,by omega,by go_num,Qh ⟨_,Qa HN⟩⟩
    case measure=>simp [RowKit.intOf];omega
  go_wp2
  have:k=n:=by omega
  subst this
  obtain ⟨css,hO⟩:=Qa HO
  go_ret
  exact ⟨_,rfl,hO.done (Qa HQ) (Qa HBY),hO.bl⟩
theorem ref_bare: ∀ (e:E) (cs:List Value) (W:World),QI W e cs →
 Calls prog 192 #[.agg cs.toArray] W fun r W'=> ∃ ds,r= .returned (.agg ds.toArray)∧QI (World.only W' fun b=>W.heap.size≤b) (QV e) ds∧Below W.heap.size W W'
 | .no,_,_,h=>False.elim h
 | .mk k op vk vn vt tb nm n args pl ty,cs,W,h=>by
   obtain ⟨wf,v,rfl,hv⟩:=h
   have HC:=Qh fun W' (hb:Below W.heap.size W W')=>Qh (bares_gen (W:=W') (Q:=fun W1 i cs=>QI W1 (QV (args i)) cs) (hv.both (.below hb) fun _ _ _ h=>QI.sub (.below hb) h) (fun _ _ _ _ hs h=>QI.sub hs h)
    (fun W2 hb2 i cs _ h hl=>(ref_bare (args i) cs W2 (QI.sub (.below hb2) h)).mono fun e W3 ⟨ds,h1,h2,h3⟩=>⟨ds,h1,h2.len,QI.one h2,h2,h3⟩))
   have HB: ∀ o o',Hid (Below W.heap.size W ((W.alloc o).alloc o')):=fun o o'=>Qh (((Below.refl _ _).alloc (Nat.le_refl _) o).alloc (by simp) o')
   have WF:=Qh wf
   obtain ⟨A,c,rfl,_⟩:=hv
   have S2:=Qh (SB.two W (ZG k op vk vn vt tb nm (.slice A n c) pl ty) Zr 34)
   clear wf
   go_enter func192,ntmps192
   go_upto_region 1 with fail
   generalize hD:(W.alloc _).alloc _=D0
   replace S2:Hid (SB D0 W.heap.size (ZG k op vk vn vt tb nm (.slice A n c) pl ty)∧SB D0 (W.heap.size+1) Zr):=by rw [← hD];exact S2
   have HW:Hid (Below W.heap.size W D0∧W.heap.size+1+1=D0.heap.size):=Qh ⟨by rw [← hD];exact Qa (HB _ _),by rw [← hD];simp⟩
   clear hD HB
   have x8:=(Qa S2).1.cell 8 rfl
   have x9:=(Qa S2).1.cell 9 rfl
   have f8:=(Qa S2).1.free 8 (show 8<10 by decide)
   have f9:=(Qa S2).1.free 9 (show 9<10 by decide)
   have Y1:=Qh (((Qa S2).1.put 8 [.int .i64 0] (show 9≤10 by decide)).put 9 [.int .i64 0] (show 10≤10 by decide))
   have Y2:=Qh (((Qa S2).2.far (b:=W.heap.size) (by omega) 8 [.int .i64 0]).far (b:=W.heap.size) (by omega) 9 [.int .i64 0])
   have HW2:=Qh (((Qa HW).1.setCell (p:=⟨W.heap.size,8,none⟩) (Nat.le_refl _) (.int .i64 0)).setCell (p:=⟨W.heap.size,9,none⟩) (Nat.le_refl _) (.int .i64 0))
   go_upto_region 2 with fail
   generalize hD:World.setCell _ _ _=D
   replace Y1:Hid (SB D W.heap.size (ZG k op vk vn vt tb nm (.slice A n c) 0 0)):=by rw [← hD];exact Y1
   replace Y2:Hid (SB D (W.heap.size+1) Zr):=by rw [← hD];exact Y2
   replace HW:Hid (Below W.heap.size W D∧W.heap.size+1+1=D.heap.size):=by rw [← hD];exact Qh ⟨Qa HW2,by simp [World.setCell];exact (Qa HW).2⟩
   clear hD x8 x9 f8 f9 S2 HW2
   have x7:=(Qa Y1).cell 7 rfl
   go_wp2_with fail
   refine (Qa ((Qa HC) _ (Qa HW).1)).mono ?_
   rintro e w1 ⟨u,rfl,hu,hb1⟩
   have HU:=Qh hu
   obtain ⟨A',c',hue,_⟩:=id hu
   subst hue
   have HDs:=Qh (Qa HW).2
   replace HW:=Qh (And.intro (Below.andThen (Qa HW).1 hb1) (And.intro (Qa HW).2 hb1.size))
   have y7:=((Qa Y1).below hb1).cell 7 rfl
   have g7:=((Qa Y1).below hb1).free 7 (show 7<10 by decide)
   have Z1:=Qh (((Qa Y1).below hb1).put 7 [.slice A' n c'] (show 8≤10 by decide))
   have Z2:=Qh (((Qa Y2).below hb1).far (b:=W.heap.size) (by omega) 7 [.slice A' n c'])
   have HFAR:=Qh (fun b (hb:W.heap.size+1+1≤b)=>(Ze (b:=W.heap.size) (g:=b) (by omega) [.slice A' n c'] 7 w1))
   clear hb1 hu x7 Y1 Y2
   go_upto_region 3 with fail
   generalize hD:World.setCell _ _ _=D2
   replace Z1:Hid (SB D2 W.heap.size (ZG k op vk vn vt tb nm (.slice A' n c') 0 0)):=by rw [← hD];exact Z1
   replace Z2:Hid (SB D2 (W.heap.size+1) Zr):=by rw [← hD];exact Z2
   replace HFAR:Hid ((∀ b,W.heap.size+1+1≤b→D2.heap[b]?=w1.heap[b]?)∧w1.heap.size=D2.heap.size):=by rw [← hD];exact Qh ⟨Qa HFAR,by simp [World.setCell]⟩
   replace HW:Hid (Below W.heap.size W D2∧W.heap.size+1+1≤w1.heap.size):=by rw [← hD];exact Qh ⟨(Qa HW).1.setCell (p:=⟨W.heap.size,7,none⟩) (Nat.le_refl _) _,by have:=(Qa HW).2;omega⟩
   clear hD y7 g7
   have HTH:Hid (D2.there (W.heap.size+1) 0 10):=Qh (Qa Z2).there
   go_wp2_with (first
    | (refine wpList_load_mid rfl 34 _ rfl W.heap.size _ rfl (ZG k op vk vn vt tb nm (.slice A' n c') 0 0) _ (Qa Z1).at_ underlying34 rfl Zv ?_)
    | (refine wpList_store_mid rfl 34 _ _ rfl (W.heap.size+1) 0 (ZG k op vk vn vt tb nm (.slice A' n c') 0 0).toArray rfl rfl (Qa HTH) Zv (eOne _ _ _ _ _ _ _ _ _ _ _ _) ?_))
   refine bodyPost_ret (Z0 rfl _ _ (b:=W.heap.size+1) (o:=0) rfl ((Qa Z2).put 0 (ZG k op vk vn vt tb nm (.slice A' n c') 0 0) (Nat.le_refl 10)).at_ underlying34 rfl Zv) rfl ?_
   have hs:Jw (World.only w1 fun b=>D.heap.size≤b) (World.only (D2.setCells (W.heap.size+1) 0 (ZG k op vk vn vt tb nm (.slice A' n c') 0 0)) fun b=>W.heap.size≤b):=by
    have e:=Qa HDs
    refine Za (by rw [setCells_size];exact Nat.le_of_eq (Qa HFAR).2) fun b h1 h2=>⟨by omega,?_⟩
    rw [Ze (by omega)]
    exact (Qa HFAR).1 b (by omega)
   exact ⟨_,rfl,⟨⟨(Qa WF).k,(Qa WF).op,(Qa WF).vk,(Qa WF).vn,(Qa WF).vt,(Qa WF).tb,(Qa WF).nm,by constructor <;> decide,by constructor <;> decide⟩,_,rfl,(Qa HU).both hs fun _ _ _ h=>QI.sub hs h⟩,Below.setCells (by omega) _ _ _ (Qa HW).1⟩
end Go.Proofs.YtddedijencleeaaGreatDoor

/- consistoryref9.copied, copies (bared): contracts. -/
set_option linter.all false
namespace Go.Proofs.YtddedijencleeaaGreatDoor
set_option maxRecDepth 100000
set_option maxHeartbeats 4000000
open Tryz
open Go.RowKit Go.Lib

theorem copied_ok (x:E) (cs:List Value) (W:World) (h:QI W x cs) :
 Calls prog 148 #[.agg cs.toArray,.bool true] W fun r W'=> ∃ ds,r= .returned (.agg ds.toArray)∧QI (World.only W' fun b=>W.heap.size≤b) (QV x) ds∧Below W.heap.size W W':=by
 have hl:=h.len
 have hone:=QI.one h
 have HC:=Qh fun W' (hb:Below W.heap.size W W')=>Qh (ref_bare x cs W' (QI.sub (.below hb) h))
 have HB: ∀ o o',Hid (Below W.heap.size W ((W.alloc o).alloc o')):=fun o o'=>Qh (((Below.refl _ _).alloc (Nat.le_refl _) o).alloc (by simp) o')
 have S2:=Qh (SB.two W cs Zr 34)
 clear h
 go_enter func148,ntmps148
 go_upto_region 1 with fail
 generalize hD:(W.alloc _).alloc _=D
 replace S2:Hid (SB D W.heap.size cs∧SB D (W.heap.size+1) Zr):=by rw [← hD];exact S2
 have HW:Hid (Below W.heap.size W D∧W.heap.size+1+1=D.heap.size):=Qh ⟨by rw [← hD];exact Qa (HB _ _),by rw [← hD];simp⟩
 clear hD HB
 go_wp2_with (refine wpList_load_mid rfl 34 _ rfl W.heap.size 0 rfl cs _ (Qa S2).1.at_ underlying34 rfl (by rw [hl];exact Zv) ?_)
 refine (Qa ((Qa HC) _ (Qa HW).1)).mono ?_
 rintro e w1 ⟨fs,rfl,hf,hb1⟩
 have hfl:=hf.len
 have hfone:=QI.one hf
 have HF:=Qh hf
 have HDs:=Qh (Qa HW).2
 have Y2:=Qh ((Qa S2).2.below hb1)
 replace HW:=Qh (And.intro (Below.andThen (Qa HW).1 hb1) (And.intro (Qa HW).2 hb1.size))
 have HTH:Hid (w1.there (W.heap.size+1) 0 10):=Qh (Qa Y2).there
 clear hb1 hf
 go_wp2_with (refine wpList_store_mid rfl 34 _ _ rfl (W.heap.size+1) 0 fs.toArray rfl rfl (by rw [show fs.toArray.size=10 from hfl];exact Qa HTH) (by rw [show fs.toArray.size=10 from hfl];exact Zv) hfone ?_)
 have Z:=(Qa Y2).put 0 fs (by rw [hfl];exact Nat.le_refl 10)
 refine bodyPost_ret (Z0 rfl _ _ (b:=W.heap.size+1) (o:=0) rfl (cs:=fs) (by
  have:=Z.at_
  simpa [hfl,Zr] using this) underlying34 rfl (by rw [hfl];exact Zv)) rfl ?_
 have hs:Jw (World.only w1 fun b=>D.heap.size≤b) (World.only (w1.setCells (W.heap.size+1) 0 fs) fun b=>W.heap.size≤b):=by
  have e:=Qa HDs
  refine Za (by rw [setCells_size];exact Nat.le_refl _) fun b h1 h2=>⟨by omega,?_⟩
  rw [Ze (by omega)]
 exact ⟨fs,rfl,QI.sub hs (Qa HF),Below.setCells (by omega) _ _ _ (Qa HW).1⟩
theorem copies_gen {W:World} {n:Nat} {v:Value} {P:Nat→List Value→Prop} {Q:World→Nat→List Value→Prop} (hv:QR W 10 120 n v P)
 (hQ: ∀ W1 W2 i cs,Jw W1 W2→Q W1 i cs→Q W2 i cs)
 (hf: ∀ W',Below W.heap.size W W'→ ∀ i cs,i<n→P i cs→cs.length=10→Calls prog 148 #[.agg cs.toArray,.bool true] W' fun e W2=> ∃ ds,e= .returned (.agg ds.toArray)∧ds.length=10∧ds.toArray.all (·.oneCell')=true∧Q (World.only W2 fun b=>W'.heap.size≤b) i ds∧Below W'.heap.size W' W2) :
 Calls prog 147 #[v,.bool true] W fun e W'=> ∃ u,e= .returned u∧QR (World.only W' fun b=>W.heap.size≤b) 10 120 n u (fun i ds=>Q (World.only W' fun b=>W.heap.size≤b) i ds)∧Below W.heap.size W W':=by
 obtain ⟨A,c,rfl,hnc,hc,hby,hA⟩:=hv
 obtain ⟨ti,hti,hzero,hsize,hbytes⟩:=info_parts inf_Expr
 have TI:=Qh (And.intro hti (And.intro hzero (And.intro hsize hbytes)))
 have HA:=Qh hA
 have HF:=Qh hf
 have HQ:=Qh hQ
 have hn:n≤9223372036854775807:=by omega
 have HBY:=Qh hby
 clear hA hf hnc hc hby hQ hti hzero hsize hbytes
 go_enter func147,ntmps147
 go_wp2
 go_loopw [5,6] (fun o i wr=> ∃ k:Nat,k≤n∧i= .int .i64 k∧Hid (∃ css,JP W wr 34 10 k o css Q)) (fun _ i _=>n - (RowKit.intOf i).toNat)
 case atStart=>exact ⟨0,Nat.zero_le _,rfl,Qh ⟨fun _=>[],JP.start⟩⟩
 case round=>
  obtain ⟨k,hk,rfl,HO⟩:=hrel
  by_cases hlt:k<n
  · obtain ⟨css,hO⟩:=Qa HO
    obtain ⟨b,o,rfl,hb,hcs⟩:=(Qa HA) (by omega)
    obtain ⟨cs,hl,hone,hP,hr⟩:=hcs k hlt
    have R:=Qh (Q5 hr hO.bl)
    have HC:=Qh ((Qa HF) wr hO.bl k cs hlt hP hl)
    replace hO:=Qh hO
    clear hcs hr hb hP HO
    go_wp2_with (refine wpList_load_mid rfl 34 _ rfl _ _ rfl cs _ (Qa R) underlying34 rfl (by rw [hl];exact Zv) ?_)
    refine (Qa HC).mono ?_
    rintro e w2 ⟨ds,rfl,hdl,hd1,hdq,hb2⟩
    have HD:=Qh (And.intro hdl (And.intro hd1 hdq))
    have HB2:=Qh hb2
    have hfo:=fold_set Zr ds (by rw [hdl];rfl)
    simp only [Zr] at hfo
    clear hd1 hdq hb2 HC
    go_wp2_with (at_builtin;go_must (refine wpList_append_own_at _ rfl _ _ 32 rfl W.heap.size 34 ti (.agg Zr.toArray) 10 120 underlying32 (Qa TI).1 (Qa TI).2.1 (Qa TI).2.2.1 (Qa TI).2.2.2 rfl (by decide) u5 k (ZH css k) rfl (Ky (Qa hO) (Qa HB2) _) ⟨w2.heap.size,0,none⟩ 1 1 ds rfl (by rw [(Qa HD).1]) (K0 w2 ds _) (all_mem (Qa HD).2.1) (by unfold maxLen;omega) (by have:=Qa HBY;have h2:(k+1)*120≤n*120:=Nat.mul_le_mul_right _ hlt;omega) (by have h1:=(Qa hO).bl.size;have h2:=(Qa HB2).size;simp;omega) ?_);intro v' w4 ho hg _ hat)
    have HN:=Qh (JP.next (Qa hO) (Qa HQ) (Nat.le_refl _) (Qa HB2) (Qa HD).2.2 (Qa HD).1 (Qa HD).2.1 ho hg hat)
    clear ho hg hat HD HB2 hO hfo
    go_wp2_with fail
    go_roundw
    case rel=>exact ⟨k+1,by omega,by go_num,Qh ⟨_,Qa HN⟩⟩
    case measure=>simp [RowKit.intOf];omega
  go_wp2
  have:k=n:=by omega
  subst this
  obtain ⟨css,hO⟩:=Qa HO
  go_ret
  exact ⟨_,rfl,hO.done (Qa HQ) (Qa HBY),hO.bl⟩
theorem copies_ok {W:World} {n:Nat} {f:Nat→E} {v:Value} (hv:Z6 W n f v) :
 Calls prog 147 #[v,.bool true] W fun e W'=> ∃ u,e= .returned u∧Z6 (World.only W' fun b=>W.heap.size≤b) n (fun i=>QV (f i)) u∧Below W.heap.size W W' :=
 copies_gen (Q:=fun W1 i cs=>QI W1 (QV (f i)) cs) hv (fun _ _ _ _ hs h=>QI.sub hs h)
  (fun W2 hb2 i cs _ h hl=>(copied_ok (f i) cs W2 (QI.sub (.below hb2) h)).mono fun e W3 ⟨ds,h1,h2,h3⟩=>⟨ds,h1,h2.len,QI.one h2,h2,h3⟩)
end Go.Proofs.YtddedijencleeaaGreatDoor
