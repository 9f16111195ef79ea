/- When statements are alike: plain laws of it. No program's code. -/
import Derived.Test.YtddedijencleeaaGreatDoorMSq
import Derived.Test.YtddedijencleeaaGreatDoorMTn
import Derived.Maps.AppendAt
import Derived.OwnWalk
set_option linter.all false
namespace Go.Proofs.YtddedijencleeaaGreatDoor
open Go.RowKit

def eqN (n m:Nat) (r:Nat→Bool):Bool:=decide (n=m)&&Zd n r
theorem eqN_refl {n:Nat} {r:Nat→Bool} (h: ∀ i,r i=true):eqN n n r=true:=by simp [eqN,Zd,h]
theorem eqN_congr {n m:Nat} {r q:Nat→Bool} (h: ∀ i,r i=q i):eqN n m r=eqN n m q:=by rw [show r=q from funext h]
def QB (s t:ByteArray):Bool:=s.toList==t.toList
theorem Z9 (s:ByteArray):QB s s=true:=by simp [QB]
def valB (k n k' n':Int) (t t':ByteArray):Bool:=k==k'&&n==n'&&QB t t'
def sameE:E→E→Bool
 | .mk k op vk vn vt tb nm n args _ _,.mk k' op' vk' vn' vt' tb' nm' n' args' _ _=>
   k==k'&&op==op'&&valB vk vn vk' vn' vt vt'&&QB tb tb'&&QB nm nm'&&eqN n n' fun i=>sameE (args i) (args' i)
 | .no,.no=>true
 | .no,.mk .. =>false
 | .mk ..,.no=>false
def Zf:E→E→Bool
 | .mk k op vk vn vt tb nm n args pl ty,.mk k' op' vk' vn' vt' tb' nm' n' args' pl' ty' =>
   k==k'&&op==op'&&valB vk vn vk' vn' vt vt'&&QB tb tb'&&QB nm nm'&&pl==pl'&&ty==ty'&&eqN n n' fun i=>Zf (args i) (args' i)
 | .no,.no=>true
 | .no,.mk .. =>false
 | .mk ..,.no=>false
def QV:E→E
 | .no=>.no
 | .mk k op vk vn vt tb nm n args _ _=>.mk k op vk vn vt tb nm n (fun i=>QV (args i)) 0 0
theorem sameE_refl: ∀ e,sameE e e=true
 | .no=>by simp only [sameE]
 | .mk k op vk vn vt tb nm n args pl ty=>by
   simp only [sameE,valB,Z9,eqN_refl fun i=>sameE_refl (args i),beq_self_eq_true,Bool.and_self]
theorem alike_bare: ∀ e e',Zf (QV e) (QV e')=sameE e e'
 | .no,.no=>by simp only [sameE,QV,Zf]
 | .no,.mk .. =>by simp only [sameE,QV,Zf]
 | .mk ..,.no=>by simp only [sameE,QV,Zf]
 | .mk k op vk vn vt tb nm n args pl ty,.mk k' op' vk' vn' vt' tb' nm' n' args' pl' ty'=>by
   simp only [sameE,QV,Zf,beq_self_eq_true,Bool.and_true,eqN_congr fun i=>alike_bare (args i) (args' i)]
def sameCo (a b:Co):Bool:=QB a.nm b.nm&&a.ty==b.ty&&(a.nn==b.nn)
def sameKe (a b:Ke):Bool:=QB a.nm b.nm&&eqN a.n b.n (fun i=>a.cols i==b.cols i)&&a.un==b.un&&a.pr==b.pr
def ZQ (a b:Ta):Bool:=QB a.nm b.nm&&eqN a.nc b.nc (fun i=>sameCo (a.cols i) (b.cols i))&&eqN a.nk b.nk fun i=>sameKe (a.keys i) (b.keys i)
def sameNa (a b:Na):Bool:=eqN a.n b.n fun i=>QB (a.f i) (b.f i)
def sameEs (r:E→E→Bool) (a b:Es):Bool:=eqN a.n b.n fun i=>r (a.f i) (b.f i)
def sameSt (r:E→E→Bool) (a b:St):Bool:=QB a.nm b.nm&&r a.e b.e
def sameIt (r:E→E→Bool) (a b:It):Bool:=a.star==b.star&&QB a.nm b.nm&&r a.e b.e
def sameSo (r:E→E→Bool) (a b:So):Bool:=QB a.nm b.nm&&QB a.al b.al&&a.left==b.left&&r a.e b.e
def sameOd (r:E→E→Bool) (a b:Od):Bool:=a.desc==b.desc&&r a.e b.e
structure SameS (r:E→E→Bool) (a b:S):Prop where
 kind:a.kind=b.kind
 tab:ZQ a.tab b.tab=true
 kc:eqN a.nkc b.nkc (fun i=>sameNa (a.kc i) (b.kc i))=true
 nm:QB a.nm b.nm=true
 ix:QB a.ix b.ix=true
 un:a.un=b.un
 cl:sameNa a.cl b.cl=true
 rw:eqN a.nrw b.nrw (fun i=>sameEs r (a.rw i) (b.rw i))=true
 st:eqN a.nst b.nst (fun i=>sameSt r (a.st i) (b.st i))=true
 it:eqN a.nit b.nit (fun i=>sameIt r (a.it i) (b.it i))=true
 fr:eqN a.nfr b.nfr (fun i=>sameSo r (a.fr i) (b.fr i))=true
 od:eqN a.nor b.nor (fun i=>sameOd r (a.od i) (b.od i))=true
 wh:r a.wh b.wh=true
 gr:sameEs r a.gr b.gr=true
 hv:r a.hv b.hv=true
 di:a.di=b.di
 li:a.li=b.li
def ZN (x:Es):Es:=⟨x.n,fun i=>QV (x.f i)⟩
def JA (s:S):S:=
 { s with rw:=fun i=>ZN (s.rw i),st:=fun i=>{ s.st i with e:=QV (s.st i).e },wh:=QV s.wh,it:=fun i=>{ s.it i with e:=QV (s.it i).e },fr:=fun i=>{ s.fr i with e:=QV (s.fr i).e },gr:=ZN s.gr,hv:=QV s.hv,od:=fun i=>{ s.od i with e:=QV (s.od i).e } }
theorem sameCo_refl (a:Co):sameCo a a=true:=by simp [sameCo,Z9]
theorem sameKe_refl (a:Ke):sameKe a a=true:=by simp [sameKe,Z9,eqN_refl]
theorem sameTa_refl (a:Ta):ZQ a a=true:=by simp [ZQ,Z9,eqN_refl,sameCo_refl,sameKe_refl]
theorem sameNa_refl (a:Na):sameNa a a=true:=by simp [sameNa,Z9,eqN_refl]
theorem sameS_refl (a:S):SameS sameE a a:=by
 constructor <;> simp [sameTa_refl,sameNa_refl,eqN_refl,Z9,sameEs,sameSt,sameIt,sameSo,sameOd,sameE_refl]
theorem same_iff (a b:S):SameS Zf (JA a) (JA b) ↔ SameS sameE a b:=by
 constructor <;> rintro ⟨h1,h2,h3,h4,h5,h6,h7,h8,h9,h10,h11,h12,h13,h14,h15,h16,h17⟩ <;>
  simp only [JA,ZN,sameEs,sameSt,sameIt,sameSo,sameOd,alike_bare] at h8 h9 h10 h11 h12 h13 h14 h15
 · exact ⟨h1,h2,h3,h4,h5,h6,h7,h8,h9,h10,h11,h12,h13,h14,h15,h16,h17⟩
 refine ⟨h1,h2,h3,h4,h5,h6,h7,?_,?_,?_,?_,?_,?_,?_,?_,h16,h17⟩ <;> simp only [JA,ZN,sameEs,sameSt,sameIt,sameSo,sameOd,alike_bare] <;> assumption
def Zu (r:E→E→Bool) (a b:S):Bool:=
 a.kind==b.kind&&ZQ a.tab b.tab&&eqN a.nkc b.nkc (fun i=>sameNa (a.kc i) (b.kc i))&&QB a.nm b.nm&&QB a.ix b.ix&&a.un==b.un&&sameNa a.cl b.cl&&eqN a.nrw b.nrw (fun i=>sameEs r (a.rw i) (b.rw i))&&eqN a.nst b.nst (fun i=>sameSt r (a.st i) (b.st i)) &&
 eqN a.nit b.nit (fun i=>sameIt r (a.it i) (b.it i))&&eqN a.nfr b.nfr (fun i=>sameSo r (a.fr i) (b.fr i))&&eqN a.nor b.nor (fun i=>sameOd r (a.od i) (b.od i))&&r a.wh b.wh&&sameEs r a.gr b.gr&&r a.hv b.hv&&a.di==b.di&&a.li==b.li
theorem sameSB_iff (r:E→E→Bool) (a b:S):Zu r a b=true ↔ SameS r a b:=by
 simp only [Zu,Bool.and_eq_true,beq_iff_eq]
 constructor
 · rintro ⟨⟨⟨⟨⟨⟨⟨⟨⟨⟨⟨⟨⟨⟨⟨⟨h1,h2⟩,h3⟩,h4⟩,h5⟩,h6⟩,h7⟩,h8⟩,h9⟩,h10⟩,h11⟩,h12⟩,h13⟩,h14⟩,h15⟩,h16⟩,h17⟩
   exact ⟨h1,h2,h3,h4,h5,h6,h7,h8,h9,h10,h11,h12,h13,h14,h15,h16,h17⟩
 rintro ⟨h1,h2,h3,h4,h5,h6,h7,h8,h9,h10,h11,h12,h13,h14,h15,h16,h17⟩
 exact ⟨⟨⟨⟨⟨⟨⟨⟨⟨⟨⟨⟨⟨⟨⟨⟨h1,h2⟩,h3⟩,h4⟩,h5⟩,h6⟩,h7⟩,h8⟩,h9⟩,h10⟩,h11⟩,h12⟩,h13⟩,h14⟩,h15⟩,h16⟩,h17⟩
theorem QI.form {W:World}: ∀ {e:E} {cs:List Value},QI W e cs→ ∃ k op vk vn vt tb nm A n c pl ty,cs=(eL k op vk vn vt tb nm A n c pl ty)
 | .no,_,h=>False.elim h
 | .mk ..,cs,⟨_,v,h1,A,c,h2,_⟩=>by subst h2;exact ⟨_,_,_,_,_,_,_,_,_,_,_,_,h1⟩
theorem QI.one {W:World} {e:E} {cs:List Value} (h:QI W e cs):cs.toArray.all (·.oneCell')=true:=by
 obtain ⟨k,op,vk,vn,vt,tb,nm,A,n,c,pl,ty,rfl⟩:=h.form
 simp [Value.oneCell']
end Go.Proofs.YtddedijencleeaaGreatDoor

/- tree.each: rows made anew, element by element. -/
set_option linter.all false
namespace Go.Proofs.YtddedijencleeaaGreatDoor
open Go.RowKit Go.Lib

def ZH (css:Nat→List Value) (k:Nat):List Value:=(List.range k).flatMap css
theorem KQ (css:Nat→List Value) (k:Nat):ZH css (k+1)=ZH css k++css k:=by simp [ZH,List.range_succ]
theorem flatN_congr {css dss:Nat→List Value} {k:Nat} (h: ∀ j,j<k→css j=dss j):ZH css k=ZH dss k:=by
 induction k with
 | zero=>rfl
 | succ k ih=>rw [KQ,KQ,ih fun j hj=>h j (by omega),h k (by omega)]
theorem flatN_len {css:Nat→List Value} {size:Nat}: ∀ {k:Nat},(∀ j,j<k→(css j).length=size)→(ZH css k).length=k*size
 | 0,_=>by simp [ZH]
 | k+1,h=>by rw [KQ,List.length_append,flatN_len fun j hj=>h j (by omega),h k (by omega),Nat.add_mul,Nat.one_mul]
theorem flatN_get {css:Nat→List Value} {size:Nat}: ∀ {k:Nat},(∀ j,j<k→(css j).length=size)→ ∀ i j u,i<k→(css i)[j]?=some u→(ZH css k)[i*size+j]?=some u
 | 0,_,_,_,_,hi,_=>by omega
 | k+1,h,i,j,u,hi,hu=>by
   have hj:j<size:=by rw [← h i hi];exact (List.getElem?_eq_some_iff.1 hu).1
   rw [KQ]
   have hl:(ZH css k).length=k*size:=flatN_len fun j hj=>h j (by omega)
   by_cases hk:i=k
   · subst hk
     rw [List.getElem?_append_right (by omega),hl,show i*size+j - i*size=j by omega]
     exact hu
   · have h1:i<k:=by omega
     have h2:i*size+j<k*size:=by
      have:(i+1)*size≤k*size:=Nat.mul_le_mul_right _ (by omega)
      rw [Nat.add_mul,Nat.one_mul] at this
      omega
     rw [List.getElem?_append_left (by omega)]
     exact flatN_get (fun j hj=>h j (by omega)) i j u h1 hu
structure JP (W wr:World) (e:TypeId) (size k:Nat) (v:Value) (css:Nat→List Value) (Q:World→Nat→List Value→Prop):Prop where
 own:wr.ownsRow W.heap.size e size v k (ZH css k)
 bl:Below W.heap.size W wr
 len: ∀ j,j<k→(css j).length=size∧(css j).toArray.all (·.oneCell')=true
 q: ∀ j,j<k→Q (World.only wr fun g=>W.heap.size≤g∧v.ownBlock≠some g) j (css j)
section
variable {W wr:World} {e:TypeId} {size k:Nat} {v:Value} {css:Nat→List Value} {Q:World→Nat→List Value→Prop}
theorem JP.start:JP W W e size 0 (.slice none 0 0) css Q:=⟨World.ownsRow_nil W _ e size,Below.refl _ _,fun j hj=>by omega,fun j hj=>by omega⟩
theorem JP.next (h:JP W wr e size k v css Q) (hQ: ∀ W1 W2 i cs,Jw W1 W2→Q W1 i cs→Q W2 i cs) {W2 W4:World} {B:Nat} (hB:wr.heap.size≤B) {ds:List Value} (hb:Below wr.heap.size wr W2) (hq:Q (World.only W2 fun g=>B≤g) k ds) (hl:ds.length=size) (h1:ds.toArray.all (·.oneCell')=true)
 {v':Value} (ho:W4.ownsRow W.heap.size e size v' (k+1) (ZH css k++ds)) (hg:(W2.alloc (.cells ds.toArray e)).grownBy W4 v.ownBlock) (hat:v'.ownBlock=v.ownBlock∨v'.ownBlock=some (W2.alloc (.cells ds.toArray e)).heap.size) :
 JP W W4 e size (k+1) v' (fun j=>if j=k then ds else css j) Q:=by
 have hs:(W2.alloc (.cells ds.toArray e)).heap.size=W2.heap.size+1:=by simp
 have hgs:=hg.size
 have hbs:=hb.size
 have hold: ∀ b,b<W2.heap.size→v.ownBlock≠some b→W4.heap[b]?=W2.heap[b]?:=fun b h1 h2=>(hg.block b (by omega) (Ne.symm h2)).trans (Below.heap_alloc _ _ _ h1)
 have hv: ∀ b,v.ownBlock=some b→W.heap.size≤b∧b<wr.heap.size:=fun b hb'=>h.own.lt b hb'
 have e1:ZH (fun j=>if j=k then ds else css j) (k+1)=ZH css k++ds:=by
  rw [KQ,if_pos rfl,flatN_congr (dss:=css) fun j hj=>if_neg (by omega)]
 refine ⟨by rw [e1];exact ho,?_,fun j hj=> ?_,fun j hj=> ?_⟩
 · exact (h.bl.trans (hb.mono h.bl.size)).trans (((Below.refl W.heap.size W2).alloc (Nat.le_trans h.bl.size hb.size) (.cells ds.toArray e)).grown hg (by have:=h.bl.size;omega) fun k hk=>(hv k hk).1)
 · split
   · exact ⟨hl,h1⟩
   exact h.len j (by omega)
 have fresh: ∀ b,b<W2.heap.size→v.ownBlock≠some b→v'.ownBlock≠some b:=fun b hb1 hb2=>by
  rcases hat with hat | hat
  · rw [hat];exact hb2
  rw [hat,hs];intro hh;injection hh;omega
 split
 · subst j
   refine hQ _ _ _ _ (Za (by omega) fun b hb1 hb2=> ?_) hq
   have hne:v.ownBlock≠some b:=fun hh=>by have:=(hv b hh).2;omega
   exact ⟨⟨by have:=h.bl.size;omega,fresh b hb1 hne⟩,hold b hb1 hne⟩
 refine hQ _ _ _ _ (Za (by omega) fun b hb1 hb2=> ?_) (h.q j (by omega))
 exact ⟨⟨hb2.1,fresh b (by omega) hb2.2⟩,(hold b (by omega) hb2.2).trans (hb.block b hb1)⟩
theorem JP.done {bytes:Nat} (h:JP W wr e size k v css Q) (hQ: ∀ W1 W2 i cs,Jw W1 W2→Q W1 i cs→Q W2 i cs) (hk:k*bytes≤140737488355328):QR (World.only wr fun g=>W.heap.size≤g) size bytes k v (fun i ds=>Q (World.only wr fun g=>W.heap.size≤g) i ds):=by
 have sub:Jw (World.only wr fun g=>W.heap.size≤g∧v.ownBlock≠some g) (World.only wr fun g=>W.heap.size≤g):=Za (Nat.le_refl _) fun b _ hb=>⟨hb.1,rfl⟩
 have hlen:=h.own.1
 rcases h.own.2 with ⟨rfl,rfl⟩ | ⟨g,cap,cur,rfl,hb,hg,hn,hc,hs,ht⟩
 · exact ⟨none,0,rfl,Nat.le_refl _,by omega,hk,fun h=>absurd h (by omega)⟩
 refine ⟨_,cap,rfl,hn,by unfold maxLen at hc;omega,hk,fun _=>⟨g,0,rfl,by rw [only_size];exact (Array.getElem?_eq_some_iff.1 hg).1,fun i hi=>⟨css i,(h.len i hi).1,(h.len i hi).2,hQ _ _ _ _ sub (h.q i hi),fun j u hu=> ?_⟩⟩⟩
 rw [only_yes hb,Nat.zero_add]
 have:=h.own.cells (g:=g) rfl (i*size+j) u (flatN_get (fun j hj=>(h.len j hj).1) i j u hi hu)
 unfold Addr.add at this
 split at this
 · rename_i h0;rw [h0];exact this
 simpa using this
end
theorem K0 (W:World) (ds:List Value) (t:TypeId): ∀ j u,ds[j]?=some u→(W.alloc (.cells ds.toArray t)).cell? ((⟨W.heap.size,0,none⟩:Addr).add j)=some u:=fun j u hj=>by
 have:=(SB.new W ds t).cell j hj
 unfold Addr.add
 split
 · rename_i h0;rw [h0] at this;exact this
 · simpa using this
end Go.Proofs.YtddedijencleeaaGreatDoor

/- slices.EqualFunc, slices.Equal: contracts. -/
set_option linter.all false
namespace Go.Proofs.YtddedijencleeaaGreatDoor
open Tryz
open Go.RowKit Go.Lib

theorem eqN_no {n m:Nat} {r:Nat→Bool} (h:n≠m):eqN n m r=false:=by simp [eqN,h]
theorem eqN_at {n i:Nat} {r:Nat→Bool} (hi:i<n) (h:r i=false):eqN n n r=false:=by simp [eqN,Qw hi h]
theorem JM {n:Nat} {r:Nat→Bool} (h: ∀ i,i<n→r i=true):eqN n n r=true:=by
 have:=Qx.2 h
 simp [eqN,this]
def Zr:List Value:=[.int .i64 0,.int .i64 0,.int .i64 0,.int .i64 0,.string ⟨#[]⟩,.string ⟨#[]⟩,.string ⟨#[]⟩,.slice none 0 0,.int .i64 0,.int .i64 0]
def z_Key:List Value:=[.string ⟨#[]⟩,.slice none 0 0,.bool false,.bool false]
def z_Column:List Value:=[.string ⟨#[]⟩,.int .i64 0,.bool false]
def z_Set:List Value:=.string ⟨#[]⟩::Zr
def z_Item:List Value:=.bool false::(Zr++[.string ⟨#[]⟩])
def KI:List Value:=.string ⟨#[]⟩:: .string ⟨#[]⟩:: .bool false::Zr
def Jn:List Value:=Zr++[.bool false]
theorem Zv:(prog.info? 34).map (·.size)=some 10:=by kernel_rfl
theorem siz_Key:(prog.info? 59).map (·.size)=some 4:=by kernel_rfl
theorem siz_Set:(prog.info? 61).map (·.size)=some 11:=by kernel_rfl
theorem siz_Item:(prog.info? 63).map (·.size)=some 12:=by kernel_rfl
theorem siz_Source:(prog.info? 65).map (·.size)=some 13:=by kernel_rfl
theorem siz_Order:(prog.info? 67).map (·.size)=some 11:=by kernel_rfl
theorem eqCo (s:ByteArray) (a:Int) (x:Bool) (t:ByteArray) (b:Int) (y:Bool) (w:World):(Op.equalIn 10000 105 (.agg #[.string s,.int .i64 a,.bool x]) (.agg #[.string t,.int .i64 b,.bool y])).run prog w= .ok (QB s t&&a==b&&(x==y)) w:=by
 have u3:=underlying3
 have a3:=Tryz.isAgg3
 have z3:=Tryz.sizeOf3
 have u2:=underlying4
 have a2:=Tryz.isAgg4
 have z2:=Tryz.sizeOf4
 have u9:=underlying9
 have a9:=Tryz.isAgg9
 have z9:=Tryz.sizeOf9
 have hS:prog.underlying 105=some (.struct (prog.fieldsOf 105)):=by kernel_rfl
 have hp:prog.stoodInHeld 105=false:=by kernel_rfl
 rw [show (10000:Nat)=9999+1 from rfl,run_equalIn_agg w 9999 105 _ _ hS hp]
 simp only [Program.fieldsOf,underlying105]
 unfold QB
 go_simp
 by_cases h1:a=b <;> by_cases h2:x=y <;> by_cases h3:s.toList=t.toList <;> simp [h1,h2,h3]
end Go.Proofs.YtddedijencleeaaGreatDoor
