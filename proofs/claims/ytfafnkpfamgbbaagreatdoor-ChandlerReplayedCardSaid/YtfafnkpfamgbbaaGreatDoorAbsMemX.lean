/-
  LAWS: cells of values; new objects, stores, growth of the call's own memory.
  LAWS: stores into the call's own memory, and its growth.
  LAWS: operations of the abstract machine and the model's: variables, fields, indexes.
-/
import Derived.Test.YtfafnkpfamgbbaaGreatDoorAbsRep
set_option linter.unusedSimpArgs false
set_option linter.unusedVariables false
namespace Go.Proofs.YtfafnkpfamgbbaaGreatDoor
namespace Abs
def gY (M0:Nat->Prop) (S:Mem) (g:Nat->Value) (cs:List AV):Prop :=
 ∀ (j:Nat) (c:AV),cs[j]?=some c->c.isCell=true/\bP M0 S (g j) c
theorem rk {M0} {S} {v} {c} (hc:c.isCell=true) (h:bP M0 S v c):Rep M0 S v c:=by
 cases c with
 |agg cs=>simp [AV.isCell] at hc
 |tuple cs=>simp [AV.isCell] at hc
 |undef=>simp [AV.isCell] at hc
 |_=>exact h
theorem ow {M0} {S} {v} {c} (h:dN M0 S v c):Rep M0 S v c:=by
 cases c with
 |tuple cs=>exact False.elim h
 |_=>exact h
theorem nK {M0} {S} {v} {c} (hc:c.isCell=true) (h:bP M0 S v c):v.oneCell'=true:=by
 cases c with
 |p q =>
  have h':RepP (Avoid M0 S.m) S.w v q:=h
  cases h' with
  |agg=>simp [AV.isCell,PV.isCell] at hc
  |tuple=>simp [AV.isCell,PV.isCell] at hc
  |_=>rfl
 |ptr id ver i o=>obtain ⟨⟨a,rfl⟩,_⟩:=h;rfl
 |slice id ver off len=>obtain ⟨⟨a,_,_,rfl⟩,_⟩:=h;rfl
 |ref k id=>obtain ⟨⟨a,rfl⟩,_⟩:=h;cases k<;>rfl
 |func fn f c=>obtain ⟨F,C,rfl,_⟩:=h;rfl
 |agg cs=>simp [AV.isCell] at hc
 |tuple cs=>simp [AV.isCell] at hc
 |undef=>simp [AV.isCell] at hc
theorem Rx {α:Type} (C:Array α) (i) (d) (h):C.getD i d=C[i]:=by simp [Array.getD,h]
theorem getD_some {α:Type} {C:Array α} {i} {d x} (h:C[i]?=some x):C.getD i d=x:=by
 obtain ⟨h1,h2⟩:=nt.1 h;rw [Rx _ _ _ h1,h2]
theorem i8 {M0} {S} {v} {x} {cs} (h:Rep M0 S v x) (hx:x.cells=some cs) :
  v.cells.size=cs.length/\gY M0 S (λj=>v.cells.getD j undef) cs:=by
 have one:∀ {c:AV},c.isCell=true->bP M0 S v c->v.cells=#[v]:=by
  intro c hc hr;have:=nK hc hr;cases v<;>first | rfl | simp [Value.oneCell'] at this
 have single:∀ {c:AV},c.isCell=true->bP M0 S v c->v.cells.size=[c].length/\gY M0 S (λj=>v.cells.getD j undef) [c]:=by
  intro c hc hr;rw [one hc hr];refine ⟨rfl,λj d hj=>?_⟩
  cases j with
  |zero=>simp at hj;subst hj;exact ⟨hc,hr⟩
  |succ j=>simp at hj
 cases x with
 |p q =>
  cases q with
  |agg l =>
   simp [AV.cells,PV.cells] at hx;subst hx;have h':RepP (Avoid M0 S.m) S.w v (.agg l):=h
   cases h' with
   |agg hn hs hr =>
    refine ⟨by simpa [Value.cells] using hn,λj c hj=>?_⟩;simp only [cv,bT] at hj;obtain ⟨q,hq,rfl⟩:=hj
    exact ⟨hs q (aL hq),hr j q hq⟩
  |tuple l=>simp [AV.cells] at hx
  |_=>(simp [AV.cells,PV.cells] at hx;subst hx;exact single rfl h)
 |agg l =>
  simp [AV.cells] at hx;subst hx;obtain ⟨C,rfl,h1,h2,h3⟩:=h
  exact ⟨h2,λj c hj=>⟨h1 c (aL hj),h3 j c hj⟩⟩
 |tuple l=>simp [AV.cells] at hx
 |undef=>simp [AV.cells] at hx
 |_=>(simp [AV.cells] at hx;subst hx;exact single rfl h)
theorem jb:∀ {cs} {l},gB cs=some l->cs=l.map .p
 |[],l,h=>by simp [gB] at h;subst h;rfl
 |c::r,l,h=>by
  cases c with
  |p v =>
   simp only [gB] at h;split at h
   .rename_i l' hl;cases h;rw [jb hl];rfl
   .cases h
  |_=>simp [gB] at h
theorem vU {M0} {S} {C} {cs} (hn:C.size=cs.length) (h:gY M0 S (λj=>C.getD j undef) cs):dN M0 S (.agg C) (qw cs):=by
 unfold qw
 cases hp:gB cs with
 |some l =>
  have:=jb hp;subst this;refine .agg (by simpa using hn) (λc hc=>?_) (λi c hi=>?_)
  .obtain ⟨i,hi⟩:=eX hc;exact (h i (.p c) (by simp [hi])).1
  .exact (h i (.p c) (by simp [hi])).2
 |none=>exact ⟨C,rfl,λc hc=>(let ⟨i,hi⟩:=eX hc;(h i c hi).1),hn,λi c hi=>(h i c hi).2⟩
theorem Hd {M0} {S} {C} {cs} (h:dM (dN M0 S) C cs):Rep M0 S (.tuple C) (qO cs):=by
 unfold qO
 cases hp:gB cs with
 |some l =>
  have:=jb hp;subst this
  exact .tuple (by simpa using h.1) (λi c hi=>h.2 i (.p c) (by simp [hi]))
 |none=>exact ⟨C,rfl,h⟩
theorem aG {M0} {S} {v} {q} (h:RepP (Avoid M0 S.m) S.w v q):Rep M0 S v (.p q):=h
variable {P:Program}
theorem ke {T} {g} (h:b8 P T=some g) (w):(isAgg T).run P w=.ok g w:=by
 unfold b8 at h;unfold isAgg
 cases hu:P.underlying T with
 |none=>simp [hu] at h
 |some d =>
  rw [Sem.run_bind,run_underlying hu w];cases d<;>simp [hu] at h<;>subst h<;>rfl
theorem bQ {T} {n} (h:ca P T=some n) (w):(sizeOf T).run P w=.ok n w:=by
 unfold ca at h
 cases hi:P.info? T with
 |none=>simp [hi] at h
 |some i=>simp [hi] at h;subst h;simp [sizeOf,typeInfo,hi]
theorem t8 {T} {n} (h:lA P T=some n) (w):∃ i,(typeInfo T).run P w=.ok i w/\i.bytes=n:=by
 unfold lA at h
 cases hi:P.info? T with
 |none=>simp [hi] at h
 |some i=>simp [hi] at h;exact ⟨i,by simp [typeInfo,hi],h⟩
theorem fm (b o n):(⟨b,o,none⟩:Addr).add n=⟨b,o+n,none⟩:=by
 unfold Addr.add;split
 .rename_i h;subst h;rfl
 .rfl
theorem EN {T} {g} {n} (hg:b8 P T=some g) (hn:ca P T=some n) (w) (b at_) (f)
  (hc:g=true->∀ j,j<n->w.cell? ⟨b,at_+j,none⟩=some (f j)) (h1:g=false->w.cell? ⟨b,at_,none⟩=some (f 0)) :
  (loadVar T ⟨b,at_,none⟩).run P w=.ok (if g then .agg ((List.range n).map f).toArray else f 0) w:=by
 unfold loadVar;rw [Sem.run_bind,ke hg w]
 cases g with
 |true =>
  have:=run_loadCells (P:=P) w ⟨b,at_,none⟩ n f (λj hj=>by rw [fm];exact hc rfl j hj)
  simp [Sem.run_bind,bQ hn w,this]
 |false=>simp [h1 rfl]
theorem ii (f) (n j) (h:j<n):(((List.range n).map f).toArray).getD j undef=f j:=by
 simp [h]
theorem F1 {M0} {S} {g} {cs} (h:gY M0 S g cs) (o n):gY M0 S (λj=>g (o+j)) (sub o n cs):=by
 intro j c hj;unfold sub at hj;rw [jG] at hj;split at hj
 .rw [mz] at hj;exact h (o+j) c hj
 .cases hj
theorem ww {v:AV} {cs} (h:v.cells=some cs):(∃ l,v=.p (.agg l))\/(∃ l,v=.agg l)\/v.isCell=true/\cs=[v]:=by
 cases v with
 |p q =>
  cases q with
  |agg l=>exact .inl ⟨l,rfl⟩
  |tuple l=>simp [AV.cells] at h
  |_=>(simp [AV.cells,PV.cells] at h;subst h;exact .inr (.inr ⟨rfl,rfl⟩))
 |agg l=>exact .inr (.inl ⟨l,rfl⟩)
 |tuple l=>simp [AV.cells] at h
 |undef=>simp [AV.cells] at h
 |_=>(simp [AV.cells] at h;subst h;exact .inr (.inr ⟨rfl,rfl⟩))
theorem E4 {M0} {S} {g} {x y:AV} {cs} {ag} {n o} (hx:x.cells=some cs) (h:gY M0 S g cs) (hp:x.part ag n o=some y) :
  (∀ j,j<n->ag=true->o+j<cs.length)/\(ag=false->o<cs.length)/\Rep M0 S (if ag then .agg ((List.range n).map λj=>g (o+j)).toArray else g o) y:=by
 unfold AV.part at hp;rw [hx] at hp
 cases ag with
 |false =>
  simp only [fA,↓reduceIte] at hp;obtain ⟨h1,h2⟩:=h o y hp
  exact ⟨λ_ _ e=>by simp at e,λ_=>(aE.1 hp).1,rk h1 h2⟩
 |true =>
  simp only [↓reduceIte] at hp |-;refine ⟨?_,λe=>by simp at e,?_⟩
  .intro j hj _;split at hp
   .rename_i hc;omega
   .split at hp
    .rename_i hc;omega
    .cases hp
  .split at hp
   .rename_i hc;obtain ⟨hl,rfl⟩:=hc;subst hl;simp only [jv];rcases ww hx with ⟨l,rfl⟩ | ⟨l,rfl⟩ | ⟨hcell,_⟩
    .cases hp;simp [AV.cells,PV.cells] at hx;subst hx;refine aG (.agg (by simp) (λc hc=>?_) (λi c hi=>?_))
     .obtain ⟨i,hi⟩:=eX hc;exact (h i (.p c) (by simp [hi])).1
     .have hlt:=(aE.1 hi).1;rw [ii _ _ _ (by simpa using hlt)];exact (h i (.p c) (by simp [hi])).2
    .cases hp;simp [AV.cells] at hx;subst hx;refine ⟨_,rfl,λc hc=>(let ⟨i,hi⟩:=eX hc;(h i c hi).1),by simp,λi c hi=>?_⟩;have hlt:=(aE.1 hi).1;rw [ii _ _ _ hlt];exact (h i c hi).2
    .cases x with
     |p q=>cases q<;>first | (simp at hp;done) | (simp [AV.isCell,PV.isCell] at hcell;done)
     |agg l=>simp [AV.isCell] at hcell
     |_=>simp at hp
   .split at hp
    .rename_i hle;cases hp;refine ow (vU (by simp [sub];omega) λj c hj=>?_);have hlt:=(aE.1 hj).1;have hjn:j<n:=by simp [sub] at hlt;omega
     show c.isCell=true/\bP M0 S (((List.range n).map λj=>g (o+j)).toArray.getD j undef) c;rw [ii _ _ _ hjn];exact F1 h o n j c hj
    .cases hp
theorem uh {m} {b x}:Own (m++[some x]) b↔Own m b\/b=x:=by
 simp [Own]
theorem fS (w:World) (o) (b) (h:b<w.heap.size):(w.alloc o).heap[b]?=w.heap[b]?:=by
 show (w.heap.push o)[b]?=_;rw [Nt,if_neg (by omega)]
theorem bL (w:World) (o):(w.alloc o).heap[w.heap.size]?=some o:=by
 show (w.heap.push o)[w.heap.size]?=some o;simp
theorem GX (w:World) (o) (b) (h:b<w.heap.size):(w.alloc o).shape? b=w.shape? b:=by
 unfold World.shape?;rw [fS w o b h]
theorem Fr.alloc (m) (w) (o):Fr m w (w.alloc o) :=
 ⟨rfl,rfl,rfl,by simp,λb hb _=>fS w o b hb,λb hb=>GX w o b hb⟩
theorem Fr.drew (m) (w):Fr m w w.drew:=⟨rfl,rfl,rfl,bM _,λ_ _ _=>rfl,λ_ _=>rfl⟩
theorem Fr.trans {m m'} {a b c} (h:Fr m a b) (k:Fr m' b c) (hs:∀ x,x<a.heap.size->Own m' x->Own m x):Fr m a c :=
 ⟨k.os.trans h.os,k.tape.trans h.tape,k.output.trans h.output,pn h.size k.size,
  λx hx hn=>(k.block x (jw hx h.size) (λho=>hn (hs x hx ho))).trans (h.block x hx hn),
  λx hx=>(k.shape x (jw hx h.size)).trans (h.shape x hx)⟩
theorem ObjOk.keep {M0} {S S'} (e:Ev S.h.length S S') {μ} {o} (h:ObjOk P M0 S μ o)
  (hb:∀ b,μ=some b->S'.w.heap[b]?=S.w.heap[b]?):ObjOk P M0 S' μ o:=by
 cases o with
 |row sz xs =>
  rcases h with h | ⟨b,T,C,h1,h2,h3,h4⟩
  .exact .inl h
  .refine .inr ⟨b,T,C,h1,(hb b h1).trans h2,h3,λi x hx=>?_⟩;obtain ⟨cs,h5,h6,h7⟩:=h4 i x hx
   exact ⟨cs,h5,h6,λj c hc=>⟨(h7 j c hc).1,e.keepS (h7 j c hc).2⟩⟩
 |strIter s p =>
  obtain ⟨b,h1,h2⟩:=h
  exact ⟨b,h1,(hb b h1).trans h2⟩
 |mp es =>
  obtain ⟨b,C,clk,h1,h2,h3⟩:=h
  exact ⟨b,C,clk,h1,(hb b h1).trans h2,h3.mono λv a=>e.keepS⟩
 |memo f =>
  obtain ⟨hg,es,hf,b,C,clk,h1,h2,h3⟩:=h
  exact ⟨hg,es,hf,b,C,clk,h1,(hb b h1).trans h2,h3.mono λv a=>e.keepS⟩
 |loop n tmps ps assign body st pend =>
  obtain ⟨b,r,h1,h2,h3,h4,h5⟩:=h
  exact ⟨b,r,h1,(hb b h1).trans h2,h3,λt=>e.keep (h4 t),h5⟩
 |dblock =>
  obtain ⟨b,h1,h2⟩:=h
  exact ⟨b,h1,(hb b h1).trans h2⟩
 |bld T el x =>
  obtain ⟨b,p,v,h1,h2,h3,h4,h5,h6⟩:=h
  exact ⟨b,p,v,h1,(hb b h1).trans h2,h3,h4,e.rep0 h5 (gA h5),λa n c hv=>let ⟨N,hN⟩:=h6 a n c hv;⟨N,(e.fr.shape _ (rg hN)).trans hN⟩⟩
 |dead=>exact trivial
def Mem.new (S:Mem) (o:AObj) (ob:Obj):Mem:=⟨S.m++[some S.w.heap.size],S.h++[o],S.w.alloc ob⟩
theorem Ev.new (base:Nat) (M0:Nat->Prop) {S:Mem} (hS:HOk P M0 S) (hb:base<=S.h.length) (o:AObj) (ob:Obj):Ev base S (S.new o ob) where
 fr:=Fr.alloc _ _ _
 sub:=λb h=>by
  rcases uh.1 h with h | rfl
  .exact .inl h
  .exact .inr (bM _)
 obj:=λid o' hid ho=>by
  refine ⟨o',?_,?_⟩
  .show (S.h++[o])[id]?=_;rw [be (by omega)];exact ho
  .have:(S.new o ob).m.getD id none=S.m.getD id none:=by
    show (S.m++[some S.w.heap.size]).getD id none=_;have:=hS.len;simp [be (show id<S.m.length by omega)]
   rw [this];exact ObjEv.refl _ _
theorem HOk.new {M0:Nat->Prop} {S:Mem} (hS:HOk P M0 S) {o:AObj} {ob:Obj} (ho:ObjOk P M0 (S.new o ob) (some S.w.heap.size) o):HOk P M0 (S.new o ob) where
 len:=by simp [Mem.new,hS.len]
 lt:=λb h=>by
  have:(S.new o ob).w.heap.size=S.w.heap.size+1:=by simp [Mem.new]
  rcases uh.1 h with h | rfl
  .have:=hS.lt b h;omega
  .omega
 m0:=λb h=>by
  obtain ⟨h1,h2⟩:=hS.m0 b h;refine ⟨by simp [Mem.new];omega,λhn=>?_⟩;rcases uh.1 hn with hn | rfl
  .exact h2 hn
  .omega
 inj:=λi j b hi hj=>by
  have hlen:=hS.len;have key:∀ k,(S.new o ob).m[k]?=some (some b)->(S.m[k]?=some (some b)/\b<S.w.heap.size)\/(k=S.m.length/\b=S.w.heap.size):=by
   intro k hk;have hk':(S.m++[some S.w.heap.size])[k]?=some (some b):=hk;rcases dr k S.m.length with h | h
   .rw [be h] at hk';exact .inl ⟨hk',hS.lt b (aL hk')⟩
   .rw [cn h] at hk';have h0:k-S.m.length=0:=by
     have:=(aE.1 hk').1;simp at this;omega
    rw [h0] at hk';simp at hk';exact .inr ⟨by omega,hk'.symm⟩
  rcases key i hi with ⟨h1,h2⟩ | ⟨h1,h2⟩<;>rcases key j hj with ⟨h3,h4⟩ | ⟨h3,h4⟩
  .exact hS.inj i j b h1 h3
  .omega
  .omega
  .omega
 obj:=λid o' hid=>by
  have hlen:=hS.len;have hid':(S.h++[o])[id]?=some o':=hid;rcases dr id S.h.length with h | h
  .rw [be h] at hid';have e:=Ev.new S.h.length M0 hS (bM _) o ob;have hm:(S.new o ob).m.getD id none=S.m.getD id none:=by
    show (S.m++[some S.w.heap.size]).getD id none=_;simp [be (show id<S.m.length by omega)]
   rw [hm];refine (hS.obj id o' hid').keep e λb hb=>fS _ _ _ ?_;refine hS.lt b ?_;have:S.m[id]?=some (some b):=by
    rw [cJ] at hb
    cases hq:S.m[id]? with
    |none=>simp [hq] at hb
    |some z=>simp [hq] at hb;rw [hb]
   exact aL this
  .have h0:id=S.h.length:=by
    have:=(aE.1 hid').1;simp at this;omega
   subst h0;rw [cn (bM _)] at hid';simp at hid';subst hid';have hm:(S.new o ob).m.getD S.h.length none=some S.w.heap.size:=by
    show (S.m++[some S.w.heap.size]).getD S.h.length none=_;rw [<-hlen];simp
   rw [hm];exact ho
 gl:=(Ev.new 0 M0 hS (dD _) o ob).glob hS.gl
def Mem.drew (S:Mem):Mem:=⟨S.m,S.h,S.w.drew⟩
theorem Ev.drew (base) (S):Ev base S S.drew:=⟨Fr.drew _ _,λ_ h=>.inl h,λ_ o _ h=>⟨o,h,ObjEv.refl _ _⟩⟩
theorem HOk.drew {M0} {S} (hS:HOk P M0 S):HOk P M0 S.drew :=
 ⟨hS.len,hS.lt,hS.m0,hS.inj,λid o h=>(hS.obj id o h).keep (Ev.drew _ S) λ_ _=>rfl,(Ev.drew 0 S).glob hS.gl⟩
end Abs
end Go.Proofs.YtfafnkpfamgbbaaGreatDoor
namespace Go.Proofs.YtfafnkpfamgbbaaGreatDoor
namespace Abs
variable {P:Program}
theorem GZ (w:World) (b) (C) (T) (fr) (hb:w.heap[b]?=some (.cells C T fr)):w.setRow b C=w:=by
 have hv:w.heap[b]'((nt.1 hb).1)=.cells C T fr:=(nt.1 hb).2;unfold World.setRow
 cases w with
 |mk heap tape drawn os output =>
  congr 1
  apply j6
  .simp
  .intro k h1 h2;simp only [Array.getElem_modify];split
   .rename_i hk;subst hk;simp at hv;simp [hv]
   .rfl
def j5 (C:Array Value) (o:Nat):List Value->Array Value
 |[]=>C
 |v::r=>j5 (C.setIfInBounds o v) (o+1) r
theorem ir:∀ (vs) (C) (o),(j5 C o vs).size=C.size
 |[],_,_=>rfl
 |v::r,C,o=>by rw [j5,ir r];simp
theorem iE:∀ (vs) (C) (o k),o+vs.length<=C.size ->
  (j5 C o vs).getD k undef=if o<=k/\k<o+vs.length then vs.getD (k-o) undef else C.getD k undef
 |[],C,o,k,_=>by
  have:¬ (o<=k/\k<o+([]:List Value).length):=by simp
  rw [if_neg this,j5]
 |v::r,C,o,k,h=>by
  have h':o+(r.length+1)<=C.size:=by simpa using h
  rw [j5,iE r (C.setIfInBounds o v) (o+1) k (by simp;omega)];by_cases h1:o+1<=k/\k<o+1+r.length
  .rw [if_pos h1,if_pos (by simp;omega),show k-o=(k-(o+1))+1 by omega];simp
  .rw [if_neg h1];by_cases h2:k=o
   .subst h2;rw [if_pos (by simp)];simp [show k<C.size by omega]
   .rw [if_neg (by simp;omega)];simp [Ne.symm h2]
theorem i7 (b) (T):∀ (vs) (off i) (C) (w),w.heap[b]?=some (.cells C T (0,0))->off+i+vs.length<=C.size ->
  (∀ v∈vs,v.oneCell'=true)->(storeCells ⟨b,off,none⟩ vs i).run P w=.ok () (w.setRow b (j5 C (off+i) vs))
 |[],off,i,C,w,hb,_,_=>by
  rw [j5,GZ w b C T _ hb]
  rfl
 |v::r,off,i,C,w,hb,hl,h1=>by
  have hl':off+i+(r.length+1)<=C.size:=by simpa using hl
  have hcell:w.cell? ⟨b,off+i,none⟩=some C[off+i]:=by simp [World.cell?,hb,show off+i<C.size by omega]
  have hfro:w.frozen? ⟨b,off+i,none⟩=false:=by simp [World.frozen?,hb]
  have hst:(store ((⟨b,off,none⟩:Addr).add i) v).run P w=.ok () (w.setRow b (C.setIfInBounds (off+i) v)):=by
   rw [fm,run_store P w _ v _ (h1 v (by simp)),hcell];simp [hfro,setCell_eq_setRow w b (off+i) C T (0,0) v hb]
  have ih:=i7 b T r off (i+1) (C.setIfInBounds (off+i) v) (w.setRow b (C.setIfInBounds (off+i) v)) (setRow_heap w b C _ T _ hb) (by simp;omega) (λx hx=>h1 x (by simp [hx]));simp only [storeCells,Sem.run_bind,hst,cc,ih,setRow_setRow,j5,qk]
def Mem.set (S:Mem) (id:Nat) (o:AObj) (b:Nat) (C:Array Value):Mem:=⟨S.m,S.h.set id o,S.w.setRow b C⟩
theorem l9 {m} {id b} (h:m.getD id none=some b):Own m b/\m[id]?=some (some b):=by
 rw [cJ] at h
 cases hq:m[id]? with
 |none=>simp [hq] at h
 |some z=>simp [hq] at h;subst h;exact ⟨aL hq,rfl⟩
theorem rf (w:World) (b) (C C') (T) (fr) (hb:w.heap[b]?=some (.cells C T fr)) (hC:C'.size=C.size) (x) :
  (w.setRow b C').shape? x=w.shape? x:=by
 unfold World.shape?;by_cases h:x=b
 .subst h;rw [setRow_heap w x C C' T fr hb,hb];simp [hC]
 .rw [setRow_other w b x C' h]
theorem Ev.set (base:Nat) {S:Mem} {id sz b:Nat} {xs xs':List AV} {C C':Array Value} {T:TypeId} (hid:S.h[id]?=some (.row sz xs)) (hm:S.m.getD id none=some b)
  (hb:S.w.heap[b]?=some (.cells C T (0,0))) (hC:C'.size=C.size) (hlen:xs.length<=xs'.length):Ev base S (S.set id (.row sz xs') b C') where
 fr:=⟨rfl,rfl,rfl,by simp [Mem.set],
  λx _ hn=>setRow_other _ _ _ _ (λe=>hn (e▸(l9 hm).1)),
  λx _=>rf _ _ _ _ _ _ hb hC x⟩
 sub:=λ_ h=>.inl h
 obj:=λj o hj ho=>by
  by_cases h:j=id
  .subst h;have:o=.row sz xs:=by rw [hid] at ho;exact (lE ho).symm
   subst this;refine ⟨.row sz xs',by simp [Mem.set,(aE.1 hid).1],.inr (.inl ⟨sz,xs,xs',rfl,rfl,?_⟩)⟩;rcases dr xs.length xs'.length with h' | h'
   .exact .inr h'
   .exact .inl ⟨by omega,rfl⟩
  .exact ⟨o,by simp [Mem.set,d5 (Ne.symm h),ho],ObjEv.refl _ _⟩
def dK (M0:Nat->Prop) (S:Mem) (sz:Nat) (C:Array Value) (xs:List AV):Prop :=
 ∀ (i:Nat) (x:AV),xs[i]?=some x->∃ cs,x.cells=some cs/\cs.length=sz/\∀ (j:Nat) (c:AV),cs[j]?=some c->c.isCell=true/\bP M0 S (C.getD (i*sz+j) undef) c
theorem dK.keep {M0} {S S'} (e:Ev S.h.length S S') {sz} {C} {xs} (h:dK M0 S sz C xs):dK M0 S' sz C xs :=
 λi x hx=>let ⟨cs,h1,h2,h3⟩:=h i x hx;⟨cs,h1,h2,λj c hc=>⟨(h3 j c hc).1,e.keepS (h3 j c hc).2⟩⟩
theorem HOk.set {M0} {S} (hS:HOk P M0 S) {id sz b} {xs xs'} {C C'} {T} (hid:S.h[id]?=some (.row sz xs)) (hm:S.m.getD id none=some b)
  (hb:S.w.heap[b]?=some (.cells C T (0,0))) (hC:C'.size=C.size) (hlen:xs.length<=xs'.length) (hroom:xs'.length*sz<=C'.size) (hel:dK M0 S sz C' xs') :
  HOk P M0 (S.set id (.row sz xs') b C'):=by
 have e:=Ev.set S.h.length hid hm hb hC hlen;refine ⟨by simp [Mem.set,hS.len],λx hx=>?_,λx hx=>?_,hS.inj,λj o hj=>?_,e.glob hS.gl⟩
 .have:=hS.lt x hx;simpa [Mem.set] using this
 .obtain ⟨h1,h2⟩:=hS.m0 x hx;exact ⟨by simpa [Mem.set] using h1,h2⟩
 .by_cases h:j=id
  .subst h;have:o=.row sz xs':=by
    have:(S.h.set j (.row sz xs'))[j]?=some o:=hj;simp [(aE.1 hid).1] at this;exact this.symm
   subst this;refine .inr ⟨b,T,C',hm,setRow_heap _ _ _ _ _ _ hb,hroom,hel.keep e⟩
  .have ho:S.h[j]?=some o:=by
    have:(S.h.set id (.row sz xs'))[j]?=some o:=hj;rwa [d5 (Ne.symm h)] at this
   refine (hS.obj j o ho).keep e λx hx=>setRow_other _ _ _ _ λhxb=>h ?_;subst hxb;exact hS.inj j id x (l9 hx).2 (l9 hm).2
def Mem.regrow (S:Mem) (id:Nat) (o:AObj) (ob:Obj):Mem:=⟨S.m.set id (some S.w.heap.size),S.h.set id o,S.w.alloc ob⟩
theorem Bu {m} {id x b} (h:Own (m.set id (some x)) b):Own m b\/b=x:=by
 unfold Own at h |-;rcases Nw h with h | h
 .exact .inl h
 .exact .inr (by simpa using h)
theorem Ev.regrow (base:Nat) {S:Mem} {id sz:Nat} {xs xs':List AV} {ob:Obj} (hid:S.h[id]?=some (.row sz xs)) (hlen:xs.length<xs'.length) :
  Ev base S (S.regrow id (.row sz xs') ob) where
 fr:=Fr.alloc _ _ _
 sub:=λb h=>by
  rcases Bu h with h | rfl
  .exact .inl h
  .exact .inr (bM _)
 obj:=λj o hj ho=>by
  by_cases h:j=id
  .subst h;have:o=.row sz xs:=by rw [hid] at ho;exact (lE ho).symm
   subst this;exact ⟨.row sz xs',by simp [Mem.regrow,(aE.1 hid).1],.inr (.inl ⟨sz,xs,xs',rfl,rfl,.inr hlen⟩)⟩
  .refine ⟨o,by simp [Mem.regrow,d5 (Ne.symm h),ho],?_⟩;have:(S.regrow id (.row sz xs') ob).m.getD j none=S.m.getD j none:=by
    simp [Mem.regrow,cJ,d5 (Ne.symm h)]
   rw [this];exact ObjEv.refl _ _
theorem HOk.regrow {M0} {S} (hS:HOk P M0 S) {id sz} {xs xs'} {C} {T} (hid:S.h[id]?=some (.row sz xs))
  (hlen:xs.length<xs'.length) (hroom:xs'.length*sz<=C.size) (hel:dK M0 S sz C xs'):HOk P M0 (S.regrow id (.row sz xs') (.cells C T)):=by
 have e:=Ev.regrow S.h.length (ob:=.cells C T) hid hlen;have hidlt:=(aE.1 hid).1;have hml:=hS.len;refine ⟨by simp [Mem.regrow,hS.len],λx hx=>?_,λx hx=>?_,λi j x hi hj=>?_,λj o hj=>?_,e.glob hS.gl⟩
 .rcases Bu hx with h | rfl
  .have:=hS.lt x h;simp [Mem.regrow];omega
  .simp [Mem.regrow]
 .obtain ⟨h1,h2⟩:=hS.m0 x hx;refine ⟨by simp [Mem.regrow];omega,λhn=>?_⟩;rcases Bu hn with h | rfl
  .exact h2 h
  .omega
 .have key:∀ k:Nat,(S.m.set id (some S.w.heap.size))[k]?=some (some x)->(k≠id/\S.m[k]?=some (some x)/\x<S.w.heap.size)\/(k=id/\x=S.w.heap.size):=by
   intro k hk;by_cases h:k=id
   .subst h;rw [iP (by omega)] at hk;exact .inr ⟨rfl,by simpa using hk.symm⟩
   .rw [d5 (Ne.symm h)] at hk;exact .inl ⟨h,hk,hS.lt x (aL hk)⟩
  rcases key i hi with ⟨h1,h2,h3⟩ | ⟨h1,h2⟩<;>rcases key j hj with ⟨h4,h5,h6⟩ | ⟨h4,h5⟩
  .exact hS.inj i j x h2 h5
  .omega
  .omega
  .omega
 .by_cases h:j=id
  .subst h;have:o=.row sz xs':=by
    have:(S.h.set j (.row sz xs'))[j]?=some o:=hj;simp [hidlt] at this;exact this.symm
   subst this;refine .inr ⟨S.w.heap.size,T,C,?_,bL _ _,hroom,hel.keep e⟩;simp [Mem.regrow,cJ,iP (show j<S.m.length by omega)]
  .have ho:S.h[j]?=some o:=by
    have:(S.h.set id (.row sz xs'))[j]?=some o:=hj;rwa [d5 (Ne.symm h)] at this
   have hm:(S.regrow id (.row sz xs') (.cells C T)).m.getD j none=S.m.getD j none:=by
    simp [Mem.regrow,cJ,d5 (Ne.symm h)]
   rw [hm];exact (hS.obj j o ho).keep e λx hx=>fS _ _ _ (hS.lt x (l9 hx).1)
end Abs
end Go.Proofs.YtfafnkpfamgbbaaGreatDoor
namespace Go.Proofs.YtfafnkpfamgbbaaGreatDoor
namespace Abs
variable {P:Program} {M0:Nat->Prop} {S:Mem}
def aM (P:Program) (M0:Nat->Prop) (S:Mem) (s:Sem Value):OR->Prop
 |.val v h=>∃ (S':Mem) (v':Value),S'.h=h/\s.run P S.w=.ok v' S'.w/\Ev S.h.length S S'/\HOk P M0 S'/\Rep M0 S' v' v
 |.stuck=>True
 |_=>False
def A4 (P:Program) (M0:Nat->Prop) (S:Mem) (s:Sem Unit):OR->Prop
 |.skip h=>∃ S':Mem,S'.h=h/\s.run P S.w=.ok () S'.w/\Ev S.h.length S S'/\HOk P M0 S'
 |.stuck=>True
 |_=>False
theorem aM.pure (hS:HOk P M0 S) {s} {v} {v'} (hr:s.run P S.w=.ok v' S.w) (h:Rep M0 S v' v):aM P M0 S s (.val v S.h) :=
 ⟨S,v',rfl,hr,Ev.refl _ _,hS,h⟩
theorem aM.opt (hS:HOk P M0 S) {s} {v} (h:∀ x,v=some x->∃ v',s.run P S.w=.ok v' S.w/\Rep M0 S v' x):aM P M0 S s (iz S.h v):=by
 cases v with
 |none=>exact trivial
 |some x=>obtain ⟨v',h1,h2⟩:=h x rfl;exact aM.pure hS h1 h2
theorem cX {id ver sz} {xs} {X} (h:dJ S id ver X) (hid:S.h[id]?=some (.row sz xs)) (hv:xs.length=ver):X sz (S.m.getD id none):=by
 rcases h with h | ⟨sz',xs',h,_,hx⟩
 .rw [hid] at h;cases h
 .rw [hid] at h;cases h;exact hx hv
theorem fp (hS:HOk P M0 S) {id sz b} {xs} (hid:S.h[id]?=some (.row sz xs)) (hm:S.m.getD id none=some b) :
  ∃ C T,S.w.heap[b]?=some (.cells C T (0,0))/\xs.length*sz<=C.size/\dK M0 S sz C xs:=by
 have:=hS.obj id _ hid;rw [hm] at this;rcases this with ⟨h,_⟩ | ⟨b',T,C,h1,h2,h3,h4⟩
 .cases h
 .cases h1;exact ⟨C,T,h2,h3,h4⟩
theorem jo {w:World} {b} {C} {T} {fr} (h:w.heap[b]?=some (.cells C T fr)) (k) (hk:k<C.size):w.cell? ⟨b,k,none⟩=some (C.getD k undef):=by
 simp [World.cell?,h,hk]
theorem iC {i n sz j:Nat} (hi:i<n) (hj:j<sz):i*sz+j<n*sz:=by
 have h1:(i+1)*sz<=n*sz:=gv sz hi;rw [fB,wT] at h1;omega
theorem yE {x} {sz} (h:x.cells.length=sz/\∀ c,c∈x.cells->c.isCell=true):(AV.p x).cells=some (x.cells.map .p):=by
 cases x with
 |tuple l=>have:=h.2 (.tuple l) (by simp [PV.cells]);simp [PV.isCell] at this
 |_=>rfl
theorem t7 (hcells) {T} {x y} {cs} {o b at_} (hx:x.cells=some cs) (hrep:gY M0 S hcells cs)
  (hcell:∀ j,o+j<cs.length->S.w.cell? ⟨b,at_+j,none⟩=some (hcells (o+j))) (hz:kU P T x o=some y) :
  ∃ v',(loadVar T ⟨b,at_,none⟩).run P S.w=.ok v' S.w/\Rep M0 S v' y:=by
 unfold kU at hz;split at hz
 .rename_i ag n hag hn;obtain ⟨h1,h2,h3⟩:=E4 hx hrep hz;exact ⟨_,EN hag hn S.w b at_ (λj=>hcells (o+j)) (λe j hj=>hcell j (h1 j hj e)) (λe=>by simpa using hcell 0 (h2 e)),by simpa using h3⟩
 .cases hz
theorem Rn (hS:HOk P M0 S) {T} {x} {v} (hx:Rep M0 S v x):aM P M0 S (Instr.loadAt T v) (oe P T x S.h):=by
 unfold oe;split
 .rename_i sz xs i o;split
  .rename_i y hy;have h:RepP (Avoid M0 S.m) S.w v (.ptr sz xs i o):=hx
   cases h with
   |ptr f hat hsz hM hc hr =>
    rename_i b off at_;refine aM.opt hS λz hz=>?_;have hi:=(aE.1 hy).1;have hsy:=hsz y (aL hy);have hrep:gY M0 S (λj=>f (i*sz+j)) (y.cells.map .p):=by
     intro j c hj;simp only [cv,bT] at hj;obtain ⟨q,hq,rfl⟩:=hj;exact ⟨hsy.2 q (aL hq),hr i j y q hy hq⟩
    have hlen:(y.cells.map AV.p).length=sz:=by simpa using hsy.1
    obtain ⟨v',h1,h2⟩:=t7 (P:=P) (λj=>f (i*sz+j)) (b:=b) (at_:=at_) (yE hsy) hrep (λj hj=>by
     rw [<-hc (i*sz+(o+j)) (iC hi (by omega)),hat]
     simp only [qk]) hz
    exact ⟨v',by simpa [Instr.loadAt,Instr.sureAddr] using h1,h2⟩
  .exact trivial
 .rename_i id ver i o;split
  .rename_i sz xs hid;split
   .rename_i hv;split
    .rename_i y hy;refine aM.opt hS λz hz=>?_;obtain ⟨b,hm,rfl⟩:=cX hx.2 hid hv;obtain ⟨C,T',hb,hsize,hel⟩:=fp hS hid hm;obtain ⟨cs,h5,h6,h7⟩:=hel i y hy;have hi:=(aE.1 hy).1;obtain ⟨v',h1,h2⟩:=t7 (P:=P) (λj=>C.getD (i*sz+j) undef) (b:=b) (at_:=i*sz+o) h5 h7 (λj hj=>by
      rw [qk]
      exact jo hb _ (jw (iC hi (by omega)) hsize)) hz
     exact ⟨v',by simpa [Instr.loadAt,Instr.sureAddr] using h1,h2⟩
    .exact trivial
   .exact trivial
  .exact trivial
 .exact trivial
theorem Hq (cs):(qw cs).cells=some cs:=by
 unfold qw
 cases hp:gB cs with
 |some l=>rw [jb hp];rfl
 |none=>rfl
theorem ro {α} (cs new:List α) (o j) (h:o+new.length<=cs.length) :
  (kf cs o new)[j]?=if o<=j/\j<o+new.length then new[j-o]? else cs[j]?:=by
 unfold kf;have h1:(cs.take o).length=o:=by simp;omega
 by_cases a:j<o
 .rw [if_neg (by omega),cE,be (by omega),jG,if_pos a]
 .by_cases b:j<o+new.length
  .rw [if_pos ⟨by omega,b⟩,be (by simp;omega),cn (by omega),h1]
  .rw [if_neg (by omega),cn (by simp;omega),mz]
   congr 1
   simp [h1];omega
theorem nI {α} (cs new:List α) (o) (h:o+new.length<=cs.length):(kf cs o new).length=cs.length:=by
 unfold kf;simp;omega
theorem gy (C:Array Value) (j):C.toList.getD j undef=C.getD j undef:=by
 simp [cJ]
theorem NN (hS:HOk P M0 S) {T} {x y} {v u} (hx:Rep M0 S v x) (hy:Rep M0 S u y):A4 P M0 S (Instr.storeAt T v u) (gK P T x y S.h):=by
 unfold gK;split
 .rename_i id ver i o n hn;split
  .rename_i sz xs hid;split
   .rename_i hv;split
    .rename_i e he;split
     .rename_i e' he';obtain ⟨b,hm,rfl⟩:=cX hx.2 hid hv;obtain ⟨C,T',hb,hsize,hel⟩:=fp hS hid hm;obtain ⟨cs,h5,h6,h7⟩:=hel i e he;have hi:=(aE.1 he).1;unfold AV.withCells at he';rw [h5] at he'
      cases hyc:y.cells with
      |none=>simp [hyc] at he'
      |some new =>
       simp only [hyc] at he';split at he'
       .rename_i hnew;obtain ⟨hun,hur⟩:=i8 hy hyc;have hle:o+n<=sz:=by
         split at he'
         .rename_i hc;omega
         .split at he'
          .rename_i hc;omega
          .cases he'
        have he2:e'.cells=some (kf cs o new)/\(kf cs o new).length=sz:=by
         split at he'
         .rename_i hc;cases he';obtain ⟨hc1,rfl⟩:=hc;refine ⟨?_,by rw [nI _ _ _ (by omega)];omega⟩;rw [hyc]
          congr 1
          apply nu;intro j;rw [ro _ _ _ _ (by omega)];by_cases hj:j<new.length
          .rw [if_pos ⟨by omega,by omega⟩];simp
          .rw [if_neg (by omega),ve (by omega),ve (by omega)]
         .split at he'
          .cases he';exact ⟨Hq _,by rw [nI _ _ _ (by omega)];omega⟩
          .cases he'
        have hvl:u.cells.toList.length=n:=by simp;omega
        have hin:i*sz+sz<=xs.length*sz:=by
         have:(i+1)*sz<=xs.length*sz:=gv sz hi;rwa [fB,wT] at this
        have hbound:i*sz+o+u.cells.toList.length<=C.size:=by omega
        have hone:∀ z∈u.cells.toList,z.oneCell'=true:=by
         intro z hz;obtain ⟨j,hj⟩:=eX hz;have hjl:=(aE.1 hj).1;have hjn:j<new.length:=by omega
         obtain ⟨h8,h9⟩:=hur j new[j] (by simp [hjn]);have:u.cells.getD j undef=z:=by rw [<-gy,cJ,hj];rfl
         simp only [this] at h9;exact nK h8 h9
        have hrun:=i7 (P:=P) b T' u.cells.toList (i*sz+o) 0 C S.w hb (by omega) hone;simp only [lY] at hrun;refine ⟨S.set id (.row sz (xs.set i e')) b (j5 C (i*sz+o) u.cells.toList),rfl,?_,Ev.set _ hid hm hb (ir _ _ _) (by simp),HOk.set hS hid hm hb (ir _ _ _) (by simp) (by simp [ir];omega) ?_⟩
        .unfold Instr.storeAt storeVar;simp only [Instr.sureAddr,Sem.run_bind,Sem.run_pure,cc,bQ hn];rw [if_neg (by omega)];simpa [Mem.set] using hrun
        .intro k z hk;by_cases hki:k=i
         .subst hki;rw [iP hi] at hk;cases hk;refine ⟨_,he2.1,he2.2,λj c hc=>?_⟩;have hjl:=(aE.1 hc).1;rw [ro _ _ _ _ (by omega)] at hc;rw [iE _ _ _ _ hbound];split at hc
          .rename_i hj;rw [if_pos (by omega)];have:=hur (j-o) c hc;rw [show k*sz+j-(k*sz+o)=j-o by omega,gy];exact this
          .rename_i hj;rw [if_neg (by omega)];exact h7 j c hc
         .rw [d5 (Ne.symm hki)] at hk;obtain ⟨cs',g1,g2,g3⟩:=hel k z hk;refine ⟨cs',g1,g2,λj c hc=>?_⟩;have hjl:=(aE.1 hc).1;have hkl:=(aE.1 hk).1;rw [iE _ _ _ _ hbound,if_neg ?_]
          .exact g3 j c hc
          .intro hh;rcases dr k i with h' | h'
           .have:(k+1)*sz<=i*sz:=gv sz h';rw [fB,wT] at this;omega
           .have:(i+1)*sz<=k*sz:=gv sz (by omega);rw [fB,wT] at this;omega
       .cases he'
     .exact trivial
    .exact trivial
   .exact trivial
  .exact trivial
 .exact trivial
theorem xZ {T} {f off} {t} (h:af P T f=some (off,t)) :
  ∃ fs fd,P.underlying T=some (.struct fs)/\fs[f]?=some fd/\fd.offset=off/\fd.type=t:=by
 unfold af at h;split at h
 .rename_i fs hu;simp only [bT,zq] at h;obtain ⟨fd,h1,h2,h3⟩:=h;exact ⟨fs,fd,hu,h1,h2,h3⟩
 .cases h
theorem lm {h} {id ver sz} (e:gQ h id ver=some sz):∃ xs,h[id]?=some (.row sz xs)/\xs.length=ver:=by
 unfold gQ at e;split at e
 .rename_i sz' xs hid;split at e
  .rename_i hv;cases e;exact ⟨xs,hid,hv⟩
  .cases e
 .cases e
theorem ut {id ver i o' sz} {xs} {b} (hid:S.h[id]?=some (.row sz xs)) (hv:xs.length=ver) (hm:S.m.getD id none=some b) :
  Rep M0 S (.pointer (some ⟨b,i*sz+o',none⟩)) (.ptr id ver i o') :=
 ⟨⟨_,rfl⟩,.inr ⟨sz,xs,hid,by omega,λ_=>⟨b,hm,rfl⟩⟩⟩
theorem FL (hS:HOk P M0 S) {T} {x} {v} {f} (hx:Rep M0 S v x):aM P M0 S (Instr.fieldAt T v f) (lX P T x f S.h):=by
 unfold lX;split
 .exact trivial
 .rename_i off t hf;obtain ⟨fs,fd,hu,hfd,rfl,rfl⟩:=xZ hf;split
  .exact trivial
  .rename_i n hsz;split
   .exact trivial
   .rename_i hn0;have run:∀ (b at_:Nat),(Instr.fieldAt T (.pointer (some ⟨b,at_,none⟩)) f).run P S.w=.ok (.pointer (some ⟨b,at_+fd.offset,none⟩)) S.w:=by
     intro b at_;simp [Instr.fieldAt,run_underlying hu,hfd,Instr.sureAddr,fieldPlace,bQ hsz,hn0,fm]
    split
    .rename_i sz xs i o;have h:RepP (Avoid M0 S.m) S.w v (.ptr sz xs i o):=hx
     cases h with
     |ptr g hat hs hM hc hr =>
      refine aM.pure hS (run _ _) (aG (.ptr g ?_ hs hM hc hr));rw [hat,qk]
    .rename_i id ver i o;split
     .rename_i sz hl;obtain ⟨xs,hid,hv⟩:=lm hl;obtain ⟨b,hm,rfl⟩:=cX hx.2 hid hv;refine aM.pure hS (run _ _) ?_;rw [qk];exact ut hid hv hm
     .exact trivial
    .exact trivial
theorem cu {T e} (h:bu P T=some e):P.underlying T=some (.slice e):=by
 unfold bu at h;split at h
 .rename_i e' hu;cases h;exact hu
 .cases h
theorem mw {T e} {n} (h:dI P T=some (n,e)):P.underlying T=some (.array n e):=by
 unfold dI at h;split at h
 .rename_i n' e' hu;cases h;exact hu
 .cases h
theorem toNat_lt {i:Int} {n:Nat} (h0:0<=i) (h:i<n):i.toNat<n:=by omega
theorem im {v} {k} {i} (h:Rep M0 S v (.p (.int k i))):v=.int k i:=by
 have h':RepP (Avoid M0 S.m) S.w v (.int k i):=h
 cases h' with
 |int k n=>rfl
theorem oN {v} {b} (h:Rep M0 S v (.p (.bool b))):v=.bool b:=by
 have h':RepP (Avoid M0 S.m) S.w v (.bool b):=h
 cases h' with
 |bool b=>rfl
theorem FE (hS:HOk P M0 S) {T} {x ix} {v vi} (hx:Rep M0 S v x) (hi:Rep M0 S vi ix):aM P M0 S (Instr.indexAt T v vi) (ia P T x ix S.h):=by
 unfold ia;split
 .rename_i k i;have:=im hi;subst this;split
  .rename_i sz xs full;split
   .rename_i e he;split
    .rename_i hc;obtain ⟨hsz,h0,hlt⟩:=hc;have hu:=cu he;have h:RepP (Avoid M0 S.m) S.w v (.slice sz xs full):=hx
     cases h with
     |slice f hlen hcap hfull hs hM hcell hr =>
      rename_i b off len cap;subst hlen;refine aM.pure hS (v':=.pointer (some ⟨b,off+i.toNat*sz,none⟩)) ?_ (aG (.ptr f (by omega) hs hM hcell hr))
      simp [Instr.indexAt,asIntOf,run_underlying hu,h0,hlt,bQ hsz,fm]
     |empty hfull=>simp at hlt;omega
    .exact trivial
   .exact trivial
  .rename_i id ver off len;split
   .rename_i e sz xs he hid;split
    .rename_i hc;obtain ⟨hsz,hv,h0,hlt⟩:=hc;have hu:=cu he;have hl:=cX hx.2 hid hv;rcases hl with ⟨h1,_⟩ | ⟨b,cap,T',n,hm,rfl,hlc,hsh,hroom⟩ | ⟨_,_,h1⟩
     .omega
     .refine aM.pure hS (v':=.pointer (some ⟨b,(off+i.toNat)*sz+0,none⟩)) ?_ (ut hid hv hm);simp [Instr.indexAt,asIntOf,run_underlying hu,h0,hlt,bQ hsz,fm,fB]
     .omega
    .exact trivial
   .exact trivial
  .rename_i sz xs j o;split
   .rename_i n e he;split
    .rename_i s hs;split
     .rename_i hc;obtain ⟨h0,hlt⟩:=hc;have hu:=mw he;have h:RepP (Avoid M0 S.m) S.w v (.ptr sz xs j o):=hx
      cases h with
      |ptr g hat hsz hM hcell hr =>
       rename_i b off at_;refine aM.pure hS (v':=.pointer (some ⟨b,at_+i.toNat*s,none⟩)) ?_ (aG (.ptr g (by rw [hat,qk]) hsz hM hcell hr));simp [Instr.indexAt,asIntOf,run_underlying hu,h0,hlt,bQ hs,fm,Instr.sureAddr]
     .exact trivial
    .exact trivial
   .exact trivial
  .rename_i id ver j o;split
   .rename_i n e he;split
    .rename_i s sz hs hl;split
     .rename_i hc;obtain ⟨h0,hlt⟩:=hc;have hu:=mw he;obtain ⟨xs,hid,hv⟩:=lm hl;obtain ⟨b,hm,rfl⟩:=cX hx.2 hid hv;refine aM.pure hS (v':=.pointer (some ⟨b,j*sz+(o+i.toNat*s),none⟩)) ?_ (ut hid hv hm);simp [Instr.indexAt,asIntOf,run_underlying hu,h0,hlt,bQ hs,fm,Instr.sureAddr,qk]
     .exact trivial
    .exact trivial
   .exact trivial
  .exact trivial
 .exact trivial
theorem ft {T} (h:eQ P T=true):P.underlying T=some .string:=by
 unfold eQ at h;split at h
 .assumption
 .cases h
theorem Cs {T} {x y} {v} {o} {C} (hv:v=.agg C) (hx:Rep M0 S v x) (hag:x.cells.isSome) (hz:kU P T x o=some y) :
  ∃ v',(part T C o).run P S.w=.ok v' S.w/\Rep M0 S v' y:=by
 subst hv;obtain ⟨cs,hcs⟩:=jO.1 hag;obtain ⟨hn,hrep⟩:=i8 hx hcs;simp only [Value.cells] at hn hrep;unfold kU at hz;split at hz
 .rename_i ag n hg hsz;obtain ⟨h1,h2,h3⟩:=E4 hcs hrep hz
  cases ag with
  |true =>
   refine ⟨.agg (C.extract o (o+n)),?_,?_⟩
   .simp [part,ke hg,bQ hsz]
   .have hle:n=0\/o+n<=C.size:=by
     rcases oU n with h | h
     .exact .inl h
     .have:=h1 (n-1) (by omega) rfl;exact .inr (by omega)
    have:C.extract o (o+n)=((List.range n).map λj=>C.getD (o+j) undef).toArray:=by
     apply j6
     .simp;omega
     .intro k hk1 hk2;have hkn:k<n:=by simpa using hk2
      simp [show o+k<C.size by rcases hle with h | h<;>omega]
    rw [this]
    simpa using h3
  |false =>
   have ho:=h2 rfl;refine ⟨C.getD o undef,?_,by simpa using h3⟩;simp [part,ke hg,show o<C.size by omega]
 .cases hz
theorem B6 {v} {x} (hx:Rep M0 S v x) (h:(∃ l,x=.p (.agg l))\/∃ l,x=.agg l):∃ C,v=.agg C:=by
 rcases h with ⟨l,rfl⟩ | ⟨l,rfl⟩
 .have h':RepP (Avoid M0 S.m) S.w v (.agg l):=hx
  cases h' with
  |agg=>exact ⟨_,rfl⟩
 .obtain ⟨C,rfl,_⟩:=hx;exact ⟨C,rfl⟩
theorem OI (hS:HOk P M0 S) {T} {x} {v} {f} (hx:Rep M0 S v x):aM P M0 S (Instr.field T v f) (tA P T x f S.h):=by
 unfold tA;split
 .exact trivial
 .rename_i off t hf;obtain ⟨fs,fd,hu,hfd,rfl,rfl⟩:=xZ hf;have key:((∃ l,x=.p (.agg l))\/∃ l,x=.agg l)->aM P M0 S (Instr.field T v f) (iz S.h (kU P fd.type x fd.offset)):=by
   intro hk;refine aM.opt hS λy hy=>?_;obtain ⟨C,hv⟩:=B6 hx hk;obtain ⟨v',h1,h2⟩:=Cs hv hx (by rcases hk with ⟨l,rfl⟩ | ⟨l,rfl⟩<;>rfl) hy;exact ⟨v',by simp [Instr.field,run_underlying hu,hfd,hv,asAgg,h1],h2⟩
  split
  .exact key (.inl ⟨_,rfl⟩)
  .exact key (.inr ⟨_,rfl⟩)
  .exact trivial
theorem Ov (hS:HOk P M0 S) {T} {x ix} {v vi} (hx:Rep M0 S v x) (hi:Rep M0 S vi ix):aM P M0 S (Instr.index T v vi) (wL P T x ix S.h):=by
 unfold wL;split
 .rename_i k i;have:=im hi;subst this
  have key:((∃ l,x=.p (.agg l))\/∃ l,x=.agg l)->∀ n e s,dI P T=some (n,e)->ca P e=some s->(0<=i/\i<n) ->
    aM P M0 S (Instr.index T v (.int k i)) (iz S.h (kU P e x (i.toNat*s))):=by
   intro hk n e s he hs hc;obtain ⟨h0,hlt⟩:=hc;refine aM.opt hS λy hy=>?_;obtain ⟨C,hv⟩:=B6 hx hk;obtain ⟨v',h1,h2⟩:=Cs hv hx (by rcases hk with ⟨l,rfl⟩ | ⟨l,rfl⟩<;>rfl) hy;exact ⟨v',by simp [Instr.index,asIntOf,run_underlying (mw he),hv,h0,hlt,bQ hs,h1],h2⟩
  split
  .rename_i s;split
   .rename_i hc;obtain ⟨hst,h0⟩:=hc;split
    .rename_i b hb;have h':RepP (Avoid M0 S.m) S.w v (.str s):=hx
     cases h' with
     |str s =>
      refine aM.pure hS (v':=.int .u8 b.toNat) ?_ (aG (.int _ _));simp [Instr.index,asIntOf,run_underlying (ft hst),h0,hb]
    .exact trivial
   .exact trivial
  .split
   .split
    .split
     .rename_i n e he _ s hs hc;exact key (.inl ⟨_,rfl⟩) n e s he hs hc
     .exact trivial
    .exact trivial
   .exact trivial
  .split
   .split
    .split
     .rename_i n e he _ s hs hc;exact key (.inr ⟨_,rfl⟩) n e s he hs hc
     .exact trivial
    .exact trivial
   .exact trivial
  .exact trivial
 .exact trivial
end Abs
end Go.Proofs.YtfafnkpfamgbbaaGreatDoor
