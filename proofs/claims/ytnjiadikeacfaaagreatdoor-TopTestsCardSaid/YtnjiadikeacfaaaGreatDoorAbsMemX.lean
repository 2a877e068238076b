/- CONTRACTS of the program's functions, and laws on what they return. No conditions but those in the theorems' heads. -/
import Derived.Test.YtnjiadikeacfaaaGreatDoorAbsRep
set_option linter.all false
namespace Go.Proofs.YtnjiadikeacfaaaGreatDoor
namespace Abs
def gV (M0:Nat->Prop) (S:Mem) (g:Nat->Value) (cs:List AV):Prop:=
 ∀(j:Nat) (c:AV),cs[j]?=some c->c.isCell=true/\bL M0 S (g j) c
theorem qJ{M0}{S}{v}{c}(hc:c.isCell=true)(h:bL M0 S v c):Rep M0 S v c:=by
 cases c with
 |agg cs=>simp[AV.isCell]at hc
 |tuple cs=>simp[AV.isCell]at hc
 |undef=>simp[AV.isCell]at hc
 |_=>exact h
theorem nQ{M0}{S}{v}{c}(h:dF M0 S v c):Rep M0 S v c:=by
 cases c with
 |tuple cs=>exact False.elim h
 |_=>exact h
theorem ng{M0}{S}{v}{c}(hc:c.isCell=true)(h:bL M0 S v c):v.oneCell'=true:=by
 cases c with
 |p q=>
  have h':RepP (Avoid M0 S.m) S.w v q:=h
  cases h' with
  |agg=>simp[AV.isCell,PV.isCell]at hc
  |tuple=>simp[AV.isCell,PV.isCell]at hc
  |_=>rfl
 |ptr id ver i o=>obtain⟨⟨a,rfl⟩,_⟩:=h;rfl
 |slice id ver off len=>obtain⟨⟨a,_,_,rfl⟩,_⟩:=h;rfl
 |ref k id=>obtain⟨⟨a,rfl⟩,_⟩:=h;cases k<;>rfl
 |func fn f c=>obtain⟨F,C,rfl,_⟩:=h;rfl
 |agg cs=>simp[AV.isCell]at hc
 |tuple cs=>simp[AV.isCell]at hc
 |undef=>simp[AV.isCell]at hc
theorem Q3{α:Type}(C:Array α)(i)(d)(h):C.getD i d=C[i]:=by simp[Array.getD,h]
theorem getD_some{α:Type}{C:Array α}{i}{d x}(h:C[i]?=some x):C.getD i d=x:=by
 obtain⟨h1,h2⟩:=uT.1 h;rw[Q3 _ _ _ h1,h2]
theorem iT{M0}{S}{v}{x}{cs}(h:Rep M0 S v x)(hx:x.cells=some cs) :
  v.cells.size=cs.length/\gV M0 S (λj=>v.cells.getD j undef) cs:=by
 have one:∀{c:AV},c.isCell=true->bL M0 S v c->v.cells=#[v]:=by
  intro c hc hr;have:=ng hc hr;cases v<;>first|rfl|simp[Value.oneCell']at this
 have single:∀{c:AV},c.isCell=true->bL M0 S v c->v.cells.size=[c].length/\gV M0 S (λj=>v.cells.getD j undef) [c]:=by
  intro c hc hr;rw[one hc hr];refine⟨rfl,λj d hj=>?_⟩
  cases j with
  |zero=>simp at hj;subst hj;exact⟨hc,hr⟩
  |succ j=>simp at hj
 cases x with
 |p q=>
  cases q with
  |agg l=>
   simp[AV.cells,PV.cells]at hx;subst hx;have h':RepP (Avoid M0 S.m) S.w v (.agg l):=h
   cases h' with
   |agg hn hs hr=>
    refine⟨by simpa[Value.cells]using hn,λj c hj=>?_⟩;simp only[cz,cd]at hj;obtain⟨q,hq,rfl⟩:=hj
    exact⟨hs q (aT hq),hr j q hq⟩
  |tuple l=>simp[AV.cells]at hx
  |_=>(simp[AV.cells,PV.cells]at hx;subst hx;exact single rfl h)
 |agg l=>
  simp[AV.cells]at hx;subst hx;obtain⟨C,rfl,h1,h2,h3⟩:=h
  exact⟨h2,λj c hj=>⟨h1 c (aT hj),h3 j c hj⟩⟩
 |tuple l=>simp[AV.cells]at hx
 |undef=>simp[AV.cells]at hx
 |_=>(simp[AV.cells]at hx;subst hx;exact single rfl h)
theorem iV:∀{cs} {l},gq cs=some l->cs=l.map .p
 |[],l,h=>by simp[gq]at h;subst h;rfl
 |c::r,l,h=>by
  cases c with
  |p v=>
   simp only[gq]at h;split at h
   .rename_i l' hl;cases h;rw[iV hl];rfl
   .cases h
  |_=>simp[gq]at h
theorem vu{M0}{S}{C}{cs}(hn:C.size=cs.length)(h:gV M0 S (λj=>C.getD j undef) cs):dF M0 S (.agg C) (pY cs):=by
 unfold pY
 cases hp:gq cs with
 |some l=>
  have:=iV hp;subst this;refine .agg (by simpa using hn) (λc hc=>?_) (λi c hi=>?_)
  .obtain⟨i,hi⟩:=dz hc;exact(h i (.p c) (by simp[hi])).1
  .exact(h i (.p c) (by simp[hi])).2
 |none=>exact⟨C,rfl,λc hc=>(let ⟨i,hi⟩:=dz hc;(h i c hi).1),hn,λi c hi=>(h i c hi).2⟩
theorem GK{M0}{S}{C}{cs}(h:dE (dF M0 S) C cs):Rep M0 S (.tuple C) (qk cs):=by
 unfold qk
 cases hp:gq cs with
 |some l=>
  have:=iV hp;subst this
  exact .tuple (by simpa using h.1) (λi c hi=>h.2 i (.p c) (by simp[hi]))
 |none=>exact⟨C,rfl,h⟩
theorem aF{M0}{S}{v}{q}(h:RepP (Avoid M0 S.m) S.w v q):Rep M0 S v (.p q):=h
variable {P:Program}
theorem jV{T}{g}(h:b6 P T=some g)(w):(isAgg T).run P w=.ok g w:=by
 unfold b6 at h;unfold isAgg
 cases hu:P.underlying T with
 |none=>simp[hu]at h
 |some d=>
  rw[Sem.run_bind,run_underlying hu w];cases d<;>simp[hu]at h<;>subst h<;>rfl
theorem bN{T}{n}(h:b8 P T=some n)(w):(sizeOf T).run P w=.ok n w:=by
 unfold b8 at h
 cases hi:P.info? T with
 |none=>simp[hi]at h
 |some i=>simp[hi]at h;subst h;simp[sizeOf,typeInfo,hi]
theorem tJ{T}{n}(h:ld P T=some n)(w):∃i,(typeInfo T).run P w=.ok i w/\i.bytes=n:=by
 unfold ld at h
 cases hi:P.info? T with
 |none=>simp[hi]at h
 |some i=>simp[hi]at h;exact⟨i,by simp[typeInfo,hi],h⟩
theorem fh(b o n):(⟨b,o,none⟩:Addr).add n=⟨b,o+n,none⟩:=by
 unfold Addr.add;split
 .rename_i h;subst h;rfl
 .rfl
theorem Ef{T}{g}{n}(hg:b6 P T=some g)(hn:b8 P T=some n)(w)(b at_)(f)
  (hc:g=true->∀j,j<n->w.cell? ⟨b,at_+j,none⟩=some (f j)) (h1:g=false->w.cell? ⟨b,at_,none⟩=some (f 0)) :
  (loadVar T ⟨b,at_,none⟩).run P w=.ok (if g then .agg ((List.range n).map f).toArray else f 0) w:=by
 unfold loadVar;rw[Sem.run_bind,jV hg w]
 cases g with
 |true=>
  have:=run_loadCells (P:=P) w ⟨b,at_,none⟩ n f (λj hj=>by rw[fh];exact hc rfl j hj)
  simp[Sem.run_bind,bN hn w,this]
 |false=>simp[h1 rfl]
theorem ic(f)(n j)(h:j<n):(((List.range n).map f).toArray).getD j undef=f j:=by
 simp[h]
theorem Fv{M0}{S}{g}{cs}(h:gV M0 S g cs)(o n):gV M0 S (λj=>g (o+j)) (sub o n cs):=by
 intro j c hj;unfold sub at hj;rw[jp]at hj;split at hj
 .rw[sc]at hj;exact h (o+j) c hj
 .cases hj
theorem vU{v:AV}{cs}(h:v.cells=some cs):(∃l,v=.p (.agg l))\/(∃l,v=.agg l)\/v.isCell=true/\cs=[v]:=by
 cases v with
 |p q=>
  cases q with
  |agg l=>exact .inl ⟨l,rfl⟩
  |tuple l=>simp[AV.cells]at h
  |_=>(simp[AV.cells,PV.cells]at h;subst h;exact .inr (.inr ⟨rfl,rfl⟩))
 |agg l=>exact .inr (.inl ⟨l,rfl⟩)
 |tuple l=>simp[AV.cells]at h
 |undef=>simp[AV.cells]at h
 |_=>(simp[AV.cells]at h;subst h;exact .inr (.inr ⟨rfl,rfl⟩))
theorem Ez{M0}{S}{g}{x y:AV}{cs}{ag}{n o}(hx:x.cells=some cs)(h:gV M0 S g cs)(hp:x.part ag n o=some y) :
  (∀j,j<n->ag=true->o+j<cs.length)/\(ag=false->o<cs.length)/\Rep M0 S (if ag then .agg ((List.range n).map λj=>g (o+j)).toArray else g o) y:=by
 unfold AV.part at hp;rw[hx]at hp
 cases ag with
 |false=>
  simp only[d4,↓reduceIte]at hp;obtain⟨h1,h2⟩:=h o y hp
  exact⟨λ_ _ e=>by simp at e,λ_=>(ax.1 hp).1,qJ h1 h2⟩
 |true=>
  simp only[↓reduceIte]at hp |-;refine⟨?_,λe=>by simp at e,?_⟩
  .intro j hj _;split at hp
   .rename_i hc;omega
   .split at hp
    .rename_i hc;omega
    .cases hp
  .split at hp
   .rename_i hc;obtain⟨hl,rfl⟩:=hc;subst hl;simp only[d5];rcases vU hx with⟨l,rfl⟩|⟨l,rfl⟩|⟨hcell,_⟩
    .cases hp;simp[AV.cells,PV.cells]at hx;subst hx;refine aF (.agg (by simp) (λc hc=>?_) (λi c hi=>?_))
     .obtain⟨i,hi⟩:=dz hc;exact(h i (.p c) (by simp[hi])).1
     .have hlt:=(ax.1 hi).1;rw[ic _ _ _ (by simpa using hlt)];exact(h i (.p c) (by simp[hi])).2
    .cases hp;simp[AV.cells]at hx;subst hx;refine⟨_,rfl,λc hc=>(let ⟨i,hi⟩:=dz hc;(h i c hi).1),by simp,λi c hi=>?_⟩;have hlt:=(ax.1 hi).1;rw[ic _ _ _ hlt];exact(h i c hi).2
    .cases x with
     |p q=>cases q<;>first|(simp at hp;done)|(simp[AV.isCell,PV.isCell]at hcell;done)
     |agg l=>simp[AV.isCell]at hcell
     |_=>simp at hp
   .split at hp
    .rename_i hle;cases hp;refine nQ (vu (by simp[sub];omega) λj c hj=>?_);have hlt:=(ax.1 hj).1;have hjn:j<n:=by simp[sub]at hlt;omega
     show c.isCell=true/\bL M0 S (((List.range n).map λj=>g (o+j)).toArray.getD j undef) c;rw[ic _ _ _ hjn];exact Fv h o n j c hj
    .cases hp
theorem tS{m}{b x}:Own (m++[some x]) b↔Own m b\/b=x:=by
 simp[Own]
theorem fP(w:World)(o)(b)(h:b<w.heap.size):(w.alloc o).heap[b]?=w.heap[b]?:=by
 show (w.heap.push o)[b]?=_;rw[IT,if_neg (by omega)]
theorem bI(w:World)(o):(w.alloc o).heap[w.heap.size]?=some o:=by
 show (w.heap.push o)[w.heap.size]?=some o;simp
theorem Gt(w:World)(o)(b)(h:b<w.heap.size):(w.alloc o).shape? b=w.shape? b:=by
 unfold World.shape?;rw[fP w o b h]
theorem Fr.alloc(m)(w)(o):Fr m w (w.alloc o):=
 ⟨rfl,rfl,rfl,by simp,λb hb _=>fP w o b hb,λb hb=>Gt w o b hb⟩
theorem Fr.drew(m)(w):Fr m w w.drew:=⟨rfl,rfl,rfl,bi _,λ_ _ _=>rfl,λ_ _=>rfl⟩
theorem Fr.trans{m m'}{a b c}(h:Fr m a b)(k:Fr m' b c)(hs:∀x,x<a.heap.size->Own m' x->Own m x):Fr m a c:=
 ⟨k.os.trans h.os,k.tape.trans h.tape,k.output.trans h.output,iN h.size k.size,
  λx hx hn=>(k.block x (gb hx h.size) (λho=>hn (hs x hx ho))).trans (h.block x hx hn),
  λx hx=>(k.shape x (gb hx h.size)).trans (h.shape x hx)⟩
theorem ObjOk.keep{M0}{S S'}(e:Ev S.h.length S S'){μ}{o}(h:ObjOk P M0 S μ o)
  (hb:∀b,μ=some b->S'.w.heap[b]?=S.w.heap[b]?):ObjOk P M0 S' μ o:=by
 cases o with
 |row sz xs=>
  rcases h with h|⟨b,T,C,h1,h2,h3,h4⟩
  .exact .inl h
  .refine .inr ⟨b,T,C,h1,(hb b h1).trans h2,h3,λi x hx=>?_⟩;obtain⟨cs,h5,h6,h7⟩:=h4 i x hx
   exact⟨cs,h5,h6,λj c hc=>⟨(h7 j c hc).1,e.keepS (h7 j c hc).2⟩⟩
 |strIter s p=>
  obtain⟨b,h1,h2⟩:=h
  exact⟨b,h1,(hb b h1).trans h2⟩
 |mp es=>
  obtain⟨b,C,clk,h1,h2,h3⟩:=h
  exact⟨b,C,clk,h1,(hb b h1).trans h2,h3.mono λv a=>e.keepS⟩
 |memo f=>
  obtain⟨hg,es,hf,b,C,clk,h1,h2,h3⟩:=h
  exact⟨hg,es,hf,b,C,clk,h1,(hb b h1).trans h2,h3.mono λv a=>e.keepS⟩
 |loop n tmps ps assign body st pend=>
  obtain⟨b,r,h1,h2,h3,h4,h5⟩:=h
  exact⟨b,r,h1,(hb b h1).trans h2,h3,λt=>e.keep (h4 t),h5⟩
 |dblock=>
  obtain⟨b,h1,h2⟩:=h
  exact⟨b,h1,(hb b h1).trans h2⟩
 |bld T el x=>
  obtain⟨b,p,v,h1,h2,h3,h4,h5,h6⟩:=h
  exact⟨b,p,v,h1,(hb b h1).trans h2,h3,h4,e.rep0 h5 (gp h5),λa n c hv=>let ⟨N,hN⟩:=h6 a n c hv;⟨N,(e.fr.shape _ (qF hN)).trans hN⟩⟩
 |dead=>exact trivial
def Mem.new (S:Mem) (o:AObj) (ob:Obj):Mem:=⟨S.m++[some S.w.heap.size],S.h++[o],S.w.alloc ob⟩
theorem Ev.new(base:Nat)(M0:Nat->Prop){S:Mem}(hS:HOk P M0 S)(hb:base<=S.h.length)(o:AObj)(ob:Obj):Ev base S (S.new o ob) where
 fr:=Fr.alloc _ _ _
 sub:=λb h=>by
  rcases tS.1 h with h|rfl
  .exact .inl h
  .exact .inr (bi _)
 obj:=λid o' hid ho=>by
  refine⟨o',?_,?_⟩
  .show (S.h++[o])[id]?=_;rw[aZ (by omega)];exact ho
  .have:(S.new o ob).m.getD id none=S.m.getD id none:=by
    show (S.m++[some S.w.heap.size]).getD id none=_;have:=hS.len;simp[aZ (show id<S.m.length by omega)]
   rw[this];exact ObjEv.refl _ _
theorem HOk.new{M0:Nat->Prop}{S:Mem}(hS:HOk P M0 S){o:AObj}{ob:Obj}(ho:ObjOk P M0 (S.new o ob) (some S.w.heap.size) o):HOk P M0 (S.new o ob) where
 len:=by simp[Mem.new,hS.len]
 lt:=λb h=>by
  have:(S.new o ob).w.heap.size=S.w.heap.size+1:=by simp[Mem.new]
  rcases tS.1 h with h|rfl
  .have:=hS.lt b h;omega
  .omega
 m0:=λb h=>by
  obtain⟨h1,h2⟩:=hS.m0 b h;refine⟨by simp[Mem.new];omega,λhn=>?_⟩;rcases tS.1 hn with hn|rfl
  .exact h2 hn
  .omega
 inj:=λi j b hi hj=>by
  have hlen:=hS.len;have key:∀k,(S.new o ob).m[k]?=some (some b)->(S.m[k]?=some (some b)/\b<S.w.heap.size)\/(k=S.m.length/\b=S.w.heap.size):=by
   intro k hk;have hk':(S.m++[some S.w.heap.size])[k]?=some (some b):=hk;rcases dg k S.m.length with h|h
   .rw[aZ h]at hk';exact .inl ⟨hk',hS.lt b (aT hk')⟩
   .rw[cm h]at hk';have h0:k-S.m.length=0:=by
     have:=(ax.1 hk').1;simp at this;omega
    rw[h0]at hk';simp at hk';exact .inr ⟨by omega,hk'.symm⟩
  rcases key i hi with⟨h1,h2⟩|⟨h1,h2⟩<;>rcases key j hj with⟨h3,h4⟩|⟨h3,h4⟩
  .exact hS.inj i j b h1 h3
  .omega
  .omega
  .omega
 obj:=λid o' hid=>by
  have hlen:=hS.len;have hid':(S.h++[o])[id]?=some o':=hid;rcases dg id S.h.length with h|h
  .rw[aZ h]at hid';have e:=Ev.new S.h.length M0 hS (bi _) o ob;have hm:(S.new o ob).m.getD id none=S.m.getD id none:=by
    show (S.m++[some S.w.heap.size]).getD id none=_;simp[aZ (show id<S.m.length by omega)]
   rw[hm];refine(hS.obj id o' hid').keep e λb hb=>fP _ _ _ ?_;refine hS.lt b ?_;have:S.m[id]?=some (some b):=by
    rw[cG]at hb
    cases hq:S.m[id]? with
    |none=>simp[hq]at hb
    |some z=>simp[hq]at hb;rw[hb]
   exact aT this
  .have h0:id=S.h.length:=by
    have:=(ax.1 hid').1;simp at this;omega
   subst h0;rw[cm (bi _)]at hid';simp at hid';subst hid';have hm:(S.new o ob).m.getD S.h.length none=some S.w.heap.size:=by
    show (S.m++[some S.w.heap.size]).getD S.h.length none=_;rw[<-hlen];simp
   rw[hm];exact ho
 gl:=(Ev.new 0 M0 hS (cV _) o ob).glob hS.gl
def Mem.drew (S:Mem):Mem:=⟨S.m,S.h,S.w.drew⟩
theorem Ev.drew(base)(S):Ev base S S.drew:=⟨Fr.drew _ _,λ_ h=>.inl h,λ_ o _ h=>⟨o,h,ObjEv.refl _ _⟩⟩
theorem HOk.drew{M0}{S}(hS:HOk P M0 S):HOk P M0 S.drew:=
 ⟨hS.len,hS.lt,hS.m0,hS.inj,λid o h=>(hS.obj id o h).keep (Ev.drew _ S) λ_ _=>rfl,(Ev.drew 0 S).glob hS.gl⟩
end Abs
end Go.Proofs.YtnjiadikeacfaaaGreatDoor
namespace Go.Proofs.YtnjiadikeacfaaaGreatDoor
namespace Abs
variable {P:Program}
theorem Gv(w:World)(b)(C)(T)(fr)(hb:w.heap[b]?=some (.cells C T fr)):w.setRow b C=w:=by
 have hv:w.heap[b]'((uT.1 hb).1)=.cells C T fr:=(uT.1 hb).2;unfold World.setRow
 cases w with
 |mk heap tape drawn os output=>
  congr 1
  apply qw
  .simp
  .intro k h1 h2;simp only[Array.getElem_modify];split
   .rename_i hk;subst hk;simp at hv;simp[hv]
   .rfl
def jN (C:Array Value) (o:Nat):List Value->Array Value
 |[]=>C
 |v::r=>jN (C.setIfInBounds o v) (o+1) r
theorem ip:∀(vs) (C) (o),(jN C o vs).size=C.size
 |[],_,_=>rfl
 |v::r,C,o=>by rw[jN,ip r];simp
theorem iA:∀(vs) (C) (o k),o+vs.length<=C.size ->
  (jN C o vs).getD k undef=if o<=k/\k<o+vs.length then vs.getD (k-o) undef else C.getD k undef
 |[],C,o,k,_=>by
  have:¬(o<=k/\k<o+([]:List Value).length):=by simp
  rw[if_neg this,jN]
 |v::r,C,o,k,h=>by
  have h':o+(r.length+1)<=C.size:=by simpa using h
  rw[jN,iA r (C.setIfInBounds o v) (o+1) k (by simp;omega)];by_cases h1:o+1<=k/\k<o+1+r.length
  .rw[if_pos h1,if_pos (by simp;omega),show k-o=(k-(o+1))+1 by omega];simp
  .rw[if_neg h1];by_cases h2:k=o
   .subst h2;rw[if_pos (by simp)];simp[show k<C.size by omega]
   .rw[if_neg (by simp;omega)];simp[Ne.symm h2]
theorem iS(b)(T):∀(vs) (off i) (C) (w),w.heap[b]?=some (.cells C T (0,0))->off+i+vs.length<=C.size ->
  (∀v∈vs,v.oneCell'=true)->(storeCells ⟨b,off,none⟩ vs i).run P w=.ok () (w.setRow b (jN C (off+i) vs))
 |[],off,i,C,w,hb,_,_=>by
  rw[jN,Gv w b C T _ hb]
  rfl
 |v::r,off,i,C,w,hb,hl,h1=>by
  have hl':off+i+(r.length+1)<=C.size:=by simpa using hl
  have hcell:w.cell? ⟨b,off+i,none⟩=some C[off+i]:=by simp[World.cell?,hb,show off+i<C.size by omega]
  have hfro:w.frozen? ⟨b,off+i,none⟩=false:=by simp[World.frozen?,hb]
  have hst:(store ((⟨b,off,none⟩:Addr).add i) v).run P w=.ok () (w.setRow b (C.setIfInBounds (off+i) v)):=by
   rw[fh,run_store P w _ v _ (h1 v (by simp)),hcell];simp[hfro,setCell_eq_setRow w b (off+i) C T (0,0) v hb]
  have ih:=iS b T r off (i+1) (C.setIfInBounds (off+i) v) (w.setRow b (C.setIfInBounds (off+i) v)) (setRow_heap w b C _ T _ hb) (by simp;omega) (λx hx=>h1 x (by simp[hx]));simp only[storeCells,Sem.run_bind,hst,cb,ih,setRow_setRow,jN,lE]
def Mem.set (S:Mem) (id:Nat) (o:AObj) (b:Nat) (C:Array Value):Mem:=⟨S.m,S.h.set id o,S.w.setRow b C⟩
theorem lL{m}{id b}(h:m.getD id none=some b):Own m b/\m[id]?=some (some b):=by
 rw[cG]at h
 cases hq:m[id]? with
 |none=>simp[hq]at h
 |some z=>simp[hq]at h;subst h;exact⟨aT hq,rfl⟩
theorem qE(w:World)(b)(C C')(T)(fr)(hb:w.heap[b]?=some (.cells C T fr))(hC:C'.size=C.size)(x) :
  (w.setRow b C').shape? x=w.shape? x:=by
 unfold World.shape?;by_cases h:x=b
 .subst h;rw[setRow_heap w x C C' T fr hb,hb];simp[hC]
 .rw[setRow_other w b x C' h]
theorem Ev.set(base:Nat){S:Mem}{id sz b:Nat}{xs xs':List AV}{C C':Array Value}{T:TypeId}(hid:S.h[id]?=some (.row sz xs))(hm:S.m.getD id none=some b)
  (hb:S.w.heap[b]?=some (.cells C T (0,0))) (hC:C'.size=C.size) (hlen:xs.length<=xs'.length):Ev base S (S.set id (.row sz xs') b C') where
 fr:=⟨rfl,rfl,rfl,by simp[Mem.set],
  λx _ hn=>setRow_other _ _ _ _ (λe=>hn (e▸(lL hm).1)),
  λx _=>qE _ _ _ _ _ _ hb hC x⟩
 sub:=λ_ h=>.inl h
 obj:=λj o hj ho=>by
  by_cases h:j=id
  .subst h;have:o=.row sz xs:=by rw[hid]at ho;exact(lY ho).symm
   subst this;refine⟨.row sz xs',by simp[Mem.set,(ax.1 hid).1],.inr (.inl ⟨sz,xs,xs',rfl,rfl,?_⟩)⟩;rcases dg xs.length xs'.length with h'|h'
   .exact .inr h'
   .exact .inl ⟨by omega,rfl⟩
  .exact⟨o,by simp[Mem.set,dS (Ne.symm h),ho],ObjEv.refl _ _⟩
def dy (M0:Nat->Prop) (S:Mem) (sz:Nat) (C:Array Value) (xs:List AV):Prop:=
 ∀(i:Nat) (x:AV),xs[i]?=some x->∃cs,x.cells=some cs/\cs.length=sz/\∀(j:Nat) (c:AV),cs[j]?=some c->c.isCell=true/\bL M0 S (C.getD (i*sz+j) undef) c
theorem dy.keep{M0}{S S'}(e:Ev S.h.length S S'){sz}{C}{xs}(h:dy M0 S sz C xs):dy M0 S' sz C xs:=
 λi x hx=>let ⟨cs,h1,h2,h3⟩:=h i x hx;⟨cs,h1,h2,λj c hc=>⟨(h3 j c hc).1,e.keepS (h3 j c hc).2⟩⟩
theorem HOk.set{M0}{S}(hS:HOk P M0 S){id sz b}{xs xs'}{C C'}{T}(hid:S.h[id]?=some (.row sz xs))(hm:S.m.getD id none=some b)
  (hb:S.w.heap[b]?=some (.cells C T (0,0))) (hC:C'.size=C.size) (hlen:xs.length<=xs'.length) (hroom:xs'.length*sz<=C'.size) (hel:dy M0 S sz C' xs') :
  HOk P M0 (S.set id (.row sz xs') b C'):=by
 have e:=Ev.set S.h.length hid hm hb hC hlen;refine⟨by simp[Mem.set,hS.len],λx hx=>?_,λx hx=>?_,hS.inj,λj o hj=>?_,e.glob hS.gl⟩
 .have:=hS.lt x hx;simpa[Mem.set]using this
 .obtain⟨h1,h2⟩:=hS.m0 x hx;exact⟨by simpa[Mem.set]using h1,h2⟩
 .by_cases h:j=id
  .subst h;have:o=.row sz xs':=by
    have:(S.h.set j (.row sz xs'))[j]?=some o:=hj;simp[(ax.1 hid).1]at this;exact this.symm
   subst this;refine .inr ⟨b,T,C',hm,setRow_heap _ _ _ _ _ _ hb,hroom,hel.keep e⟩
  .have ho:S.h[j]?=some o:=by
    have:(S.h.set id (.row sz xs'))[j]?=some o:=hj;rwa [dS (Ne.symm h)]at this
   refine(hS.obj j o ho).keep e λx hx=>setRow_other _ _ _ _ λhxb=>h ?_;subst hxb;exact hS.inj j id x (lL hx).2 (lL hm).2
def Mem.regrow (S:Mem) (id:Nat) (o:AObj) (ob:Obj):Mem:=⟨S.m.set id (some S.w.heap.size),S.h.set id o,S.w.alloc ob⟩
theorem A5{m}{id x b}(h:Own (m.set id (some x)) b):Own m b\/b=x:=by
 unfold Own at h |-;rcases SE h with h|h
 .exact .inl h
 .exact .inr (by simpa using h)
theorem Ev.regrow(base:Nat){S:Mem}{id sz:Nat}{xs xs':List AV}{ob:Obj}(hid:S.h[id]?=some (.row sz xs))(hlen:xs.length<xs'.length) :
  Ev base S (S.regrow id (.row sz xs') ob) where
 fr:=Fr.alloc _ _ _
 sub:=λb h=>by
  rcases A5 h with h|rfl
  .exact .inl h
  .exact .inr (bi _)
 obj:=λj o hj ho=>by
  by_cases h:j=id
  .subst h;have:o=.row sz xs:=by rw[hid]at ho;exact(lY ho).symm
   subst this;exact⟨.row sz xs',by simp[Mem.regrow,(ax.1 hid).1],.inr (.inl ⟨sz,xs,xs',rfl,rfl,.inr hlen⟩)⟩
  .refine⟨o,by simp[Mem.regrow,dS (Ne.symm h),ho],?_⟩;have:(S.regrow id (.row sz xs') ob).m.getD j none=S.m.getD j none:=by
    simp[Mem.regrow,cG,dS (Ne.symm h)]
   rw[this];exact ObjEv.refl _ _
theorem HOk.regrow{M0}{S}(hS:HOk P M0 S){id sz}{xs xs'}{C}{T}(hid:S.h[id]?=some (.row sz xs))
  (hlen:xs.length<xs'.length) (hroom:xs'.length*sz<=C.size) (hel:dy M0 S sz C xs'):HOk P M0 (S.regrow id (.row sz xs') (.cells C T)):=by
 have e:=Ev.regrow S.h.length (ob:=.cells C T) hid hlen;have hidlt:=(ax.1 hid).1;have hml:=hS.len;refine⟨by simp[Mem.regrow,hS.len],λx hx=>?_,λx hx=>?_,λi j x hi hj=>?_,λj o hj=>?_,e.glob hS.gl⟩
 .rcases A5 hx with h|rfl
  .have:=hS.lt x h;simp[Mem.regrow];omega
  .simp[Mem.regrow]
 .obtain⟨h1,h2⟩:=hS.m0 x hx;refine⟨by simp[Mem.regrow];omega,λhn=>?_⟩;rcases A5 hn with h|rfl
  .exact h2 h
  .omega
 .have key:∀k:Nat,(S.m.set id (some S.w.heap.size))[k]?=some (some x)->(k≠id/\S.m[k]?=some (some x)/\x<S.w.heap.size)\/(k=id/\x=S.w.heap.size):=by
   intro k hk;by_cases h:k=id
   .subst h;rw[iJ (by omega)]at hk;exact .inr ⟨rfl,by simpa using hk.symm⟩
   .rw[dS (Ne.symm h)]at hk;exact .inl ⟨h,hk,hS.lt x (aT hk)⟩
  rcases key i hi with⟨h1,h2,h3⟩|⟨h1,h2⟩<;>rcases key j hj with⟨h4,h5,h6⟩|⟨h4,h5⟩
  .exact hS.inj i j x h2 h5
  .omega
  .omega
  .omega
 .by_cases h:j=id
  .subst h;have:o=.row sz xs':=by
    have:(S.h.set j (.row sz xs'))[j]?=some o:=hj;simp[hidlt]at this;exact this.symm
   subst this;refine .inr ⟨S.w.heap.size,T,C,?_,bI _ _,hroom,hel.keep e⟩;simp[Mem.regrow,cG,iJ (show j<S.m.length by omega)]
  .have ho:S.h[j]?=some o:=by
    have:(S.h.set id (.row sz xs'))[j]?=some o:=hj;rwa [dS (Ne.symm h)]at this
   have hm:(S.regrow id (.row sz xs') (.cells C T)).m.getD j none=S.m.getD j none:=by
    simp[Mem.regrow,cG,dS (Ne.symm h)]
   rw[hm];exact(hS.obj j o ho).keep e λx hx=>fP _ _ _ (hS.lt x (lL hx).1)
end Abs
end Go.Proofs.YtnjiadikeacfaaaGreatDoor
namespace Go.Proofs.YtnjiadikeacfaaaGreatDoor
namespace Abs
variable {P:Program} {M0:Nat->Prop} {S:Mem}
def aI (P:Program) (M0:Nat->Prop) (S:Mem) (s:Sem Value):OR->Prop
 |.val v h=>∃(S':Mem) (v':Value),S'.h=h/\s.run P S.w=.ok v' S'.w/\Ev S.h.length S S'/\HOk P M0 S'/\Rep M0 S' v' v
 |.stuck=>True
 |_=>False
def AD (P:Program) (M0:Nat->Prop) (S:Mem) (s:Sem Unit):OR->Prop
 |.skip h=>∃S':Mem,S'.h=h/\s.run P S.w=.ok () S'.w/\Ev S.h.length S S'/\HOk P M0 S'
 |.stuck=>True
 |_=>False
theorem aI.pure(hS:HOk P M0 S){s}{v}{v'}(hr:s.run P S.w=.ok v' S.w)(h:Rep M0 S v' v):aI P M0 S s (.val v S.h):=
 ⟨S,v',rfl,hr,Ev.refl _ _,hS,h⟩
theorem aI.opt(hS:HOk P M0 S){s}{v}(h:∀x,v=some x->∃v',s.run P S.w=.ok v' S.w/\Rep M0 S v' x):aI P M0 S s (ir S.h v):=by
 cases v with
 |none=>exact trivial
 |some x=>obtain⟨v',h1,h2⟩:=h x rfl;exact aI.pure hS h1 h2
theorem cR{id ver sz}{xs}{X}(h:dx S id ver X)(hid:S.h[id]?=some (.row sz xs))(hv:xs.length=ver):X sz (S.m.getD id none):=by
 rcases h with h|⟨sz',xs',h,_,hx⟩
 .rw[hid]at h;cases h
 .rw[hid]at h;cases h;exact hx hv
theorem fk(hS:HOk P M0 S){id sz b}{xs}(hid:S.h[id]?=some (.row sz xs))(hm:S.m.getD id none=some b) :
  ∃C T,S.w.heap[b]?=some (.cells C T (0,0))/\xs.length*sz<=C.size/\dy M0 S sz C xs:=by
 have:=hS.obj id _ hid;rw[hm]at this;rcases this with⟨h,_⟩|⟨b',T,C,h1,h2,h3,h4⟩
 .cases h
 .cases h1;exact⟨C,T,h2,h3,h4⟩
theorem jb{w:World}{b}{C}{T}{fr}(h:w.heap[b]?=some (.cells C T fr))(k)(hk:k<C.size):w.cell? ⟨b,k,none⟩=some (C.getD k undef):=by
 simp[World.cell?,h,hk]
theorem iy{i n sz j:Nat}(hi:i<n)(hj:j<sz):i*sz+j<n*sz:=by
 have h1:(i+1)*sz<=n*sz:=gc sz hi;rw[fx,ww]at h1;omega
theorem yj{x}{sz}(h:x.cells.length=sz/\∀c,c∈x.cells->c.isCell=true):(AV.p x).cells=some (x.cells.map .p):=by
 cases x with
 |tuple l=>have:=h.2 (.tuple l) (by simp[PV.cells]);simp[PV.isCell]at this
 |_=>rfl
theorem tI(hcells){T}{x y}{cs}{o b at_}(hx:x.cells=some cs)(hrep:gV M0 S hcells cs)
  (hcell:∀j,o+j<cs.length->S.w.cell? ⟨b,at_+j,none⟩=some (hcells (o+j))) (hz:kD P T x o=some y) :
  ∃v',(loadVar T ⟨b,at_,none⟩).run P S.w=.ok v' S.w/\Rep M0 S v' y:=by
 unfold kD at hz;split at hz
 .rename_i ag n hag hn;obtain⟨h1,h2,h3⟩:=Ez hx hrep hz;exact⟨_,Ef hag hn S.w b at_ (λj=>hcells (o+j)) (λe j hj=>hcell j (h1 j hj e)) (λe=>by simpa using hcell 0 (h2 e)),by simpa using h3⟩
 .cases hz
theorem QP(hS:HOk P M0 S){T}{x}{v}(hx:Rep M0 S v x):aI P M0 S (Instr.loadAt T v) (nF P T x S.h):=by
 unfold nF;split
 .rename_i sz xs i o;split
  .rename_i y hy;have h:RepP (Avoid M0 S.m) S.w v (.ptr sz xs i o):=hx
   cases h with
   |ptr f hat hsz hM hc hr=>
    rename_i b off at_;refine aI.opt hS λz hz=>?_;have hi:=(ax.1 hy).1;have hsy:=hsz y (aT hy);have hrep:gV M0 S (λj=>f (i*sz+j)) (y.cells.map .p):=by
     intro j c hj;simp only[cz,cd]at hj;obtain⟨q,hq,rfl⟩:=hj;exact⟨hsy.2 q (aT hq),hr i j y q hy hq⟩
    have hlen:(y.cells.map AV.p).length=sz:=by simpa using hsy.1
    obtain⟨v',h1,h2⟩:=tI (P:=P) (λj=>f (i*sz+j)) (b:=b) (at_:=at_) (yj hsy) hrep (λj hj=>by
     rw[<-hc (i*sz+(o+j)) (iy hi (by omega)),hat]
     simp only[lE]) hz
    exact⟨v',by simpa[Instr.loadAt,Instr.sureAddr]using h1,h2⟩
  .exact trivial
 .rename_i id ver i o;split
  .rename_i sz xs hid;split
   .rename_i hv;split
    .rename_i y hy;refine aI.opt hS λz hz=>?_;obtain⟨b,hm,rfl⟩:=cR hx.2 hid hv;obtain⟨C,T',hb,hsize,hel⟩:=fk hS hid hm;obtain⟨cs,h5,h6,h7⟩:=hel i y hy;have hi:=(ax.1 hy).1;obtain⟨v',h1,h2⟩:=tI (P:=P) (λj=>C.getD (i*sz+j) undef) (b:=b) (at_:=i*sz+o) h5 h7 (λj hj=>by
      rw[lE]
      exact jb hb _ (gb (iy hi (by omega)) hsize)) hz
     exact⟨v',by simpa[Instr.loadAt,Instr.sureAddr]using h1,h2⟩
    .exact trivial
   .exact trivial
  .exact trivial
 .exact trivial
theorem GZ(cs):(pY cs).cells=some cs:=by
 unfold pY
 cases hp:gq cs with
 |some l=>rw[iV hp];rfl
 |none=>rfl
theorem qM{α}(cs new:List α)(o j)(h:o+new.length<=cs.length) :
  (jW cs o new)[j]?=if o<=j/\j<o+new.length then new[j-o]? else cs[j]?:=by
 unfold jW;have h1:(cs.take o).length=o:=by simp;omega
 by_cases a:j<o
 .rw[if_neg (by omega),dq,aZ (by omega),jp,if_pos a]
 .by_cases b:j<o+new.length
  .rw[if_pos ⟨by omega,b⟩,aZ (by simp;omega),cm (by omega),h1]
  .rw[if_neg (by omega),cm (by simp;omega),sc]
   congr 1
   simp[h1];omega
theorem m9{α}(cs new:List α)(o)(h:o+new.length<=cs.length):(jW cs o new).length=cs.length:=by
 unfold jW;simp;omega
theorem gm(C:Array Value)(j):C.toList.getD j undef=C.getD j undef:=by
 simp[cG]
theorem NC(hS:HOk P M0 S){T}{x y}{v u}(hx:Rep M0 S v x)(hy:Rep M0 S u y):AD P M0 S (Instr.storeAt T v u) (gE P T x y S.h):=by
 unfold gE;split
 .rename_i id ver i o n hn;split
  .rename_i sz xs hid;split
   .rename_i hv;split
    .rename_i e he;split
     .rename_i e' he';obtain⟨b,hm,rfl⟩:=cR hx.2 hid hv;obtain⟨C,T',hb,hsize,hel⟩:=fk hS hid hm;obtain⟨cs,h5,h6,h7⟩:=hel i e he;have hi:=(ax.1 he).1;unfold AV.withCells at he';rw[h5]at he'
      cases hyc:y.cells with
      |none=>simp[hyc]at he'
      |some new=>
       simp only[hyc]at he';split at he'
       .rename_i hnew;obtain⟨hun,hur⟩:=iT hy hyc;have hle:o+n<=sz:=by
         split at he'
         .rename_i hc;omega
         .split at he'
          .rename_i hc;omega
          .cases he'
        have he2:e'.cells=some (jW cs o new)/\(jW cs o new).length=sz:=by
         split at he'
         .rename_i hc;cases he';obtain⟨hc1,rfl⟩:=hc;refine⟨?_,by rw[m9 _ _ _ (by omega)];omega⟩;rw[hyc]
          congr 1
          apply qu;intro j;rw[qM _ _ _ _ (by omega)];by_cases hj:j<new.length
          .rw[if_pos ⟨by omega,by omega⟩];simp
          .rw[if_neg (by omega),wz (by omega),wz (by omega)]
         .split at he'
          .cases he';exact⟨GZ _,by rw[m9 _ _ _ (by omega)];omega⟩
          .cases he'
        have hvl:u.cells.toList.length=n:=by simp;omega
        have hin:i*sz+sz<=xs.length*sz:=by
         have:(i+1)*sz<=xs.length*sz:=gc sz hi;rwa [fx,ww]at this
        have hbound:i*sz+o+u.cells.toList.length<=C.size:=by omega
        have hone:∀z∈u.cells.toList,z.oneCell'=true:=by
         intro z hz;obtain⟨j,hj⟩:=dz hz;have hjl:=(ax.1 hj).1;have hjn:j<new.length:=by omega
         obtain⟨h8,h9⟩:=hur j new[j] (by simp[hjn]);have:u.cells.getD j undef=z:=by rw[<-gm,cG,hj];rfl
         simp only[this]at h9;exact ng h8 h9
        have hrun:=iS (P:=P) b T' u.cells.toList (i*sz+o) 0 C S.w hb (by omega) hone;simp only[ik]at hrun;refine⟨S.set id (.row sz (xs.set i e')) b (jN C (i*sz+o) u.cells.toList),rfl,?_,Ev.set _ hid hm hb (ip _ _ _) (by simp),HOk.set hS hid hm hb (ip _ _ _) (by simp) (by simp[ip];omega) ?_⟩
        .unfold Instr.storeAt storeVar;simp only[Instr.sureAddr,Sem.run_bind,Sem.run_pure,cb,bN hn];rw[if_neg (by omega)];simpa[Mem.set]using hrun
        .intro k z hk;by_cases hki:k=i
         .subst hki;rw[iJ hi]at hk;cases hk;refine⟨_,he2.1,he2.2,λj c hc=>?_⟩;have hjl:=(ax.1 hc).1;rw[qM _ _ _ _ (by omega)]at hc;rw[iA _ _ _ _ hbound];split at hc
          .rename_i hj;rw[if_pos (by omega)];have:=hur (j-o) c hc;rw[show k*sz+j-(k*sz+o)=j-o by omega,gm];exact this
          .rename_i hj;rw[if_neg (by omega)];exact h7 j c hc
         .rw[dS (Ne.symm hki)]at hk;obtain⟨cs',g1,g2,g3⟩:=hel k z hk;refine⟨cs',g1,g2,λj c hc=>?_⟩;have hjl:=(ax.1 hc).1;have hkl:=(ax.1 hk).1;rw[iA _ _ _ _ hbound,if_neg ?_]
          .exact g3 j c hc
          .intro hh;rcases dg k i with h'|h'
           .have:(k+1)*sz<=i*sz:=gc sz h';rw[fx,ww]at this;omega
           .have:(i+1)*sz<=k*sz:=gc sz (by omega);rw[fx,ww]at this;omega
       .cases he'
     .exact trivial
    .exact trivial
   .exact trivial
  .exact trivial
 .exact trivial
theorem xG{T}{f off}{t}(h:ai P T f=some (off,t)) :
  ∃fs fd,P.underlying T=some (.struct fs)/\fs[f]?=some fd/\fd.offset=off/\fd.type=t:=by
 unfold ai at h;split at h
 .rename_i fs hu;simp only[cd,y5]at h;obtain⟨fd,h1,h2,h3⟩:=h;exact⟨fs,fd,hu,h1,h2,h3⟩
 .cases h
theorem k8{h}{id ver sz}(e:gL h id ver=some sz):∃xs,h[id]?=some (.row sz xs)/\xs.length=ver:=by
 unfold gL at e;split at e
 .rename_i sz' xs hid;split at e
  .rename_i hv;cases e;exact⟨xs,hid,hv⟩
  .cases e
 .cases e
theorem ua{id ver i o' sz}{xs}{b}(hid:S.h[id]?=some (.row sz xs))(hv:xs.length=ver)(hm:S.m.getD id none=some b) :
  Rep M0 S (.pointer (some ⟨b,i*sz+o',none⟩)) (.ptr id ver i o'):=
 ⟨⟨_,rfl⟩,.inr ⟨sz,xs,hid,by omega,λ_=>⟨b,hm,rfl⟩⟩⟩
theorem Ff(hS:HOk P M0 S){T}{x}{v}{f}(hx:Rep M0 S v x):aI P M0 S (Instr.fieldAt T v f) (lD P T x f S.h):=by
 unfold lD;split
 .exact trivial
 .rename_i off t hf;obtain⟨fs,fd,hu,hfd,rfl,rfl⟩:=xG hf;split
  .exact trivial
  .rename_i n hsz;split
   .exact trivial
   .rename_i hn0;have run:∀(b at_:Nat),(Instr.fieldAt T (.pointer (some ⟨b,at_,none⟩)) f).run P S.w=.ok (.pointer (some ⟨b,at_+fd.offset,none⟩)) S.w:=by
     intro b at_;simp[Instr.fieldAt,run_underlying hu,hfd,Instr.sureAddr,fieldPlace,bN hsz,hn0,fh]
    split
    .rename_i sz xs i o;have h:RepP (Avoid M0 S.m) S.w v (.ptr sz xs i o):=hx
     cases h with
     |ptr g hat hs hM hc hr=>
      refine aI.pure hS (run _ _) (aF (.ptr g ?_ hs hM hc hr));rw[hat,lE]
    .rename_i id ver i o;split
     .rename_i sz hl;obtain⟨xs,hid,hv⟩:=k8 hl;obtain⟨b,hm,rfl⟩:=cR hx.2 hid hv;refine aI.pure hS (run _ _) ?_;rw[lE];exact ua hid hv hm
     .exact trivial
    .exact trivial
theorem cq{T e}(h:bu P T=some e):P.underlying T=some (.slice e):=by
 unfold bu at h;split at h
 .rename_i e' hu;cases h;exact hu
 .cases h
theorem lX{T e}{n}(h:dP P T=some (n,e)):P.underlying T=some (.array n e):=by
 unfold dP at h;split at h
 .rename_i n' e' hu;cases h;exact hu
 .cases h
theorem toNat_lt{i:Int}{n:Nat}(h0:0<=i)(h:i<n):i.toNat<n:=by omega
theorem ii{v}{k}{i}(h:Rep M0 S v (.p (.int k i))):v=.int k i:=by
 have h':RepP (Avoid M0 S.m) S.w v (.int k i):=h
 cases h' with
 |int k n=>rfl
theorem n9{v}{b}(h:Rep M0 S v (.p (.bool b))):v=.bool b:=by
 have h':RepP (Avoid M0 S.m) S.w v (.bool b):=h
 cases h' with
 |bool b=>rfl
theorem E7(hS:HOk P M0 S){T}{x ix}{v vi}(hx:Rep M0 S v x)(hi:Rep M0 S vi ix):aI P M0 S (Instr.indexAt T v vi) (hJ P T x ix S.h):=by
 unfold hJ;split
 .rename_i k i;have:=ii hi;subst this;split
  .rename_i sz xs full;split
   .rename_i e he;split
    .rename_i hc;obtain⟨hsz,h0,hlt⟩:=hc;have hu:=cq he;have h:RepP (Avoid M0 S.m) S.w v (.slice sz xs full):=hx
     cases h with
     |slice f hlen hcap hfull hs hM hcell hr=>
      rename_i b off len cap;subst hlen;refine aI.pure hS (v':=.pointer (some ⟨b,off+i.toNat*sz,none⟩)) ?_ (aF (.ptr f (by omega) hs hM hcell hr))
      simp[Instr.indexAt,asIntOf,run_underlying hu,h0,hlt,bN hsz,fh]
     |empty hfull=>simp at hlt;omega
    .exact trivial
   .exact trivial
  .rename_i id ver off len;split
   .rename_i e sz xs he hid;split
    .rename_i hc;obtain⟨hsz,hv,h0,hlt⟩:=hc;have hu:=cq he;have hl:=cR hx.2 hid hv;rcases hl with⟨h1,_⟩|⟨b,cap,T',n,hm,rfl,hlc,hsh,hroom⟩|⟨_,_,h1⟩
     .omega
     .refine aI.pure hS (v':=.pointer (some ⟨b,(off+i.toNat)*sz+0,none⟩)) ?_ (ua hid hv hm);simp[Instr.indexAt,asIntOf,run_underlying hu,h0,hlt,bN hsz,fh,fx]
     .omega
    .exact trivial
   .exact trivial
  .rename_i sz xs j o;split
   .rename_i n e he;split
    .rename_i s hs;split
     .rename_i hc;obtain⟨h0,hlt⟩:=hc;have hu:=lX he;have h:RepP (Avoid M0 S.m) S.w v (.ptr sz xs j o):=hx
      cases h with
      |ptr g hat hsz hM hcell hr=>
       rename_i b off at_;refine aI.pure hS (v':=.pointer (some ⟨b,at_+i.toNat*s,none⟩)) ?_ (aF (.ptr g (by rw[hat,lE]) hsz hM hcell hr));simp[Instr.indexAt,asIntOf,run_underlying hu,h0,hlt,bN hs,fh,Instr.sureAddr]
     .exact trivial
    .exact trivial
   .exact trivial
  .rename_i id ver j o;split
   .rename_i n e he;split
    .rename_i s sz hs hl;split
     .rename_i hc;obtain⟨h0,hlt⟩:=hc;have hu:=lX he;obtain⟨xs,hid,hv⟩:=k8 hl;obtain⟨b,hm,rfl⟩:=cR hx.2 hid hv;refine aI.pure hS (v':=.pointer (some ⟨b,j*sz+(o+i.toNat*s),none⟩)) ?_ (ua hid hv hm);simp[Instr.indexAt,asIntOf,run_underlying hu,h0,hlt,bN hs,fh,Instr.sureAddr,lE]
     .exact trivial
    .exact trivial
   .exact trivial
  .exact trivial
 .exact trivial
theorem fm{T}(h:eG P T=true):P.underlying T=some .string:=by
 unfold eG at h;split at h
 .assumption
 .cases h
theorem B2{T}{x y}{v}{o}{C}(hv:v=.agg C)(hx:Rep M0 S v x)(hag:x.cells.isSome)(hz:kD P T x o=some y) :
  ∃v',(part T C o).run P S.w=.ok v' S.w/\Rep M0 S v' y:=by
 subst hv;obtain⟨cs,hcs⟩:=jv.1 hag;obtain⟨hn,hrep⟩:=iT hx hcs;simp only[Value.cells]at hn hrep;unfold kD at hz;split at hz
 .rename_i ag n hg hsz;obtain⟨h1,h2,h3⟩:=Ez hcs hrep hz
  cases ag with
  |true=>
   refine⟨.agg (C.extract o (o+n)),?_,?_⟩
   .simp[part,jV hg,bN hsz]
   .have hle:n=0\/o+n<=C.size:=by
     rcases oo n with h|h
     .exact .inl h
     .have:=h1 (n-1) (by omega) rfl;exact .inr (by omega)
    have:C.extract o (o+n)=((List.range n).map λj=>C.getD (o+j) undef).toArray:=by
     apply qw
     .simp;omega
     .intro k hk1 hk2;have hkn:k<n:=by simpa using hk2
      simp[show o+k<C.size by rcases hle with h|h<;>omega]
    rw[this]
    simpa using h3
  |false=>
   have ho:=h2 rfl;refine⟨C.getD o undef,?_,by simpa using h3⟩;simp[part,jV hg,show o<C.size by omega]
 .cases hz
theorem BG{v}{x}(hx:Rep M0 S v x)(h:(∃l,x=.p (.agg l))\/∃l,x=.agg l):∃C,v=.agg C:=by
 rcases h with⟨l,rfl⟩|⟨l,rfl⟩
 .have h':RepP (Avoid M0 S.m) S.w v (.agg l):=hx
  cases h' with
  |agg=>exact⟨_,rfl⟩
 .obtain⟨C,rfl,_⟩:=hx;exact⟨C,rfl⟩
theorem Oz(hS:HOk P M0 S){T}{x}{v}{f}(hx:Rep M0 S v x):aI P M0 S (Instr.field T v f) (s6 P T x f S.h):=by
 unfold s6;split
 .exact trivial
 .rename_i off t hf;obtain⟨fs,fd,hu,hfd,rfl,rfl⟩:=xG hf;have key:((∃l,x=.p (.agg l))\/∃l,x=.agg l)->aI P M0 S (Instr.field T v f) (ir S.h (kD P fd.type x fd.offset)):=by
   intro hk;refine aI.opt hS λy hy=>?_;obtain⟨C,hv⟩:=BG hx hk;obtain⟨v',h1,h2⟩:=B2 hv hx (by rcases hk with⟨l,rfl⟩|⟨l,rfl⟩<;>rfl) hy;exact⟨v',by simp[Instr.field,run_underlying hu,hfd,hv,asAgg,h1],h2⟩
  split
  .exact key (.inl ⟨_,rfl⟩)
  .exact key (.inr ⟨_,rfl⟩)
  .exact trivial
theorem Oi(hS:HOk P M0 S){T}{x ix}{v vi}(hx:Rep M0 S v x)(hi:Rep M0 S vi ix):aI P M0 S (Instr.index T v vi) (wl P T x ix S.h):=by
 unfold wl;split
 .rename_i k i;have:=ii hi;subst this
  have key:((∃l,x=.p (.agg l))\/∃l,x=.agg l)->∀n e s,dP P T=some (n,e)->b8 P e=some s->(0<=i/\i<n) ->
    aI P M0 S (Instr.index T v (.int k i)) (ir S.h (kD P e x (i.toNat*s))):=by
   intro hk n e s he hs hc;obtain⟨h0,hlt⟩:=hc;refine aI.opt hS λy hy=>?_;obtain⟨C,hv⟩:=BG hx hk;obtain⟨v',h1,h2⟩:=B2 hv hx (by rcases hk with⟨l,rfl⟩|⟨l,rfl⟩<;>rfl) hy;exact⟨v',by simp[Instr.index,asIntOf,run_underlying (lX he),hv,h0,hlt,bN hs,h1],h2⟩
  split
  .rename_i s;split
   .rename_i hc;obtain⟨hst,h0⟩:=hc;split
    .rename_i b hb;have h':RepP (Avoid M0 S.m) S.w v (.str s):=hx
     cases h' with
     |str s=>
      refine aI.pure hS (v':=.int .u8 b.toNat) ?_ (aF (.int _ _));simp[Instr.index,asIntOf,run_underlying (fm hst),h0,hb]
    .exact trivial
   .exact trivial
  .split
   .split
    .split
     .rename_i n e he _ s hs hc;exact key (.inl ⟨_,rfl⟩) n e s he hs hc
     .exact trivial
    .exact trivial
   .exact trivial
  .split
   .split
    .split
     .rename_i n e he _ s hs hc;exact key (.inr ⟨_,rfl⟩) n e s he hs hc
     .exact trivial
    .exact trivial
   .exact trivial
  .exact trivial
 .exact trivial
end Abs
end Go.Proofs.YtnjiadikeacfaaaGreatDoor
