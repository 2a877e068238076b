/- CONTRACTS of the program's functions, and laws on what they return. No conditions but those in the theorems' heads. -/
import Derived.Test.YtoapoaoelpcniaaGreatDoorAbsRep
set_option linter.all false
namespace Go.Proofs.YtoapoaoelpcniaaGreatDoor
namespace Abs
def ig (M0:Nat->Prop) (S:Mem) (g:Nat->Value) (cs:List AV):Prop:=
 ∀(j:Nat) (c:AV),cs[j]?=some c->c.isCell=true/\bO M0 S (g j) c
theorem sh{M0}{S}{v}{c}(hc:c.isCell=true)(h:bO M0 S v c):Rep M0 S v c:=by
 cases c with
 |agg cs=>simp[AV.isCell]at hc
 |tuple cs=>simp[AV.isCell]at hc
 |undef=>simp[AV.isCell]at hc
 |_=>exact h
theorem pz{M0}{S}{v}{c}(h:d4 M0 S v c):Rep M0 S v c:=by
 cases c with
 |tuple cs=>exact False.elim h
 |_=>exact h
theorem ot{M0}{S}{v}{c}(hc:c.isCell=true)(h:bO M0 S v c):v.oneCell'=true:=by
 cases c with
 |p q=>
  have h':RepP (Avoid M0 S.m) S.w v q:=h
  cases h' with
  |agg=>simp[AV.isCell,PV.isCell]at hc
  |tuple=>simp[AV.isCell,PV.isCell]at hc
  |_=>rfl
 |ptr id ver i o=>obtain⟨⟨a,rfl⟩,_⟩:=h;rfl
 |slice id ver off len=>obtain⟨⟨a,_,_,rfl⟩,_⟩:=h;rfl
 |ref k id=>obtain⟨⟨a,rfl⟩,_⟩:=h;cases k<;>rfl
 |func fn f c=>obtain⟨F,C,rfl,_⟩:=h;rfl
 |agg cs=>simp[AV.isCell]at hc
 |tuple cs=>simp[AV.isCell]at hc
 |undef=>simp[AV.isCell]at hc
theorem S5{α:Type}(C:Array α)(i)(d)(h):C.getD i d=C[i]:=by simp[Array.getD,h]
theorem getD_some{α:Type}{C:Array α}{i}{d x}(h:C[i]?=some x):C.getD i d=x:=by
 obtain⟨h1,h2⟩:=r6.1 h;rw[S5 _ _ _ h1,h2]
theorem js{M0}{S}{v}{x}{cs}(h:Rep M0 S v x)(hx:x.cells=some cs) :
  v.cells.size=cs.length/\ig M0 S (λj=>v.cells.getD j undef) cs:=by
 have one:∀{c:AV},c.isCell=true->bO M0 S v c->v.cells=#[v]:=by
  intro c hc hr;have:=ot hc hr;cases v<;>first|rfl|simp[Value.oneCell']at this
 have single:∀{c:AV},c.isCell=true->bO M0 S v c->v.cells.size=[c].length/\ig M0 S (λj=>v.cells.getD j undef) [c]:=by
  intro c hc hr;rw[one hc hr];refine⟨rfl,λj d hj=>?_⟩
  cases j with
  |zero=>simp at hj;subst hj;exact⟨hc,hr⟩
  |succ j=>simp at hj
 cases x with
 |p q=>
  cases q with
  |agg l=>
   simp[AV.cells,PV.cells]at hx;subst hx;have h':RepP (Avoid M0 S.m) S.w v (.agg l):=h
   cases h' with
   |agg hn hs hr=>
    refine⟨by simpa[Value.cells]using hn,λj c hj=>?_⟩;simp only[cO,cg]at hj;obtain⟨q,hq,rfl⟩:=hj
    exact⟨hs q (aG hq),hr j q hq⟩
  |tuple l=>simp[AV.cells]at hx
  |_=>(simp[AV.cells,PV.cells]at hx;subst hx;exact single rfl h)
 |agg l=>
  simp[AV.cells]at hx;subst hx;obtain⟨C,rfl,h1,h2,h3⟩:=h
  exact⟨h2,λj c hj=>⟨h1 c (aG hj),h3 j c hj⟩⟩
 |tuple l=>simp[AV.cells]at hx
 |undef=>simp[AV.cells]at hx
 |_=>(simp[AV.cells]at hx;subst hx;exact single rfl h)
theorem ju:∀{cs} {l},gK cs=some l->cs=l.map .p
 |[],l,h=>by simp[gK]at h;subst h;rfl
 |c::r,l,h=>by
  cases c with
  |p v=>
   simp only[gK]at h;split at h
   .rename_i l' hl;cases h;rw[ju hl];rfl
   .cases h
  |_=>simp[gK]at h
theorem xk{M0}{S}{C}{cs}(hn:C.size=cs.length)(h:ig M0 S (λj=>C.getD j undef) cs):d4 M0 S (.agg C) (rA cs):=by
 unfold rA
 cases hp:gK cs with
 |some l=>
  have:=ju hp;subst this;refine .agg (by simpa using hn) (λc hc=>?_) (λi c hi=>?_)
  .obtain⟨i,hi⟩:=dX hc;exact(h i (.p c) (by simp[hi])).1
  .exact(h i (.p c) (by simp[hi])).2
 |none=>exact⟨C,rfl,λc hc=>(let ⟨i,hi⟩:=dX hc;(h i c hi).1),hn,λi c hi=>(h i c hi).2⟩
theorem Iz{M0}{S}{C}{cs}(h:dZ (d4 M0 S) C cs):Rep M0 S (.tuple C) (rR cs):=by
 unfold rR
 cases hp:gK cs with
 |some l=>
  have:=ju hp;subst this
  exact .tuple (by simpa using h.1) (λi c hi=>h.2 i (.p c) (by simp[hi]))
 |none=>exact⟨C,rfl,h⟩
theorem aH{M0}{S}{v}{q}(h:RepP (Avoid M0 S.m) S.w v q):Rep M0 S v (.p q):=h
variable {P:Program}
theorem kE{T}{g}(h:bZ P T=some g)(w):(isAgg T).run P w=.ok g w:=by
 unfold bZ at h;unfold isAgg
 cases hu:P.underlying T with
 |none=>simp[hu]at h
 |some d=>
  rw[Sem.run_bind,run_underlying hu w];cases d<;>simp[hu]at h<;>subst h<;>rfl
theorem bP{T}{n}(h:ce P T=some n)(w):(sizeOf T).run P w=.ok n w:=by
 unfold ce at h
 cases hi:P.info? T with
 |none=>simp[hi]at h
 |some i=>simp[hi]at h;subst h;simp[sizeOf,typeInfo,hi]
theorem vh{T}{n}(h:l8 P T=some n)(w):∃i,(typeInfo T).run P w=.ok i w/\i.bytes=n:=by
 unfold l8 at h
 cases hi:P.info? T with
 |none=>simp[hi]at h
 |some i=>simp[hi]at h;exact⟨i,by simp[typeInfo,hi],h⟩
theorem fD(b o n):(⟨b,o,none⟩:Addr).add n=⟨b,o+n,none⟩:=by
 unfold Addr.add;split
 .rename_i h;subst h;rfl
 .rfl
theorem F1{T}{g}{n}(hg:bZ P T=some g)(hn:ce P T=some n)(w)(b at_)(f)
  (hc:g=true->∀j,j<n->w.cell? ⟨b,at_+j,none⟩=some (f j)) (h1:g=false->w.cell? ⟨b,at_,none⟩=some (f 0)) :
  (loadVar T ⟨b,at_,none⟩).run P w=.ok (if g then .agg ((List.range n).map f).toArray else f 0) w:=by
 unfold loadVar;rw[Sem.run_bind,kE hg w]
 cases g with
 |true=>
  have:=run_loadCells (P:=P) w ⟨b,at_,none⟩ n f (λj hj=>by rw[fD];exact hc rfl j hj)
  simp[Sem.run_bind,bP hn w,this]
 |false=>simp[h1 rfl]
theorem iG(f)(n j)(h:j<n):(((List.range n).map f).toArray).getD j undef=f j:=by
 simp[h]
theorem Hc{M0}{S}{g}{cs}(h:ig M0 S g cs)(o n):ig M0 S (λj=>g (o+j)) (sub o n cs):=by
 intro j c hj;unfold sub at hj;rw[pg]at hj;split at hj
 .rw[nb]at hj;exact h (o+j) c hj
 .cases hj
theorem xK{v:AV}{cs}(h:v.cells=some cs):(∃l,v=.p (.agg l))\/(∃l,v=.agg l)\/v.isCell=true/\cs=[v]:=by
 cases v with
 |p q=>
  cases q with
  |agg l=>exact .inl ⟨l,rfl⟩
  |tuple l=>simp[AV.cells]at h
  |_=>(simp[AV.cells,PV.cells]at h;subst h;exact .inr (.inr ⟨rfl,rfl⟩))
 |agg l=>exact .inr (.inl ⟨l,rfl⟩)
 |tuple l=>simp[AV.cells]at h
 |undef=>simp[AV.cells]at h
 |_=>(simp[AV.cells]at h;subst h;exact .inr (.inr ⟨rfl,rfl⟩))
theorem Gi{M0}{S}{g}{x y:AV}{cs}{ag}{n o}(hx:x.cells=some cs)(h:ig M0 S g cs)(hp:x.part ag n o=some y) :
  (∀j,j<n->ag=true->o+j<cs.length)/\(ag=false->o<cs.length)/\Rep M0 S (if ag then .agg ((List.range n).map λj=>g (o+j)).toArray else g o) y:=by
 unfold AV.part at hp;rw[hx]at hp
 cases ag with
 |false=>
  simp only[jc,↓reduceIte]at hp;obtain⟨h1,h2⟩:=h o y hp
  exact⟨λ_ _ e=>by simp at e,λ_=>(aF.1 hp).1,sh h1 h2⟩
 |true=>
  simp only[↓reduceIte]at hp |-;refine⟨?_,λe=>by simp at e,?_⟩
  .intro j hj _;split at hp
   .rename_i hc;omega
   .split at hp
    .rename_i hc;omega
    .cases hp
  .split at hp
   .rename_i hc;obtain⟨hl,rfl⟩:=hc;subst hl;simp only[iq];rcases xK hx with⟨l,rfl⟩|⟨l,rfl⟩|⟨hcell,_⟩
    .cases hp;simp[AV.cells,PV.cells]at hx;subst hx;refine aH (.agg (by simp) (λc hc=>?_) (λi c hi=>?_))
     .obtain⟨i,hi⟩:=dX hc;exact(h i (.p c) (by simp[hi])).1
     .have hlt:=(aF.1 hi).1;rw[iG _ _ _ (by simpa using hlt)];exact(h i (.p c) (by simp[hi])).2
    .cases hp;simp[AV.cells]at hx;subst hx;refine⟨_,rfl,λc hc=>(let ⟨i,hi⟩:=dX hc;(h i c hi).1),by simp,λi c hi=>?_⟩;have hlt:=(aF.1 hi).1;rw[iG _ _ _ hlt];exact(h i c hi).2
    .cases x with
     |p q=>cases q<;>first|(simp at hp;done)|(simp[AV.isCell,PV.isCell]at hcell;done)
     |agg l=>simp[AV.isCell]at hcell
     |_=>simp at hp
   .split at hp
    .rename_i hle;cases hp;refine pz (xk (by simp[sub];omega) λj c hj=>?_);have hlt:=(aF.1 hj).1;have hjn:j<n:=by simp[sub]at hlt;omega
     show c.isCell=true/\bO M0 S (((List.range n).map λj=>g (o+j)).toArray.getD j undef) c;rw[iG _ _ _ hjn];exact Hc h o n j c hj
    .cases hp
theorem vr{m}{b x}:Own (m++[some x]) b↔Own m b\/b=x:=by
 simp[Own]
theorem gc(w:World)(o)(b)(h:b<w.heap.size):(w.alloc o).heap[b]?=w.heap[b]?:=by
 show (w.heap.push o)[b]?=_;rw[Pb,if_neg (by omega)]
theorem bK(w:World)(o):(w.alloc o).heap[w.heap.size]?=some o:=by
 show (w.heap.push o)[w.heap.size]?=some o;simp
theorem Ii(w:World)(o)(b)(h:b<w.heap.size):(w.alloc o).shape? b=w.shape? b:=by
 unfold World.shape?;rw[gc w o b h]
theorem Fr.alloc(m)(w)(o):Fr m w (w.alloc o):=
 ⟨rfl,rfl,rfl,by simp,λb hb _=>gc w o b hb,λb hb=>Ii w o b hb⟩
theorem Fr.drew(m)(w):Fr m w w.drew:=⟨rfl,rfl,rfl,bB _,λ_ _ _=>rfl,λ_ _=>rfl⟩
theorem Fr.trans{m m'}{a b c}(h:Fr m a b)(k:Fr m' b c)(hs:∀x,x<a.heap.size->Own m' x->Own m x):Fr m a c:=
 ⟨k.os.trans h.os,k.tape.trans h.tape,k.output.trans h.output,lH h.size k.size,
  λx hx hn=>(k.block x (jM hx h.size) (λho=>hn (hs x hx ho))).trans (h.block x hx hn),
  λx hx=>(k.shape x (jM hx h.size)).trans (h.shape x hx)⟩
theorem ObjOk.keep{M0}{S S'}(e:Ev S.h.length S S'){μ}{o}(h:ObjOk P M0 S μ o)
  (hb:∀b,μ=some b->S'.w.heap[b]?=S.w.heap[b]?):ObjOk P M0 S' μ o:=by
 cases o with
 |row sz xs=>
  rcases h with h|⟨b,T,C,h1,h2,h3,h4⟩
  .exact .inl h
  .refine .inr ⟨b,T,C,h1,(hb b h1).trans h2,h3,λi x hx=>?_⟩;obtain⟨cs,h5,h6,h7⟩:=h4 i x hx
   exact⟨cs,h5,h6,λj c hc=>⟨(h7 j c hc).1,e.keepS (h7 j c hc).2⟩⟩
 |strIter s p=>
  obtain⟨b,h1,h2⟩:=h
  exact⟨b,h1,(hb b h1).trans h2⟩
 |mp es=>
  obtain⟨b,C,clk,h1,h2,h3⟩:=h
  exact⟨b,C,clk,h1,(hb b h1).trans h2,h3.mono λv a=>e.keepS⟩
 |memo f=>
  obtain⟨hg,es,hf,b,C,clk,h1,h2,h3⟩:=h
  exact⟨hg,es,hf,b,C,clk,h1,(hb b h1).trans h2,h3.mono λv a=>e.keepS⟩
 |loop n tmps ps assign body st pend=>
  obtain⟨b,r,h1,h2,h3,h4,h5⟩:=h
  exact⟨b,r,h1,(hb b h1).trans h2,h3,λt=>e.keep (h4 t),h5⟩
 |dblock=>
  obtain⟨b,h1,h2⟩:=h
  exact⟨b,h1,(hb b h1).trans h2⟩
 |bld T el x=>
  obtain⟨b,p,v,h1,h2,h3,h4,h5,h6⟩:=h
  exact⟨b,p,v,h1,(hb b h1).trans h2,h3,h4,e.rep0 h5 (gJ h5),λa n c hv=>let ⟨N,hN⟩:=h6 a n c hv;⟨N,(e.fr.shape _ (sc hN)).trans hN⟩⟩
 |dead=>exact trivial
def Mem.new (S:Mem) (o:AObj) (ob:Obj):Mem:=⟨S.m++[some S.w.heap.size],S.h++[o],S.w.alloc ob⟩
theorem Ev.new(base:Nat)(M0:Nat->Prop){S:Mem}(hS:HOk P M0 S)(hb:base<=S.h.length)(o:AObj)(ob:Obj):Ev base S (S.new o ob) where
 fr:=Fr.alloc _ _ _
 sub:=λb h=>by
  rcases vr.1 h with h|rfl
  .exact .inl h
  .exact .inr (bB _)
 obj:=λid o' hid ho=>by
  refine⟨o',?_,?_⟩
  .show (S.h++[o])[id]?=_;rw[aX (by omega)];exact ho
  .have:(S.new o ob).m.getD id none=S.m.getD id none:=by
    show (S.m++[some S.w.heap.size]).getD id none=_;have:=hS.len;simp[aX (show id<S.m.length by omega)]
   rw[this];exact ObjEv.refl _ _
theorem HOk.new{M0:Nat->Prop}{S:Mem}(hS:HOk P M0 S){o:AObj}{ob:Obj}(ho:ObjOk P M0 (S.new o ob) (some S.w.heap.size) o):HOk P M0 (S.new o ob) where
 len:=by simp[Mem.new,hS.len]
 lt:=λb h=>by
  have:(S.new o ob).w.heap.size=S.w.heap.size+1:=by simp[Mem.new]
  rcases vr.1 h with h|rfl
  .have:=hS.lt b h;omega
  .omega
 m0:=λb h=>by
  obtain⟨h1,h2⟩:=hS.m0 b h;refine⟨by simp[Mem.new];omega,λhn=>?_⟩;rcases vr.1 hn with hn|rfl
  .exact h2 hn
  .omega
 inj:=λi j b hi hj=>by
  have hlen:=hS.len;have key:∀k,(S.new o ob).m[k]?=some (some b)->(S.m[k]?=some (some b)/\b<S.w.heap.size)\/(k=S.m.length/\b=S.w.heap.size):=by
   intro k hk;have hk':(S.m++[some S.w.heap.size])[k]?=some (some b):=hk;rcases dF k S.m.length with h|h
   .rw[aX h]at hk';exact .inl ⟨hk',hS.lt b (aG hk')⟩
   .rw[bW h]at hk';have h0:k-S.m.length=0:=by
     have:=(aF.1 hk').1;simp at this;omega
    rw[h0]at hk';simp at hk';exact .inr ⟨by omega,hk'.symm⟩
  rcases key i hi with⟨h1,h2⟩|⟨h1,h2⟩<;>rcases key j hj with⟨h3,h4⟩|⟨h3,h4⟩
  .exact hS.inj i j b h1 h3
  .omega
  .omega
  .omega
 obj:=λid o' hid=>by
  have hlen:=hS.len;have hid':(S.h++[o])[id]?=some o':=hid;rcases dF id S.h.length with h|h
  .rw[aX h]at hid';have e:=Ev.new S.h.length M0 hS (bB _) o ob;have hm:(S.new o ob).m.getD id none=S.m.getD id none:=by
    show (S.m++[some S.w.heap.size]).getD id none=_;simp[aX (show id<S.m.length by omega)]
   rw[hm];refine(hS.obj id o' hid').keep e λb hb=>gc _ _ _ ?_;refine hS.lt b ?_;have:S.m[id]?=some (some b):=by
    rw[cd]at hb
    cases hq:S.m[id]? with
    |none=>simp[hq]at hb
    |some z=>simp[hq]at hb;rw[hb]
   exact aG this
  .have h0:id=S.h.length:=by
    have:=(aF.1 hid').1;simp at this;omega
   subst h0;rw[bW (bB _)]at hid';simp at hid';subst hid';have hm:(S.new o ob).m.getD S.h.length none=some S.w.heap.size:=by
    show (S.m++[some S.w.heap.size]).getD S.h.length none=_;rw[<-hlen];simp
   rw[hm];exact ho
 gl:=(Ev.new 0 M0 hS (dY _) o ob).glob hS.gl
def Mem.drew (S:Mem):Mem:=⟨S.m,S.h,S.w.drew⟩
theorem Ev.drew(base)(S):Ev base S S.drew:=⟨Fr.drew _ _,λ_ h=>.inl h,λ_ o _ h=>⟨o,h,ObjEv.refl _ _⟩⟩
theorem HOk.drew{M0}{S}(hS:HOk P M0 S):HOk P M0 S.drew:=
 ⟨hS.len,hS.lt,hS.m0,hS.inj,λid o h=>(hS.obj id o h).keep (Ev.drew _ S) λ_ _=>rfl,(Ev.drew 0 S).glob hS.gl⟩
end Abs
end Go.Proofs.YtoapoaoelpcniaaGreatDoor
namespace Go.Proofs.YtoapoaoelpcniaaGreatDoor
namespace Abs
variable {P:Program}
theorem Ik(w:World)(b)(C)(T)(fr)(hb:w.heap[b]?=some (.cells C T fr)):w.setRow b C=w:=by
 have hv:w.heap[b]'((r6.1 hb).1)=.cells C T fr:=(r6.1 hb).2;unfold World.setRow
 cases w with
 |mk heap tape drawn os output=>
  congr 1
  apply nw
  .simp
  .intro k h1 h2;simp only[Array.getElem_modify];split
   .rename_i hk;subst hk;simp at hv;simp[hv]
   .rfl
def kw (C:Array Value) (o:Nat):List Value->Array Value
 |[]=>C
 |v::r=>kw (C.setIfInBounds o v) (o+1) r
theorem iO:∀(vs) (C) (o),(kw C o vs).size=C.size
 |[],_,_=>rfl
 |v::r,C,o=>by rw[kw,iO r];simp
theorem iV:∀(vs) (C) (o k),o+vs.length<=C.size ->
  (kw C o vs).getD k undef=if o<=k/\k<o+vs.length then vs.getD (k-o) undef else C.getD k undef
 |[],C,o,k,_=>by
  have:¬(o<=k/\k<o+([]:List Value).length):=by simp
  rw[if_neg this,kw]
 |v::r,C,o,k,h=>by
  have h':o+(r.length+1)<=C.size:=by simpa using h
  rw[kw,iV r (C.setIfInBounds o v) (o+1) k (by simp;omega)];by_cases h1:o+1<=k/\k<o+1+r.length
  .rw[if_pos h1,if_pos (by simp;omega),show k-o=(k-(o+1))+1 by omega];simp
  .rw[if_neg h1];by_cases h2:k=o
   .subst h2;rw[if_pos (by simp)];simp[show k<C.size by omega]
   .rw[if_neg (by simp;omega)];simp[Ne.symm h2]
theorem jr(b)(T):∀(vs) (off i) (C) (w),w.heap[b]?=some (.cells C T (0,0))->off+i+vs.length<=C.size ->
  (∀v∈vs,v.oneCell'=true)->(storeCells ⟨b,off,none⟩ vs i).run P w=.ok () (w.setRow b (kw C (off+i) vs))
 |[],off,i,C,w,hb,_,_=>by
  rw[kw,Ik w b C T _ hb]
  rfl
 |v::r,off,i,C,w,hb,hl,h1=>by
  have hl':off+i+(r.length+1)<=C.size:=by simpa using hl
  have hcell:w.cell? ⟨b,off+i,none⟩=some C[off+i]:=by simp[World.cell?,hb,show off+i<C.size by omega]
  have hfro:w.frozen? ⟨b,off+i,none⟩=false:=by simp[World.frozen?,hb]
  have hst:(store ((⟨b,off,none⟩:Addr).add i) v).run P w=.ok () (w.setRow b (C.setIfInBounds (off+i) v)):=by
   rw[fD,run_store P w _ v _ (h1 v (by simp)),hcell];simp[hfro,setCell_eq_setRow w b (off+i) C T (0,0) v hb]
  have ih:=jr b T r off (i+1) (C.setIfInBounds (off+i) v) (w.setRow b (C.setIfInBounds (off+i) v)) (setRow_heap w b C _ T _ hb) (by simp;omega) (λx hx=>h1 x (by simp[hx]));simp only[storeCells,Sem.run_bind,hst,dl,ih,setRow_setRow,kw,jW]
def Mem.set (S:Mem) (id:Nat) (o:AObj) (b:Nat) (C:Array Value):Mem:=⟨S.m,S.h.set id o,S.w.setRow b C⟩
theorem mM{m}{id b}(h:m.getD id none=some b):Own m b/\m[id]?=some (some b):=by
 rw[cd]at h
 cases hq:m[id]? with
 |none=>simp[hq]at h
 |some z=>simp[hq]at h;subst h;exact⟨aG hq,rfl⟩
theorem sb(w:World)(b)(C C')(T)(fr)(hb:w.heap[b]?=some (.cells C T fr))(hC:C'.size=C.size)(x) :
  (w.setRow b C').shape? x=w.shape? x:=by
 unfold World.shape?;by_cases h:x=b
 .subst h;rw[setRow_heap w x C C' T fr hb,hb];simp[hC]
 .rw[setRow_other w b x C' h]
theorem Ev.set(base:Nat){S:Mem}{id sz b:Nat}{xs xs':List AV}{C C':Array Value}{T:TypeId}(hid:S.h[id]?=some (.row sz xs))(hm:S.m.getD id none=some b)
  (hb:S.w.heap[b]?=some (.cells C T (0,0))) (hC:C'.size=C.size) (hlen:xs.length<=xs'.length):Ev base S (S.set id (.row sz xs') b C') where
 fr:=⟨rfl,rfl,rfl,by simp[Mem.set],
  λx _ hn=>setRow_other _ _ _ _ (λe=>hn (e▸(mM hm).1)),
  λx _=>sb _ _ _ _ _ _ hb hC x⟩
 sub:=λ_ h=>.inl h
 obj:=λj o hj ho=>by
  by_cases h:j=id
  .subst h;have:o=.row sz xs:=by rw[hid]at ho;exact(lq ho).symm
   subst this;refine⟨.row sz xs',by simp[Mem.set,(aF.1 hid).1],.inr (.inl ⟨sz,xs,xs',rfl,rfl,?_⟩)⟩;rcases dF xs.length xs'.length with h'|h'
   .exact .inr h'
   .exact .inl ⟨by omega,rfl⟩
  .exact⟨o,by simp[Mem.set,eo (Ne.symm h),ho],ObjEv.refl _ _⟩
def dW (M0:Nat->Prop) (S:Mem) (sz:Nat) (C:Array Value) (xs:List AV):Prop:=
 ∀(i:Nat) (x:AV),xs[i]?=some x->∃cs,x.cells=some cs/\cs.length=sz/\∀(j:Nat) (c:AV),cs[j]?=some c->c.isCell=true/\bO M0 S (C.getD (i*sz+j) undef) c
theorem dW.keep{M0}{S S'}(e:Ev S.h.length S S'){sz}{C}{xs}(h:dW M0 S sz C xs):dW M0 S' sz C xs:=
 λi x hx=>let ⟨cs,h1,h2,h3⟩:=h i x hx;⟨cs,h1,h2,λj c hc=>⟨(h3 j c hc).1,e.keepS (h3 j c hc).2⟩⟩
theorem HOk.set{M0}{S}(hS:HOk P M0 S){id sz b}{xs xs'}{C C'}{T}(hid:S.h[id]?=some (.row sz xs))(hm:S.m.getD id none=some b)
  (hb:S.w.heap[b]?=some (.cells C T (0,0))) (hC:C'.size=C.size) (hlen:xs.length<=xs'.length) (hroom:xs'.length*sz<=C'.size) (hel:dW M0 S sz C' xs') :
  HOk P M0 (S.set id (.row sz xs') b C'):=by
 have e:=Ev.set S.h.length hid hm hb hC hlen;refine⟨by simp[Mem.set,hS.len],λx hx=>?_,λx hx=>?_,hS.inj,λj o hj=>?_,e.glob hS.gl⟩
 .have:=hS.lt x hx;simpa[Mem.set]using this
 .obtain⟨h1,h2⟩:=hS.m0 x hx;exact⟨by simpa[Mem.set]using h1,h2⟩
 .by_cases h:j=id
  .subst h;have:o=.row sz xs':=by
    have:(S.h.set j (.row sz xs'))[j]?=some o:=hj;simp[(aF.1 hid).1]at this;exact this.symm
   subst this;refine .inr ⟨b,T,C',hm,setRow_heap _ _ _ _ _ _ hb,hroom,hel.keep e⟩
  .have ho:S.h[j]?=some o:=by
    have:(S.h.set id (.row sz xs'))[j]?=some o:=hj;rwa [eo (Ne.symm h)]at this
   refine(hS.obj j o ho).keep e λx hx=>setRow_other _ _ _ _ λhxb=>h ?_;subst hxb;exact hS.inj j id x (mM hx).2 (mM hm).2
def Mem.regrow (S:Mem) (id:Nat) (o:AObj) (ob:Obj):Mem:=⟨S.m.set id (some S.w.heap.size),S.h.set id o,S.w.alloc ob⟩
theorem Cs{m}{id x b}(h:Own (m.set id (some x)) b):Own m b\/b=x:=by
 unfold Own at h |-;rcases O' h with h|h
 .exact .inl h
 .exact .inr (by simpa using h)
theorem Ev.regrow(base:Nat){S:Mem}{id sz:Nat}{xs xs':List AV}{ob:Obj}(hid:S.h[id]?=some (.row sz xs))(hlen:xs.length<xs'.length) :
  Ev base S (S.regrow id (.row sz xs') ob) where
 fr:=Fr.alloc _ _ _
 sub:=λb h=>by
  rcases Cs h with h|rfl
  .exact .inl h
  .exact .inr (bB _)
 obj:=λj o hj ho=>by
  by_cases h:j=id
  .subst h;have:o=.row sz xs:=by rw[hid]at ho;exact(lq ho).symm
   subst this;exact⟨.row sz xs',by simp[Mem.regrow,(aF.1 hid).1],.inr (.inl ⟨sz,xs,xs',rfl,rfl,.inr hlen⟩)⟩
  .refine⟨o,by simp[Mem.regrow,eo (Ne.symm h),ho],?_⟩;have:(S.regrow id (.row sz xs') ob).m.getD j none=S.m.getD j none:=by
    simp[Mem.regrow,cd,eo (Ne.symm h)]
   rw[this];exact ObjEv.refl _ _
theorem HOk.regrow{M0}{S}(hS:HOk P M0 S){id sz}{xs xs'}{C}{T}(hid:S.h[id]?=some (.row sz xs))
  (hlen:xs.length<xs'.length) (hroom:xs'.length*sz<=C.size) (hel:dW M0 S sz C xs'):HOk P M0 (S.regrow id (.row sz xs') (.cells C T)):=by
 have e:=Ev.regrow S.h.length (ob:=.cells C T) hid hlen;have hidlt:=(aF.1 hid).1;have hml:=hS.len;refine⟨by simp[Mem.regrow,hS.len],λx hx=>?_,λx hx=>?_,λi j x hi hj=>?_,λj o hj=>?_,e.glob hS.gl⟩
 .rcases Cs hx with h|rfl
  .have:=hS.lt x h;simp[Mem.regrow];omega
  .simp[Mem.regrow]
 .obtain⟨h1,h2⟩:=hS.m0 x hx;refine⟨by simp[Mem.regrow];omega,λhn=>?_⟩;rcases Cs hn with h|rfl
  .exact h2 h
  .omega
 .have key:∀k:Nat,(S.m.set id (some S.w.heap.size))[k]?=some (some x)->(k≠id/\S.m[k]?=some (some x)/\x<S.w.heap.size)\/(k=id/\x=S.w.heap.size):=by
   intro k hk;by_cases h:k=id
   .subst h;rw[jf (by omega)]at hk;exact .inr ⟨rfl,by simpa using hk.symm⟩
   .rw[eo (Ne.symm h)]at hk;exact .inl ⟨h,hk,hS.lt x (aG hk)⟩
  rcases key i hi with⟨h1,h2,h3⟩|⟨h1,h2⟩<;>rcases key j hj with⟨h4,h5,h6⟩|⟨h4,h5⟩
  .exact hS.inj i j x h2 h5
  .omega
  .omega
  .omega
 .by_cases h:j=id
  .subst h;have:o=.row sz xs':=by
    have:(S.h.set j (.row sz xs'))[j]?=some o:=hj;simp[hidlt]at this;exact this.symm
   subst this;refine .inr ⟨S.w.heap.size,T,C,?_,bK _ _,hroom,hel.keep e⟩;simp[Mem.regrow,cd,jf (show j<S.m.length by omega)]
  .have ho:S.h[j]?=some o:=by
    have:(S.h.set id (.row sz xs'))[j]?=some o:=hj;rwa [eo (Ne.symm h)]at this
   have hm:(S.regrow id (.row sz xs') (.cells C T)).m.getD j none=S.m.getD j none:=by
    simp[Mem.regrow,cd,eo (Ne.symm h)]
   rw[hm];exact(hS.obj j o ho).keep e λx hx=>gc _ _ _ (hS.lt x (mM hx).1)
end Abs
end Go.Proofs.YtoapoaoelpcniaaGreatDoor
namespace Go.Proofs.YtoapoaoelpcniaaGreatDoor
namespace Abs
variable {P:Program} {M0:Nat->Prop} {S:Mem}
def aM (P:Program) (M0:Nat->Prop) (S:Mem) (s:Sem Value):OR->Prop
 |.val v h=>∃(S':Mem) (v':Value),S'.h=h/\s.run P S.w=.ok v' S'.w/\Ev S.h.length S S'/\HOk P M0 S'/\Rep M0 S' v' v
 |.stuck=>True
 |_=>False
def BZ (P:Program) (M0:Nat->Prop) (S:Mem) (s:Sem Unit):OR->Prop
 |.skip h=>∃S':Mem,S'.h=h/\s.run P S.w=.ok () S'.w/\Ev S.h.length S S'/\HOk P M0 S'
 |.stuck=>True
 |_=>False
theorem aM.pure(hS:HOk P M0 S){s}{v}{v'}(hr:s.run P S.w=.ok v' S.w)(h:Rep M0 S v' v):aM P M0 S s (.val v S.h):=
 ⟨S,v',rfl,hr,Ev.refl _ _,hS,h⟩
theorem aM.opt(hS:HOk P M0 S){s}{v}(h:∀x,v=some x->∃v',s.run P S.w=.ok v' S.w/\Rep M0 S v' x):aM P M0 S s (iQ S.h v):=by
 cases v with
 |none=>exact trivial
 |some x=>obtain⟨v',h1,h2⟩:=h x rfl;exact aM.pure hS h1 h2
theorem di{id ver sz}{xs}{X}(h:dU S id ver X)(hid:S.h[id]?=some (.row sz xs))(hv:xs.length=ver):X sz (S.m.getD id none):=by
 rcases h with h|⟨sz',xs',h,_,hx⟩
 .rw[hid]at h;cases h
 .rw[hid]at h;cases h;exact hx hv
theorem fF(hS:HOk P M0 S){id sz b}{xs}(hid:S.h[id]?=some (.row sz xs))(hm:S.m.getD id none=some b) :
  ∃C T,S.w.heap[b]?=some (.cells C T (0,0))/\xs.length*sz<=C.size/\dW M0 S sz C xs:=by
 have:=hS.obj id _ hid;rw[hm]at this;rcases this with⟨h,_⟩|⟨b',T,C,h1,h2,h3,h4⟩
 .cases h
 .cases h1;exact⟨C,T,h2,h3,h4⟩
theorem jE{w:World}{b}{C}{T}{fr}(h:w.heap[b]?=some (.cells C T fr))(k)(hk:k<C.size):w.cell? ⟨b,k,none⟩=some (C.getD k undef):=by
 simp[World.cell?,h,hk]
theorem iT{i n sz j:Nat}(hi:i<n)(hj:j<sz):i*sz+j<n*sz:=by
 have h1:(i+1)*sz<=n*sz:=jN sz hi;rw[fM,B9]at h1;omega
theorem zM{x}{sz}(h:x.cells.length=sz/\∀c,c∈x.cells->c.isCell=true):(AV.p x).cells=some (x.cells.map .p):=by
 cases x with
 |tuple l=>have:=h.2 (.tuple l) (by simp[PV.cells]);simp[PV.isCell]at this
 |_=>rfl
theorem vg(hcells){T}{x y}{cs}{o b at_}(hx:x.cells=some cs)(hrep:ig M0 S hcells cs)
  (hcell:∀j,o+j<cs.length->S.w.cell? ⟨b,at_+j,none⟩=some (hcells (o+j))) (hz:lB P T x o=some y) :
  ∃v',(loadVar T ⟨b,at_,none⟩).run P S.w=.ok v' S.w/\Rep M0 S v' y:=by
 unfold lB at hz;split at hz
 .rename_i ag n hag hn;obtain⟨h1,h2,h3⟩:=Gi hx hrep hz;exact⟨_,F1 hag hn S.w b at_ (λj=>hcells (o+j)) (λe j hj=>hcell j (h1 j hj e)) (λe=>by simpa using hcell 0 (h2 e)),by simpa using h3⟩
 .cases hz
theorem SS(hS:HOk P M0 S){T}{x}{v}(hx:Rep M0 S v x):aM P M0 S (Instr.loadAt T v) (o9 P T x S.h):=by
 unfold o9;split
 .rename_i sz xs i o;split
  .rename_i y hy;have h:RepP (Avoid M0 S.m) S.w v (.ptr sz xs i o):=hx
   cases h with
   |ptr f hat hsz hM hc hr=>
    rename_i b off at_;refine aM.opt hS λz hz=>?_;have hi:=(aF.1 hy).1;have hsy:=hsz y (aG hy);have hrep:ig M0 S (λj=>f (i*sz+j)) (y.cells.map .p):=by
     intro j c hj;simp only[cO,cg]at hj;obtain⟨q,hq,rfl⟩:=hj;exact⟨hsy.2 q (aG hq),hr i j y q hy hq⟩
    have hlen:(y.cells.map AV.p).length=sz:=by simpa using hsy.1
    obtain⟨v',h1,h2⟩:=vg (P:=P) (λj=>f (i*sz+j)) (b:=b) (at_:=at_) (zM hsy) hrep (λj hj=>by
     rw[<-hc (i*sz+(o+j)) (iT hi (by omega)),hat]
     simp only[jW]) hz
    exact⟨v',by simpa[Instr.loadAt,Instr.sureAddr]using h1,h2⟩
  .exact trivial
 .rename_i id ver i o;split
  .rename_i sz xs hid;split
   .rename_i hv;split
    .rename_i y hy;refine aM.opt hS λz hz=>?_;obtain⟨b,hm,rfl⟩:=di hx.2 hid hv;obtain⟨C,T',hb,hsize,hel⟩:=fF hS hid hm;obtain⟨cs,h5,h6,h7⟩:=hel i y hy;have hi:=(aF.1 hy).1;obtain⟨v',h1,h2⟩:=vg (P:=P) (λj=>C.getD (i*sz+j) undef) (b:=b) (at_:=i*sz+o) h5 h7 (λj hj=>by
      rw[jW]
      exact jE hb _ (jM (iT hi (by omega)) hsize)) hz
     exact⟨v',by simpa[Instr.loadAt,Instr.sureAddr]using h1,h2⟩
    .exact trivial
   .exact trivial
  .exact trivial
 .exact trivial
theorem IP(cs):(rA cs).cells=some cs:=by
 unfold rA
 cases hp:gK cs with
 |some l=>rw[ju hp];rfl
 |none=>rfl
theorem sq{α}(cs new:List α)(o j)(h:o+new.length<=cs.length) :
  (kH cs o new)[j]?=if o<=j/\j<o+new.length then new[j-o]? else cs[j]?:=by
 unfold kH;have h1:(cs.take o).length=o:=by simp;omega
 by_cases a:j<o
 .rw[if_neg (by omega),cF,aX (by omega),pg,if_pos a]
 .by_cases b:j<o+new.length
  .rw[if_pos ⟨by omega,b⟩,aX (by simp;omega),bW (by omega),h1]
  .rw[if_neg (by omega),bW (by simp;omega),nb]
   congr 1
   simp[h1];omega
theorem oo{α}(cs new:List α)(o)(h:o+new.length<=cs.length):(kH cs o new).length=cs.length:=by
 unfold kH;simp;omega
theorem gI(C:Array Value)(j):C.toList.getD j undef=C.getD j undef:=by
 simp[cd]
theorem Pv(hS:HOk P M0 S){T}{x y}{v u}(hx:Rep M0 S v x)(hy:Rep M0 S u y):BZ P M0 S (Instr.storeAt T v u) (gX P T x y S.h):=by
 unfold gX;split
 .rename_i id ver i o n hn;split
  .rename_i sz xs hid;split
   .rename_i hv;split
    .rename_i e he;split
     .rename_i e' he';obtain⟨b,hm,rfl⟩:=di hx.2 hid hv;obtain⟨C,T',hb,hsize,hel⟩:=fF hS hid hm;obtain⟨cs,h5,h6,h7⟩:=hel i e he;have hi:=(aF.1 he).1;unfold AV.withCells at he';rw[h5]at he'
      cases hyc:y.cells with
      |none=>simp[hyc]at he'
      |some new=>
       simp only[hyc]at he';split at he'
       .rename_i hnew;obtain⟨hun,hur⟩:=js hy hyc;have hle:o+n<=sz:=by
         split at he'
         .rename_i hc;omega
         .split at he'
          .rename_i hc;omega
          .cases he'
        have he2:e'.cells=some (kH cs o new)/\(kH cs o new).length=sz:=by
         split at he'
         .rename_i hc;cases he';obtain⟨hc1,rfl⟩:=hc;refine⟨?_,by rw[oo _ _ _ (by omega)];omega⟩;rw[hyc]
          congr 1
          apply uS;intro j;rw[sq _ _ _ _ (by omega)];by_cases hj:j<new.length
          .rw[if_pos ⟨by omega,by omega⟩];simp
          .rw[if_neg (by omega),na (by omega),na (by omega)]
         .split at he'
          .cases he';exact⟨IP _,by rw[oo _ _ _ (by omega)];omega⟩
          .cases he'
        have hvl:u.cells.toList.length=n:=by simp;omega
        have hin:i*sz+sz<=xs.length*sz:=by
         have:(i+1)*sz<=xs.length*sz:=jN sz hi;rwa [fM,B9]at this
        have hbound:i*sz+o+u.cells.toList.length<=C.size:=by omega
        have hone:∀z∈u.cells.toList,z.oneCell'=true:=by
         intro z hz;obtain⟨j,hj⟩:=dX hz;have hjl:=(aF.1 hj).1;have hjn:j<new.length:=by omega
         obtain⟨h8,h9⟩:=hur j new[j] (by simp[hjn]);have:u.cells.getD j undef=z:=by rw[<-gI,cd,hj];rfl
         simp only[this]at h9;exact ot h8 h9
        have hrun:=jr (P:=P) b T' u.cells.toList (i*sz+o) 0 C S.w hb (by omega) hone;simp only[pk]at hrun;refine⟨S.set id (.row sz (xs.set i e')) b (kw C (i*sz+o) u.cells.toList),rfl,?_,Ev.set _ hid hm hb (iO _ _ _) (by simp),HOk.set hS hid hm hb (iO _ _ _) (by simp) (by simp[iO];omega) ?_⟩
        .unfold Instr.storeAt storeVar;simp only[Instr.sureAddr,Sem.run_bind,Sem.run_pure,dl,bP hn];rw[if_neg (by omega)];simpa[Mem.set]using hrun
        .intro k z hk;by_cases hki:k=i
         .subst hki;rw[jf hi]at hk;cases hk;refine⟨_,he2.1,he2.2,λj c hc=>?_⟩;have hjl:=(aF.1 hc).1;rw[sq _ _ _ _ (by omega)]at hc;rw[iV _ _ _ _ hbound];split at hc
          .rename_i hj;rw[if_pos (by omega)];have:=hur (j-o) c hc;rw[show k*sz+j-(k*sz+o)=j-o by omega,gI];exact this
          .rename_i hj;rw[if_neg (by omega)];exact h7 j c hc
         .rw[eo (Ne.symm hki)]at hk;obtain⟨cs',g1,g2,g3⟩:=hel k z hk;refine⟨cs',g1,g2,λj c hc=>?_⟩;have hjl:=(aF.1 hc).1;have hkl:=(aF.1 hk).1;rw[iV _ _ _ _ hbound,if_neg ?_]
          .exact g3 j c hc
          .intro hh;rcases dF k i with h'|h'
           .have:(k+1)*sz<=i*sz:=jN sz h';rw[fM,B9]at this;omega
           .have:(i+1)*sz<=k*sz:=jN sz (by omega);rw[fM,B9]at this;omega
       .cases he'
     .exact trivial
    .exact trivial
   .exact trivial
  .exact trivial
 .exact trivial
theorem zk{T}{f off}{t}(h:ai P T f=some (off,t)) :
  ∃fs fd,P.underlying T=some (.struct fs)/\fs[f]?=some fd/\fd.offset=off/\fd.type=t:=by
 unfold ai at h;split at h
 .rename_i fs hu;simp only[cg,Au]at h;obtain⟨fd,h1,h2,h3⟩:=h;exact⟨fs,fd,hu,h1,h2,h3⟩
 .cases h
theorem lU{h}{id ver sz}(e:hH h id ver=some sz):∃xs,h[id]?=some (.row sz xs)/\xs.length=ver:=by
 unfold hH at e;split at e
 .rename_i sz' xs hid;split at e
  .rename_i hv;cases e;exact⟨xs,hid,hv⟩
  .cases e
 .cases e
theorem vL{id ver i o' sz}{xs}{b}(hid:S.h[id]?=some (.row sz xs))(hv:xs.length=ver)(hm:S.m.getD id none=some b) :
  Rep M0 S (.pointer (some ⟨b,i*sz+o',none⟩)) (.ptr id ver i o'):=
 ⟨⟨_,rfl⟩,.inr ⟨sz,xs,hid,by omega,λ_=>⟨b,hm,rfl⟩⟩⟩
theorem GW(hS:HOk P M0 S){T}{x}{v}{f}(hx:Rep M0 S v x):aM P M0 S (Instr.fieldAt T v f) (mD P T x f S.h):=by
 unfold mD;split
 .exact trivial
 .rename_i off t hf;obtain⟨fs,fd,hu,hfd,rfl,rfl⟩:=zk hf;split
  .exact trivial
  .rename_i n hsz;split
   .exact trivial
   .rename_i hn0;have run:∀(b at_:Nat),(Instr.fieldAt T (.pointer (some ⟨b,at_,none⟩)) f).run P S.w=.ok (.pointer (some ⟨b,at_+fd.offset,none⟩)) S.w:=by
     intro b at_;simp[Instr.fieldAt,run_underlying hu,hfd,Instr.sureAddr,fieldPlace,bP hsz,hn0,fD]
    split
    .rename_i sz xs i o;have h:RepP (Avoid M0 S.m) S.w v (.ptr sz xs i o):=hx
     cases h with
     |ptr g hat hs hM hc hr=>
      refine aM.pure hS (run _ _) (aH (.ptr g ?_ hs hM hc hr));rw[hat,jW]
    .rename_i id ver i o;split
     .rename_i sz hl;obtain⟨xs,hid,hv⟩:=lU hl;obtain⟨b,hm,rfl⟩:=di hx.2 hid hv;refine aM.pure hS (run _ _) ?_;rw[jW];exact vL hid hv hm
     .exact trivial
    .exact trivial
theorem cB{T e}(h:bv P T=some e):P.underlying T=some (.slice e):=by
 unfold bv at h;split at h
 .rename_i e' hu;cases h;exact hu
 .cases h
theorem m9{T e}{n}(h:d7 P T=some (n,e)):P.underlying T=some (.array n e):=by
 unfold d7 at h;split at h
 .rename_i n' e' hu;cases h;exact hu
 .cases h
theorem toNat_lt{i:Int}{n:Nat}(h0:0<=i)(h:i<n):i.toNat<n:=by omega
theorem iJ{v}{k}{i}(h:Rep M0 S v (.p (.int k i))):v=.int k i:=by
 have h':RepP (Avoid M0 S.m) S.w v (.int k i):=h
 cases h' with
 |int k n=>rfl
theorem nJ{v}{b}(h:Rep M0 S v (.p (.bool b))):v=.bool b:=by
 have h':RepP (Avoid M0 S.m) S.w v (.bool b):=h
 cases h' with
 |bool b=>rfl
theorem GP(hS:HOk P M0 S){T}{x ix}{v vi}(hx:Rep M0 S v x)(hi:Rep M0 S vi ix):aM P M0 S (Instr.indexAt T v vi) (iC P T x ix S.h):=by
 unfold iC;split
 .rename_i k i;have:=iJ hi;subst this;split
  .rename_i sz xs full;split
   .rename_i e he;split
    .rename_i hc;obtain⟨hsz,h0,hlt⟩:=hc;have hu:=cB he;have h:RepP (Avoid M0 S.m) S.w v (.slice sz xs full):=hx
     cases h with
     |slice f hlen hcap hfull hs hM hcell hr=>
      rename_i b off len cap;subst hlen;refine aM.pure hS (v':=.pointer (some ⟨b,off+i.toNat*sz,none⟩)) ?_ (aH (.ptr f (by omega) hs hM hcell hr))
      simp[Instr.indexAt,asIntOf,run_underlying hu,h0,hlt,bP hsz,fD]
     |empty hfull=>simp at hlt;omega
    .exact trivial
   .exact trivial
  .rename_i id ver off len;split
   .rename_i e sz xs he hid;split
    .rename_i hc;obtain⟨hsz,hv,h0,hlt⟩:=hc;have hu:=cB he;have hl:=di hx.2 hid hv;rcases hl with⟨h1,_⟩|⟨b,cap,T',n,hm,rfl,hlc,hsh,hroom⟩|⟨_,_,h1⟩
     .omega
     .refine aM.pure hS (v':=.pointer (some ⟨b,(off+i.toNat)*sz+0,none⟩)) ?_ (vL hid hv hm);simp[Instr.indexAt,asIntOf,run_underlying hu,h0,hlt,bP hsz,fD,fM]
     .omega
    .exact trivial
   .exact trivial
  .rename_i sz xs j o;split
   .rename_i n e he;split
    .rename_i s hs;split
     .rename_i hc;obtain⟨h0,hlt⟩:=hc;have hu:=m9 he;have h:RepP (Avoid M0 S.m) S.w v (.ptr sz xs j o):=hx
      cases h with
      |ptr g hat hsz hM hcell hr=>
       rename_i b off at_;refine aM.pure hS (v':=.pointer (some ⟨b,at_+i.toNat*s,none⟩)) ?_ (aH (.ptr g (by rw[hat,jW]) hsz hM hcell hr));simp[Instr.indexAt,asIntOf,run_underlying hu,h0,hlt,bP hs,fD,Instr.sureAddr]
     .exact trivial
    .exact trivial
   .exact trivial
  .rename_i id ver j o;split
   .rename_i n e he;split
    .rename_i s sz hs hl;split
     .rename_i hc;obtain⟨h0,hlt⟩:=hc;have hu:=m9 he;obtain⟨xs,hid,hv⟩:=lU hl;obtain⟨b,hm,rfl⟩:=di hx.2 hid hv;refine aM.pure hS (v':=.pointer (some ⟨b,j*sz+(o+i.toNat*s),none⟩)) ?_ (vL hid hv hm);simp[Instr.indexAt,asIntOf,run_underlying hu,h0,hlt,bP hs,fD,Instr.sureAddr,jW]
     .exact trivial
    .exact trivial
   .exact trivial
  .exact trivial
 .exact trivial
theorem fH{T}(h:e9 P T=true):P.underlying T=some .string:=by
 unfold e9 at h;split at h
 .assumption
 .cases h
theorem Ds{T}{x y}{v}{o}{C}(hv:v=.agg C)(hx:Rep M0 S v x)(hag:x.cells.isSome)(hz:lB P T x o=some y) :
  ∃v',(part T C o).run P S.w=.ok v' S.w/\Rep M0 S v' y:=by
 subst hv;obtain⟨cs,hcs⟩:=j6.1 hag;obtain⟨hn,hrep⟩:=js hx hcs;simp only[Value.cells]at hn hrep;unfold lB at hz;split at hz
 .rename_i ag n hg hsz;obtain⟨h1,h2,h3⟩:=Gi hcs hrep hz
  cases ag with
  |true=>
   refine⟨.agg (C.extract o (o+n)),?_,?_⟩
   .simp[part,kE hg,bP hsz]
   .have hle:n=0\/o+n<=C.size:=by
     rcases tN n with h|h
     .exact .inl h
     .have:=h1 (n-1) (by omega) rfl;exact .inr (by omega)
    have:C.extract o (o+n)=((List.range n).map λj=>C.getD (o+j) undef).toArray:=by
     apply nw
     .simp;omega
     .intro k hk1 hk2;have hkn:k<n:=by simpa using hk2
      simp[show o+k<C.size by rcases hle with h|h<;>omega]
    rw[this]
    simpa using h3
  |false=>
   have ho:=h2 rfl;refine⟨C.getD o undef,?_,by simpa using h3⟩;simp[part,kE hg,show o<C.size by omega]
 .cases hz
theorem C5{v}{x}(hx:Rep M0 S v x)(h:(∃l,x=.p (.agg l))\/∃l,x=.agg l):∃C,v=.agg C:=by
 rcases h with⟨l,rfl⟩|⟨l,rfl⟩
 .have h':RepP (Avoid M0 S.m) S.w v (.agg l):=hx
  cases h' with
  |agg=>exact⟨_,rfl⟩
 .obtain⟨C,rfl,_⟩:=hx;exact⟨C,rfl⟩
theorem Qt(hS:HOk P M0 S){T}{x}{v}{f}(hx:Rep M0 S v x):aM P M0 S (Instr.field T v f) (uJ P T x f S.h):=by
 unfold uJ;split
 .exact trivial
 .rename_i off t hf;obtain⟨fs,fd,hu,hfd,rfl,rfl⟩:=zk hf;have key:((∃l,x=.p (.agg l))\/∃l,x=.agg l)->aM P M0 S (Instr.field T v f) (iQ S.h (lB P fd.type x fd.offset)):=by
   intro hk;refine aM.opt hS λy hy=>?_;obtain⟨C,hv⟩:=C5 hx hk;obtain⟨v',h1,h2⟩:=Ds hv hx (by rcases hk with⟨l,rfl⟩|⟨l,rfl⟩<;>rfl) hy;exact⟨v',by simp[Instr.field,run_underlying hu,hfd,hv,asAgg,h1],h2⟩
  split
  .exact key (.inl ⟨_,rfl⟩)
  .exact key (.inr ⟨_,rfl⟩)
  .exact trivial
theorem Qg(hS:HOk P M0 S){T}{x ix}{v vi}(hx:Rep M0 S v x)(hi:Rep M0 S vi ix):aM P M0 S (Instr.index T v vi) (ya P T x ix S.h):=by
 unfold ya;split
 .rename_i k i;have:=iJ hi;subst this
  have key:((∃l,x=.p (.agg l))\/∃l,x=.agg l)->∀n e s,d7 P T=some (n,e)->ce P e=some s->(0<=i/\i<n) ->
    aM P M0 S (Instr.index T v (.int k i)) (iQ S.h (lB P e x (i.toNat*s))):=by
   intro hk n e s he hs hc;obtain⟨h0,hlt⟩:=hc;refine aM.opt hS λy hy=>?_;obtain⟨C,hv⟩:=C5 hx hk;obtain⟨v',h1,h2⟩:=Ds hv hx (by rcases hk with⟨l,rfl⟩|⟨l,rfl⟩<;>rfl) hy;exact⟨v',by simp[Instr.index,asIntOf,run_underlying (m9 he),hv,h0,hlt,bP hs,h1],h2⟩
  split
  .rename_i s;split
   .rename_i hc;obtain⟨hst,h0⟩:=hc;split
    .rename_i b hb;have h':RepP (Avoid M0 S.m) S.w v (.str s):=hx
     cases h' with
     |str s=>
      refine aM.pure hS (v':=.int .u8 b.toNat) ?_ (aH (.int _ _));simp[Instr.index,asIntOf,run_underlying (fH hst),h0,hb]
    .exact trivial
   .exact trivial
  .split
   .split
    .split
     .rename_i n e he _ s hs hc;exact key (.inl ⟨_,rfl⟩) n e s he hs hc
     .exact trivial
    .exact trivial
   .exact trivial
  .split
   .split
    .split
     .rename_i n e he _ s hs hc;exact key (.inr ⟨_,rfl⟩) n e s he hs hc
     .exact trivial
    .exact trivial
   .exact trivial
  .exact trivial
 .exact trivial
end Abs
end Go.Proofs.YtoapoaoelpcniaaGreatDoor
