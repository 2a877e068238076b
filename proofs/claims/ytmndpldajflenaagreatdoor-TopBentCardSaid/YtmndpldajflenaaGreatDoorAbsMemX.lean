/- CONTRACTS of the program's functions, and laws on what they return. No conditions but those in the theorems' heads. -/
import Derived.Test.YtmndpldajflenaaGreatDoorAbsRep
set_option linter.all false
namespace Go.Proofs.YtmndpldajflenaaGreatDoor
namespace Abs
def fz (M0:Nat->Prop) (S:Mem) (g:Nat->Value) (cs:List AV):Prop:=
 ∀(j:Nat) (c:AV),cs[j]?=some c->c.isCell=true/\aY M0 S (g j) c
theorem ly{M0}{S}{v}{c}(hc:c.isCell=true)(h:aY M0 S v c):Rep M0 S v c:=by
 cases c with
 |agg cs=>simp[AV.isCell]at hc
 |tuple cs=>simp[AV.isCell]at hc
 |undef=>simp[AV.isCell]at hc
 |_=>exact h
theorem lz{M0}{S}{v}{c}(h:cc M0 S v c):Rep M0 S v c:=by
 cases c with
 |tuple cs=>exact False.elim h
 |_=>exact h
theorem kZ{M0}{S}{v}{c}(hc:c.isCell=true)(h:aY M0 S v c):v.oneCell'=true:=by
 cases c with
 |p q=>
  have h':RepP (Avoid M0 S.m) S.w v q:=h
  cases h' with
  |agg=>simp[AV.isCell,PV.isCell]at hc
  |tuple=>simp[AV.isCell,PV.isCell]at hc
  |_=>rfl
 |ptr id ver i o=>obtain⟨⟨a,rfl⟩,_⟩:=h;rfl
 |iptr it id=>obtain⟨⟨a,rfl⟩,_⟩:=h;rfl
 |arr id ver i o n=>obtain⟨⟨a,c,rfl⟩,_⟩:=h;rfl
 |slice id ver off len=>obtain⟨⟨a,_,_,rfl⟩,_⟩:=h;rfl
 |ref k id=>obtain⟨⟨a,rfl⟩,_⟩:=h;cases k<;>rfl
 |func fn f c=>obtain⟨F,C,rfl,_⟩:=h;rfl
 |agg cs=>simp[AV.isCell]at hc
 |tuple cs=>simp[AV.isCell]at hc
 |undef=>simp[AV.isCell]at hc
theorem J7{α:Type}(C:Array α)(i)(d)(h):C.getD i d=C[i]:=by simp[Array.getD,h]
theorem getD_some{α:Type}{C:Array α}{i}{d x}(h:C[i]?=some x):C.getD i d=x:=by
 obtain⟨h1,h2⟩:=uL.1 h;rw[J7 _ _ _ h1,h2]
theorem gL{M0}{S}{v}{x}{cs}(h:Rep M0 S v x)(hx:x.cells=some cs) :
  v.cells.size=cs.length/\fz M0 S (λj=>v.cells.getD j undef) cs:=by
 have one:∀{c:AV},c.isCell=true->aY M0 S v c->v.cells=#[v]:=by
  intro c hc hr;have:=kZ hc hr;cases v<;>first|rfl|simp[Value.oneCell']at this
 have single:∀{c:AV},c.isCell=true->aY M0 S v c->v.cells.size=[c].length/\fz M0 S (λj=>v.cells.getD j undef) [c]:=by
  intro c hc hr;rw[one hc hr];refine⟨rfl,λj d hj=>?_⟩
  cases j with
  |zero=>simp at hj;subst hj;exact⟨hc,hr⟩
  |succ j=>simp at hj
 cases x with
 |p q=>
  cases q with
  |agg l=>
   simp[AV.cells,PV.cells]at hx;subst hx;have h':RepP (Avoid M0 S.m) S.w v (.agg l):=h
   cases h' with
   |agg hn hs hr=>
    refine⟨by simpa[Value.cells]using hn,λj c hj=>?_⟩;simp only[bU,bx]at hj;obtain⟨q,hq,rfl⟩:=hj
    exact⟨hs q (aV hq),hr j q hq⟩
  |tuple l=>simp[AV.cells]at hx
  |_=>(simp[AV.cells,PV.cells]at hx;subst hx;exact single rfl h)
 |agg l=>
  simp[AV.cells]at hx;subst hx;obtain⟨C,rfl,h1,h2,h3⟩:=h
  exact⟨h2,λj c hj=>⟨h1 c (aV hj),h3 j c hj⟩⟩
 |tuple l=>simp[AV.cells]at hx
 |undef=>simp[AV.cells]at hx
 |_=>(simp[AV.cells]at hx;subst hx;exact single rfl h)
theorem gM:∀{cs} {l},bV cs=some l->cs=l.map .p
 |[],l,h=>by simp[bV]at h;subst h;rfl
 |c::r,l,h=>by
  cases c with
  |p v=>
   simp only[bV]at h;split at h
   .rename_i l' hl;cases h;rw[gM hl];rfl
   .cases h
  |_=>simp[bV]at h
theorem sg{M0}{S}{C}{cs}(hn:C.size=cs.length)(h:fz M0 S (λj=>C.getD j undef) cs):cc M0 S (.agg C) (iC cs):=by
 unfold iC
 cases hp:bV cs with
 |some l=>
  have:=gM hp;subst this;refine .agg (by simpa using hn) (λc hc=>?_) (λi c hi=>?_)
  .obtain⟨i,hi⟩:=eL hc;exact(h i (.p c) (by simp[hi])).1
  .exact(h i (.p c) (by simp[hi])).2
 |none=>exact⟨C,rfl,λc hc=>(let ⟨i,hi⟩:=eL hc;(h i c hi).1),hn,λi c hi=>(h i c hi).2⟩
theorem Ci{M0}{S}{C}{cs}(h:cK (cc M0 S) C cs):Rep M0 S (.tuple C) (m7 cs):=by
 unfold m7
 cases hp:bV cs with
 |some l=>
  have:=gM hp;subst this
  exact .tuple (by simpa using h.1) (λi c hi=>h.2 i (.p c) (by simp[hi]))
 |none=>exact⟨C,rfl,h⟩
theorem ar{M0}{S}{v}{q}(h:RepP (Avoid M0 S.m) S.w v q):Rep M0 S v (.p q):=h
variable {P:Program}
theorem iA{T}{g}(h:aZ P T=some g)(w):(isAgg T).run P w=.ok g w:=by
 unfold aZ at h;unfold isAgg
 cases hu:P.underlying T with
 |none=>simp[hu]at h
 |some d=>
  rw[Sem.run_bind,run_underlying hu w];cases d<;>simp[hu]at h<;>subst h<;>rfl
theorem aU{T}{n}(h:bj P T=some n)(w):(sizeOf T).run P w=.ok n w:=by
 unfold bj at h
 cases hi:P.info? T with
 |none=>simp[hi]at h
 |some i=>simp[hi]at h;subst h;simp[sizeOf,typeInfo,hi]
theorem qy{T}{n}(h:iP P T=some n)(w):∃i,(typeInfo T).run P w=.ok i w/\i.bytes=n:=by
 unfold iP at h
 cases hi:P.info? T with
 |none=>simp[hi]at h
 |some i=>simp[hi]at h;exact⟨i,by simp[typeInfo,hi],h⟩
theorem dg(b o n):(⟨b,o,none⟩:Addr).add n=⟨b,o+n,none⟩:=by
 unfold Addr.add;split
 .rename_i h;subst h;rfl
 .rfl
theorem zZ{T}{g}{n}(hg:aZ P T=some g)(hn:bj P T=some n)(w)(b at_)(f)
  (hc:g=true->∀j,j<n->w.cell? ⟨b,at_+j,none⟩=some (f j)) (h1:g=false->w.cell? ⟨b,at_,none⟩=some (f 0)) :
  (loadVar T ⟨b,at_,none⟩).run P w=.ok (if g then .agg ((List.range n).map f).toArray else f 0) w:=by
 unfold loadVar;rw[Sem.run_bind,iA hg w]
 cases g with
 |true=>
  have:=run_loadCells (P:=P) w ⟨b,at_,none⟩ n f (λj hj=>by rw[dg];exact hc rfl j hj)
  simp[Sem.run_bind,aU hn w,this]
 |false=>simp[h1 rfl]
theorem fH(f)(n j)(h:j<n):(((List.range n).map f).toArray).getD j undef=f j:=by
 simp[h]
theorem Bf{M0}{S}{g}{cs}(h:fz M0 S g cs)(o n):fz M0 S (λj=>g (o+j)) (sub o n cs):=by
 intro j c hj;unfold sub at hj;rw[kh]at hj;split at hj
 .rw[nn]at hj;exact h (o+j) c hj
 .cases hj
theorem sQ{v:AV}{cs}(h:v.cells=some cs):(∃l,v=.p (.agg l))\/(∃l,v=.agg l)\/v.isCell=true/\cs=[v]:=by
 cases v with
 |p q=>
  cases q with
  |agg l=>exact .inl ⟨l,rfl⟩
  |tuple l=>simp[AV.cells]at h
  |_=>(simp[AV.cells,PV.cells]at h;subst h;exact .inr (.inr ⟨rfl,rfl⟩))
 |agg l=>exact .inr (.inl ⟨l,rfl⟩)
 |tuple l=>simp[AV.cells]at h
 |undef=>simp[AV.cells]at h
 |_=>(simp[AV.cells]at h;subst h;exact .inr (.inr ⟨rfl,rfl⟩))
theorem Ai{M0}{S}{g}{x y:AV}{cs}{ag}{n o}(hx:x.cells=some cs)(h:fz M0 S g cs)(hp:x.part ag n o=some y) :
  (∀j,j<n->ag=true->o+j<cs.length)/\(ag=false->o<cs.length)/\Rep M0 S (if ag then .agg ((List.range n).map λj=>g (o+j)).toArray else g o) y:=by
 unfold AV.part at hp;rw[hx]at hp
 cases ag with
 |false=>
  simp only[gZ,↓reduceIte]at hp;obtain⟨h1,h2⟩:=h o y hp
  exact⟨λ_ _ e=>by simp at e,λ_=>(aA.1 hp).1,ly h1 h2⟩
 |true=>
  simp only[↓reduceIte]at hp |-;refine⟨?_,λe=>by simp at e,?_⟩
  .intro j hj _;split at hp
   .rename_i hc;omega
   .split at hp
    .rename_i hc;omega
    .cases hp
  .split at hp
   .rename_i hc;obtain⟨hl,rfl⟩:=hc;subst hl;simp only[eN];rcases sQ hx with⟨l,rfl⟩|⟨l,rfl⟩|⟨hcell,_⟩
    .cases hp;simp[AV.cells,PV.cells]at hx;subst hx;refine ar (.agg (by simp) (λc hc=>?_) (λi c hi=>?_))
     .obtain⟨i,hi⟩:=eL hc;exact(h i (.p c) (by simp[hi])).1
     .have hlt:=(aA.1 hi).1;rw[fH _ _ _ (by simpa using hlt)];exact(h i (.p c) (by simp[hi])).2
    .cases hp;simp[AV.cells]at hx;subst hx;refine⟨_,rfl,λc hc=>(let ⟨i,hi⟩:=eL hc;(h i c hi).1),by simp,λi c hi=>?_⟩;have hlt:=(aA.1 hi).1;rw[fH _ _ _ hlt];exact(h i c hi).2
    .cases x with
     |p q=>cases q<;>first|(simp at hp;done)|(simp[AV.isCell,PV.isCell]at hcell;done)
     |agg l=>simp[AV.isCell]at hcell
     |_=>simp at hp
   .split at hp
    .rename_i hle;cases hp;refine lz (sg (by simp[sub];omega) λj c hj=>?_);have hlt:=(aA.1 hj).1;have hjn:j<n:=by simp[sub]at hlt;omega
     show c.isCell=true/\aY M0 S (((List.range n).map λj=>g (o+j)).toArray.getD j undef) c;rw[fH _ _ _ hjn];exact Bf h o n j c hj
    .cases hp
theorem qG{m}{b x}:Own (m++[some x]) b↔Own m b\/b=x:=by
 simp[Own]
theorem iL(w:World)(o)(b)(h:b<w.heap.size):(w.alloc o).heap[b]?=w.heap[b]?:=by
 show (w.heap.push o)[b]?=_;rw[Array.getElem?_push,if_neg (by omega)]
theorem bf(w:World)(o):(w.alloc o).heap[w.heap.size]?=some o:=by
 show (w.heap.push o)[w.heap.size]?=some o;simp
theorem B5(w:World)(o)(b)(h:b<w.heap.size):(w.alloc o).shape? b=w.shape? b:=by
 unfold World.shape?;rw[iL w o b h]
theorem Fr.alloc(m)(w)(o):Fr m w (w.alloc o):=
 ⟨rfl,rfl,rfl,by simp,λb hb _=>iL w o b hb,λb hb=>B5 w o b hb⟩
theorem Fr.drew(m)(w):Fr m w w.drew:=⟨rfl,rfl,rfl,aJ _,λ_ _ _=>rfl,λ_ _=>rfl⟩
theorem Fr.trans{m m'}{a b c}(h:Fr m a b)(k:Fr m' b c)(hs:∀x,x<a.heap.size->Own m' x->Own m x):Fr m a c:=
 ⟨k.os.trans h.os,k.tape.trans h.tape,k.output.trans h.output,iZ h.size k.size,
  λx hx hn=>(k.block x (hP hx h.size) (λho=>hn (hs x hx ho))).trans (h.block x hx hn),
  λx hx=>(k.shape x (hP hx h.size)).trans (h.shape x hx)⟩
theorem ObjOk.keep{M0}{S S'}(e:Ev S.h.length S S'){μ}{o}(h:ObjOk P M0 S μ o)
  (hb:∀b,μ=some b->S'.w.heap[b]?=S.w.heap[b]?):ObjOk P M0 S' μ o:=by
 cases o with
 |row sz xs=>
  rcases h with h|⟨b,T,C,h1,h2,h3,h4⟩
  .exact .inl h
  .refine .inr ⟨b,T,C,h1,(hb b h1).trans h2,h3,λi x hx=>?_⟩;obtain⟨cs,h5,h6,h7⟩:=h4 i x hx
   exact⟨cs,h5,h6,λj c hc=>⟨(h7 j c hc).1,e.keepS (h7 j c hc).2⟩⟩
 |strIter s p=>
  obtain⟨b,h1,h2⟩:=h
  exact⟨b,h1,(hb b h1).trans h2⟩
 |mp es=>
  obtain⟨b,C,clk,h1,h2,h3⟩:=h
  exact⟨b,C,clk,h1,(hb b h1).trans h2,h3.mono λv a=>e.keepS⟩
 |memo f=>
  obtain⟨hg,es,hf,b,C,clk,h1,h2,h3⟩:=h
  exact⟨hg,es,hf,b,C,clk,h1,(hb b h1).trans h2,h3.mono λv a=>e.keepS⟩
 |loop n tmps ps assign body st pend=>
  obtain⟨b,r,h1,h2,h3,h4,h5⟩:=h
  exact⟨b,r,h1,(hb b h1).trans h2,h3,λt=>e.keep (h4 t),h5⟩
 |dblock=>
  obtain⟨b,h1,h2⟩:=h
  exact⟨b,h1,(hb b h1).trans h2⟩
 |bld T el x=>
  obtain⟨b,p,v,h1,h2,h3,h4,h5,h6⟩:=h
  exact⟨b,p,v,h1,(hb b h1).trans h2,h3,h4,e.rep0 h5 (eh h5),λa n c hv=>let ⟨N,hN⟩:=h6 a n c hv;⟨N,(e.fr.shape _ (nF hN)).trans hN⟩⟩
 |dead=>exact trivial
def Mem.new (S:Mem) (o:AObj) (ob:Obj):Mem:=⟨S.m++[some S.w.heap.size],S.h++[o],S.w.alloc ob⟩
theorem Ev.new(base:Nat)(M0:Nat->Prop){S:Mem}(hS:HOk P M0 S)(hb:base<=S.h.length)(o:AObj)(ob:Obj):Ev base S (S.new o ob) where
 fr:=Fr.alloc _ _ _
 sub:=λb h=>by
  rcases qG.1 h with h|rfl
  .exact .inl h
  .exact .inr (aJ _)
 obj:=λid o' hid ho=>by
  refine⟨o',?_,?_⟩
  .show (S.h++[o])[id]?=_;rw[br (by omega)];exact ho
  .have:(S.new o ob).m.getD id none=S.m.getD id none:=by
    show (S.m++[some S.w.heap.size]).getD id none=_;have:=hS.len;simp[br (show id<S.m.length by omega)]
   rw[this];exact ObjEv.refl _ _
theorem HOk.new{M0:Nat->Prop}{S:Mem}(hS:HOk P M0 S){o:AObj}{ob:Obj}(ho:ObjOk P M0 (S.new o ob) (some S.w.heap.size) o):HOk P M0 (S.new o ob) where
 len:=by simp[Mem.new,hS.len]
 lt:=λb h=>by
  have:(S.new o ob).w.heap.size=S.w.heap.size+1:=by simp[Mem.new]
  rcases qG.1 h with h|rfl
  .have:=hS.lt b h;omega
  .omega
 m0:=λb h=>by
  obtain⟨h1,h2⟩:=hS.m0 b h;refine⟨by simp[Mem.new];omega,λhn=>?_⟩;rcases qG.1 hn with hn|rfl
  .exact h2 hn
  .omega
 inj:=λi j b hi hj=>by
  have hlen:=hS.len;have key:∀k,(S.new o ob).m[k]?=some (some b)->(S.m[k]?=some (some b)/\b<S.w.heap.size)\/(k=S.m.length/\b=S.w.heap.size):=by
   intro k hk;have hk':(S.m++[some S.w.heap.size])[k]?=some (some b):=hk;rcases aw k S.m.length with h|h
   .rw[br h]at hk';exact .inl ⟨hk',hS.lt b (aV hk')⟩
   .rw[ca h]at hk';have h0:k-S.m.length=0:=by
     have:=(aA.1 hk').1;simp at this;omega
    rw[h0]at hk';simp at hk';exact .inr ⟨by omega,hk'.symm⟩
  rcases key i hi with⟨h1,h2⟩|⟨h1,h2⟩<;>rcases key j hj with⟨h3,h4⟩|⟨h3,h4⟩
  .exact hS.inj i j b h1 h3
  .omega
  .omega
  .omega
 obj:=λid o' hid=>by
  have hlen:=hS.len;have hid':(S.h++[o])[id]?=some o':=hid;rcases aw id S.h.length with h|h
  .rw[br h]at hid';have e:=Ev.new S.h.length M0 hS (aJ _) o ob;have hm:(S.new o ob).m.getD id none=S.m.getD id none:=by
    show (S.m++[some S.w.heap.size]).getD id none=_;simp[br (show id<S.m.length by omega)]
   rw[hm];refine(hS.obj id o' hid').keep e λb hb=>iL _ _ _ ?_;refine hS.lt b ?_;have:S.m[id]?=some (some b):=by
    rw[bB]at hb
    cases hq:S.m[id]? with
    |none=>simp[hq]at hb
    |some z=>simp[hq]at hb;rw[hb]
   exact aV this
  .have h0:id=S.h.length:=by
    have:=(aA.1 hid').1;simp at this;omega
   subst h0;rw[ca (aJ _)]at hid';simp at hid';subst hid';have hm:(S.new o ob).m.getD S.h.length none=some S.w.heap.size:=by
    show (S.m++[some S.w.heap.size]).getD S.h.length none=_;rw[<-hlen];simp
   rw[hm];exact ho
 gl:=(Ev.new 0 M0 hS (bE _) o ob).glob hS.gl
def Mem.drew (S:Mem):Mem:=⟨S.m,S.h,S.w.drew⟩
theorem Ev.drew(base)(S):Ev base S S.drew:=⟨Fr.drew _ _,λ_ h=>.inl h,λ_ o _ h=>⟨o,h,ObjEv.refl _ _⟩⟩
theorem HOk.drew{M0}{S}(hS:HOk P M0 S):HOk P M0 S.drew:=
 ⟨hS.len,hS.lt,hS.m0,hS.inj,λid o h=>(hS.obj id o h).keep (Ev.drew _ S) λ_ _=>rfl,(Ev.drew 0 S).glob hS.gl⟩
end Abs
end Go.Proofs.YtmndpldajflenaaGreatDoor
namespace Go.Proofs.YtmndpldajflenaaGreatDoor
namespace Abs
variable {P:Program}
theorem B7(w:World)(b)(C)(T)(fr)(hb:w.heap[b]?=some (.cells C T fr)):w.setRow b C=w:=by
 have hv:w.heap[b]'((uL.1 hb).1)=.cells C T fr:=(uL.1 hb).2;unfold World.setRow
 cases w with
 |mk heap tape drawn os output=>
  congr 1
  apply oz
  .simp
  .intro k h1 h2;simp only[Array.getElem_modify];split
   .rename_i hk;subst hk;simp at hv;simp[hv]
   .rfl
def iq (C:Array Value) (o:Nat):List Value->Array Value
 |[]=>C
 |v::r=>iq (C.setIfInBounds o v) (o+1) r
theorem fO:∀(vs) (C) (o),(iq C o vs).size=C.size
 |[],_,_=>rfl
 |v::r,C,o=>by rw[iq,fO r];simp
theorem fU:∀(vs) (C) (o k),o+vs.length<=C.size ->
  (iq C o vs).getD k undef=if o<=k/\k<o+vs.length then vs.getD (k-o) undef else C.getD k undef
 |[],C,o,k,_=>by
  have:¬(o<=k/\k<o+([]:List Value).length):=by simp
  rw[if_neg this,iq]
 |v::r,C,o,k,h=>by
  have h':o+(r.length+1)<=C.size:=by simpa using h
  rw[iq,fU r (C.setIfInBounds o v) (o+1) k (by simp;omega)];by_cases h1:o+1<=k/\k<o+1+r.length
  .rw[if_pos h1,if_pos (by simp;omega),show k-o=(k-(o+1))+1 by omega];simp
  .rw[if_neg h1];by_cases h2:k=o
   .subst h2;rw[if_pos (by simp)];simp[show k<C.size by omega]
   .rw[if_neg (by simp;omega)];simp[Ne.symm h2]
theorem gK(b)(T):∀(vs) (off i) (C) (w),w.heap[b]?=some (.cells C T (0,0))->off+i+vs.length<=C.size ->
  (∀v∈vs,v.oneCell'=true)->(storeCells ⟨b,off,none⟩ vs i).run P w=.ok () (w.setRow b (iq C (off+i) vs))
 |[],off,i,C,w,hb,_,_=>by
  rw[iq,B7 w b C T _ hb]
  rfl
 |v::r,off,i,C,w,hb,hl,h1=>by
  have hl':off+i+(r.length+1)<=C.size:=by simpa using hl
  have hcell:w.cell? ⟨b,off+i,none⟩=some C[off+i]:=by simp[World.cell?,hb,show off+i<C.size by omega]
  have hfro:w.frozen? ⟨b,off+i,none⟩=false:=by simp[World.frozen?,hb]
  have hst:(store ((⟨b,off,none⟩:Addr).add i) v).run P w=.ok () (w.setRow b (C.setIfInBounds (off+i) v)):=by
   rw[dg,run_store P w _ v _ (h1 v (by simp)),hcell];simp[hfro,setCell_eq_setRow w b (off+i) C T (0,0) v hb]
  have ih:=gK b T r off (i+1) (C.setIfInBounds (off+i) v) (w.setRow b (C.setIfInBounds (off+i) v)) (setRow_heap w b C _ T _ hb) (by simp;omega) (λx hx=>h1 x (by simp[hx]));simp only[storeCells,Sem.run_bind,hst,aG,ih,setRow_setRow,iq,fX]
def Mem.set (S:Mem) (id:Nat) (o:AObj) (b:Nat) (C:Array Value):Mem:=⟨S.m,S.h.set id o,S.w.setRow b C⟩
theorem jW{m}{id b}(h:m.getD id none=some b):Own m b/\m[id]?=some (some b):=by
 rw[bB]at h
 cases hq:m[id]? with
 |none=>simp[hq]at h
 |some z=>simp[hq]at h;subst h;exact⟨aV hq,rfl⟩
theorem nE(w:World)(b)(C C')(T)(fr)(hb:w.heap[b]?=some (.cells C T fr))(hC:C'.size=C.size)(x) :
  (w.setRow b C').shape? x=w.shape? x:=by
 unfold World.shape?;by_cases h:x=b
 .subst h;rw[setRow_heap w x C C' T fr hb,hb];simp[hC]
 .rw[setRow_other w b x C' h]
theorem Ev.set(base:Nat){S:Mem}{id sz b:Nat}{xs xs':List AV}{C C':Array Value}{T:TypeId}(hid:S.h[id]?=some (.row sz xs))(hm:S.m.getD id none=some b)
  (hb:S.w.heap[b]?=some (.cells C T (0,0))) (hC:C'.size=C.size) (hlen:xs.length<=xs'.length):Ev base S (S.set id (.row sz xs') b C') where
 fr:=⟨rfl,rfl,rfl,by simp[Mem.set],
  λx _ hn=>setRow_other _ _ _ _ (λe=>hn (e▸(jW hm).1)),
  λx _=>nE _ _ _ _ _ _ hb hC x⟩
 sub:=λ_ h=>.inl h
 obj:=λj o hj ho=>by
  by_cases h:j=id
  .subst h;have:o=.row sz xs:=by rw[hid]at ho;exact(fW ho).symm
   subst this;refine⟨.row sz xs',by simp[Mem.set,(aA.1 hid).1],.inr (.inl ⟨sz,xs,xs',rfl,rfl,?_⟩)⟩;rcases aw xs.length xs'.length with h'|h'
   .exact .inr h'
   .exact .inl ⟨by omega,rfl⟩
  .exact⟨o,by simp[Mem.set,cq (Ne.symm h),ho],ObjEv.refl _ _⟩
def cA (M0:Nat->Prop) (S:Mem) (sz:Nat) (C:Array Value) (xs:List AV):Prop:=
 ∀(i:Nat) (x:AV),xs[i]?=some x->∃cs,x.cells=some cs/\cs.length=sz/\∀(j:Nat) (c:AV),cs[j]?=some c->c.isCell=true/\aY M0 S (C.getD (i*sz+j) undef) c
theorem cA.keep{M0}{S S'}(e:Ev S.h.length S S'){sz}{C}{xs}(h:cA M0 S sz C xs):cA M0 S' sz C xs:=
 λi x hx=>let ⟨cs,h1,h2,h3⟩:=h i x hx;⟨cs,h1,h2,λj c hc=>⟨(h3 j c hc).1,e.keepS (h3 j c hc).2⟩⟩
theorem HOk.set{M0}{S}(hS:HOk P M0 S){id sz b}{xs xs'}{C C'}{T}(hid:S.h[id]?=some (.row sz xs))(hm:S.m.getD id none=some b)
  (hb:S.w.heap[b]?=some (.cells C T (0,0))) (hC:C'.size=C.size) (hlen:xs.length<=xs'.length) (hroom:xs'.length*sz<=C'.size) (hel:cA M0 S sz C' xs') :
  HOk P M0 (S.set id (.row sz xs') b C'):=by
 have e:=Ev.set S.h.length hid hm hb hC hlen;refine⟨by simp[Mem.set,hS.len],λx hx=>?_,λx hx=>?_,hS.inj,λj o hj=>?_,e.glob hS.gl⟩
 .have:=hS.lt x hx;simpa[Mem.set]using this
 .obtain⟨h1,h2⟩:=hS.m0 x hx;exact⟨by simpa[Mem.set]using h1,h2⟩
 .by_cases h:j=id
  .subst h;have:o=.row sz xs':=by
    have:(S.h.set j (.row sz xs'))[j]?=some o:=hj;simp[(aA.1 hid).1]at this;exact this.symm
   subst this;refine .inr ⟨b,T,C',hm,setRow_heap _ _ _ _ _ _ hb,hroom,hel.keep e⟩
  .have ho:S.h[j]?=some o:=by
    have:(S.h.set id (.row sz xs'))[j]?=some o:=hj;rwa [cq (Ne.symm h)]at this
   refine(hS.obj j o ho).keep e λx hx=>setRow_other _ _ _ _ λhxb=>h ?_;subst hxb;exact hS.inj j id x (jW hx).2 (jW hm).2
def Mem.regrow (S:Mem) (id:Nat) (o:AObj) (ob:Obj):Mem:=⟨S.m.set id (some S.w.heap.size),S.h.set id o,S.w.alloc ob⟩
theorem wW{m}{id x b}(h:Own (m.set id (some x)) b):Own m b\/b=x:=by
 unfold Own at h |-;rcases List.mem_or_eq_of_mem_set h with h|h
 .exact .inl h
 .exact .inr (by simpa using h)
theorem Ev.regrow(base:Nat){S:Mem}{id sz:Nat}{xs xs':List AV}{ob:Obj}(hid:S.h[id]?=some (.row sz xs))(hlen:xs.length<xs'.length) :
  Ev base S (S.regrow id (.row sz xs') ob) where
 fr:=Fr.alloc _ _ _
 sub:=λb h=>by
  rcases wW h with h|rfl
  .exact .inl h
  .exact .inr (aJ _)
 obj:=λj o hj ho=>by
  by_cases h:j=id
  .subst h;have:o=.row sz xs:=by rw[hid]at ho;exact(fW ho).symm
   subst this;exact⟨.row sz xs',by simp[Mem.regrow,(aA.1 hid).1],.inr (.inl ⟨sz,xs,xs',rfl,rfl,.inr hlen⟩)⟩
  .refine⟨o,by simp[Mem.regrow,cq (Ne.symm h),ho],?_⟩;have:(S.regrow id (.row sz xs') ob).m.getD j none=S.m.getD j none:=by
    simp[Mem.regrow,bB,cq (Ne.symm h)]
   rw[this];exact ObjEv.refl _ _
theorem HOk.regrow{M0}{S}(hS:HOk P M0 S){id sz}{xs xs'}{C}{T}(hid:S.h[id]?=some (.row sz xs))
  (hlen:xs.length<xs'.length) (hroom:xs'.length*sz<=C.size) (hel:cA M0 S sz C xs'):HOk P M0 (S.regrow id (.row sz xs') (.cells C T)):=by
 have e:=Ev.regrow S.h.length (ob:=.cells C T) hid hlen;have hidlt:=(aA.1 hid).1;have hml:=hS.len;refine⟨by simp[Mem.regrow,hS.len],λx hx=>?_,λx hx=>?_,λi j x hi hj=>?_,λj o hj=>?_,e.glob hS.gl⟩
 .rcases wW hx with h|rfl
  .have:=hS.lt x h;simp[Mem.regrow];omega
  .simp[Mem.regrow]
 .obtain⟨h1,h2⟩:=hS.m0 x hx;refine⟨by simp[Mem.regrow];omega,λhn=>?_⟩;rcases wW hn with h|rfl
  .exact h2 h
  .omega
 .have key:∀k:Nat,(S.m.set id (some S.w.heap.size))[k]?=some (some x)->(k≠id/\S.m[k]?=some (some x)/\x<S.w.heap.size)\/(k=id/\x=S.w.heap.size):=by
   intro k hk;by_cases h:k=id
   .subst h;rw[fp (by omega)]at hk;exact .inr ⟨rfl,by simpa using hk.symm⟩
   .rw[cq (Ne.symm h)]at hk;exact .inl ⟨h,hk,hS.lt x (aV hk)⟩
  rcases key i hi with⟨h1,h2,h3⟩|⟨h1,h2⟩<;>rcases key j hj with⟨h4,h5,h6⟩|⟨h4,h5⟩
  .exact hS.inj i j x h2 h5
  .omega
  .omega
  .omega
 .by_cases h:j=id
  .subst h;have:o=.row sz xs':=by
    have:(S.h.set j (.row sz xs'))[j]?=some o:=hj;simp[hidlt]at this;exact this.symm
   subst this;refine .inr ⟨S.w.heap.size,T,C,?_,bf _ _,hroom,hel.keep e⟩;simp[Mem.regrow,bB,fp (show j<S.m.length by omega)]
  .have ho:S.h[j]?=some o:=by
    have:(S.h.set id (.row sz xs'))[j]?=some o:=hj;rwa [cq (Ne.symm h)]at this
   have hm:(S.regrow id (.row sz xs') (.cells C T)).m.getD j none=S.m.getD j none:=by
    simp[Mem.regrow,bB,cq (Ne.symm h)]
   rw[hm];exact(hS.obj j o ho).keep e λx hx=>iL _ _ _ (hS.lt x (jW hx).1)
end Abs
end Go.Proofs.YtmndpldajflenaaGreatDoor
