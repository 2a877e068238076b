/- CONTRACTS of the program's functions, and laws on what they return. No conditions but those in the theorems' heads. -/
import Derived.Test.YtmndpldajflenaaGreatDoorAbsRep
set_option linter.all false
namespace Go.Proofs.YtmndpldajflenaaGreatDoor
namespace Abs
def gO (M0:Nat->Prop) (S:Mem) (g:Nat->Value) (cs:List AV):Prop:=
 ∀(j:Nat) (c:AV),cs[j]?=some c->c.isCell=true/\bm M0 S (g j) c
theorem qp{M0}{S}{v}{c}(a:c.isCell=true)(h:bm M0 S v c):Rep M0 S v c:=by
 cases c with
 |agg cs=>simp[AV.isCell]at a
 |tuple cs=>simp[AV.isCell]at a
 |undef=>simp[AV.isCell]at a
 |_=>exact h
theorem nI{M0}{S}{v}{c}(h:cO M0 S v c):Rep M0 S v c:=by
 cases c with
 |tuple cs=>exact False.elim h
 |_=>exact h
theorem mP{M0}{S}{v}{c}(e:c.isCell=true)(h:bm M0 S v c):v.oneCell'=true:=by
 cases c with
 |p q=>
  have h':RepP (Avoid M0 S.m) S.w v q:=h
  cases h' with
  |agg=>simp[AV.isCell,PV.isCell]at e
  |tuple=>simp[AV.isCell,PV.isCell]at e
  |_=>rfl
 |ptr id j i o=>obtain⟨⟨a,rfl⟩,_⟩:=h;rfl
 |iptr it id=>obtain⟨⟨a,rfl⟩,_⟩:=h;rfl
 |arr id j i o n=>obtain⟨⟨a,c,rfl⟩,_⟩:=h;rfl
 |slice id j off len=>obtain⟨⟨a,_,_,rfl⟩,_⟩:=h;rfl
 |ref k id=>obtain⟨⟨a,rfl⟩,_⟩:=h;cases k<;>rfl
 |func fn f c=>obtain⟨F,C,rfl,_⟩:=h;rfl
 |agg cs=>simp[AV.isCell]at e
 |tuple cs=>simp[AV.isCell]at e
 |undef=>simp[AV.isCell]at e
theorem PO{α:Type}(C:Array α)(i)(d)(h):C.getD i d=C[i]:=by simp[Array.getD,h]
theorem getD_some{α:Type}{C:Array α}{i}{d x}(h:C[i]?=some x):C.getD i d=x:=by
 obtain⟨e,a⟩:=tQ.1 h;rw[PO _ _ _ e,a]
theorem iP{M0}{S}{v}{x}{cs}(h:Rep M0 S v x)(hx:x.cells=some cs) :
  v.cells.size=cs.length/\gO M0 S (λj=>v.cells.getD j undef) cs:=by
 have one:∀{c:AV},c.isCell=true->bm M0 S v c->v.cells=#[v]:=by
  intro c i e;have:=mP i e;cases v<;>first|rfl|simp[Value.oneCell']at this
 have single:∀{c:AV},c.isCell=true->bm M0 S v c->v.cells.size=[c].length/\gO M0 S (λj=>v.cells.getD j undef) [c]:=by
  intro c i e;rw[one i e];refine⟨rfl,λj d a=>?_⟩
  cases j with
  |zero=>simp at a;subst a;exact⟨i,e⟩
  |succ j=>simp at a
 cases x with
 |p q=>
  cases q with
  |agg l=>
   simp[AV.cells,PV.cells]at hx;subst hx;have h':RepP (Avoid M0 S.m) S.w v (.agg l):=h
   cases h' with
   |agg y u e=>
    refine⟨by simpa[Value.cells]using y,λj c a=>?_⟩;simp only[cW,bC]at a;obtain⟨q,o,rfl⟩:=a
    exact⟨u q (aG o),e j q o⟩
  |tuple l=>simp[AV.cells]at hx
  |_=>(simp[AV.cells,PV.cells]at hx;subst hx;exact single rfl h)
 |agg l=>
  simp[AV.cells]at hx;subst hx;obtain⟨C,rfl,D,A,z⟩:=h
  exact⟨A,λj c a=>⟨D c (aG a),z j c a⟩⟩
 |tuple l=>simp[AV.cells]at hx
 |undef=>simp[AV.cells]at hx
 |_=>(simp[AV.cells]at hx;subst hx;exact single rfl h)
theorem iQ:∀{cs} {l},gp cs=some l->cs=l.map .p
 |[],l,h=>by simp[gp]at h;subst h;rfl
 |c::r,l,h=>by
  cases c with
  |p v=>
   simp only[gp]at h;split at h
   .rename_i e a;cases h;rw[iQ a];rfl
   .cases h
  |_=>simp[gp]at h
theorem uD{M0}{S}{C}{cs}(e:C.size=cs.length)(h:gO M0 S (λj=>C.getD j undef) cs):cO M0 S (.agg C) (pJ cs):=by
 unfold pJ
 cases o:gp cs with
 |some l=>
  have:=iQ o;subst this;refine .agg (by simpa using e) (λc a=>?_) (λi c hi=>?_)
  .obtain⟨i,hi⟩:=eF a;exact(h i (.p c) (by simp[hi])).1
  .exact(h i (.p c) (by simp[hi])).2
 |none=>exact⟨C,rfl,λc a=>(let ⟨i,hi⟩:=eF a;(h i c hi).1),e,λi c hi=>(h i c hi).2⟩
theorem F0{M0}{S}{C}{cs}(h:dz (cO M0 S) C cs):Rep M0 S (.tuple C) (pX cs):=by
 unfold pX
 cases a:gp cs with
 |some l=>
  have:=iQ a;subst this
  exact .tuple (by simpa using h.1) (λi c hi=>h.2 i (.p c) (by simp[hi]))
 |none=>exact⟨C,rfl,h⟩
theorem aC{M0}{S}{v}{q}(h:RepP (Avoid M0 S.m) S.w v q):Rep M0 S v (.p q):=h
variable {P:Program}
theorem jN{T}{g}(h:bn P T=some g)(w):(isAgg T).run P w=.ok g w:=by
 unfold bn at h;unfold isAgg
 cases a:P.underlying T with
 |none=>simp[a]at h
 |some d=>
  rw[Sem.run_bind,run_underlying a w];cases d<;>simp[a]at h<;>subst h<;>rfl
theorem be{T}{n}(h:bL P T=some n)(w):(sizeOf T).run P w=.ok n w:=by
 unfold bL at h
 cases hi:P.info? T with
 |none=>simp[hi]at h
 |some i=>simp[hi]at h;subst h;simp[sizeOf,typeInfo,hi]
theorem sW{T}{n}(h:np P T=some n)(w):∃i,(typeInfo T).run P w=.ok i w/\i.bytes=n:=by
 unfold np at h
 cases hi:P.info? T with
 |none=>simp[hi]at h
 |some i=>simp[hi]at h;exact⟨i,by simp[typeInfo,hi],h⟩
theorem ei(b o n):(⟨b,o,none⟩:Addr).add n=⟨b,o+n,none⟩:=by
 unfold Addr.add;split
 .rename_i h;subst h;rfl
 .rfl
theorem Ds{T}{g}{n}(i:bn P T=some g)(a:bL P T=some n)(w)(b at_)(f)
  (l:g=true->∀j,j<n->w.cell? ⟨b,at_+j,none⟩=some (f j)) (o:g=false->w.cell? ⟨b,at_,none⟩=some (f 0)) :
  (loadVar T ⟨b,at_,none⟩).run P w=.ok (if g then .agg ((List.range n).map f).toArray else f 0) w:=by
 unfold loadVar;rw[Sem.run_bind,jN i w]
 cases g with
 |true=>
  have:=run_loadCells (P:=P) w ⟨b,at_,none⟩ n f (λj e=>by rw[ei];exact l rfl j e)
  simp[Sem.run_bind,be a w,this]
 |false=>simp[o rfl]
theorem hH(f)(n j)(h:j<n):(((List.range n).map f).toArray).getD j undef=f j:=by
 simp[h]
theorem EH{M0}{S}{g}{cs}(h:gO M0 S g cs)(o n):gO M0 S (λj=>g (o+j)) (sub o n cs):=by
 intro j c a;unfold sub at a;rw[kB]at a;split at a
 .rw[qc]at a;exact h (o+j) c a
 .cases a
theorem u0{v:AV}{cs}(h:v.cells=some cs):(∃l,v=.p (.agg l))\/(∃l,v=.agg l)\/v.isCell=true/\cs=[v]:=by
 cases v with
 |p q=>
  cases q with
  |agg l=>exact .inl ⟨l,rfl⟩
  |tuple l=>simp[AV.cells]at h
  |_=>(simp[AV.cells,PV.cells]at h;subst h;exact .inr (.inr ⟨rfl,rfl⟩))
 |agg l=>exact .inr (.inl ⟨l,rfl⟩)
 |tuple l=>simp[AV.cells]at h
 |undef=>simp[AV.cells]at h
 |_=>(simp[AV.cells]at h;subst h;exact .inr (.inr ⟨rfl,rfl⟩))
theorem DI{M0}{S}{g}{x y:AV}{cs}{A}{n o}(hx:x.cells=some cs)(h:gO M0 S g cs)(a:x.part A n o=some y) :
  (∀j,j<n->A=true->o+j<cs.length)/\(A=false->o<cs.length)/\Rep M0 S (if A then .agg ((List.range n).map λj=>g (o+j)).toArray else g o) y:=by
 unfold AV.part at a;rw[hx]at a
 cases A with
 |false=>
  simp only[eG,↓reduceIte]at a;obtain⟨G,F⟩:=h o y a
  exact⟨λ_ _ e=>by simp at e,λ_=>(aB.1 a).1,qp G F⟩
 |true=>
  simp only[↓reduceIte]at a |-;refine⟨?_,λe=>by simp at e,?_⟩
  .intro j C _;split at a
   .rename_i z;omega
   .split at a
    .rename_i z;omega
    .cases a
  .split at a
   .rename_i z;obtain⟨E,rfl⟩:=z;subst E;simp only[gV];rcases u0 hx with⟨l,rfl⟩|⟨l,rfl⟩|⟨v,_⟩
    .cases a;simp[AV.cells,PV.cells]at hx;subst hx;refine aC (.agg (by simp) (λc z=>?_) (λi c hi=>?_))
     .obtain⟨i,hi⟩:=eF z;exact(h i (.p c) (by simp[hi])).1
     .have u:=(aB.1 hi).1;rw[hH _ _ _ (by simpa using u)];exact(h i (.p c) (by simp[hi])).2
    .cases a;simp[AV.cells]at hx;subst hx;refine⟨_,rfl,λc z=>(let ⟨i,hi⟩:=eF z;(h i c hi).1),by simp,λi c hi=>?_⟩;have u:=(aB.1 hi).1;rw[hH _ _ _ u];exact(h i c hi).2
    .cases x with
     |p q=>cases q<;>first|(simp at a;done)|(simp[AV.isCell,PV.isCell]at v;done)
     |agg l=>simp[AV.isCell]at v
     |_=>simp at a
   .split at a
    .rename_i I;cases a;refine nI (uD (by simp[sub];omega) λj c C=>?_);have u:=(aB.1 C).1;have D:j<n:=by simp[sub]at u;omega
     show c.isCell=true/\bm M0 S (((List.range n).map λj=>g (o+j)).toArray.getD j undef) c;rw[hH _ _ _ D];exact EH h o n j c C
    .cases a
theorem s5{m}{b x}:Own (m++[some x]) b↔Own m b\/b=x:=by
 simp[Own]
theorem fQ(w:World)(o)(b)(h:b<w.heap.size):(w.alloc o).heap[b]?=w.heap[b]?:=by
 show (w.heap.push o)[b]?=_;rw[Rt,if_neg (by omega)]
theorem bw(w:World)(o):(w.alloc o).heap[w.heap.size]?=some o:=by
 show (w.heap.push o)[w.heap.size]?=some o;simp
theorem FI(w:World)(o)(b)(h:b<w.heap.size):(w.alloc o).shape? b=w.shape? b:=by
 unfold World.shape?;rw[fQ w o b h]
theorem Fr.alloc(m)(w)(o):Fr m w (w.alloc o):=
 ⟨rfl,rfl,rfl,by simp,λb a _=>fQ w o b a,λb a=>FI w o b a⟩
theorem Fr.drew(m)(w):Fr m w w.drew:=⟨rfl,rfl,rfl,ba _,λ_ _ _=>rfl,λ_ _=>rfl⟩
theorem Fr.trans{m m'}{a b c}(h:Fr m a b)(k:Fr m' b c)(i:∀x,x<a.heap.size->Own m' x->Own m x):Fr m a c:=
 ⟨k.os.trans h.os,k.tape.trans h.tape,k.output.trans h.output,iI h.size k.size,
  λx hx e=>(k.block x (gk hx h.size) (λj=>e (i x hx j))).trans (h.block x hx e),
  λx hx=>(k.shape x (gk hx h.size)).trans (h.shape x hx)⟩
theorem ObjOk.keep{M0}{S F}(e:Ev S.h.length S F){μ}{o}(h:ObjOk P M0 S μ o)
  (y:∀b,μ=some b->F.w.heap[b]?=S.w.heap[b]?):ObjOk P M0 F μ o:=by
 cases o with
 |row sz xs=>
  rcases h with h|⟨b,T,C,l,q,u,D⟩
  .exact .inl h
  .refine .inr ⟨b,T,C,l,(y b l).trans q,u,λi x hx=>?_⟩;obtain⟨cs,A,E,J⟩:=D i x hx
   exact⟨cs,A,E,λj c G=>⟨(J j c G).1,e.keepS (J j c G).2⟩⟩
 |strIter s p=>
  obtain⟨b,l,q⟩:=h
  exact⟨b,l,(y b l).trans q⟩
 |mp es=>
  obtain⟨b,C,z,l,q,u⟩:=h
  exact⟨b,C,z,l,(y b l).trans q,u.mono λv a=>e.keepS⟩
 |memo f=>
  obtain⟨L,es,M,b,C,z,l,q,u⟩:=h
  exact⟨L,es,M,b,C,z,l,(y b l).trans q,u.mono λv a=>e.keepS⟩
 |loop n tmps ps assign body O pend=>
  obtain⟨b,r,l,q,u,D,A⟩:=h
  exact⟨b,r,l,(y b l).trans q,u,λt=>e.keep (D t),A⟩
 |dblock=>
  obtain⟨b,l,q⟩:=h
  exact⟨b,l,(y b l).trans q⟩
 |bld T R x=>
  obtain⟨b,p,v,l,q,u,D,A,E⟩:=h
  exact⟨b,p,v,l,(y b l).trans q,u,D,e.rep0 A (fb A),λa n c K=>let ⟨N,I⟩:=E a n c K;⟨N,(e.fr.shape _ (ql I)).trans I⟩⟩
 |dead=>exact trivial
def Mem.new (S:Mem) (o:AObj) (ob:Obj):Mem:=⟨S.m++[some S.w.heap.size],S.h++[o],S.w.alloc ob⟩
theorem Ev.new(base:Nat)(M0:Nat->Prop){S:Mem}(i:HOk P M0 S)(l:base<=S.h.length)(o:AObj)(ob:Obj):Ev base S (S.new o ob) where
 fr:=Fr.alloc _ _ _
 sub:=λb h=>by
  rcases s5.1 h with h|rfl
  .exact .inl h
  .exact .inr (ba _)
 obj:=λid a j e=>by
  refine⟨a,?_,?_⟩
  .show (S.h++[o])[id]?=_;rw[bp (by omega)];exact e
  .have:(S.new o ob).m.getD id none=S.m.getD id none:=by
    show (S.m++[some S.w.heap.size]).getD id none=_;have:=i.len;simp[bp (show id<S.m.length by omega)]
   rw[this];exact ObjEv.refl _ _
theorem HOk.new{M0:Nat->Prop}{S:Mem}(q:HOk P M0 S){o:AObj}{ob:Obj}(L:ObjOk P M0 (S.new o ob) (some S.w.heap.size) o):HOk P M0 (S.new o ob) where
 len:=by simp[Mem.new,q.len]
 lt:=λb h=>by
  have:(S.new o ob).w.heap.size=S.w.heap.size+1:=by simp[Mem.new]
  rcases s5.1 h with h|rfl
  .have:=q.lt b h;omega
  .omega
 m0:=λb h=>by
  obtain⟨E,D⟩:=q.m0 b h;refine⟨by simp[Mem.new];omega,λA=>?_⟩;rcases s5.1 A with A|rfl
  .exact D A
  .omega
 inj:=λi j b hi N=>by
  have u:=q.len;have v:∀k,(S.new o ob).m[k]?=some (some b)->(S.m[k]?=some (some b)/\b<S.w.heap.size)\/(k=S.m.length/\b=S.w.heap.size):=by
   intro k M;have l:(S.m++[some S.w.heap.size])[k]?=some (some b):=M;rcases cx k S.m.length with h|h
   .rw[bp h]at l;exact .inl ⟨l,q.lt b (aG l)⟩
   .rw[cG h]at l;have F:k-S.m.length=0:=by
     have:=(aB.1 l).1;simp at this;omega
    rw[F]at l;simp at l;exact .inr ⟨by omega,l.symm⟩
  rcases v i hi with⟨E,D⟩|⟨E,D⟩<;>rcases v j N with⟨K,O⟩|⟨K,O⟩
  .exact q.inj i j b E K
  .omega
  .omega
  .omega
 obj:=λid I G=>by
  have u:=q.len;have a:(S.h++[o])[id]?=some I:=G;rcases cx id S.h.length with h|h
  .rw[bp h]at a;have e:=Ev.new S.h.length M0 q (ba _) o ob;have C:(S.new o ob).m.getD id none=S.m.getD id none:=by
    show (S.m++[some S.w.heap.size]).getD id none=_;simp[bp (show id<S.m.length by omega)]
   rw[C];refine(q.obj id I a).keep e λb y=>fQ _ _ _ ?_;refine q.lt b ?_;have:S.m[id]?=some (some b):=by
    rw[cr]at y
    cases J:S.m[id]? with
    |none=>simp[J]at y
    |some z=>simp[J]at y;rw[y]
   exact aG this
  .have F:id=S.h.length:=by
    have:=(aB.1 a).1;simp at this;omega
   subst F;rw[cG (ba _)]at a;simp at a;subst a;have C:(S.new o ob).m.getD S.h.length none=some S.w.heap.size:=by
    show (S.m++[some S.w.heap.size]).getD S.h.length none=_;rw[<-u];simp
   rw[C];exact L
 gl:=(Ev.new 0 M0 q (de _) o ob).glob q.gl
def Mem.drew (S:Mem):Mem:=⟨S.m,S.h,S.w.drew⟩
theorem Ev.drew(base)(S):Ev base S S.drew:=⟨Fr.drew _ _,λ_ h=>.inl h,λ_ o _ h=>⟨o,h,ObjEv.refl _ _⟩⟩
theorem HOk.drew{M0}{S}(a:HOk P M0 S):HOk P M0 S.drew:=
 ⟨a.len,a.lt,a.m0,a.inj,λid o h=>(a.obj id o h).keep (Ev.drew _ S) λ_ _=>rfl,(Ev.drew 0 S).glob a.gl⟩
end Abs
end Go.Proofs.YtmndpldajflenaaGreatDoor
namespace Go.Proofs.YtmndpldajflenaaGreatDoor
namespace Abs
variable {P:Program}
theorem FK(w:World)(b)(C)(T)(fr)(i:w.heap[b]?=some (.cells C T fr)):w.setRow b C=w:=by
 have e:w.heap[b]'((tQ.1 i).1)=.cells C T fr:=(tQ.1 i).2;unfold World.setRow
 cases w with
 |mk j tape a os output=>
  congr 1
  apply qg
  .simp
  .intro k q o;simp only[Array.getElem_modify];split
   .rename_i l;subst l;simp at e;simp[e]
   .rfl
def jH (C:Array Value) (o:Nat):List Value->Array Value
 |[]=>C
 |v::r=>jH (C.setIfInBounds o v) (o+1) r
theorem ic:∀(a) (C) (o),(jH C o a).size=C.size
 |[],_,_=>rfl
 |v::r,C,o=>by rw[jH,ic r];simp
theorem ip:∀(a) (C) (o k),o+a.length<=C.size ->
  (jH C o a).getD k undef=if o<=k/\k<o+a.length then a.getD (k-o) undef else C.getD k undef
 |[],C,o,k,_=>by
  have:¬(o<=k/\k<o+([]:List Value).length):=by simp
  rw[if_neg this,jH]
 |v::r,C,o,k,h=>by
  have h':o+(r.length+1)<=C.size:=by simpa using h
  rw[jH,ip r (C.setIfInBounds o v) (o+1) k (by simp;omega)];by_cases i:o+1<=k/\k<o+1+r.length
  .rw[if_pos i,if_pos (by simp;omega),show k-o=(k-(o+1))+1 by omega];simp
  .rw[if_neg i];by_cases e:k=o
   .subst e;rw[if_pos (by simp)];simp[show k<C.size by omega]
   .rw[if_neg (by simp;omega)];simp[Ne.symm e]
theorem iO(b)(T):∀(l) (off i) (C) (w),w.heap[b]?=some (.cells C T (0,0))->off+i+l.length<=C.size ->
  (∀v∈l,v.oneCell'=true)->(storeCells ⟨b,off,none⟩ l i).run P w=.ok () (w.setRow b (jH C (off+i) l))
 |[],off,i,C,w,e,_,_=>by
  rw[jH,FK w b C T _ e]
  rfl
 |v::r,off,i,C,w,e,y,q=>by
  have z:off+i+(r.length+1)<=C.size:=by simpa using y
  have a:w.cell? ⟨b,off+i,none⟩=some C[off+i]:=by simp[World.cell?,e,show off+i<C.size by omega]
  have j:w.frozen? ⟨b,off+i,none⟩=false:=by simp[World.frozen?,e]
  have o:(store ((⟨b,off,none⟩:Addr).add i) v).run P w=.ok () (w.setRow b (C.setIfInBounds (off+i) v)):=by
   rw[ei,run_store P w _ v _ (q v (by simp)),a];simp[j,setCell_eq_setRow w b (off+i) C T (0,0) v e]
  have u:=iO b T r off (i+1) (C.setIfInBounds (off+i) v) (w.setRow b (C.setIfInBounds (off+i) v)) (setRow_heap w b C _ T _ e) (by simp;omega) (λx hx=>q x (by simp[hx]));simp only[storeCells,Sem.run_bind,o,aS,u,setRow_setRow,jH,gW]
def Mem.set (S:Mem) (id:Nat) (o:AObj) (b:Nat) (C:Array Value):Mem:=⟨S.m,S.h.set id o,S.w.setRow b C⟩
theorem lL{m}{id b}(h:m.getD id none=some b):Own m b/\m[id]?=some (some b):=by
 rw[cr]at h
 cases a:m[id]? with
 |none=>simp[a]at h
 |some z=>simp[a]at h;subst h;exact⟨aG a,rfl⟩
theorem qk(w:World)(b)(C a)(T)(fr)(e:w.heap[b]?=some (.cells C T fr))(i:a.size=C.size)(x) :
  (w.setRow b a).shape? x=w.shape? x:=by
 unfold World.shape?;by_cases h:x=b
 .subst h;rw[setRow_heap w x C a T fr e,e];simp[i]
 .rw[setRow_other w b x a h]
theorem Ev.set(base:Nat){S:Mem}{id sz b:Nat}{xs xs':List AV}{C l:Array Value}{T:TypeId}(a:S.h[id]?=some (.row sz xs))(v:S.m.getD id none=some b)
  (y:S.w.heap[b]?=some (.cells C T (0,0))) (z:l.size=C.size) (q:xs.length<=xs'.length):Ev base S (S.set id (.row sz xs') b l) where
 fr:=⟨rfl,rfl,rfl,by simp[Mem.set],
  λx _ u=>setRow_other _ _ _ _ (λe=>u (e▸(lL v).1)),
  λx _=>qk _ _ _ _ _ _ y z x⟩
 sub:=λ_ h=>.inl h
 obj:=λj o A i=>by
  by_cases h:j=id
  .subst h;have:o=.row sz xs:=by rw[a]at i;exact(lS i).symm
   subst this;refine⟨.row sz xs',by simp[Mem.set,(aB.1 a).1],.inr (.inl ⟨sz,xs,xs',rfl,rfl,?_⟩)⟩;rcases cx xs.length xs'.length with h'|h'
   .exact .inr h'
   .exact .inl ⟨by omega,rfl⟩
  .exact⟨o,by simp[Mem.set,db (Ne.symm h),i],ObjEv.refl _ _⟩
def dA (M0:Nat->Prop) (S:Mem) (sz:Nat) (C:Array Value) (xs:List AV):Prop:=
 ∀(i:Nat) (x:AV),xs[i]?=some x->∃cs,x.cells=some cs/\cs.length=sz/\∀(j:Nat) (c:AV),cs[j]?=some c->c.isCell=true/\bm M0 S (C.getD (i*sz+j) undef) c
theorem dA.keep{M0}{S o}(e:Ev S.h.length S o){sz}{C}{xs}(h:dA M0 S sz C xs):dA M0 o sz C xs:=
 λi x hx=>let ⟨cs,u,q,l⟩:=h i x hx;⟨cs,u,q,λj c a=>⟨(l j c a).1,e.keepS (l j c a).2⟩⟩
theorem HOk.set{M0}{S}(a:HOk P M0 S){id sz b}{xs xs'}{C l}{T}(q:S.h[id]?=some (.row sz xs))(v:S.m.getD id none=some b)
  (D:S.w.heap[b]?=some (.cells C T (0,0))) (F:l.size=C.size) (u:xs.length<=xs'.length) (i:xs'.length*sz<=l.size) (z:dA M0 S sz l xs') :
  HOk P M0 (S.set id (.row sz xs') b l):=by
 have e:=Ev.set S.h.length q v D F u;refine⟨by simp[Mem.set,a.len],λx hx=>?_,λx hx=>?_,a.inj,λj o A=>?_,e.glob a.gl⟩
 .have:=a.lt x hx;simpa[Mem.set]using this
 .obtain⟨I,G⟩:=a.m0 x hx;exact⟨by simpa[Mem.set]using I,G⟩
 .by_cases h:j=id
  .subst h;have:o=.row sz xs':=by
    have:(S.h.set j (.row sz xs'))[j]?=some o:=A;simp[(aB.1 q).1]at this;exact this.symm
   subst this;refine .inr ⟨b,T,l,v,setRow_heap _ _ _ _ _ _ D,i,z.keep e⟩
  .have E:S.h[j]?=some o:=by
    have:(S.h.set id (.row sz xs'))[j]?=some o:=A;rwa [db (Ne.symm h)]at this
   refine(a.obj j o E).keep e λx hx=>setRow_other _ _ _ _ λy=>h ?_;subst y;exact a.inj j id x (lL hx).2 (lL v).2
def Mem.regrow (S:Mem) (id:Nat) (o:AObj) (ob:Obj):Mem:=⟨S.m.set id (some S.w.heap.size),S.h.set id o,S.w.alloc ob⟩
theorem Af{m}{id x b}(h:Own (m.set id (some x)) b):Own m b\/b=x:=by
 unfold Own at h |-;rcases H' h with h|h
 .exact .inl h
 .exact .inr (by simpa using h)
theorem Ev.regrow(base:Nat){S:Mem}{id sz:Nat}{xs xs':List AV}{ob:Obj}(a:S.h[id]?=some (.row sz xs))(e:xs.length<xs'.length) :
  Ev base S (S.regrow id (.row sz xs') ob) where
 fr:=Fr.alloc _ _ _
 sub:=λb h=>by
  rcases Af h with h|rfl
  .exact .inl h
  .exact .inr (ba _)
 obj:=λj o l i=>by
  by_cases h:j=id
  .subst h;have:o=.row sz xs:=by rw[a]at i;exact(lS i).symm
   subst this;exact⟨.row sz xs',by simp[Mem.regrow,(aB.1 a).1],.inr (.inl ⟨sz,xs,xs',rfl,rfl,.inr e⟩)⟩
  .refine⟨o,by simp[Mem.regrow,db (Ne.symm h),i],?_⟩;have:(S.regrow id (.row sz xs') ob).m.getD j none=S.m.getD j none:=by
    simp[Mem.regrow,cr,db (Ne.symm h)]
   rw[this];exact ObjEv.refl _ _
theorem HOk.regrow{M0}{S}(a:HOk P M0 S){id sz}{xs xs'}{C}{T}(y:S.h[id]?=some (.row sz xs))
  (z:xs.length<xs'.length) (l:xs'.length*sz<=C.size) (E:dA M0 S sz C xs'):HOk P M0 (S.regrow id (.row sz xs') (.cells C T)):=by
 have e:=Ev.regrow S.h.length (ob:=.cells C T) y z;have q:=(aB.1 y).1;have M:=a.len;refine⟨by simp[Mem.regrow,a.len],λx hx=>?_,λx hx=>?_,λi j x hi A=>?_,λj o A=>?_,e.glob a.gl⟩
 .rcases Af hx with h|rfl
  .have:=a.lt x h;simp[Mem.regrow];omega
  .simp[Mem.regrow]
 .obtain⟨G,D⟩:=a.m0 x hx;refine⟨by simp[Mem.regrow];omega,λJ=>?_⟩;rcases Af J with h|rfl
  .exact D h
  .omega
 .have v:∀k:Nat,(S.m.set id (some S.w.heap.size))[k]?=some (some x)->(k≠id/\S.m[k]?=some (some x)/\x<S.w.heap.size)\/(k=id/\x=S.w.heap.size):=by
   intro k u;by_cases h:k=id
   .subst h;rw[fZ (by omega)]at u;exact .inr ⟨rfl,by simpa using u.symm⟩
   .rw[db (Ne.symm h)]at u;exact .inl ⟨h,u,a.lt x (aG u)⟩
  rcases v i hi with⟨G,D,O⟩|⟨G,D⟩<;>rcases v j A with⟨L,F,N⟩|⟨L,F⟩
  .exact a.inj i j x D F
  .omega
  .omega
  .omega
 .by_cases h:j=id
  .subst h;have:o=.row sz xs':=by
    have:(S.h.set j (.row sz xs'))[j]?=some o:=A;simp[q]at this;exact this.symm
   subst this;refine .inr ⟨S.w.heap.size,T,C,?_,bw _ _,l,E.keep e⟩;simp[Mem.regrow,cr,fZ (show j<S.m.length by omega)]
  .have I:S.h[j]?=some o:=by
    have:(S.h.set id (.row sz xs'))[j]?=some o:=A;rwa [db (Ne.symm h)]at this
   have K:(S.regrow id (.row sz xs') (.cells C T)).m.getD j none=S.m.getD j none:=by
    simp[Mem.regrow,cr,db (Ne.symm h)]
   rw[K];exact(a.obj j o I).keep e λx hx=>fQ _ _ _ (a.lt x (lL hx).1)
end Abs
end Go.Proofs.YtmndpldajflenaaGreatDoor
namespace Go.Proofs.YtmndpldajflenaaGreatDoor
namespace Abs
variable {P:Program} {M0:Nat->Prop} {S:Mem}
def aF (P:Program) (M0:Nat->Prop) (S:Mem) (s:Sem Value):OR->Prop
 |.val v h=>∃(S':Mem) (v':Value),S'.h=h/\s.run P S.w=.ok v' S'.w/\Ev S.h.length S S'/\HOk P M0 S'/\Rep M0 S' v' v
 |.stuck=>True
 |_=>False
def zF (P:Program) (M0:Nat->Prop) (S:Mem) (s:Sem Unit):OR->Prop
 |.skip h=>∃S':Mem,S'.h=h/\s.run P S.w=.ok () S'.w/\Ev S.h.length S S'/\HOk P M0 S'
 |.stuck=>True
 |_=>False
theorem aF.pure(e:HOk P M0 S){s}{v}{v'}(a:s.run P S.w=.ok v' S.w)(h:Rep M0 S v' v):aF P M0 S s (.val v S.h):=
 ⟨S,v',rfl,a,Ev.refl _ _,e,h⟩
theorem aF.opt(a:HOk P M0 S){s}{v}(h:∀x,v=some x->∃v',s.run P S.w=.ok v' S.w/\Rep M0 S v' x):aF P M0 S s (ii S.h v):=by
 cases v with
 |none=>exact trivial
 |some x=>obtain⟨v',i,e⟩:=h x rfl;exact aF.pure a i e
theorem cm{id a sz}{xs}{X}(h:cC S id a X)(e:S.h[id]?=some (.row sz xs))(i:xs.length=a):X sz (S.m.getD id none):=by
 rcases h with h|⟨j,xs',h,_,hx⟩
 .rw[e]at h;cases h
 .rw[e]at h;cases h;exact hx i
theorem fj(i:HOk P M0 S){id sz b}{xs}(a:S.h[id]?=some (.row sz xs))(e:S.m.getD id none=some b) :
  ∃C T,S.w.heap[b]?=some (.cells C T (0,0))/\xs.length*sz<=C.size/\dA M0 S sz C xs:=by
 have:=i.obj id _ a;rw[e]at this;rcases this with⟨h,_⟩|⟨b',T,C,q,o,l,j⟩
 .cases h
 .cases q;exact⟨C,T,o,l,j⟩
theorem i6{w:World}{b}{C}{T}{fr}(h:w.heap[b]?=some (.cells C T fr))(k)(a:k<C.size):w.cell? ⟨b,k,none⟩=some (C.getD k undef):=by
 simp[World.cell?,h,a]
theorem im{i n sz j:Nat}(hi:i<n)(e:j<sz):i*sz+j<n*sz:=by
 have a:(i+1)*sz<=n*sz:=fU sz hi;rw[dK,sF]at a;omega
theorem w9{x}{sz}(h:x.cells.length=sz/\∀c,c∈x.cells->c.isCell=true):(AV.p x).cells=some (x.cells.map .p):=by
 cases x with
 |tuple l=>have:=h.2 (.tuple l) (by simp[PV.cells]);simp[PV.isCell]at this
 |_=>rfl
theorem sV(a){T}{x y}{cs}{o b at_}(hx:x.cells=some cs)(l:gO M0 S a cs)
  (i:∀j,o+j<cs.length->S.w.cell? ⟨b,at_+j,none⟩=some (a (o+j))) (q:ku P T x o=some y) :
  ∃v',(loadVar T ⟨b,at_,none⟩).run P S.w=.ok v' S.w/\Rep M0 S v' y:=by
 unfold ku at q;split at q
 .rename_i E n u v;obtain⟨D,C,A⟩:=DI hx l q;exact⟨_,Ds u v S.w b at_ (λj=>a (o+j)) (λe j z=>i j (D j z e)) (λe=>by simpa using i 0 (C e)),by simpa using A⟩
 .cases q
theorem PF(F:HOk P M0 S){T}{x}{v}(hx:Rep M0 S v x):aF P M0 S (Instr.loadAt T v) (nx P T x S.h):=by
 unfold nx;split
 .rename_i sz xs i o;split
  .rename_i y l;have h:RepP (Avoid M0 S.m) S.w v (.ptr sz xs i o):=hx
   cases h with
   |ptr f L J hM V R=>
    rename_i b off at_;refine aF.opt F λz E=>?_;have hi:=(aB.1 l).1;have a:=J y (aG l);have A:gO M0 S (λj=>f (i*sz+j)) (y.cells.map .p):=by
     intro j c D;simp only[cW,bC]at D;obtain⟨q,M,rfl⟩:=D;exact⟨a.2 q (aG M),R i j y q l M⟩
    have N:(y.cells.map AV.p).length=sz:=by simpa using a.1
    obtain⟨v',I,G⟩:=sV (P:=P) (λj=>f (i*sz+j)) (b:=b) (at_:=at_) (w9 a) A (λj D=>by
     rw[<-V (i*sz+(o+j)) (im hi (by omega)),L]
     simp only[gW]) E
    exact⟨v',by simpa[Instr.loadAt,Instr.sureAddr]using I,G⟩
  .exact trivial
 .rename_i id a0 i o;split
  .rename_i sz xs u;split
   .rename_i O;split
    .rename_i y l;refine aF.opt F λz E=>?_;obtain⟨b,U,rfl⟩:=cm hx.2 u O;obtain⟨C,T',X,e,K⟩:=fj F u U;obtain⟨cs,Z,h6,Y⟩:=K i y l;have hi:=(aB.1 l).1;obtain⟨v',I,G⟩:=sV (P:=P) (λj=>C.getD (i*sz+j) undef) (b:=b) (at_:=i*sz+o) Z Y (λj D=>by
      rw[gW]
      exact i6 X _ (gk (im hi (by omega)) e)) E
     exact⟨v',by simpa[Instr.loadAt,Instr.sureAddr]using I,G⟩
    .exact trivial
   .exact trivial
  .exact trivial
 .exact trivial
theorem Gd(cs):(pJ cs).cells=some cs:=by
 unfold pJ
 cases a:gp cs with
 |some l=>rw[iQ a];rfl
 |none=>rfl
theorem qr{α}(cs new:List α)(o j)(h:o+new.length<=cs.length) :
  (jP cs o new)[j]?=if o<=j/\j<o+new.length then new[j-o]? else cs[j]?:=by
 unfold jP;have e:(cs.take o).length=o:=by simp;omega
 by_cases a:j<o
 .rw[if_neg (by omega),dJ,bp (by omega),kB,if_pos a]
 .by_cases b:j<o+new.length
  .rw[if_pos ⟨by omega,b⟩,bp (by simp;omega),cG (by omega),e]
  .rw[if_neg (by omega),cG (by simp;omega),qc]
   congr 1
   simp[e];omega
theorem mN{α}(cs new:List α)(o)(h:o+new.length<=cs.length):(jP cs o new).length=cs.length:=by
 unfold jP;simp;omega
theorem gm(C:Array Value)(j):C.toList.getD j undef=C.getD j undef:=by
 simp[cr]
theorem MA(Z:HOk P M0 S){T}{x y}{v u}(hx:Rep M0 S v x)(hy:Rep M0 S u y):zF P M0 S (Instr.storeAt T v u) (gC P T x y S.h):=by
 unfold gC;split
 .rename_i id a1 i o n hn;split
  .rename_i sz xs D;split
   .rename_i hv;split
    .rename_i e Y;split
     .rename_i e' a;obtain⟨b,O,rfl⟩:=cm hx.2 D hv;obtain⟨C,T',R,X,L⟩:=fj Z D O;obtain⟨cs,h5,h6,h7⟩:=L i e Y;have hi:=(aB.1 Y).1;unfold AV.withCells at a;rw[h5]at a
      cases A:y.cells with
      |none=>simp[A]at a
      |some new=>
       simp only[A]at a;split at a
       .rename_i a0;obtain⟨a3,I⟩:=iP hy A;have a4:o+n<=sz:=by
         split at a
         .rename_i q;omega
         .split at a
          .rename_i q;omega
          .cases a
        have M:e'.cells=some (jP cs o new)/\(jP cs o new).length=sz:=by
         split at a
         .rename_i q;cases a;obtain⟨a7,rfl⟩:=q;refine⟨?_,by rw[mN _ _ _ (by omega)];omega⟩;rw[A]
          congr 1
          apply mD;intro j;rw[qr _ _ _ _ (by omega)];by_cases G:j<new.length
          .rw[if_pos ⟨by omega,by omega⟩];simp
          .rw[if_neg (by omega),lC (by omega),lC (by omega)]
         .split at a
          .cases a;exact⟨Gd _,by rw[mN _ _ _ (by omega)];omega⟩
          .cases a
        have a2:u.cells.toList.length=n:=by simp;omega
        have a6:i*sz+sz<=xs.length*sz:=by
         have:(i+1)*sz<=xs.length*sz:=fU sz hi;rwa [dK,sF]at this
        have l:i*sz+o+u.cells.toList.length<=C.size:=by omega
        have N:∀z∈u.cells.toList,z.oneCell'=true:=by
         intro z hz;obtain⟨j,G⟩:=eF hz;have K:=(aB.1 G).1;have U:j<new.length:=by omega
         obtain⟨h8,h9⟩:=I j new[j] (by simp[U]);have:u.cells.getD j undef=z:=by rw[<-gm,cr,G];rfl
         simp only[this]at h9;exact mP h8 h9
        have E:=iO (P:=P) b T' u.cells.toList (i*sz+o) 0 C S.w R (by omega) N;simp only[jK]at E;refine⟨S.set id (.row sz (xs.set i e')) b (jH C (i*sz+o) u.cells.toList),rfl,?_,Ev.set _ D O R (ic _ _ _) (by simp),HOk.set Z D O R (ic _ _ _) (by simp) (by simp[ic];omega) ?_⟩
        .unfold Instr.storeAt storeVar;simp only[Instr.sureAddr,Sem.run_bind,Sem.run_pure,aS,be hn];rw[if_neg (by omega)];simpa[Mem.set]using E
        .intro k z F;by_cases J:k=i
         .subst J;rw[fZ hi]at F;cases F;refine⟨_,M.1,M.2,λj c q=>?_⟩;have K:=(aB.1 q).1;rw[qr _ _ _ _ (by omega)]at q;rw[ip _ _ _ _ l];split at q
          .rename_i G;rw[if_pos (by omega)];have:=I (j-o) c q;rw[show k*sz+j-(k*sz+o)=j-o by omega,gm];exact this
          .rename_i G;rw[if_neg (by omega)];exact h7 j c q
         .rw[db (Ne.symm J)]at F;obtain⟨V,g1,g2,g3⟩:=L k z F;refine⟨V,g1,g2,λj c q=>?_⟩;have K:=(aB.1 q).1;have a5:=(aB.1 F).1;rw[ip _ _ _ _ l,if_neg ?_]
          .exact g3 j c q
          .intro hh;rcases cx k i with h'|h'
           .have:(k+1)*sz<=i*sz:=fU sz h';rw[dK,sF]at this;omega
           .have:(i+1)*sz<=k*sz:=fU sz (by omega);rw[dK,sF]at this;omega
       .cases a
     .exact trivial
    .exact trivial
   .exact trivial
  .exact trivial
 .exact trivial
theorem wz{T}{f off}{t}(h:qF P T f=some (off,t)) :
  ∃e a,P.underlying T=some (.struct e)/\e[f]?=some a/\a.offset=off/\a.type=t:=by
 unfold qF at h;split at h
 .rename_i e i;simp only[bC,xN]at h;obtain⟨a,o,l,j⟩:=h;exact⟨e,a,i,o,l,j⟩
 .cases h
theorem il{h}{id a sz}(e:dZ h id a=some sz):∃xs,h[id]?=some (.row sz xs)/\xs.length=a:=by
 unfold dZ at e;split at e
 .rename_i l xs i;split at e
  .rename_i j;cases e;exact⟨xs,i,j⟩
  .cases e
 .cases e
theorem qw{id a i j sz}{xs}{b}(e:S.h[id]?=some (.row sz xs))(o:xs.length=a)(l:S.m.getD id none=some b) :
  Rep M0 S (.pointer (some ⟨b,i*sz+j,none⟩)) (.ptr id a i j):=
 ⟨⟨_,rfl⟩,.inr ⟨sz,xs,e,by omega,λ_=>⟨b,l,rfl⟩⟩⟩
theorem Es(y:HOk P M0 S){T}{x}{v}{f}(hx:Rep M0 S v x):aF P M0 S (Instr.fieldAt T v f) (lB P T x f S.h):=by
 unfold lB;split
 .exact trivial
 .rename_i off t F;obtain⟨L,J,z,l,rfl,rfl⟩:=wz F;split
  .exact trivial
  .rename_i n e;split
   .exact trivial
   .rename_i j;have run:∀(b at_:Nat),(Instr.fieldAt T (.pointer (some ⟨b,at_,none⟩)) f).run P S.w=.ok (.pointer (some ⟨b,at_+J.offset,none⟩)) S.w:=by
     intro b at_;simp[Instr.fieldAt,run_underlying z,l,Instr.sureAddr,fieldPlace,be e,j,ei]
    split
    .rename_i sz xs i o;have h:RepP (Avoid M0 S.m) S.w v (.ptr sz xs i o):=hx
     cases h with
     |ptr g q A I G C=>
      refine aF.pure y (run _ _) (aC (.ptr g ?_ A I G C));rw[q,gW]
    .rename_i id K i o;split
     .rename_i sz E;obtain⟨xs,a,u⟩:=il E;obtain⟨b,D,rfl⟩:=cm hx.2 a u;refine aF.pure y (run _ _) ?_;rw[gW];exact qw a u D
     .exact trivial
    .exact trivial
theorem bW{T e}(h:aP P T=some e):P.underlying T=some (.slice e):=by
 unfold aP at h;split at h
 .rename_i i a;cases h;exact a
 .cases h
theorem kh{T e}{n}(h:cB P T=some (n,e)):P.underlying T=some (.array n e):=by
 unfold cB at h;split at h
 .rename_i i j a;cases h;exact a
 .cases h
theorem toNat_lt{i:Int}{n:Nat}(a:0<=i)(h:i<n):i.toNat<n:=by omega
theorem hL{v}{k}{i}(h:Rep M0 S v (.p (.int k i))):v=.int k i:=by
 have h':RepP (Avoid M0 S.m) S.w v (.int k i):=h
 cases h' with
 |int k n=>rfl
theorem nX{v}{b}(h:Rep M0 S v (.p (.bool b))):v=.bool b:=by
 have h':RepP (Avoid M0 S.m) S.w v (.bool b):=h
 cases h' with
 |bool b=>rfl
theorem Ej(J:HOk P M0 S){T}{x Y}{v X}(hx:Rep M0 S v x)(hi:Rep M0 S X Y):aF P M0 S (Instr.indexAt T v X) (gq P T x Y S.h):=by
 unfold gq;split
 .rename_i k i;have:=hL hi;subst this;split
  .rename_i sz xs full;split
   .rename_i e z;split
    .rename_i A;obtain⟨q,C,a⟩:=A;have y:=bW z;have h:RepP (Avoid M0 S.m) S.w v (.slice sz xs full):=hx
     cases h with
     |slice f M N E F R u O=>
      rename_i b off len cap;subst M;refine aF.pure J (v':=.pointer (some ⟨b,off+i.toNat*sz,none⟩)) ?_ (aC (.ptr f (by omega) F R u O))
      simp[Instr.indexAt,asIntOf,run_underlying y,C,a,be q,ei]
     |empty E=>simp at a;omega
    .exact trivial
   .exact trivial
  .rename_i id K off len;split
   .rename_i e sz xs z l;split
    .rename_i A;obtain⟨q,D,C,a⟩:=A;have y:=bW z;have I:=cm hx.2 l D;rcases I with⟨Z,_⟩|⟨b,cap,T',n,G,rfl,a1,a0,V⟩|⟨_,_,Z⟩
     .omega
     .refine aF.pure J (v':=.pointer (some ⟨b,(off+i.toNat)*sz+0,none⟩)) ?_ (qw l D G);simp[Instr.indexAt,asIntOf,run_underlying y,C,a,be q,ei,dK]
     .omega
    .exact trivial
   .exact trivial
  .rename_i id K j o n;split
   .rename_i e sz z I;split
    .rename_i A;obtain⟨q,C,a⟩:=A;have y:=bW z;obtain⟨xs,l,D⟩:=il I;obtain⟨b,cap,G,N,L⟩:=cm hx.2 l D;obtain rfl:=L (by omega);refine aF.pure J (v':=.pointer (some ⟨b,j*sz+(o+i.toNat),none⟩)) ?_ (qw l D G);simp[Instr.indexAt,asIntOf,run_underlying y,C,a,be q,ei,gW]
    .exact trivial
   .exact trivial
  .rename_i sz xs j o;split
   .rename_i n e z;split
    .rename_i s F;split
     .rename_i A;obtain⟨C,a⟩:=A;have y:=kh z;have h:RepP (Avoid M0 S.m) S.w v (.ptr sz xs j o):=hx
      cases h with
      |ptr g U q R u O=>
       rename_i b off at_;refine aF.pure J (v':=.pointer (some ⟨b,at_+i.toNat*s,none⟩)) ?_ (aC (.ptr g (by rw[U,gW]) q R u O));simp[Instr.indexAt,asIntOf,run_underlying y,C,a,be F,ei,Instr.sureAddr]
     .exact trivial
    .exact trivial
   .exact trivial
  .rename_i id K j o;split
   .rename_i n e z;split
    .rename_i s sz F I;split
     .rename_i A;obtain⟨C,a⟩:=A;have y:=kh z;obtain⟨xs,l,D⟩:=il I;obtain⟨b,G,rfl⟩:=cm hx.2 l D;refine aF.pure J (v':=.pointer (some ⟨b,j*sz+(o+i.toNat*s),none⟩)) ?_ (qw l D G);simp[Instr.indexAt,asIntOf,run_underlying y,C,a,be F,ei,Instr.sureAddr,gW]
     .exact trivial
    .exact trivial
   .exact trivial
  .exact trivial
 .exact trivial
theorem fk{T}(h:eg P T=true):P.underlying T=some .string:=by
 unfold eg at h;split at h
 .assumption
 .cases h
theorem Be{T}{x y}{v}{o}{C}(E:v=.agg C)(hx:Rep M0 S v x)(z:x.cells.isSome)(i:ku P T x o=some y) :
  ∃v',(part T C o).run P S.w=.ok v' S.w/\Rep M0 S v' y:=by
 subst E;obtain⟨cs,e⟩:=fp.1 z;obtain⟨F,a⟩:=iP hx e;simp only[Value.cells]at F a;unfold ku at i;split at i
 .rename_i J n A l;obtain⟨I,G,D⟩:=DI e a i
  cases J with
  |true=>
   refine⟨.agg (C.extract o (o+n)),?_,?_⟩
   .simp[part,jN A,be l]
   .have q:n=0\/o+n<=C.size:=by
     rcases pu n with h|h
     .exact .inl h
     .have:=I (n-1) (by omega) rfl;exact .inr (by omega)
    have:C.extract o (o+n)=((List.range n).map λj=>C.getD (o+j) undef).toArray:=by
     apply qg
     .simp;omega
     .intro k L u;have K:k<n:=by simpa using u
      simp[show o+k<C.size by rcases q with h|h<;>omega]
    rw[this]
    simpa using D
  |false=>
   have M:=G rfl;refine⟨C.getD o undef,?_,by simpa using D⟩;simp[part,jN A,show o<C.size by omega]
 .cases i
theorem AQ{v}{x}(hx:Rep M0 S v x)(h:(∃l,x=.p (.agg l))\/∃l,x=.agg l):∃C,v=.agg C:=by
 rcases h with⟨l,rfl⟩|⟨l,rfl⟩
 .have h':RepP (Avoid M0 S.m) S.w v (.agg l):=hx
  cases h' with
  |agg=>exact⟨_,rfl⟩
 .obtain⟨C,rfl,_⟩:=hx;exact⟨C,rfl⟩
theorem Nu(A:HOk P M0 S){T}{x}{v}{f}(hx:Rep M0 S v x):aF P M0 S (Instr.field T v f) (su P T x f S.h):=by
 unfold su;split
 .exact trivial
 .rename_i off t z;obtain⟨F,o,u,e,rfl,rfl⟩:=wz z;have a:((∃l,x=.p (.agg l))\/∃l,x=.agg l)->aF P M0 S (Instr.field T v f) (ii S.h (ku P o.type x o.offset)):=by
   intro j;refine aF.opt A λy q=>?_;obtain⟨C,i⟩:=AQ hx j;obtain⟨v',E,D⟩:=Be i hx (by rcases j with⟨l,rfl⟩|⟨l,rfl⟩<;>rfl) q;exact⟨v',by simp[Instr.field,run_underlying u,e,i,asAgg,E],D⟩
  split
  .exact a (.inl ⟨_,rfl⟩)
  .exact a (.inr ⟨_,rfl⟩)
  .exact trivial
theorem Ng(I:HOk P M0 S){T}{x E}{v D}(hx:Rep M0 S v x)(hi:Rep M0 S D E):aF P M0 S (Instr.index T v D) (vh P T x E S.h):=by
 unfold vh;split
 .rename_i k i;have:=hL hi;subst this
  have q:((∃l,x=.p (.agg l))\/∃l,x=.agg l)->∀n e s,cB P T=some (n,e)->bL P e=some s->(0<=i/\i<n) ->
    aF P M0 S (Instr.index T v (.int k i)) (ii S.h (ku P e x (i.toNat*s))):=by
   intro G n e s o j a;obtain⟨u,A⟩:=a;refine aF.opt I λy J=>?_;obtain⟨C,F⟩:=AQ hx G;obtain⟨v',M,L⟩:=Be F hx (by rcases G with⟨l,rfl⟩|⟨l,rfl⟩<;>rfl) J;exact⟨v',by simp[Instr.index,asIntOf,run_underlying (kh o),F,u,A,be j,M],L⟩
  split
  .rename_i s;split
   .rename_i a;obtain⟨z,u⟩:=a;split
    .rename_i b K;have h':RepP (Avoid M0 S.m) S.w v (.str s):=hx
     cases h' with
     |str s=>
      refine aF.pure I (v':=.int .u8 b.toNat) ?_ (aC (.int _ _));simp[Instr.index,asIntOf,run_underlying (fk z),u,K]
    .exact trivial
   .exact trivial
  .split
   .split
    .split
     .rename_i n e o _ s j a;exact q (.inl ⟨_,rfl⟩) n e s o j a
     .exact trivial
    .exact trivial
   .exact trivial
  .split
   .split
    .split
     .rename_i n e o _ s j a;exact q (.inr ⟨_,rfl⟩) n e s o j a
     .exact trivial
    .exact trivial
   .exact trivial
  .exact trivial
 .exact trivial
end Abs
end Go.Proofs.YtmndpldajflenaaGreatDoor
