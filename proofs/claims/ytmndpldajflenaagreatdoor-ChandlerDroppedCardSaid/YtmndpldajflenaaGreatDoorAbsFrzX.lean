/- CONTRACTS of the program's functions, and laws on what they return. No conditions but those in the theorems' heads. -/
import Derived.Test.YtmndpldajflenaaGreatDoorAbsEval
set_option linter.all false
namespace Go.Proofs.YtmndpldajflenaaGreatDoor
namespace Abs
variable {P:Program} {M0:Nat->Prop}
inductive Flat:PV->Prop
 |bool (b:Bool):Flat (.bool b)
 |int (k:IntKind) (n:Int):Flat (.int k n)
 |str (s:ByteArray):Flat (.str s)
 |agg {cs:List PV} (h:∀(i:Nat) (c:PV),cs[i]?=some c->Flat c):Flat (.agg cs)
 |tuple {cs:List PV} (h:∀(i:Nat) (c:PV),cs[i]?=some c->Flat c):Flat (.tuple cs)
 |nilslice:Flat .nilslice
 |nilptr:Flat .nilptr
 |nilfunc:Flat .nilfunc
 |iface {t:TypeId} {q:PV} (h:Flat q):Flat (.iface t q)
 |niliface:Flat .niliface
 |any:Flat .any
theorem Flat.nil(i:Nat)(c)(h:([]:List PV)[i]?=some c):Flat c:=by simp at h
theorem Flat.cons{q}{l}(a:Flat q)(e:∀(i:Nat) (c),l[i]?=some c->Flat c)(i:Nat)(c)(h:(q::l)[i]?=some c):Flat c:=by
 cases i with
 |zero=>cases h;exact a
 |succ i=>exact e i c (by simpa using h)
theorem Flat.rep{q}(o:Flat q){M u}{w w'}{v}(h:RepP M w v q):RepP u w' v q:=by
 induction o generalizing v with
 |bool b=>cases h;exact .bool b
 |int k n=>cases h;exact .int k n
 |str s=>cases h;exact .str s
 |agg _ a=>cases h with|agg j l e=>exact .agg j l λi c hi=>a i c hi (e i c hi)
 |tuple _ a=>cases h with|tuple j e=>exact .tuple j λi c hi=>a i c hi (e i c hi)
 |nilslice=>cases h;exact .nilslice
 |nilptr=>cases h;exact .nilptr
 |nilfunc=>cases h;exact .nilfunc
 |iface _ a=>cases h with|iface e=>exact .iface (a e)
 |niliface=>cases h;exact .niliface
 |any=>cases h<;>constructor
def aQ (F:AV->Option PV):List AV->Option (List PV)
 |[]=>some []
 |a::l=>match F a,aQ F l with|some q,some r=>some (q::r)|_,_=>none
def j8 (F:AV->Option PV) (ver:Nat):Option AObj->Option (Nat×List PV)
 |some (.row sz xs)=>if xs.length=ver then(aQ F xs).map λl=>(sz,l) else none
 |_=>none
def Eo (i o k:Nat):Option (Nat×List PV)->Option PV
 |some (_,l)=>match l[i]? with|some x=>if o+k<=x.cells.length then some (.slice 1 (sub o k x.cells) false) else none|none=>none
 |none=>none
def bV:Nat->Heap->AV->Option PV
 |_,_,.p v=>some v
 |0,_,_=>none
 |n+1,h,.ptr id ver i o=>(j8 (bV n h) ver h[id]?).map λq=>.ptr q.1 q.2 i o
 |n+1,h,.slice id ver off len=>(j8 (bV n h) ver h[id]?).map λq=>.slice q.1 ((q.2.take (off+len)).drop off) false
 |n+1,h,.func fn first cap=>match aQ (bV n h) first,aQ (bV n h) cap with|some a,some b=>some (.func fn a b)|_,_=>none
 |n+1,h,.agg cs=>(aQ (bV n h) cs).map .agg
 |n+1,h,.tuple cs=>(aQ (bV n h) cs).map .tuple
 |n+1,h,.arr id ver i o k=>Eo i o k (j8 (bV n h) ver h[id]?)
 |_+1,_,.ref .mp _=>some .any
 |_,_,_=>none
def wv (h:Heap) (a:AV):Option PV:=bV 8 h a
def m9 (h:Heap) (l:List AV):Option (List PV):=aQ (wv h) l
theorem eE(n)(h)(v):bV n h (.p v)=some v:=by cases n<;>rfl
theorem dC{α:Type}{F}(a:∀v,F (.p v)=some v)(f):∀l:List α,aQ F (l.map λx=>.p (f x))=some (l.map f)
 |[]=>rfl
 |x::r=>by rw[bK,aQ,dC a f r,a];rfl
theorem Em{α:Type}(n)(h)(f)(l:List α):aQ (bV n h) (l.map λx=>.p (f x))=some (l.map f):=dC (eE n h) f l
theorem fd{F}:∀{l} {j},aQ F l=some j->l.length=j.length/\∀(i:Nat) (q),j[i]?=some q->∃a,l[i]?=some a/\F a=some q
 |[],j,e=>by cases e;exact⟨rfl,by simp⟩
 |a::l,j,e=>by
  unfold aQ at e;split at e
  .rename_i q r z y;cases e;obtain⟨v,u⟩:=fd y;refine⟨by simp[v],λi o hi=>?_⟩
   cases i with
   |zero=>cases hi;exact⟨a,rfl,z⟩
   |succ i=>exact u i o (by simpa using hi)
  .cases e
theorem mz{F}{a}{o}{q}(e:j8 F a o=some q):∃xs,o=some (.row q.1 xs)/\xs.length=a/\aQ F xs=some q.2:=by
 unfold j8 at e;split at e
 .rename_i sz xs;split at e
  .rename_i i;simp only[bC]at e;obtain⟨l,j,rfl⟩:=e;exact⟨xs,rfl,i,j⟩
  .cases e
 .cases e
theorem mA{n}{h}{a}{q}(l:a.isCell=true)(e:bV n h a=some q):q.isCell=true:=by
 cases a with
 |p v=>rw[eE]at e;cases e;exact l
 |agg cs=>cases l
 |tuple cs=>cases l
 |undef=>cases l
 |ref k id=>cases n<;>cases k<;>first|(cases e;rfl)|cases e
 |iptr t id=>cases n<;>cases e
 |arr id j i o k=>
  cases n with
  |zero=>cases e
  |succ n=>
   unfold bV Eo at e;split at e
   .split at e
    .split at e<;>cases e;rfl
    .cases e
   .cases e
 |ptr id j i o=>
  cases n with
  |zero=>cases e
  |succ n=>
   unfold bV at e;simp only[bC]at e;obtain⟨u,_,rfl⟩:=e
   rfl
 |slice id j off len=>
  cases n with
  |zero=>cases e
  |succ n=>
   unfold bV at e;simp only[bC]at e;obtain⟨u,_,rfl⟩:=e
   rfl
 |func fn first cap=>
  cases n with
  |zero=>cases e
  |succ n=>
   unfold bV at e;split at e
   .cases e;rfl
   .cases e
theorem oq{q:PV}(h:q.isCell=true):q.cells=[q]:=by cases q<;>first|rfl|cases h
theorem yX{n}{h}{a}{q}{cs}(e:bV n h a=some q)(u:a.cells=some cs) :
  q.cells.length=cs.length/\∀(j:Nat) (c),q.cells[j]?=some c->∃x m,cs[j]?=some x/\m<=n/\bV m h x=some c:=by
 have single:a.isCell=true->cs=[a]->q.cells.length=cs.length/\∀(j:Nat) (c:PV),q.cells[j]?=some c->∃x m,cs[j]?=some x/\m<=n/\bV m h x=some c:=by
  intro D y;have C:=mA D e;rw[oq C,y];refine⟨rfl,λj c z=>?_⟩
  cases j with
  |zero=>cases z;exact⟨a,n,rfl,ba _,e⟩
  |succ j=>simp at z
 cases a with
 |p v=>
  rw[eE]at e;cases e;have y:cs=q.cells.map .p:=by
   cases q with
   |tuple l=>simp[AV.cells]at u
   |_=>(simp[AV.cells]at u;exact u.symm)
  subst y
  refine⟨by simp,λj c z=>⟨.p c,n,by simp[z],ba _,eE _ _ _⟩⟩
 |agg l=>
  cases n with
  |zero=>cases e
  |succ n=>
   unfold bV at e;simp only[bC]at e;obtain⟨K,J,rfl⟩:=e;simp only[AV.cells,iH]at u;subst u;obtain⟨I,G⟩:=fd J;refine⟨I.symm,λj c z=>?_⟩;obtain⟨x,F,E⟩:=G j c z
   exact⟨x,n,F,by omega,E⟩
 |tuple l=>cases u
 |undef=>cases u
 |ptr id A i o=>cases u;exact single rfl rfl
 |slice id A i o=>cases u;exact single rfl rfl
 |func fn a b=>cases u;exact single rfl rfl
 |ref k id=>cases u;exact single rfl rfl
 |iptr t id=>cases u;exact single rfl rfl
 |arr id A i o k=>cases u;exact single rfl rfl
theorem z7{S}(M:HOk P M0 S){n id sz b}{xs}{l}(O:∀m,m<=n->∀(v) (a) (q),Rep M0 S v a->bV m S.h a=some q->RepP M0 S.w v q)
  (F:S.h[id]?=some (.row sz xs)) (K:S.m.getD id none=some b) (R:aQ (bV n S.h) xs=some l) :
  ∃C T,S.w.heap[b]?=some (.cells C T (0,0))/\l.length=xs.length/\l.length*sz<=C.size/\(∀x,x∈l->x.cells.length=sz/\∀c,c∈x.cells->c.isCell=true)/\¬M0 b /\
   (∀k,k<l.length*sz->S.w.cell? ⟨b,0+k,none⟩=some (C.getD k undef))/\∀(i j) (x c),l[i]?=some x->x.cells[j]?=some c->RepP M0 S.w (C.getD (i*sz+j) undef) c:=by
 obtain⟨C,T,L,u,J⟩:=fj M F K;obtain⟨o,G⟩:=fd R;have e:∀(i:Nat) (q:PV),l[i]?=some q->(q.cells.length=sz/\∀c,c∈q.cells->c.isCell=true)/\∀(j:Nat) (c:PV),q.cells[j]?=some c->RepP M0 S.w (C.getD (i*sz+j) undef) c:=by
  intro i q hi;obtain⟨a,Z,I⟩:=G i q hi;obtain⟨cs,Y,h2,D⟩:=J i a Z;obtain⟨h4,N⟩:=yX I Y;refine⟨⟨by omega,λc V=>?_⟩,λj c y=>?_⟩
  .obtain⟨j,y⟩:=eF V;obtain⟨x,m,z,_,A⟩:=N j c y;exact mA (D j x z).1 A
  .obtain⟨x,m,z,X,A⟩:=N j c y;exact O m X _ x c (qp (D j x z).1 (D j x z).2) A
 refine⟨C,T,L,o.symm,by rw[<-o];exact u,λx hx=>?_,λE=>(M.m0 b E).2 (aG (cu K)),λk U=>?_,λi j x c hx y=>(e i x hx).2 j c y⟩
 .obtain⟨i,hi⟩:=eF hx;exact(e i x hi).1
 .rw[gV];exact i6 L k (by rw[<-o]at U;omega)
theorem PQ{S}(hS:HOk P M0 S):∀(n) (v) (a) (q),Rep M0 S v a->bV n S.h a=some q->RepP M0 S.w v q:=by
 intro n
 induction n using Nat.strongRecOn with
 |_ n X=>
  intro v a q K e
  cases a with
  |p v'=>rw[eE]at e;cases e;exact RepP.less (show RepP (Avoid M0 S.m) S.w v q from K) λb hb=>.inl hb
  |ref k id=>
   cases n<;>cases k<;>first|(cases e;obtain⟨⟨b,hb⟩,_⟩:=K;rw[hb];exact .anyMap)|cases e
  |undef=>cases n<;>cases e
  |iptr t id=>cases n<;>cases e
  |arr id a0 i o k=>
   cases n with
   |zero=>cases e
   |succ n=>
    unfold bV Eo at e;split at e
    .rename_i sz l a3;split at e
     .rename_i x hx;split at e
      .rename_i a9;cases e;obtain⟨xs,u,hv,E⟩:=mz a3;dsimp only at u E;obtain⟨b,cap,N,a5,a2⟩:=cm K.2 u hv;by_cases hk:k=0
       .subst hk;obtain⟨⟨a,c,rfl⟩,_⟩:=K;have:sub o 0 x.cells=[]:=by simp[sub]
        rw[this];exact .empty (by simp)
       .obtain rfl:=a2 hk;obtain⟨C,T,hb,J,L,O,I,A,D⟩:=z7 hS (λm N=>X m (by omega)) u N E;have hi:=(aB.1 hx).1;obtain⟨h7,Z⟩:=O x (aG hx);have a4:(i+1)*sz<=l.length*sz:=fU sz hi;rw[dK,sF]at a4;have R:(sub o k x.cells).length=k:=by simp[sub];omega
        have V:∀(j:Nat) (c:PV),(sub o k x.cells)[j]?=some c->x.cells[o+j]?=some c:=λj c Y=>by
         have b0:=(aB.1 Y).1;rw[sub,kB,if_pos (by omega),qc]at Y;exact Y
        have z:∀c,c∈sub o k x.cells->c.isCell=true:=λc G=>by
         obtain⟨j,Y⟩:=eF G;exact Z c (aG (V j c Y))
        refine .slice (off:=i*sz+o) (λj=>C.getD (i*sz+o+j) undef) R.symm a5 (by simp) (λc G=>?_) (λ_=>I) (λj Y=>?_) λi' j x' c a1 G=>?_
        .rw[oq (z _ G)];exact⟨rfl,λc' a8=>by rw[dT.1 a8];exact z _ G⟩
        .rw[R]at Y;have:=A (i*sz+o+j) (by omega);rw[gV]at this;exact this
        .rw[oq (z x' (aG a1))]at G
         cases j with
         |zero=>
          have a6:c=x':=by simpa using G.symm
          have:=D i (o+i') x x' hx (V i' x' a1);rw[a6]
          simpa[gW]using this
         |succ j=>simp at G
      .cases e
     .cases e
    .cases e
  |ptr id a0 i o=>
   cases n with
   |zero=>cases e
   |succ n=>
    unfold bV at e;simp only[bC]at e;obtain⟨⟨sz,l⟩,J,rfl⟩:=e;obtain⟨xs,u,hv,E⟩:=mz J;obtain⟨b,N,rfl⟩:=cm K.2 u hv;obtain⟨C,T,hb,J,L,O,I,A,D⟩:=z7 hS (λm N=>X m (by omega)) u N E
    exact .ptr (off:=0) (λk=>C.getD k undef) (by omega) O (λ_=>I) A D
  |slice id a0 off len=>
   cases n with
   |zero=>cases e
   |succ n=>
    unfold bV at e;simp only[bC]at e;obtain⟨⟨sz,l⟩,J,rfl⟩:=e;obtain⟨xs,u,hv,E⟩:=mz J;dsimp only at u E |-;have U:len=0->(l.take (off+len)).drop off=[]:=by
     intro e;subst e;apply sy;simp
    rcases cm K.2 u hv with⟨h0,_,_,a,cap,rfl⟩|⟨b,cap,T',n',N,rfl,⟨J,L⟩,_,_⟩|⟨_,rfl,h0⟩
    .rw[U h0];exact .empty (by simp)
    .obtain⟨C,T,hb,O,I,A,D,h7,Z⟩:=z7 hS (λm N=>X m (by omega)) u N E;have:=s1 (M:=M0) (w:=S.w) (b:=b) (off:=0) (sz:=sz) (l:=off) (r:=off+len) (xs:=l) (λk=>C.getD k undef) (by omega) (by omega) A (λ_=>D) h7 Z (cap:=cap) (full:=false) (by omega) (by simp);simpa using this
    .rw[U h0];exact .empty (by simp)
  |func fn first cap=>
   cases n with
   |zero=>cases e
   |succ n=>
    obtain⟨F,C,rfl,J,L⟩:=K;unfold bV at e;split at e
    .rename_i x y hx hy;cases e;obtain⟨O,I⟩:=fd hx;obtain⟨A,D⟩:=fd hy;refine .func (by rw[J.1,O]) (by rw[L.1,A]) (λi c hi=>?_) λi c hi=>?_
     .obtain⟨a,h7,Z⟩:=I i c hi;exact X n (by omega) _ a c (kJ (J.2 i a h7)) Z
     .obtain⟨a,h7,Z⟩:=D i c hi;exact X n (by omega) _ a c (kJ (L.2 i a h7)) Z
    .cases e
  |agg cs=>
   cases n with
   |zero=>cases e
   |succ n=>
    obtain⟨C,rfl,G,J,L⟩:=K;unfold bV at e;simp only[bC]at e;obtain⟨l,E,rfl⟩:=e;obtain⟨O,I⟩:=fd E;refine .agg (by omega) (λc a7=>?_) λi c hi=>?_
    .obtain⟨i,hi⟩:=eF a7;obtain⟨a,A,D⟩:=I i c hi;exact mA (G a (aG A)) D
    .obtain⟨a,A,D⟩:=I i c hi
     exact X n (by omega) _ a c (qp (G a (aG A)) (L i a A)) D
  |tuple cs=>
   cases n with
   |zero=>cases e
   |succ n=>
    obtain⟨C,rfl,J,L⟩:=K;unfold bV at e;simp only[bC]at e;obtain⟨l,E,rfl⟩:=e;obtain⟨O,I⟩:=fd E;refine .tuple (by omega) λi c hi=>?_;obtain⟨a,A,D⟩:=I i c hi;exact X n (by omega) _ a c (nI (L i a A)) D
theorem qD{S}(i:HOk P M0 S){v}{a}{q}(e:Rep M0 S v a)(h:wv S.h a=some q):RepP M0 S.w v q:=PQ i 8 v a q e h
theorem vQ{h}{l}{j}(e:m9 h l=some j):l.length=j.length/\∀(i:Nat) (q),j[i]?=some q->∃a,l[i]?=some a/\wv h a=some q:=fd e
theorem BG{f}{args}{j}{v}{h}(J:af P f j v)(L:m9 h args=some j)(D:Flat v):ar P f args h (λr h'=>r=.ret (.p v)/\h'=h):=by
 intro M0 m w o q l;obtain⟨F,I⟩:=vQ L;have z:oC M0 w o j:=by
  refine⟨by rw[l.1,F],λi c hi=>?_⟩;obtain⟨a,y,u⟩:=I i c hi;exact qD (S:=⟨m,h,w⟩) q (l.2 i a y) u
 obtain⟨y,u⟩:=J M0 w o (λb K=>(q.m0 b K).1) q.gl.1 z;refine⟨y,u.mono λe w' hh=>?_⟩;obtain⟨v',rfl,E,A⟩:=hh;obtain⟨G,C⟩:=oX q A;exact⟨.ret (.p v),_,m,⟨rfl,rfl⟩,C,G,D.rep E⟩
theorem fA{F G}(i:∀a q,F a=some q->G a=some q):∀{l} {j},aQ F l=some j->aQ G l=some j
 |[],j,e=>e
 |a::l,j,e=>by
  unfold aQ at e |-;split at e
  .rename_i q r u o;rw[i _ _ u,fA i o];exact e
  .cases e
theorem tu{F G}(j:∀a q,F a=some q->G a=some q){h u}(o:bY h u){id i:Nat}{q}(e:j8 F i h[id]?=some q):j8 G i u[id]?=some q:=by
 obtain⟨xs,z,y,v⟩:=mz e;rw[sb o z];show (if xs.length=i then(aQ G xs).map λl=>(q.1,l) else none)=some q;rw[if_pos y,fA j v];rfl
theorem Np{h u}(D:bY h u):∀(n) (a) (q),bV n h a=some q->bV n u a=some q:=by
 intro n
 induction n with
 |zero=>intro a q e;cases a<;>first|exact e|cases e
 |succ n l=>
  intro a q e
  cases a with
  |p v=>exact e
  |ptr id C i o=>
   unfold bV at e |-;simp only[bC]at e |-;obtain⟨j,A,z⟩:=e
   exact⟨j,tu l D A,z⟩
  |slice id C i o=>
   unfold bV at e |-;simp only[bC]at e |-;obtain⟨j,A,z⟩:=e
   exact⟨j,tu l D A,z⟩
  |func fn first cap=>
   unfold bV at e |-;split at e
   .rename_i x y hx F;rw[fA l hx,fA l F];exact e
   .cases e
  |agg cs=>
   unfold bV at e |-;simp only[bC]at e |-;obtain⟨j,A,z⟩:=e
   exact⟨j,fA l A,z⟩
  |tuple cs=>
   unfold bV at e |-;simp only[bC]at e |-;obtain⟨j,A,z⟩:=e
   exact⟨j,fA l A,z⟩
  |ref k id=>cases k<;>first|exact e|cases e
  |iptr t id=>cases e
  |arr id C i o k=>
   unfold bV at e |-
   cases E:j8 (bV n h) C h[id]? with
   |none=>rw[E]at e;cases e
   |some j=>rw[E]at e;rw[tu l D E];exact e
  |undef=>cases e
theorem En{h u}(i:bY h u){l}{a}(e:m9 h l=some a):m9 u l=some a:=fA (Np i 8) e
theorem aU{H}{ops}{rest}{Q}{dst}{A}{f}{args}{a}{v}(j:af P f a v)(l:m9 A.h args=some a)(e:Flat v)
  (h:@WO ⟨P,H,ops,rest,Q⟩ (A.put dst (.p v) A.h)):@WF ⟨P,H,ops,rest,Q,dst⟩ A f args:=by
 refine(BG j l e).mono λr h' i=>?_;obtain⟨rfl,rfl⟩:=i;exact h
theorem Rd{H}{ops}{rest}{Q}{o}{e i}{A}{f}{args}{a}{v}(l:af P f a v)(q:m9 i args=some a)(j:Flat v)
  (h:@WD ⟨P,H,ops,rest,Q⟩ e (A.put o.dst (.p v) A.h)):@Fo ⟨P,H,ops,rest,Q,o⟩ e i A (.call f args):=
 ⟨.p v,λ_ e=>BG l (En e q) j,h⟩
end Abs
end Go.Proofs.YtmndpldajflenaaGreatDoor
namespace Go.Proofs.YtmndpldajflenaaGreatDoor
namespace Abs
variable {P:Program} {M0:Nat->Prop}
theorem fS.refl(A):fS P A A:=⟨rfl,rfl,λ_ _ _ _ m _ _ h=>⟨m,h⟩⟩
theorem fS.trans{A B C}(h:fS P A B)(k:fS P B C):fS P A C:=
 ⟨k.1.trans h.1,k.2.1.trans h.2.1,λM0 e b cs0 m a w j=>let ⟨i,l⟩:=h.2.2 M0 e b cs0 m a w j;k.2.2 M0 e b cs0 i a w l⟩
theorem JU{A}{T}(h:∀t,T t=A.tmps t\/T t=.undef):fS P A { A with tmps:=T }:=
 ⟨rfl,rfl,λM0 j b cs0 m a w i=>⟨m,i.size,λt=>by
  show Rep M0 ⟨m,A.h,w⟩ _ (T t);rcases h t with e|e
  .rw[e];exact i.tmps t
  .rw[e];exact trivial,i.hok,i.ev,i.le,i.df,i.rc⟩⟩
def Mem.cut (S:Mem) (l:Nat):Mem:=⟨S.m.take l,S.h.take l,S.w⟩
theorem vD{S:Mem}{l b}(h:Own (S.cut l).m b):Own S.m b:=od h
theorem B4{S:Mem}{l b}(h:Avoid M0 (S.cut l).m b):Avoid M0 S.m b:=h.imp id vD
theorem sh{S:Mem}{l id}(h:id<l):(S.cut l).h[id]?=S.h[id]?:=by
 show (S.h.take l)[id]?=_;rw[kB,if_pos h]
theorem zg{S:Mem}{l id}(h:id<l):(S.cut l).m.getD id none=S.m.getD id none:=by
 show (S.m.take l).getD id none=_;rw[cr,cr,kB,if_pos h]
theorem cC.cut{S}{l id a}{X}(h:cC S id a X)(e:id<l):cC (S.cut l) id a X:=by
 unfold cC at *
 rw[sh e,zg e];exact h
theorem bB.cut{S}{l}{v}{a}(h:bB M0 S v a)(e:dO l a):bB M0 (S.cut l) v a:=by
 cases a with
 |p q=>exact RepP.less (show RepP (Avoid M0 S.m) S.w v q from h) λb e=>B4 e
 |ptr id j i o=>exact⟨h.1,h.2.cut e⟩
 |iptr it id=>exact⟨h.1,h.2.cut e⟩
 |arr id j i o n=>exact⟨h.1,h.2.cut e⟩
 |slice id j off len=>exact⟨h.1,cC.cut (S:=S) h.2 e⟩
 |ref k id=>
  refine⟨h.1,?_⟩;rw[sh e,zg e]
  exact h.2
 |undef=>exact trivial
 |agg cs=>exact h.elim
 |func fn f c=>exact h.elim
 |tuple u=>exact h.elim
theorem bm.cut{S}{l}{v}{a}(h:bm M0 S v a)(j:e8 l a):bm M0 (S.cut l) v a:=by
 cases a with
 |func fn f c=>
  obtain⟨F,C,rfl,A,z⟩:=h
  exact⟨F,C,rfl,A.imp λv c y u=>bB.cut u (j.1 c y),z.imp λv c y u=>bB.cut u (j.2 c y)⟩
 |p q=>exact bB.cut (M0:=M0) (a:=.p q) h j
 |ptr id e i o=>exact bB.cut (M0:=M0) (a:=.ptr id e i o) h j
 |iptr it id=>exact bB.cut (M0:=M0) (a:=.iptr it id) h j
 |arr id e i o n=>exact bB.cut (M0:=M0) (a:=.arr id e i o n) h j
 |slice id e off len=>exact bB.cut (M0:=M0) (a:=.slice id e off len) h j
 |ref k id=>exact bB.cut (M0:=M0) (a:=.ref k id) h j
 |undef=>exact trivial
 |agg cs=>exact h.elim
 |tuple D=>exact h.elim
theorem cO.cut{S}{l}{v}{a}(h:cO M0 S v a)(j:fX l a):cO M0 (S.cut l) v a:=by
 cases a with
 |agg cs=>
  obtain⟨C,rfl,A,z⟩:=h
  exact⟨C,rfl,A,z.imp λv c y u=>bm.cut u (j c y)⟩
 |p q=>exact bm.cut (M0:=M0) (a:=.p q) h j
 |ptr id e i o=>exact bm.cut (M0:=M0) (a:=.ptr id e i o) h j
 |iptr it id=>exact bm.cut (M0:=M0) (a:=.iptr it id) h j
 |arr id e i o n=>exact bm.cut (M0:=M0) (a:=.arr id e i o n) h j
 |slice id e off len=>exact bm.cut (M0:=M0) (a:=.slice id e off len) h j
 |ref k id=>exact bm.cut (M0:=M0) (a:=.ref k id) h j
 |func fn f c=>exact bm.cut (M0:=M0) (a:=.func fn f c) h j
 |undef=>exact trivial
 |tuple D=>exact h.elim
theorem Rep.cut{S}{l}{v}{a}(h:Rep M0 S v a)(j:below l a):Rep M0 (S.cut l) v a:=by
 cases a with
 |tuple cs=>
  obtain⟨C,rfl,z⟩:=h
  exact⟨C,rfl,z.imp λv c y u=>cO.cut u (j c y)⟩
 |p q=>exact cO.cut (M0:=M0) (a:=.p q) h j
 |ptr id e i o=>exact cO.cut (M0:=M0) (a:=.ptr id e i o) h j
 |iptr it id=>exact cO.cut (M0:=M0) (a:=.iptr it id) h j
 |arr id e i o n=>exact cO.cut (M0:=M0) (a:=.arr id e i o n) h j
 |slice id e off len=>exact cO.cut (M0:=M0) (a:=.slice id e off len) h j
 |ref k id=>exact cO.cut (M0:=M0) (a:=.ref k id) h j
 |func fn f c=>exact cO.cut (M0:=M0) (a:=.func fn f c) h j
 |undef=>exact trivial
 |agg cs=>exact cO.cut (M0:=M0) (a:=.agg cs) h j
def aX (l:Nat):AObj->Prop
 |.row _ xs=>∀x,x∈xs->below l x
 |.loop _ tmps _ _ _ _ _=>∀t,below l (tmps t)
 |.bld _ _ x=>dO l x
 |_=>True
def qG (l:Nat):ADef->Prop
 |.fn _ args=>∀a,a∈args->below l a
 |.collected id=>id<l
theorem Gz{l}{x c}{cs}(hx:x.cells=some cs)(i:below l x)(a:c∈cs)(e:c.isCell=true):e8 l c:=by
 rcases u0 hx with⟨j,rfl⟩|⟨j,rfl⟩|⟨o,rfl⟩
 .simp only[AV.cells,PV.cells,iH]at hx;subst hx;simp only[cX]at a;obtain⟨q,_,rfl⟩:=a;exact trivial
 .simp only[AV.cells,iH]at hx;subst hx;exact i c a
 .simp only[dT]at a;subst a;cases c<;>first|exact i|exact trivial|cases o
theorem Ap{S:Mem}(A:HOk P M0 S){l:Nat}(O:∀(id:Nat) (o:AObj),id<l->S.h[id]?=some o->aX l o):HOk P M0 (S.cut l) where
 len:=by simp[Mem.cut,A.len]
 lt:=λb h=>A.lt b (vD h)
 m0:=λb h=>⟨(A.m0 b h).1,λR=>(A.m0 b h).2 (vD R)⟩
 gl:=A.gl.fr (λ_ _ _=>rfl) λb G=>.inl (vD G)
 inj:=λi j b hi V=>by
  have J:∀k:Nat,(S.cut l).m[k]?=some (some b)->S.m[k]?=some (some b):=by
   intro k U;have y:(S.m.take l)[k]?=some (some b):=U;rw[kB]at y;split at y
   .exact y
   .cases y
  exact A.inj i j b (J i hi) (J j V)
 obj:=λid o z=>by
  have D:id<l:=by
   have:=(aB.1 z).1;simp[Mem.cut]at this;omega
  rw[sh D]at z;rw[zg D];have G:=O id o D z;have:=A.obj id o z
  cases o with
  |row sz xs=>
   rcases this with h|⟨b,T,C,u,e,a,I⟩
   .exact .inl h
   .refine .inr ⟨b,T,C,u,e,a,λi x hx=>?_⟩;obtain⟨cs,F,N,M⟩:=I i x hx
    exact⟨cs,F,N,λj c K=>⟨(M j c K).1,bm.cut (M j c K).2 (Gz F (G x (aG hx)) (aG K) (M j c K).1)⟩⟩
  |loop n tmps ps assign body Z pend=>
   obtain⟨b,r,u,e,a,I,F⟩:=this
   exact⟨b,r,u,e,a,λt=>Rep.cut (I t) (G t),F⟩
  |strIter s p=>exact this
  |mp es=>
   obtain⟨b,C,E,u,e,a⟩:=this
   exact⟨b,C,E,u,e,a.monoP λv q L=>bm.cut L trivial⟩
  |memo f=>
   obtain⟨X,es,Y,b,C,E,u,e,a⟩:=this
   exact⟨X,es,Y,b,C,E,u,e,a.monoP λv q L=>bm.cut L trivial⟩
  |dblock=>exact this
  |bld T el x=>
   obtain⟨b,p,v,u,e,a,I,F,N⟩:=this
   exact⟨b,p,v,u,e,a,I,bB.cut F G,N⟩
  |dead=>exact trivial
theorem Ey{S}{l}:∀{o} {xs},DefsRep P M0 S o xs->(∀x,x∈xs->qG l x)->DefsRep P M0 (S.cut l) o xs
 |[],[],_,_=>trivial
 |d::o,x::xs,h,q=>by
  refine⟨?_,Ey h.2 λy z=>q y (by simp[z])⟩;have hx:=q x (by simp);have u:=h.1
  cases x with
  |fn g args=>
   obtain⟨fv,cap,a,e,j,i,D⟩:=u
   exact⟨fv,cap,a,e,j,i,D.imp λv c C A=>Rep.cut A (hx c C)⟩
  |collected id=>
   obtain⟨bl,j,i⟩:=u;refine⟨bl,j,?_⟩;rw[sh hx,zg hx]
   exact i
 |[],_::_,h,_=>h.elim
 |_::_,[],h,_=>h.elim
theorem Mt{A}{T}(l)(M:A.bs<=l)(D:l<=A.h.length)(F:∀t,(T t=A.tmps t/\below l (A.tmps t))\/T t=.undef)
  (G:∀(id) (o),id<l->A.h[id]?=some o->aX l o) (I:∀x,x∈A.df->qG l x):fS P A { A with tmps:=T,h:=A.h.take l }:=
 ⟨rfl,rfl,λM0 N b cs0 m a w i=>⟨m.take l,i.size,λt=>by
   show Rep M0 (Mem.cut ⟨m,A.h,w⟩ l) _ (T t);rcases F t with⟨e,u⟩|e
   .rw[e];exact Rep.cut (i.tmps t) u
   .rw[e];exact trivial,
  Ap (S:=⟨m,A.h,w⟩) i.hok G,
  {fr:=i.ev.fr
   sub:=λx hx=>i.ev.sub x (od hx)
   obj:=λid o q z=>by
    obtain⟨E,y,v⟩:=i.ev.obj id o q z;have j:id<l:=by have:id<A.bs:=q;omega
    refine⟨E,?_,?_⟩
    .exact(sh (S:=⟨m,A.h,w⟩) j).trans y
    .have:=zg (S:=⟨m,A.h,w⟩) j;show ObjEv _ _ ((Mem.cut ⟨m,A.h,w⟩ l).m.getD id none) _
     rw[this];exact v },
  ⟨by show A.bs<=(A.h.take l).length;simp;omega,i.le.2⟩,Ey (S:=⟨m,A.h,w⟩) i.df I,by
   have:=i.rc;cases J:A.rc<;>rw[J]at this<;>first|exact this|skip
   obtain⟨y,v,v',C,L,K⟩:=this
   exact⟨y,v,v',C,L,RepP.less K λb u=>B4 (S:=⟨m,A.h,w⟩) (l:=l) u⟩⟩⟩
theorem Db{A}{T}(sz)(u:∀t,T t=A.tmps t\/(A.tmps t=.p .nilslice/\T t=.slice A.h.length 0 0 0)):fS P A { A with tmps:=T,h:=A.h++[.row sz []] }:=
 ⟨rfl,rfl,λM0 D b cs0 m a w j=>⟨m++[none],by
  have y:=wq (S:=⟨m,A.h,w⟩) j.hok sz;have l:=Ev.nil (S:=⟨m,A.h,w⟩) j.hok sz;have i:=j.ahead (m':=m++[none]) (h':=A.h++[.row sz []]) (w':=w) l y;refine⟨i.size,λt=>?_,i.hok,i.ev,i.le,i.df,i.rc⟩;show Rep M0 ⟨m++[none],A.h++[.row sz []],w⟩ _ (T t);rcases u t with e|⟨C,z⟩
  .rw[e];exact i.tmps t
  .rw[z];have q:=j.tmps t;rw[C]at q;have o:RepP (Avoid M0 m) w (a.tmps.getD t undef) .nilslice:=q;generalize a.tmps.getD t undef=v at o |-;cases o;refine⟨⟨none,0,0,rfl⟩,.inr ⟨sz,[],by simp,ba _,λ_=>.inr (.inr ⟨?_,rfl,rfl⟩)⟩⟩;have:=j.hok.len;show (m++[none]).getD A.h.length none=none;rw[cr,<-show m.length=A.h.length from this]
   simp⟩⟩
def pg (h:Heap):AEnd->Option PV
 |.ret a=>wv h a
 |_=>none
theorem yn(N:dI P){H}{f}{fn}{c}{j}{v}{rs}{n}(L:P.funcs[f]?=some fn)(u:fn.body=some c)(A:fn.results.toList=rs)(I:fn.ntmps=n)(hok:cy H fn=true)
  (y:j.length<=n) (hw:wp P H c (iq P rs 0 (λ_ r h=>pg h r=some v)) (start n .no (j.map .p) [])):af P f j v:=by
 intro M0 w o M K F;have D:dz (Rep M0 ⟨[],[],w⟩) o (j.map .p):=by
  refine⟨by simpa using F.1,λi c E=>?_⟩;simp only[cW,bC]at E;obtain⟨q,G,rfl⟩:=E;exact aC ((F.2 i q G).mono (λ_ _ _=>rfl) (λb u=>by
   rcases u with u|u
   .exact .inl u
   .simp[Own]at u))
 have:=jg N (h:=[]) (R:=λr h=>pg h r=some v) L u A I hok (by simpa using y) hw M0 [] w o (pZ M K) D;refine⟨this.1,this.2.mono λe w' h=>?_⟩;obtain⟨r,h',m',z,C,J,l⟩:=h
 cases e with
 |returned v'=>
  cases r with
  |panic v=>cases z
  |ret a=>exact⟨v',rfl,qD (S:=⟨m',h',w'⟩) J l z,C.fr⟩
 |panicked O=>
  cases r with
  |panic v=>cases z
  |ret a=>exact l.elim
 |outgrown=>exact l.elim
end Abs
end Go.Proofs.YtmndpldajflenaaGreatDoor
namespace Go.Proofs.YtmndpldajflenaaGreatDoor
namespace Abs
variable {P:Program} {H:Hints} {ops:Array Oper} {Q Q':Ex->AAct->Prop}
theorem Bm{A}{dst}{K K'}{r}(h:∀B,K B->K' B)(j:∀e B,Q e B->Q' e B)(k:kt P A dst K Q r):kt P A dst K' Q' r:=by
 cases r with
 |call f args=>
  intro M0 m w a q o;obtain⟨y,u⟩:=k M0 m w a q o;refine⟨y,u.mono λ_ _ D=>?_⟩;obtain⟨r,h',m',i,rest⟩:=D
  exact⟨r,h',m',by cases r<;>first|exact h _ i|exact j _ _ i,rest⟩
 |yld l args=>
  refine⟨k.1,λM0 m w a bl q o z=>?_⟩;obtain⟨f,tmps,F,E,y,u⟩:=k.2 M0 m w a bl q o z;refine⟨f,tmps,F,E,y,λc cs=>?_⟩;obtain⟨e,w',⟨r,h',m',i,rest⟩,C⟩:=u c cs
  exact⟨e,w',⟨r,h',m',by cases r<;>first|exact h _ i|exact j _ _ i,rest⟩,C⟩
 |panic v=>exact j _ _ k
 |val v h'=>exact nN (Q:=Q') h k
 |skip h'=>exact nN (Q:=Q') h k
 |dfr d=>exact nN (Q:=Q') h k
 |recover=>exact nN (Q:=Q') h k
 |stuck=>exact k
theorem xY{X Y i a}{o}(l:X ()->i ())(j:Y ()->a ())(k:ra X Y o):ra i a o:=by
 cases o with
 |none=>exact k
 |some b=>exact⟨λe=>l (k.1 e),λe=>j (k.2 e)⟩
theorem sM(a:∀e B,Q e B->Q' e B):∀(l) {A},iu P H ops Q l A->iu P H ops Q' l A
 |[],_,k=>a _ _ k
 |o::rest,A,k=>by
  rw[iu]at k |-;exact xY (λk=>Bm (λB i=>sM a rest i) a k) (λk=>sM a rest k) k
theorem L4{h}{K K'}{r}(a:∀v h,K v h->K' v h)(k:AP h K r):AP h K' r:=by
 cases r<;>first|exact k.elim|exact⟨k.1,a _ _ k.2⟩
theorem Dx{h}{K K'}{r}(a:∀v,K v->K' v)(k:wh P h K r):wh P h K' r:=by
 obtain⟨v,i,e⟩:=pW.1 k;exact pW.2 ⟨v,i,a v e⟩
theorem Ik{a h}{j sz}{K K'}{z}(e:∀v h,K v h->K' v h)(k:rh a h j sz K z):rh a h j sz K' z:=by
 cases z with
 |none=>exact k
 |some z=>exact⟨k.1,k.2.1,k.2.2.1,e _ _ k.2.2.2⟩
theorem Il{K K'}{r}(a:∀h,K h->K' h)(k:pD K r):pD K' r:=by
 cases r<;>first|exact k.elim|exact a _ k
theorem J8{l h}{e}{K K'}{o}(q:∀h,K h->K' h)(k:ul P l h e K o):ul P l h e K' o:=by
 cases o with
 |store T a x=>
  have k1:(match e a with|.ptr id j i o=>fI l id=true/\pD K (gC P T (.ptr id j i o) (e x) h)|_=>False):=k;show (match e a with|.ptr id j i o=>fI l id=true/\pD K' (gC P T (.ptr id j i o) (e x) h)|_=>False);generalize e a=z at k1 |-
  cases z<;>first|exact k1.elim|exact⟨k1.1,Il q k1.2⟩
 |_=>exact k.elim
theorem Kx{h}{e}{K K'}{o}(a:K->K')(k:uA P h e K o):uA P h e K' o:=by
 cases o<;>first|exact k.elim|exact⟨k.1,a k.2⟩
theorem L2{a h}{K K'}{r}(e:∀v h,K v h->K' v h)(k:Fa a h K r):Fa a h K' r:=by
 cases r<;>first|exact k.elim|exact⟨k.1,e _ _ k.2⟩
theorem KE{ap:Bool}{l h:Heap}{K K':AV->Heap->Prop}{r:OR}(a:∀v h,K v h->K' v h)(k:mb P ap l h K r):mb P ap l h K' r:=by
 cases r<;>first|exact k.elim|skip
 .simp only[mb]at k |-;split at k
  .rename_i e;rw[if_pos e];exact⟨k.1,k.2.1,a _ _ k.2.2⟩
  .rename_i e;rw[if_neg e];exact⟨k.1,k.2.1,a _ _ k.2.2⟩
 .obtain⟨q,o,⟨v,j,i⟩|⟨v,id,j,i,u⟩⟩:=k
  .exact⟨q,o,.inl ⟨v,j,a _ _ i⟩⟩
  .exact⟨q,o,.inr ⟨v,id,j,i,a _ _ u⟩⟩
theorem L1{t:Nat}{ap:Bool}{e h:Heap}{K K':AV->Heap->Prop}{F:Heap->OR}(i:∀v h,K v h->K' v h)(k:pm P t ap e h K F):pm P t ap e h K' F:=by
 unfold pm at k |-;split at k
 .rename_i a;rw[if_pos a];exact KE i k
 .rename_i a;rw[if_neg a];exact L2 i k
theorem J5{A}{K K'}{r}(j:∀e B,Q e B->Q' e B)(l:∀v,K v->K' v)(k:wT P Q A K r):wT P Q' A K' r:=by
 cases r<;>first|exact k.elim|skip
 rcases k with⟨v,i,a⟩|⟨v,i,a⟩
 .exact .inl ⟨v,i,l v a⟩
 .exact .inr ⟨v,i,λT=>j _ _ (a T)⟩
theorem Ja{j}{A}{K K'}{r}(l:∀e B,Q e B->Q' e B)(o:∀v h,K v h->K' v h)(k:qK P H Q j A K r):qK P H Q' j A K' r:=by
 cases r<;>first|exact k.elim|skip
 intro M0 m w a z u;obtain⟨D,C⟩:=k M0 m w a z u;refine⟨D,C.mono λ_ _ q=>?_⟩;obtain⟨r,h',m',i,rest⟩:=q;exact⟨r,h',m',by cases r<;>first|exact⟨i.1,o _ _ i.2⟩|exact λT y=>l _ _ (i T y),rest⟩
theorem eo(a:∀e B,Q e B->Q' e B):∀(l) {i} {A},bE P H ops Q l i A->bE P H ops Q' l i A
 |[],_,_,k=>a _ _ k
 |o::rest,i,A,k=>by
  rw[bE]at k |-;refine xY (λk=>?_) (λk=>eo a rest k) k;cases j:bA H o<;>rw[j]at k
  .exact Bm (K:=λB=>bE P H ops Q rest B.h B) (K':=λB=>bE P H ops Q' rest B.h B) (λB q=>eo a rest q) a k
  .exact L4 (λv h hh=>eo a rest hh) k
  .exact Dx (λv hh=>eo a rest hh) k
  .exact Dx (λv hh=>eo a rest hh) k
  .exact Ik (λv h hh=>eo a rest hh) k
  .exact J8 (λh hh=>eo a rest hh) k
  .exact Kx (λhh=>eo a rest hh) k
  .exact L1 (λv h hh=>eo a rest hh) k
  .exact J5 a (λv hh=>eo a rest hh) k
  .exact Ja a (λv h hh=>eo a rest hh) k
theorem oK{K K'}(h:∀B,K B->K' B)(a:∀e B,Q e B->Q' e B):∀e B,eH K Q e B->eH K' Q' e B
 |.normal,_,k=>h _ k
 |.exit _,_,k=>a _ _ k
 |.ret,_,k=>a _ _ k
 |.panic _,_,k=>a _ _ k
theorem Gu{id}(a:∀e B,Q e B->Q' e B):∀e B,lR id Q e B->lR id Q' e B
 |.normal,_,k=>a _ _ k
 |.exit j,B,k=>by
  have i:if j=id then Q .normal B else Q (.exit j) B:=k
  show if j=id then Q' .normal B else Q' (.exit j) B
  by_cases h:j=id
  .rw[if_pos h]at i |-;exact a _ _ i
  .rw[if_neg h]at i |-;exact a _ _ i
 |.ret,_,k=>a _ _ k
 |.panic _,_,k=>a _ _ k
theorem D4(a:∀e B,Q e B->Q' e B){A}{l}{o}(k:mv Q A l o):mv Q' A l o:=by
 unfold mv at k |-;split at k
 .refine⟨k.1,?_⟩;have:=k.2;unfold tk at this |-;split at this<;>first|exact this.elim|exact a _ _ this
 .exact k.elim
theorem jt:∀(c) {Q Q'} {A},(∀e B,Q e B->Q' e B)->wp P H c Q A->wp P H c Q' A:=by
 intro c
 induction c with
 |skip=>intro Q Q' A a k;exact a _ _ k
 |region id ops q=>
  intro Q Q' A a k
  cases q with
  |false=>exact sM a _ k
  |true=>exact eo a _ k
 |seq x y i j=>intro Q Q' A a k;exact i (oK (λB o=>j a o) a) k
 |cond c x y i j=>
  intro Q Q' A a k;unfold wp CS at k |-;split at k
  .exact⟨λe=>i a (k.1 e),λe=>j a (k.2 e)⟩
  .exact k.elim
 |block id x i=>intro Q Q' A a k;exact i (Gu a) k
 |loop x i=>
  intro Q Q' A a k
  exact λX F=>k X λB o=>F B (i (oK (λB o=>o) a) o)
 |rangeFunc g ps assign body _ _=>
  intro Q Q' A a k;have u:∀{X Y:Prop} {c:Rc},(X->Y)->tD X c->tD Y c:=λhx z=>by
   rename_i c;cases c<;>first|exact False.elim z|exact hx z
  refine u (λk=>?_) k;unfold ux at k |-;split at k
  .rename_i L args K;intro M0 m w l G E;obtain⟨J,I⟩:=k M0 m w l G E;refine⟨J,I.mono λ_ _ D=>?_⟩;obtain⟨r,h',m',C,rest⟩:=D;refine⟨r,h',m',?_,rest⟩
   cases r with
   |ret v=>exact D4 a C
   |panic v=>exact a _ _ C
  .exact k.elim
 |exit id=>intro Q Q' A a k;exact a _ _ k
 |ret=>intro Q Q' A a k;exact a _ _ k
 |scope x i=>intro Q Q' A a k;exact i a k
 |label id=>intro Q Q' A a k;exact a _ _ k
 |_=>intro Q Q' A a k;exact k.elim
theorem zW{x}{A}(k:wp P H x (eH (λB=>wp P H (.loop x) Q B) Q) A):wp P H (.loop x) Q A:=by
 intro X a;refine⟨A,fS.refl A,a A (jt x (oK (λB e=>?_) λ_ _ h=>h) k)⟩;exact e X a
theorem FE{x}{A}{σ:Type}(I:σ->AAct)(μ:σ->Nat)(i)(C:fS P A (I i))(o:∀s,wp P H x (eH (λB=>∃a,μ a<μ s/\fS P B (I a)) Q) (I s)):wp P H (.loop x) Q A:=by
 intro X u;have e:∀(j:Nat) (s:σ),μ s=j->X (I s):=by
  intro j
  induction j using Nat.strongRecOn with
  |_ j l=>
   intro s q;refine u _ (jt x (oK (λB v=>?_) λ_ _ h=>h) (o s));obtain⟨a,z,y⟩:=v;exact⟨_,y,l (μ a) (q▸z) a rfl⟩
 exact⟨_,C,e _ i rfl⟩
def cN:List (Nat×AV)->Nat->AV
 |[],_=>.undef
 |(k,v)::l,t=>if t=k then v else cN l t
theorem KV(t):cN [] t=.undef:=rfl
theorem pM(k)(v)(l)(t):cN ((k,v)::l) t=if t=k then v else cN l t:=rfl
theorem xn:∀(l) (t),cN l t=.undef\/(t,cN l t)∈l
 |[],_=>.inl rfl
 |(k,v)::l,t=>by
  rw[pM];by_cases h:t=k
  .subst h;rw[if_pos rfl];exact .inr (by simp)
  .rw[if_neg h];rcases xn l t with a|a
   .exact .inl a
   .exact .inr (CI _ a)
theorem JX{A}(l)(h:∀p,p∈l->A.tmps p.1=p.2):fS P A { A with tmps:=cN l }:=
 JU λt=>by
  rcases xn l t with a|a
  .exact .inr a
  .exact .inl (h _ a).symm
def g8 {σ:Type} (P:Program) (V:σ->Prop) (I:σ->AAct) (μ:σ->Nat) (s:σ):AAct->Prop:=λB=>∃s',V s'/\μ s'<μ s/\fS P B (I s')
theorem L8{σ}{x}{A}(V:σ->Prop)(I)(μ)(a)(i:V a)(v:fS P A (I a))(j:∀s,V s->@W ⟨P,H,x,eH (g8 P V I μ s) Q⟩ (I s)):@W ⟨P,H,.loop x,Q⟩ A:=by
 refine FE (σ:={ s:σ // V s }) (λs=>I s.1) (λs=>μ s.1) ⟨a,i⟩ v λs=>?_;refine jt x (oK (λB l=>?_) λ_ _ h=>h) (j s.1 s.2);obtain⟨e,u,q,o⟩:=l;exact⟨⟨e,u⟩,q,o⟩
theorem aY{x}{A}(k:@W ⟨P,H,x,eH (wp P H (.loop x) Q) Q⟩ A):@W ⟨P,H,.loop x,Q⟩ A:=zW k
theorem Uq(a)(l):(List.toArray (a::l)).getD 0 0=a:=rfl
theorem Up(a b)(l):(List.toArray (a::b::l)).getD 1 0=b:=rfl
end Abs
end Go.Proofs.YtmndpldajflenaaGreatDoor
