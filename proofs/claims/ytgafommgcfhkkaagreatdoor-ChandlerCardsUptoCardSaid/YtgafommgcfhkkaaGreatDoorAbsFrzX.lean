/- CONTRACTS of functions and laws. No conditions but those in the heads. -/
import Derived.Test.YtgafommgcfhkkaaGreatDoorAbsDraw
set_option linter.all false
namespace Go.Proofs.YtgafommgcfhkkaaGreatDoor
namespace Abs
variable {P:Program} {M0:Nat->Prop}
inductive Flat:PV->Prop
 |bool (b:Bool):Flat (.bool b)
 |int (k:IntKind) (n:Int):Flat (.int k n)
 |str (s:ByteArray):Flat (.str s)
 |agg {cs:List PV} (h:∀(i:Nat) (c:PV),cs[i]?=some c->Flat c):Flat (.agg cs)
 |tuple {cs:List PV} (h:∀(i:Nat) (c:PV),cs[i]?=some c->Flat c):Flat (.tuple cs)
 |nilslice:Flat .nilslice
 |nilptr:Flat .nilptr
 |nilfunc:Flat .nilfunc
 |iface {t:TypeId} {q:PV} (h:Flat q):Flat (.iface t q)
 |niliface:Flat .niliface
 |any:Flat .any
def Flat.nil(i:Nat)(c)(h:([]:List PV)[i]?=some c):Flat c:=by simp at h
def Flat.cons{q}{l}(e:Flat q)(j:∀(i:Nat) (c),l[i]?=some c->Flat c)(i:Nat)(c)(h:(q::l)[i]?=some c):Flat c:=by
 grind
def Flat.rep{q}(y:Flat q){M z}{w w'}{v}(h:RepP M w v q):RepP z w' v q:=by
 induction y generalizing v with
 |bool b=>cases h;exact .bool b
 |int k n=>cases h;exact .int k n
 |str s=>cases h;exact .str s
 |agg _ e=>cases h with|agg l u j=>exact .agg l u λi c hi=>e i c hi (j i c hi)
 |tuple _ e=>cases h with|tuple l j=>exact .tuple l λi c hi=>e i c hi (j i c hi)
 |nilslice=>cases h;exact .nilslice
 |nilptr=>cases h;exact .nilptr
 |nilfunc=>cases h;exact .nilfunc
 |iface _ e=>cases h with|iface j=>exact .iface (e j)
 |niliface=>cases h;exact .niliface
 |any=>cases h<;>constructor
def aE (F:AV->Option PV):List AV->Option (List PV)
 |[]=>some []
 |a::l=>match F a,aE F l with|some q,some r=>some (q::r)|_,_=>none
def mB (F:AV->Option PV) (ver:Nat):Option AObj->Option (Nat×List PV)
 |some (.row sz xs)=>if xs.length=ver then(aE F xs).map λl=>(sz,l) else none
 |_=>none
def bi:Nat->Heap->AV->Option PV
 |_,_,.p v=>some v
 |0,_,_=>none
 |n+1,h,.ptr id ver i o=>(mB (bi n h) ver h[id]?).map λq=>.ptr q.1 q.2 i o
 |n+1,h,.slice id ver off len=>(mB (bi n h) ver h[id]?).map λq=>.slice q.1 ((q.2.take (off+len)).drop off) false
 |n+1,h,.func fn first cap=>match aE (bi n h) first,aE (bi n h) cap with|some a,some b=>some (.func fn a b)|_,_=>none
 |n+1,h,.agg cs=>(aE (bi n h) cs).map .agg
 |n+1,h,.tuple cs=>(aE (bi n h) cs).map .tuple
 |_+1,_,.ref .mp _=>some .any
 |_,_,_=>none
def oH (h:Heap) (a:AV):Option PV:=bi 8 h a
def ib (h:Heap) (l:List AV):Option (List PV):=aE (oH h) l
def bH(n)(h)(v):bi n h (.p v)=some v:=by cases n<;>rfl
def aW{α:Type}{F}(e:∀v,F (.p v)=some v)(f):∀l:List α,aE F (l.map λx=>.p (f x))=some (l.map f)
 |[]=>rfl
 |x::r=>by rw[bf,aE,aW e f r,e];rfl
def yR{α:Type}(n)(h)(f)(l:List α):aE (bi n h) (l.map λx=>.p (f x))=some (l.map f):=aW (bH n h) f l
def gx{F}:∀{l} {j},aE F l=some j->l.length=j.length/\∀(i:Nat) (q),j[i]?=some q->∃a,l[i]?=some a/\F a=some q
 |[],j,e=>by cases e;simp
 |a::l,j,e=>by
  unfold aE at e;split at e
  .rename_i q r A z;cases e;obtain⟨y,v⟩:=gx z;grind
  .cases e
def rP{F}{i}{o}{q}(e:mB F i o=some q):∃xs,o=some (.row q.1 xs)/\xs.length=i/\aE F xs=some q.2:=by
 unfold mB at e;split at e
 .rename_i sz xs;split at e
  .rename_i j;simp only[bg]at e;grind
  .cases e
 .cases e
def pz{n}{h}{a}{q}(j:a.isCell=true)(e:bi n h a=some q):q.isCell=true:=by
 cases a with
 |p v=>rw[bH]at e;cases e;exact j
 |agg cs=>cases j
 |tuple cs=>cases j
 |undef=>cases j
 |ref k id=>cases n<;>cases k<;>first|(cases e;rfl)|cases e
 |ptr id l i o=>
  cases n with
  |zero=>cases e
  |succ n=>
   unfold bi at e;simp only[bg]at e;grind[PV.isCell]
 |slice id l off len=>
  cases n with
  |zero=>cases e
  |succ n=>
   unfold bi at e;simp only[bg]at e;grind[PV.isCell]
 |func fn first cap=>
  cases n with
  |zero=>cases e
  |succ n=>
   unfold bi at e;grind[PV.isCell]
def Ar{q:PV}(h:q.isCell=true):q.cells=[q]:=by cases q<;>first|rfl|cases h
def C2{n}{h}{a}{q}{cs}(e:bi n h a=some q)(u:a.cells=some cs) :
  q.cells.length=cs.length/\∀(j:Nat) (c),q.cells[j]?=some c->∃x m,cs[j]?=some x/\m<=n/\bi m h x=some c:=by
 have single:a.isCell=true->cs=[a]->q.cells.length=cs.length/\∀(j:Nat) (c:PV),q.cells[j]?=some c->∃x m,cs[j]?=some x/\m<=n/\bi m h x=some c:=by
  intro D y;have C:=pz D e;rw[Ar C,y];refine⟨rfl,λj c z=>?_⟩
  cases j with
  |zero=>grind
  |succ j=>simp at z
 cases a with
 |p v=>
  rw[bH]at e;cases e;have y:cs=q.cells.map .p:=by
   cases q with
   |tuple l=>simp[AV.cells]at u
   |_=>(simp[AV.cells]at u;exact u.symm)
  subst y
  refine⟨by simp,λj c z=>⟨.p c,n,by simp[z],ba _,bH _ _ _⟩⟩
 |agg l=>
  cases n with
  |zero=>cases e
  |succ n=>
   unfold bi at e;simp only[bg]at e;obtain⟨K,J,rfl⟩:=e;simp only[AV.cells,iu]at u;subst u;obtain⟨I,G⟩:=gx J;grind[PV.cells,bi]
 |tuple l=>cases u
 |undef=>cases u
 |ptr id A i o=>cases u;exact single rfl rfl
 |slice id A i o=>cases u;exact single rfl rfl
 |func fn a b=>cases u;exact single rfl rfl
 |ref k id=>cases u;exact single rfl rfl
def Lq{S}(N:HOk P M0 S){n id sz b}{xs}{l}(R:∀m,m<=n->∀(v) (a) (q),Rep M0 S v a->bi m S.h a=some q->RepP M0 S.w v q)
  (G:S.h[id]?=some (.row sz xs)) (L:S.m.getD id none=some b) (U:aE (bi n S.h) xs=some l) :
  ∃C T,S.w.heap[b]?=some (.cells C T (0,0))/\l.length=xs.length/\l.length*sz<=C.size/\(∀x,x∈l->x.cells.length=sz/\∀c,c∈x.cells->c.isCell=true)/\¬M0 b /\
   (∀k,k<l.length*sz->S.w.cell? ⟨b,0+k,none⟩=some (C.getD k undef))/\∀(i j) (x c),l[i]?=some x->x.cells[j]?=some c->RepP M0 S.w (C.getD (i*sz+j) undef) c:=by
 obtain⟨C,T,M,y,K⟩:=gK N G L;obtain⟨u,I⟩:=gx U;have e:∀(i:Nat) (q:PV),l[i]?=some q->(q.cells.length=sz/\∀c,c∈q.cells->c.isCell=true)/\∀(j:Nat) (c:PV),q.cells[j]?=some c->RepP M0 S.w (C.getD (i*sz+j) undef) c:=by
  intro i q hi;obtain⟨a,h0,J⟩:=I i q hi;obtain⟨cs,Z,h2,E⟩:=K i a h0;obtain⟨h4,O⟩:=C2 J Z;refine⟨⟨by omega,λc X=>?_⟩,λj c z=>?_⟩
  .obtain⟨j,z⟩:=fN X;obtain⟨x,m,A,_,D⟩:=O j c z;exact pz (E j x A).1 D
  .obtain⟨x,m,A,Y,D⟩:=O j c z;exact R m Y _ x c (qF (E j x A).1 (E j x A).2) D
 refine⟨C,T,M,u.symm,by grind,λx hx=>?_,λF=>(N.m0 b F).2 (aB (cI L)),λk V=>?_,λi j x c hx z=>(e i x hx).2 j c z⟩
 .obtain⟨i,hi⟩:=fN hx;grind
 .rw[gZ];exact kP M k (by grind)
def VE{S}(hS:HOk P M0 S):∀(n) (v) (a) (q),Rep M0 S v a->bi n S.h a=some q->RepP M0 S.w v q:=by
 intro n
 induction n using Nat.strongRecOn with
 |_ n K=>
  intro v a q J e
  cases a with
  |p v'=>rw[bH]at e;cases e;exact RepP.less (show RepP (Avoid M0 S.m) S.w v q from J) λb O=>.inl O
  |ref k id=>
   cases n<;>cases k<;>first|(cases e;obtain⟨⟨b,O⟩,_⟩:=J;rw[O];exact .anyMap)|cases e
  |undef=>cases n<;>cases e
  |ptr id Y i o=>
   cases n with
   |zero=>cases e
   |succ n=>
    unfold bi at e;simp only[bg]at e;obtain⟨⟨sz,l⟩,A,rfl⟩:=e;obtain⟨xs,j,V,E⟩:=rP A;obtain⟨b,N,rfl⟩:=dM J.2 j V;obtain⟨C,T,O,A,G,L,D,u,z⟩:=Lq hS (λm N=>K m (by omega)) j N E
    exact .ptr (off:=0) (λk=>C.getD k undef) (by omega) L (λ_=>D) u z
  |slice id Y off len=>
   cases n with
   |zero=>cases e
   |succ n=>
    unfold bi at e;simp only[bg]at e;obtain⟨⟨sz,l⟩,A,rfl⟩:=e;obtain⟨xs,j,V,E⟩:=rP A;dsimp only at j E |-;have I:len=0->(l.take (off+len)).drop off=[]:=by
     intro e;subst e;apply qx;simp
    rcases dM J.2 j V with⟨X,_,_,a,cap,rfl⟩|⟨b,cap,T',n',N,rfl,⟨A,G⟩,_,_⟩|⟨_,rfl,X⟩
    .rw[I X];exact .empty (by simp)
    .obtain⟨C,T,O,L,D,u,z,U,R⟩:=Lq hS (λm N=>K m (by omega)) j N E;have:=wE (M:=M0) (w:=S.w) (b:=b) (off:=0) (sz:=sz) (l:=off) (r:=off+len) (xs:=l) (λk=>C.getD k undef) (by omega) (by omega) u (λ_=>z) U R (cap:=cap) (full:=false) (by omega) (by simp);grind
    .rw[I X];exact .empty (by simp)
  |func fn first cap=>
   cases n with
   |zero=>cases e
   |succ n=>
    obtain⟨F,C,rfl,A,G⟩:=J;unfold bi at e;split at e
    .rename_i x y hx hy;cases e;obtain⟨L,D⟩:=gx hx;obtain⟨u,z⟩:=gx hy;refine .func (by rw[A.1,L]) (by rw[G.1,u]) (λi c hi=>?_) λi c hi=>?_
     .obtain⟨a,U,R⟩:=D i c hi;exact K n (by omega) _ a c (nj (A.2 i a U)) R
     .obtain⟨a,U,R⟩:=z i c hi;exact K n (by omega) _ a c (nj (G.2 i a U)) R
    .cases e
  |agg cs=>
   cases n with
   |zero=>cases e
   |succ n=>
    obtain⟨C,rfl,hc,A,G⟩:=J;unfold bi at e;simp only[bg]at e;obtain⟨l,E,rfl⟩:=e;obtain⟨L,D⟩:=gx E;refine .agg (by omega) (λc Z=>?_) λi c hi=>?_
    .obtain⟨i,hi⟩:=fN Z;obtain⟨a,u,z⟩:=D i c hi;exact pz (hc a (aB u)) z
    .obtain⟨a,u,z⟩:=D i c hi
     exact K n (by omega) _ a c (qF (hc a (aB u)) (G i a u)) z
  |tuple cs=>
   cases n with
   |zero=>cases e
   |succ n=>
    obtain⟨C,rfl,A,G⟩:=J;unfold bi at e;simp only[bg]at e;obtain⟨l,E,rfl⟩:=e;obtain⟨L,D⟩:=gx E;refine .tuple (by omega) λi c hi=>?_;obtain⟨a,u,z⟩:=D i c hi;exact K n (by omega) _ a c (qG (G i a u)) z
def rO{S}(i:HOk P M0 S){v}{a}{q}(e:Rep M0 S v a)(h:oH S.h a=some q):RepP M0 S.w v q:=VE i 8 v a q e h
def vD{h}{l}{j}(e:ib h l=some j):l.length=j.length/\∀(i:Nat) (q),j[i]?=some q->∃a,l[i]?=some a/\oH h a=some q:=gx e
def yJ{f}{args}{pargs}{v}{h}(J:af P f pargs v)(L:ib h args=some pargs)(D:Flat v):aw P f args h (λr h'=>r=.ret (.p v)/\h'=h):=by
 intro M0 m w l q j;obtain⟨F,I⟩:=vD L;have z:oX M0 w l pargs:=by
  refine⟨by rw[j.1,F],λi c hi=>?_⟩;obtain⟨a,y,u⟩:=I i c hi;exact rO (S:=⟨m,h,w⟩) q (j.2 i a y) u
 obtain⟨y,u⟩:=J M0 w l (λb K=>(q.m0 b K).1) q.gl.1 z;refine⟨y,u.mono λe w' hh=>?_⟩;obtain⟨v',rfl,E,A⟩:=hh;obtain⟨G,C⟩:=rR q A;exact⟨.ret (.p v),_,m,⟨rfl,rfl⟩,C,G,D.rep E⟩
def gV{F G}(i:∀a q,F a=some q->G a=some q):∀{l} {j},aE F l=some j->aE G l=some j
 |[],j,e=>e
 |a::l,j,e=>by
  unfold aE at e |-;split at e
  .rename_i q r v u;rw[i _ _ v,gV i u];exact e
  .cases e
def C0{F G}(j:∀a q,F a=some q->G a=some q){h u}(v:dr h u){id i:Nat}{q}(e:mB F i h[id]?=some q):mB G i u[id]?=some q:=by
 obtain⟨xs,A,z,y⟩:=rP e;rw[vw v A];show (if xs.length=i then(aE G xs).map λl=>(q.1,l) else none)=some q;rw[if_pos z,gV j y];rfl
def SG{h u}(D:dr h u):∀(n) (a) (q),bi n h a=some q->bi n u a=some q:=by
 intro n
 induction n with
 |zero=>intro a q e;cases a<;>first|exact e|cases e
 |succ n A=>
  intro a q e
  cases a with
  |p v=>exact e
  |ptr id C i o=>
   unfold bi at e |-;simp only[bg]at e |-;obtain⟨j,z,l⟩:=e
   exact⟨j,C0 A D z,l⟩
  |slice id C i o=>
   unfold bi at e |-;simp only[bg]at e |-;obtain⟨j,z,l⟩:=e
   exact⟨j,C0 A D z,l⟩
  |func fn first cap=>
   unfold bi at e |-;split at e
   .rename_i x y hx E;rw[gV A hx,gV A E];exact e
   .cases e
  |agg cs=>
   unfold bi at e |-;simp only[bg]at e |-;obtain⟨j,z,l⟩:=e
   exact⟨j,gV A z,l⟩
  |tuple cs=>
   unfold bi at e |-;simp only[bg]at e |-;obtain⟨j,z,l⟩:=e
   exact⟨j,gV A z,l⟩
  |ref k id=>cases k<;>first|exact e|cases e
  |undef=>cases e
def IJ{h u}(j:dr h u){l}{i}(e:ib h l=some i):ib u l=some i:=gV (SG j 8) e
def bq{H}{ops}{rest}{Q}{dst}{A}{f}{args}{pargs}{v}(j:af P f pargs v)(l:ib A.h args=some pargs)(e:Flat v)
  (h:@WO ⟨P,H,ops,rest,Q⟩ (A.put dst (.p v) A.h)):@WF ⟨P,H,ops,rest,Q,dst⟩ A f args:=by
 refine(yJ j l e).mono λr h' i=>?_;obtain⟨rfl,rfl⟩:=i;exact h
def pC{H}{ops}{rest}{Q}{o}{e i}{A}{f}{args}{pargs}{v}(l:af P f pargs v)(q:ib i args=some pargs)(j:Flat v)
  (h:@WD ⟨P,H,ops,rest,Q⟩ e (A.put o.dst (.p v) A.h)):@JW ⟨P,H,ops,rest,Q,o⟩ e i A (.call f args):=
 ⟨.p v,λ_ e=>yJ l (IJ e q) j,h⟩
variable {P:Program} {M0:Nat->Prop}
def gU.refl(A):gU P A A:=⟨rfl,rfl,λ_ _ _ _ m _ _ h=>⟨m,h⟩⟩
def gU.trans{A B C}(h:gU P A B)(k:gU P B C):gU P A C:=
 ⟨k.1.trans h.1,k.2.1.trans h.2.1,λM0 e b cs0 m a w j=>let ⟨i,l⟩:=h.2.2 M0 e b cs0 m a w j;k.2.2 M0 e b cs0 i a w l⟩
def OO{A}{T}(h:∀t,T t=A.tmps t\/T t=.undef):gU P A { A with tmps:=T }:=
 ⟨rfl,rfl,λM0 j b cs0 m a w i=>⟨m,i.size,λt=>by
  show Rep M0 ⟨m,A.h,w⟩ _ (T t);rcases h t with e|e
  .rw[e];exact i.tmps t
  .rw[e];exact trivial,i.hok,i.ev,i.le,i.df,i.rc⟩⟩
def Mem.cut (S:Mem) (l:Nat):Mem:=⟨S.m.take l,S.h.take l,S.w⟩
def zP{S:Mem}{l b}(h:Own (S.cut l).m b):Own S.m b:=rb h
def Ga{S:Mem}{l b}(h:Avoid M0 (S.cut l).m b):Avoid M0 S.m b:=h.imp id zP
def vF{S:Mem}{l id}(h:id<l):(S.cut l).h[id]?=S.h[id]?:=by
 grind[Mem.cut]
def C'{S:Mem}{l id}(h:id<l):(S.cut l).m.getD id none=S.m.getD id none:=by
 grind[Mem.cut]
def ei.cut{S}{l id e}{X}(h:ei S id e X)(i:id<l):ei (S.cut l) id e X:=by
 grind[ei,Mem.cut]
def dw.cut{S}{l}{v}{a}(h:dw M0 S v a)(e:fb l a):dw M0 (S.cut l) v a:=by
 cases a with
 |p q=>exact RepP.less (show RepP (Avoid M0 S.m) S.w v q from h) λb e=>Ga e
 |ptr id j i o=>exact⟨h.1,h.2.cut e⟩
 |slice id j off len=>exact⟨h.1,ei.cut (S:=S) h.2 e⟩
 |ref k id=>
  refine⟨h.1,?_⟩;rw[vF e,C' e]
  exact h.2
 |undef=>exact trivial
 |agg cs=>exact h.elim
 |func fn f c=>exact h.elim
 |tuple u=>exact h.elim
def cb.cut{S}{l}{v}{a}(h:cb M0 S v a)(j:gn l a):cb M0 (S.cut l) v a:=by
 cases a with
 |func fn f c=>
  obtain⟨F,C,rfl,A,z⟩:=h
  exact⟨F,C,rfl,A.imp λv c y u=>dw.cut u (j.1 c y),z.imp λv c y u=>dw.cut u (j.2 c y)⟩
 |p q=>exact dw.cut (M0:=M0) (a:=.p q) h j
 |ptr id e i o=>exact dw.cut (M0:=M0) (a:=.ptr id e i o) h j
 |slice id e off len=>exact dw.cut (M0:=M0) (a:=.slice id e off len) h j
 |ref k id=>exact dw.cut (M0:=M0) (a:=.ref k id) h j
 |undef=>exact trivial
 |agg cs=>exact h.elim
 |tuple D=>exact h.elim
def eE.cut{S}{l}{v}{a}(h:eE M0 S v a)(j:iD l a):eE M0 (S.cut l) v a:=by
 cases a with
 |agg cs=>
  obtain⟨C,rfl,A,z⟩:=h
  exact⟨C,rfl,A,z.imp λv c y u=>cb.cut u (j c y)⟩
 |p q=>exact cb.cut (M0:=M0) (a:=.p q) h j
 |ptr id e i o=>exact cb.cut (M0:=M0) (a:=.ptr id e i o) h j
 |slice id e off len=>exact cb.cut (M0:=M0) (a:=.slice id e off len) h j
 |ref k id=>exact cb.cut (M0:=M0) (a:=.ref k id) h j
 |func fn f c=>exact cb.cut (M0:=M0) (a:=.func fn f c) h j
 |undef=>exact trivial
 |tuple D=>exact h.elim
def Rep.cut{S}{l}{v}{a}(h:Rep M0 S v a)(e:below l a):Rep M0 (S.cut l) v a:=by
 cases a with
 |tuple cs=>
  obtain⟨C,rfl,z⟩:=h
  exact⟨C,rfl,z.imp λv c y u=>eE.cut u (e c y)⟩
 |p q=>exact eE.cut (M0:=M0) (a:=.p q) h e
 |ptr id j i o=>exact eE.cut (M0:=M0) (a:=.ptr id j i o) h e
 |slice id j off len=>exact eE.cut (M0:=M0) (a:=.slice id j off len) h e
 |ref k id=>exact eE.cut (M0:=M0) (a:=.ref k id) h e
 |func fn f c=>exact eE.cut (M0:=M0) (a:=.func fn f c) h e
 |undef=>exact trivial
 |agg cs=>exact eE.cut (M0:=M0) (a:=.agg cs) h e
def bB (l:Nat):AObj->Prop
 |.row _ xs=>∀x,x∈xs->below l x
 |.loop _ tmps _ _ _ _ _=>∀t,below l (tmps t)
 |.bld _ _ x=>fb l x
 |_=>True
def tP (l:Nat):ADef->Prop
 |.fn _ args=>∀a,a∈args->below l a
 |.collected id=>id<l
def K6{l}{x c}{cs}(hx:x.cells=some cs)(j:below l x)(e:c∈cs)(i:c.isCell=true):gn l c:=by
 rcases y' hx with⟨u,rfl⟩|⟨u,rfl⟩|⟨v,rfl⟩
 .simp only[AV.cells,PV.cells,iu]at hx;subst hx;simp only[cA]at e;obtain⟨q,_,rfl⟩:=e;exact trivial
 .simp only[AV.cells,iu]at hx;subst hx;exact j c e
 .simp only[dW]at e;subst e;cases c<;>first|exact j|exact trivial|cases v
def Ed{S:Mem}(D:HOk P M0 S){l:Nat}(R:∀(id:Nat) (o:AObj),id<l->S.h[id]?=some o->bB l o):HOk P M0 (S.cut l) where
 len:=by simp[Mem.cut,D.len]
 lt:=λb h=>D.lt b (zP h)
 m0:=λb h=>⟨(D.m0 b h).1,λU=>(D.m0 b h).2 (zP U)⟩
 gl:=D.gl.fr (λ_ _ _=>rfl) λb I=>.inl (zP I)
 inj:=λi j b hi X=>by
  have K:∀k:Nat,(S.cut l).m[k]?=some (some b)->S.m[k]?=some (some b):=by
   intro k V;have z:(S.m.take l)[k]?=some (some b):=V;rw[om]at z;split at z
   .exact z
   .cases z
  exact D.inj i j b (K i hi) (K j X)
 obj:=λid o A=>by
  have E:id<l:=by
   have:=(aC.1 A).1;simp[Mem.cut]at this;omega
  rw[vF E]at A;rw[C' E];have I:=R id o E A;have:=D.obj id o A
  cases o with
  |row sz xs=>
   rcases this with h|⟨b,T,C,y,u,e,J⟩
   .exact .inl h
   .refine .inr ⟨b,T,C,y,u,e,λi x hx=>?_⟩;obtain⟨cs,G,O,N⟩:=J i x hx
    exact⟨cs,G,O,λj c L=>⟨(N j c L).1,cb.cut (N j c L).2 (K6 G (I x (aB hx)) (aB L) (N j c L).1)⟩⟩
  |loop n tmps ps assign body st pend=>
   obtain⟨b,r,y,u,e,J,G⟩:=this
   exact⟨b,r,y,u,e,λt=>Rep.cut (J t) (I t),G⟩
  |strIter s p=>exact this
  |mp es=>
   obtain⟨b,C,F,y,u,e⟩:=this
   exact⟨b,C,F,y,u,e.monoP λv q M=>cb.cut M trivial⟩
  |memo f=>
   obtain⟨Y,es,Z,b,C,F,y,u,e⟩:=this
   exact⟨Y,es,Z,b,C,F,y,u,e.monoP λv q M=>cb.cut M trivial⟩
  |dblock=>exact this
  |bld T el x=>
   obtain⟨b,p,v,y,u,e,J,G,O⟩:=this
   exact⟨b,p,v,y,u,e,J,dw.cut G I,O⟩
  |dead=>exact trivial
def IV{S}{l}:∀{ds} {xs},DefsRep P M0 S ds xs->(∀x,x∈xs->tP l x)->DefsRep P M0 (S.cut l) ds xs
 |[],[],_,_=>trivial
 |d::ds,x::xs,h,u=>by
  refine⟨?_,IV h.2 λy A=>u y (by simp[A])⟩;have hx:=u x (by simp);have z:=h.1
  cases x with
  |fn g args=>
   obtain⟨fv,cap,e,i,q,j,E⟩:=z
   exact⟨fv,cap,e,i,q,j,E.imp λv c D C=>Rep.cut C (hx c D)⟩
  |collected id=>
   obtain⟨bl,q,j⟩:=z;refine⟨bl,q,?_⟩;rw[vF hx,C' hx]
   exact j
 |[],_::_,h,_=>h.elim
 |_::_,[],h,_=>h.elim
def RL{A}{T}(l)(M:A.bs<=l)(D:l<=A.h.length)(F:∀t,(T t=A.tmps t/\below l (A.tmps t))\/T t=.undef)
  (G:∀(id) (o),id<l->A.h[id]?=some o->bB l o) (I:∀x,x∈A.df->tP l x):gU P A { A with tmps:=T,h:=A.h.take l }:=
 ⟨rfl,rfl,λM0 N b cs0 m a w i=>⟨m.take l,i.size,λt=>by
   show Rep M0 (Mem.cut ⟨m,A.h,w⟩ l) _ (T t);rcases F t with⟨e,u⟩|e
   .rw[e];exact Rep.cut (i.tmps t) u
   .rw[e];exact trivial,
  Ed (S:=⟨m,A.h,w⟩) i.hok G,
  {fr:=i.ev.fr
   sub:=λx hx=>i.ev.sub x (rb hx)
   obj:=λid o q z=>by
    obtain⟨E,y,v⟩:=i.ev.obj id o q z;grind },
  ⟨by grind,i.le.2⟩,IV (S:=⟨m,A.h,w⟩) i.df I,by
   have:=i.rc;cases J:A.rc<;>rw[J]at this<;>first|exact this|skip
   obtain⟨y,v,v',C,L,K⟩:=this
   exact⟨y,v,v',C,L,RepP.less K λb u=>Ga (S:=⟨m,A.h,w⟩) (l:=l) u⟩⟩⟩
def Hi{A}{T}(sz)(y:∀t,T t=A.tmps t\/(A.tmps t=.p .nilslice/\T t=.slice A.h.length 0 0 0)):gU P A { A with tmps:=T,h:=A.h++[.row sz []] }:=
 ⟨rfl,rfl,λM0 E b cs0 m a w j=>⟨m++[none],by
  have z:=Av (S:=⟨m,A.h,w⟩) j.hok sz;have l:=Ev.nil (S:=⟨m,A.h,w⟩) j.hok sz;have i:=j.ahead (m':=m++[none]) (h':=A.h++[.row sz []]) (w':=w) l z;refine⟨i.size,λt=>?_,i.hok,i.ev,i.le,i.df,i.rc⟩;show Rep M0 ⟨m++[none],A.h++[.row sz []],w⟩ _ (T t);rcases y t with e|⟨D,C⟩
  .rw[e];exact i.tmps t
  .rw[C];have u:=j.tmps t;rw[D]at u;have q:RepP (Avoid M0 m) w (a.tmps.getD t undef) .nilslice:=u;generalize a.tmps.getD t undef=v at q |-;cases q;refine⟨⟨none,0,0,rfl⟩,.inr ⟨sz,[],by simp,ba _,λ_=>.inr (.inr ⟨?_,rfl,rfl⟩)⟩⟩;have:=j.hok.len;grind⟩⟩
def sg (h:Heap):AEnd->Option PV
 |.ret a=>oH h a
 |_=>none
def Cr(N:eV P){H}{f}{fn}{c}{pargs}{v}{rs}{n}(L:P.funcs[f]?=some fn)(u:fn.body=some c)(A:fn.results.toList=rs)(I:fn.ntmps=n)(hok:cu H fn=true)
  (y:pargs.length<=n) (hw:wp P H c (j7 P rs 0 (λ_ r h=>sg h r=some v)) (start n .no (pargs.map .p) [])):af P f pargs v:=by
 intro M0 w l M K F;have D:eD (Rep M0 ⟨[],[],w⟩) l (pargs.map .p):=by
  refine⟨by simpa using F.1,λi c E=>?_⟩;simp only[cX,bg]at E;obtain⟨q,G,rfl⟩:=E;exact aR ((F.2 i q G).mono (λ_ _ _=>rfl) (λb u=>by
   rcases u with u|u
   .exact .inl u
   .simp[Own]at u))
 have:=kW N (h:=[]) (R:=λr h=>sg h r=some v) L u A I hok (by simpa using y) hw M0 [] w l (pu M K) D;refine⟨this.1,this.2.mono λe w' h=>?_⟩;obtain⟨r,h',m',z,C,J,j⟩:=h
 cases e with
 |returned v'=>
  cases r with
  |panic v=>cases z
  |ret a=>exact⟨v',rfl,rO (S:=⟨m',h',w'⟩) J j z,C.fr⟩
 |panicked O=>
  cases r with
  |panic v=>cases z
  |ret a=>exact j.elim
 |outgrown=>exact j.elim
variable {P:Program} {H:Hints} {ops:Array Oper} {Q Q':Ex->AAct->Prop}
def Fi{A}{dst}{K K'}{r}(h:∀B,K B->K' B)(q:∀e B,Q e B->Q' e B)(k:mZ P A dst K Q r):mZ P A dst K' Q' r:=by
 cases r with
 |call f args=>
  intro M0 m w i y u;obtain⟨C,z⟩:=k M0 m w i y u;refine⟨C,z.mono λ_ _ F=>?_⟩;obtain⟨r,h',m',j,rest⟩:=F
  exact⟨r,h',m',by cases r<;>first|exact h _ j|exact q _ _ j,rest⟩
 |yld l args=>
  refine⟨k.1,λM0 m w i bl y u D=>?_⟩;obtain⟨f,tmps,I,G,C,z⟩:=k.2 M0 m w i bl y u D;refine⟨f,tmps,I,G,C,λc cs=>?_⟩;obtain⟨e,w',⟨r,h',m',j,rest⟩,E⟩:=z c cs
  exact⟨e,w',⟨r,h',m',by cases r<;>first|exact h _ j|exact q _ _ j,rest⟩,E⟩
 |panic v=>exact q _ _ k
 |val v h'=>grind[mZ]
 |skip h'=>grind[mZ]
 |dfr d=>exact qI (Q:=Q') h k
 |recover=>exact qI (Q:=Q') h k
 |stuck=>exact k
def B2{X Y j i}{o}(q:X ()->j ())(l:Y ()->i ())(k:ui X Y o):ui j i o:=by
 cases o with
 |none=>exact k
 |some b=>exact⟨λe=>q (k.1 e),λe=>l (k.2 e)⟩
def wj(i:∀e B,Q e B->Q' e B):∀(l) {A},ke P H ops Q l A->ke P H ops Q' l A
 |[],_,k=>i _ _ k
 |o::rest,A,k=>by
  rw[ke]at k |-;exact B2 (λk=>Fi (λB j=>wj i rest j) i k) (λk=>wj i rest k) k
def Rm{h}{K K'}{r}(e:∀v h,K v h->K' v h)(k:EJ h K r):EJ h K' r:=by
 cases r<;>first|exact k.elim|grind[EJ]
def HL{h}{K K'}{r}(e:∀v,K v->K' v)(k:Ap P h K r):Ap P h K' r:=by
 obtain⟨v,j,i⟩:=s2.1 k;exact s2.2 ⟨v,j,e v i⟩
def MN{e h}{j sz}{K K'}{z}(i:∀v h,K v h->K' v h)(k:uk e h j sz K z):uk e h j sz K' z:=by
 cases z with
 |none=>exact k
 |some z=>grind[uk]
def MO{K K'}{r}(e:∀h,K h->K' h)(k:sy K r):sy K' r:=by
 cases r<;>first|exact k.elim|exact e _ k
def O6{l h}{e}{K K'}{o}(q:∀h,K h->K' h)(k:x3 P l h e K o):x3 P l h e K' o:=by
 cases o with
 |store T a x=>
  have k1:(match e a with|.ptr id j i o=>j9 l id=true/\sy K (iZ P T (.ptr id j i o) (e x) h)|_=>False):=k;show (match e a with|.ptr id j i o=>j9 l id=true/\sy K' (iZ P T (.ptr id j i o) (e x) h)|_=>False);generalize e a=z at k1 |-
  cases z<;>first|exact k1.elim|exact⟨k1.1,MO q k1.2⟩
 |_=>exact k.elim
def PB{h}{e}{K K'}{o}(i:K->K')(k:yt P h e K o):yt P h e K' o:=by
 cases o<;>first|exact k.elim|grind[yt]
def Rk{e h}{K K'}{r}(i:∀v h,K v h->K' v h)(k:BK e h K r):BK e h K' r:=by
 cases r<;>first|exact k.elim|grind[BK]
def O0{A}{K K'}{r}(l:∀e B,Q e B->Q' e B)(q:∀v,K v->K' v)(k:A4 P Q A K r):A4 P Q' A K' r:=by
 cases r<;>first|exact k.elim|skip
 rcases k with⟨v,j,i⟩|⟨v,j,i⟩
 .grind[A4]
 .exact .inr ⟨v,j,λT=>l _ _ (i T)⟩
def NM{l}{A}{K K'}{r}(q:∀e B,Q e B->Q' e B)(u:∀v h,K v h->K' v h)(k:tR P H Q l A K r):tR P H Q' l A K' r:=by
 cases r<;>first|exact k.elim|skip
 intro M0 m w i D z;obtain⟨F,E⟩:=k M0 m w i D z;refine⟨F,E.mono λ_ _ y=>?_⟩;obtain⟨r,h',m',j,rest⟩:=y;exact⟨r,h',m',by cases r<;>first|grind[Ej,dr,Ng]|grind[Ej,dr,Ng],rest⟩
def fz(i:∀e B,Q e B->Q' e B):∀(l) {j} {A},cp P H ops Q l j A->cp P H ops Q' l j A
 |[],_,_,k=>i _ _ k
 |o::rest,j,A,k=>by
  rw[cp]at k |-;refine B2 (λk=>?_) (λk=>fz i rest k) k;cases q:cr H o<;>rw[q]at k
  .exact Fi (K:=λB=>cp P H ops Q rest B.h B) (K':=λB=>cp P H ops Q' rest B.h B) (λB u=>fz i rest u) i k
  .exact Rm (λv h hh=>fz i rest hh) k
  .exact HL (λv hh=>fz i rest hh) k
  .exact HL (λv hh=>fz i rest hh) k
  .exact MN (λv h hh=>fz i rest hh) k
  .exact O6 (λh hh=>fz i rest hh) k
  .exact PB (λhh=>fz i rest hh) k
  .exact Rk (λv h hh=>fz i rest hh) k
  .exact O0 i (λv hh=>fz i rest hh) k
  .exact NM i (λv h hh=>fz i rest hh) k
def rE{K K'}(h:∀B,K B->K' B)(i:∀e B,Q e B->Q' e B):∀e B,fh K Q e B->fh K' Q' e B
 |.normal,_,k=>h _ k
 |.exit _,_,k=>i _ _ k
 |.ret,_,k=>i _ _ k
 |.panic _,_,k=>i _ _ k
def K1{id}(i:∀e B,Q e B->Q' e B):∀e B,lE id Q e B->lE id Q' e B
 |.normal,_,k=>i _ _ k
 |.exit j,B,k=>by
  grind[lE]
 |.ret,_,k=>i _ _ k
 |.panic _,_,k=>i _ _ k
def In(i:∀e B,Q e B->Q' e B){A}{l}{o}(k:pj Q A l o):pj Q' A l o:=by
 unfold pj at k |-;split at k
 .refine⟨k.1,?_⟩;have:=k.2;unfold wX at this |-;grind
 .exact k.elim
def ll:∀(c) {Q Q'} {A},(∀e B,Q e B->Q' e B)->wp P H c Q A->wp P H c Q' A:=by
 intro c
 induction c with
 |skip=>grind[wp]
 |region id ops z=>
  intro Q Q' A i k
  cases z with
  |false=>exact wj i _ k
  |true=>exact fz i _ k
 |seq x y j l=>intro Q Q' A i k;exact j (rE (λB u=>l i u) i) k
 |cond c x y j l=>
  intro Q Q' A i k;unfold wp G3 at k |-;split at k
  .grind[J5,wp]
  .exact k.elim
 |block id x j=>intro Q Q' A i k;exact j (K1 i) k
 |loop x j=>
  intro Q Q' A i k
  exact λX I=>k X λB u=>I B (j (rE (λB u=>u) i) u)
 |rangeFunc g ps assign body _ _=>
  intro Q Q' A i k;have C:∀{X Y:Prop} {c:Rc},(X->Y)->xg X c->xg Y c:=λhx D=>by
   rename_i c;cases c<;>first|grind[xg]|exact hx D
  refine C (λk=>?_) k;unfold yp at k |-;split at k
  .rename_i N args M;intro M0 m w q J G;obtain⟨L,K⟩:=k M0 m w q J G;refine⟨L,K.mono λ_ _ F=>?_⟩;obtain⟨r,h',m',E,rest⟩:=F;refine⟨r,h',m',?_,rest⟩
   cases r with
   |ret v=>exact In i E
   |panic v=>exact i _ _ E
  .exact k.elim
 |exit id=>grind[wp]
 |ret=>grind[wp]
 |scope x j=>grind[wp]
 |label id=>grind[wp]
 |_=>simp[wp]
def DI{x}{A}(k:wp P H x (fh (λB=>wp P H (.loop x) Q B) Q) A):wp P H (.loop x) Q A:=by
 intro X e;refine⟨A,gU.refl A,e A (ll x (rE (λB i=>?_) λ_ _ h=>h) k)⟩;exact i X e
def J9{x}{A}{σ:Type}(I:σ->AAct)(μ:σ->Nat)(l)(E:gU P A (I l))(u:∀s,wp P H x (fh (λB=>∃e,μ e<μ s/\gU P B (I e)) Q) (I s)):wp P H (.loop x) Q A:=by
 intro X y;have i:∀(j:Nat) (s:σ),μ s=j->X (I s):=by
  intro j
  induction j using Nat.strongRecOn with
  |_ j q=>
   intro s v;refine y _ (ll x (rE (λB z=>?_) λ_ _ h=>h) (u s));grind
 grind
def cM:List (Nat×AV)->Nat->AV
 |[],_=>.undef
 |(k,v)::l,t=>if t=k then v else cM l t
def PS(t):cM [] t=.undef:=rfl
def sH(k)(v)(l)(t):cM ((k,v)::l) t=if t=k then v else cM l t:=rfl
def Br:∀(l) (t),cM l t=.undef\/(t,cM l t)∈l
 |[],_=>.inl rfl
 |(k,v)::l,t=>by
  rw[sH];by_cases h:t=k
  .grind
  .rw[if_neg h];rcases Br l t with e|e
   .exact .inl e
   grind
def OQ{A}(l)(h:∀p,p∈l->A.tmps p.1=p.2):gU P A { A with tmps:=cM l }:=
 OO λt=>by
  rcases Br l t with e|e
  .exact .inr e
  grind
def iA {σ:Type} (P:Program) (V:σ->Prop) (I:σ->AAct) (μ:σ->Nat) (s:σ):AAct->Prop:=λB=>∃s',V s'/\μ s'<μ s/\gU P B (I s')
def Rp{σ}{x}{A}(V:σ->Prop)(I)(μ)(e)(j:V e)(z:gU P A (I e))(l:∀s,V s->@W ⟨P,H,x,fh (iA P V I μ s) Q⟩ (I s)):@W ⟨P,H,.loop x,Q⟩ A:=by
 refine J9 (σ:={ s:σ // V s }) (λs=>I s.1) (λs=>μ s.1) ⟨e,j⟩ z λs=>?_;refine ll x (rE (λB q=>?_) λ_ _ h=>h) (l s.1 s.2);obtain⟨i,y,v,u⟩:=q;exact⟨⟨i,y⟩,v,u⟩
def bw{x}{A}(k:@W ⟨P,H,x,fh (wp P H (.loop x) Q) Q⟩ A):@W ⟨P,H,.loop x,Q⟩ A:=DI k
def zai(a)(l):(List.toArray (a::l)).getD 0 0=a:=rfl
def zah(a b)(l):(List.toArray (a::b::l)).getD 1 0=b:=rfl
open Go.IntKind (i64)
variable {P:Program} {M0:Nat->Prop}
def Az{n}{R:Value->AV->Prop}:∀(ps) (j) (xs) (T:Array Value) (F),T.size=n->(∀p,p∈ps->p<n)->j.length=xs.length ->
  (∀(i) (x),xs[i]?=some x->R (j.getD i undef) x)->(∀t,R (T.getD t undef) (F t)) ->
  ((ps.zip j).foldl (λT (x)=>T.setIfInBounds x.1 x.2) T).size=n/\∀t,R (((ps.zip j).foldl (λT (x)=>T.setIfInBounds x.1 x.2) T).getD t undef) (iX F ps xs t)
 |[],_,_,T,F,e,_,_,_,l=>⟨e,l⟩
 |p::ps,[],xs,T,F,e,_,u,_,l=>by
  have:xs=[]:=by cases xs<;>simp_all
  simp_all[iX]
 |p::ps,a::j,[],T,F,e,_,u,_,l=>by simp at u
 |p::ps,a::j,x::xs,T,F,e,A,u,hx,l=>by
  have z:p<n:=A p (by simp);refine Az ps j xs (T.setIfInBounds p a) (xW F p x) (by simpa using e) (λq D=>A q (by simp[D])) (by simpa using u) (λi y C=>by simpa using hx (i+1) y (by simpa using C)) λt=>?_;rw[Hk];by_cases v:t=p
  .subst v;have E:=hx 0 x rfl;simp_all
  .rw[if_neg v];have:=l t;simpa[Xo (Ne.symm v)]using this
def RF(ps:Array Tmp)(e)(T:Array Value):(ps.zip e).foldl (λtmps (x)=>tmps.setIfInBounds x.1 x.2) T=(ps.toList.zip e.toList).foldl (λT (x)=>T.setIfInBounds x.1 x.2) T:=by
 rw[<-OJ];simp
def sK(hD:eV P){H}{l n}{tmps}{ps}{assign body}{args}{h}{R}
  (ho:h[l]?=some (.loop n tmps ps assign body .ready none)) (hps:qH n ps=true) (hlen:ps.size=args.length) (hoka:dV H n assign=true) (hokb:dV H n body=true)
  (hw:wp P H assign (Me n tmps ps assign body l h.length (λA=>wp P H body (vj n tmps ps assign body l h.length R) A)) { n:=n,bs:=h.length,rc:=.rnd,tmps:=iX tmps ps.toList args,h:=h,df:=[] }) :
  ve P l args h R:=by
 refine⟨⟨_,ho,rfl⟩,λM0 m w cargs bl hS ha hbl=>?_⟩;obtain⟨bl',r,hbl',hrb,hrn,hrt,hrp,hra,hrbd,hrst,hrpd,hrf⟩:=hS.obj l _ ho;have:bl'=bl:=by
  have e:m.getD l none=some bl':=hbl';rw[hbl]at e;cases e;rfl
 subst this;have hrb':w.heap[bl']?=some (.loop r):=hrb;have hsz:cargs.size=r.params.size:=by rw[ha.1,hrp,hlen]
 refine⟨r.fn,_,assign,body,by rw[run_yield hrb' hsz,hra,hrbd],λc cs=>?_⟩;have hfold:=Az (n:=n) (R:=Rep M0 ⟨m,h,w⟩) ps.toList cargs.toList args r.tmps tmps hrn (λp hp=>by
   simp only[qH,kl,decide_eq_true_eq]at hps
   grind) (by grind) (λi x hx=>by simpa using ha.2 i x hx) hrt
 obtain⟨T,hTdef⟩:∃T,T=(r.params.zip cargs).foldl (λtmps (x:Tmp×Value)=>tmps.setIfInBounds x.1 x.2) r.tmps:=⟨_,rfl⟩
 have hT2:T=(ps.toList.zip cargs.toList).foldl (λT (x:Tmp×Value)=>T.setIfInBounds x.1 x.2) r.tmps:=by rw[hTdef,RF,hrp]
 rw[<-hT2]at hfold;rw[<-hTdef];have hround:Frame.round bl' r.fn T assign body .normal=({ (default:Frame) with fn:=r.fn,kind:=.normal,roundOf:=some bl' }).atR { tmps:=T,defers:=[] } [.code assign,.beginRound,.code body]:=rfl;rw[hround];obtain⟨b,hb⟩:∃b:Frame,b={ (default:Frame) with fn:=r.fn,kind:=.normal,roundOf:=some bl' }:=⟨_,rfl⟩
 have hbr:b.roundOf=some bl':=by rw[hb]
 have hbk:b.kind=.normal:=by rw[hb]
 rw[<-hb]
 have hr0:Rel P M0 ⟨m,h,w⟩ b (c::cs) m { n:=n,bs:=h.length,rc:=.rnd,tmps:=iX tmps ps.toList args,h:=h,df:=[] } { tmps:=T,defers:=[] } w:=
  {size:=hfold.1,tmps:=hfold.2,hok:=hS,ev:=Ev.refl _ _,le:=⟨ba _,by grind⟩,df:=trivial,rc:=⟨by rw[hbr];rfl,hbk⟩ }
 obtain⟨e,A1,m1,a1,w1,hq,hn1,hr1,harr⟩:=B1 hD assign (k:=[.beginRound,.code body]) hoka hr0 rfl hw
 cases e with
 |exit id=>exact hq.elim
 |ret=>exact hq.elim
 |panic v=>exact hq.elim
 |normal=>
  obtain⟨hbs1,hob1,hK⟩:=hq;have hlt:l<h.length:=(aC.1 ho).1;have block:∀{m':List (Option Nat)} {h':Heap} {w':World} {x:AObj},Ev h.length ⟨m,h,w⟩ ⟨m',h',w'⟩->h'[l]?=some x->x.tag=some .yl->m'.getD l none=some bl':=by
   intro m' h' w' x hev hx htag;obtain⟨o',ho',hoe⟩:=hev.obj l _ hlt ho;have:o'=x:=by
    have e:h'[l]?=some o':=ho';rw[hx]at e;cases e;rfl
   subst this;rcases hoe with he|⟨_,_,_,he,_⟩|⟨_,_,he⟩
   .rw[he]at htag;cases htag
   .cases he
   .grind
  have bs_of:∀{m':List (Option Nat)} {A':AAct} {a':Act} {w':World},Rel P M0 ⟨m,h,w⟩ b (c::cs) m' A' a' w'->A'.bs=h.length->Ev h.length ⟨m,h,w⟩ ⟨m',A'.h,w'⟩:=by
   intro m' A' a' w' hr hbs;have:=hr.ev;rwa [hbs]at this
  have hB:wp P H body (vj n tmps ps assign body l h.length R) { A1 with h:=A1.h.set l (.loop n tmps ps assign body .busy none) }:=hK;have hm1:=block (bs_of hr1 hbs1) hob1 rfl;obtain⟨bl1,r1,e1,hr1b,hr1n,hr1t,hr1p,hr1a,hr1bd,hr1s,hr1pd,hr1f⟩:=hr1.hok.obj l _ hob1;have:bl1=bl':=by
   have e:m1.getD l none=some bl1:=e1;rw[hm1]at e;cases e;rfl
  subst this;have hr1b':w1.heap[bl1]?=some (.loop r1):=hr1b;have hbegin:=run_beginRound (P:=P) hr1b' hr1s
  obtain⟨hk2,hev2⟩:=lq (S:=⟨m1,A1.h,w1⟩) hr1.hok (o:=.loop n tmps ps assign body .busy none) (ob:=.loop { r1 with state:=.busy }) hm1 hob1 hr1b (wQ hr1b) (by simp)
   (.inr (.inr ⟨by simp[AObj.tag],rfl,rfl⟩)) (λhev hx=>⟨bl1,{ r1 with state:=.busy },rfl,hx,hr1n,λt=>hev.keep (hr1t t),hr1p,hr1a,hr1bd,rfl,hr1pd,hr1f⟩)
  have hr2:=hr1.ahead hev2 hk2;obtain⟨e,A3,m3,a3,w3,hq3,hn3,hr3,harr3⟩:=B1 hD body (k:=[]) hokb hr2 (show A1.n=n from hn1) hB;have hrc1:bR A1.rc (c::cs)=c::cs:=by
   have:=hr1.rc
   cases hc:A1.rc with
   |got v=>rw[hc]at this;exact absurd this.1 (by rw[hbr];simp)
   |_=>rfl
  have hrc3:bR A3.rc (c::cs)=c::cs:=by
   have:=hr3.rc
   cases hc:A3.rc with
   |got v=>rw[hc]at this;exact absurd this.1 (by rw[hbr];simp)
   |_=>rfl
  have hcs0:bR Rc.rnd (c::cs)=c::cs:=rfl;have hstart:Steps P (lone (b.atR { tmps:=T,defers:=[] } [.code assign,.beginRound,.code body]) (c::cs) w) (lone (b.atR a1 [.code body]) (c::cs) (w1.putObj bl1 (.loop { r1 with state:=.busy }))):=by
   have h1:Steps P (lone (b.atR { tmps:=T,defers:=[] } [.code assign,.beginRound,.code body]) (bR Rc.rnd (c::cs)) w) (lone (b.atR a1 [.beginRound,.code body]) (bR A1.rc (c::cs)) w1):=harr;rw[hrc1]at h1;exact Steps.trans h1 (.one (stepR_beginRound hbr hbegin))
  have fin:∀(jump:Option Code) (st:LoopState) (t:Bool),(if jump.isNone then LoopState.ready else .done)=st->jump.isNone=t->A3.bs=h.length->(∃st pend,A3.h[l]?=some (.loop n tmps ps assign body st pend)) ->
    R (.ret (.p (.bool t))) (A3.h.set l (.loop n tmps ps assign body st jump)) ->
    (∀v w',(Instr.endRound bl1 jump).run P w3=.ok v w'->Steps P (lone (b.atR a1 [.code body]) (c::cs) (w1.putObj bl1 (.loop { r1 with state:=.busy }))) (lone (c.finish v) cs w')) ->
    ∃e w',uc P M0 ⟨m,h,w⟩ R e w'/\match e with
     |.returned v=>Steps P (lone (b.atR { tmps:=T,defers:=[] } [.code assign,.beginRound,.code body]) (c::cs) w) (lone (c.finish v) cs w')
     |.panicked ch=>Steps P (lone (b.atR { tmps:=T,defers:=[] } [.code assign,.beginRound,.code body]) (c::cs) w) (lone (c.raise ch) cs w')
     |.outgrown=>False:=by
   intro jump st t hst ht hbs3 ⟨st3,pend3,hob3⟩ hR hsteps;have hm3:=block (bs_of hr3 hbs3) hob3 rfl;obtain⟨bl3,r3,e3,hr3b,hr3n,hr3t,hr3p,hr3a,hr3bd,hr3s,hr3pd,hr3f⟩:=hr3.hok.obj l _ hob3;have:bl3=bl1:=by
    have e:m3.getD l none=some bl3:=e3;rw[hm3]at e;cases e;rfl
   subst this;have hr3b':w3.heap[bl3]?=some (.loop r3):=hr3b;have hend:=run_endRound (P:=P) jump hr3b';rw[hst,ht]at hend
   obtain⟨hk4,hev4⟩:=lq (S:=⟨m3,A3.h,w3⟩) hr3.hok (o:=.loop n tmps ps assign body st jump) (ob:=.loop { r3 with state:=st,pending:=jump }) hm3 hob3 hr3b (wQ hr3b) (by simp)
    (.inr (.inr ⟨by simp[AObj.tag],rfl,rfl⟩)) (λhev hx=>⟨bl3,{ r3 with state:=st,pending:=jump },rfl,hx,hr3n,λt=>hev.keep (hr3t t),hr3p,hr3a,hr3bd,rfl,rfl,hr3f⟩)
   refine⟨.returned (.bool t),_,⟨.ret (.p (.bool t)),_,m3,hR,(bs_of hr3 hbs3).trans (hev4.mono (by
     have:=(bs_of hr3 hbs3).len (ba _)
     exact this)),hk4,RepP.bool t⟩,Steps.trans hstart (hsteps _ _ hend)⟩
  have harr3':uI P (Avoid M0 m3) (lone (b.atR a1 [.code body]) (c::cs) (w1.putObj bl1 (.loop { r1 with state:=.busy }))) b [] (c::cs) a3 w3 e:=by
   have h1:uI P (Avoid M0 m3) (lone (b.atR a1 [.code body]) (bR A1.rc (c::cs)) (w1.putObj bl1 (.loop { r1 with state:=.busy }))) b [] (bR A3.rc (c::cs)) a3 w3 e:=harr3;rwa [hrc1,hrc3]at h1
  cases e with
  |panic v=>
   obtain⟨hbs3,hdf3,hR3⟩:=hq3;obtain⟨v',t,hv',hs3⟩:=harr3';have hd3:a3.defers=[]:=by
    have:=hr3.df;rw[hdf3]at this
    cases hd:a3.defers with
    |nil=>rfl
    |cons d ds=>rw[hd]at this;exact this.elim
   refine⟨.panicked [{ v:=v',recovered:=false }],w3,⟨.panic v,A3.h,m3,hR3,bs_of hr3 hbs3,hr3.hok,v',rfl,hv'⟩,Steps.trans hstart (Steps.trans hs3 (.one (step_leave_panicked ⟨rfl,hd3,?_⟩)))⟩
   exact hr3.le.2
  |normal=>exact fin none .ready true rfl rfl hq3.1 hq3.2.1 hq3.2.2 λv w' hend=>Steps.trans harr3' (.one (stepR_round_end hbr hbk hend))
  |ret=>exact fin (some .ret) .done false rfl rfl hq3.1 hq3.2.1 hq3.2.2 λv w' hend=>(by
         obtain⟨k₁,hs⟩:=harr3'
         exact Steps.trans hs (.one (stepR_round_ret hbr hbk hend)))
  |exit id=>exact fin (some (.exit id)) .done false rfl rfl hq3.1 hq3.2.1 hq3.2.2 λv w' hend=>(by
         obtain⟨k₁,hx,hs⟩:=harr3'.2 rfl
         exact Steps.trans hs (.one (stepR_round_exit hbr hbk hx hend)))
variable {P:Program} {H:Hints} {Q:Cont}
def bP (T:Nat->AV):List Nat->List (Nat×AV)->List (Nat×AV)
 |[],l=>l
 |t::r,l=>(t,T t)::bP T r l
def PT(T)(l):bP T [] l=l:=rfl
def CN(T)(t)(r)(l):bP T (t::r) l=(t,T t)::bP T r l:=rfl
def gw (A:AAct) (live:List Nat) (l:List (Nat×AV)) (h:Heap):AAct:={ A with tmps:=cM (bP A.tmps live l),h:=h }
def oE (bs:Nat) (df:List ADef) (T:Nat->AV) (h0:Heap) (l:List (Nat×AV)) (h:Heap):Prop:=
 bs<=h.length/\h0.take h.length=h/\(∀p,p∈l->T p.1=p.2/\below h.length p.2)/\(∀o,o∈h->bB h.length o)/\∀x,x∈df->tP h.length x
def su{A B}{live}{l}{h}(D:B.n=A.n)(u:B.bs=A.bs)(C:B.rc=A.rc)(q:B.df=A.df)
  (F:oE A.bs A.df B.tmps B.h (bP A.tmps live l) h):gU P B (gw A live l h):=by
 obtain⟨K,y,J,I,G⟩:=F;have j:h.length<=B.h.length:=by
  have:(B.h.take h.length).length=h.length:=by rw[y]
  simp only[wg]at this;omega
 have e:gw A live l h={ B with tmps:=cM (bP A.tmps live l),h:=B.h.take h.length }:=by
  unfold gw;rw[y];cases A;cases B;simp only at D u C q;subst D u C q;rfl
 rw[e];refine RL h.length (by rw[u];exact K) j (λt=>?_) (λid o z E=>?_) (by rw[q];exact G)
 .rcases Br (bP A.tmps live l) t with v|v
  .exact .inr v
  grind
 .refine I o ?_;rw[<-y];exact aB (i:=id) (by grind)
def dl{σ}{x}{A}(live)(V)(μ)(M:σ->List (Nat×AV))(i:σ->Heap)(e)(j:V e)
  (q:oE A.bs A.df A.tmps A.h (bP A.tmps live (M e)) (i e))
  (l:∀s,V s->@W ⟨P,H,x,fh (iA P V (λs=>gw A live (M s) (i s)) μ s) Q⟩ { n:=A.n,bs:=A.bs,rc:=A.rc,tmps:=cM (bP A.tmps live (M s)),h:=i s,df:=A.df }) :
  @W ⟨P,H,.loop x,Q⟩ A:=
 Rp V (λs=>gw A live (M s) (i s)) μ e j (su rfl rfl rfl rfl q) l
def mR{σ}{x}{A}(live)(V)(μ)(M:σ->List (Nat×AV))(e)(i:V e)
  (l:oE A.bs A.df A.tmps A.h (bP A.tmps live (M e)) A.h)
  (j:∀s,V s->@W ⟨P,H,x,fh (iA P V (λs=>gw A live (M s) A.h) μ s) Q⟩ { n:=A.n,bs:=A.bs,rc:=A.rc,tmps:=cM (bP A.tmps live (M s)),h:=A.h,df:=A.df }) :
  @W ⟨P,H,.loop x,Q⟩ A:=dl live V μ M (λ_=>A.h) e i l j
def aF{σ}{V}{μ}{M:σ->List (Nat×AV)}{i:σ->Heap}{live}{s}{A B}(e)(z:V e)(y:μ e<μ s)
  (v:oE A.bs A.df B.tmps B.h (bP A.tmps live (M e)) (i e)) (l:B.n=A.n:=by rfl) (u:B.bs=A.bs:=by rfl) (j:B.rc=A.rc:=by rfl) (q:B.df=A.df:=by rfl) :
  @WQ ⟨fh (iA P V (λs=>gw A live (M s) (i s)) μ s) Q⟩ .normal B:=⟨e,z,y,su l u j q v⟩
section
variable (n:Nat)
def WJ(v):below n (.p v)=True:=rfl
def Re(id e i o):below n (.ptr id e i o)=(id<n):=rfl
def K4(id e i o):below n (.slice id e i o)=(id<n):=rfl
def Rd(k)(id):below n (.ref k id)=(id<n):=rfl
def K2:below n .undef=True:=rfl
def Od(f)(a c):below n (.func f a c)=((∀x,x∈a->fb n x)/\∀x,x∈c->fb n x):=rfl
def Rf(cs):below n (.agg cs)=∀x,x∈cs->gn n x:=rfl
def K3(cs):below n (.tuple cs)=∀x,x∈cs->iD n x:=rfl
def Ts(v):iD n (.p v)=True:=rfl
def Og(id e i o):iD n (.ptr id e i o)=(id<n):=rfl
def JB(id e i o):iD n (.slice id e i o)=(id<n):=rfl
def K7(f)(a c):iD n (.func f a c)=((∀x,x∈a->fb n x)/\∀x,x∈c->fb n x):=rfl
def Oh(cs):iD n (.agg cs)=∀x,x∈cs->gn n x:=rfl
def Tr(v):gn n (.p v)=True:=rfl
def Of(id e i o):gn n (.ptr id e i o)=(id<n):=rfl
def JA(id e i o):gn n (.slice id e i o)=(id<n):=rfl
def K5(f)(a c):gn n (.func f a c)=((∀x,x∈a->fb n x)/\∀x,x∈c->fb n x):=rfl
def Tt(v):fb n (.p v)=True:=rfl
def Oi(id e i o):fb n (.ptr id e i o)=(id<n):=rfl
def JC(id e i o):fb n (.slice id e i o)=(id<n):=rfl
def H8(sz)(xs):bB n (.row sz xs)=∀x,x∈xs->below n x:=rfl
def H9(T e)(x):bB n (.bld T e x)=fb n x:=rfl
def Kt(es):bB n (.mp es)=True:=rfl
def Gr(s)(p):bB n (.strIter s p)=True:=rfl
def Gs:bB n .dead=True:=rfl
def Cx:bB n .dblock=True:=rfl
def Gq(k)(T)(ps)(a b)(e)(i):bB n (.loop k T ps a b e i)=∀t,below n (T t):=rfl
def KJ(f)(args):tP n (.fn f args)=∀a,a∈args->below n a:=rfl
def IW(id):tP n (.collected id)=(id<n):=rfl
end
def eR{x}{A B}(hw:gU P A B)(k:@W ⟨P,H,.loop x,Q⟩ B):@W ⟨P,H,.loop x,Q⟩ A:=by
 intro X e;obtain⟨C,j,i⟩:=k X e;grind[gU,Bx.val]
def bt{x}{A}(t sz)(e:A.tmps t=.p .nilslice)(k:@W ⟨P,H,.loop x,Q⟩ { n:=A.n,bs:=A.bs,rc:=A.rc,tmps:=xW A.tmps t (.slice A.h.length 0 0 0),h:=A.h++[.row sz []],df:=A.df }) :
  @W ⟨P,H,.loop x,Q⟩ A:=by
 refine eR (Hi sz (T:=xW A.tmps t (.slice A.h.length 0 0 0)) λu=>?_) k;grind[xW]
def Fe{α:Type}(f):∀l:List α,iP (l.map λx=>.p (f x))=some (l.map f)
 |[]=>rfl
 |x::r=>by rw[bf,iP,Fe f r];rfl
def xZ{α β:Type}(f:α->β)(l:List α):(l.map f).take l.length=l.map f:=by
 rw[dt];simp
def sb (q v:PV):Prop:=q=v\/(q=.nilslice/\∃sz,v=.slice sz [] false)
def t8:List PV->List PV->Prop
 |[],[]=>True
 |q::a,v::b=>sb q v/\t8 a b
 |_,_=>False
def t7 (q v:PV):Prop:=sb q v\/∃a b,q=.tuple a/\v=.tuple b/\t8 a b
def sb.rep{q v}(h:sb q v){M}{w}{u}(e:RepP M w u q):RepP M w u v:=by
 rcases h with rfl|⟨rfl,sz,rfl⟩
 .exact e
 .cases e;exact .empty (by simp)
def t8.get:∀{a b},t8 a b->a.length=b.length/\∀(i:Nat) (v),b[i]?=some v->∃q,a[i]?=some q/\sb q v
 |[],[],_=>⟨rfl,by simp⟩
 |q::a,v::b,h=>by
  obtain⟨j,e⟩:=t8.get h.2;refine⟨by simp[j],λi u hi=>?_⟩
  cases i with
  |zero=>cases hi;exact⟨q,rfl,h.1⟩
  |succ i=>grind
 |[],_::_,h=>h.elim
 |_::_,[],h=>h.elim
def t7.rep{q v}(h:t7 q v){M}{w}{u}(e:RepP M w u q):RepP M w u v:=by
 rcases h with h|⟨a,b,rfl,rfl,h⟩
 .exact h.rep e
 .obtain⟨A,y⟩:=h.get
  cases e with
  |tuple z e=>
   refine .tuple (by omega) λi c hi=>?_;obtain⟨q,j,l⟩:=y i c hi;exact l.rep (e i q j)
def af.less{f}{args}{q v}(z:af P f args q)(h:t7 q v):af P f args v:=by
 intro M0 w i C u A;obtain⟨E,D⟩:=z M0 w i C u A;refine⟨E,D.mono λe w' y=>?_⟩;obtain⟨v',rfl,l,j⟩:=y;exact⟨v',rfl,h.rep l,j⟩
def af.argless{f}{args args'}{v}(z:af P f args v)(h:t8 args' args):af P f args' v:=by
 intro M0 w e A y j;obtain⟨D,C⟩:=h.get;refine z M0 w e A y ⟨by rw[j.1,D],λi c hi=>?_⟩;obtain⟨q,l,u⟩:=C i c hi;exact u.rep (j.2 i q l)
def Bh(N:eV P){H}{f}{fn}{c}{pargs}{v}{rs}{n}(L:P.funcs[f]?=some fn)(u:fn.body=some c)(C:fn.results.toList=rs)(I:fn.ntmps=n)(hok:cu H fn=true)
  (A:pargs.length<=n) (hw:wp P H c (j7 P rs 0 (λ_ r h=>∃q,sg h r=some q/\t7 q v)) (start n .no (pargs.map .p) [])):af P f pargs v:=by
 intro M0 w l M K G;have E:eD (Rep M0 ⟨[],[],w⟩) l (pargs.map .p):=by
  refine⟨by simpa using G.1,λi c F=>?_⟩;simp only[cX,bg]at F;obtain⟨q,z,rfl⟩:=F;exact aR ((G.2 i q z).mono (λ_ _ _=>rfl) (λb u=>by
   rcases u with u|u
   .exact .inl u
   .simp[Own]at u))
 have:=kW N (h:=[]) (R:=λr h=>∃q,sg h r=some q/\t7 q v) L u C I hok (by simpa using A) hw M0 [] w l (pu M K) E;refine⟨this.1,this.2.mono λe w' h=>?_⟩;obtain⟨r,h',m',⟨q,z,y⟩,D,J,j⟩:=h
 cases e with
 |returned v'=>
  cases r with
  |panic v=>cases z
  |ret a=>exact⟨v',rfl,y.rep (rO (S:=⟨m',h',w'⟩) J j z),D.fr⟩
 |panicked O=>
  cases r with
  |panic v=>cases z
  |ret a=>exact j.elim
 |outgrown=>exact j.elim
def EN{σ}{x}{A}(live)(V)(μ)(M:σ->List (Nat×AV))(i:σ->Heap->Heap)(e)(j:V e)
  (q:oE A.bs A.df A.tmps A.h (bP A.tmps live (M e)) (i e A.h))
  (l:∀s,V s->@W ⟨P,H,x,fh (iA P V (λs=>gw A live (M s) (i s A.h)) μ s) Q⟩ { n:=A.n,bs:=A.bs,rc:=A.rc,tmps:=cM (bP A.tmps live (M s)),h:=i s A.h,df:=A.df }) :
  @W ⟨P,H,.loop x,Q⟩ A:=dl live V μ M (λs=>i s A.h) e j q l
def wl{A B}{live}{l}{h}(j:B.n=A.n)(u:B.bs=A.bs)(i:B.rc=A.rc)(q:B.df=A.df)(hh:B.h=h)
  (v:∀p,p∈bP A.tmps live l->B.tmps p.1=p.2):gU P B (gw A live l h):=by
 have e:gw A live l h={ B with tmps:=cM (bP A.tmps live l) }:=by
  unfold gw;cases A;cases B;simp only at j u i q hh;subst j u i q hh;rfl
 rw[e];exact OQ _ v
def dY{σ}{x}{A}(live)(V)(μ)(M:σ->List (Nat×AV))(i:σ->Heap)(e)(j:V e)(hh:A.h=i e)
  (q:∀p,p∈bP A.tmps live (M e)->A.tmps p.1=p.2)
  (l:∀s,V s->@W ⟨P,H,x,fh (iA P V (λs=>gw A live (M s) (i s)) μ s) Q⟩ { n:=A.n,bs:=A.bs,rc:=A.rc,tmps:=cM (bP A.tmps live (M s)),h:=i s,df:=A.df }) :
  @W ⟨P,H,.loop x,Q⟩ A:=
 Rp V (λs=>gw A live (M s) (i s)) μ e j (wl rfl rfl rfl rfl hh q) l
def aZ{σ}{V}{μ}{M:σ->List (Nat×AV)}{i:σ->Heap}{live}{s}{A B}(e)(z:V e)(y:μ e<μ s)(hh:B.h=i e)
  (v:∀p,p∈bP A.tmps live (M e)->B.tmps p.1=p.2) (l:B.n=A.n:=by rfl) (u:B.bs=A.bs:=by rfl) (j:B.rc=A.rc:=by rfl) (q:B.df=A.df:=by rfl) :
  @WQ ⟨fh (iA P V (λs=>gw A live (M s) (i s)) μ s) Q⟩ .normal B:=⟨e,z,y,wl l u j q hh v⟩
section
variable {α τ:Type}
def qE (l:List α) (Inv:List α->List α->τ->Prop) (s:List α×List α×τ):Prop:=l=s.1++s.2.1/\Inv s.1 s.2.1 s.2.2
def jB {β:Type} (M:List α->τ->β) (s:List α×List α×τ):β:=M s.1 s.2.2
def aG{x}{A}(live)(l)(F:l.length<1000000000)(Inv:List α->List α->τ->Prop)(M)(j)(v)(hi:Inv [] l v)
  (E:oE A.bs A.df A.tmps A.h (bP A.tmps live (M [] v)) (j [] v))
  (u:∀t,Inv l [] t->@W ⟨P,H,x,fh (iA P (qE l Inv) (λs=>gw A live (jB M s) (jB j s)) (λs=>s.2.1.length) (l,[],t)) Q⟩
   {n:=A.n,bs:=A.bs,rc:=A.rc,tmps:=cM (bP A.tmps live (M l t)),h:=j l t,df:=A.df })
  (i:∀d_ y r t,l=d_++y::r->Inv d_ (y::r) t->l[d_.length]?=some y->((d_.length:Int)<(l.length:Int))->i64.wrap ((d_.length:Int)+1)=(((d_++[y]).length:Nat):Int) ->
   @W ⟨P,H,x,fh (iA P (qE l Inv) (λs=>gw A live (jB M s) (jB j s)) (λs=>s.2.1.length) (d_,y::r,t)) Q⟩
    {n:=A.n,bs:=A.bs,rc:=A.rc,tmps:=cM (bP A.tmps live (M d_ t)),h:=j d_ t,df:=A.df }):@W ⟨P,H,.loop x,Q⟩ A:=by
 refine dl live (qE l Inv) (λs=>s.2.1.length) (λs=>M s.1 s.2.2) (λs=>j s.1 s.2.2) ([],l,v) ⟨rfl,hi⟩ E ?_
 rintro⟨d_,rest,t⟩ ⟨q,z⟩
 dsimp only at q z
 cases rest with
 |nil=>
  rw[bI]at q;subst q
  exact u t z
 |cons y r=>
  have C:d_.length<l.length:=by rw[q];simp
  have D:l[d_.length]?=some y:=by rw[q];simp
  refine i d_ y r t q z D (by omega) ?_;have e:((d_.length:Int)+1)=(((d_++[y]).length:Nat):Int):=by simp
  rw[e];exact IntWalk.i64_in _ ⟨by omega,by simp<;>omega⟩
def eZ{x}{A}(live)(l)(q:l.length<1000000000)(Inv:List α->List α->τ->Prop)(M)(j)(hi:Inv [] l j)
  (u:oE A.bs A.df A.tmps A.h (bP A.tmps live (M [] j)) A.h)
  (i:∀t,Inv l [] t->@W ⟨P,H,x,fh (iA P (qE l Inv) (λs=>gw A live (jB M s) (jB (λ_ _=>A.h) s)) (λs=>s.2.1.length) (l,[],t)) Q⟩
   {n:=A.n,bs:=A.bs,rc:=A.rc,tmps:=cM (bP A.tmps live (M l t)),h:=A.h,df:=A.df })
  (e:∀d_ y r t,l=d_++y::r->Inv d_ (y::r) t->l[d_.length]?=some y->((d_.length:Int)<(l.length:Int))->i64.wrap ((d_.length:Int)+1)=(((d_++[y]).length:Nat):Int) ->
   @W ⟨P,H,x,fh (iA P (qE l Inv) (λs=>gw A live (jB M s) (jB (λ_ _=>A.h) s)) (λs=>s.2.1.length) (d_,y::r,t)) Q⟩
    {n:=A.n,bs:=A.bs,rc:=A.rc,tmps:=cM (bP A.tmps live (M d_ t)),h:=A.h,df:=A.df }):@W ⟨P,H,.loop x,Q⟩ A:=
 aG live l q Inv M (λ_ _=>A.h) j hi u i e
def am{l}{Inv:List α->List α->τ->Prop}{M}{j}{live}{d_ r}{y}{t}{A B}
  (D:l=d_++y::r) (i) (e:Inv (d_++[y]) r i) (C:oE A.bs A.df B.tmps B.h (bP A.tmps live (M (d_++[y]) i)) (j (d_++[y]) i))
  (u:B.n=A.n:=by rfl) (z:B.bs=A.bs:=by rfl) (q:B.rc=A.rc:=by rfl) (v:B.df=A.df:=by rfl) :
  @WQ ⟨fh (iA P (qE l Inv) (λs=>gw A live (jB M s) (jB j s)) (λs=>s.2.1.length) (d_,y::r,t)) Q⟩ .normal B:=
 ⟨(d_++[y],r,i),⟨by simp[D],e⟩,by simp,su u z q v C⟩
end
def Zi (P:Program) (fv:PV) (l:List PV):Prop:=
 ∃(g:FuncId) (first cap:List PV),fv=.func (.func g) first cap/\∀(id:Nat) (Inv:Nat->Heap->Prop) (Fin:Heap->Prop) (h0:Heap),(∀k h,Inv k h->h0.length<=h.length) ->
  (∀(k:Nat) (v:PV) (h:Heap),l[k]?=some v->Inv k h->ve P id [.p v] h (λr h'=>(r=.ret (.p (.bool true))/\Inv (k+1) h')\/(r=.ret (.p (.bool false))/\Fin h'/\h0.length<=h'.length))) ->
  Inv 0 h0->aw P g (first.map .p++[.ref .yl id]++cap.map .p) h0 (λr h'=>r=.ret (.p (.tuple []))/\(Inv l.length h'\/Fin h'))
def wl0:i64.wrap 0=0:=by decide
def wl1:i64.wrap 1=1:=by decide
def wl2:i64.wrap 2=2:=by decide
def wl3:i64.wrap 3=3:=by decide
def wl4:i64.wrap 4=4:=by decide
def wl5:i64.wrap 5=5:=by decide
def wl6:i64.wrap 6=6:=by decide
def wl7:i64.wrap 7=7:=by decide
def wl8:i64.wrap 8=8:=by decide
def wl9:i64.wrap 9=9:=by decide
def za3:i64.wrap 10=10:=by decide
def za2:i64.wrap 11=11:=by decide
def za1:i64.wrap 12=12:=by decide
def ah{i}(j:-9223372036854775808<=i:=by omega)(e:i<=9223372036854775807:=by omega):i64.wrap i=i:=IntWalk.i64_in _ ⟨by omega,by omega⟩
def kI{a b A B:Int}(i:0<=a)(l:a<=A)(e:0<=b)(j:b<=B):0<=a*b/\a*b<=A*B:=⟨pF i e,pG l j e (by omega)⟩
section
variable {ops:Array Oper} {rest:List Oper} {dst:Option Tmp} {A:AAct}
def cZ{f}{args}{R}(i:aw P f args A.h R)(l:∀v h,R (.ret v) h->@WO ⟨P,H,ops,rest,Q⟩ (A.put dst v h))
  (j:∀v h,R (.panic v) h->@WQ ⟨Q⟩ (.panic v) { A with h:=h }):@WF ⟨P,H,ops,rest,Q,dst⟩ A f args:=
 i.mono λr h e=>by
  cases r with
  |ret v=>exact l v h e
  |panic v=>exact j v h e
def cw{f}{args}{v}{h'}(j:aw P f args A.h (λr h=>r=.ret v/\h=h'))(l:@WO ⟨P,H,ops,rest,Q⟩ (A.put dst v h')):@WF ⟨P,H,ops,rest,Q,dst⟩ A f args:=
 cZ j (λv h i=>by grind) (λv h i=>by cases i.1)
def r9{l}{args}{R}(q:ve P l args A.h R)(I:∀v h,R (.ret v) h->@WO ⟨P,H,ops,rest,Q⟩ (A.put dst v h))
  (G:∀v h,R (.panic v) h->@WQ ⟨Q⟩ (.panic v) { A with h:=h }):@WR ⟨P,H,ops,rest,Q,dst⟩ A (.yld l args):=by
 refine⟨q.1,λM0 m w j b D C z=>?_⟩;obtain⟨f,tmps,K,J,F,E⟩:=q.2 M0 m w j b D C z;refine⟨f,tmps,K,J,F,λc cs=>?_⟩;obtain⟨e,w',⟨r,h',m',u,i⟩,y⟩:=E c cs;refine⟨e,w',⟨r,h',m',?_,i⟩,y⟩
 cases r with
 |ret v=>exact I v h' u
 |panic v=>exact G v h' u
end
def Zb(ops)(rest)(dst)(n bs)(T)(h)(df)(d) :
  @WR ⟨P,H,ops,rest,Q,dst⟩ ⟨n,bs,.no,T,h,df⟩ (.dfr d)=@WO ⟨P,H,ops,rest,Q⟩ (AAct.put ⟨n,bs,.no,T,h,d::df⟩ dst (.p (.tuple [])) h):=propext Iff.rfl
def Lg(ops)(rest)(dst)(n bs)(T)(h)(df) :
  @WR ⟨P,H,ops,rest,Q,dst⟩ ⟨n,bs,.none,T,h,df⟩ .recover=@WO ⟨P,H,ops,rest,Q⟩ (AAct.put ⟨n,bs,.none,T,h,df⟩ dst (.p .niliface) h):=propext Iff.rfl
def Lf(ops)(rest)(dst)(n bs)(v)(T)(h)(df) :
  @WR ⟨P,H,ops,rest,Q,dst⟩ ⟨n,bs,.pend v,T,h,df⟩ .recover=@WO ⟨P,H,ops,rest,Q⟩ (AAct.put ⟨n,bs,.got v,T,h,df⟩ dst (.p v) h):=propext Iff.rfl
def l7(rs:List ResultVar)(R:AEnd->Heap->Prop)(T:Nat->AV)(f:FuncId)(args:List AV)(ds:List ADef)(u:AMode)(h:Heap) :
  cW P rs R T (.fn f args::ds) u h=lk P f args u h λr e h'=>match r with
   |.ret _=>cW P rs R T ds (Ac e) h'
   |.panic v=>e=.ret/\cW P rs R T ds (.pan v) h':=propext Iff.rfl
def cB(rs)(R)(T)(id)(ds)(u)(h) :
  cW P rs R T (.collected id::ds) u h=(h[id]?=some .dblock/\cW P rs R T ds u (h.set id .dead)):=propext Iff.rfl
def lk.mono{f}{args}{u}{h}{R y}(q:lk P f args u h R)(C:∀r l h',R r l h'->y r l h'):lk P f args u h y:=
 λM0 m w j z F E D=>by
  obtain⟨J,I⟩:=q M0 m w j z F E D;refine⟨J,λc cs q=>?_⟩;obtain⟨e,v,w',fr,⟨r,l,h',m',G,i⟩,A⟩:=I c cs q;grind
def Ae{ps}{assign body}{g}{A}{f}{args}{R}(e:A.rc=.no)
  (hi:ip (A.eval g) [.ref .yl (A.h.length+1)]=.call f args) (j:aw P f args (A.h++[.dblock,.loop A.n A.tmps ps assign body .ready none]) R)
  (q:∀v h,R (.ret v) h->pj Q { A with h:=h,df:=.collected A.h.length::A.df } (A.h.length+1) h[A.h.length+1]?)
  (l:∀v h,R (.panic v) h->@WQ ⟨Q⟩ (.panic v) { A with h:=h,df:=.collected A.h.length::A.df }):@W ⟨P,H,.rangeFunc g ps assign body,Q⟩ A:=by
 show wp P H (.rangeFunc g ps assign body) Q A;unfold wp;rw[e];show yp _ _ _ _ _ _;rw[hi];exact j.mono λr h i=>by
  cases r with
  |ret v=>exact q v h i
  |panic v=>exact l v h i
def Im(A)(l)(n)(T)(ps)(j i)(e)(pend) :
  pj Q A l (some (.loop n T ps j i e pend))=(e≠.busy/\wX Q { A with h:=A.h.set l .dead } pend):=propext Iff.rfl
def Nj(A):wX Q A none=@WQ ⟨Q⟩ .normal A:=propext Iff.rfl
def PY(A):wX Q A (some .ret)=@WQ ⟨Q⟩ .ret A:=propext Iff.rfl
def Nk(A)(id):wX Q A (some (.exit id))=@WQ ⟨Q⟩ (.exit id) A:=propext Iff.rfl
def Rq(n)(tmps)(ps)(assign body)(l bs)(Q)(c)(A) :
  @WQ ⟨Me n tmps ps assign body l bs (λA=>wp P H c Q A)⟩ .normal A=(A.bs=bs/\A.h[l]?=some (.loop n tmps ps assign body .ready none)/\@W ⟨P,H,c,Q⟩ { A with h:=A.h.set l (.loop n tmps ps assign body .busy none) }):=propext Iff.rfl
section
variable (n:Nat) (tmps:Nat->AV) (ps:Array Tmp) (assign body:Code) (l bs:Nat) (R:AEnd->Heap->Prop) (A:AAct)
def Dt:@WQ ⟨vj n tmps ps assign body l bs R⟩ .normal A =
  (A.bs=bs/\(∃e pend,A.h[l]?=some (.loop n tmps ps assign body e pend))/\R (.ret (.p (.bool true))) (A.h.set l (.loop n tmps ps assign body .ready none))):=propext Iff.rfl
def GI(id):@WQ ⟨vj n tmps ps assign body l bs R⟩ (.exit id) A =
  (A.bs=bs/\(∃e pend,A.h[l]?=some (.loop n tmps ps assign body e pend))/\R (.ret (.p (.bool false))) (A.h.set l (.loop n tmps ps assign body .done (some (.exit id))))):=propext Iff.rfl
def EO(v):@WQ ⟨vj n tmps ps assign body l bs R⟩ (.panic v) A=(A.bs=bs/\A.df=[]/\R (.panic v) A.h):=propext Iff.rfl
def JT:@WQ ⟨vj n tmps ps assign body l bs R⟩ .ret A =
  (A.bs=bs/\(∃e pend,A.h[l]?=some (.loop n tmps ps assign body e pend))/\R (.ret (.p (.bool false))) (A.h.set l (.loop n tmps ps assign body .done (some .ret)))):=propext Iff.rfl
end
def Gk(T)(l):iX T [] l=T:=by cases l<;>rfl
def DU(T)(p)(ps)(x)(l):iX T (p::ps) (x::l)=iX (xW T p x) ps l:=rfl
variable {P:Program} {H:Hints} {Q:Cont}
def vK (oR oB:AObj) (l bs:Nat) (K:AAct->Prop):Ex->AAct->Prop
 |.normal,A=>A.bs=bs/\A.h[l]?=some oR/\K { A with h:=A.h.set l oB }
 |_,_=>False
def rF (oB oR:AObj) (oD:Code->AObj) (l bs:Nat) (R:AEnd->Heap->Prop):Ex->AAct->Prop
 |.normal,A=>A.bs=bs/\A.h[l]?=some oB/\R (.ret (.p (.bool true))) (A.h.set l oR)
 |.exit id,A=>A.bs=bs/\A.h[l]?=some oB/\R (.ret (.p (.bool false))) (A.h.set l (oD (.exit id)))
 |.ret,A=>A.bs=bs/\A.h[l]?=some oB/\R (.ret (.p (.bool false))) (A.h.set l (oD .ret))
 |.panic v,A=>A.bs=bs/\A.df=[]/\R (.panic v) A.h
def Ov(oR oB)(l bs)(c)(A):@WQ ⟨vK oR oB l bs (λA=>wp P H c Q A)⟩ .normal A=(A.bs=bs/\A.h[l]?=some oR/\@W ⟨P,H,c,Q⟩ { A with h:=A.h.set l oB }):=propext Iff.rfl
section
variable (oB oR:AObj) (oD:Code->AObj) (l bs:Nat) (R:AEnd->Heap->Prop) (A:AAct)
def BO:@WQ ⟨rF oB oR oD l bs R⟩ .normal A=(A.bs=bs/\A.h[l]?=some oB/\R (.ret (.p (.bool true))) (A.h.set l oR)):=propext Iff.rfl
def EP(id):@WQ ⟨rF oB oR oD l bs R⟩ (.exit id) A=(A.bs=bs/\A.h[l]?=some oB/\R (.ret (.p (.bool false))) (A.h.set l (oD (.exit id)))):=propext Iff.rfl
def Du(v):@WQ ⟨rF oB oR oD l bs R⟩ (.panic v) A=(A.bs=bs/\A.df=[]/\R (.panic v) A.h):=propext Iff.rfl
def GJ:@WQ ⟨rF oB oR oD l bs R⟩ .ret A=(A.bs=bs/\A.h[l]?=some oB/\R (.ret (.p (.bool false))) (A.h.set l (oD .ret))):=propext Iff.rfl
end
def yF (Q:Cont) (A:AAct):Code->Prop
 |.ret=>@WQ ⟨Q⟩ .ret A
 |.exit id=>@WQ ⟨Q⟩ (.exit id) A
 |_=>False
def Y6{ps}{assign body}{g}{A}{fv}{l}(Inv:AObj->Nat->Heap->Prop)(y:Code->Heap->Prop)
  (V:A.rc=.no) (hg:A.eval g=.p fv) (a0:Zi P fv l) (hD:eV P) (X:qH A.n ps=true) (Y:ps.size=1) (L:dV H A.n assign=true) (K:dV H A.n body=true)
  (M:∀o k h,Inv o k h->A.h.length+2<=h.length) (J:∀o k h,Inv o k h->h[A.h.length+1]?=some o) (h0:∀o,Inv o 0 (A.h++[.dblock,o]))
  (z:∀(oR oB) (oD) (k) (v) (h),l[k]?=some v->Inv oR k h ->
   @W ⟨P,H,assign,vK oR oB (A.h.length+1) h.length (λB=>wp P H body (rF oB oR oD (A.h.length+1) h.length
    (λr h'=>(r=.ret (.p (.bool true))/\Inv oR (k+1) h')\/(r=.ret (.p (.bool false))/\∃j,y j h'/\h'[A.h.length+1]?=some (oD j)/\A.h.length+2<=h'.length))) B)⟩
    {n:=A.n,bs:=h.length,rc:=.rnd,tmps:=iX A.tmps ps.toList [.p v],h:=h,df:=[] })
  (O:∀o h,Inv o l.length h->@WQ ⟨Q⟩ .normal { A with h:=h.set (A.h.length+1) .dead,df:=.collected A.h.length::A.df })
  (N:∀j h,y j h->yF Q { A with h:=h.set (A.h.length+1) .dead,df:=.collected A.h.length::A.df } j):@W ⟨P,H,.rangeFunc g ps assign body,Q⟩ A:=by
 obtain⟨gf,first,cap,rfl,hi⟩:=a0;have Z:∃oR,oR=AObj.loop A.n A.tmps ps assign body .ready none:=⟨_,rfl⟩
 obtain⟨oR,E⟩:=Z
 refine Ae (f:=gf) (args:=first.map .p++[.ref .yl (A.h.length+1)]++cap.map .p)
  (R:=λr h=>r=.ret (.p (.tuple []))/\(Inv oR l.length h\/∃j,y j h/\h[A.h.length+1]?=some (.loop A.n A.tmps ps assign body .done (some j))))
  V (by rw[hg];rfl) ?_ (λv h D=>?_) λv h D=>(by cases D.1)
 .rw[<-E];refine(hi (A.h.length+1) (Inv oR) (λh=>∃j,y j h/\h[A.h.length+1]?=some (.loop A.n A.tmps ps assign body .done (some j))) (A.h++[.dblock,oR]) (λk h u=>by grind) (λk v h hv u=>?_) (h0 oR)).mono λr h D=>D;have q:=J _ _ _ u;rw[E]at q;refine sK hD (H:=H) q X (by simpa using Y) L K ?_;have:=z oR (.loop A.n A.tmps ps assign body .busy none) (λj=>.loop A.n A.tmps ps assign body .done (some j)) k v h hv u;refine ll assign (λe B T=>?_) this
  cases e with
  |normal=>
   obtain⟨b1,b2,b3⟩:=T;rw[E]at b2;refine⟨b1,b2,ll body (λe C S=>?_) b3⟩
   cases e with
   |normal=>
    obtain⟨c1,I,i⟩:=S;grind[vj]
   |exit id=>
    obtain⟨c1,I,i⟩:=S;grind[vj]
   |ret=>
    obtain⟨c1,I,i⟩:=S;grind[vj]
   |panic v=>
    obtain⟨_,_,i⟩:=S
    grind
  |exit id=>exact T
  |ret=>exact T
  |panic v=>exact T
 .obtain⟨D,u⟩:=D;rcases u with u|⟨j,G,F⟩
  .have q:=J _ _ _ u;rw[E]at q;rw[q];exact⟨by simp,O _ _ u⟩
  .rw[F];have:=N j h G;refine⟨by simp,?_⟩;cases j<;>first|exact this.elim|exact this
def JQ{ps}{assign body}{g}{A}{f}{args}{R:AEnd->Heap->Prop}(M:A.rc=.no)
  (hi:ip (A.eval g) [.ref .yl (A.h.length+1)]=.call f args) (V:eV P) (N:qH A.n ps=true) (D:dV H A.n assign=true) (z:dV H A.n body=true)
  (U:∀(oR oB) (oD),
   (∀(K) (h) (T),ps.size=K.length->h[A.h.length+1]?=some oR ->
    @W ⟨P,H,assign,vK oR oB (A.h.length+1) h.length (λB=>wp P H body (rF oB oR oD (A.h.length+1) h.length T) B)⟩
     {n:=A.n,bs:=h.length,rc:=.rnd,tmps:=iX A.tmps ps.toList K,h:=h,df:=[] }->ve P (A.h.length+1) K h T) ->
   aw P f args (A.h++[.dblock,oR]) (λr h=>R r h/\∀v,r=.ret v->(h[A.h.length+1]?=some oR/\@WQ ⟨Q⟩ .normal { A with h:=h.set (A.h.length+1) .dead,df:=.collected A.h.length::A.df }) \/
    ∃j,h[A.h.length+1]?=some (oD j)/\yF Q { A with h:=h.set (A.h.length+1) .dead,df:=.collected A.h.length::A.df } j))
  (X:∀v h,R (.panic v) h->@WQ ⟨Q⟩ (.panic v) { A with h:=h,df:=.collected A.h.length::A.df }):@W ⟨P,H,.rangeFunc g ps assign body,Q⟩ A:=by
 have O:∃oR,oR=AObj.loop A.n A.tmps ps assign body .ready none:=⟨_,rfl⟩
 obtain⟨oR,i⟩:=O;have u:=U oR (.loop A.n A.tmps ps assign body .busy none) (λj=>.loop A.n A.tmps ps assign body .done (some j)) ?_
 .rw[i]at u;refine Ae (f:=f) (args:=args) M hi u (λv h F=>?_) λv h F=>X v h F.1;rw[<-i]at F;rcases F.2 v rfl with⟨L,J⟩|⟨j,L,J⟩
  .rw[L,i];exact⟨by simp,J⟩
  .rw[L];refine⟨by simp,?_⟩;cases j<;>first|exact J.elim|exact J
 .intro K h T E y hw;rw[i]at y;refine sK V (H:=H) y N E D z ?_;refine ll assign (λe B I=>?_) hw
  cases e with
  |normal=>
   obtain⟨Z,S,Y⟩:=I;rw[i]at S;refine⟨Z,S,ll body (λe C G=>?_) Y⟩
   cases e with
   |normal=>
    obtain⟨c1,q,l⟩:=G;grind[vj]
   |exit id=>
    obtain⟨c1,q,l⟩:=G
    grind[vj]
   |ret=>
    obtain⟨c1,q,l⟩:=G
    grind[vj]
   |panic v=>exact G
  |exit id=>exact I
  |ret=>exact I
  |panic v=>exact I
def Uz (P:Program) (fv:PV) (sz:Nat) (l:List (List PV)):Prop:=
 ∃(g:FuncId) (first cap:List PV),fv=.func (.func g) first cap/\∀(id:Nat) (Inv:Nat->Heap->Prop) (Fin:Heap->Prop) (h0:Heap),id<h0.length ->
  (∀(k:Nat) (xs:List PV) (lo mid:Heap) (j:Nat),l[k]?=some xs->Inv k lo->lo.length=h0.length->mid[j]?=some (.row sz (xs.map .p)) ->
   ve P id [.slice (j+h0.length) xs.length 0 xs.length] (lo++mid) (λr h'=>∃lo' ext,h'=lo'++mid++ext/\lo'.length=h0.length /\
    ((r=.ret (.p (.bool true))/\Inv (k+1) lo')\/(r=.ret (.p (.bool false))/\Fin lo')))) ->
  Inv 0 h0->aw P g (first.map .p++[.ref .yl id]++cap.map .p) h0 (λr h'=>r=.ret (.p (.tuple []))/\∃lo mid,h'=lo++mid/\lo.length=h0.length/\(Inv l.length lo\/Fin lo))
def WU{ps}{assign body}{g}{A}{fv}{sz}{l}(Inv:AObj->Nat->Heap->Prop)(D:Code->Heap->Prop)
  (a0:A.rc=.no) (hg:A.eval g=.p fv) (a4:Uz P fv sz l) (hD:eV P) (a1:qH A.n ps=true) (a2:ps.size=1) (X:dV H A.n assign=true) (V:dV H A.n body=true)
  (U:∀o k h,Inv o k h->h[A.h.length+1]?=some o) (h0:∀o,Inv o 0 (A.h++[.dblock,o]))
  (E:∀(oR oB) (oD) (k) (xs) (lo i) (j),l[k]?=some xs->Inv oR k lo->lo.length=A.h.length+2->i[j]?=some (.row sz (xs.map .p)) ->
   @W ⟨P,H,assign,vK oR oB (A.h.length+1) (lo++i).length (λB=>wp P H body (rF oB oR oD (A.h.length+1) (lo++i).length
    (λr h'=>∃q ext,h'=q++i++ext/\q.length=A.h.length+2/\((r=.ret (.p (.bool true))/\Inv oR (k+1) q)\/(r=.ret (.p (.bool false))/\∃c,D c q/\q[A.h.length+1]?=some (oD c))))) B)⟩
    {n:=A.n,bs:=(lo++i).length,rc:=.rnd,tmps:=iX A.tmps ps.toList [.slice (j+(A.h.length+2)) xs.length 0 xs.length],h:=lo++i,df:=[] })
  (Z:∀o lo i,Inv o l.length lo->lo.length=A.h.length+2->@WQ ⟨Q⟩ .normal { A with h:=(lo++i).set (A.h.length+1) .dead,df:=.collected A.h.length::A.df })
  (Y:∀c lo i,D c lo->lo.length=A.h.length+2->yF Q { A with h:=(lo++i).set (A.h.length+1) .dead,df:=.collected A.h.length::A.df } c):@W ⟨P,H,.rangeFunc g ps assign body,Q⟩ A:=by
 obtain⟨gf,first,cap,rfl,hi⟩:=a4;have a3:∃oR,oR=AObj.loop A.n A.tmps ps assign body .ready none:=⟨_,rfl⟩
 obtain⟨oR,L⟩:=a3
 refine Ae (f:=gf) (args:=first.map .p++[.ref .yl (A.h.length+1)]++cap.map .p)
  (R:=λr h=>r=.ret (.p (.tuple []))/\∃lo i,h=lo++i/\lo.length=A.h.length+2/\(Inv oR l.length lo\/∃c,D c lo/\lo[A.h.length+1]?=some (.loop A.n A.tmps ps assign body .done (some c))))
  a0 (by rw[hg];rfl) ?_ (λv h hr=>?_) λv h hr=>(by cases hr.1)
 .rw[<-L];have T:(A.h++[.dblock,oR]).length=A.h.length+2:=by simp
  have S:=hi (A.h.length+1) (Inv oR) (λlo=>∃c,D c lo/\lo[A.h.length+1]?=some (.loop A.n A.tmps ps assign body .done (some c))) (A.h++[.dblock,oR]) (by simp) (λk xs lo i j hv G z hj=>?_) (h0 oR)
  .grind
  rw[T]at z |-;have y:=U _ _ _ G;have F:(lo++i)[A.h.length+1]?=some oR:=by rw[bJ (by omega)];exact y
  rw[L]at F;refine sK hD (H:=H) F a1 (by omega) X V ?_;have:=E oR (.loop A.n A.tmps ps assign body .busy none) (λj=>.loop A.n A.tmps ps assign body .done (some j)) k xs lo i j hv G z hj;refine ll assign (λe B hB=>?_) this
  cases e with
  |normal=>
   obtain⟨b1,b2,b3⟩:=hB;rw[L]at b2;refine⟨b1,b2,ll body (λe C hC=>?_) b3⟩
   cases e with
   |normal=>
    obtain⟨c1,O,I⟩:=hC;grind[vj]
   |exit id=>
    obtain⟨c1,O,I⟩:=hC;grind[vj]
   |ret=>
    obtain⟨c1,O,I⟩:=hC;grind[vj]
   |panic v=>
    obtain⟨_,_,I⟩:=hC;grind
  |exit id=>exact hB
  |ret=>exact hB
  |panic v=>exact hB
 .obtain⟨hr,lo,i,rfl,z,G⟩:=hr;rcases G with G|⟨c,N,M⟩
  .have y:(lo++i)[A.h.length+1]?=some oR:=by rw[bJ (by omega)];exact U _ _ _ G
   rw[L]at y;rw[y];exact⟨by simp,Z _ _ _ G z⟩
  .have y:(lo++i)[A.h.length+1]?=some (.loop A.n A.tmps ps assign body .done (some c)):=by rw[bJ (by omega)];exact M
   rw[y];have:=Y c lo i N z;refine⟨by simp,?_⟩;cases c<;>first|exact this.elim|exact this
def Ol(l:List Tmp):(List.toArray l).toList=l:=rfl
end Abs
end Go.Proofs.YtgafommgcfhkkaaGreatDoor
