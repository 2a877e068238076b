/- CONTRACTS of the program's functions, and laws on what they return. No conditions but those in the theorems' heads. -/
import Derived.Test.YtnjiadikeacfaaaGreatDoorAbsEval
set_option linter.all false
namespace Go.Proofs.YtnjiadikeacfaaaGreatDoor
namespace Abs
variable {P:Program} {M0:Nat->Prop}
inductive Flat:PV->Prop
 |bool (b:Bool):Flat (.bool b)
 |int (k:IntKind) (n:Int):Flat (.int k n)
 |str (s:ByteArray):Flat (.str s)
 |agg {cs:List PV} (h:∀(i:Nat) (c:PV),cs[i]?=some c->Flat c):Flat (.agg cs)
 |tuple {cs:List PV} (h:∀(i:Nat) (c:PV),cs[i]?=some c->Flat c):Flat (.tuple cs)
 |nilslice:Flat .nilslice
 |nilptr:Flat .nilptr
 |nilfunc:Flat .nilfunc
 |iface {t:TypeId} {q:PV} (h:Flat q):Flat (.iface t q)
 |niliface:Flat .niliface
 |any:Flat .any
theorem Flat.nil(i:Nat)(c)(h:([]:List PV)[i]?=some c):Flat c:=by simp at h
theorem Flat.cons{q}{l}(hq:Flat q)(hl:∀(i:Nat) (c),l[i]?=some c->Flat c)(i:Nat)(c)(h:(q::l)[i]?=some c):Flat c:=by
 cases i with
 |zero=>cases h;exact hq
 |succ i=>exact hl i c (by simpa using h)
theorem Flat.rep{q}(hf:Flat q){M M'}{w w'}{v}(h:RepP M w v q):RepP M' w' v q:=by
 induction hf generalizing v with
 |bool b=>cases h;exact .bool b
 |int k n=>cases h;exact .int k n
 |str s=>cases h;exact .str s
 |agg _ ih=>cases h with|agg hn hs hr=>exact .agg hn hs λi c hi=>ih i c hi (hr i c hi)
 |tuple _ ih=>cases h with|tuple hn hr=>exact .tuple hn λi c hi=>ih i c hi (hr i c hi)
 |nilslice=>cases h;exact .nilslice
 |nilptr=>cases h;exact .nilptr
 |nilfunc=>cases h;exact .nilfunc
 |iface _ ih=>cases h with|iface hr=>exact .iface (ih hr)
 |niliface=>cases h;exact .niliface
 |any=>cases h<;>constructor
def aS (F:AV->Option PV):List AV->Option (List PV)
 |[]=>some []
 |a::l=>match F a,aS F l with|some q,some r=>some (q::r)|_,_=>none
def lR (F:AV->Option PV) (ver:Nat):Option AObj->Option (Nat×List PV)
 |some (.row sz xs)=>if xs.length=ver then(aS F xs).map λl=>(sz,l) else none
 |_=>none
def ci:Nat->Heap->AV->Option PV
 |_,_,.p v=>some v
 |0,_,_=>none
 |n+1,h,.ptr id ver i o=>(lR (ci n h) ver h[id]?).map λq=>.ptr q.1 q.2 i o
 |n+1,h,.slice id ver off len=>(lR (ci n h) ver h[id]?).map λq=>.slice q.1 ((q.2.take (off+len)).drop off) false
 |n+1,h,.func fn first cap=>match aS (ci n h) first,aS (ci n h) cap with|some a,some b=>some (.func fn a b)|_,_=>none
 |n+1,h,.agg cs=>(aS (ci n h) cs).map .agg
 |n+1,h,.tuple cs=>(aS (ci n h) cs).map .tuple
 |_+1,_,.ref .mp _=>some .any
 |_,_,_=>none
def xC (h:Heap) (a:AV):Option PV:=ci 8 h a
def pE (h:Heap) (l:List AV):Option (List PV):=aS (xC h) l
theorem ef(n)(h)(v):ci n h (.p v)=some v:=by cases n<;>rfl
theorem de{α:Type}{F}(hF:∀v,F (.p v)=some v)(f):∀l:List α,aS F (l.map λx=>.p (f x))=some (l.map f)
 |[]=>rfl
 |x::r=>by rw[bD,aS,de hF f r,hF];rfl
theorem Fb{α:Type}(n)(h)(f)(l:List α):aS (ci n h) (l.map λx=>.p (f x))=some (l.map f):=de (ef n h) f l
theorem e9{F}:∀{l} {qs},aS F l=some qs->l.length=qs.length/\∀(i:Nat) (q),qs[i]?=some q->∃a,l[i]?=some a/\F a=some q
 |[],qs,e=>by cases e;exact⟨rfl,by simp⟩
 |a::l,qs,e=>by
  unfold aS at e;split at e
  .rename_i q r h1 h2;cases e;obtain⟨h3,h4⟩:=e9 h2;refine⟨by simp[h3],λi q' hi=>?_⟩
   cases i with
   |zero=>cases hi;exact⟨a,rfl,h1⟩
   |succ i=>exact h4 i q' (by simpa using hi)
  .cases e
theorem o9{F}{ver}{o}{q}(e:lR F ver o=some q):∃xs,o=some (.row q.1 xs)/\xs.length=ver/\aS F xs=some q.2:=by
 unfold lR at e;split at e
 .rename_i sz xs;split at e
  .rename_i hv;simp only[cd]at e;obtain⟨l,h1,rfl⟩:=e;exact⟨xs,rfl,hv,h1⟩
  .cases e
 .cases e
theorem mK{n}{h}{a}{q}(ha:a.isCell=true)(e:ci n h a=some q):q.isCell=true:=by
 cases a with
 |p v=>rw[ef]at e;cases e;exact ha
 |agg cs=>cases ha
 |tuple cs=>cases ha
 |undef=>cases ha
 |ref k id=>cases n<;>cases k<;>first|(cases e;rfl)|cases e
 |ptr id ver i o=>
  cases n with
  |zero=>cases e
  |succ n=>
   unfold ci at e;simp only[cd]at e;obtain⟨q',_,rfl⟩:=e
   rfl
 |slice id ver off len=>
  cases n with
  |zero=>cases e
  |succ n=>
   unfold ci at e;simp only[cd]at e;obtain⟨q',_,rfl⟩:=e
   rfl
 |func fn first cap=>
  cases n with
  |zero=>cases e
  |succ n=>
   unfold ci at e;split at e
   .cases e;rfl
   .cases e
theorem xr{q:PV}(h:q.isCell=true):q.cells=[q]:=by cases q<;>first|rfl|cases h
theorem Ab{n}{h}{a}{q}{cs}(e:ci n h a=some q)(hc:a.cells=some cs) :
  q.cells.length=cs.length/\∀(j:Nat) (c),q.cells[j]?=some c->∃x m,cs[j]?=some x/\m<=n/\ci m h x=some c:=by
 have single:a.isCell=true->cs=[a]->q.cells.length=cs.length/\∀(j:Nat) (c:PV),q.cells[j]?=some c->∃x m,cs[j]?=some x/\m<=n/\ci m h x=some c:=by
  intro ha hcs;have hq:=mK ha e;rw[xr hq,hcs];refine⟨rfl,λj c hj=>?_⟩
  cases j with
  |zero=>cases hj;exact⟨a,n,rfl,bi _,e⟩
  |succ j=>simp at hj
 cases a with
 |p v=>
  rw[ef]at e;cases e;have hcs:cs=q.cells.map .p:=by
   cases q with
   |tuple l=>simp[AV.cells]at hc
   |_=>(simp[AV.cells]at hc;exact hc.symm)
  subst hcs
  refine⟨by simp,λj c hj=>⟨.p c,n,by simp[hj],bi _,ef _ _ _⟩⟩
 |agg l=>
  cases n with
  |zero=>cases e
  |succ n=>
   unfold ci at e;simp only[cd]at e;obtain⟨qs,h1,rfl⟩:=e;simp only[AV.cells,gk]at hc;subst hc;obtain⟨h2,h3⟩:=e9 h1;refine⟨h2.symm,λj c hj=>?_⟩;obtain⟨x,h4,h5⟩:=h3 j c hj
   exact⟨x,n,h4,by omega,h5⟩
 |tuple l=>cases hc
 |undef=>cases hc
 |ptr id ver i o=>cases hc;exact single rfl rfl
 |slice id ver i o=>cases hc;exact single rfl rfl
 |func fn a b=>cases hc;exact single rfl rfl
 |ref k id=>cases hc;exact single rfl rfl
theorem HH{S}(hS:HOk P M0 S){n id sz b}{xs}{l}(ih:∀m,m<=n->∀(v) (a) (q),Rep M0 S v a->ci m S.h a=some q->RepP M0 S.w v q)
  (hid:S.h[id]?=some (.row sz xs)) (hm:S.m.getD id none=some b) (hl:aS (ci n S.h) xs=some l) :
  ∃C T,S.w.heap[b]?=some (.cells C T (0,0))/\l.length=xs.length/\l.length*sz<=C.size/\(∀x,x∈l->x.cells.length=sz/\∀c,c∈x.cells->c.isCell=true)/\¬M0 b /\
   (∀k,k<l.length*sz->S.w.cell? ⟨b,0+k,none⟩=some (C.getD k undef))/\∀(i j) (x c),l[i]?=some x->x.cells[j]?=some c->RepP M0 S.w (C.getD (i*sz+j) undef) c:=by
 obtain⟨C,T,hb,hsize,hel⟩:=fk hS hid hm;obtain⟨hxl,hfr⟩:=e9 hl;have helem:∀(i:Nat) (q:PV),l[i]?=some q->(q.cells.length=sz/\∀c,c∈q.cells->c.isCell=true)/\∀(j:Nat) (c:PV),q.cells[j]?=some c->RepP M0 S.w (C.getD (i*sz+j) undef) c:=by
  intro i q hi;obtain⟨a,h0,hfa⟩:=hfr i q hi;obtain⟨cs,h1,h2,h3⟩:=hel i a h0;obtain⟨h4,h5⟩:=Ab hfa h1;refine⟨⟨by omega,λc hc=>?_⟩,λj c hj=>?_⟩
  .obtain⟨j,hj⟩:=dz hc;obtain⟨x,m,h6,_,h8⟩:=h5 j c hj;exact mK (h3 j x h6).1 h8
  .obtain⟨x,m,h6,h7,h8⟩:=h5 j c hj;exact ih m h7 _ x c (qJ (h3 j x h6).1 (h3 j x h6).2) h8
 refine⟨C,T,hb,hxl.symm,by rw[<-hxl];exact hsize,λx hx=>?_,λhm0=>(hS.m0 b hm0).2 (aT (cu hm)),λk hk=>?_,λi j x c hx hj=>(helem i x hx).2 j c hj⟩
 .obtain⟨i,hi⟩:=dz hx;exact(helem i x hi).1
 .rw[d5];exact jb hb k (by rw[<-hxl]at hk;omega)
theorem Q5{S}(hS:HOk P M0 S):∀(n) (v) (a) (q),Rep M0 S v a->ci n S.h a=some q->RepP M0 S.w v q:=by
 intro n
 induction n using Nat.strongRecOn with
 |_ n ih=>
  intro v a q hr e
  cases a with
  |p v'=>rw[ef]at e;cases e;exact RepP.less (show RepP (Avoid M0 S.m) S.w v q from hr) λb hb=>.inl hb
  |ref k id=>
   cases n<;>cases k<;>first|(cases e;obtain⟨⟨b,hb⟩,_⟩:=hr;rw[hb];exact .anyMap)|cases e
  |undef=>cases n<;>cases e
  |ptr id ver i o=>
   cases n with
   |zero=>cases e
   |succ n=>
    unfold ci at e;simp only[cd]at e;obtain⟨⟨sz,l⟩,h1,rfl⟩:=e;obtain⟨xs,hid,hv,hl⟩:=o9 h1;obtain⟨b,hm,rfl⟩:=cR hr.2 hid hv;obtain⟨C,T,hb,h1,h2,h3,h4,h5,h6⟩:=HH hS (λm hm=>ih m (by omega)) hid hm hl
    exact .ptr (off:=0) (λk=>C.getD k undef) (by omega) h3 (λ_=>h4) h5 h6
  |slice id ver off len=>
   cases n with
   |zero=>cases e
   |succ n=>
    unfold ci at e;simp only[cd]at e;obtain⟨⟨sz,l⟩,h1,rfl⟩:=e;obtain⟨xs,hid,hv,hl⟩:=o9 h1;dsimp only at hid hl |-;have hnil:len=0->(l.take (off+len)).drop off=[]:=by
     intro e;subst e;apply ot;simp
    rcases cR hr.2 hid hv with⟨h0,_,_,a,cap,rfl⟩|⟨b,cap,T',n',hm,rfl,⟨h1,h2⟩,_,_⟩|⟨_,rfl,h0⟩
    .rw[hnil h0];exact .empty (by simp)
    .obtain⟨C,T,hb,h3,h4,h5,h6,h7,h8⟩:=HH hS (λm hm=>ih m (by omega)) hid hm hl;have:=tN (M:=M0) (w:=S.w) (b:=b) (off:=0) (sz:=sz) (l:=off) (r:=off+len) (xs:=l) (λk=>C.getD k undef) (by omega) (by omega) h5 (λ_=>h6) h7 h8 (cap:=cap) (full:=false) (by omega) (by simp);simpa using this
    .rw[hnil h0];exact .empty (by simp)
  |func fn first cap=>
   cases n with
   |zero=>cases e
   |succ n=>
    obtain⟨F,C,rfl,h1,h2⟩:=hr;unfold ci at e;split at e
    .rename_i x y hx hy;cases e;obtain⟨h3,h4⟩:=e9 hx;obtain⟨h5,h6⟩:=e9 hy;refine .func (by rw[h1.1,h3]) (by rw[h2.1,h5]) (λi c hi=>?_) λi c hi=>?_
     .obtain⟨a,h7,h8⟩:=h4 i c hi;exact ih n (by omega) _ a c (kQ (h1.2 i a h7)) h8
     .obtain⟨a,h7,h8⟩:=h6 i c hi;exact ih n (by omega) _ a c (kQ (h2.2 i a h7)) h8
    .cases e
  |agg cs=>
   cases n with
   |zero=>cases e
   |succ n=>
    obtain⟨C,rfl,hc,h1,h2⟩:=hr;unfold ci at e;simp only[cd]at e;obtain⟨l,hl,rfl⟩:=e;obtain⟨h3,h4⟩:=e9 hl;refine .agg (by omega) (λc hcl=>?_) λi c hi=>?_
    .obtain⟨i,hi⟩:=dz hcl;obtain⟨a,h5,h6⟩:=h4 i c hi;exact mK (hc a (aT h5)) h6
    .obtain⟨a,h5,h6⟩:=h4 i c hi
     exact ih n (by omega) _ a c (qJ (hc a (aT h5)) (h2 i a h5)) h6
  |tuple cs=>
   cases n with
   |zero=>cases e
   |succ n=>
    obtain⟨C,rfl,h1,h2⟩:=hr;unfold ci at e;simp only[cd]at e;obtain⟨l,hl,rfl⟩:=e;obtain⟨h3,h4⟩:=e9 hl;refine .tuple (by omega) λi c hi=>?_;obtain⟨a,h5,h6⟩:=h4 i c hi;exact ih n (by omega) _ a c (nQ (h2 i a h5)) h6
theorem qW{S}(hS:HOk P M0 S){v}{a}{q}(hr:Rep M0 S v a)(h:xC S.h a=some q):RepP M0 S.w v q:=Q5 hS 8 v a q hr h
theorem Bd{h}{l}{qs}(e:pE h l=some qs):l.length=qs.length/\∀(i:Nat) (q),qs[i]?=some q->∃a,l[i]?=some a/\xC h a=some q:=e9 e
theorem Ct{f}{args}{pargs}{v}{h}(hc:af P f pargs v)(ha:pE h args=some pargs)(hv:Flat v):aB P f args h (λr h'=>r=.ret (.p v)/\h'=h):=by
 intro M0 m w cargs hS hargs;obtain⟨hl,hg⟩:=Bd ha;have hpa:qg M0 w cargs pargs:=by
  refine⟨by rw[hargs.1,hl],λi c hi=>?_⟩;obtain⟨a,h1,h2⟩:=hg i c hi;exact qW (S:=⟨m,h,w⟩) hS (hargs.2 i a h1) h2
 obtain⟨h1,h2⟩:=hc M0 w cargs (λb hb=>(hS.m0 b hb).1) hS.gl.1 hpa;refine⟨h1,h2.mono λe w' hh=>?_⟩;obtain⟨v',rfl,hr,hfr⟩:=hh;obtain⟨hk,hev⟩:=rV hS hfr;exact⟨.ret (.p v),_,m,⟨rfl,rfl⟩,hev,hk,hv.rep hr⟩
theorem fy{F G}(hFG:∀a q,F a=some q->G a=some q):∀{l} {qs},aS F l=some qs->aS G l=some qs
 |[],qs,e=>e
 |a::l,qs,e=>by
  unfold aS at e |-;split at e
  .rename_i q r h1 h2;rw[hFG _ _ h1,fy hFG h2];exact e
  .cases e
theorem Aa{F G}(hFG:∀a q,F a=some q->G a=some q){h u}(hs:cw h u){id ver:Nat}{q}(e:lR F ver h[id]?=some q):lR G ver u[id]?=some q:=by
 obtain⟨xs,h1,h2,h3⟩:=o9 e;rw[sM hs h1];show (if xs.length=ver then(aS G xs).map λl=>(q.1,l) else none)=some q;rw[if_pos h2,fy hFG h3];rfl
theorem Ou{h u}(hs:cw h u):∀(n) (a) (q),ci n h a=some q->ci n u a=some q:=by
 intro n
 induction n with
 |zero=>intro a q e;cases a<;>first|exact e|cases e
 |succ n ih=>
  intro a q e
  cases a with
  |p v=>exact e
  |ptr id ver i o=>
   unfold ci at e |-;simp only[cd]at e |-;obtain⟨q',h1,h2⟩:=e
   exact⟨q',Aa ih hs h1,h2⟩
  |slice id ver i o=>
   unfold ci at e |-;simp only[cd]at e |-;obtain⟨q',h1,h2⟩:=e
   exact⟨q',Aa ih hs h1,h2⟩
  |func fn first cap=>
   unfold ci at e |-;split at e
   .rename_i x y hx hy;rw[fy ih hx,fy ih hy];exact e
   .cases e
  |agg cs=>
   unfold ci at e |-;simp only[cd]at e |-;obtain⟨q',h1,h2⟩:=e
   exact⟨q',fy ih h1,h2⟩
  |tuple cs=>
   unfold ci at e |-;simp only[cd]at e |-;obtain⟨q',h1,h2⟩:=e
   exact⟨q',fy ih h1,h2⟩
  |ref k id=>cases k<;>first|exact e|cases e
  |undef=>cases e
theorem Fc{h u}(hs:cw h u){l}{qs}(e:pE h l=some qs):pE u l=some qs:=fy (Ou hs 8) e
theorem aY{H}{ops}{rest}{Q}{dst}{A}{f}{args}{pargs}{v}(hc:af P f pargs v)(ha:pE A.h args=some pargs)(hv:Flat v)
  (h:@WO ⟨P,H,ops,rest,Q⟩ (A.put dst (.p v) A.h)):@WF ⟨P,H,ops,rest,Q,dst⟩ A f args:=by
 refine(Ct hc ha hv).mono λr h' hr=>?_;obtain⟨rfl,rfl⟩:=hr;exact h
theorem Sn{H}{ops}{rest}{Q}{o}{hs h0}{A}{f}{args}{pargs}{v}(hc:af P f pargs v)(ha:pE h0 args=some pargs)(hv:Flat v)
  (h:@WD ⟨P,H,ops,rest,Q⟩ hs (A.put o.dst (.p v) A.h)):@Ga ⟨P,H,ops,rest,Q,o⟩ hs h0 A (.call f args):=
 ⟨.p v,λ_ hs=>Ct hc (Fc hs ha) hv,h⟩
end Abs
end Go.Proofs.YtnjiadikeacfaaaGreatDoor
namespace Go.Proofs.YtnjiadikeacfaaaGreatDoor
namespace Abs
variable {P:Program} {M0:Nat->Prop}
theorem fJ.refl(A):fJ P A A:=⟨rfl,rfl,λ_ _ _ _ m _ _ h=>⟨m,h⟩⟩
theorem fJ.trans{A B C}(h:fJ P A B)(k:fJ P B C):fJ P A C:=
 ⟨k.1.trans h.1,k.2.1.trans h.2.1,λM0 S0 b cs0 m a w hr=>let ⟨m1,h1⟩:=h.2.2 M0 S0 b cs0 m a w hr;k.2.2 M0 S0 b cs0 m1 a w h1⟩
theorem KA{A}{T}(h:∀t,T t=A.tmps t\/T t=.undef):fJ P A { A with tmps:=T }:=
 ⟨rfl,rfl,λM0 S0 b cs0 m a w hr=>⟨m,hr.size,λt=>by
  show Rep M0 ⟨m,A.h,w⟩ _ (T t);rcases h t with e|e
  .rw[e];exact hr.tmps t
  .rw[e];exact trivial,hr.hok,hr.ev,hr.le,hr.df,hr.rc⟩⟩
def Mem.cut (S:Mem) (l:Nat):Mem:=⟨S.m.take l,S.h.take l,S.w⟩
theorem wL{S:Mem}{l b}(h:Own (S.cut l).m b):Own S.m b:=sb h
theorem CQ{S:Mem}{l b}(h:Avoid M0 (S.cut l).m b):Avoid M0 S.m b:=h.imp id wL
theorem sR{S:Mem}{l id}(h:id<l):(S.cut l).h[id]?=S.h[id]?:=by
 show (S.h.take l)[id]?=_;rw[jp,if_pos h]
theorem Aj{S:Mem}{l id}(h:id<l):(S.cut l).m.getD id none=S.m.getD id none:=by
 show (S.m.take l).getD id none=_;rw[cG,cG,jp,if_pos h]
theorem dx.cut{S}{l id ver}{X}(h:dx S id ver X)(hid:id<l):dx (S.cut l) id ver X:=by
 unfold dx at *
 rw[sR hid,Aj hid];exact h
theorem cD.cut{S}{l}{v}{a}(h:cD M0 S v a)(hb:dO l a):cD M0 (S.cut l) v a:=by
 cases a with
 |p q=>exact RepP.less (show RepP (Avoid M0 S.m) S.w v q from h) λb hb=>CQ hb
 |ptr id ver i o=>exact⟨h.1,h.2.cut hb⟩
 |slice id ver off len=>exact⟨h.1,dx.cut (S:=S) h.2 hb⟩
 |ref k id=>
  refine⟨h.1,?_⟩;rw[sR hb,Aj hb]
  exact h.2
 |undef=>exact trivial
 |agg cs=>exact h.elim
 |func fn f c=>exact h.elim
 |tuple vs=>exact h.elim
theorem bL.cut{S}{l}{v}{a}(h:bL M0 S v a)(hb:eU l a):bL M0 (S.cut l) v a:=by
 cases a with
 |func fn f c=>
  obtain⟨F,C,rfl,h1,h2⟩:=h
  exact⟨F,C,rfl,h1.imp λv c hc hr=>cD.cut hr (hb.1 c hc),h2.imp λv c hc hr=>cD.cut hr (hb.2 c hc)⟩
 |p q=>exact cD.cut (M0:=M0) (a:=.p q) h hb
 |ptr id ver i o=>exact cD.cut (M0:=M0) (a:=.ptr id ver i o) h hb
 |slice id ver off len=>exact cD.cut (M0:=M0) (a:=.slice id ver off len) h hb
 |ref k id=>exact cD.cut (M0:=M0) (a:=.ref k id) h hb
 |undef=>exact trivial
 |agg cs=>exact h.elim
 |tuple vs=>exact h.elim
theorem dF.cut{S}{l}{v}{a}(h:dF M0 S v a)(hb:fV l a):dF M0 (S.cut l) v a:=by
 cases a with
 |agg cs=>
  obtain⟨C,rfl,h1,h2⟩:=h
  exact⟨C,rfl,h1,h2.imp λv c hc hr=>bL.cut hr (hb c hc)⟩
 |p q=>exact bL.cut (M0:=M0) (a:=.p q) h hb
 |ptr id ver i o=>exact bL.cut (M0:=M0) (a:=.ptr id ver i o) h hb
 |slice id ver off len=>exact bL.cut (M0:=M0) (a:=.slice id ver off len) h hb
 |ref k id=>exact bL.cut (M0:=M0) (a:=.ref k id) h hb
 |func fn f c=>exact bL.cut (M0:=M0) (a:=.func fn f c) h hb
 |undef=>exact trivial
 |tuple vs=>exact h.elim
theorem Rep.cut{S}{l}{v}{a}(h:Rep M0 S v a)(hb:below l a):Rep M0 (S.cut l) v a:=by
 cases a with
 |tuple cs=>
  obtain⟨C,rfl,h2⟩:=h
  exact⟨C,rfl,h2.imp λv c hc hr=>dF.cut hr (hb c hc)⟩
 |p q=>exact dF.cut (M0:=M0) (a:=.p q) h hb
 |ptr id ver i o=>exact dF.cut (M0:=M0) (a:=.ptr id ver i o) h hb
 |slice id ver off len=>exact dF.cut (M0:=M0) (a:=.slice id ver off len) h hb
 |ref k id=>exact dF.cut (M0:=M0) (a:=.ref k id) h hb
 |func fn f c=>exact dF.cut (M0:=M0) (a:=.func fn f c) h hb
 |undef=>exact trivial
 |agg cs=>exact dF.cut (M0:=M0) (a:=.agg cs) h hb
def bf (l:Nat):AObj->Prop
 |.row _ xs=>∀x,x∈xs->below l x
 |.loop _ tmps _ _ _ _ _=>∀t,below l (tmps t)
 |.bld _ _ x=>dO l x
 |_=>True
def qZ (l:Nat):ADef->Prop
 |.fn _ args=>∀a,a∈args->below l a
 |.collected id=>id<l
theorem Hj{l}{x c}{cs}(hx:x.cells=some cs)(hb:below l x)(hc:c∈cs)(hcell:c.isCell=true):eU l c:=by
 rcases vU hx with⟨l',rfl⟩|⟨l',rfl⟩|⟨h1,rfl⟩
 .simp only[AV.cells,PV.cells,gk]at hx;subst hx;simp only[dN]at hc;obtain⟨q,_,rfl⟩:=hc;exact trivial
 .simp only[AV.cells,gk]at hx;subst hx;exact hb c hc
 .simp only[dA]at hc;subst hc;cases c<;>first|exact hb|exact trivial|cases h1
theorem Bc{S:Mem}(hS:HOk P M0 S){l:Nat}(ho:∀(id:Nat) (o:AObj),id<l->S.h[id]?=some o->bf l o):HOk P M0 (S.cut l) where
 len:=by simp[Mem.cut,hS.len]
 lt:=λb h=>hS.lt b (wL h)
 m0:=λb h=>⟨(hS.m0 b h).1,λhn=>(hS.m0 b h).2 (wL hn)⟩
 gl:=hS.gl.fr (λ_ _ _=>rfl) λb hb=>.inl (wL hb)
 inj:=λi j b hi hj=>by
  have key:∀k:Nat,(S.cut l).m[k]?=some (some b)->S.m[k]?=some (some b):=by
   intro k hk;have hk':(S.m.take l)[k]?=some (some b):=hk;rw[jp]at hk';split at hk'
   .exact hk'
   .cases hk'
  exact hS.inj i j b (key i hi) (key j hj)
 obj:=λid o hid=>by
  have hlt:id<l:=by
   have:=(ax.1 hid).1;simp[Mem.cut]at this;omega
  rw[sR hlt]at hid;rw[Aj hlt];have hb:=ho id o hlt hid;have:=hS.obj id o hid
  cases o with
  |row sz xs=>
   rcases this with h|⟨b,T,C,h1,h2,h3,h4⟩
   .exact .inl h
   .refine .inr ⟨b,T,C,h1,h2,h3,λi x hx=>?_⟩;obtain⟨cs,h5,h6,h7⟩:=h4 i x hx
    exact⟨cs,h5,h6,λj c hc=>⟨(h7 j c hc).1,bL.cut (h7 j c hc).2 (Hj h5 (hb x (aT hx)) (aT hc) (h7 j c hc).1)⟩⟩
  |loop n tmps ps assign body st pend=>
   obtain⟨b,r,h1,h2,h3,h4,h5⟩:=this
   exact⟨b,r,h1,h2,h3,λt=>Rep.cut (h4 t) (hb t),h5⟩
  |strIter s p=>exact this
  |mp es=>
   obtain⟨b,C,clk,h1,h2,h3⟩:=this
   exact⟨b,C,clk,h1,h2,h3.monoP λv q hq=>bL.cut hq trivial⟩
  |memo f=>
   obtain⟨hg,es,hf,b,C,clk,h1,h2,h3⟩:=this
   exact⟨hg,es,hf,b,C,clk,h1,h2,h3.monoP λv q hq=>bL.cut hq trivial⟩
  |dblock=>exact this
  |bld T el x=>
   obtain⟨b,p,v,h1,h2,h3,h4,h5,h6⟩:=this
   exact⟨b,p,v,h1,h2,h3,h4,cD.cut h5 hb,h6⟩
  |dead=>exact trivial
theorem Fj{S}{l}:∀{ds} {xs},DefsRep P M0 S ds xs->(∀x,x∈xs->qZ l x)->DefsRep P M0 (S.cut l) ds xs
 |[],[],_,_=>trivial
 |d::ds,x::xs,h,hb=>by
  refine⟨?_,Fj h.2 λy hy=>hb y (by simp[hy])⟩;have hx:=hb x (by simp);have h1:=h.1
  cases x with
  |fn g args=>
   obtain⟨fv,cap,dargs,cargs,h2,h3,h4⟩:=h1
   exact⟨fv,cap,dargs,cargs,h2,h3,h4.imp λv c hc hr=>Rep.cut hr (hx c hc)⟩
  |collected id=>
   obtain⟨bl,h2,h3⟩:=h1;refine⟨bl,h2,?_⟩;rw[sR hx,Aj hx]
   exact h3
 |[],_::_,h,_=>h.elim
 |_::_,[],h,_=>h.elim
theorem Nt{A}{T}(l)(hl:A.bs<=l)(hlen:l<=A.h.length)(ht:∀t,(T t=A.tmps t/\below l (A.tmps t))\/T t=.undef)
  (ho:∀(id) (o),id<l->A.h[id]?=some o->bf l o) (hd:∀x,x∈A.df->qZ l x):fJ P A { A with tmps:=T,h:=A.h.take l }:=
 ⟨rfl,rfl,λM0 S0 b cs0 m a w hr=>⟨m.take l,hr.size,λt=>by
   show Rep M0 (Mem.cut ⟨m,A.h,w⟩ l) _ (T t);rcases ht t with⟨e,hb⟩|e
   .rw[e];exact Rep.cut (hr.tmps t) hb
   .rw[e];exact trivial,
  Bc (S:=⟨m,A.h,w⟩) hr.hok ho,
  {fr:=hr.ev.fr
   sub:=λx hx=>hr.ev.sub x (sb hx)
   obj:=λid o hid ho'=>by
    obtain⟨o',h1,h2⟩:=hr.ev.obj id o hid ho';have hidl:id<l:=by have:id<A.bs:=hid;omega
    refine⟨o',?_,?_⟩
    .exact(sR (S:=⟨m,A.h,w⟩) hidl).trans h1
    .have:=Aj (S:=⟨m,A.h,w⟩) hidl;show ObjEv _ _ ((Mem.cut ⟨m,A.h,w⟩ l).m.getD id none) _
     rw[this];exact h2 },
  ⟨by show A.bs<=(A.h.take l).length;simp;omega,hr.le.2⟩,Fj (S:=⟨m,A.h,w⟩) hr.df hd,by
   have:=hr.rc;cases hc:A.rc<;>rw[hc]at this<;>first|exact this|skip
   obtain⟨h1,h2,v',cs1,h3,h4⟩:=this
   exact⟨h1,h2,v',cs1,h3,RepP.less h4 λb hb=>CQ (S:=⟨m,A.h,w⟩) (l:=l) hb⟩⟩⟩
theorem DY{A}{T}(sz)(ht:∀t,T t=A.tmps t\/(A.tmps t=.p .nilslice/\T t=.slice A.h.length 0 0 0)):fJ P A { A with tmps:=T,h:=A.h++[.row sz []] }:=
 ⟨rfl,rfl,λM0 S0 b cs0 m a w hr=>⟨m++[none],by
  have hk:=xy (S:=⟨m,A.h,w⟩) hr.hok sz;have hev:=Ev.nil (S:=⟨m,A.h,w⟩) hr.hok sz;have hr1:=hr.ahead (m':=m++[none]) (h':=A.h++[.row sz []]) (w':=w) hev hk;refine⟨hr1.size,λt=>?_,hr1.hok,hr1.ev,hr1.le,hr1.df,hr1.rc⟩;show Rep M0 ⟨m++[none],A.h++[.row sz []],w⟩ _ (T t);rcases ht t with e|⟨e1,e2⟩
  .rw[e];exact hr1.tmps t
  .rw[e2];have h1:=hr.tmps t;rw[e1]at h1;have h2:RepP (Avoid M0 m) w (a.tmps.getD t undef) .nilslice:=h1;generalize a.tmps.getD t undef=v at h2 |-;cases h2;refine⟨⟨none,0,0,rfl⟩,.inr ⟨sz,[],by simp,bi _,λ_=>.inr (.inr ⟨?_,rfl,rfl⟩)⟩⟩;have:=hr.hok.len;show (m++[none]).getD A.h.length none=none;rw[cG,<-show m.length=A.h.length from this]
   simp⟩⟩
def pF (h:Heap):AEnd->Option PV
 |.ret a=>xC h a
 |_=>none
theorem zw(hD:dK P){H}{f}{fn}{c}{pargs}{v}{rs}{n}(hf:P.funcs[f]?=some fn)(hb:fn.body=some c)(hrs:fn.results.toList=rs)(hn:fn.ntmps=n)(hok:cv H fn=true)
  (hlen:pargs.length<=n) (hw:wp P H c (iB P rs 0 (λ_ r h=>pF h r=some v)) (aW n .no (pargs.map .p) [])):af P f pargs v:=by
 intro M0 w cargs hM hg ha;have ha':dE (Rep M0 ⟨[],[],w⟩) cargs (pargs.map .p):=by
  refine⟨by simpa using ha.1,λi c hc=>?_⟩;simp only[cz,cd]at hc;obtain⟨q,hq,rfl⟩:=hc;exact aF ((ha.2 i q hq).mono (λ_ _ _=>rfl) (λb hb=>by
   rcases hb with hb|hb
   .exact .inl hb
   .simp[Own]at hb))
 have:=jm hD (h:=[]) (R:=λr h=>pF h r=some v) hf hb hrs hn hok (by simpa using hlen) hw M0 [] w cargs (qn hM hg) ha';refine⟨this.1,this.2.mono λe w' h=>?_⟩;obtain⟨r,h',m',hR,hev,hk,hend⟩:=h
 cases e with
 |returned v'=>
  cases r with
  |panic v=>cases hR
  |ret a=>exact⟨v',rfl,qW (S:=⟨m',h',w'⟩) hk hend hR,hev.fr⟩
 |panicked ch=>
  cases r with
  |panic v=>cases hR
  |ret a=>exact hend.elim
 |outgrown=>exact hend.elim
end Abs
end Go.Proofs.YtnjiadikeacfaaaGreatDoor
namespace Go.Proofs.YtnjiadikeacfaaaGreatDoor
namespace Abs
variable {P:Program} {H:Hints} {ops:Array Oper} {Q Q':Ex->AAct->Prop}
theorem Cc{A}{dst}{K K'}{r}(h:∀B,K B->K' B)(hq:∀e B,Q e B->Q' e B)(k:kA P A dst K Q r):kA P A dst K' Q' r:=by
 cases r with
 |call f args=>
  intro M0 m w cargs hS ha;obtain⟨h1,h2⟩:=k M0 m w cargs hS ha;refine⟨h1,h2.mono λ_ _ hb=>?_⟩;obtain⟨r,h',m',hR,rest⟩:=hb
  exact⟨r,h',m',by cases r<;>first|exact h _ hR|exact hq _ _ hR,rest⟩
 |yld l args=>
  refine⟨k.1,λM0 m w cargs bl hS ha hbl=>?_⟩;obtain⟨f,tmps,asx,bd,h1,h2⟩:=k.2 M0 m w cargs bl hS ha hbl;refine⟨f,tmps,asx,bd,h1,λc cs=>?_⟩;obtain⟨e,w',⟨r,h',m',hR,rest⟩,hs⟩:=h2 c cs
  exact⟨e,w',⟨r,h',m',by cases r<;>first|exact h _ hR|exact hq _ _ hR,rest⟩,hs⟩
 |panic v=>exact hq _ _ k
 |val v h'=>exact nV (Q:=Q') h k
 |skip h'=>exact nV (Q:=Q') h k
 |dfr d=>exact nV (Q:=Q') h k
 |recover=>exact nV (Q:=Q') h k
 |stuck=>exact k
theorem zd{X Y X' Y'}{o}(h1:X ()->X' ())(h2:Y ()->Y' ())(k:rG X Y o):rG X' Y' o:=by
 cases o with
 |none=>exact k
 |some b=>exact⟨λe=>h1 (k.1 e),λe=>h2 (k.2 e)⟩
theorem tx(hq:∀e B,Q e B->Q' e B):∀(l) {A},iF P H ops Q l A->iF P H ops Q' l A
 |[],_,k=>hq _ _ k
 |o::rest,A,k=>by
  rw[iF]at k |-;exact zd (λk=>Cc (λB hB=>tx hq rest hB) hq k) (λk=>tx hq rest k) k
theorem MT{h}{K K'}{r}(hk:∀v h,K v h->K' v h)(k:BF h K r):BF h K' r:=by
 cases r<;>first|exact k.elim|exact⟨k.1,hk _ _ k.2⟩
theorem Ek{h}{K K'}{r}(hk:∀v,K v->K' v)(k:xp P h K r):xp P h K' r:=by
 obtain⟨v,h1,h2⟩:=qj.1 k;exact qj.2 ⟨v,h1,hk v h2⟩
theorem I9{hs h}{j sz}{K K'}{z}(hk:∀v h,K v h->K' v h)(k:rJ hs h j sz K z):rJ hs h j sz K' z:=by
 cases z with
 |none=>exact k
 |some z=>exact⟨k.1,k.2.1,k.2.2.1,hk _ _ k.2.2.2⟩
theorem I'{K K'}{r}(hk:∀h,K h->K' h)(k:pT K r):pT K' r:=by
 cases r<;>first|exact k.elim|exact hk _ k
theorem KS{hs h}{e}{K K'}{o}(hk:∀h,K h->K' h)(k:u6 P hs h e K o):u6 P hs h e K' o:=by
 cases o with
 |store T a x=>
  have k1:(match e a with|.ptr id ver i o=>iC hs id=true/\pT K (gE P T (.ptr id ver i o) (e x) h)|_=>False):=k;show (match e a with|.ptr id ver i o=>iC hs id=true/\pT K' (gE P T (.ptr id ver i o) (e x) h)|_=>False);generalize e a=z at k1 |-
  cases z<;>first|exact k1.elim|exact⟨k1.1,I' hk k1.2⟩
 |_=>exact k.elim
theorem Lo{h}{e}{K K'}{o}(hk:K->K')(k:vt P h e K o):vt P h e K' o:=by
 cases o<;>first|exact k.elim|exact⟨k.1,hk k.2⟩
theorem MR{hs h}{K K'}{r}(hk:∀v h,K v h->K' v h)(k:yQ hs h K r):yQ hs h K' r:=by
 cases r<;>first|exact k.elim|exact⟨k.1,hk _ _ k.2⟩
theorem KP{A}{K K'}{r}(hq:∀e B,Q e B->Q' e B)(hk:∀v,K v->K' v)(k:x8 P Q A K r):x8 P Q' A K' r:=by
 cases r<;>first|exact k.elim|skip
 rcases k with⟨v,h1,h2⟩|⟨v,h1,h2⟩
 .exact .inl ⟨v,h1,hk v h2⟩
 .exact .inr ⟨v,h1,λT=>hq _ _ (h2 T)⟩
theorem JU{hs}{A}{K K'}{r}(hq:∀e B,Q e B->Q' e B)(hk:∀v h,K v h->K' v h)(k:rg P H Q hs A K r):rg P H Q' hs A K' r:=by
 cases r<;>first|exact k.elim|skip
 intro M0 m w cargs hS ha;obtain⟨h1,h2⟩:=k M0 m w cargs hS ha;refine⟨h1,h2.mono λ_ _ hb=>?_⟩;obtain⟨r,h',m',hR,rest⟩:=hb;exact⟨r,h',m',by cases r<;>first|exact⟨hR.1,hk _ _ hR.2⟩|exact λT hT=>hq _ _ (hR T hT),rest⟩
theorem ej(hq:∀e B,Q e B->Q' e B):∀(l) {hs} {A},bP P H ops Q l hs A->bP P H ops Q' l hs A
 |[],_,_,k=>hq _ _ k
 |o::rest,hs,A,k=>by
  rw[bP]at k |-;refine zd (λk=>?_) (λk=>ej hq rest k) k;cases hc:bQ H o<;>rw[hc]at k
  .exact Cc (K:=λB=>bP P H ops Q rest B.h B) (K':=λB=>bP P H ops Q' rest B.h B) (λB hB=>ej hq rest hB) hq k
  .exact MT (λv h hh=>ej hq rest hh) k
  .exact Ek (λv hh=>ej hq rest hh) k
  .exact Ek (λv hh=>ej hq rest hh) k
  .exact I9 (λv h hh=>ej hq rest hh) k
  .exact KS (λh hh=>ej hq rest hh) k
  .exact Lo (λhh=>ej hq rest hh) k
  .exact MR (λv h hh=>ej hq rest hh) k
  .exact KP hq (λv hh=>ej hq rest hh) k
  .exact JU hq (λv h hh=>ej hq rest hh) k
theorem oN{K K'}(h:∀B,K B->K' B)(hq:∀e B,Q e B->Q' e B):∀e B,dT K Q e B->dT K' Q' e B
 |.normal,_,k=>h _ k
 |.exit _,_,k=>hq _ _ k
 |.ret,_,k=>hq _ _ k
 |.panic _,_,k=>hq _ _ k
theorem He{id}(hq:∀e B,Q e B->Q' e B):∀e B,jG id Q e B->jG id Q' e B
 |.normal,_,k=>hq _ _ k
 |.exit j,B,k=>by
  have k':if j=id then Q .normal B else Q (.exit j) B:=k
  show if j=id then Q' .normal B else Q' (.exit j) B
  by_cases h:j=id
  .rw[if_pos h]at k' |-;exact hq _ _ k'
  .rw[if_neg h]at k' |-;exact hq _ _ k'
 |.ret,_,k=>hq _ _ k
 |.panic _,_,k=>hq _ _ k
theorem EU(hq:∀e B,Q e B->Q' e B){A}{l}{o}(k:mE Q A l o):mE Q' A l o:=by
 unfold mE at k |-;split at k
 .refine⟨k.1,?_⟩;have:=k.2;unfold uh at this |-;split at this<;>first|exact this.elim|exact hq _ _ this
 .exact k.elim
theorem jx:∀(c) {Q Q'} {A},(∀e B,Q e B->Q' e B)->wp P H c Q A->wp P H c Q' A:=by
 intro c
 induction c with
 |skip=>intro Q Q' A hq k;exact hq _ _ k
 |region id ops draw=>
  intro Q Q' A hq k
  cases draw with
  |false=>exact tx hq _ k
  |true=>exact ej hq _ k
 |seq x y ihx ihy=>intro Q Q' A hq k;exact ihx (oN (λB hB=>ihy hq hB) hq) k
 |cond c x y ihx ihy=>
  intro Q Q' A hq k;unfold wp DF at k |-;split at k
  .exact⟨λe=>ihx hq (k.1 e),λe=>ihy hq (k.2 e)⟩
  .exact k.elim
 |block id x ihx=>intro Q Q' A hq k;exact ihx (He hq) k
 |loop x ihx=>
  intro Q Q' A hq k
  exact λX hX=>k X λB hB=>hX B (ihx (oN (λB hB=>hB) hq) hB)
 |rangeFunc g ps assign body _ _=>
  intro Q Q' A hq k;have gen:∀{X Y:Prop} {c:Rc},(X->Y)->ur X c->ur Y c:=λhx hc=>by
   rename_i c;cases c<;>first|exact False.elim hc|exact hx hc
  refine gen (λk=>?_) k;unfold vp at k |-;split at k
  .rename_i gf args hg;intro M0 m w cargs hS ha;obtain⟨h1,h2⟩:=k M0 m w cargs hS ha;refine⟨h1,h2.mono λ_ _ hb=>?_⟩;obtain⟨r,h',m',hR,rest⟩:=hb;refine⟨r,h',m',?_,rest⟩
   cases r with
   |ret v=>exact EU hq hR
   |panic v=>exact hq _ _ hR
  .exact k.elim
 |exit id=>intro Q Q' A hq k;exact hq _ _ k
 |ret=>intro Q Q' A hq k;exact hq _ _ k
 |scope x ihx=>intro Q Q' A hq k;exact ihx hq k
 |label id=>intro Q Q' A hq k;exact hq _ _ k
 |_=>intro Q Q' A hq k;exact k.elim
theorem AR{x}{A}(k:wp P H x (dT (λB=>wp P H (.loop x) Q B) Q) A):wp P H (.loop x) Q A:=by
 intro X hX;refine⟨A,fJ.refl A,hX A (jx x (oN (λB hB=>?_) λ_ _ h=>h) k)⟩;exact hB X hX
theorem Gq{x}{A}{σ:Type}(I:σ->AAct)(μ:σ->Nat)(s0)(h0:fJ P A (I s0))(hs:∀s,wp P H x (dT (λB=>∃s',μ s'<μ s/\fJ P B (I s')) Q) (I s)):wp P H (.loop x) Q A:=by
 intro X hX;have key:∀(j:Nat) (s:σ),μ s=j->X (I s):=by
  intro j
  induction j using Nat.strongRecOn with
  |_ j ih=>
   intro s hj;refine hX _ (jx x (oN (λB hB=>?_) λ_ _ h=>h) (hs s));obtain⟨s',h1,h2⟩:=hB;exact⟨_,h2,ih (μ s') (hj▸h1) s' rfl⟩
 exact⟨_,h0,key _ s0 rfl⟩
def cK:List (Nat×AV)->Nat->AV
 |[],_=>.undef
 |(k,v)::l,t=>if t=k then v else cK l t
theorem LG(t):cK [] t=.undef:=rfl
theorem p5(k)(v)(l)(t):cK ((k,v)::l) t=if t=k then v else cK l t:=rfl
theorem yx:∀(l) (t),cK l t=.undef\/(t,cK l t)∈l
 |[],_=>.inl rfl
 |(k,v)::l,t=>by
  rw[p5];by_cases h:t=k
  .subst h;rw[if_pos rfl];exact .inr (by simp)
  .rw[if_neg h];rcases yx l t with h1|h1
   .exact .inl h1
   .exact .inr (xY _ h1)
theorem KD{A}(l)(h:∀p,p∈l->A.tmps p.1=p.2):fJ P A { A with tmps:=cK l }:=
 KA λt=>by
  rcases yx l t with h1|h1
  .exact .inr h1
  .exact .inl (h _ h1).symm
def fT {σ:Type} (P:Program) (V:σ->Prop) (I:σ->AAct) (μ:σ->Nat) (s:σ):AAct->Prop:=λB=>∃s',V s'/\μ s'<μ s/\fJ P B (I s')
theorem MX{σ}{x}{A}(V:σ->Prop)(I)(μ)(s0)(hv:V s0)(h0:fJ P A (I s0))(hs:∀s,V s->@W ⟨P,H,x,dT (fT P V I μ s) Q⟩ (I s)):@W ⟨P,H,.loop x,Q⟩ A:=by
 refine Gq (σ:={ s:σ // V s }) (λs=>I s.1) (λs=>μ s.1) ⟨s0,hv⟩ h0 λs=>?_;refine jx x (oN (λB hB=>?_) λ_ _ h=>h) (hs s.1 s.2);obtain⟨s',h1,h2,h3⟩:=hB;exact⟨⟨s',h1⟩,h2,h3⟩
theorem aU{x}{A}(k:@W ⟨P,H,x,dT (wp P H (.loop x) Q) Q⟩ A):@W ⟨P,H,.loop x,Q⟩ A:=AR k
theorem VK(a)(l):(List.toArray (a::l)).getD 0 0=a:=rfl
theorem VJ(a b)(l):(List.toArray (a::b::l)).getD 1 0=b:=rfl
end Abs
end Go.Proofs.YtnjiadikeacfaaaGreatDoor
