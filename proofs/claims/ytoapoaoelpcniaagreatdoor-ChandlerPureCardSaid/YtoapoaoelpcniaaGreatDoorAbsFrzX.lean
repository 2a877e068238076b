/- CONTRACTS of the program's functions, and laws on what they return. No conditions but those in the theorems' heads. -/
import Derived.Test.YtoapoaoelpcniaaGreatDoorAbsEval
set_option linter.all false
namespace Go.Proofs.YtoapoaoelpcniaaGreatDoor
namespace Abs
variable {P:Program} {M0:Nat->Prop}
inductive Flat:PV->Prop
 |bool (b:Bool):Flat (.bool b)
 |int (k:IntKind) (n:Int):Flat (.int k n)
 |str (s:ByteArray):Flat (.str s)
 |agg {cs:List PV} (h:∀(i:Nat) (c:PV),cs[i]?=some c->Flat c):Flat (.agg cs)
 |tuple {cs:List PV} (h:∀(i:Nat) (c:PV),cs[i]?=some c->Flat c):Flat (.tuple cs)
 |nilslice:Flat .nilslice
 |nilptr:Flat .nilptr
 |nilfunc:Flat .nilfunc
 |iface {t:TypeId} {q:PV} (h:Flat q):Flat (.iface t q)
 |niliface:Flat .niliface
 |any:Flat .any
theorem Flat.nil(i:Nat)(c)(h:([]:List PV)[i]?=some c):Flat c:=by simp at h
theorem Flat.cons{q}{l}(hq:Flat q)(hl:∀(i:Nat) (c),l[i]?=some c->Flat c)(i:Nat)(c)(h:(q::l)[i]?=some c):Flat c:=by
 cases i with
 |zero=>cases h;exact hq
 |succ i=>exact hl i c (by simpa using h)
theorem Flat.rep{q}(hf:Flat q){M M'}{w w'}{v}(h:RepP M w v q):RepP M' w' v q:=by
 induction hf generalizing v with
 |bool b=>cases h;exact .bool b
 |int k n=>cases h;exact .int k n
 |str s=>cases h;exact .str s
 |agg _ ih=>cases h with|agg hn hs hr=>exact .agg hn hs λi c hi=>ih i c hi (hr i c hi)
 |tuple _ ih=>cases h with|tuple hn hr=>exact .tuple hn λi c hi=>ih i c hi (hr i c hi)
 |nilslice=>cases h;exact .nilslice
 |nilptr=>cases h;exact .nilptr
 |nilfunc=>cases h;exact .nilfunc
 |iface _ ih=>cases h with|iface hr=>exact .iface (ih hr)
 |niliface=>cases h;exact .niliface
 |any=>cases h<;>constructor
def aV (F:AV->Option PV):List AV->Option (List PV)
 |[]=>some []
 |a::l=>match F a,aV F l with|some q,some r=>some (q::r)|_,_=>none
def mU (F:AV->Option PV) (ver:Nat):Option AObj->Option (Nat×List PV)
 |some (.row sz xs)=>if xs.length=ver then(aV F xs).map λl=>(sz,l) else none
 |_=>none
def cm:Nat->Heap->AV->Option PV
 |_,_,.p v=>some v
 |0,_,_=>none
 |n+1,h,.ptr id ver i o=>(mU (cm n h) ver h[id]?).map λq=>.ptr q.1 q.2 i o
 |n+1,h,.slice id ver off len=>(mU (cm n h) ver h[id]?).map λq=>.slice q.1 ((q.2.take (off+len)).drop off) false
 |n+1,h,.func fn first cap=>match aV (cm n h) first,aV (cm n h) cap with|some a,some b=>some (.func fn a b)|_,_=>none
 |n+1,h,.agg cs=>(aV (cm n h) cs).map .agg
 |n+1,h,.tuple cs=>(aV (cm n h) cs).map .tuple
 |_+1,_,.ref .mp _=>some .any
 |_,_,_=>none
def zg (h:Heap) (a:AV):Option PV:=cm 8 h a
def qW (h:Heap) (l:List AV):Option (List PV):=aV (zg h) l
theorem eJ(n)(h)(v):cm n h (.p v)=some v:=by cases n<;>rfl
theorem dD{α:Type}{F}(hF:∀v,F (.p v)=some v)(f):∀l:List α,aV F (l.map λx=>.p (f x))=some (l.map f)
 |[]=>rfl
 |x::r=>by rw[bL,aV,dD hF f r,hF];rfl
theorem GS{α:Type}(n)(h)(f)(l:List α):aV (cm n h) (l.map λx=>.p (f x))=some (l.map f):=dD (eJ n h) f l
theorem ft{F}:∀{l} {qs},aV F l=some qs->l.length=qs.length/\∀(i:Nat) (q),qs[i]?=some q->∃a,l[i]?=some a/\F a=some q
 |[],qs,e=>by cases e;exact⟨rfl,by simp⟩
 |a::l,qs,e=>by
  unfold aV at e;split at e
  .rename_i q r h1 h2;cases e;obtain⟨h3,h4⟩:=ft h2;refine⟨by simp[h3],λi q' hi=>?_⟩
   cases i with
   |zero=>cases hi;exact⟨a,rfl,h1⟩
   |succ i=>exact h4 i q' (by simpa using hi)
  .cases e
theorem qD{F}{ver}{o}{q}(e:mU F ver o=some q):∃xs,o=some (.row q.1 xs)/\xs.length=ver/\aV F xs=some q.2:=by
 unfold mU at e;split at e
 .rename_i sz xs;split at e
  .rename_i hv;simp only[cg]at e;obtain⟨l,h1,rfl⟩:=e;exact⟨xs,rfl,hv,h1⟩
  .cases e
 .cases e
theorem nT{n}{h}{a}{q}(ha:a.isCell=true)(e:cm n h a=some q):q.isCell=true:=by
 cases a with
 |p v=>rw[eJ]at e;cases e;exact ha
 |agg cs=>cases ha
 |tuple cs=>cases ha
 |undef=>cases ha
 |ref k id=>cases n<;>cases k<;>first|(cases e;rfl)|cases e
 |ptr id ver i o=>
  cases n with
  |zero=>cases e
  |succ n=>
   unfold cm at e;simp only[cg]at e;obtain⟨q',_,rfl⟩:=e
   rfl
 |slice id ver off len=>
  cases n with
  |zero=>cases e
  |succ n=>
   unfold cm at e;simp only[cg]at e;obtain⟨q',_,rfl⟩:=e
   rfl
 |func fn first cap=>
  cases n with
  |zero=>cases e
  |succ n=>
   unfold cm at e;split at e
   .cases e;rfl
   .cases e
theorem y5{q:PV}(h:q.isCell=true):q.cells=[q]:=by cases q<;>first|rfl|cases h
theorem Bu{n}{h}{a}{q}{cs}(e:cm n h a=some q)(hc:a.cells=some cs) :
  q.cells.length=cs.length/\∀(j:Nat) (c),q.cells[j]?=some c->∃x m,cs[j]?=some x/\m<=n/\cm m h x=some c:=by
 have single:a.isCell=true->cs=[a]->q.cells.length=cs.length/\∀(j:Nat) (c:PV),q.cells[j]?=some c->∃x m,cs[j]?=some x/\m<=n/\cm m h x=some c:=by
  intro ha hcs;have hq:=nT ha e;rw[y5 hq,hcs];refine⟨rfl,λj c hj=>?_⟩
  cases j with
  |zero=>cases hj;exact⟨a,n,rfl,bB _,e⟩
  |succ j=>simp at hj
 cases a with
 |p v=>
  rw[eJ]at e;cases e;have hcs:cs=q.cells.map .p:=by
   cases q with
   |tuple l=>simp[AV.cells]at hc
   |_=>(simp[AV.cells]at hc;exact hc.symm)
  subst hcs
  refine⟨by simp,λj c hj=>⟨.p c,n,by simp[hj],bB _,eJ _ _ _⟩⟩
 |agg l=>
  cases n with
  |zero=>cases e
  |succ n=>
   unfold cm at e;simp only[cg]at e;obtain⟨qs,h1,rfl⟩:=e;simp only[AV.cells,jO]at hc;subst hc;obtain⟨h2,h3⟩:=ft h1;refine⟨h2.symm,λj c hj=>?_⟩;obtain⟨x,h4,h5⟩:=h3 j c hj
   exact⟨x,n,h4,by omega,h5⟩
 |tuple l=>cases hc
 |undef=>cases hc
 |ptr id ver i o=>cases hc;exact single rfl rfl
 |slice id ver i o=>cases hc;exact single rfl rfl
 |func fn a b=>cases hc;exact single rfl rfl
 |ref k id=>cases hc;exact single rfl rfl
theorem Jz{S}(hS:HOk P M0 S){n id sz b}{xs}{l}(ih:∀m,m<=n->∀(v) (a) (q),Rep M0 S v a->cm m S.h a=some q->RepP M0 S.w v q)
  (hid:S.h[id]?=some (.row sz xs)) (hm:S.m.getD id none=some b) (hl:aV (cm n S.h) xs=some l) :
  ∃C T,S.w.heap[b]?=some (.cells C T (0,0))/\l.length=xs.length/\l.length*sz<=C.size/\(∀x,x∈l->x.cells.length=sz/\∀c,c∈x.cells->c.isCell=true)/\¬M0 b /\
   (∀k,k<l.length*sz->S.w.cell? ⟨b,0+k,none⟩=some (C.getD k undef))/\∀(i j) (x c),l[i]?=some x->x.cells[j]?=some c->RepP M0 S.w (C.getD (i*sz+j) undef) c:=by
 obtain⟨C,T,hb,hsize,hel⟩:=fF hS hid hm;obtain⟨hxl,hfr⟩:=ft hl;have helem:∀(i:Nat) (q:PV),l[i]?=some q->(q.cells.length=sz/\∀c,c∈q.cells->c.isCell=true)/\∀(j:Nat) (c:PV),q.cells[j]?=some c->RepP M0 S.w (C.getD (i*sz+j) undef) c:=by
  intro i q hi;obtain⟨a,h0,hfa⟩:=hfr i q hi;obtain⟨cs,h1,h2,h3⟩:=hel i a h0;obtain⟨h4,h5⟩:=Bu hfa h1;refine⟨⟨by omega,λc hc=>?_⟩,λj c hj=>?_⟩
  .obtain⟨j,hj⟩:=dX hc;obtain⟨x,m,h6,_,h8⟩:=h5 j c hj;exact nT (h3 j x h6).1 h8
  .obtain⟨x,m,h6,h7,h8⟩:=h5 j c hj;exact ih m h7 _ x c (sh (h3 j x h6).1 (h3 j x h6).2) h8
 refine⟨C,T,hb,hxl.symm,by rw[<-hxl];exact hsize,λx hx=>?_,λhm0=>(hS.m0 b hm0).2 (aG (cK hm)),λk hk=>?_,λi j x c hx hj=>(helem i x hx).2 j c hj⟩
 .obtain⟨i,hi⟩:=dX hx;exact(helem i x hi).1
 .rw[iq];exact jE hb k (by rw[<-hxl]at hk;omega)
theorem S7{S}(hS:HOk P M0 S):∀(n) (v) (a) (q),Rep M0 S v a->cm n S.h a=some q->RepP M0 S.w v q:=by
 intro n
 induction n using Nat.strongRecOn with
 |_ n ih=>
  intro v a q hr e
  cases a with
  |p v'=>rw[eJ]at e;cases e;exact RepP.less (show RepP (Avoid M0 S.m) S.w v q from hr) λb hb=>.inl hb
  |ref k id=>
   cases n<;>cases k<;>first|(cases e;obtain⟨⟨b,hb⟩,_⟩:=hr;rw[hb];exact .anyMap)|cases e
  |undef=>cases n<;>cases e
  |ptr id ver i o=>
   cases n with
   |zero=>cases e
   |succ n=>
    unfold cm at e;simp only[cg]at e;obtain⟨⟨sz,l⟩,h1,rfl⟩:=e;obtain⟨xs,hid,hv,hl⟩:=qD h1;obtain⟨b,hm,rfl⟩:=di hr.2 hid hv;obtain⟨C,T,hb,h1,h2,h3,h4,h5,h6⟩:=Jz hS (λm hm=>ih m (by omega)) hid hm hl
    exact .ptr (off:=0) (λk=>C.getD k undef) (by omega) h3 (λ_=>h4) h5 h6
  |slice id ver off len=>
   cases n with
   |zero=>cases e
   |succ n=>
    unfold cm at e;simp only[cg]at e;obtain⟨⟨sz,l⟩,h1,rfl⟩:=e;obtain⟨xs,hid,hv,hl⟩:=qD h1;dsimp only at hid hl |-;have hnil:len=0->(l.take (off+len)).drop off=[]:=by
     intro e;subst e;apply tK;simp
    rcases di hr.2 hid hv with⟨h0,_,_,a,cap,rfl⟩|⟨b,cap,T',n',hm,rfl,⟨h1,h2⟩,_,_⟩|⟨_,rfl,h0⟩
    .rw[hnil h0];exact .empty (by simp)
    .obtain⟨C,T,hb,h3,h4,h5,h6,h7,h8⟩:=Jz hS (λm hm=>ih m (by omega)) hid hm hl;have:=vn (M:=M0) (w:=S.w) (b:=b) (off:=0) (sz:=sz) (l:=off) (r:=off+len) (xs:=l) (λk=>C.getD k undef) (by omega) (by omega) h5 (λ_=>h6) h7 h8 (cap:=cap) (full:=false) (by omega) (by simp);simpa using this
    .rw[hnil h0];exact .empty (by simp)
  |func fn first cap=>
   cases n with
   |zero=>cases e
   |succ n=>
    obtain⟨F,C,rfl,h1,h2⟩:=hr;unfold cm at e;split at e
    .rename_i x y hx hy;cases e;obtain⟨h3,h4⟩:=ft hx;obtain⟨h5,h6⟩:=ft hy;refine .func (by rw[h1.1,h3]) (by rw[h2.1,h5]) (λi c hi=>?_) λi c hi=>?_
     .obtain⟨a,h7,h8⟩:=h4 i c hi;exact ih n (by omega) _ a c (lM (h1.2 i a h7)) h8
     .obtain⟨a,h7,h8⟩:=h6 i c hi;exact ih n (by omega) _ a c (lM (h2.2 i a h7)) h8
    .cases e
  |agg cs=>
   cases n with
   |zero=>cases e
   |succ n=>
    obtain⟨C,rfl,hc,h1,h2⟩:=hr;unfold cm at e;simp only[cg]at e;obtain⟨l,hl,rfl⟩:=e;obtain⟨h3,h4⟩:=ft hl;refine .agg (by omega) (λc hcl=>?_) λi c hi=>?_
    .obtain⟨i,hi⟩:=dX hcl;obtain⟨a,h5,h6⟩:=h4 i c hi;exact nT (hc a (aG h5)) h6
    .obtain⟨a,h5,h6⟩:=h4 i c hi
     exact ih n (by omega) _ a c (sh (hc a (aG h5)) (h2 i a h5)) h6
  |tuple cs=>
   cases n with
   |zero=>cases e
   |succ n=>
    obtain⟨C,rfl,h1,h2⟩:=hr;unfold cm at e;simp only[cg]at e;obtain⟨l,hl,rfl⟩:=e;obtain⟨h3,h4⟩:=ft hl;refine .tuple (by omega) λi c hi=>?_;obtain⟨a,h5,h6⟩:=h4 i c hi;exact ih n (by omega) _ a c (pz (h2 i a h5)) h6
theorem sE{S}(hS:HOk P M0 S){v}{a}{q}(hr:Rep M0 S v a)(h:zg S.h a=some q):RepP M0 S.w v q:=S7 hS 8 v a q hr h
theorem CC{h}{l}{qs}(e:qW h l=some qs):l.length=qs.length/\∀(i:Nat) (q),qs[i]?=some q->∃a,l[i]?=some a/\zg h a=some q:=ft e
theorem DT{f}{args}{pargs}{v}{h}(hc:af P f pargs v)(ha:qW h args=some pargs)(hv:Flat v):aD P f args h (λr h'=>r=.ret (.p v)/\h'=h):=by
 intro M0 m w cargs hS hargs;obtain⟨hl,hg⟩:=CC ha;have hpa:rO M0 w cargs pargs:=by
  refine⟨by rw[hargs.1,hl],λi c hi=>?_⟩;obtain⟨a,h1,h2⟩:=hg i c hi;exact sE (S:=⟨m,h,w⟩) hS (hargs.2 i a h1) h2
 obtain⟨h1,h2⟩:=hc M0 w cargs (λb hb=>(hS.m0 b hb).1) hS.gl.1 hpa;refine⟨h1,h2.mono λe w' hh=>?_⟩;obtain⟨v',rfl,hr,hfr⟩:=hh;obtain⟨hk,hev⟩:=tB hS hfr;exact⟨.ret (.p v),_,m,⟨rfl,rfl⟩,hev,hk,hv.rep hr⟩
theorem fP{F G}(hFG:∀a q,F a=some q->G a=some q):∀{l} {qs},aV F l=some qs->aV G l=some qs
 |[],qs,e=>e
 |a::l,qs,e=>by
  unfold aV at e |-;split at e
  .rename_i q r h1 h2;rw[hFG _ _ h1,fP hFG h2];exact e
  .cases e
theorem Bt{F G}(hFG:∀a q,F a=some q->G a=some q){h u}(hs:cL h u){id ver:Nat}{q}(e:mU F ver h[id]?=some q):mU G ver u[id]?=some q:=by
 obtain⟨xs,h1,h2,h3⟩:=qD e;rw[ut hs h1];show (if xs.length=ver then(aV G xs).map λl=>(q.1,l) else none)=some q;rw[if_pos h2,fP hFG h3];rfl
theorem Qo{h u}(hs:cL h u):∀(n) (a) (q),cm n h a=some q->cm n u a=some q:=by
 intro n
 induction n with
 |zero=>intro a q e;cases a<;>first|exact e|cases e
 |succ n ih=>
  intro a q e
  cases a with
  |p v=>exact e
  |ptr id ver i o=>
   unfold cm at e |-;simp only[cg]at e |-;obtain⟨q',h1,h2⟩:=e
   exact⟨q',Bt ih hs h1,h2⟩
  |slice id ver i o=>
   unfold cm at e |-;simp only[cg]at e |-;obtain⟨q',h1,h2⟩:=e
   exact⟨q',Bt ih hs h1,h2⟩
  |func fn first cap=>
   unfold cm at e |-;split at e
   .rename_i x y hx hy;rw[fP ih hx,fP ih hy];exact e
   .cases e
  |agg cs=>
   unfold cm at e |-;simp only[cg]at e |-;obtain⟨q',h1,h2⟩:=e
   exact⟨q',fP ih h1,h2⟩
  |tuple cs=>
   unfold cm at e |-;simp only[cg]at e |-;obtain⟨q',h1,h2⟩:=e
   exact⟨q',fP ih h1,h2⟩
  |ref k id=>cases k<;>first|exact e|cases e
  |undef=>cases e
theorem GT{h u}(hs:cL h u){l}{qs}(e:qW h l=some qs):qW u l=some qs:=fP (Qo hs 8) e
theorem bf{H}{ops}{rest}{Q}{dst}{A}{f}{args}{pargs}{v}(hc:af P f pargs v)(ha:qW A.h args=some pargs)(hv:Flat v)
  (h:@WO ⟨P,H,ops,rest,Q⟩ (A.put dst (.p v) A.h)):@WF ⟨P,H,ops,rest,Q,dst⟩ A f args:=by
 refine(DT hc ha hv).mono λr h' hr=>?_;obtain⟨rfl,rfl⟩:=hr;exact h
theorem Ut{H}{ops}{rest}{Q}{o}{hs h0}{A}{f}{args}{pargs}{v}(hc:af P f pargs v)(ha:qW h0 args=some pargs)(hv:Flat v)
  (h:@WD ⟨P,H,ops,rest,Q⟩ hs (A.put o.dst (.p v) A.h)):@HU ⟨P,H,ops,rest,Q,o⟩ hs h0 A (.call f args):=
 ⟨.p v,λ_ hs=>DT hc (GT hs ha) hv,h⟩
end Abs
end Go.Proofs.YtoapoaoelpcniaaGreatDoor
namespace Go.Proofs.YtoapoaoelpcniaaGreatDoor
namespace Abs
variable {P:Program} {M0:Nat->Prop}
theorem f7.refl(A):f7 P A A:=⟨rfl,rfl,λ_ _ _ _ m _ _ h=>⟨m,h⟩⟩
theorem f7.trans{A B C}(h:f7 P A B)(k:f7 P B C):f7 P A C:=
 ⟨k.1.trans h.1,k.2.1.trans h.2.1,λM0 S0 b cs0 m a w hr=>let ⟨m1,h1⟩:=h.2.2 M0 S0 b cs0 m a w hr;k.2.2 M0 S0 b cs0 m1 a w h1⟩
theorem Mz{A}{T}(h:∀t,T t=A.tmps t\/T t=.undef):f7 P A { A with tmps:=T }:=
 ⟨rfl,rfl,λM0 S0 b cs0 m a w hr=>⟨m,hr.size,λt=>by
  show Rep M0 ⟨m,A.h,w⟩ _ (T t);rcases h t with e|e
  .rw[e];exact hr.tmps t
  .rw[e];exact trivial,hr.hok,hr.ev,hr.le,hr.df,hr.rc⟩⟩
def Mem.cut (S:Mem) (l:Nat):Mem:=⟨S.m.take l,S.h.take l,S.w⟩
theorem yr{S:Mem}{l b}(h:Own (S.cut l).m b):Own S.m b:=tO h
theorem Eh{S:Mem}{l b}(h:Avoid M0 (S.cut l).m b):Avoid M0 S.m b:=h.imp id yr
theorem uA{S:Mem}{l id}(h:id<l):(S.cut l).h[id]?=S.h[id]?:=by
 show (S.h.take l)[id]?=_;rw[pg,if_pos h]
theorem BD{S:Mem}{l id}(h:id<l):(S.cut l).m.getD id none=S.m.getD id none:=by
 show (S.m.take l).getD id none=_;rw[cd,cd,pg,if_pos h]
theorem dU.cut{S}{l id ver}{X}(h:dU S id ver X)(hid:id<l):dU (S.cut l) id ver X:=by
 unfold dU at *
 rw[uA hid,BD hid];exact h
theorem cS.cut{S}{l}{v}{a}(h:cS M0 S v a)(hb:ei l a):cS M0 (S.cut l) v a:=by
 cases a with
 |p q=>exact RepP.less (show RepP (Avoid M0 S.m) S.w v q from h) λb hb=>Eh hb
 |ptr id ver i o=>exact⟨h.1,h.2.cut hb⟩
 |slice id ver off len=>exact⟨h.1,dU.cut (S:=S) h.2 hb⟩
 |ref k id=>
  refine⟨h.1,?_⟩;rw[uA hb,BD hb]
  exact h.2
 |undef=>exact trivial
 |agg cs=>exact h.elim
 |func fn f c=>exact h.elim
 |tuple vs=>exact h.elim
theorem bO.cut{S}{l}{v}{a}(h:bO M0 S v a)(hb:fk l a):bO M0 (S.cut l) v a:=by
 cases a with
 |func fn f c=>
  obtain⟨F,C,rfl,h1,h2⟩:=h
  exact⟨F,C,rfl,h1.imp λv c hc hr=>cS.cut hr (hb.1 c hc),h2.imp λv c hc hr=>cS.cut hr (hb.2 c hc)⟩
 |p q=>exact cS.cut (M0:=M0) (a:=.p q) h hb
 |ptr id ver i o=>exact cS.cut (M0:=M0) (a:=.ptr id ver i o) h hb
 |slice id ver off len=>exact cS.cut (M0:=M0) (a:=.slice id ver off len) h hb
 |ref k id=>exact cS.cut (M0:=M0) (a:=.ref k id) h hb
 |undef=>exact trivial
 |agg cs=>exact h.elim
 |tuple vs=>exact h.elim
theorem d4.cut{S}{l}{v}{a}(h:d4 M0 S v a)(hb:gy l a):d4 M0 (S.cut l) v a:=by
 cases a with
 |agg cs=>
  obtain⟨C,rfl,h1,h2⟩:=h
  exact⟨C,rfl,h1,h2.imp λv c hc hr=>bO.cut hr (hb c hc)⟩
 |p q=>exact bO.cut (M0:=M0) (a:=.p q) h hb
 |ptr id ver i o=>exact bO.cut (M0:=M0) (a:=.ptr id ver i o) h hb
 |slice id ver off len=>exact bO.cut (M0:=M0) (a:=.slice id ver off len) h hb
 |ref k id=>exact bO.cut (M0:=M0) (a:=.ref k id) h hb
 |func fn f c=>exact bO.cut (M0:=M0) (a:=.func fn f c) h hb
 |undef=>exact trivial
 |tuple vs=>exact h.elim
theorem Rep.cut{S}{l}{v}{a}(h:Rep M0 S v a)(hb:below l a):Rep M0 (S.cut l) v a:=by
 cases a with
 |tuple cs=>
  obtain⟨C,rfl,h2⟩:=h
  exact⟨C,rfl,h2.imp λv c hc hr=>d4.cut hr (hb c hc)⟩
 |p q=>exact d4.cut (M0:=M0) (a:=.p q) h hb
 |ptr id ver i o=>exact d4.cut (M0:=M0) (a:=.ptr id ver i o) h hb
 |slice id ver off len=>exact d4.cut (M0:=M0) (a:=.slice id ver off len) h hb
 |ref k id=>exact d4.cut (M0:=M0) (a:=.ref k id) h hb
 |func fn f c=>exact d4.cut (M0:=M0) (a:=.func fn f c) h hb
 |undef=>exact trivial
 |agg cs=>exact d4.cut (M0:=M0) (a:=.agg cs) h hb
def bm (l:Nat):AObj->Prop
 |.row _ xs=>∀x,x∈xs->below l x
 |.loop _ tmps _ _ _ _ _=>∀t,below l (tmps t)
 |.bld _ _ x=>ei l x
 |_=>True
def sG (l:Nat):ADef->Prop
 |.fn _ args=>∀a,a∈args->below l a
 |.collected id=>id<l
theorem Jc{l}{x c}{cs}(hx:x.cells=some cs)(hb:below l x)(hc:c∈cs)(hcell:c.isCell=true):fk l c:=by
 rcases xK hx with⟨l',rfl⟩|⟨l',rfl⟩|⟨h1,rfl⟩
 .simp only[AV.cells,PV.cells,jO]at hx;subst hx;simp only[cH]at hc;obtain⟨q,_,rfl⟩:=hc;exact trivial
 .simp only[AV.cells,jO]at hx;subst hx;exact hb c hc
 .simp only[gh]at hc;subst hc;cases c<;>first|exact hb|exact trivial|cases h1
theorem CB{S:Mem}(hS:HOk P M0 S){l:Nat}(ho:∀(id:Nat) (o:AObj),id<l->S.h[id]?=some o->bm l o):HOk P M0 (S.cut l) where
 len:=by simp[Mem.cut,hS.len]
 lt:=λb h=>hS.lt b (yr h)
 m0:=λb h=>⟨(hS.m0 b h).1,λhn=>(hS.m0 b h).2 (yr hn)⟩
 gl:=hS.gl.fr (λ_ _ _=>rfl) λb hb=>.inl (yr hb)
 inj:=λi j b hi hj=>by
  have key:∀k:Nat,(S.cut l).m[k]?=some (some b)->S.m[k]?=some (some b):=by
   intro k hk;have hk':(S.m.take l)[k]?=some (some b):=hk;rw[pg]at hk';split at hk'
   .exact hk'
   .cases hk'
  exact hS.inj i j b (key i hi) (key j hj)
 obj:=λid o hid=>by
  have hlt:id<l:=by
   have:=(aF.1 hid).1;simp[Mem.cut]at this;omega
  rw[uA hlt]at hid;rw[BD hlt];have hb:=ho id o hlt hid;have:=hS.obj id o hid
  cases o with
  |row sz xs=>
   rcases this with h|⟨b,T,C,h1,h2,h3,h4⟩
   .exact .inl h
   .refine .inr ⟨b,T,C,h1,h2,h3,λi x hx=>?_⟩;obtain⟨cs,h5,h6,h7⟩:=h4 i x hx
    exact⟨cs,h5,h6,λj c hc=>⟨(h7 j c hc).1,bO.cut (h7 j c hc).2 (Jc h5 (hb x (aG hx)) (aG hc) (h7 j c hc).1)⟩⟩
  |loop n tmps ps assign body st pend=>
   obtain⟨b,r,h1,h2,h3,h4,h5⟩:=this
   exact⟨b,r,h1,h2,h3,λt=>Rep.cut (h4 t) (hb t),h5⟩
  |strIter s p=>exact this
  |mp es=>
   obtain⟨b,C,clk,h1,h2,h3⟩:=this
   exact⟨b,C,clk,h1,h2,h3.monoP λv q hq=>bO.cut hq trivial⟩
  |memo f=>
   obtain⟨hg,es,hf,b,C,clk,h1,h2,h3⟩:=this
   exact⟨hg,es,hf,b,C,clk,h1,h2,h3.monoP λv q hq=>bO.cut hq trivial⟩
  |dblock=>exact this
  |bld T el x=>
   obtain⟨b,p,v,h1,h2,h3,h4,h5,h6⟩:=this
   exact⟨b,p,v,h1,h2,h3,h4,cS.cut h5 hb,h6⟩
  |dead=>exact trivial
theorem G3{S}{l}:∀{ds} {xs},DefsRep P M0 S ds xs->(∀x,x∈xs->sG l x)->DefsRep P M0 (S.cut l) ds xs
 |[],[],_,_=>trivial
 |d::ds,x::xs,h,hb=>by
  refine⟨?_,G3 h.2 λy hy=>hb y (by simp[hy])⟩;have hx:=hb x (by simp);have h1:=h.1
  cases x with
  |fn g args=>
   obtain⟨fv,cap,dargs,cargs,h2,h3,h4⟩:=h1
   exact⟨fv,cap,dargs,cargs,h2,h3,h4.imp λv c hc hr=>Rep.cut hr (hx c hc)⟩
  |collected id=>
   obtain⟨bl,h2,h3⟩:=h1;refine⟨bl,h2,?_⟩;rw[uA hx,BD hx]
   exact h3
 |[],_::_,h,_=>h.elim
 |_::_,[],h,_=>h.elim
theorem Pp{A}{T}(l)(hl:A.bs<=l)(hlen:l<=A.h.length)(ht:∀t,(T t=A.tmps t/\below l (A.tmps t))\/T t=.undef)
  (ho:∀(id) (o),id<l->A.h[id]?=some o->bm l o) (hd:∀x,x∈A.df->sG l x):f7 P A { A with tmps:=T,h:=A.h.take l }:=
 ⟨rfl,rfl,λM0 S0 b cs0 m a w hr=>⟨m.take l,hr.size,λt=>by
   show Rep M0 (Mem.cut ⟨m,A.h,w⟩ l) _ (T t);rcases ht t with⟨e,hb⟩|e
   .rw[e];exact Rep.cut (hr.tmps t) hb
   .rw[e];exact trivial,
  CB (S:=⟨m,A.h,w⟩) hr.hok ho,
  {fr:=hr.ev.fr
   sub:=λx hx=>hr.ev.sub x (tO hx)
   obj:=λid o hid ho'=>by
    obtain⟨o',h1,h2⟩:=hr.ev.obj id o hid ho';have hidl:id<l:=by have:id<A.bs:=hid;omega
    refine⟨o',?_,?_⟩
    .exact(uA (S:=⟨m,A.h,w⟩) hidl).trans h1
    .have:=BD (S:=⟨m,A.h,w⟩) hidl;show ObjEv _ _ ((Mem.cut ⟨m,A.h,w⟩ l).m.getD id none) _
     rw[this];exact h2 },
  ⟨by show A.bs<=(A.h.take l).length;simp;omega,hr.le.2⟩,G3 (S:=⟨m,A.h,w⟩) hr.df hd,by
   have:=hr.rc;cases hc:A.rc<;>rw[hc]at this<;>first|exact this|skip
   obtain⟨h1,h2,v',cs1,h3,h4⟩:=this
   exact⟨h1,h2,v',cs1,h3,RepP.less h4 λb hb=>Eh (S:=⟨m,A.h,w⟩) (l:=l) hb⟩⟩⟩
theorem FF{A}{T}(sz)(ht:∀t,T t=A.tmps t\/(A.tmps t=.p .nilslice/\T t=.slice A.h.length 0 0 0)):f7 P A { A with tmps:=T,h:=A.h++[.row sz []] }:=
 ⟨rfl,rfl,λM0 S0 b cs0 m a w hr=>⟨m++[none],by
  have hk:=zc (S:=⟨m,A.h,w⟩) hr.hok sz;have hev:=Ev.nil (S:=⟨m,A.h,w⟩) hr.hok sz;have hr1:=hr.ahead (m':=m++[none]) (h':=A.h++[.row sz []]) (w':=w) hev hk;refine⟨hr1.size,λt=>?_,hr1.hok,hr1.ev,hr1.le,hr1.df,hr1.rc⟩;show Rep M0 ⟨m++[none],A.h++[.row sz []],w⟩ _ (T t);rcases ht t with e|⟨e1,e2⟩
  .rw[e];exact hr1.tmps t
  .rw[e2];have h1:=hr.tmps t;rw[e1]at h1;have h2:RepP (Avoid M0 m) w (a.tmps.getD t undef) .nilslice:=h1;generalize a.tmps.getD t undef=v at h2 |-;cases h2;refine⟨⟨none,0,0,rfl⟩,.inr ⟨sz,[],by simp,bB _,λ_=>.inr (.inr ⟨?_,rfl,rfl⟩)⟩⟩;have:=hr.hok.len;show (m++[none]).getD A.h.length none=none;rw[cd,<-show m.length=A.h.length from this]
   simp⟩⟩
def qX (h:Heap):AEnd->Option PV
 |.ret a=>zg h a
 |_=>none
theorem AT(hD:ea P){H}{f}{fn}{c}{pargs}{v}{rs}{n}(hf:P.funcs[f]?=some fn)(hb:fn.body=some c)(hrs:fn.results.toList=rs)(hn:fn.ntmps=n)(hok:cC H fn=true)
  (hlen:pargs.length<=n) (hw:wp P H c (iW P rs 0 (λ_ r h=>qX h r=some v)) (aZ n .no (pargs.map .p) [])):af P f pargs v:=by
 intro M0 w cargs hM hg ha;have ha':dZ (Rep M0 ⟨[],[],w⟩) cargs (pargs.map .p):=by
  refine⟨by simpa using ha.1,λi c hc=>?_⟩;simp only[cO,cg]at hc;obtain⟨q,hq,rfl⟩:=hc;exact aH ((ha.2 i q hq).mono (λ_ _ _=>rfl) (λb hb=>by
   rcases hb with hb|hb
   .exact .inl hb
   .simp[Own]at hb))
 have:=jT hD (h:=[]) (R:=λr h=>qX h r=some v) hf hb hrs hn hok (by simpa using hlen) hw M0 [] w cargs (rT hM hg) ha';refine⟨this.1,this.2.mono λe w' h=>?_⟩;obtain⟨r,h',m',hR,hev,hk,hend⟩:=h
 cases e with
 |returned v'=>
  cases r with
  |panic v=>cases hR
  |ret a=>exact⟨v',rfl,sE (S:=⟨m',h',w'⟩) hk hend hR,hev.fr⟩
 |panicked ch=>
  cases r with
  |panic v=>cases hR
  |ret a=>exact hend.elim
 |outgrown=>exact hend.elim
end Abs
end Go.Proofs.YtoapoaoelpcniaaGreatDoor
namespace Go.Proofs.YtoapoaoelpcniaaGreatDoor
namespace Abs
variable {P:Program} {H:Hints} {ops:Array Oper} {Q Q':Ex->AAct->Prop}
theorem DB{A}{dst}{K K'}{r}(h:∀B,K B->K' B)(hq:∀e B,Q e B->Q' e B)(k:lz P A dst K Q r):lz P A dst K' Q' r:=by
 cases r with
 |call f args=>
  intro M0 m w cargs hS ha;obtain⟨h1,h2⟩:=k M0 m w cargs hS ha;refine⟨h1,h2.mono λ_ _ hb=>?_⟩;obtain⟨r,h',m',hR,rest⟩:=hb
  exact⟨r,h',m',by cases r<;>first|exact h _ hR|exact hq _ _ hR,rest⟩
 |yld l args=>
  refine⟨k.1,λM0 m w cargs bl hS ha hbl=>?_⟩;obtain⟨f,tmps,asx,bd,h1,h2⟩:=k.2 M0 m w cargs bl hS ha hbl;refine⟨f,tmps,asx,bd,h1,λc cs=>?_⟩;obtain⟨e,w',⟨r,h',m',hR,rest⟩,hs⟩:=h2 c cs
  exact⟨e,w',⟨r,h',m',by cases r<;>first|exact h _ hR|exact hq _ _ hR,rest⟩,hs⟩
 |panic v=>exact hq _ _ k
 |val v h'=>exact pC (Q:=Q') h k
 |skip h'=>exact pC (Q:=Q') h k
 |dfr d=>exact pC (Q:=Q') h k
 |recover=>exact pC (Q:=Q') h k
 |stuck=>exact k
theorem Ay{X Y X' Y'}{o}(h1:X ()->X' ())(h2:Y ()->Y' ())(k:tf X Y o):tf X' Y' o:=by
 cases o with
 |none=>exact k
 |some b=>exact⟨λe=>h1 (k.1 e),λe=>h2 (k.2 e)⟩
theorem uZ(hq:∀e B,Q e B->Q' e B):∀(l) {A},i7 P H ops Q l A->i7 P H ops Q' l A
 |[],_,k=>hq _ _ k
 |o::rest,A,k=>by
  rw[i7]at k |-;exact Ay (λk=>DB (λB hB=>uZ hq rest hB) hq k) (λk=>uZ hq rest k) k
theorem OQ{h}{K K'}{r}(hk:∀v h,K v h->K' v h)(k:C4 h K r):C4 h K' r:=by
 cases r<;>first|exact k.elim|exact⟨k.1,hk _ _ k.2⟩
theorem F7{h}{K K'}{r}(hk:∀v,K v->K' v)(k:y0 P h K r):y0 P h K' r:=by
 obtain⟨v,h1,h2⟩:=rQ.1 k;exact rQ.2 ⟨v,h1,hk v h2⟩
theorem K1{hs h}{j sz}{K K'}{z}(hk:∀v h,K v h->K' v h)(k:tj hs h j sz K z):tj hs h j sz K' z:=by
 cases z with
 |none=>exact k
 |some z=>exact⟨k.1,k.2.1,k.2.2.1,hk _ _ k.2.2.2⟩
theorem K2{K K'}{r}(hk:∀h,K h->K' h)(k:rq K r):rq K' r:=by
 cases r<;>first|exact k.elim|exact hk _ k
theorem MR{hs h}{e}{K K'}{o}(hk:∀h,K h->K' h)(k:wO P hs h e K o):wO P hs h e K' o:=by
 cases o with
 |store T a x=>
  have k1:(match e a with|.ptr id ver i o=>iX hs id=true/\rq K (gX P T (.ptr id ver i o) (e x) h)|_=>False):=k;show (match e a with|.ptr id ver i o=>iX hs id=true/\rq K' (gX P T (.ptr id ver i o) (e x) h)|_=>False);generalize e a=z at k1 |-
  cases z<;>first|exact k1.elim|exact⟨k1.1,K2 hk k1.2⟩
 |_=>exact k.elim
theorem Nn{h}{e}{K K'}{o}(hk:K->K')(k:xi P h e K o):xi P h e K' o:=by
 cases o<;>first|exact k.elim|exact⟨k.1,hk k.2⟩
theorem OO{hs h}{K K'}{r}(hk:∀v h,K v h->K' v h)(k:Al hs h K r):Al hs h K' r:=by
 cases r<;>first|exact k.elim|exact⟨k.1,hk _ _ k.2⟩
theorem ML{A}{K K'}{r}(hq:∀e B,Q e B->Q' e B)(hk:∀v,K v->K' v)(k:zD P Q A K r):zD P Q' A K' r:=by
 cases r<;>first|exact k.elim|skip
 rcases k with⟨v,h1,h2⟩|⟨v,h1,h2⟩
 .exact .inl ⟨v,h1,hk v h2⟩
 .exact .inr ⟨v,h1,λT=>hq _ _ (h2 T)⟩
theorem LU{hs}{A}{K K'}{r}(hq:∀e B,Q e B->Q' e B)(hk:∀v h,K v h->K' v h)(k:sK P H Q hs A K r):sK P H Q' hs A K' r:=by
 cases r<;>first|exact k.elim|skip
 intro M0 m w cargs hS ha;obtain⟨h1,h2⟩:=k M0 m w cargs hS ha;refine⟨h1,h2.mono λ_ _ hb=>?_⟩;obtain⟨r,h',m',hR,rest⟩:=hb;exact⟨r,h',m',by cases r<;>first|exact⟨hR.1,hk _ _ hR.2⟩|exact λT hT=>hq _ _ (hR T hT),rest⟩
theorem eN(hq:∀e B,Q e B->Q' e B):∀(l) {hs} {A},bR P H ops Q l hs A->bR P H ops Q' l hs A
 |[],_,_,k=>hq _ _ k
 |o::rest,hs,A,k=>by
  rw[bR]at k |-;refine Ay (λk=>?_) (λk=>eN hq rest k) k;cases hc:bT H o<;>rw[hc]at k
  .exact DB (K:=λB=>bR P H ops Q rest B.h B) (K':=λB=>bR P H ops Q' rest B.h B) (λB hB=>eN hq rest hB) hq k
  .exact OQ (λv h hh=>eN hq rest hh) k
  .exact F7 (λv hh=>eN hq rest hh) k
  .exact F7 (λv hh=>eN hq rest hh) k
  .exact K1 (λv h hh=>eN hq rest hh) k
  .exact MR (λh hh=>eN hq rest hh) k
  .exact Nn (λhh=>eN hq rest hh) k
  .exact OO (λv h hh=>eN hq rest hh) k
  .exact ML hq (λv hh=>eN hq rest hh) k
  .exact LU hq (λv h hh=>eN hq rest hh) k
theorem qm{K K'}(h:∀B,K B->K' B)(hq:∀e B,Q e B->Q' e B):∀e B,ep K Q e B->ep K' Q' e B
 |.normal,_,k=>h _ k
 |.exit _,_,k=>hq _ _ k
 |.ret,_,k=>hq _ _ k
 |.panic _,_,k=>hq _ _ k
theorem I8{id}(hq:∀e B,Q e B->Q' e B):∀e B,kp id Q e B->kp id Q' e B
 |.normal,_,k=>hq _ _ k
 |.exit j,B,k=>by
  have k':if j=id then Q .normal B else Q (.exit j) B:=k
  show if j=id then Q' .normal B else Q' (.exit j) B
  by_cases h:j=id
  .rw[if_pos h]at k' |-;exact hq _ _ k'
  .rw[if_neg h]at k' |-;exact hq _ _ k'
 |.ret,_,k=>hq _ _ k
 |.panic _,_,k=>hq _ _ k
theorem GD(hq:∀e B,Q e B->Q' e B){A}{l}{o}(k:nP Q A l o):nP Q' A l o:=by
 unfold nP at k |-;split at k
 .refine⟨k.1,?_⟩;have:=k.2;unfold vR at this |-;split at this<;>first|exact this.elim|exact hq _ _ this
 .exact k.elim
theorem j7:∀(c) {Q Q'} {A},(∀e B,Q e B->Q' e B)->wp P H c Q A->wp P H c Q' A:=by
 intro c
 induction c with
 |skip=>intro Q Q' A hq k;exact hq _ _ k
 |region id ops draw=>
  intro Q Q' A hq k
  cases draw with
  |false=>exact uZ hq _ k
  |true=>exact eN hq _ k
 |seq x y ihx ihy=>intro Q Q' A hq k;exact ihx (qm (λB hB=>ihy hq hB) hq) k
 |cond c x y ihx ihy=>
  intro Q Q' A hq k;unfold wp Fi at k |-;split at k
  .exact⟨λe=>ihx hq (k.1 e),λe=>ihy hq (k.2 e)⟩
  .exact k.elim
 |block id x ihx=>intro Q Q' A hq k;exact ihx (I8 hq) k
 |loop x ihx=>
  intro Q Q' A hq k
  exact λX hX=>k X λB hB=>hX B (ihx (qm (λB hB=>hB) hq) hB)
 |rangeFunc g ps assign body _ _=>
  intro Q Q' A hq k;have gen:∀{X Y:Prop} {c:Rc},(X->Y)->v6 X c->v6 Y c:=λhx hc=>by
   rename_i c;cases c<;>first|exact False.elim hc|exact hx hc
  refine gen (λk=>?_) k;unfold xd at k |-;split at k
  .rename_i gf args hg;intro M0 m w cargs hS ha;obtain⟨h1,h2⟩:=k M0 m w cargs hS ha;refine⟨h1,h2.mono λ_ _ hb=>?_⟩;obtain⟨r,h',m',hR,rest⟩:=hb;refine⟨r,h',m',?_,rest⟩
   cases r with
   |ret v=>exact GD hq hR
   |panic v=>exact hq _ _ hR
  .exact k.elim
 |exit id=>intro Q Q' A hq k;exact hq _ _ k
 |ret=>intro Q Q' A hq k;exact hq _ _ k
 |scope x ihx=>intro Q Q' A hq k;exact ihx hq k
 |label id=>intro Q Q' A hq k;exact hq _ _ k
 |_=>intro Q Q' A hq k;exact k.elim
theorem Ce{x}{A}(k:wp P H x (ep (λB=>wp P H (.loop x) Q B) Q) A):wp P H (.loop x) Q A:=by
 intro X hX;refine⟨A,f7.refl A,hX A (j7 x (qm (λB hB=>?_) λ_ _ h=>h) k)⟩;exact hB X hX
theorem Id{x}{A}{σ:Type}(I:σ->AAct)(μ:σ->Nat)(s0)(h0:f7 P A (I s0))(hs:∀s,wp P H x (ep (λB=>∃s',μ s'<μ s/\f7 P B (I s')) Q) (I s)):wp P H (.loop x) Q A:=by
 intro X hX;have key:∀(j:Nat) (s:σ),μ s=j->X (I s):=by
  intro j
  induction j using Nat.strongRecOn with
  |_ j ih=>
   intro s hj;refine hX _ (j7 x (qm (λB hB=>?_) λ_ _ h=>h) (hs s));obtain⟨s',h1,h2⟩:=hB;exact⟨_,h2,ih (μ s') (hj▸h1) s' rfl⟩
 exact⟨_,h0,key _ s0 rfl⟩
def cX:List (Nat×AV)->Nat->AV
 |[],_=>.undef
 |(k,v)::l,t=>if t=k then v else cX l t
theorem NH(t):cX [] t=.undef:=rfl
theorem rD(k)(v)(l)(t):cX ((k,v)::l) t=if t=k then v else cX l t:=rfl
theorem zX:∀(l) (t),cX l t=.undef\/(t,cX l t)∈l
 |[],_=>.inl rfl
 |(k,v)::l,t=>by
  rw[rD];by_cases h:t=k
  .subst h;rw[if_pos rfl];exact .inr (by simp)
  .rw[if_neg h];rcases zX l t with h1|h1
   .exact .inl h1
   .exact .inr (E7 _ h1)
theorem MC{A}(l)(h:∀p,p∈l->A.tmps p.1=p.2):f7 P A { A with tmps:=cX l }:=
 Mz λt=>by
  rcases zX l t with h1|h1
  .exact .inr h1
  .exact .inl (h _ h1).symm
def gu {σ:Type} (P:Program) (V:σ->Prop) (I:σ->AAct) (μ:σ->Nat) (s:σ):AAct->Prop:=λB=>∃s',V s'/\μ s'<μ s/\f7 P B (I s')
theorem OV{σ}{x}{A}(V:σ->Prop)(I)(μ)(s0)(hv:V s0)(h0:f7 P A (I s0))(hs:∀s,V s->@W ⟨P,H,x,ep (gu P V I μ s) Q⟩ (I s)):@W ⟨P,H,.loop x,Q⟩ A:=by
 refine Id (σ:={ s:σ // V s }) (λs=>I s.1) (λs=>μ s.1) ⟨s0,hv⟩ h0 λs=>?_;refine j7 x (qm (λB hB=>?_) λ_ _ h=>h) (hs s.1 s.2);obtain⟨s',h1,h2,h3⟩:=hB;exact⟨⟨s',h1⟩,h2,h3⟩
theorem br{x}{A}(k:@W ⟨P,H,x,ep (wp P H (.loop x) Q) Q⟩ A):@W ⟨P,H,.loop x,Q⟩ A:=Ce k
theorem XJ(a)(l):(List.toArray (a::l)).getD 0 0=a:=rfl
theorem XI(a b)(l):(List.toArray (a::b::l)).getD 1 0=b:=rfl
end Abs
end Go.Proofs.YtoapoaoelpcniaaGreatDoor
