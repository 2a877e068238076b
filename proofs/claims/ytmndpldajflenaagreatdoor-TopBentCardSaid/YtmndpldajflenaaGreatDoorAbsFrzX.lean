/- CONTRACTS of the program's functions, and laws on what they return. No conditions but those in the theorems' heads. -/
import Derived.Test.YtmndpldajflenaaGreatDoorAbsEval
set_option linter.all false
namespace Go.Proofs.YtmndpldajflenaaGreatDoor
namespace Abs
variable {P:Program} {M0:Nat->Prop}
inductive Flat:PV->Prop
 |bool (b:Bool):Flat (.bool b)
 |int (k:IntKind) (n:Int):Flat (.int k n)
 |str (s:ByteArray):Flat (.str s)
 |agg {cs:List PV} (h:∀(i:Nat) (c:PV),cs[i]?=some c->Flat c):Flat (.agg cs)
 |tuple {cs:List PV} (h:∀(i:Nat) (c:PV),cs[i]?=some c->Flat c):Flat (.tuple cs)
 |nilslice:Flat .nilslice
 |nilptr:Flat .nilptr
 |nilfunc:Flat .nilfunc
 |iface {t:TypeId} {q:PV} (h:Flat q):Flat (.iface t q)
 |niliface:Flat .niliface
 |any:Flat .any
theorem Flat.nil(i:Nat)(c)(h:([]:List PV)[i]?=some c):Flat c:=by simp at h
theorem Flat.cons{q}{l}(hq:Flat q)(hl:∀(i:Nat) (c),l[i]?=some c->Flat c)(i:Nat)(c)(h:(q::l)[i]?=some c):Flat c:=by
 cases i with
 |zero=>cases h;exact hq
 |succ i=>exact hl i c (by simpa using h)
theorem Flat.rep{q}(hf:Flat q){M M'}{w w'}{v}(h:RepP M w v q):RepP M' w' v q:=by
 induction hf generalizing v with
 |bool b=>cases h;exact .bool b
 |int k n=>cases h;exact .int k n
 |str s=>cases h;exact .str s
 |agg _ ih=>cases h with|agg hn hs hr=>exact .agg hn hs λi c hi=>ih i c hi (hr i c hi)
 |tuple _ ih=>cases h with|tuple hn hr=>exact .tuple hn λi c hi=>ih i c hi (hr i c hi)
 |nilslice=>cases h;exact .nilslice
 |nilptr=>cases h;exact .nilptr
 |nilfunc=>cases h;exact .nilfunc
 |iface _ ih=>cases h with|iface hr=>exact .iface (ih hr)
 |niliface=>cases h;exact .niliface
 |any=>cases h<;>constructor
def aM (F:AV->Option PV):List AV->Option (List PV)
 |[]=>some []
 |a::l=>match F a,aM F l with|some q,some r=>some (q::r)|_,_=>none
def jr (F:AV->Option PV) (ver:Nat):Option AObj->Option (Nat×List PV)
 |some (.row sz xs)=>if xs.length=ver then(aM F xs).map λl=>(sz,l) else none
 |_=>none
def my (i o k:Nat):Option (Nat×List PV)->Option PV
 |some (_,l)=>match l[i]? with|some x=>if o+k<=x.cells.length then some (.slice 1 (sub o k x.cells) false) else none|none=>none
 |none=>none
def bH:Nat->Heap->AV->Option PV
 |_,_,.p v=>some v
 |0,_,_=>none
 |n+1,h,.ptr id ver i o=>(jr (bH n h) ver h[id]?).map λq=>.ptr q.1 q.2 i o
 |n+1,h,.slice id ver off len=>(jr (bH n h) ver h[id]?).map λq=>.slice q.1 ((q.2.take (off+len)).drop off) false
 |n+1,h,.func fn first cap=>match aM (bH n h) first,aM (bH n h) cap with|some a,some b=>some (.func fn a b)|_,_=>none
 |n+1,h,.agg cs=>(aM (bH n h) cs).map .agg
 |n+1,h,.tuple cs=>(aM (bH n h) cs).map .tuple
 |n+1,h,.arr id ver i o k=>my i o k (jr (bH n h) ver h[id]?)
 |_+1,_,.ref .mp _=>some .any
 |_,_,_=>none
def oK (h:Heap) (a:AV):Option PV:=bH 8 h a
def pz (h:Heap) (l:List AV):Option (List PV):=aM (oK h) l
theorem jZ(n)(h)(v):bH n h (.p v)=some v:=by cases n<;>rfl
theorem tU{α:Type}{F}(hF:∀v,F (.p v)=some v)(f):∀l:List α,aM F (l.map λx=>.p (f x))=some (l.map f)
 |[]=>rfl
 |x::r=>by rw[iu,aM,tU hF f r,hF];rfl
theorem AU{α:Type}(n)(h)(f)(l:List α):aM (bH n h) (l.map λx=>.p (f x))=some (l.map f):=tU (jZ n h) f l
theorem dN{F}:∀{l} {qs},aM F l=some qs->l.length=qs.length/\∀(i:Nat) (q),qs[i]?=some q->∃a,l[i]?=some a/\F a=some q
 |[],qs,e=>by cases e;exact⟨rfl,by simp⟩
 |a::l,qs,e=>by
  unfold aM at e;split at e
  .rename_i q r h1 h2;cases e;obtain⟨h3,h4⟩:=dN h2;refine⟨by simp[h3],λi q' hi=>?_⟩
   cases i with
   |zero=>cases hi;exact⟨a,rfl,h1⟩
   |succ i=>exact h4 i q' (by simpa using hi)
  .cases e
theorem kH{F}{ver}{o}{q}(e:jr F ver o=some q):∃xs,o=some (.row q.1 xs)/\xs.length=ver/\aM F xs=some q.2:=by
 unfold jr at e;split at e
 .rename_i sz xs;split at e
  .rename_i hv;simp only[bx]at e;obtain⟨l,h1,rfl⟩:=e;exact⟨xs,rfl,hv,h1⟩
  .cases e
 .cases e
theorem kI{n}{h}{a}{q}(ha:a.isCell=true)(e:bH n h a=some q):q.isCell=true:=by
 cases a with
 |p v=>rw[jZ]at e;cases e;exact ha
 |agg cs=>cases ha
 |tuple cs=>cases ha
 |undef=>cases ha
 |ref k id=>cases n<;>cases k<;>first|(cases e;rfl)|cases e
 |iptr t id=>cases n<;>cases e
 |arr id ver i o k=>
  cases n with
  |zero=>cases e
  |succ n=>
   unfold bH my at e;split at e
   .split at e
    .split at e<;>cases e;rfl
    .cases e
   .cases e
 |ptr id ver i o=>
  cases n with
  |zero=>cases e
  |succ n=>
   unfold bH at e;simp only[bx]at e;obtain⟨q',_,rfl⟩:=e
   rfl
 |slice id ver off len=>
  cases n with
  |zero=>cases e
  |succ n=>
   unfold bH at e;simp only[bx]at e;obtain⟨q',_,rfl⟩:=e
   rfl
 |func fn first cap=>
  cases n with
  |zero=>cases e
  |succ n=>
   unfold bH at e;split at e
   .cases e;rfl
   .cases e
theorem lZ{q:PV}(h:q.isCell=true):q.cells=[q]:=by cases q<;>first|rfl|cases h
theorem vI{n}{h}{a}{q}{cs}(e:bH n h a=some q)(hc:a.cells=some cs) :
  q.cells.length=cs.length/\∀(j:Nat) (c),q.cells[j]?=some c->∃x m,cs[j]?=some x/\m<=n/\bH m h x=some c:=by
 have single:a.isCell=true->cs=[a]->q.cells.length=cs.length/\∀(j:Nat) (c:PV),q.cells[j]?=some c->∃x m,cs[j]?=some x/\m<=n/\bH m h x=some c:=by
  intro ha hcs;have hq:=kI ha e;rw[lZ hq,hcs];refine⟨rfl,λj c hj=>?_⟩
  cases j with
  |zero=>cases hj;exact⟨a,n,rfl,aJ _,e⟩
  |succ j=>simp at hj
 cases a with
 |p v=>
  rw[jZ]at e;cases e;have hcs:cs=q.cells.map .p:=by
   cases q with
   |tuple l=>simp[AV.cells]at hc
   |_=>(simp[AV.cells]at hc;exact hc.symm)
  subst hcs
  refine⟨by simp,λj c hj=>⟨.p c,n,by simp[hj],aJ _,jZ _ _ _⟩⟩
 |agg l=>
  cases n with
  |zero=>cases e
  |succ n=>
   unfold bH at e;simp only[bx]at e;obtain⟨qs,h1,rfl⟩:=e;simp only[AV.cells,iy]at hc;subst hc;obtain⟨h2,h3⟩:=dN h1;refine⟨h2.symm,λj c hj=>?_⟩;obtain⟨x,h4,h5⟩:=h3 j c hj
   exact⟨x,n,h4,by omega,h5⟩
 |tuple l=>cases hc
 |undef=>cases hc
 |ptr id ver i o=>cases hc;exact single rfl rfl
 |slice id ver i o=>cases hc;exact single rfl rfl
 |func fn a b=>cases hc;exact single rfl rfl
 |ref k id=>cases hc;exact single rfl rfl
 |iptr t id=>cases hc;exact single rfl rfl
 |arr id ver i o k=>cases hc;exact single rfl rfl
theorem wK{S}(hS:HOk P M0 S){n id sz b}{xs}{l}(ih:∀m,m<=n->∀(v) (a) (q),Rep M0 S v a->bH m S.h a=some q->RepP M0 S.w v q)
  (hid:S.h[id]?=some (.row sz xs)) (hm:S.m.getD id none=some b) (hl:aM (bH n S.h) xs=some l) :
  ∃C T,S.w.heap[b]?=some (.cells C T (0,0))/\l.length=xs.length/\l.length*sz<=C.size/\(∀x,x∈l->x.cells.length=sz/\∀c,c∈x.cells->c.isCell=true)/\¬M0 b /\
   (∀k,k<l.length*sz->S.w.cell? ⟨b,0+k,none⟩=some (C.getD k undef))/\∀(i j) (x c),l[i]?=some x->x.cells[j]?=some c->RepP M0 S.w (C.getD (i*sz+j) undef) c:=by
 obtain⟨C,T,hb,hsize,hel⟩:=dU hS hid hm;obtain⟨hxl,hfr⟩:=dN hl;have helem:∀(i:Nat) (q:PV),l[i]?=some q->(q.cells.length=sz/\∀c,c∈q.cells->c.isCell=true)/\∀(j:Nat) (c:PV),q.cells[j]?=some c->RepP M0 S.w (C.getD (i*sz+j) undef) c:=by
  intro i q hi;obtain⟨a,h0,hfa⟩:=hfr i q hi;obtain⟨cs,h1,h2,h3⟩:=hel i a h0;obtain⟨h4,h5⟩:=vI hfa h1;refine⟨⟨by omega,λc hc=>?_⟩,λj c hj=>?_⟩
  .obtain⟨j,hj⟩:=eL hc;obtain⟨x,m,h6,_,h8⟩:=h5 j c hj;exact kI (h3 j x h6).1 h8
  .obtain⟨x,m,h6,h7,h8⟩:=h5 j c hj;exact ih m h7 _ x c (ly (h3 j x h6).1 (h3 j x h6).2) h8
 refine⟨C,T,hb,hxl.symm,by rw[<-hxl];exact hsize,λx hx=>?_,λhm0=>(hS.m0 b hm0).2 (aV (cp hm)),λk hk=>?_,λi j x c hx hj=>(helem i x hx).2 j c hj⟩
 .obtain⟨i,hi⟩:=eL hx;exact(helem i x hi).1
 .rw[eN];exact gU hb k (by rw[<-hxl]at hk;omega)
theorem J8{S}(hS:HOk P M0 S):∀(n) (v) (a) (q),Rep M0 S v a->bH n S.h a=some q->RepP M0 S.w v q:=by
 intro n
 induction n using Nat.strongRecOn with
 |_ n ih=>
  intro v a q hr e
  cases a with
  |p v'=>rw[jZ]at e;cases e;exact RepP.less (show RepP (Avoid M0 S.m) S.w v q from hr) λb hb=>.inl hb
  |ref k id=>
   cases n<;>cases k<;>first|(cases e;obtain⟨⟨b,hb⟩,_⟩:=hr;rw[hb];exact .anyMap)|cases e
  |undef=>cases n<;>cases e
  |iptr t id=>cases n<;>cases e
  |arr id ver i o k=>
   cases n with
   |zero=>cases e
   |succ n=>
    unfold bH my at e;split at e
    .rename_i sz l hrow;split at e
     .rename_i x hx;split at e
      .rename_i hlen;cases e;obtain⟨xs,hid,hv,hl⟩:=kH hrow;dsimp only at hid hl;obtain⟨b,cap,hm,hcap,hval⟩:=bK hr.2 hid hv;by_cases hk:k=0
       .subst hk;obtain⟨⟨a,c,rfl⟩,_⟩:=hr;have:sub o 0 x.cells=[]:=by simp[sub]
        rw[this];exact .empty (by simp)
       .obtain rfl:=hval hk;obtain⟨C,T,hb,h1,h2,h3,h4,h5,h6⟩:=wK hS (λm hm=>ih m (by omega)) hid hm hl;have hi:=(aA.1 hx).1;obtain⟨h7,h8⟩:=h3 x (aV hx);have hmul:(i+1)*sz<=l.length*sz:=eO sz hi;rw[cG,ql]at hmul;have hsub:(sub o k x.cells).length=k:=by simp[sub];omega
        have hget:∀(j:Nat) (c:PV),(sub o k x.cells)[j]?=some c->x.cells[o+j]?=some c:=λj c hj=>by
         have hjl:=(aA.1 hj).1;rw[sub,kh,if_pos (by omega),nn]at hj;exact hj
        have hcell:∀c,c∈sub o k x.cells->c.isCell=true:=λc hc=>by
         obtain⟨j,hj⟩:=eL hc;exact h8 c (aV (hget j c hj))
        refine .slice (off:=i*sz+o) (λj=>C.getD (i*sz+o+j) undef) hsub.symm hcap (by simp) (λc hc=>?_) (λ_=>h4) (λj hj=>?_) λi' j x' c hx' hc=>?_
        .rw[lZ (hcell _ hc)];exact⟨rfl,λc' hc'=>by rw[DA.1 hc'];exact hcell _ hc⟩
        .rw[hsub]at hj;have:=h5 (i*sz+o+j) (by omega);rw[eN]at this;exact this
        .rw[lZ (hcell x' (aV hx'))]at hc
         cases j with
         |zero=>
          have hcx:c=x':=by simpa using hc.symm
          have:=h6 i (o+i') x x' hx (hget i' x' hx');rw[hcx]
          simpa[fX]using this
         |succ j=>simp at hc
      .cases e
     .cases e
    .cases e
  |ptr id ver i o=>
   cases n with
   |zero=>cases e
   |succ n=>
    unfold bH at e;simp only[bx]at e;obtain⟨⟨sz,l⟩,h1,rfl⟩:=e;obtain⟨xs,hid,hv,hl⟩:=kH h1;obtain⟨b,hm,rfl⟩:=bK hr.2 hid hv;obtain⟨C,T,hb,h1,h2,h3,h4,h5,h6⟩:=wK hS (λm hm=>ih m (by omega)) hid hm hl
    exact .ptr (off:=0) (λk=>C.getD k undef) (by omega) h3 (λ_=>h4) h5 h6
  |slice id ver off len=>
   cases n with
   |zero=>cases e
   |succ n=>
    unfold bH at e;simp only[bx]at e;obtain⟨⟨sz,l⟩,h1,rfl⟩:=e;obtain⟨xs,hid,hv,hl⟩:=kH h1;dsimp only at hid hl |-;have hnil:len=0->(l.take (off+len)).drop off=[]:=by
     intro e;subst e;apply DB;simp
    rcases bK hr.2 hid hv with⟨h0,_,_,a,cap,rfl⟩|⟨b,cap,T',n',hm,rfl,⟨h1,h2⟩,_,_⟩|⟨_,rfl,h0⟩
    .rw[hnil h0];exact .empty (by simp)
    .obtain⟨C,T,hb,h3,h4,h5,h6,h7,h8⟩:=wK hS (λm hm=>ih m (by omega)) hid hm hl;have:=qF (M:=M0) (w:=S.w) (b:=b) (off:=0) (sz:=sz) (l:=off) (r:=off+len) (xs:=l) (λk=>C.getD k undef) (by omega) (by omega) h5 (λ_=>h6) h7 h8 (cap:=cap) (full:=false) (by omega) (by simp);simpa using this
    .rw[hnil h0];exact .empty (by simp)
  |func fn first cap=>
   cases n with
   |zero=>cases e
   |succ n=>
    obtain⟨F,C,rfl,h1,h2⟩:=hr;unfold bH at e;split at e
    .rename_i x y hx hy;cases e;obtain⟨h3,h4⟩:=dN hx;obtain⟨h5,h6⟩:=dN hy;refine .func (by rw[h1.1,h3]) (by rw[h2.1,h5]) (λi c hi=>?_) λi c hi=>?_
     .obtain⟨a,h7,h8⟩:=h4 i c hi;exact ih n (by omega) _ a c (jj (h1.2 i a h7)) h8
     .obtain⟨a,h7,h8⟩:=h6 i c hi;exact ih n (by omega) _ a c (jj (h2.2 i a h7)) h8
    .cases e
  |agg cs=>
   cases n with
   |zero=>cases e
   |succ n=>
    obtain⟨C,rfl,hc,h1,h2⟩:=hr;unfold bH at e;simp only[bx]at e;obtain⟨l,hl,rfl⟩:=e;obtain⟨h3,h4⟩:=dN hl;refine .agg (by omega) (λc hcl=>?_) λi c hi=>?_
    .obtain⟨i,hi⟩:=eL hcl;obtain⟨a,h5,h6⟩:=h4 i c hi;exact kI (hc a (aV h5)) h6
    .obtain⟨a,h5,h6⟩:=h4 i c hi
     exact ih n (by omega) _ a c (ly (hc a (aV h5)) (h2 i a h5)) h6
  |tuple cs=>
   cases n with
   |zero=>cases e
   |succ n=>
    obtain⟨C,rfl,h1,h2⟩:=hr;unfold bH at e;simp only[bx]at e;obtain⟨l,hl,rfl⟩:=e;obtain⟨h3,h4⟩:=dN hl;refine .tuple (by omega) λi c hi=>?_;obtain⟨a,h5,h6⟩:=h4 i c hi;exact ih n (by omega) _ a c (lz (h2 i a h5)) h6
theorem sE{S}(hS:HOk P M0 S){v}{a}{q}(hr:Rep M0 S v a)(h:oK S.h a=some q):RepP M0 S.w v q:=J8 hS 8 v a q hr h
theorem Dj{h}{l}{qs}(e:pz h l=some qs):l.length=qs.length/\∀(i:Nat) (q),qs[i]?=some q->∃a,l[i]?=some a/\oK h a=some q:=dN e
theorem x6{f}{args}{pargs}{v}{h}(hc:PCall P f pargs v)(ha:pz h args=some pargs)(hv:Flat v):aN P f args h (λr h'=>r=.ret (.p v)/\h'=h):=by
 intro M0 m w cargs hS hargs;obtain⟨hl,hg⟩:=Dj ha;have hpa:rx M0 w cargs pargs:=by
  refine⟨by rw[hargs.1,hl],λi c hi=>?_⟩;obtain⟨a,h1,h2⟩:=hg i c hi;exact sE (S:=⟨m,h,w⟩) hS (hargs.2 i a h1) h2
 obtain⟨h1,h2⟩:=hc M0 w cargs (λb hb=>(hS.m0 b hb).1) hS.gl.1 hpa;refine⟨h1,h2.mono λe w' hh=>?_⟩;obtain⟨v',rfl,hr,hfr⟩:=hh;obtain⟨hk,hev⟩:=sF hS hfr;exact⟨.ret (.p v),_,m,⟨rfl,rfl⟩,hev,hk,hv.rep hr⟩
theorem ea{F G}(hFG:∀a q,F a=some q->G a=some q):∀{l} {qs},aM F l=some qs->aM G l=some qs
 |[],qs,e=>e
 |a::l,qs,e=>by
  unfold aM at e |-;split at e
  .rename_i q r h1 h2;rw[hFG _ _ h1,ea hFG h2];exact e
  .cases e
theorem q7{F G}(hFG:∀a q,F a=some q->G a=some q){h u}(hs:bL h u){id ver:Nat}{q}(e:jr F ver h[id]?=some q):jr G ver u[id]?=some q:=by
 obtain⟨xs,h1,h2,h3⟩:=kH e;rw[pX hs h1];show (if xs.length=ver then(aM G xs).map λl=>(q.1,l) else none)=some q;rw[if_pos h2,ea hFG h3];rfl
theorem Ib{h u}(hs:bL h u):∀(n) (a) (q),bH n h a=some q->bH n u a=some q:=by
 intro n
 induction n with
 |zero=>intro a q e;cases a<;>first|exact e|cases e
 |succ n ih=>
  intro a q e
  cases a with
  |p v=>exact e
  |ptr id ver i o=>
   unfold bH at e |-;simp only[bx]at e |-;obtain⟨q',h1,h2⟩:=e
   exact⟨q',q7 ih hs h1,h2⟩
  |slice id ver i o=>
   unfold bH at e |-;simp only[bx]at e |-;obtain⟨q',h1,h2⟩:=e
   exact⟨q',q7 ih hs h1,h2⟩
  |func fn first cap=>
   unfold bH at e |-;split at e
   .rename_i x y hx hy;rw[ea ih hx,ea ih hy];exact e
   .cases e
  |agg cs=>
   unfold bH at e |-;simp only[bx]at e |-;obtain⟨q',h1,h2⟩:=e
   exact⟨q',ea ih h1,h2⟩
  |tuple cs=>
   unfold bH at e |-;simp only[bx]at e |-;obtain⟨q',h1,h2⟩:=e
   exact⟨q',ea ih h1,h2⟩
  |ref k id=>cases k<;>first|exact e|cases e
  |iptr t id=>cases e
  |arr id ver i o k=>
   unfold bH at e |-
   cases hq:jr (bH n h) ver h[id]? with
   |none=>rw[hq]at e;cases e
   |some q'=>rw[hq]at e;rw[q7 ih hs hq];exact e
  |undef=>cases e
theorem AW{h u}(hs:bL h u){l}{qs}(e:pz h l=some qs):pz u l=some qs:=ea (Ib hs 8) e
theorem dX{H}{ops}{rest}{Q}{dst}{A}{f}{args}{pargs}{v}(hc:PCall P f pargs v)(ha:pz A.h args=some pargs)(hv:Flat v)
  (h:@WO ⟨P,H,ops,rest,Q⟩ (A.put dst (.p v) A.h)):@WF ⟨P,H,ops,rest,Q,dst⟩ A f args:=by
 refine(x6 hc ha hv).mono λr h' hr=>?_;obtain⟨rfl,rfl⟩:=hr;exact h
theorem Dx{H}{ops}{rest}{Q}{o}{hs h0}{A}{f}{args}{pargs}{v}(hc:PCall P f pargs v)(ha:pz h0 args=some pargs)(hv:Flat v)
  (h:@WD ⟨P,H,ops,rest,Q⟩ hs (A.put o.dst (.p v) A.h)):@Dy ⟨P,H,ops,rest,Q,o⟩ hs h0 A (.call f args):=
 ⟨.p v,λ_ hs=>x6 hc (AW hs ha) hv,h⟩
end Abs
end Go.Proofs.YtmndpldajflenaaGreatDoor
namespace Go.Proofs.YtmndpldajflenaaGreatDoor
namespace Abs
variable {P:Program} {M0:Nat->Prop}
theorem fy.refl(A):fy P A A:=⟨rfl,rfl,λ_ _ _ _ m _ _ h=>⟨m,h⟩⟩
theorem fy.trans{A B C}(h:fy P A B)(k:fy P B C):fy P A C:=
 ⟨k.1.trans h.1,k.2.1.trans h.2.1,λM0 S0 b cs0 m a w hr=>let ⟨m1,h1⟩:=h.2.2 M0 S0 b cs0 m a w hr;k.2.2 M0 S0 b cs0 m1 a w h1⟩
theorem Fj{A}{T}(h:∀t,T t=A.tmps t\/T t=.undef):fy P A { A with tmps:=T }:=
 ⟨rfl,rfl,λM0 S0 b cs0 m a w hr=>⟨m,hr.size,λt=>by
  show Rep M0 ⟨m,A.h,w⟩ _ (T t);rcases h t with e|e
  .rw[e];exact hr.tmps t
  .rw[e];exact trivial,hr.hok,hr.ev,hr.le,hr.df,hr.rc⟩⟩
def Mem.cut (S:Mem) (l:Nat):Mem:=⟨S.m.take l,S.h.take l,S.w⟩
theorem tg{S:Mem}{l b}(h:Own (S.cut l).m b):Own S.m b:=zg h
theorem yj{S:Mem}{l b}(h:Avoid M0 (S.cut l).m b):Avoid M0 S.m b:=h.imp id tg
theorem p0{S:Mem}{l id}(h:id<l):(S.cut l).h[id]?=S.h[id]?:=by
 show (S.h.take l)[id]?=_;rw[kh,if_pos h]
theorem vN{S:Mem}{l id}(h:id<l):(S.cut l).m.getD id none=S.m.getD id none:=by
 show (S.m.take l).getD id none=_;rw[bB,bB,kh,if_pos h]
theorem b8.cut{S}{l id ver}{X}(h:b8 S id ver X)(hid:id<l):b8 (S.cut l) id ver X:=by
 unfold b8 at *
 rw[p0 hid,vN hid];exact h
theorem bp.cut{S}{l}{v}{a}(h:bp M0 S v a)(hb:bP l a):bp M0 (S.cut l) v a:=by
 cases a with
 |p q=>exact RepP.less (show RepP (Avoid M0 S.m) S.w v q from h) λb hb=>yj hb
 |ptr id ver i o=>exact⟨h.1,h.2.cut hb⟩
 |iptr it id=>exact⟨h.1,h.2.cut hb⟩
 |arr id ver i o n=>exact⟨h.1,h.2.cut hb⟩
 |slice id ver off len=>exact⟨h.1,b8.cut (S:=S) h.2 hb⟩
 |ref k id=>
  refine⟨h.1,?_⟩;rw[p0 hb,vN hb]
  exact h.2
 |undef=>exact trivial
 |agg cs=>exact h.elim
 |func fn f c=>exact h.elim
 |tuple vs=>exact h.elim
theorem aY.cut{S}{l}{v}{a}(h:aY M0 S v a)(hb:bS l a):aY M0 (S.cut l) v a:=by
 cases a with
 |func fn f c=>
  obtain⟨F,C,rfl,h1,h2⟩:=h
  exact⟨F,C,rfl,h1.imp λv c hc hr=>bp.cut hr (hb.1 c hc),h2.imp λv c hc hr=>bp.cut hr (hb.2 c hc)⟩
 |p q=>exact bp.cut (M0:=M0) (a:=.p q) h hb
 |ptr id ver i o=>exact bp.cut (M0:=M0) (a:=.ptr id ver i o) h hb
 |iptr it id=>exact bp.cut (M0:=M0) (a:=.iptr it id) h hb
 |arr id ver i o n=>exact bp.cut (M0:=M0) (a:=.arr id ver i o n) h hb
 |slice id ver off len=>exact bp.cut (M0:=M0) (a:=.slice id ver off len) h hb
 |ref k id=>exact bp.cut (M0:=M0) (a:=.ref k id) h hb
 |undef=>exact trivial
 |agg cs=>exact h.elim
 |tuple vs=>exact h.elim
theorem cc.cut{S}{l}{v}{a}(h:cc M0 S v a)(hb:de l a):cc M0 (S.cut l) v a:=by
 cases a with
 |agg cs=>
  obtain⟨C,rfl,h1,h2⟩:=h
  exact⟨C,rfl,h1,h2.imp λv c hc hr=>aY.cut hr (hb c hc)⟩
 |p q=>exact aY.cut (M0:=M0) (a:=.p q) h hb
 |ptr id ver i o=>exact aY.cut (M0:=M0) (a:=.ptr id ver i o) h hb
 |iptr it id=>exact aY.cut (M0:=M0) (a:=.iptr it id) h hb
 |arr id ver i o n=>exact aY.cut (M0:=M0) (a:=.arr id ver i o n) h hb
 |slice id ver off len=>exact aY.cut (M0:=M0) (a:=.slice id ver off len) h hb
 |ref k id=>exact aY.cut (M0:=M0) (a:=.ref k id) h hb
 |func fn f c=>exact aY.cut (M0:=M0) (a:=.func fn f c) h hb
 |undef=>exact trivial
 |tuple vs=>exact h.elim
theorem Rep.cut{S}{l}{v}{a}(h:Rep M0 S v a)(hb:below l a):Rep M0 (S.cut l) v a:=by
 cases a with
 |tuple cs=>
  obtain⟨C,rfl,h2⟩:=h
  exact⟨C,rfl,h2.imp λv c hc hr=>cc.cut hr (hb c hc)⟩
 |p q=>exact cc.cut (M0:=M0) (a:=.p q) h hb
 |ptr id ver i o=>exact cc.cut (M0:=M0) (a:=.ptr id ver i o) h hb
 |iptr it id=>exact cc.cut (M0:=M0) (a:=.iptr it id) h hb
 |arr id ver i o n=>exact cc.cut (M0:=M0) (a:=.arr id ver i o n) h hb
 |slice id ver off len=>exact cc.cut (M0:=M0) (a:=.slice id ver off len) h hb
 |ref k id=>exact cc.cut (M0:=M0) (a:=.ref k id) h hb
 |func fn f c=>exact cc.cut (M0:=M0) (a:=.func fn f c) h hb
 |undef=>exact trivial
 |agg cs=>exact cc.cut (M0:=M0) (a:=.agg cs) h hb
def bw (l:Nat):AObj->Prop
 |.row _ xs=>∀x,x∈xs->below l x
 |.loop _ tmps _ _ _ _ _=>∀t,below l (tmps t)
 |.bld _ _ x=>bP l x
 |_=>True
def nY (l:Nat):ADef->Prop
 |.fn _ args=>∀a,a∈args->below l a
 |.collected id=>id<l
theorem CE{l}{x c}{cs}(hx:x.cells=some cs)(hb:below l x)(hc:c∈cs)(hcell:c.isCell=true):bS l c:=by
 rcases sQ hx with⟨l',rfl⟩|⟨l',rfl⟩|⟨h1,rfl⟩
 .simp only[AV.cells,PV.cells,iy]at hx;subst hx;simp only[eK]at hc;obtain⟨q,_,rfl⟩:=hc;exact trivial
 .simp only[AV.cells,iy]at hx;subst hx;exact hb c hc
 .simp only[DA]at hc;subst hc;cases c<;>first|exact hb|exact trivial|cases h1
theorem Dh{S:Mem}(hS:HOk P M0 S){l:Nat}(ho:∀(id:Nat) (o:AObj),id<l->S.h[id]?=some o->bw l o):HOk P M0 (S.cut l) where
 len:=by simp[Mem.cut,hS.len]
 lt:=λb h=>hS.lt b (tg h)
 m0:=λb h=>⟨(hS.m0 b h).1,λhn=>(hS.m0 b h).2 (tg hn)⟩
 gl:=hS.gl.fr (λ_ _ _=>rfl) λb hb=>.inl (tg hb)
 inj:=λi j b hi hj=>by
  have key:∀k:Nat,(S.cut l).m[k]?=some (some b)->S.m[k]?=some (some b):=by
   intro k hk;have hk':(S.m.take l)[k]?=some (some b):=hk;rw[kh]at hk';split at hk'
   .exact hk'
   .cases hk'
  exact hS.inj i j b (key i hi) (key j hj)
 obj:=λid o hid=>by
  have hlt:id<l:=by
   have:=(aA.1 hid).1;simp[Mem.cut]at this;omega
  rw[p0 hlt]at hid;rw[vN hlt];have hb:=ho id o hlt hid;have:=hS.obj id o hid
  cases o with
  |row sz xs=>
   rcases this with h|⟨b,T,C,h1,h2,h3,h4⟩
   .exact .inl h
   .refine .inr ⟨b,T,C,h1,h2,h3,λi x hx=>?_⟩;obtain⟨cs,h5,h6,h7⟩:=h4 i x hx
    exact⟨cs,h5,h6,λj c hc=>⟨(h7 j c hc).1,aY.cut (h7 j c hc).2 (CE h5 (hb x (aV hx)) (aV hc) (h7 j c hc).1)⟩⟩
  |loop n tmps ps assign body st pend=>
   obtain⟨b,r,h1,h2,h3,h4,h5⟩:=this
   exact⟨b,r,h1,h2,h3,λt=>Rep.cut (h4 t) (hb t),h5⟩
  |strIter s p=>exact this
  |mp es=>
   obtain⟨b,C,clk,h1,h2,h3⟩:=this
   exact⟨b,C,clk,h1,h2,h3.monoP λv q hq=>aY.cut hq trivial⟩
  |memo f=>
   obtain⟨hg,es,hf,b,C,clk,h1,h2,h3⟩:=this
   exact⟨hg,es,hf,b,C,clk,h1,h2,h3.monoP λv q hq=>aY.cut hq trivial⟩
  |dblock=>exact this
  |bld T el x=>
   obtain⟨b,p,v,h1,h2,h3,h4,h5,h6⟩:=this
   exact⟨b,p,v,h1,h2,h3,h4,bp.cut h5 hb,h6⟩
  |dead=>exact trivial
theorem Ba{S}{l}:∀{ds} {xs},DefsRep P M0 S ds xs->(∀x,x∈xs->nY l x)->DefsRep P M0 (S.cut l) ds xs
 |[],[],_,_=>trivial
 |d::ds,x::xs,h,hb=>by
  refine⟨?_,Ba h.2 λy hy=>hb y (by simp[hy])⟩;have hx:=hb x (by simp);have h1:=h.1
  cases x with
  |fn g args=>
   obtain⟨fv,cap,dargs,cargs,h2,h3,h4⟩:=h1
   exact⟨fv,cap,dargs,cargs,h2,h3,h4.imp λv c hc hr=>Rep.cut hr (hx c hc)⟩
  |collected id=>
   obtain⟨bl,h2,h3⟩:=h1;refine⟨bl,h2,?_⟩;rw[p0 hx,vN hx]
   exact h3
 |[],_::_,h,_=>h.elim
 |_::_,[],h,_=>h.elim
theorem Hs{A}{T}(l)(hl:A.bs<=l)(hlen:l<=A.h.length)(ht:∀t,(T t=A.tmps t/\below l (A.tmps t))\/T t=.undef)
  (ho:∀(id) (o),id<l->A.h[id]?=some o->bw l o) (hd:∀x,x∈A.df->nY l x):fy P A { A with tmps:=T,h:=A.h.take l }:=
 ⟨rfl,rfl,λM0 S0 b cs0 m a w hr=>⟨m.take l,hr.size,λt=>by
   show Rep M0 (Mem.cut ⟨m,A.h,w⟩ l) _ (T t);rcases ht t with⟨e,hb⟩|e
   .rw[e];exact Rep.cut (hr.tmps t) hb
   .rw[e];exact trivial,
  Dh (S:=⟨m,A.h,w⟩) hr.hok ho,
  {fr:=hr.ev.fr
   sub:=λx hx=>hr.ev.sub x (zg hx)
   obj:=λid o hid ho'=>by
    obtain⟨o',h1,h2⟩:=hr.ev.obj id o hid ho';have hidl:id<l:=by have:id<A.bs:=hid;omega
    refine⟨o',?_,?_⟩
    .exact(p0 (S:=⟨m,A.h,w⟩) hidl).trans h1
    .have:=vN (S:=⟨m,A.h,w⟩) hidl;show ObjEv _ _ ((Mem.cut ⟨m,A.h,w⟩ l).m.getD id none) _
     rw[this];exact h2 },
  ⟨by show A.bs<=(A.h.take l).length;simp;omega,hr.le.2⟩,Ba (S:=⟨m,A.h,w⟩) hr.df hd,by
   have:=hr.rc;cases hc:A.rc<;>rw[hc]at this<;>first|exact this|skip
   obtain⟨h1,h2,v',cs1,h3,h4⟩:=this
   exact⟨h1,h2,v',cs1,h3,RepP.less h4 λb hb=>yj (S:=⟨m,A.h,w⟩) (l:=l) hb⟩⟩⟩
theorem zE{A}{T}(sz)(ht:∀t,T t=A.tmps t\/(A.tmps t=.p .nilslice/\T t=.slice A.h.length 0 0 0)):fy P A { A with tmps:=T,h:=A.h++[.row sz []] }:=
 ⟨rfl,rfl,λM0 S0 b cs0 m a w hr=>⟨m++[none],by
  have hk:=tS (S:=⟨m,A.h,w⟩) hr.hok sz;have hev:=Ev.nil (S:=⟨m,A.h,w⟩) hr.hok sz;have hr1:=hr.ahead (m':=m++[none]) (h':=A.h++[.row sz []]) (w':=w) hev hk;refine⟨hr1.size,λt=>?_,hr1.hok,hr1.ev,hr1.le,hr1.df,hr1.rc⟩;show Rep M0 ⟨m++[none],A.h++[.row sz []],w⟩ _ (T t);rcases ht t with e|⟨e1,e2⟩
  .rw[e];exact hr1.tmps t
  .rw[e2];have h1:=hr.tmps t;rw[e1]at h1;have h2:RepP (Avoid M0 m) w (a.tmps.getD t undef) .nilslice:=h1;generalize a.tmps.getD t undef=v at h2 |-;cases h2;refine⟨⟨none,0,0,rfl⟩,.inr ⟨sz,[],by simp,aJ _,λ_=>.inr (.inr ⟨?_,rfl,rfl⟩)⟩⟩;have:=hr.hok.len;show (m++[none]).getD A.h.length none=none;rw[bB,<-show m.length=A.h.length from this]
   simp⟩⟩
def Eu (h:Heap):AEnd->Option PV
 |.ret a=>oK h a
 |_=>none
theorem u9(hD:eZ P){H}{f}{fn}{c}{pargs}{v}{rs}{n}(hf:P.funcs[f]?=some fn)(hb:fn.body=some c)(hrs:fn.results.toList=rs)(hn:fn.ntmps=n)(hok:dv H fn=true)
  (hlen:pargs.length<=n) (hw:wp P H c (jv P rs 0 (λ_ r h=>Eu h r=some v)) (fZ n .no (pargs.map .p) [])):PCall P f pargs v:=by
 intro M0 w cargs hM hg ha;have ha':cK (Rep M0 ⟨[],[],w⟩) cargs (pargs.map .p):=by
  refine⟨by simpa using ha.1,λi c hc=>?_⟩;simp only[bU,bx]at hc;obtain⟨q,hq,rfl⟩:=hc;exact ar ((ha.2 i q hq).mono (λ_ _ _=>rfl) (λb hb=>by
   rcases hb with hb|hb
   .exact .inl hb
   .simp[Own]at hb))
 have:=l7 hD (h:=[]) (R:=λr h=>Eu h r=some v) hf hb hrs hn hok (by simpa using hlen) hw M0 [] w cargs (tr hM hg) ha';refine⟨this.1,this.2.mono λe w' h=>?_⟩;obtain⟨r,h',m',hR,hev,hk,hend⟩:=h
 cases e with
 |returned v'=>
  cases r with
  |panic v=>cases hR
  |ret a=>exact⟨v',rfl,sE (S:=⟨m',h',w'⟩) hk hend hR,hev.fr⟩
 |panicked ch=>
  cases r with
  |panic v=>cases hR
  |ret a=>exact hend.elim
 |outgrown=>exact hend.elim
end Abs
end Go.Proofs.YtmndpldajflenaaGreatDoor
namespace Go.Proofs.YtmndpldajflenaaGreatDoor
namespace Abs
variable {P:Program} {H:Hints} {ops:Array Oper} {Q Q':Ex->AAct->Prop}
theorem xK{A}{dst}{K K'}{r}(h:∀B,K B->K' B)(hq:∀e B,Q e B->Q' e B)(k:ja P A dst K Q r):ja P A dst K' Q' r:=by
 cases r with
 |call f args=>
  intro M0 m w cargs hS ha;obtain⟨h1,h2⟩:=k M0 m w cargs hS ha;refine⟨h1,h2.mono λ_ _ hb=>?_⟩;obtain⟨r,h',m',hR,rest⟩:=hb
  exact⟨r,h',m',by cases r<;>first|exact h _ hR|exact hq _ _ hR,rest⟩
 |yld l args=>
  refine⟨k.1,λM0 m w cargs bl hS ha hbl=>?_⟩;obtain⟨f,tmps,asx,bd,h1,h2⟩:=k.2 M0 m w cargs bl hS ha hbl;refine⟨f,tmps,asx,bd,h1,λc cs=>?_⟩;obtain⟨e,w',⟨r,h',m',hR,rest⟩,hs⟩:=h2 c cs
  exact⟨e,w',⟨r,h',m',by cases r<;>first|exact h _ hR|exact hq _ _ hR,rest⟩,hs⟩
 |panic v=>exact hq _ _ k
 |val v h'=>exact lE (Q:=Q') h k
 |skip h'=>exact lE (Q:=Q') h k
 |dfr d=>exact lE (Q:=Q') h k
 |recover=>exact lE (Q:=Q') h k
 |stuck=>exact k
theorem uP{X Y X' Y'}{o}(h1:X ()->X' ())(h2:Y ()->Y' ())(k:oC X Y o):oC X' Y' o:=by
 cases o with
 |none=>exact k
 |some b=>exact⟨λe=>h1 (k.1 e),λe=>h2 (k.2 e)⟩
theorem qn(hq:∀e B,Q e B->Q' e B):∀(l) {A},fY P H ops Q l A->fY P H ops Q' l A
 |[],_,k=>hq _ _ k
 |o::rest,A,k=>by
  rw[fY]at k |-;exact uP (λk=>xK (λB hB=>qn hq rest hB) hq k) (λk=>qn hq rest k) k
theorem Hc{h}{K K'}{r}(hk:∀v h,K v h->K' v h)(k:xm h K r):xm h K' r:=by
 cases r<;>first|exact k.elim|exact⟨k.1,hk _ _ k.2⟩
theorem Ad{h}{K K'}{r}(hk:∀v,K v->K' v)(k:tN P h K r):tN P h K' r:=by
 obtain⟨v,h1,h2⟩:=m4.1 k;exact m4.2 ⟨v,h1,hk v h2⟩
theorem DT{hs h}{j sz}{K K'}{z}(hk:∀v h,K v h->K' v h)(k:oF hs h j sz K z):oF hs h j sz K' z:=by
 cases z with
 |none=>exact k
 |some z=>exact⟨k.1,k.2.1,k.2.2.1,hk _ _ k.2.2.2⟩
theorem DU{K K'}{r}(hk:∀h,K h->K' h)(k:mP K r):mP K' r:=by
 cases r<;>first|exact k.elim|exact hk _ k
theorem Ft{hs h}{e}{K K'}{o}(hk:∀h,K h->K' h)(k:rV P hs h e K o):rV P hs h e K' o:=by
 cases o with
 |store T a x=>
  have k1:(match e a with|.ptr id ver i o=>eG hs id=true/\mP K (fi P T (.ptr id ver i o) (e x) h)|_=>False):=k;show (match e a with|.ptr id ver i o=>eG hs id=true/\mP K' (fi P T (.ptr id ver i o) (e x) h)|_=>False);generalize e a=z at k1 |-
  cases z<;>first|exact k1.elim|exact⟨k1.1,DU hk k1.2⟩
 |_=>exact k.elim
theorem F6{h}{e}{K K'}{o}(hk:K->K')(k:sc P h e K o):sc P h e K' o:=by
 cases o<;>first|exact k.elim|exact⟨k.1,hk k.2⟩
theorem Hb{hs h}{K K'}{r}(hk:∀v h,K v h->K' v h)(k:BD hs h K r):BD hs h K' r:=by
 cases r<;>first|exact k.elim|exact⟨k.1,hk _ _ k.2⟩
theorem F9{ap:Bool}{hs h:Heap}{K K':AV->Heap->Prop}{r:OR}(hk:∀v h,K v h->K' v h)(k:nN P ap hs h K r):nN P ap hs h K' r:=by
 cases r<;>first|exact k.elim|skip
 .simp only[nN]at k |-;split at k
  .rename_i ha;rw[if_pos ha];exact⟨k.1,k.2.1,hk _ _ k.2.2⟩
  .rename_i ha;rw[if_neg ha];exact⟨k.1,k.2.1,hk _ _ k.2.2⟩
 .obtain⟨h1,h2,⟨v,h3,h4⟩|⟨v,id,h3,h4,h5⟩⟩:=k
  .exact⟨h1,h2,.inl ⟨v,h3,hk _ _ h4⟩⟩
  .exact⟨h1,h2,.inr ⟨v,id,h3,h4,hk _ _ h5⟩⟩
theorem Ha{t:Nat}{ap:Bool}{hs h:Heap}{K K':AV->Heap->Prop}{F:Heap->OR}(hk:∀v h,K v h->K' v h)(k:mK P t ap hs h K F):mK P t ap hs h K' F:=by
 unfold mK at k |-;split at k
 .rename_i ha;rw[if_pos ha];exact F9 hk k
 .rename_i ha;rw[if_neg ha];exact Hb hk k
theorem Fp{A}{K K'}{r}(hq:∀e B,Q e B->Q' e B)(hk:∀v,K v->K' v)(k:ug P Q A K r):ug P Q' A K' r:=by
 cases r<;>first|exact k.elim|skip
 rcases k with⟨v,h1,h2⟩|⟨v,h1,h2⟩
 .exact .inl ⟨v,h1,hk v h2⟩
 .exact .inr ⟨v,h1,λT=>hq _ _ (h2 T)⟩
theorem EG{hs}{A}{K K'}{r}(hq:∀e B,Q e B->Q' e B)(hk:∀v h,K v h->K' v h)(k:n4 P H Q hs A K r):n4 P H Q' hs A K' r:=by
 cases r<;>first|exact k.elim|skip
 intro M0 m w cargs hS ha;obtain⟨h1,h2⟩:=k M0 m w cargs hS ha;refine⟨h1,h2.mono λ_ _ hb=>?_⟩;obtain⟨r,h',m',hR,rest⟩:=hb;exact⟨r,h',m',by cases r<;>first|exact⟨hR.1,hk _ _ hR.2⟩|exact λT hT=>hq _ _ (hR T hT),rest⟩
theorem dh(hq:∀e B,Q e B->Q' e B):∀(l) {hs} {A},bi P H ops Q l hs A->bi P H ops Q' l hs A
 |[],_,_,k=>hq _ _ k
 |o::rest,hs,A,k=>by
  rw[bi]at k |-;refine uP (λk=>?_) (λk=>dh hq rest k) k;cases hc:bh H o<;>rw[hc]at k
  .exact xK (K:=λB=>bi P H ops Q rest B.h B) (K':=λB=>bi P H ops Q' rest B.h B) (λB hB=>dh hq rest hB) hq k
  .exact Hc (λv h hh=>dh hq rest hh) k
  .exact Ad (λv hh=>dh hq rest hh) k
  .exact Ad (λv hh=>dh hq rest hh) k
  .exact DT (λv h hh=>dh hq rest hh) k
  .exact Ft (λh hh=>dh hq rest hh) k
  .exact F6 (λhh=>dh hq rest hh) k
  .exact Ha (λv h hh=>dh hq rest hh) k
  .exact Fp hq (λv hh=>dh hq rest hh) k
  .exact EG hq (λv h hh=>dh hq rest hh) k
theorem mj{K K'}(h:∀B,K B->K' B)(hq:∀e B,Q e B->Q' e B):∀e B,dZ K Q e B->dZ K' Q' e B
 |.normal,_,k=>h _ k
 |.exit _,_,k=>hq _ _ k
 |.ret,_,k=>hq _ _ k
 |.panic _,_,k=>hq _ _ k
theorem Cx{id}(hq:∀e B,Q e B->Q' e B):∀e B,j4 id Q e B->j4 id Q' e B
 |.normal,_,k=>hq _ _ k
 |.exit j,B,k=>by
  have k':if j=id then Q .normal B else Q (.exit j) B:=k
  show if j=id then Q' .normal B else Q' (.exit j) B
  by_cases h:j=id
  .rw[if_pos h]at k' |-;exact hq _ _ k'
  .rw[if_neg h]at k' |-;exact hq _ _ k'
 |.ret,_,k=>hq _ _ k
 |.panic _,_,k=>hq _ _ k
theorem AG(hq:∀e B,Q e B->Q' e B){A}{l}{o}(k:kF Q A l o):kF Q' A l o:=by
 unfold kF at k |-;split at k
 .refine⟨k.1,?_⟩;have:=k.2;unfold qV at this |-;split at this<;>first|exact this.elim|exact hq _ _ this
 .exact k.elim
theorem pF:∀(c) {Q Q'} {A},(∀e B,Q e B->Q' e B)->wp P H c Q A->wp P H c Q' A:=by
 intro c
 induction c with
 |skip=>intro Q Q' A hq k;exact hq _ _ k
 |region id ops rd=>
  intro Q Q' A hq k
  cases rd with
  |false=>exact qn hq _ k
  |true=>exact dh hq _ k
 |seq x y ihx ihy=>intro Q Q' A hq k;exact ihx (mj (λB hB=>ihy hq hB) hq) k
 |cond c x y ihx ihy=>
  intro Q Q' A hq k;unfold wp yX at k |-;split at k
  .exact⟨λe=>ihx hq (k.1 e),λe=>ihy hq (k.2 e)⟩
  .exact k.elim
 |block id x ihx=>intro Q Q' A hq k;exact ihx (Cx hq) k
 |loop x ihx=>
  intro Q Q' A hq k
  exact λX hX=>k X λB hB=>hX B (ihx (mj (λB hB=>hB) hq) hB)
 |rangeFunc g ps assign body _ _=>
  intro Q Q' A hq k;have gen:∀{X Y:Prop} {c:Rc},(X->Y)->rf X c->rf Y c:=λhx hc=>by
   rename_i c;cases c<;>first|exact False.elim hc|exact hx hc
  refine gen (λk=>?_) k;unfold r8 at k |-;split at k
  .rename_i gf args hg;intro M0 m w cargs hS ha;obtain⟨h1,h2⟩:=k M0 m w cargs hS ha;refine⟨h1,h2.mono λ_ _ hb=>?_⟩;obtain⟨r,h',m',hR,rest⟩:=hb;refine⟨r,h',m',?_,rest⟩
   cases r with
   |ret v=>exact AG hq hR
   |panic v=>exact hq _ _ hR
  .exact k.elim
 |exit id=>intro Q Q' A hq k;exact hq _ _ k
 |ret=>intro Q Q' A hq k;exact hq _ _ k
 |scope x ihx=>intro Q Q' A hq k;exact ihx hq k
 |label id=>intro Q Q' A hq k;exact hq _ _ k
 |_=>intro Q Q' A hq k;exact k.elim
theorem wE{x}{A}(k:wp P H x (dZ (λB=>wp P H (.loop x) Q B) Q) A):wp P H (.loop x) Q A:=by
 intro X hX;refine⟨A,fy.refl A,hX A (pF x (mj (λB hB=>?_) λ_ _ h=>h) k)⟩;exact hB X hX
theorem BW{x}{A}{σ:Type}(I:σ->AAct)(μ:σ->Nat)(s0)(h0:fy P A (I s0))(hs:∀s,wp P H x (dZ (λB=>∃s',μ s'<μ s/\fy P B (I s')) Q) (I s)):wp P H (.loop x) Q A:=by
 intro X hX;have key:∀(j:Nat) (s:σ),μ s=j->X (I s):=by
  intro j
  induction j using Nat.strongRecOn with
  |_ j ih=>
   intro s hj;refine hX _ (pF x (mj (λB hB=>?_) λ_ _ h=>h) (hs s));obtain⟨s',h1,h2⟩:=hB;exact⟨_,h2,ih (μ s') (hj▸h1) s' rfl⟩
 exact⟨_,h0,key _ s0 rfl⟩
def dM:List (Nat×AV)->Nat->AV
 |[],_=>.undef
 |(k,v)::l,t=>if t=k then v else dM l t
theorem Gj(t):dM [] t=.undef:=rfl
theorem vv(k)(v)(l)(t):dM ((k,v)::l) t=if t=k then v else dM l t:=rfl
theorem uu:∀(l) (t),dM l t=.undef\/(t,dM l t)∈l
 |[],_=>.inl rfl
 |(k,v)::l,t=>by
  rw[vv];by_cases h:t=k
  .subst h;rw[if_pos rfl];exact .inr (by simp)
  .rw[if_neg h];rcases uu l t with h1|h1
   .exact .inl h1
   .exact .inr (eU _ h1)
theorem Fl{A}(l)(h:∀p,p∈l->A.tmps p.1=p.2):fy P A { A with tmps:=dM l }:=
 Fj λt=>by
  rcases uu l t with h1|h1
  .exact .inr h1
  .exact .inl (h _ h1).symm
def gQ {σ:Type} (P:Program) (V:σ->Prop) (I:σ->AAct) (μ:σ->Nat) (s:σ):AAct->Prop:=λB=>∃s',V s'/\μ s'<μ s/\fy P B (I s')
theorem Hf{σ}{x}{A}(V:σ->Prop)(I)(μ)(s0)(hv:V s0)(h0:fy P A (I s0))(hs:∀s,V s->@W ⟨P,H,x,dZ (gQ P V I μ s) Q⟩ (I s)):@W ⟨P,H,.loop x,Q⟩ A:=by
 refine BW (σ:={ s:σ // V s }) (λs=>I s.1) (λs=>μ s.1) ⟨s0,hv⟩ h0 λs=>?_;refine pF x (mj (λB hB=>?_) λ_ _ h=>h) (hs s.1 s.2);obtain⟨s',h1,h2,h3⟩:=hB;exact⟨⟨s',h1⟩,h2,h3⟩
theorem aE{x}{A}(k:@W ⟨P,H,x,dZ (wp P H (.loop x) Q) Q⟩ A):@W ⟨P,H,.loop x,Q⟩ A:=wE k
theorem NC(a)(l):(List.toArray (a::l)).getD 0 0=a:=rfl
theorem NB(a b)(l):(List.toArray (a::b::l)).getD 1 0=b:=rfl
end Abs
end Go.Proofs.YtmndpldajflenaaGreatDoor
