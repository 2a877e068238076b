/- CONTRACTS of the program's functions, and laws on what they return. No conditions but those in the theorems' heads. -/
import Derived.Test.YtmndpldajflenaaGreatDoorTrFound
set_option linter.all false
namespace Go.Proofs.YtmndpldajflenaaGreatDoor
namespace Abs
namespace Tr
def ct (is:Nat->Bool) (i:Nat) (v:Bool):Nat->Bool:=λj=>if j=i then v else is j
theorem dm{is:Nat->Bool}{i j:Nat}{v:Bool}:ct is i v j=if j=i then v else is j:=rfl
def dP (g:(Nat->Bool)->Nat->Bool) (l:List Nat) (is:Nat->Bool):Nat->Bool:=l.foldl (λis i=>ct is i (g is i)) is
theorem sP{g:(Nat->Bool)->Nat->Bool}{j:Nat}:∀(l:List Nat) (is:Nat->Bool),j∉l->dP g l is j=is j
 |[],_,_=>rfl
 |i::l,is,h=>by
  have h1:j≠i:=λe=>h (e▸List.mem_cons_self);have h2:j∉l:=λe=>h (eU _ e);show dP g l (ct is i (g is i)) j=_;rw[sP l _ h2,dm,if_neg h1]
def Fb (g:(Nat->Bool)->Nat->Bool):Prop:=∀is is' i,(∀j,j<i->is j=is' j)->is i=is' i->g is i=g is' i
theorem pC{g:(Nat->Bool)->Nat->Bool}(hg:Fb g){is:Nat->Bool}:∀(n:Nat) {i:Nat},i<n->dP g (List.range n) is i=g (λj=>if j<i then dP g (List.range n) is j else is j) i
 |0,i,h=>by omega
 |n+1,i,h=>by
  have e:dP g (List.range (n+1)) is=ct (dP g (List.range n) is) n (g (dP g (List.range n) is) n):=by
   rw[List.range_succ];unfold dP;rw[oY];rfl
  have low:∀j,j<n->dP g (List.range (n+1)) is j=dP g (List.range n) is j:=λj hj=>by
   rw[e,dm,if_neg (by omega)]
  rcases aw i n with h1|h1
  .rw[low i h1,pC hg n h1];refine hg _ _ i (λj hj=>?_) (by simp);simp only[hj,if_true];exact(low j (by omega)).symm
  .have:i=n:=by omega
   subst this;have e2:dP g (List.range (i+1)) is i=g (dP g (List.range i) is) i:=by rw[e,dm,if_pos rfl]
   rw[e2];refine hg _ _ i (λj hj=>?_) ?_
   .simp only[hj,if_true];exact(low j hj).symm
   .simp only[Nat.lt_irrefl,if_false];exact sP _ _ (by simp)
def iY (tk:Nat->List Nat) (more:List (Nat×Nat)) (is:Nat->Bool) (i:Nat):Bool:=is i||(tk i).any is||more.any λe=>e.2==i&&is e.1
def rch (n:Nat) (tk:Nat->List Nat) (more:List (Nat×Nat)) (a:Nat):Nat->Bool:=dP (iY tk more) (List.range n) (λi=>i==a)
theorem rch_iff{n:Nat}{tk:Nat->List Nat}{more:List (Nat×Nat)}{a:Nat}(ht:∀i,∀x∈tk i,x<i)(hm:∀e∈more,e.1<e.2){i:Nat}(hi:i<n) :
  rch n tk more a i=true↔i=a\/(∃x∈tk i,rch n tk more a x=true)\/∃x,(x,i)∈more/\rch n tk more a x=true:=by
 have hg:∀n,rch n tk more a=dP (iY tk more) (List.range n) (λi=>i==a):=λ_=>rfl;have key:∀is is':Nat->Bool,(∀j,j<i->is j=is' j)->is i=is' i->iY tk more is i=iY tk more is' i:=λis is' h1 h2=>by
  unfold iY;have e1:(tk i).any is=(tk i).any is':=by
   have:∀x∈tk i,is x=is' x:=λx hx=>h1 x (ht i x hx);rw[gC,fL,fL];exact⟨λ⟨x,hx,hh⟩=>⟨x,hx,this x hx▸hh⟩,λ⟨x,hx,hh⟩=>⟨x,hx,(this x hx).symm▸hh⟩⟩
  have e2:(more.any λe=>e.2==i&&is e.1)=more.any λe=>e.2==i&&is' e.1:=by
   have:∀e∈more,(e.2==i&&is e.1)=(e.2==i&&is' e.1):=λe he=>by
    by_cases hc:e.2=i
    .have:=hm e he;rw[h1 e.1 (by omega)]
    .rw[beq_eq_false_iff_ne.2 hc];rfl
   rw[gC,fL,fL];exact⟨λ⟨x,hx,hh⟩=>⟨x,hx,this x hx▸hh⟩,λ⟨x,hx,hh⟩=>⟨x,hx,(this x hx).symm▸hh⟩⟩
  rw[h2,e1,e2]
 have hl:Fb (iY tk more):=λis is' k h1 h2=>by
  unfold iY;have e1:(tk k).any is=(tk k).any is':=by
   have:∀x∈tk k,is x=is' x:=λx hx=>h1 x (ht k x hx);rw[gC,fL,fL];exact⟨λ⟨x,hx,hh⟩=>⟨x,hx,this x hx▸hh⟩,λ⟨x,hx,hh⟩=>⟨x,hx,(this x hx).symm▸hh⟩⟩
  have e2:(more.any λe=>e.2==k&&is e.1)=more.any λe=>e.2==k&&is' e.1:=by
   have:∀e∈more,(e.2==k&&is e.1)=(e.2==k&&is' e.1):=λe he=>by
    by_cases hc:e.2=k
    .have:=hm e he;rw[h1 e.1 (by omega)]
    .rw[beq_eq_false_iff_ne.2 hc];rfl
   rw[gC,fL,fL];exact⟨λ⟨x,hx,hh⟩=>⟨x,hx,this x hx▸hh⟩,λ⟨x,hx,hh⟩=>⟨x,hx,(this x hx).symm▸hh⟩⟩
  rw[h2,e1,e2]
 have e:rch n tk more a i=iY tk more (λj=>if j<i then rch n tk more a j else j==a) i:=pC hl n hi;rw[e];unfold iY;simp only[Nat.lt_irrefl,if_false,DF,fL,bY,beq_iff_eq,or_assoc];constructor
 .rintro(h|⟨x,hx,h⟩|⟨⟨x,y⟩,he,h1,h2⟩)
  .exact .inl h
  .rw[if_pos (ht i x hx)]at h;exact .inr (.inl ⟨x,hx,h⟩)
  .dsimp only at h1 h2;subst h1;have:=hm _ he;rw[if_pos this]at h2;exact .inr (.inr ⟨x,he,h2⟩)
 .rintro(h|⟨x,hx,h⟩|⟨x,he,h⟩)
  .exact .inl h
  .exact .inr (.inl ⟨x,hx,by rw[if_pos (ht i x hx)];exact h⟩)
  .refine .inr (.inr ⟨(x,i),he,rfl,?_⟩);have:=hm _ he;rw[if_pos this];exact h
theorem JJ{n:Nat}{tk:Nat->List Nat}{more:List (Nat×Nat)}{a i:Nat}(hi:n<=i):rch n tk more a i=(i==a):=sP _ _ (by simp;omega)
def fN (p:Pb):Bool:=((List.range 8).all λi=>decide (0<=p.has i/\p.has i<=100000))&&((List.range 8).all λi=>decide (0<=p.needs i/\p.needs i<=100000))&&decide (short p.nv p.has p.needs=0)
theorem ue{p:Pb}{f:Nat->Nat->Int}(w:Way p.nv p.has p.needs f)(hh:∀i,0<=p.has i/\p.has i<=100000)(hn:∀i,0<=p.needs i/\p.needs i<=100000):fN p=true:=by
 unfold fN;simp only[bY,iw,decide_eq_true_eq];exact⟨⟨λi _=>hh i,λi _=>hn i⟩,DV w (λx=>(hh x).1) λt=>(hn t).1⟩
def kt (p:Pb) (x t:Nat):Pb:=⟨λi=>if i=x then p.has i-1 else p.has i,λk=>if k=t then p.needs k-1 else p.needs k,p.nv⟩
def Aj (a b:Nat->Bool):Nat->Bool:=λi=>a i||b i
def mayGo (n:Nat) (tk:Nat->List Nat) (a:Nat):List Nat->Pb->List (Nat×Nat)->(Nat->Bool)->(Nat->Bool)
 |[],p,more,all=>if fN p then Aj all (rch n tk more a) else all
 |t::ts,p,more,all=>(List.range t).foldl (λall x=>mayGo n tk a ts (kt p x t) (more++[(x,t)]) all) (mayGo n tk a ts p more all)
theorem qN{n:Nat}{tk:Nat->List Nat}{a i:Nat}:∀(ts:List Nat) (p:Pb) (more:List (Nat×Nat)) (all:Nat->Bool),all i=true->mayGo n tk a ts p more all i=true
 |[],p,more,all,h=>by
  unfold mayGo;split
  .simp[Aj,h]
  .exact h
 |t::ts,p,more,all,h=>by
  unfold mayGo;have:∀(l:List Nat) (all:Nat->Bool),all i=true->l.foldl (λall x=>mayGo n tk a ts (kt p x t) (more++[(x,t)]) all) all i=true:=by
   intro l
   induction l with
   |nil=>intro all h;exact h
   |cons x l ih=>intro all h;exact ih _ (qN ts _ _ all h)
  exact this _ _ (qN ts p more all h)
def p4 (c:Nat->Option Nat):List Nat->Pb->Pb
 |[],p=>p
 |t::ts,p=>match c t with|some x=>p4 c ts (kt p x t)|none=>p4 c ts p
def edges (c:Nat->Option Nat):List Nat->List (Nat×Nat)
 |[]=>[]
 |t::ts=>match c t with|some x=>(x,t)::edges c ts|none=>edges c ts
theorem mayGo_hit{n:Nat}{tk:Nat->List Nat}{a i:Nat}{c:Nat->Option Nat}(hc:∀t x,c t=some x->x<t):∀(ts:List Nat) (p:Pb) (more:List (Nat×Nat)) (all:Nat->Bool),
  fN (p4 c ts p)=true->rch n tk (more++edges c ts) a i=true->mayGo n tk a ts p more all i=true
 |[],p,more,all,hw,hr=>by
  unfold mayGo;rw[show fN p=true from hw];simp only[if_true,Aj];rw[show edges c []=[] from rfl,co]at hr
  simp[hr]
 |t::ts,p,more,all,hw,hr=>by
  unfold mayGo;have mono:∀(l:List Nat) (all:Nat->Bool),all i=true->l.foldl (λall x=>mayGo n tk a ts (kt p x t) (more++[(x,t)]) all) all i=true:=by
   intro l
   induction l with
   |nil=>intro all h;exact h
   |cons x l ih=>intro all h;exact ih _ (qN ts _ _ all h)
  unfold p4 at hw;unfold edges at hr
  cases hct:c t with
  |none=>
   rw[hct]at hw hr
   exact mono _ _ (mayGo_hit hc ts p more all hw hr)
  |some x=>
   rw[hct]at hw hr;dsimp only at hw hr;have hx:=hc t x hct;have:∀(l:List Nat) (all:Nat->Bool),x∈l->l.foldl (λall x=>mayGo n tk a ts (kt p x t) (more++[(x,t)]) all) all i=true:=by
    intro l
    induction l with
    |nil=>intro all h;cases h
    |cons z l ih=>
     intro all h;rcases dQ.1 h with rfl|h
     .exact mono l _ (mayGo_hit hc ts (kt p x t) (more++[(x,t)]) all hw (by simpa using hr))
     .exact ih _ h
   exact this _ _ (bX.2 hx)
def lK (tk:Nat->List Nat) (lost clean:Nat->Bool) (a:Nat) (is:Nat->Bool) (i:Nat):Bool:=i==a||(lost i&&!clean i)||(tk i).any is
def jL (n:Nat) (tk:Nat->List Nat) (lost clean:Nat->Bool) (a:Nat):Nat->Bool:=dP (lK tk lost clean a) (List.range n) (λ_=>false)
theorem GA{n:Nat}{tk:Nat->List Nat}{lost clean:Nat->Bool}{a:Nat}(ht:∀i,∀x∈tk i,x<i){i:Nat}(hi:i<n) :
  jL n tk lost clean a i=true↔i=a\/(lost i=true/\clean i=false)\/∃x∈tk i,jL n tk lost clean a x=true:=by
 have hl:Fb (lK tk lost clean a):=λis is' k h1 h2=>by
  unfold lK;have e1:(tk k).any is=(tk k).any is':=by
   have:∀x∈tk k,is x=is' x:=λx hx=>h1 x (ht k x hx);rw[gC,fL,fL];exact⟨λ⟨x,hx,hh⟩=>⟨x,hx,this x hx▸hh⟩,λ⟨x,hx,hh⟩=>⟨x,hx,(this x hx).symm▸hh⟩⟩
  rw[e1]
 have e:jL n tk lost clean a i=lK tk lost clean a (λj=>if j<i then jL n tk lost clean a j else false) i:=pC hl n hi;rw[e];unfold lK;simp only[DF,fL,bY,beq_iff_eq,or_assoc,ud];constructor
 .rintro(h|h|⟨x,hx,h⟩)
  .exact .inl h
  .exact .inr (.inl h)
  .rw[if_pos (ht i x hx)]at h;exact .inr (.inr ⟨x,hx,h⟩)
 .rintro(h|h|⟨x,hx,h⟩)
  .exact .inl h
  .exact .inr (.inl h)
  .exact .inr (.inr ⟨x,hx,by rw[if_pos (ht i x hx)];exact h⟩)
def nZ (n:Nat) (p:Pb) (d:Nat->Bool):Pb:=⟨p.has,p.needs,λk i=>if i<n/\k<i/\d i=false then d k else p.nv k i⟩
def cF:List Nat->Nat->(Nat->Bool)
 |[],_=>λ_=>false
 |t::ts,bits=>ct (cF ts (bits / 2)) t (bits%2==1)
def uZ (a b:Nat->Bool):Bool:=(List.range 8).all λi=>a i==b i
def iB (n:Nat) (tk:Nat->List Nat) (lost:Nat->Bool) (ls:List Nat) (p:Pb) (a:Nat) (all:Nat->Bool) (bits:Nat):Nat->Bool:=
 if uZ (jL n tk lost (cF ls bits) a) all||!fN (nZ n p (jL n tk lost (cF ls bits) a)) then all else
 λi=>all i&&jL n tk lost (cF ls bits) a i
def pq (n:Nat) (tk:Nat->List Nat) (lost:Nat->Bool) (ls:List Nat) (p:Pb) (a:Nat):Nat->Bool:=(List.range (2^ls.length)).foldl (iB n tk lost ls p a) (λi=>decide (i<n))
theorem HV{n:Nat}{tk:Nat->List Nat}{lost:Nat->Bool}{ls:List Nat}{p:Pb}{a g bits:Nat}(hg:g<8)(hb:bits<2^ls.length)(hd:jL n tk lost (cF ls bits) a g=false)(hw:fN (nZ n p (jL n tk lost (cF ls bits) a))=true) :
  pq n tk lost ls p a g=false:=by
 have mono:∀(l:List Nat) (all:Nat->Bool),all g=false->l.foldl (iB n tk lost ls p a) all g=false:=by
  intro l
  induction l with
  |nil=>intro all h;exact h
  |cons x l ih=>
   intro all h;refine ih _ ?_;unfold iB;split
   .exact h
   .simp[h]
 have:∀(l:List Nat) (all:Nat->Bool),bits∈l->l.foldl (iB n tk lost ls p a) all g=false:=by
  intro l
  induction l with
  |nil=>intro all h;cases h
  |cons x l ih=>
   intro all h;rcases dQ.1 h with rfl|h
   .refine mono l _ ?_;unfold iB;rw[hw];split
    .rename_i hs;simp only[Bool.not_true,fM,uZ,iw,bX]at hs;have:=hs g hg;rw[hd]at this;simpa using this.symm
    .simp[hd]
   .exact ih _ h
 exact this _ _ (bX.2 hb)
theorem Fw{n m:Nat}{f:Nat->Int}(h:n<=m)(hz:∀i,n<=i->f i=0):sm m f=sm n f:=by
 induction m with
 |zero=>
  have:n=0:=by omega
  subst this;rfl
 |succ m ih=>
  rcases aw m n with h1|h1
  .have:n=m+1:=by omega
   subst this;rfl
  .simp only[sm];rw[ih h1,hz m h1];omega
structure Truth (n:Nat) (tk:Nat->List Nat) (lost:Nat->Bool) (p:Pb) (f:Nat->Nat->Int):Prop where
 n8:n<=8
 tk:∀i,∀x∈tk i,x<i
 nv:∀x t,p.nv x t=false
 has:∀i,0<=p.has i/\p.has i<=100000
 needs:∀i,0<=p.needs i/\p.needs i<=100000
 lo:∀x t,0<=f x t
 can:∀x t,0<f x t->x<t/\t<n/\lost t=true
 need:∀t,t<8->sm 8 (λx=>f x t)=p.needs t
 give:∀x,x<8->sm 8 (f x)<=p.has x
theorem Truth.way{n:Nat}{tk:Nat->List Nat}{lost:Nat->Bool}{p:Pb}{f:Nat->Nat->Int}(h:Truth n tk lost p f):Way p.nv p.has p.needs f:=
 ⟨h.lo,λx t k=>⟨(h.can x t k).1,h.nv x t⟩,h.need,h.give⟩
def Reached (tk:Nat->List Nat) (f:Nat->Nat->Int) (a:Nat) (R:Nat->Bool) (n:Nat):Prop:=∀i,i<n->(R i=true↔i=a\/(∃x∈tk i,R x=true)\/∃x,0<f x i/\R x=true)
theorem Iq{ls:List Nat}{R:Nat->Bool}:ls.Nodup->∃bits,bits<2^ls.length/\∀t∈ls,cF ls bits t=!R t:=by
 induction ls with
 |nil=>exact λ_=>⟨0,by simp,λt h=>by cases h⟩
 |cons t ls ih=>
  intro hd;obtain⟨hd1,hd2⟩:=qg.1 hd;obtain⟨b,h1,h2⟩:=ih hd2;refine⟨2*b+(if R t then 0 else 1),?_,λu hu=>?_⟩
  .simp only[du,Nat.pow_succ];split<;>omega
  .have e1:(2*b+(if R t then 0 else 1)) / 2=b:=by split<;>omega
   have e2:(2*b+(if R t then 0 else 1))%2=if R t then 0 else 1:=by split<;>omega
   unfold cF;rw[dm,e1,e2];rcases dQ.1 hu with rfl|hu
   .rw[if_pos rfl];cases R u<;>rfl
   .rw[if_neg (show ¬u=t from λe=>hd1 (e▸hu))];exact h2 u hu
theorem Bz{n:Nat}{tk:Nat->List Nat}{lost:Nat->Bool}{p:Pb}{f:Nat->Nat->Int}(h:Truth n tk lost p f){ls:List Nat}(hls:∀t,t<n->lost t=true->t∈ls)(hd:ls.Nodup){a:Nat}{R:Nat->Bool}(hR:Reached tk f a R n)
  {g:Nat} (hg:g<n) (hRg:R g=false):pq n tk lost ls p a g=false:=by
 obtain⟨bits,hb,hcl⟩:=Iq (R:=R) hd;have oJ:∀i,i<n->jL n tk lost (cF ls bits) a i=R i:=by
  intro i
  induction i using Nat.strongRecOn with
  |ind i ih=>
   intro hi;rw[gC,GA h.tk hi];constructor
   .rintro(e|⟨e1,e2⟩|⟨x,hx,e⟩)
    .exact(hR i hi).2 (.inl e)
    .rw[hcl i (hls i hi e1)]at e2;simpa using e2
    .have:=h.tk i x hx;rw[ih x this (by omega)]at e;exact(hR i hi).2 (.inr (.inl ⟨x,hx,e⟩))
   .intro e;rcases(hR i hi).1 e with e1|⟨x,hx,e1⟩|⟨x,hx,e1⟩
    .exact .inl e1
    .have:=h.tk i x hx;exact .inr (.inr ⟨x,hx,by rw[ih x this (by omega)];exact e1⟩)
    .have hl:=(h.can x i hx).2.2;exact .inr (.inl ⟨hl,by rw[hcl i (hls i hi hl),e];rfl⟩)
 have n8:=h.n8;refine HV (by omega) hb (by rw[oJ g hg];exact hRg) (ue (f:=f) ⟨h.lo,λx t k=>⟨(h.can x t k).1,?_⟩,h.need,h.give⟩ h.has h.needs);obtain⟨k1,k2,k3⟩:=h.can x t k;show (if t<n/\x<t/\jL n tk lost (cF ls bits) a t=false then jL n tk lost (cF ls bits) a x else p.nv x t)=false;split
 .rename_i hc;rw[oJ x (by omega)];rw[oJ t k2]at hc
  cases hx:R x with
  |false=>rfl
  |true=>
   have:=(hR t k2).2 (.inr (.inr ⟨x,k,hx⟩));rw[hc.2.2]at this;cases this
 .exact h.nv x t
theorem chosen_way{c:Nat->Option Nat}:∀(ts:List Nat) (p:Pb) (f:Nat->Nat->Int),ts.Nodup->(∀t∈ts,t<8)->(∀t x,c t=some x->x<t)->(∀t∈ts,∀x,c t=some x->0<f x t)->Way p.nv p.has p.needs f->(∀i,0<=p.has i/\p.has i<=100000)->(∀i,0<=p.needs i/\p.needs i<=100000)->fN (p4 c ts p)=true
 |[],p,f,_,_,_,_,w,h1,h2=>ue w h1 h2
 |t::ts,p,f,hd,h8,hc,hf,w,h1,h2=>by
  obtain⟨hd1,hd2⟩:=qg.1 hd;unfold p4;have h8':∀u∈ts,u<8:=λu hu=>h8 u (eU _ hu)
  cases hct:c t with
  |none=>exact chosen_way ts p f hd2 h8' hc (λu hu=>hf u (eU _ hu)) w h1 h2
  |some x=>
   have hx:=hc t x hct;have ht:=h8 t List.mem_cons_self;have hpos:=hf t List.mem_cons_self x hct;have gx:f x t<=sm 8 (f x):=yU (λi _=>w.lo x i) ht;have gt:f x t<=sm 8 (λy=>f y t):=yU (f:=λy=>f y t) (λi _=>w.lo i t) (show x<8 by omega);have wx:=w.has x (by omega);have wt:=w.need t ht;refine chosen_way ts (kt p x t) (λy u=>if y=x/\u=t then f y u-1 else f y u) hd2 h8' hc (λu hu y hy=>?_) ⟨λy u=>?_,λy u k=>?_,λu hu=>?_,λy hy=>?_⟩ (λi=>?_) λi=>?_
   .rw[if_neg]
    .exact hf u (eU _ hu) y hy
    .rintro⟨-,rfl⟩;exact hd1 hu
   .have:=w.lo y u;split
    .rename_i e;obtain⟨rfl,rfl⟩:=e;omega
    .exact this
   .refine w.can y u ?_;split at k<;>omega
   .show _=if u=t then p.needs u-1 else p.needs u
    by_cases e:u=t
    .subst e;rw[sm_upd (f:=λy=>f y u) (k:=x) (by omega) λi _ hi=>by simp[hi],wt];simp;omega
    .rw[sm_congr (g:=λy=>f y u) λi _=>by simp[e],w.need u hu,if_neg e]
   .show _<=if y=x then p.has y-1 else p.has y
    by_cases e:y=x
    .subst e;rw[sm_upd (f:=f y) (k:=t) ht λi _ hi=>by simp[hi]];simp;omega
    .rw[sm_congr (g:=f y) λi _=>by simp[e],if_neg e];exact w.has y hy
   .show 0<=(if i=x then p.has i-1 else p.has i)/\(if i=x then p.has i-1 else p.has i)<=100000;have:=h1 i;split
    .rename_i e;subst e;omega
    .exact this
   .show 0<=(if i=t then p.needs i-1 else p.needs i)/\(if i=t then p.needs i-1 else p.needs i)<=100000;have:=h2 i;split
    .rename_i e;subst e;omega
    .exact this
theorem edges_mem{c:Nat->Option Nat}{t x:Nat}:∀{ts:List Nat},t∈ts->c t=some x->(x,t)∈edges c ts
 |u::ts,h,hc=>by
  unfold edges;rcases dQ.1 h with rfl|h
  .rw[hc];exact List.mem_cons_self
  .have:=edges_mem h hc
   cases c u with
   |none=>exact this
   |some y=>exact eU _ this
theorem edges_lt{c:Nat->Option Nat}(hc:∀t x,c t=some x->x<t):∀(ts:List Nat),∀e∈edges c ts,e.1<e.2
 |[],e,h=>by cases h
 |u::ts,e,h=>by
  unfold edges at h
  cases hu:c u with
  |none=>rw[hu]at h;exact edges_lt hc ts e h
  |some y=>
   rw[hu]at h;rcases dQ.1 h with rfl|h
   .exact hc u y hu
   .exact edges_lt hc ts e h
open Classical in
theorem bad_may{n:Nat}{tk:Nat->List Nat}{lost:Nat->Bool}{p:Pb}{f:Nat->Nat->Int}(h:Truth n tk lost p f){ls:List Nat}(hls:∀t,t<n->lost t=true->t∈ls)(hl8:∀t∈ls,t<8)(hd:ls.Nodup){a:Nat}{R:Nat->Bool}(hR:Reached tk f a R n)
  (hRn:∀i,R i=true->i<n) {i:Nat} (hi:R i=true):mayGo n tk a ls p [] (λ_=>false) i=true:=by
 let c:Nat->Option Nat:=λt=>if k:∃x,0<f x t/\R x=true then some k.choose else none
 have hc:∀t x,c t=some x->0<f x t/\R x=true:=λt x e=>by
  have e':(if k:∃x,0<f x t/\R x=true then some k.choose else none)=some x:=e;split at e'
  .rename_i k;cases e';exact k.choose_spec
  .cases e'
 have hlt:∀t x,c t=some x->x<t:=λt x e=>(h.can x t (hc t x e).1).1;refine mayGo_hit hlt ls p [] _ (chosen_way ls p f hd hl8 hlt (λt _ x e=>(hc t x e).1) h.way h.has h.needs) ?_;rw[ww];have:∀i,R i=true->rch n tk (edges c ls) a i=true:=by
  intro i
  induction i using Nat.strongRecOn with
  |ind i ih=>
   intro hi;have hin:=hRn i hi;rw[rch_iff h.tk (edges_lt hlt ls) hin];rcases(hR i hin).1 hi with e1|⟨x,hx,e1⟩|⟨x,hx,e1⟩
   .exact .inl e1
   .exact .inr (.inl ⟨x,hx,ih x (h.tk i x hx) e1⟩)
   .have k:∃x,0<f x i/\R x=true:=⟨x,hx,e1⟩
    have e:c i=some k.choose:=by
     show (if k:∃x,0<f x i/\R x=true then some k.choose else none)=_;rw[dif_pos k]
    obtain⟨h1,h2⟩:=k.choose_spec;obtain⟨l1,l2,l3⟩:=h.can _ i h1;exact .inr (.inr ⟨k.choose,edges_mem (hls i hin l3) e,ih _ l1 h2⟩)
 exact this i hi
def uh (n:Nat) (tk:Nat->List Nat) (lost:Nat->Bool) (ls:List Nat) (p:Pb) (good:List Nat) (i:Nat):Nat->Bool:=if good.any (pq n tk lost ls p i) then λ_=>false else mayGo n tk i ls p [] (λ_=>false)
def ju (sp:Nat->Nat->Bool) (compl best:List Nat):Bool:=compl.all λc=>best.any λi=>sp i c
def ci (n:Nat) (sp:Nat->Nat->Bool) (compl:List Nat):Nat->Nat->List Nat->Option (List Nat)
 |0,_,best=>if ju sp compl best then some best else none
 |many+1,a,best=>((List.range n).drop a).findSome? λi=>ci n sp compl many (i+1) (best++[i])
def fh (n:Nat) (sp:Nat->Nat->Bool) (compl:List Nat):Option (List Nat):=(List.range (n+1)).findSome? λmany=>ci n sp compl many 0 []
theorem vL{n:Nat}{sp:Nat->Nat->Bool}{compl:List Nat}{a:Nat}(ha:a<n)(h:∀c∈compl,sp a c=true):∃l,fh n sp compl=some l/\l.length<=1/\(l.length=1↔compl≠[]):=by
 by_cases hc:compl=[]
 .subst hc;refine⟨[],?_,by simp,by simp⟩;unfold fh;rw[List.range_succ_eq_map,List.findSome?_cons];rfl
 .have e0:ci n sp compl 0 0 []=none:=by
   unfold ci ju;rw[if_neg];intro e;obtain⟨c,r,rfl⟩:=List.exists_cons_of_ne_nil hc;simp at e
  have e1:∃i,ci n sp compl 1 0 []=some [i]:=by
   unfold ci;simp only[oZ,ww];have hsome:((List.range n).findSome? λi=>ci n sp compl 0 (i+1) [i]).isSome=true:=by
    rw[List.findSome?_isSome_iff];refine⟨a,bX.2 ha,?_⟩;unfold ci ju;rw[if_pos]
    .rfl
    .rw[iw];intro c hcc;simp[h c hcc]
   obtain⟨l,hl⟩:=ec.1 hsome;obtain⟨i,_,hi⟩:=List.exists_of_findSome?_eq_some hl;refine⟨i,hl.trans ?_⟩;unfold ci at hi;split at hi
   .exact hi.symm
   .cases hi
  obtain⟨i,e1⟩:=e1;refine⟨[i],?_,by simp,by simp[hc]⟩;unfold fh;obtain⟨m,rfl⟩:∃m,n=m+1:=⟨n-1,by omega⟩
  rw[List.range_succ_eq_map,List.findSome?_cons,e0,List.range_succ_eq_map];simp only[iu,List.findSome?_cons];rw[show Nat.succ 0=1 from rfl,e1]
theorem B0{n:Nat}{tk:Nat->List Nat}{lost:Nat->Bool}{p:Pb}{y:Nat->Int}(n8:n<=8)(htk:∀i,∀x∈tk i,x<i)(hy:∀i,0<=y i)(hh:Hall n p)(hnv:∀x t,p.nv x t=false)(hhas:∀i,p.has i<=100000)(hneeds:∀i,p.needs i<=100000)
  (h0:∀k,n<=k->p.needs k=0) (hl:∀k,k<n->lost k=false->p.needs k=0):Truth n tk lost p (l8 n y lost p).f:=by
 obtain⟨f1,f2,f3,f4⟩:=Ie (has:=p.has) (needs:=p.needs) hy (lost:=lost) hh (λ_ _=>rfl) (λ_ _=>rfl) hl;generalize (l8 n y lost p).f=f at *
 have zr:∀x t,n<=x->f x t=0:=λx t hx=>by
  have:=f1 x t;have:¬0<f x t:=λh=>by have:=f2 x t h;omega
  omega
 have zc:∀x t,n<=t->f x t=0:=λx t ht=>by
  have:=f1 x t;have:¬0<f x t:=λh=>by have:=f2 x t h;omega
  omega
 refine⟨n8,htk,hnv,λi=>⟨hh.has i,hhas i⟩,λi=>⟨hh.needs i,hneeds i⟩,f1,λx t h=>?_,λt ht=>?_,λx hx=>?_⟩
 .obtain⟨h1,h2⟩:=f2 x t h;refine⟨h1,h2,?_⟩
  cases hc:lost t with
  |true=>rfl
  |false=>
   have e:=f3 t h2;rw[hl t h2 hc]at e;have:=yU (f:=λi=>f i t) (λi _=>f1 i t) (show x<n by omega);omega
 .rw[Fw n8 λi hi=>zr i t hi];rcases aw t n with h|h
  .exact f3 t h
  .rw[h0 t h];exact sm_zero λi _=>zc i t h
 .rw[Fw n8 λi hi=>zc x i hi];rcases aw x n with h|h
  .exact f4 x h
  .rw[sm_zero λi _=>zr x i h];exact hh.has x
theorem Cz{n:Nat}{tk:Nat->List Nat}{lost:Nat->Bool}{p:Pb}{f:Nat->Nat->Int}(h:Truth n tk lost p f){a:Nat}(ha:a<n){R:Nat->Bool}(hR:Reached tk f a R n)(hRn:∀i,R i=true->i<n)(bends:Bool)
  {ls:List Nat} (hls:ls=(List.range n).filter lost) :
  ∃l,fh n (uh n tk lost ls p ((List.range n).filter λi=>!(R i&&bends))) ((List.range n).filter λi=>R i&&bends)=some l/\l.length<=1/\(l.length=1↔(List.range n).filter (λi=>R i&&bends)≠[]):=by
 have hmem:∀t,t<n->lost t=true->t∈ls:=λt h1 h2=>by rw[hls];exact List.mem_filter.2 ⟨bX.2 h1,h2⟩
 have hd:ls.Nodup:=by rw[hls];exact List.nodup_range.filter _
 have h8:∀t∈ls,t<8:=λt ht=>by
  rw[hls]at ht;have:=bX.1 (List.mem_filter.1 ht).1;have:=h.n8;omega
 cases bends with
 |false=>
  obtain⟨l,h1,h2,h3⟩:=vL (sp:=uh n tk lost ls p ((List.range n).filter λi=>!(R i&&false))) (compl:=(List.range n).filter λi=>R i&&false) ha λc hc=>by
   have:=(List.mem_filter.1 hc).2;simp at this
  exact⟨l,h1,h2,h3⟩
 |true=>
  refine vL ha λc hc=>?_;have hRc:R c=true:=by simpa using(List.mem_filter.1 hc).2
  unfold uh;rw[if_neg]
  .exact bad_may h hmem h8 hd hR hRn hRc
  .intro hany;obtain⟨g,hg,hm⟩:=fL.1 hany;obtain⟨h1,h2⟩:=List.mem_filter.1 hg;rw[Bz h hmem hd hR (bX.1 h1) (by simpa using h2)]at hm;cases hm
def needing (n:Nat) (p:Pb):List Nat:=(List.range n).filter λk=>decide (0<p.needs k)
def bitD (s k:Nat):Bool:=s / 2^k%2==1
theorem bitD_eq(s k:Nat):bitD s k=s.testBit k:=by
 unfold bitD;rw[Nat.testBit_eq_decide_div_mod_eq,gC];simp
def sNeed (p:Pb) (l:List Nat) (s:Nat):Int:=sm l.length λk=>if bitD s k then p.needs (l.getD k 0) else 0
def sSome (p:Pb) (l:List Nat) (s i:Nat):Bool:=(List.range l.length).any λk=>bitD s k&&(decide (i<l.getD k 0)&&!p.nv i (l.getD k 0))
def sHas (n:Nat) (p:Pb) (l:List Nat) (s:Nat):Int:=sm n λi=>if sSome p l s i then p.has i else 0
def solves (n:Nat) (p:Pb):Bool:=
 ((List.range n).all λi=>decide (0<=p.has i)&&decide (0<=p.needs i))&&(List.range (2^(needing n p).length)).all λs=>decide (sNeed p (needing n p) s<=sHas n p (needing n p) s)
theorem sm_filter{q:Nat->Bool}{g:Nat->Int}:∀n,(∀k,k<n->q k=false->g k=0)->sm n g=sm ((List.range n).filter q).length λj=>g (((List.range n).filter q).getD j 0)
 |0,_=>rfl
 |n+1,h=>by
  have ih:=sm_filter (q:=q) (g:=g) n λk hk=>h k (by omega);rw[List.range_succ,zx];simp only[sm]
  cases hq:q n with
  |false=>
   have:List.filter q [n]=[]:=by simp[hq]
   rw[this,co,h n (by omega) hq,ih];omega
  |true=>
   have:List.filter q [n]=[n]:=by simp[hq]
   rw[this,ay,aC];simp only[sm];rw[ih]
   congr 1
   .refine sm_congr λj hj=>?_;simp[bB,br hj]
   .simp[bB]
theorem needing_at{n:Nat}{p:Pb}{k:Nat}(h:k<(needing n p).length):(needing n p).getD k 0<n/\0<p.needs ((needing n p).getD k 0):=by
 have hm:(needing n p).getD k 0∈needing n p:=by
  rw[bB,aT h];exact nk h
 obtain⟨h1,h2⟩:=List.mem_filter.1 hm;exact⟨bX.1 h1,by simpa using h2⟩
open Classical in
theorem hall_of_solves{n:Nat}{p:Pb}(h:solves n p=true)(hz:∀i,n<=i->p.has i=0/\p.needs i=0):Hall n p:=by
 unfold solves at h;simp only[bY,iw,bX,decide_eq_true_eq]at h;obtain⟨h1,h2⟩:=h;have hn:∀k,0<=p.needs k:=λk=>by
  rcases aw k n with h|h
  .exact(h1 k h).2
  .rw[(hz k h).2];omega
 refine⟨λi=>?_,hn,λS=>?_⟩
 .rcases aw i n with h|h
  .exact(h1 i h).1
  .rw[(hz i h).1];omega
 .obtain⟨s,s1,s2⟩:=mask_of (λk=>S ((needing n p).getD k 0)) (needing n p).length;have hb:∀k,k<(needing n p).length->(bitD s k=true↔S ((needing n p).getD k 0)):=λk hk=>by rw[bitD_eq];exact s2 k hk
  have e1:nd n p S=sNeed p (needing n p) s:=by
   unfold nd;rw[sm_filter (q:=λk=>decide (0<p.needs k)) n λk _ hq=>by
    have:=hn k;simp at hq;have:p.needs k=0:=by omega
    simp[this]]
   refine sm_congr λk hk=>?_;by_cases hS:S ((needing n p).getD k 0)
   .rw[if_pos ((hb k hk).2 hS)];exact if_pos hS
   .rw[if_neg λe=>hS ((hb k hk).1 e)];exact if_neg hS
  have e2:sHas n p (needing n p) s<=nb n p noEx S:=sm_le λi hi=>by
   have hpos:=(h1 i hi).1;by_cases hq:sSome p (needing n p) s i=true
   .have hA:adj n p noEx S i:=by
     obtain⟨k,hk,hkk⟩:=fL.1 hq;rw[bX]at hk;simp only[bY,decide_eq_true_eq,ud]at hkk;obtain⟨k1,k2,k3⟩:=hkk;obtain⟨n1,n2⟩:=needing_at hk;exact⟨_,n1,(hb k hk).1 k1,n2,k2,k3,id⟩
    rw[if_pos hq,if_pos hA];exact dF _
   .rw[if_neg hq];split<;>omega
  have:=h2 s s1;omega
def kP (l:List TrTake) (s:Int):Int:=l.foldl (λs t=>IntKind.i64.wrap (s+t.grams)) s
def unsorted:List TrTake->Bool
 |[]=>false
 |[_]=>false
 |a::b::l=>decide (b.src<=a.src)||unsorted (b::l)
def bo (b:List TrBatch) (i:Nat) (x:TrBatch):Int:=
 if fw ((b.take i).map (·.name)) x.name=0 then
  (if an x.grams 1 100000=true/\an x.fresh 0 x.grams=true then
   (if x.lost=true/\x.takes≠[] then 6 else
    if(x.takes.any λt=>!an t.src 0 ((i:Int)-1))=true then 4 else
    if unsorted x.takes=true then 5 else
    if(x.takes.any λt=>!an t.grams 1 100000)=true then 7 else
    if x.lost=false/\kP x.takes x.fresh≠x.grams then 2 else 0)
  else 7)
 else fw ((b.take i).map (·.name)) x.name
def cC:List TrTake->Nat->Int
 |[],_=>0
 |t::l,i=>(if t.src=i then t.grams else 0)+cC l i
def dj (b:List TrBatch) (i:Nat):TrBatch:=b.getD i ⟨.empty,0,0,false,[]⟩
def kept (b:List TrBatch) (i:Nat):Int:=(if i<b.length then(dj b i).grams else 0)-sm b.length λj=>cC (dj b j).takes i
def ba (b:List TrBatch) (i:Nat):Bool:=(dj b i).lost
def bF (b:List TrBatch) (i:Nat):Int:=if ba b i=true then(dj b i).grams-(dj b i).fresh else 0
def losts (b:List TrBatch):List Nat:=(List.range b.length).filter (ba b)
def supp (b:List TrBatch):Pb:=⟨kept b,bF b,λ_ _=>false⟩
def tk (b:List TrBatch) (i:Nat):List Nat:=(dj b i).takes.map λt=>t.src.toNat
def jG (b:List TrBatch):List Nat->Option Nat
 |[]=>none
 |i::l=>if kept b i<0 then some i else jG b l
def bM (b:List TrBatch):Int×Int×Int:=
 if an b.length 1 8=true then
  (if(bc (bo b) b 0).2=0 then
   (if 3<(losts b).length then(3,0,3) else
    match jG b (List.range b.length) with
    |some i=>(4,(i:Int),7)
    |none=>if solves b.length (supp b)=true then(0,0,0) else(5,0,9))
  else(2,(bc (bo b) b 0).1,(bc (bo b) b 0).2))
 else(1,0,3)
structure BatOk (i:Nat) (x:TrBatch):Prop where
 grams:1<=x.grams/\x.grams<=100000
 fresh:0<=x.fresh/\x.fresh<=x.grams
 lost:x.lost=true->x.takes=[]
 src:∀t,t∈x.takes->0<=t.src/\t.src<i
 sorted:unsorted x.takes=false
 take:∀t,t∈x.takes->1<=t.grams/\t.grams<=100000
structure BookOk (b:List TrBatch):Prop where
 len:1<=b.length/\b.length<=8
 bat:∀(i:Nat) (x:TrBatch),b[i]?=some x->BatOk i x
 lost:(losts b).length<=3
 kept:∀i,i<b.length->0<=Tr.kept b i
 solves:solves b.length (supp b)=true
theorem By{b:List TrBatch}{i:Nat}{x:TrBatch}(h:bo b i x=0):BatOk i x:=by
 unfold bo at h;split at h
 .split at h
  .rename_i hg;unfold an at hg;simp only[bY,decide_eq_true_eq]at hg;split at h
   .cases h
   .rename_i hl;split at h
    .cases h
    .rename_i hs;split at h
     .cases h
     .rename_i hu;split at h
      .cases h
      .rename_i ht;refine⟨hg.1,hg.2,λhlost=>?_,λt hm=>?_,by simpa using hu,λt hm=>?_⟩
       .cases hx:x.takes with
        |nil=>rfl
        |cons _ _=>exact absurd ⟨hlost,by rw[hx];simp⟩ hl
       .have:=λe=>hs (fL.2 ⟨t,hm,e⟩);simp[an]at this;omega
       .have:=λe=>ht (fL.2 ⟨t,hm,e⟩);simp[an]at this;omega
  .cases h
 .rename_i hn;exact absurd h hn
theorem sw{b:List TrBatch}:∀{l:List Nat},jG b l=none->∀i∈l,0<=kept b i
 |[],_,i,h=>by cases h
 |j::l,h,i,hi=>by
  unfold jG at h;split at h
  .cases h
  .rename_i hk;rcases dQ.1 hi with rfl|hi
   .omega
   .exact sw h i hi
theorem gW{b:List TrBatch}(h:(bM b).2.2=0):BookOk b:=by
 unfold bM at h;split at h
 .rename_i hl;split at h
  .rename_i hb;split at h
   .cases h
   .rename_i h3;split at h
    .cases h
    .rename_i hk;split at h
     .rename_i hs;unfold an at hl;simp only[bY,decide_eq_true_eq]at hl;exact⟨by omega,λi x hx=>By (by simpa using nV hb i x hx),by omega,λi hi=>sw hk i (bX.2 hi),hs⟩
     .cases h
  .rename_i hb;exact absurd h hb
 .cases h
theorem cS{b:List TrBatch}{i:Nat}{x:TrBatch}(h:b[i]?=some x):dj b i=x:=by
 unfold dj;rw[bB,h];rfl
theorem xl{b:List TrBatch}{i:Nat}(h:b.length<=i):dj b i=⟨.empty,0,0,false,[]⟩:=by
 unfold dj;rw[bB,fq h];rfl
theorem p8{b:List TrBatch}(h:BookOk b){i:Nat}(hi:i<b.length):BatOk i (dj b i):=
 h.bat i _ (by rw[cS (aT hi)];exact aT hi)
theorem xA{i:Nat}:∀{l:List TrTake},(∀t,t∈l->1<=t.grams)->0<=cC l i
 |[],_=>dF _
 |t::l,h=>by
  unfold cC;have h1:=h t List.mem_cons_self;have h2:=xA (i:=i) (l:=l) λu hu=>h u (eU _ hu);split<;>omega
theorem xC{i:Nat}:∀{l:List TrTake},(∀t,t∈l->t.src<i)->cC l i=0
 |[],_=>rfl
 |t::l,h=>by
  unfold cC;have h1:=h t List.mem_cons_self;rw[xC λu hu=>h u (eU _ hu),if_neg (by omega)];rfl
theorem m8{b:List TrBatch}(h:BookOk b)(i:Nat):kept b i<=100000:=by
 unfold kept;have:0<=sm b.length λj=>cC (dj b j).takes i:=mi λj hj=>xA λt ht=>((p8 h hj).take t ht).1;split
 .rename_i hi;have:=(p8 h hi).grams;omega
 .omega
theorem qU{b:List TrBatch}(h:BookOk b){i:Nat}(hi:b.length<=i):kept b i=0:=by
 unfold kept;rw[if_neg (by omega),sm_zero λj hj=>xC λt ht=>by have:=((p8 h hj).src t ht).2;omega];rfl
theorem kq{b:List TrBatch}{i:Nat}(hi:b.length<=i):bF b i=0:=by
 unfold bF ba;rw[xl hi];rfl
theorem jD{b:List TrBatch}(h:BookOk b)(i:Nat):0<=bF b i/\bF b i<=100000:=by
 rcases aw i b.length with hi|hi
 .have h1:=(p8 h hi).grams;have h2:=(p8 h hi).fresh;unfold bF;split<;>omega
 .rw[kq hi];omega
theorem pS{b:List TrBatch}(h:BookOk b)(i:Nat):0<=kept b i:=by
 rcases aw i b.length with hi|hi
 .exact h.kept i hi
 .rw[qU h hi];exact dF _
theorem I8{b:List TrBatch}(h:BookOk b)(i:Nat):∀x∈tk b i,x<i:=λx hx=>by
 obtain⟨t,ht,rfl⟩:=eK.1 hx;rcases aw i b.length with hi|hi
 .have:=(p8 h hi).src t ht;omega
 .rw[xl hi]at ht;cases ht
theorem x9{b:List TrBatch}(h:BookOk b):Hall b.length (supp b):=hall_of_solves h.solves λi hi=>⟨qU h hi,kq hi⟩
theorem mW{b:List TrBatch}(h:BookOk b){y:Nat->Int}(hy:∀i,0<=y i):Truth b.length (tk b) (ba b) (supp b) (l8 b.length y (ba b) (supp b)).f:=
 B0 h.len.2 (I8 h) hy (x9 h) (λ_ _=>rfl) (m8 h) (λi=>(jD h i).2) (λk hk=>kq hk) λk _ hl=>by
  show bF b k=0;unfold bF;rw[hl];rfl
end Tr
end Abs
end Go.Proofs.YtmndpldajflenaaGreatDoor
