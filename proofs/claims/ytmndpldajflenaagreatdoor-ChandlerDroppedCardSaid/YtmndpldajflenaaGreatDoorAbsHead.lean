/- LAWS: a round of a loop over a function, out of what its code comes to.
  LAWS: heads of l -/
import Derived.Test.YtmndpldajflenaaGreatDoorAbsFrzX
set_option linter.all false
namespace Go.Proofs.YtmndpldajflenaaGreatDoor
namespace Abs
variable {P:Program} {M0:Nat->Prop}
theorem ww{n}{R:Value->AV->Prop}:∀(ps) (j) (xs) (T:Array Value) (F),T.size=n->(∀p,p∈ps->p<n)->j.length=xs.length ->
  (∀(i) (x),xs[i]?=some x->R (j.getD i undef) x)->(∀t,R (T.getD t undef) (F t)) ->
  ((ps.zip j).foldl (λT (x)=>T.setIfInBounds x.1 x.2) T).size=n/\∀t,R (((ps.zip j).foldl (λT (x)=>T.setIfInBounds x.1 x.2) T).getD t undef) (gu F ps xs t)
 |[],_,_,T,F,e,_,_,_,l=>⟨e,l⟩
 |p::ps,[],xs,T,F,e,_,o,_,l=>by
  have:xs=[]:=by cases xs<;>simp_all
  subst this
  exact⟨e,l⟩
 |p::ps,a::j,[],T,F,e,_,o,_,l=>by simp at o
 |p::ps,a::j,x::xs,T,F,e,z,o,hx,l=>by
  have v:p<n:=z p (by simp);refine ww ps j xs (T.setIfInBounds p a) (uf F p x) (by simpa using e) (λq C=>z q (by simp[C])) (by simpa using o) (λi y A=>by simpa using hx (i+1) y (by simpa using A)) λt=>?_;rw[Dg];by_cases u:t=p
  .subst u;have D:=hx 0 x rfl;simpa[e,v]using D
  .rw[if_neg u];have:=l t;simpa[Rx (Ne.symm u)]using this
theorem Mp(ps:Array Tmp)(a)(T:Array Value):(ps.zip a).foldl (λtmps (x)=>tmps.setIfInBounds x.1 x.2) T=(ps.toList.zip a.toList).foldl (λT (x)=>T.setIfInBounds x.1 x.2) T:=by
 rw[<-JO];simp
theorem pO(hD:dI P){H}{l n}{tmps}{ps}{assign body}{args}{h}{R}
  (ho:h[l]?=some (.loop n tmps ps assign body .ready none)) (hps:nL n ps=true) (hlen:ps.size=args.length) (hoka:cZ H n assign=true) (hokb:cZ H n body=true)
  (hw:wp P H assign (HF n tmps ps assign body l h.length (λA=>wp P H body (rV n tmps ps assign body l h.length R) A)) { n:=n,bs:=h.length,rc:=.rnd,tmps:=gu tmps ps.toList args,h:=h,df:=[] }) :
  rT P l args h R:=by
 refine⟨⟨_,ho,rfl⟩,λM0 m w cargs bl hS ha hbl=>?_⟩;obtain⟨bl',r,hbl',hrb,hrn,hrt,hrp,hra,hrbd,hrst,hrpd,hrf⟩:=hS.obj l _ ho;have:bl'=bl:=by
  have e:m.getD l none=some bl':=hbl';rw[hbl]at e;cases e;rfl
 subst this;have hrb':w.heap[bl']?=some (.loop r):=hrb;have hsz:cargs.size=r.params.size:=by rw[ha.1,hrp,hlen]
 refine⟨r.fn,_,assign,body,by rw[run_yield hrb' hsz,hra,hrbd],λc cs=>?_⟩;have hfold:=ww (n:=n) (R:=Rep M0 ⟨m,h,w⟩) ps.toList cargs.toList args r.tmps tmps hrn (λp hp=>by
   simp only[nL,kC,decide_eq_true_eq]at hps
   exact hps p hp) (by simpa using ha.1) (λi x hx=>by simpa using ha.2 i x hx) hrt
 obtain⟨T,hTdef⟩:∃T,T=(r.params.zip cargs).foldl (λtmps (x:Tmp×Value)=>tmps.setIfInBounds x.1 x.2) r.tmps:=⟨_,rfl⟩
 have hT2:T=(ps.toList.zip cargs.toList).foldl (λT (x:Tmp×Value)=>T.setIfInBounds x.1 x.2) r.tmps:=by rw[hTdef,Mp,hrp]
 rw[<-hT2]at hfold;rw[<-hTdef];have hround:Frame.round bl' r.fn T assign body .normal=({ (default:Frame) with fn:=r.fn,kind:=.normal,roundOf:=some bl' }).atR { tmps:=T,defers:=[] } [.code assign,.beginRound,.code body]:=rfl;rw[hround];obtain⟨b,hb⟩:∃b:Frame,b={ (default:Frame) with fn:=r.fn,kind:=.normal,roundOf:=some bl' }:=⟨_,rfl⟩
 have hbr:b.roundOf=some bl':=by rw[hb]
 have hbk:b.kind=.normal:=by rw[hb]
 rw[<-hb]
 have hr0:Rel P M0 ⟨m,h,w⟩ b (c::cs) m { n:=n,bs:=h.length,rc:=.rnd,tmps:=gu tmps ps.toList args,h:=h,df:=[] } { tmps:=T,defers:=[] } w:=
  {size:=hfold.1,tmps:=hfold.2,hok:=hS,ev:=Ev.refl _ _,le:=⟨ba _,by rw[hb];exact hrf⟩,df:=trivial,rc:=⟨by rw[hbr];rfl,hbk⟩ }
 obtain⟨e,A1,m1,a1,w1,hq,hn1,hr1,harr⟩:=xX hD assign (k:=[.beginRound,.code body]) hoka hr0 rfl hw
 cases e with
 |exit id=>exact hq.elim
 |ret=>exact hq.elim
 |panic v=>exact hq.elim
 |normal=>
  obtain⟨hbs1,hob1,hK⟩:=hq;have hlt:l<h.length:=(aB.1 ho).1;have block:∀{m':List (Option Nat)} {h':Heap} {w':World} {x:AObj},Ev h.length ⟨m,h,w⟩ ⟨m',h',w'⟩->h'[l]?=some x->x.tag=some .yl->m'.getD l none=some bl':=by
   intro m' h' w' x hev hx htag;obtain⟨o',ho',hoe⟩:=hev.obj l _ hlt ho;have:o'=x:=by
    have e:h'[l]?=some o':=ho';rw[hx]at e;cases e;rfl
   subst this;rcases hoe with he|⟨_,_,_,he,_⟩|⟨_,_,he⟩
   .rw[he]at htag;cases htag
   .cases he
   .exact he.trans hbl
  have bs_of:∀{m':List (Option Nat)} {A':AAct} {a':Act} {w':World},Rel P M0 ⟨m,h,w⟩ b (c::cs) m' A' a' w'->A'.bs=h.length->Ev h.length ⟨m,h,w⟩ ⟨m',A'.h,w'⟩:=by
   intro m' A' a' w' hr hbs;have:=hr.ev;rwa [hbs]at this
  have hB:wp P H body (rV n tmps ps assign body l h.length R) { A1 with h:=A1.h.set l (.loop n tmps ps assign body .busy none) }:=hK;have hm1:=block (bs_of hr1 hbs1) hob1 rfl;obtain⟨bl1,r1,e1,hr1b,hr1n,hr1t,hr1p,hr1a,hr1bd,hr1s,hr1pd,hr1f⟩:=hr1.hok.obj l _ hob1;have:bl1=bl':=by
   have e:m1.getD l none=some bl1:=e1;rw[hm1]at e;cases e;rfl
  subst this;have hr1b':w1.heap[bl1]?=some (.loop r1):=hr1b;have hbegin:=run_beginRound (P:=P) hr1b' hr1s
  obtain⟨hk2,hev2⟩:=jx (S:=⟨m1,A1.h,w1⟩) hr1.hok (o:=.loop n tmps ps assign body .busy none) (ob:=.loop { r1 with state:=.busy }) hm1 hob1 hr1b (tg hr1b) (by intro C T f;simp)
   (.inr (.inr ⟨by simp[AObj.tag],rfl,rfl⟩)) (λhev hx=>⟨bl1,{ r1 with state:=.busy },rfl,hx,hr1n,λt=>hev.keep (hr1t t),hr1p,hr1a,hr1bd,rfl,hr1pd,hr1f⟩)
  have hr2:=hr1.ahead hev2 hk2;obtain⟨e,A3,m3,a3,w3,hq3,hn3,hr3,harr3⟩:=xX hD body (k:=[]) hokb hr2 (show A1.n=n from hn1) hB;have hrc1:bu A1.rc (c::cs)=c::cs:=by
   have:=hr1.rc
   cases hc:A1.rc with
   |got v=>rw[hc]at this;exact absurd this.1 (by rw[hbr];simp)
   |_=>rfl
  have hrc3:bu A3.rc (c::cs)=c::cs:=by
   have:=hr3.rc
   cases hc:A3.rc with
   |got v=>rw[hc]at this;exact absurd this.1 (by rw[hbr];simp)
   |_=>rfl
  have hcs0:bu Rc.rnd (c::cs)=c::cs:=rfl;have hstart:Steps P (lone (b.atR { tmps:=T,defers:=[] } [.code assign,.beginRound,.code body]) (c::cs) w) (lone (b.atR a1 [.code body]) (c::cs) (w1.putObj bl1 (.loop { r1 with state:=.busy }))):=by
   have h1:Steps P (lone (b.atR { tmps:=T,defers:=[] } [.code assign,.beginRound,.code body]) (bu Rc.rnd (c::cs)) w) (lone (b.atR a1 [.beginRound,.code body]) (bu A1.rc (c::cs)) w1):=harr;rw[hrc1]at h1;exact Steps.trans h1 (.one (stepR_beginRound hbr hbegin))
  have fin:∀(jump:Option Code) (st:LoopState) (t:Bool),(if jump.isNone then LoopState.ready else .done)=st->jump.isNone=t->A3.bs=h.length->(∃st pend,A3.h[l]?=some (.loop n tmps ps assign body st pend)) ->
    R (.ret (.p (.bool t))) (A3.h.set l (.loop n tmps ps assign body st jump)) ->
    (∀v w',(Instr.endRound bl1 jump).run P w3=.ok v w'->Steps P (lone (b.atR a1 [.code body]) (c::cs) (w1.putObj bl1 (.loop { r1 with state:=.busy }))) (lone (c.finish v) cs w')) ->
    ∃e w',qY P M0 ⟨m,h,w⟩ R e w'/\match e with
     |.returned v=>Steps P (lone (b.atR { tmps:=T,defers:=[] } [.code assign,.beginRound,.code body]) (c::cs) w) (lone (c.finish v) cs w')
     |.panicked ch=>Steps P (lone (b.atR { tmps:=T,defers:=[] } [.code assign,.beginRound,.code body]) (c::cs) w) (lone (c.raise ch) cs w')
     |.outgrown=>False:=by
   intro jump st t hst ht hbs3 ⟨st3,pend3,hob3⟩ hR hsteps;have hm3:=block (bs_of hr3 hbs3) hob3 rfl;obtain⟨bl3,r3,e3,hr3b,hr3n,hr3t,hr3p,hr3a,hr3bd,hr3s,hr3pd,hr3f⟩:=hr3.hok.obj l _ hob3;have:bl3=bl1:=by
    have e:m3.getD l none=some bl3:=e3;rw[hm3]at e;cases e;rfl
   subst this;have hr3b':w3.heap[bl3]?=some (.loop r3):=hr3b;have hend:=run_endRound (P:=P) jump hr3b';rw[hst,ht]at hend
   obtain⟨hk4,hev4⟩:=jx (S:=⟨m3,A3.h,w3⟩) hr3.hok (o:=.loop n tmps ps assign body st jump) (ob:=.loop { r3 with state:=st,pending:=jump }) hm3 hob3 hr3b (tg hr3b) (by intro C T f;simp)
    (.inr (.inr ⟨by simp[AObj.tag],rfl,rfl⟩)) (λhev hx=>⟨bl3,{ r3 with state:=st,pending:=jump },rfl,hx,hr3n,λt=>hev.keep (hr3t t),hr3p,hr3a,hr3bd,rfl,rfl,hr3f⟩)
   refine⟨.returned (.bool t),_,⟨.ret (.p (.bool t)),_,m3,hR,(bs_of hr3 hbs3).trans (hev4.mono (by
     have:=(bs_of hr3 hbs3).len (ba _)
     exact this)),hk4,RepP.bool t⟩,Steps.trans hstart (hsteps _ _ hend)⟩
  have harr3':t8 P (Avoid M0 m3) (lone (b.atR a1 [.code body]) (c::cs) (w1.putObj bl1 (.loop { r1 with state:=.busy }))) b [] (c::cs) a3 w3 e:=by
   have h1:t8 P (Avoid M0 m3) (lone (b.atR a1 [.code body]) (bu A1.rc (c::cs)) (w1.putObj bl1 (.loop { r1 with state:=.busy }))) b [] (bu A3.rc (c::cs)) a3 w3 e:=harr3;rwa [hrc1,hrc3]at h1
  cases e with
  |panic v=>
   obtain⟨hbs3,hdf3,hR3⟩:=hq3;obtain⟨v',t,hv',hs3⟩:=harr3';have hd3:a3.defers=[]:=by
    have:=hr3.df;rw[hdf3]at this
    cases hd:a3.defers with
    |nil=>rfl
    |cons d ds=>rw[hd]at this;exact this.elim
   refine⟨.panicked [{ v:=v',recovered:=false }],w3,⟨.panic v,A3.h,m3,hR3,bs_of hr3 hbs3,hr3.hok,v',rfl,hv'⟩,Steps.trans hstart (Steps.trans hs3 (.one (step_leave_panicked ⟨rfl,hd3,?_⟩)))⟩
   exact hr3.le.2
  |normal=>exact fin none .ready true rfl rfl hq3.1 hq3.2.1 hq3.2.2 λv w' hend=>Steps.trans harr3' (.one (stepR_round_end hbr hbk hend))
  |ret=>exact fin (some .ret) .done false rfl rfl hq3.1 hq3.2.1 hq3.2.2 λv w' hend=>(by
         obtain⟨k₁,hs⟩:=harr3'
         exact Steps.trans hs (.one (stepR_round_ret hbr hbk hend)))
  |exit id=>exact fin (some (.exit id)) .done false rfl rfl hq3.1 hq3.2.1 hq3.2.2 λv w' hend=>(by
         obtain⟨k₁,hx,hs⟩:=harr3'.2 rfl
         exact Steps.trans hs (.one (stepR_round_exit hbr hbk hx hend)))
end Abs
end Go.Proofs.YtmndpldajflenaaGreatDoor
namespace Go.Proofs.YtmndpldajflenaaGreatDoor
namespace Abs
variable {P:Program} {H:Hints} {Q:Cont}
def bU (T:Nat->AV):List Nat->List (Nat×AV)->List (Nat×AV)
 |[],l=>l
 |t::r,l=>(t,T t)::bU T r l
theorem KW(T)(l):bU T [] l=l:=rfl
theorem yJ(T)(t)(r)(l):bU T (t::r) l=(t,T t)::bU T r l:=rfl
def fW (A:AAct) (live:List Nat) (l:List (Nat×AV)) (h:Heap):AAct:={ A with tmps:=cN (bU A.tmps live l),h:=h }
def mZ (bs:Nat) (df:List ADef) (T:Nat->AV) (h0:Heap) (l:List (Nat×AV)) (h:Heap):Prop:=
 bs<=h.length/\h0.take h.length=h/\(∀p,p∈l->T p.1=p.2/\below h.length p.2)/\(∀o,o∈h->aX h.length o)/\∀x,x∈df->qG h.length x
theorem sP{A B}{live}{l}{h}(C:B.n=A.n)(q:B.bs=A.bs)(z:B.rc=A.rc)(j:B.df=A.df)
  (E:mZ A.bs A.df B.tmps B.h (bU A.tmps live l) h):fS P B (fW A live l h):=by
 obtain⟨J,v,I,G,F⟩:=E;have a:h.length<=B.h.length:=by
  have:(B.h.take h.length).length=h.length:=by rw[v]
  simp only[CL]at this;omega
 have e:fW A live l h={ B with tmps:=cN (bU A.tmps live l),h:=B.h.take h.length }:=by
  unfold fW;rw[v];cases A;cases B;simp only at C q z j;subst C q z j;rfl
 rw[e];refine Mt h.length (by rw[q];exact J) a (λt=>?_) (λid o y D=>?_) (by rw[j];exact F)
 .rcases xn (bU A.tmps live l) t with u|u
  .exact .inr u
  .have:=I _ u;exact .inl ⟨this.1.symm,by rw[this.1];exact this.2⟩
 .refine G o ?_;rw[<-v];exact aG (i:=id) (by rw[kB,if_pos y];exact D)
theorem gL{σ}{x}{A}(live)(V)(μ)(M:σ->List (Nat×AV))(e:σ->Heap)(a)(i:V a)
  (l:mZ A.bs A.df A.tmps A.h (bU A.tmps live (M a)) (e a))
  (j:∀s,V s->@W ⟨P,H,x,eH (g8 P V (λs=>fW A live (M s) (e s)) μ s) Q⟩ { n:=A.n,bs:=A.bs,rc:=A.rc,tmps:=cN (bU A.tmps live (M s)),h:=e s,df:=A.df }) :
  @W ⟨P,H,.loop x,Q⟩ A:=
 L8 V (λs=>fW A live (M s) (e s)) μ a i (sP rfl rfl rfl rfl l) j
theorem AU{σ}{x}{A}(live)(V)(μ)(M:σ->List (Nat×AV))(a)(e:V a)
  (j:mZ A.bs A.df A.tmps A.h (bU A.tmps live (M a)) A.h)
  (i:∀s,V s->@W ⟨P,H,x,eH (g8 P V (λs=>fW A live (M s) A.h) μ s) Q⟩ { n:=A.n,bs:=A.bs,rc:=A.rc,tmps:=cN (bU A.tmps live (M s)),h:=A.h,df:=A.df }) :
  @W ⟨P,H,.loop x,Q⟩ A:=gL live V μ M (λ_=>A.h) a e j i
theorem cc{σ}{V}{μ}{M:σ->List (Nat×AV)}{e:σ->Heap}{live}{s}{A B}(a)(v:V a)(u:μ a<μ s)
  (q:mZ A.bs A.df B.tmps B.h (bU A.tmps live (M a)) (e a)) (j:B.n=A.n:=by rfl) (o:B.bs=A.bs:=by rfl) (i:B.rc=A.rc:=by rfl) (l:B.df=A.df:=by rfl) :
  @WQ ⟨eH (g8 P V (λs=>fW A live (M s) (e s)) μ s) Q⟩ .normal B:=⟨a,v,u,sP j o i l q⟩
section
variable (n:Nat)
theorem QT(v):below n (.p v)=True:=rfl
theorem LV(id a i o):below n (.ptr id a i o)=(id<n):=rfl
theorem Gx(id a i o):below n (.slice id a i o)=(id<n):=rfl
theorem LU(k)(id):below n (.ref k id)=(id<n):=rfl
theorem Gv:below n .undef=True:=rfl
theorem Jr(f)(a c):below n (.func f a c)=((∀x,x∈a->dO n x)/\∀x,x∈c->dO n x):=rfl
theorem LW(cs):below n (.agg cs)=∀x,x∈cs->e8 n x:=rfl
theorem Gw(cs):below n (.tuple cs)=∀x,x∈cs->fX n x:=rfl
theorem N7(v):fX n (.p v)=True:=rfl
theorem Ju(id a i o):fX n (.ptr id a i o)=(id<n):=rfl
theorem E4(id a i o):fX n (.slice id a i o)=(id<n):=rfl
theorem GA(f)(a c):fX n (.func f a c)=((∀x,x∈a->dO n x)/\∀x,x∈c->dO n x):=rfl
theorem Jv(cs):fX n (.agg cs)=∀x,x∈cs->e8 n x:=rfl
theorem N6(v):e8 n (.p v)=True:=rfl
theorem Jt(id a i o):e8 n (.ptr id a i o)=(id<n):=rfl
theorem E3(id a i o):e8 n (.slice id a i o)=(id<n):=rfl
theorem Gy(f)(a c):e8 n (.func f a c)=((∀x,x∈a->dO n x)/\∀x,x∈c->dO n x):=rfl
theorem N8(v):dO n (.p v)=True:=rfl
theorem Jw(id a i o):dO n (.ptr id a i o)=(id<n):=rfl
theorem E5(id a i o):dO n (.slice id a i o)=(id<n):=rfl
theorem DO(sz)(xs):aX n (.row sz xs)=∀x,x∈xs->below n x:=rfl
theorem DP(T e)(x):aX n (.bld T e x)=dO n x:=rfl
theorem FX(es):aX n (.mp es)=True:=rfl
theorem Cm(s)(p):aX n (.strIter s p)=True:=rfl
theorem Cn:aX n .dead=True:=rfl
theorem yv:aX n .dblock=True:=rfl
theorem Ck(k)(T)(ps)(a b)(e)(i):aX n (.loop k T ps a b e i)=∀t,below n (T t):=rfl
theorem F'(f)(args):qG n (.fn f args)=∀a,a∈args->below n a:=rfl
theorem Ez(id):qG n (.collected id)=(id<n):=rfl
end
theorem e9{x}{A B}(hw:fS P A B)(k:@W ⟨P,H,.loop x,Q⟩ B):@W ⟨P,H,.loop x,Q⟩ A:=by
 intro X a;obtain⟨C,i,e⟩:=k X a;exact⟨C,hw.trans i,e⟩
theorem cp{x}{A}(t sz)(a:A.tmps t=.p .nilslice)(k:@W ⟨P,H,.loop x,Q⟩ { n:=A.n,bs:=A.bs,rc:=A.rc,tmps:=uf A.tmps t (.slice A.h.length 0 0 0),h:=A.h++[.row sz []],df:=A.df }) :
  @W ⟨P,H,.loop x,Q⟩ A:=by
 refine e9 (Db sz (T:=uf A.tmps t (.slice A.h.length 0 0 0)) λu=>?_) k;rw[Dg];by_cases h:u=t
 .subst h;rw[if_pos rfl];exact .inr ⟨a,rfl⟩
 .rw[if_neg h];exact .inl rfl
theorem Bj{α:Type}(f):∀l:List α,gp (l.map λx=>.p (f x))=some (l.map f)
 |[]=>rfl
 |x::r=>by rw[bK,gp,Bj f r];rfl
theorem ui{α β:Type}(f:α->β)(l:List α):(l.map f).take l.length=l.map f:=by
 rw[fC];simp
def qV (q v:PV):Prop:=q=v\/(q=.nilslice/\∃sz,v=.slice sz [] false)
def qU:List PV->List PV->Prop
 |[],[]=>True
 |q::a,v::b=>qV q v/\qU a b
 |_,_=>False
def qT (q v:PV):Prop:=qV q v\/∃a b,q=.tuple a/\v=.tuple b/\qU a b
theorem qV.rep{q v}(h:qV q v){M}{w}{u}(a:RepP M w u q):RepP M w u v:=by
 rcases h with rfl|⟨rfl,sz,rfl⟩
 .exact a
 .cases a;exact .empty (by simp)
theorem qU.get:∀{a b},qU a b->a.length=b.length/\∀(i:Nat) (v),b[i]?=some v->∃q,a[i]?=some q/\qV q v
 |[],[],_=>⟨rfl,by simp⟩
 |q::a,v::b,h=>by
  obtain⟨j,e⟩:=qU.get h.2;refine⟨by simp[j],λi u hi=>?_⟩
  cases i with
  |zero=>cases hi;exact⟨q,rfl,h.1⟩
  |succ i=>exact e i u (by simpa using hi)
 |[],_::_,h=>h.elim
 |_::_,[],h=>h.elim
theorem qT.rep{q v}(h:qT q v){M}{w}{u}(e:RepP M w u q):RepP M w u v:=by
 rcases h with h|⟨a,b,rfl,rfl,h⟩
 .exact h.rep e
 .obtain⟨z,o⟩:=h.get
  cases e with
  |tuple y e=>
   refine .tuple (by omega) λi c hi=>?_;obtain⟨q,j,l⟩:=o i c hi;exact l.rep (e i q j)
theorem af.less{f}{args}{q v}(u:af P f args q)(h:qT q v):af P f args v:=by
 intro M0 w a z l y;obtain⟨C,A⟩:=u M0 w a z l y;refine⟨C,A.mono λe w' o=>?_⟩;obtain⟨v',rfl,j,i⟩:=o;exact⟨v',rfl,h.rep j,i⟩
theorem af.argless{f}{args args'}{v}(u:af P f args v)(h:qU args' args):af P f args' v:=by
 intro M0 w a y o e;obtain⟨A,z⟩:=h.get;refine u M0 w a y o ⟨by rw[e.1,A],λi c hi=>?_⟩;obtain⟨q,j,l⟩:=z i c hi;exact l.rep (e.2 i q j)
theorem xb(N:dI P){H}{f}{fn}{c}{j}{v}{rs}{n}(L:P.funcs[f]?=some fn)(u:fn.body=some c)(C:fn.results.toList=rs)(I:fn.ntmps=n)(hok:cy H fn=true)
  (A:j.length<=n) (hw:wp P H c (iq P rs 0 (λ_ r h=>∃q,pg h r=some q/\qT q v)) (start n .no (j.map .p) [])):af P f j v:=by
 intro M0 w o M K G;have E:dz (Rep M0 ⟨[],[],w⟩) o (j.map .p):=by
  refine⟨by simpa using G.1,λi c F=>?_⟩;simp only[cW,bC]at F;obtain⟨q,z,rfl⟩:=F;exact aC ((G.2 i q z).mono (λ_ _ _=>rfl) (λb u=>by
   rcases u with u|u
   .exact .inl u
   .simp[Own]at u))
 have:=jg N (h:=[]) (R:=λr h=>∃q,pg h r=some q/\qT q v) L u C I hok (by simpa using A) hw M0 [] w o (pZ M K) E;refine⟨this.1,this.2.mono λe w' h=>?_⟩;obtain⟨r,h',m',⟨q,z,y⟩,D,J,l⟩:=h
 cases e with
 |returned v'=>
  cases r with
  |panic v=>cases z
  |ret a=>exact⟨v',rfl,y.rep (qD (S:=⟨m',h',w'⟩) J l z),D.fr⟩
 |panicked O=>
  cases r with
  |panic v=>cases z
  |ret a=>exact l.elim
 |outgrown=>exact l.elim
theorem QY{σ}{x}{A}(live)(V)(μ)(M:σ->List (Nat×AV))(e:σ->Heap->Heap)(a)(i:V a)
  (l:mZ A.bs A.df A.tmps A.h (bU A.tmps live (M a)) (e a A.h))
  (j:∀s,V s->@W ⟨P,H,x,eH (g8 P V (λs=>fW A live (M s) (e s A.h)) μ s) Q⟩ { n:=A.n,bs:=A.bs,rc:=A.rc,tmps:=cN (bU A.tmps live (M s)),h:=e s A.h,df:=A.df }) :
  @W ⟨P,H,.loop x,Q⟩ A:=gL live V μ M (λs=>e s A.h) a i l j
theorem sO{A B}{live}{l}{h}(i:B.n=A.n)(o:B.bs=A.bs)(a:B.rc=A.rc)(j:B.df=A.df)(hh:B.h=h)
  (q:∀p,p∈bU A.tmps live l->B.tmps p.1=p.2):fS P B (fW A live l h):=by
 have e:fW A live l h={ B with tmps:=cN (bU A.tmps live l) }:=by
  unfold fW;cases A;cases B;simp only at i o a j hh;subst i o a j hh;rfl
 rw[e];exact JX _ q
theorem fo{σ}{x}{A}(live)(V)(μ)(M:σ->List (Nat×AV))(e:σ->Heap)(a)(i:V a)(hh:A.h=e a)
  (l:∀p,p∈bU A.tmps live (M a)->A.tmps p.1=p.2)
  (j:∀s,V s->@W ⟨P,H,x,eH (g8 P V (λs=>fW A live (M s) (e s)) μ s) Q⟩ { n:=A.n,bs:=A.bs,rc:=A.rc,tmps:=cN (bU A.tmps live (M s)),h:=e s,df:=A.df }) :
  @W ⟨P,H,.loop x,Q⟩ A:=
 L8 V (λs=>fW A live (M s) (e s)) μ a i (sO rfl rfl rfl rfl hh l) j
theorem br{σ}{V}{μ}{M:σ->List (Nat×AV)}{e:σ->Heap}{live}{s}{A B}(a)(v:V a)(u:μ a<μ s)(hh:B.h=e a)
  (q:∀p,p∈bU A.tmps live (M a)->B.tmps p.1=p.2) (j:B.n=A.n:=by rfl) (o:B.bs=A.bs:=by rfl) (i:B.rc=A.rc:=by rfl) (l:B.df=A.df:=by rfl) :
  @WQ ⟨eH (g8 P V (λs=>fW A live (M s) (e s)) μ s) Q⟩ .normal B:=⟨a,v,u,sO j o i l hh q⟩
section
variable {α τ:Type}
def rD (l:List α) (Inv:List α->List α->τ->Prop) (s:List α×List α×τ):Prop:=l=s.1++s.2.1/\Inv s.1 s.2.1 s.2.2
def kq {β:Type} (M:List α->τ->β) (s:List α×List α×τ):β:=M s.1 s.2.2
theorem bg{x}{A}(live)(l)(F:l.length<1000000000)(i:List α->List α->τ->Prop)(M)(o)(v)(hi:i [] l v)
  (E:mZ A.bs A.df A.tmps A.h (bU A.tmps live (M [] v)) (o [] v))
  (u:∀t,i l [] t->@W ⟨P,H,x,eH (g8 P (rD l i) (λs=>fW A live (kq M s) (kq o s)) (λs=>s.2.1.length) (l,[],t)) Q⟩
   {n:=A.n,bs:=A.bs,rc:=A.rc,tmps:=cN (bU A.tmps live (M l t)),h:=o l t,df:=A.df })
  (j:∀a y r t,l=a++y::r->i a (y::r) t->l[a.length]?=some y->((a.length:Int)<(l.length:Int))->IntKind.i64.wrap ((a.length:Int)+1)=(((a++[y]).length:Nat):Int) ->
   @W ⟨P,H,x,eH (g8 P (rD l i) (λs=>fW A live (kq M s) (kq o s)) (λs=>s.2.1.length) (a,y::r,t)) Q⟩
    {n:=A.n,bs:=A.bs,rc:=A.rc,tmps:=cN (bU A.tmps live (M a t)),h:=o a t,df:=A.df }):@W ⟨P,H,.loop x,Q⟩ A:=by
 refine gL live (rD l i) (λs=>s.2.1.length) (λs=>M s.1 s.2.2) (λs=>o s.1 s.2.2) ([],l,v) ⟨rfl,hi⟩ E ?_
 rintro⟨a,rest,t⟩ ⟨q,z⟩
 dsimp only at q z
 cases rest with
 |nil=>
  rw[bt]at q;subst q
  exact u t z
 |cons y r=>
  have C:a.length<l.length:=by rw[q];simp
  have D:l[a.length]?=some y:=by rw[q];simp
  refine j a y r t q z D (by omega) ?_;have e:((a.length:Int)+1)=(((a++[y]).length:Nat):Int):=by simp
  rw[e];exact IntWalk.i64_in _ ⟨by omega,by simp<;>omega⟩
theorem ej{x}{A}(live)(l)(q:l.length<1000000000)(e:List α->List α->τ->Prop)(M)(o)(hi:e [] l o)
  (u:mZ A.bs A.df A.tmps A.h (bU A.tmps live (M [] o)) A.h)
  (j:∀t,e l [] t->@W ⟨P,H,x,eH (g8 P (rD l e) (λs=>fW A live (kq M s) (kq (λ_ _=>A.h) s)) (λs=>s.2.1.length) (l,[],t)) Q⟩
   {n:=A.n,bs:=A.bs,rc:=A.rc,tmps:=cN (bU A.tmps live (M l t)),h:=A.h,df:=A.df })
  (i:∀a y r t,l=a++y::r->e a (y::r) t->l[a.length]?=some y->((a.length:Int)<(l.length:Int))->IntKind.i64.wrap ((a.length:Int)+1)=(((a++[y]).length:Nat):Int) ->
   @W ⟨P,H,x,eH (g8 P (rD l e) (λs=>fW A live (kq M s) (kq (λ_ _=>A.h) s)) (λs=>s.2.1.length) (a,y::r,t)) Q⟩
    {n:=A.n,bs:=A.bs,rc:=A.rc,tmps:=cN (bU A.tmps live (M a t)),h:=A.h,df:=A.df }):@W ⟨P,H,.loop x,Q⟩ A:=
 bg live l q e M (λ_ _=>A.h) o hi u j i
theorem aD{l}{e:List α->List α->τ->Prop}{M}{o}{live}{a r}{y}{t}{A B}
  (D:l=a++y::r) (j) (i:e (a++[y]) r j) (C:mZ A.bs A.df B.tmps B.h (bU A.tmps live (M (a++[y]) j)) (o (a++[y]) j))
  (u:B.n=A.n:=by rfl) (z:B.bs=A.bs:=by rfl) (q:B.rc=A.rc:=by rfl) (v:B.df=A.df:=by rfl) :
  @WQ ⟨eH (g8 P (rD l e) (λs=>fW A live (kq M s) (kq o s)) (λs=>s.2.1.length) (a,y::r,t)) Q⟩ .normal B:=
 ⟨(a++[y],r,j),⟨by simp[D],i⟩,by simp,sP u z q v C⟩
end
def Tr (P:Program) (fv:PV) (l:List PV):Prop:=
 ∃(g:FuncId) (first cap:List PV),fv=.func (.func g) first cap/\∀(id:Nat) (Inv:Nat->Heap->Prop) (Fin:Heap->Prop) (h0:Heap),(∀k h,Inv k h->h0.length<=h.length) ->
  (∀(k:Nat) (v:PV) (h:Heap),l[k]?=some v->Inv k h->rT P id [.p v] h (λr h'=>(r=.ret (.p (.bool true))/\Inv (k+1) h')\/(r=.ret (.p (.bool false))/\Fin h'/\h0.length<=h'.length))) ->
  Inv 0 h0->ar P g (first.map .p++[.ref .yl id]++cap.map .p) h0 (λr h'=>r=.ret (.p (.tuple []))/\(Inv l.length h'\/Fin h'))
theorem WJ:IntKind.i64.wrap 0=0:=by decide
theorem WI:IntKind.i64.wrap 1=1:=by decide
theorem WH:IntKind.i64.wrap 2=2:=by decide
theorem WG:IntKind.i64.wrap 3=3:=by decide
theorem WE:IntKind.i64.wrap 4=4:=by decide
theorem WA:IntKind.i64.wrap 5=5:=by decide
theorem Wz:IntKind.i64.wrap 6=6:=by decide
theorem Wy:IntKind.i64.wrap 7=7:=by decide
theorem Ww:IntKind.i64.wrap 8=8:=by decide
theorem Wv:IntKind.i64.wrap 9=9:=by decide
theorem Wa:IntKind.i64.wrap 10=10:=by decide
theorem V':IntKind.i64.wrap 11=11:=by decide
theorem V9:IntKind.i64.wrap 12=12:=by decide
theorem am{i}(e:-9223372036854775808<=i)(a:i<=9223372036854775807):IntKind.i64.wrap i=i:=IntWalk.i64_in _ ⟨by omega,by omega⟩
theorem j6{a b A B:Int}(i:0<=a)(l:a<=A)(e:0<=b)(j:b<=B):0<=a*b/\a*b<=A*B:=⟨wP i e,zO l j e (by omega)⟩
section
variable {ops:Array Oper} {rest:List Oper} {dst:Option Tmp} {A:AAct}
theorem cj{f}{args}{R}(e:ar P f args A.h R)(j:∀v h,R (.ret v) h->@WO ⟨P,H,ops,rest,Q⟩ (A.put dst v h))
  (i:∀v h,R (.panic v) h->@WQ ⟨Q⟩ (.panic v) { A with h:=h }):@WF ⟨P,H,ops,rest,Q,dst⟩ A f args:=
 e.mono λr h a=>by
  cases r with
  |ret v=>exact j v h a
  |panic v=>exact i v h a
theorem cq{f}{args}{v}{h'}(i:ar P f args A.h (λr h=>r=.ret v/\h=h'))(j:@WO ⟨P,H,ops,rest,Q⟩ (A.put dst v h')):@WF ⟨P,H,ops,rest,Q,dst⟩ A f args:=
 cj i (λv h a=>by obtain⟨e,rfl⟩:=a;cases e;exact j) (λv h a=>by cases a.1)
theorem o6{l}{args}{R}(j:rT P l args A.h R)(F:∀v h,R (.ret v) h->@WO ⟨P,H,ops,rest,Q⟩ (A.put dst v h))
  (E:∀v h,R (.panic v) h->@WQ ⟨Q⟩ (.panic v) { A with h:=h }):@WR ⟨P,H,ops,rest,Q,dst⟩ A (.yld l args):=by
 refine⟨j.1,λM0 m w i b z y u=>?_⟩;obtain⟨f,tmps,I,G,D,C⟩:=j.2 M0 m w i b z y u;refine⟨f,tmps,I,G,D,λc cs=>?_⟩;obtain⟨e,w',⟨r,h',m',o,a⟩,q⟩:=C c cs;refine⟨e,w',⟨r,h',m',?_,a⟩,q⟩
 cases r with
 |ret v=>exact F v h' o
 |panic v=>exact E v h' o
end
theorem Tm(ops)(rest)(dst)(n bs)(T)(h)(df)(d) :
  @WR ⟨P,H,ops,rest,Q,dst⟩ ⟨n,bs,.no,T,h,df⟩ (.dfr d)=@WO ⟨P,H,ops,rest,Q⟩ (AAct.put ⟨n,bs,.no,T,h,d::df⟩ dst (.p (.tuple [])) h):=propext Iff.rfl
theorem GI(ops)(rest)(dst)(n bs)(T)(h)(df) :
  @WR ⟨P,H,ops,rest,Q,dst⟩ ⟨n,bs,.none,T,h,df⟩ .recover=@WO ⟨P,H,ops,rest,Q⟩ (AAct.put ⟨n,bs,.none,T,h,df⟩ dst (.p .niliface) h):=propext Iff.rfl
theorem GH(ops)(rest)(dst)(n bs)(v)(T)(h)(df) :
  @WR ⟨P,H,ops,rest,Q,dst⟩ ⟨n,bs,.pend v,T,h,df⟩ .recover=@WO ⟨P,H,ops,rest,Q⟩ (AAct.put ⟨n,bs,.got v,T,h,df⟩ dst (.p v) h):=propext Iff.rfl
theorem jU(rs:List ResultVar)(R:AEnd->Heap->Prop)(T:Nat->AV)(f:FuncId)(args:List AV)(a:List ADef)(u:AMode)(h:Heap) :
  ca P rs R T (.fn f args::a) u h=jr P f args u h λr e h'=>match r with
   |.ret _=>ca P rs R T a (vY e) h'
   |.panic v=>e=.ret/\ca P rs R T a (.pan v) h':=propext Iff.rfl
theorem bN(rs)(R)(T)(id)(a)(u)(h) :
  ca P rs R T (.collected id::a) u h=(h[id]?=some .dblock/\ca P rs R T a u (h.set id .dead)):=propext Iff.rfl
theorem jr.mono{f}{args}{u}{h}{R q}(l:jr P f args u h R)(z:∀r j h',R r j h'->q r j h'):jr P f args u h q:=
 λM0 m w i v D C A=>by
  obtain⟨G,F⟩:=l M0 m w i v D C A;refine⟨G,λc cs l=>?_⟩;obtain⟨e,o,w',fr,⟨r,j,h',m',E,a⟩,y⟩:=F c cs l;exact⟨e,o,w',fr,⟨r,j,h',m',z r j h' E,a⟩,y⟩
theorem v6{ps}{assign body}{g}{A}{f}{args}{R}(a:A.rc=.no)
  (hi:fO (A.eval g) [.ref .yl (A.h.length+1)]=.call f args) (i:ar P f args (A.h++[.dblock,.loop A.n A.tmps ps assign body .ready none]) R)
  (l:∀v h,R (.ret v) h->mv Q { A with h:=h,df:=.collected A.h.length::A.df } (A.h.length+1) h[A.h.length+1]?)
  (j:∀v h,R (.panic v) h->@WQ ⟨Q⟩ (.panic v) { A with h:=h,df:=.collected A.h.length::A.df }):@W ⟨P,H,.rangeFunc g ps assign body,Q⟩ A:=by
 show wp P H (.rangeFunc g ps assign body) Q A;unfold wp;rw[a];show ux _ _ _ _ _ _;rw[hi];exact i.mono λr h e=>by
  cases r with
  |ret v=>exact l v h e
  |panic v=>exact j v h e
theorem D2(A)(l)(n)(T)(ps)(i e)(a)(pend) :
  mv Q A l (some (.loop n T ps i e a pend))=(a≠.busy/\tk Q { A with h:=A.h.set l .dead } pend):=propext Iff.rfl
theorem IL(A):tk Q A none=@WQ ⟨Q⟩ .normal A:=propext Iff.rfl
theorem KX(A):tk Q A (some .ret)=@WQ ⟨Q⟩ .ret A:=propext Iff.rfl
theorem IM(A)(id):tk Q A (some (.exit id))=@WQ ⟨Q⟩ (.exit id) A:=propext Iff.rfl
theorem L9(n)(tmps)(ps)(assign body)(l bs)(Q)(c)(A) :
  @WQ ⟨HF n tmps ps assign body l bs (λA=>wp P H c Q A)⟩ .normal A=(A.bs=bs/\A.h[l]?=some (.loop n tmps ps assign body .ready none)/\@W ⟨P,H,c,Q⟩ { A with h:=A.h.set l (.loop n tmps ps assign body .busy none) }):=propext Iff.rfl
section
variable (n:Nat) (tmps:Nat->AV) (ps:Array Tmp) (assign body:Code) (l bs:Nat) (R:AEnd->Heap->Prop) (A:AAct)
theorem zC:@WQ ⟨rV n tmps ps assign body l bs R⟩ .normal A =
  (A.bs=bs/\(∃a pend,A.h[l]?=some (.loop n tmps ps assign body a pend))/\R (.ret (.p (.bool true))) (A.h.set l (.loop n tmps ps assign body .ready none))):=propext Iff.rfl
theorem Cy(id):@WQ ⟨rV n tmps ps assign body l bs R⟩ (.exit id) A =
  (A.bs=bs/\(∃a pend,A.h[l]?=some (.loop n tmps ps assign body a pend))/\R (.ret (.p (.bool false))) (A.h.set l (.loop n tmps ps assign body .done (some (.exit id))))):=propext Iff.rfl
theorem AW(v):@WQ ⟨rV n tmps ps assign body l bs R⟩ (.panic v) A=(A.bs=bs/\A.df=[]/\R (.panic v) A.h):=propext Iff.rfl
theorem Fk:@WQ ⟨rV n tmps ps assign body l bs R⟩ .ret A =
  (A.bs=bs/\(∃a pend,A.h[l]?=some (.loop n tmps ps assign body a pend))/\R (.ret (.p (.bool false))) (A.h.set l (.loop n tmps ps assign body .done (some .ret)))):=propext Iff.rfl
end
theorem Cd(T)(l):gu T [] l=T:=by cases l<;>rfl
theorem Ab(T)(p)(ps)(x)(l):gu T (p::ps) (x::l)=gu (uf T p x) ps l:=rfl
end Abs
end Go.Proofs.YtmndpldajflenaaGreatDoor
namespace Go.Proofs.YtmndpldajflenaaGreatDoor
namespace Abs
variable {P:Program} {H:Hints} {Q:Cont}
def sq (oR oB:AObj) (l bs:Nat) (K:AAct->Prop):Ex->AAct->Prop
 |.normal,A=>A.bs=bs/\A.h[l]?=some oR/\K { A with h:=A.h.set l oB }
 |_,_=>False
def oL (oB oR:AObj) (oD:Code->AObj) (l bs:Nat) (R:AEnd->Heap->Prop):Ex->AAct->Prop
 |.normal,A=>A.bs=bs/\A.h[l]?=some oB/\R (.ret (.p (.bool true))) (A.h.set l oR)
 |.exit id,A=>A.bs=bs/\A.h[l]?=some oB/\R (.ret (.p (.bool false))) (A.h.set l (oD (.exit id)))
 |.ret,A=>A.bs=bs/\A.h[l]?=some oB/\R (.ret (.p (.bool false))) (A.h.set l (oD .ret))
 |.panic v,A=>A.bs=bs/\A.df=[]/\R (.panic v) A.h
theorem JE(oR oB)(l bs)(c)(A):@WQ ⟨sq oR oB l bs (λA=>wp P H c Q A)⟩ .normal A=(A.bs=bs/\A.h[l]?=some oR/\@W ⟨P,H,c,Q⟩ { A with h:=A.h.set l oB }):=propext Iff.rfl
section
variable (oB oR:AObj) (oD:Code->AObj) (l bs:Nat) (R:AEnd->Heap->Prop) (A:AAct)
theorem xF:@WQ ⟨oL oB oR oD l bs R⟩ .normal A=(A.bs=bs/\A.h[l]?=some oB/\R (.ret (.p (.bool true))) (A.h.set l oR)):=propext Iff.rfl
theorem AX(id):@WQ ⟨oL oB oR oD l bs R⟩ (.exit id) A=(A.bs=bs/\A.h[l]?=some oB/\R (.ret (.p (.bool false))) (A.h.set l (oD (.exit id)))):=propext Iff.rfl
theorem zD(v):@WQ ⟨oL oB oR oD l bs R⟩ (.panic v) A=(A.bs=bs/\A.df=[]/\R (.panic v) A.h):=propext Iff.rfl
theorem Cz:@WQ ⟨oL oB oR oD l bs R⟩ .ret A=(A.bs=bs/\A.h[l]?=some oB/\R (.ret (.p (.bool false))) (A.h.set l (oD .ret))):=propext Iff.rfl
end
def uM (Q:Cont) (A:AAct):Code->Prop
 |.ret=>@WQ ⟨Q⟩ .ret A
 |.exit id=>@WQ ⟨Q⟩ (.exit id) A
 |_=>False
theorem Th{ps}{assign body}{g}{A}{fv}{l}(i:AObj->Nat->Heap->Prop)(Fin:Code->Heap->Prop)
  (U:A.rc=.no) (hg:A.eval g=.p fv) (Z:Tr P fv l) (hD:dI P) (V:nL A.n ps=true) (X:ps.size=1) (K:cZ H A.n assign=true) (J:cZ H A.n body=true)
  (L:∀o k h,i o k h->A.h.length+2<=h.length) (I:∀o k h,i o k h->h[A.h.length+1]?=some o) (h0:∀o,i o 0 (A.h++[.dblock,o]))
  (y:∀(oR oB) (oD) (k) (v) (h),l[k]?=some v->i oR k h ->
   @W ⟨P,H,assign,sq oR oB (A.h.length+1) h.length (λB=>wp P H body (oL oB oR oD (A.h.length+1) h.length
    (λr h'=>(r=.ret (.p (.bool true))/\i oR (k+1) h')\/(r=.ret (.p (.bool false))/\∃j,Fin j h'/\h'[A.h.length+1]?=some (oD j)/\A.h.length+2<=h'.length))) B)⟩
    {n:=A.n,bs:=h.length,rc:=.rnd,tmps:=gu A.tmps ps.toList [.p v],h:=h,df:=[] })
  (N:∀o h,i o l.length h->@WQ ⟨Q⟩ .normal { A with h:=h.set (A.h.length+1) .dead,df:=.collected A.h.length::A.df })
  (M:∀j h,Fin j h->uM Q { A with h:=h.set (A.h.length+1) .dead,df:=.collected A.h.length::A.df } j):@W ⟨P,H,.rangeFunc g ps assign body,Q⟩ A:=by
 obtain⟨gf,first,cap,rfl,hi⟩:=Z;have Y:∃oR,oR=AObj.loop A.n A.tmps ps assign body .ready none:=⟨_,rfl⟩
 obtain⟨oR,D⟩:=Y
 refine v6 (f:=gf) (args:=first.map .p++[.ref .yl (A.h.length+1)]++cap.map .p)
  (R:=λr h=>r=.ret (.p (.tuple []))/\(i oR l.length h\/∃j,Fin j h/\h[A.h.length+1]?=some (.loop A.n A.tmps ps assign body .done (some j))))
  U (by rw[hg];rfl) ?_ (λv h z=>?_) λv h z=>(by cases z.1)
 .rw[<-D];refine(hi (A.h.length+1) (i oR) (λh=>∃j,Fin j h/\h[A.h.length+1]?=some (.loop A.n A.tmps ps assign body .done (some j))) (A.h++[.dblock,oR]) (λk h u=>by simpa using L _ _ _ u) (λk v h hv u=>?_) (h0 oR)).mono λr h z=>z;have q:=I _ _ _ u;rw[D]at q;refine pO hD (H:=H) q V (by simpa using X) K J ?_;have:=y oR (.loop A.n A.tmps ps assign body .busy none) (λj=>.loop A.n A.tmps ps assign body .done (some j)) k v h hv u;refine jt assign (λe B S=>?_) this
  cases e with
  |normal=>
   obtain⟨b1,b2,b3⟩:=S;rw[D]at b2;refine⟨b1,b2,jt body (λe C O=>?_) b3⟩
   cases e with
   |normal=>
    obtain⟨c1,G,a⟩:=O;refine⟨c1,⟨_,_,G⟩,?_⟩;rw[<-D];rcases a with a|⟨a,_⟩
    .exact .inl a
    .cases a
   |exit id=>
    obtain⟨c1,G,a⟩:=O;refine⟨c1,⟨_,_,G⟩,?_⟩;rcases a with⟨a,_⟩|⟨a,j,F,E,T⟩
    .cases a
    .exact .inr ⟨rfl,⟨j,F,E⟩,by simpa using T⟩
   |ret=>
    obtain⟨c1,G,a⟩:=O;refine⟨c1,⟨_,_,G⟩,?_⟩;rcases a with⟨a,_⟩|⟨a,j,F,E,T⟩
    .cases a
    .exact .inr ⟨rfl,⟨j,F,E⟩,by simpa using T⟩
   |panic v=>
    obtain⟨_,_,a⟩:=O
    rcases a with⟨a,_⟩|⟨a,_⟩<;>cases a
  |exit id=>exact S
  |ret=>exact S
  |panic v=>exact S
 .obtain⟨z,u⟩:=z;rcases u with u|⟨j,F,E⟩
  .have q:=I _ _ _ u;rw[D]at q;rw[q];exact⟨by simp,N _ _ u⟩
  .rw[E];have:=M j h F;refine⟨by simp,?_⟩;cases j<;>first|exact this.elim|exact this
theorem Fi{ps}{assign body}{g}{A}{f}{args}{R:AEnd->Heap->Prop}(K:A.rc=.no)
  (hi:fO (A.eval g) [.ref .yl (A.h.length+1)]=.call f args) (S:dI P) (L:nL A.n ps=true) (y:cZ H A.n assign=true) (u:cZ H A.n body=true)
  (O:∀(oR oB) (oD),
   (∀(I) (h) (T),ps.size=I.length->h[A.h.length+1]?=some oR ->
    @W ⟨P,H,assign,sq oR oB (A.h.length+1) h.length (λB=>wp P H body (oL oB oR oD (A.h.length+1) h.length T) B)⟩
     {n:=A.n,bs:=h.length,rc:=.rnd,tmps:=gu A.tmps ps.toList I,h:=h,df:=[] }->rT P (A.h.length+1) I h T) ->
   ar P f args (A.h++[.dblock,oR]) (λr h=>R r h/\∀v,r=.ret v->(h[A.h.length+1]?=some oR/\@WQ ⟨Q⟩ .normal { A with h:=h.set (A.h.length+1) .dead,df:=.collected A.h.length::A.df }) \/
    ∃j,h[A.h.length+1]?=some (oD j)/\uM Q { A with h:=h.set (A.h.length+1) .dead,df:=.collected A.h.length::A.df } j))
  (U:∀v h,R (.panic v) h->@WQ ⟨Q⟩ (.panic v) { A with h:=h,df:=.collected A.h.length::A.df }):@W ⟨P,H,.rangeFunc g ps assign body,Q⟩ A:=by
 have M:∃oR,oR=AObj.loop A.n A.tmps ps assign body .ready none:=⟨_,rfl⟩
 obtain⟨oR,a⟩:=M;have o:=O oR (.loop A.n A.tmps ps assign body .busy none) (λj=>.loop A.n A.tmps ps assign body .done (some j)) ?_
 .rw[a]at o;refine v6 (f:=f) (args:=args) K hi o (λv h D=>?_) λv h D=>U v h D.1;rw[<-a]at D;rcases D.2 v rfl with⟨J,G⟩|⟨j,J,G⟩
  .rw[J,a];exact⟨by simp,G⟩
  .rw[J];refine⟨by simp,?_⟩;cases j<;>first|exact G.elim|exact G
 .intro I h T z q hw;rw[a]at q;refine pO S (H:=H) q L z y u ?_;refine jt assign (λe B F=>?_) hw
  cases e with
  |normal=>
   obtain⟨X,N,V⟩:=F;rw[a]at N;refine⟨X,N,jt body (λe C E=>?_) V⟩
   cases e with
   |normal=>
    obtain⟨c1,l,i⟩:=E;refine⟨c1,⟨_,_,l⟩,?_⟩;rw[<-a]
    exact i
   |exit id=>
    obtain⟨c1,l,i⟩:=E
    exact⟨c1,⟨_,_,l⟩,i⟩
   |ret=>
    obtain⟨c1,l,i⟩:=E
    exact⟨c1,⟨_,_,l⟩,i⟩
   |panic v=>exact E
  |exit id=>exact F
  |ret=>exact F
  |panic v=>exact F
def O6 (P:Program) (fv:PV) (sz:Nat) (l:List (List PV)):Prop:=
 ∃(g:FuncId) (first cap:List PV),fv=.func (.func g) first cap/\∀(id:Nat) (Inv:Nat->Heap->Prop) (Fin:Heap->Prop) (h0:Heap),id<h0.length ->
  (∀(k:Nat) (xs:List PV) (lo mid:Heap) (j:Nat),l[k]?=some xs->Inv k lo->lo.length=h0.length->mid[j]?=some (.row sz (xs.map .p)) ->
   rT P id [.slice (j+h0.length) xs.length 0 xs.length] (lo++mid) (λr h'=>∃lo' ext,h'=lo'++mid++ext/\lo'.length=h0.length /\
    ((r=.ret (.p (.bool true))/\Inv (k+1) lo')\/(r=.ret (.p (.bool false))/\Fin lo')))) ->
  Inv 0 h0->ar P g (first.map .p++[.ref .yl id]++cap.map .p) h0 (λr h'=>r=.ret (.p (.tuple []))/\∃lo mid,h'=lo++mid/\lo.length=h0.length/\(Inv l.length lo\/Fin lo))
theorem Q0{ps}{assign body}{g}{A}{fv}{sz}{l}(y:AObj->Nat->Heap->Prop)(Fin:Code->Heap->Prop)
  (a0:A.rc=.no) (hg:A.eval g=.p fv) (a4:O6 P fv sz l) (hD:dI P) (a1:nL A.n ps=true) (a2:ps.size=1) (V:cZ H A.n assign=true) (U:cZ H A.n body=true)
  (T:∀o k h,y o k h->h[A.h.length+1]?=some o) (h0:∀o,y o 0 (A.h++[.dblock,o]))
  (D:∀(oR oB) (oD) (k) (xs) (lo a) (j),l[k]?=some xs->y oR k lo->lo.length=A.h.length+2->a[j]?=some (.row sz (xs.map .p)) ->
   @W ⟨P,H,assign,sq oR oB (A.h.length+1) (lo++a).length (λB=>wp P H body (oL oB oR oD (A.h.length+1) (lo++a).length
    (λr h'=>∃i ext,h'=i++a++ext/\i.length=A.h.length+2/\((r=.ret (.p (.bool true))/\y oR (k+1) i)\/(r=.ret (.p (.bool false))/\∃c,Fin c i/\i[A.h.length+1]?=some (oD c))))) B)⟩
    {n:=A.n,bs:=(lo++a).length,rc:=.rnd,tmps:=gu A.tmps ps.toList [.slice (j+(A.h.length+2)) xs.length 0 xs.length],h:=lo++a,df:=[] })
  (Y:∀o lo a,y o l.length lo->lo.length=A.h.length+2->@WQ ⟨Q⟩ .normal { A with h:=(lo++a).set (A.h.length+1) .dead,df:=.collected A.h.length::A.df })
  (X:∀c lo a,Fin c lo->lo.length=A.h.length+2->uM Q { A with h:=(lo++a).set (A.h.length+1) .dead,df:=.collected A.h.length::A.df } c):@W ⟨P,H,.rangeFunc g ps assign body,Q⟩ A:=by
 obtain⟨gf,first,cap,rfl,hi⟩:=a4;have a3:∃oR,oR=AObj.loop A.n A.tmps ps assign body .ready none:=⟨_,rfl⟩
 obtain⟨oR,K⟩:=a3
 refine v6 (f:=gf) (args:=first.map .p++[.ref .yl (A.h.length+1)]++cap.map .p)
  (R:=λr h=>r=.ret (.p (.tuple []))/\∃lo a,h=lo++a/\lo.length=A.h.length+2/\(y oR l.length lo\/∃c,Fin c lo/\lo[A.h.length+1]?=some (.loop A.n A.tmps ps assign body .done (some c))))
  a0 (by rw[hg];rfl) ?_ (λv h Z=>?_) λv h Z=>(by cases Z.1)
 .rw[<-K];have S:(A.h++[.dblock,oR]).length=A.h.length+2:=by simp
  have O:=hi (A.h.length+1) (y oR) (λlo=>∃c,Fin c lo/\lo[A.h.length+1]?=some (.loop A.n A.tmps ps assign body .done (some c))) (A.h++[.dblock,oR]) (by simp) (λk xs lo a j hv F z hj=>?_) (h0 oR)
  .rw[S]at O;exact O
  rw[S]at z |-;have u:=T _ _ _ F;have E:(lo++a)[A.h.length+1]?=some oR:=by rw[bp (by omega)];exact u
  rw[K]at E;refine pO hD (H:=H) E a1 (by simpa using a2) V U ?_;have:=D oR (.loop A.n A.tmps ps assign body .busy none) (λj=>.loop A.n A.tmps ps assign body .done (some j)) k xs lo a j hv F z hj;refine jt assign (λe B hB=>?_) this
  cases e with
  |normal=>
   obtain⟨b1,b2,b3⟩:=hB;rw[K]at b2;refine⟨b1,b2,jt body (λe C hC=>?_) b3⟩
   cases e with
   |normal=>
    obtain⟨c1,N,G⟩:=hC;refine⟨c1,⟨_,_,N⟩,?_⟩;rw[<-K];obtain⟨i,ext,J,I,q⟩:=G;refine⟨i,ext,J,I,?_⟩;rcases q with q|⟨q,_⟩
    .exact .inl q
    .cases q
   |exit id=>
    obtain⟨c1,N,G⟩:=hC;refine⟨c1,⟨_,_,N⟩,?_⟩;obtain⟨i,ext,J,I,q⟩:=G;refine⟨i,ext,J,I,?_⟩;rcases q with⟨q,_⟩|⟨q,c,M,L⟩
    .cases q
    .exact .inr ⟨rfl,c,M,L⟩
   |ret=>
    obtain⟨c1,N,G⟩:=hC;refine⟨c1,⟨_,_,N⟩,?_⟩;obtain⟨i,ext,J,I,q⟩:=G;refine⟨i,ext,J,I,?_⟩;rcases q with⟨q,_⟩|⟨q,c,M,L⟩
    .cases q
    .exact .inr ⟨rfl,c,M,L⟩
   |panic v=>
    obtain⟨_,_,G⟩:=hC;obtain⟨i,ext,J,I,q⟩:=G
    rcases q with⟨q,_⟩|⟨q,_⟩<;>cases q
  |exit id=>exact hB
  |ret=>exact hB
  |panic v=>exact hB
 .obtain⟨Z,lo,a,rfl,z,F⟩:=Z;rcases F with F|⟨c,M,L⟩
  .have u:(lo++a)[A.h.length+1]?=some oR:=by rw[bp (by omega)];exact T _ _ _ F
   rw[K]at u;rw[u];exact⟨by simp,Y _ _ _ F z⟩
  .have u:(lo++a)[A.h.length+1]?=some (.loop A.n A.tmps ps assign body .done (some c)):=by rw[bp (by omega)];exact L
   rw[u];have:=X c lo a M z;refine⟨by simp,?_⟩;cases c<;>first|exact this.elim|exact this
theorem Jy(l:List Tmp):(List.toArray l).toList=l:=rfl
end Abs
end Go.Proofs.YtmndpldajflenaaGreatDoor
