/- LAWS: a round of a loop over a function, out of what its code comes to.
  LAWS: heads of l -/
import Derived.Test.YtnjiadikeacfaaaGreatDoorAbsFrzX
set_option linter.all false
namespace Go.Proofs.YtnjiadikeacfaaaGreatDoor
namespace Abs
variable {P:Program} {M0:Nat->Prop}
theorem xD{n}{R:Value->AV->Prop}:∀(ps) (asx) (xs) (T:Array Value) (F),T.size=n->(∀p,p∈ps->p<n)->asx.length=xs.length ->
  (∀(i) (x),xs[i]?=some x->R (asx.getD i undef) x)->(∀t,R (T.getD t undef) (F t)) ->
  ((ps.zip asx).foldl (λT (x)=>T.setIfInBounds x.1 x.2) T).size=n/\∀t,R (((ps.zip asx).foldl (λT (x)=>T.setIfInBounds x.1 x.2) T).getD t undef) (gx F ps xs t)
 |[],_,_,T,F,hT,_,_,_,hF=>⟨hT,hF⟩
 |p::ps,[],xs,T,F,hT,_,hl,_,hF=>by
  have:xs=[]:=by cases xs<;>simp_all
  subst this
  exact⟨hT,hF⟩
 |p::ps,a::asx,[],T,F,hT,_,hl,_,hF=>by simp at hl
 |p::ps,a::asx,x::xs,T,F,hT,hp,hl,hx,hF=>by
  have hpn:p<n:=hp p (by simp);refine xD ps asx xs (T.setIfInBounds p a) (uY F p x) (by simpa using hT) (λq hq=>hp q (by simp[hq])) (by simpa using hl) (λi y hy=>by simpa using hx (i+1) y (by simpa using hy)) λt=>?_;rw[D4];by_cases ht:t=p
  .subst ht;have h0:=hx 0 x rfl;simpa[hT,hpn]using h0
  .rw[if_neg ht];have:=hF t;simpa[SG (Ne.symm ht)]using this
theorem Nl(ps:Array Tmp)(asx)(T:Array Value):(ps.zip asx).foldl (λtmps (x)=>tmps.setIfInBounds x.1 x.2) T=(ps.toList.zip asx.toList).foldl (λT (x)=>T.setIfInBounds x.1 x.2) T:=by
 rw[<-y7];simp
theorem p7(hD:dK P){H}{l n}{tmps}{ps}{assign body}{args}{h}{R}
  (ho:h[l]?=some (.loop n tmps ps assign body .ready none)) (hps:nT n ps=true) (hlen:ps.size=args.length) (hoka:cU H n assign=true) (hokb:cU H n body=true)
  (hw:wp P H assign (It n tmps ps assign body l h.length (λA=>wp P H body (sD n tmps ps assign body l h.length R) A)) { n:=n,bs:=h.length,rc:=.rnd,tmps:=gx tmps ps.toList args,h:=h,df:=[] }) :
  sC P l args h R:=by
 refine⟨⟨_,ho,rfl⟩,λM0 m w cargs bl hS ha hbl=>?_⟩;obtain⟨bl',r,hbl',hrb,hrn,hrt,hrp,hra,hrbd,hrst,hrpd,hrf⟩:=hS.obj l _ ho;have:bl'=bl:=by
  have e:m.getD l none=some bl':=hbl';rw[hbl]at e;cases e;rfl
 subst this;have hrb':w.heap[bl']?=some (.loop r):=hrb;have hsz:cargs.size=r.params.size:=by rw[ha.1,hrp,hlen]
 refine⟨r.fn,_,assign,body,by rw[run_yield hrb' hsz,hra,hrbd],λc cs=>?_⟩;have hfold:=xD (n:=n) (R:=Rep M0 ⟨m,h,w⟩) ps.toList cargs.toList args r.tmps tmps hrn (λp hp=>by
   simp only[nT,kK,decide_eq_true_eq]at hps
   exact hps p hp) (by simpa using ha.1) (λi x hx=>by simpa using ha.2 i x hx) hrt
 obtain⟨T,hTdef⟩:∃T,T=(r.params.zip cargs).foldl (λtmps (x:Tmp×Value)=>tmps.setIfInBounds x.1 x.2) r.tmps:=⟨_,rfl⟩
 have hT2:T=(ps.toList.zip cargs.toList).foldl (λT (x:Tmp×Value)=>T.setIfInBounds x.1 x.2) r.tmps:=by rw[hTdef,Nl,hrp]
 rw[<-hT2]at hfold;rw[<-hTdef];have hround:Frame.round bl' r.fn T assign body .normal=({ (default:Frame) with fn:=r.fn,kind:=.normal,roundOf:=some bl' }).atR { tmps:=T,defers:=[] } [.code assign,.beginRound,.code body]:=rfl;rw[hround];obtain⟨b,hb⟩:∃b:Frame,b={ (default:Frame) with fn:=r.fn,kind:=.normal,roundOf:=some bl' }:=⟨_,rfl⟩
 have hbr:b.roundOf=some bl':=by rw[hb]
 have hbk:b.kind=.normal:=by rw[hb]
 rw[<-hb]
 have hr0:Rel P M0 ⟨m,h,w⟩ b (c::cs) m { n:=n,bs:=h.length,rc:=.rnd,tmps:=gx tmps ps.toList args,h:=h,df:=[] } { tmps:=T,defers:=[] } w:=
  {size:=hfold.1,tmps:=hfold.2,hok:=hS,ev:=Ev.refl _ _,le:=⟨bi _,by rw[hb];exact hrf⟩,df:=trivial,rc:=⟨by rw[hbr];rfl,hbk⟩ }
 obtain⟨e,A1,m1,a1,w1,hq,hn1,hr1,harr⟩:=zc hD assign (k:=[.beginRound,.code body]) hoka hr0 rfl hw
 cases e with
 |exit id=>exact hq.elim
 |ret=>exact hq.elim
 |panic v=>exact hq.elim
 |normal=>
  obtain⟨hbs1,hob1,hK⟩:=hq;have hlt:l<h.length:=(ax.1 ho).1;have block:∀{m':List (Option Nat)} {h':Heap} {w':World} {x:AObj},Ev h.length ⟨m,h,w⟩ ⟨m',h',w'⟩->h'[l]?=some x->x.tag=some .yl->m'.getD l none=some bl':=by
   intro m' h' w' x hev hx htag;obtain⟨o',ho',hoe⟩:=hev.obj l _ hlt ho;have:o'=x:=by
    have e:h'[l]?=some o':=ho';rw[hx]at e;cases e;rfl
   subst this;rcases hoe with he|⟨_,_,_,he,_⟩|⟨_,_,he⟩
   .rw[he]at htag;cases htag
   .cases he
   .exact he.trans hbl
  have bs_of:∀{m':List (Option Nat)} {A':AAct} {a':Act} {w':World},Rel P M0 ⟨m,h,w⟩ b (c::cs) m' A' a' w'->A'.bs=h.length->Ev h.length ⟨m,h,w⟩ ⟨m',A'.h,w'⟩:=by
   intro m' A' a' w' hr hbs;have:=hr.ev;rwa [hbs]at this
  have hB:wp P H body (sD n tmps ps assign body l h.length R) { A1 with h:=A1.h.set l (.loop n tmps ps assign body .busy none) }:=hK;have hm1:=block (bs_of hr1 hbs1) hob1 rfl;obtain⟨bl1,r1,e1,hr1b,hr1n,hr1t,hr1p,hr1a,hr1bd,hr1s,hr1pd,hr1f⟩:=hr1.hok.obj l _ hob1;have:bl1=bl':=by
   have e:m1.getD l none=some bl1:=e1;rw[hm1]at e;cases e;rfl
  subst this;have hr1b':w1.heap[bl1]?=some (.loop r1):=hr1b;have hbegin:=run_beginRound (P:=P) hr1b' hr1s
  obtain⟨hk2,hev2⟩:=jB (S:=⟨m1,A1.h,w1⟩) hr1.hok (o:=.loop n tmps ps assign body .busy none) (ob:=.loop { r1 with state:=.busy }) hm1 hob1 hr1b (t8 hr1b) (by intro C T f;simp)
   (.inr (.inr ⟨by simp[AObj.tag],rfl,rfl⟩)) (λhev hx=>⟨bl1,{ r1 with state:=.busy },rfl,hx,hr1n,λt=>hev.keep (hr1t t),hr1p,hr1a,hr1bd,rfl,hr1pd,hr1f⟩)
  have hr2:=hr1.ahead hev2 hk2;obtain⟨e,A3,m3,a3,w3,hq3,hn3,hr3,harr3⟩:=zc hD body (k:=[]) hokb hr2 (show A1.n=n from hn1) hB;have hrc1:bv A1.rc (c::cs)=c::cs:=by
   have:=hr1.rc
   cases hc:A1.rc with
   |got v=>rw[hc]at this;exact absurd this.1 (by rw[hbr];simp)
   |_=>rfl
  have hrc3:bv A3.rc (c::cs)=c::cs:=by
   have:=hr3.rc
   cases hc:A3.rc with
   |got v=>rw[hc]at this;exact absurd this.1 (by rw[hbr];simp)
   |_=>rfl
  have hcs0:bv Rc.rnd (c::cs)=c::cs:=rfl;have hstart:Steps P (lone (b.atR { tmps:=T,defers:=[] } [.code assign,.beginRound,.code body]) (c::cs) w) (lone (b.atR a1 [.code body]) (c::cs) (w1.putObj bl1 (.loop { r1 with state:=.busy }))):=by
   have h1:Steps P (lone (b.atR { tmps:=T,defers:=[] } [.code assign,.beginRound,.code body]) (bv Rc.rnd (c::cs)) w) (lone (b.atR a1 [.beginRound,.code body]) (bv A1.rc (c::cs)) w1):=harr;rw[hrc1]at h1;exact Steps.trans h1 (.one (stepR_beginRound hbr hbegin))
  have fin:∀(jump:Option Code) (st:LoopState) (t:Bool),(if jump.isNone then LoopState.ready else .done)=st->jump.isNone=t->A3.bs=h.length->(∃st pend,A3.h[l]?=some (.loop n tmps ps assign body st pend)) ->
    R (.ret (.p (.bool t))) (A3.h.set l (.loop n tmps ps assign body st jump)) ->
    (∀v w',(Instr.endRound bl1 jump).run P w3=.ok v w'->Steps P (lone (b.atR a1 [.code body]) (c::cs) (w1.putObj bl1 (.loop { r1 with state:=.busy }))) (lone (c.finish v) cs w')) ->
    ∃e w',rA P M0 ⟨m,h,w⟩ R e w'/\match e with
     |.returned v=>Steps P (lone (b.atR { tmps:=T,defers:=[] } [.code assign,.beginRound,.code body]) (c::cs) w) (lone (c.finish v) cs w')
     |.panicked ch=>Steps P (lone (b.atR { tmps:=T,defers:=[] } [.code assign,.beginRound,.code body]) (c::cs) w) (lone (c.raise ch) cs w')
     |.outgrown=>False:=by
   intro jump st t hst ht hbs3 ⟨st3,pend3,hob3⟩ hR hsteps;have hm3:=block (bs_of hr3 hbs3) hob3 rfl;obtain⟨bl3,r3,e3,hr3b,hr3n,hr3t,hr3p,hr3a,hr3bd,hr3s,hr3pd,hr3f⟩:=hr3.hok.obj l _ hob3;have:bl3=bl1:=by
    have e:m3.getD l none=some bl3:=e3;rw[hm3]at e;cases e;rfl
   subst this;have hr3b':w3.heap[bl3]?=some (.loop r3):=hr3b;have hend:=run_endRound (P:=P) jump hr3b';rw[hst,ht]at hend
   obtain⟨hk4,hev4⟩:=jB (S:=⟨m3,A3.h,w3⟩) hr3.hok (o:=.loop n tmps ps assign body st jump) (ob:=.loop { r3 with state:=st,pending:=jump }) hm3 hob3 hr3b (t8 hr3b) (by intro C T f;simp)
    (.inr (.inr ⟨by simp[AObj.tag],rfl,rfl⟩)) (λhev hx=>⟨bl3,{ r3 with state:=st,pending:=jump },rfl,hx,hr3n,λt=>hev.keep (hr3t t),hr3p,hr3a,hr3bd,rfl,rfl,hr3f⟩)
   refine⟨.returned (.bool t),_,⟨.ret (.p (.bool t)),_,m3,hR,(bs_of hr3 hbs3).trans (hev4.mono (by
     have:=(bs_of hr3 hbs3).len (bi _)
     exact this)),hk4,RepP.bool t⟩,Steps.trans hstart (hsteps _ _ hend)⟩
  have harr3':sa P (Avoid M0 m3) (lone (b.atR a1 [.code body]) (c::cs) (w1.putObj bl1 (.loop { r1 with state:=.busy }))) b [] (c::cs) a3 w3 e:=by
   have h1:sa P (Avoid M0 m3) (lone (b.atR a1 [.code body]) (bv A1.rc (c::cs)) (w1.putObj bl1 (.loop { r1 with state:=.busy }))) b [] (bv A3.rc (c::cs)) a3 w3 e:=harr3;rwa [hrc1,hrc3]at h1
  cases e with
  |panic v=>
   obtain⟨hbs3,hdf3,hR3⟩:=hq3;obtain⟨v',t,hv',hs3⟩:=harr3';have hd3:a3.defers=[]:=by
    have:=hr3.df;rw[hdf3]at this
    cases hd:a3.defers with
    |nil=>rfl
    |cons d ds=>rw[hd]at this;exact this.elim
   refine⟨.panicked [{ v:=v',recovered:=false }],w3,⟨.panic v,A3.h,m3,hR3,bs_of hr3 hbs3,hr3.hok,v',rfl,hv'⟩,Steps.trans hstart (Steps.trans hs3 (.one (step_leave_panicked ⟨rfl,hd3,?_⟩)))⟩
   exact hr3.le.2
  |normal=>exact fin none .ready true rfl rfl hq3.1 hq3.2.1 hq3.2.2 λv w' hend=>Steps.trans harr3' (.one (stepR_round_end hbr hbk hend))
  |ret=>exact fin (some .ret) .done false rfl rfl hq3.1 hq3.2.1 hq3.2.2 λv w' hend=>(by
         obtain⟨k₁,hs⟩:=harr3'
         exact Steps.trans hs (.one (stepR_round_ret hbr hbk hend)))
  |exit id=>exact fin (some (.exit id)) .done false rfl rfl hq3.1 hq3.2.1 hq3.2.2 λv w' hend=>(by
         obtain⟨k₁,hx,hs⟩:=harr3'.2 rfl
         exact Steps.trans hs (.one (stepR_round_exit hbr hbk hx hend)))
end Abs
end Go.Proofs.YtnjiadikeacfaaaGreatDoor
namespace Go.Proofs.YtnjiadikeacfaaaGreatDoor
namespace Abs
variable {P:Program} {H:Hints} {Q:Cont}
def bT (T:Nat->AV):List Nat->List (Nat×AV)->List (Nat×AV)
 |[],l=>l
 |t::r,l=>(t,T t)::bT T r l
theorem LH(T)(l):bT T [] l=l:=rfl
theorem zR(T)(t)(r)(l):bT T (t::r) l=(t,T t)::bT T r l:=rfl
def e8 (A:AAct) (live:List Nat) (l:List (Nat×AV)) (h:Heap):AAct:={ A with tmps:=cK (bT A.tmps live l),h:=h }
def lO (bs:Nat) (df:List ADef) (T:Nat->AV) (h0:Heap) (l:List (Nat×AV)) (h:Heap):Prop:=
 bs<=h.length/\h0.take h.length=h/\(∀p,p∈l->T p.1=p.2/\below h.length p.2)/\(∀o,o∈h->bf h.length o)/\∀x,x∈df->qZ h.length x
theorem pQ{A B}{live}{l}{h}(hn:B.n=A.n)(hb:B.bs=A.bs)(hr:B.rc=A.rc)(hd:B.df=A.df)
  (hk:lO A.bs A.df B.tmps B.h (bT A.tmps live l) h):fJ P B (e8 A live l h):=by
 obtain⟨h1,h2,h3,h4,h5⟩:=hk;have hlen:h.length<=B.h.length:=by
  have:(B.h.take h.length).length=h.length:=by rw[h2]
  simp only[Dv]at this;omega
 have e:e8 A live l h={ B with tmps:=cK (bT A.tmps live l),h:=B.h.take h.length }:=by
  unfold e8;rw[h2];cases A;cases B;simp only at hn hb hr hd;subst hn hb hr hd;rfl
 rw[e];refine Nt h.length (by rw[hb];exact h1) hlen (λt=>?_) (λid o hid ho=>?_) (by rw[hd];exact h5)
 .rcases yx (bT A.tmps live l) t with h6|h6
  .exact .inr h6
  .have:=h3 _ h6;exact .inl ⟨this.1.symm,by rw[this.1];exact this.2⟩
 .refine h4 o ?_;rw[<-h2];exact aT (i:=id) (by rw[jp,if_pos hid];exact ho)
theorem fp{σ}{x}{A}(live)(V)(μ)(M:σ->List (Nat×AV))(hp:σ->Heap)(s0)(hv:V s0)
  (h0:lO A.bs A.df A.tmps A.h (bT A.tmps live (M s0)) (hp s0))
  (hs:∀s,V s->@W ⟨P,H,x,dT (fT P V (λs=>e8 A live (M s) (hp s)) μ s) Q⟩ { n:=A.n,bs:=A.bs,rc:=A.rc,tmps:=cK (bT A.tmps live (M s)),h:=hp s,df:=A.df }) :
  @W ⟨P,H,.loop x,Q⟩ A:=
 MX V (λs=>e8 A live (M s) (hp s)) μ s0 hv (pQ rfl rfl rfl rfl h0) hs
theorem BJ{σ}{x}{A}(live)(V)(μ)(M:σ->List (Nat×AV))(s0)(hv:V s0)
  (h0:lO A.bs A.df A.tmps A.h (bT A.tmps live (M s0)) A.h)
  (hs:∀s,V s->@W ⟨P,H,x,dT (fT P V (λs=>e8 A live (M s) A.h) μ s) Q⟩ { n:=A.n,bs:=A.bs,rc:=A.rc,tmps:=cK (bT A.tmps live (M s)),h:=A.h,df:=A.df }) :
  @W ⟨P,H,.loop x,Q⟩ A:=fp live V μ M (λ_=>A.h) s0 hv h0 hs
theorem bY{σ}{V}{μ}{M:σ->List (Nat×AV)}{hp:σ->Heap}{live}{s}{A B}(s')(h1:V s')(h2:μ s'<μ s)
  (h3:lO A.bs A.df B.tmps B.h (bT A.tmps live (M s')) (hp s')) (hn:B.n=A.n:=by rfl) (hb:B.bs=A.bs:=by rfl) (hr:B.rc=A.rc:=by rfl) (hd:B.df=A.df:=by rfl) :
  @WQ ⟨dT (fT P V (λs=>e8 A live (M s) (hp s)) μ s) Q⟩ .normal B:=⟨s',h1,h2,pQ hn hb hr hd h3⟩
section
variable (n:Nat)
theorem R3(v):below n (.p v)=True:=rfl
theorem MM(id ver i o):below n (.ptr id ver i o)=(id<n):=rfl
theorem Hh(id ver i o):below n (.slice id ver i o)=(id<n):=rfl
theorem ML(k)(id):below n (.ref k id)=(id<n):=rfl
theorem Hf:below n .undef=True:=rfl
theorem Kc(f)(a c):below n (.func f a c)=((∀x,x∈a->dO n x)/\∀x,x∈c->dO n x):=rfl
theorem MN(cs):below n (.agg cs)=∀x,x∈cs->eU n x:=rfl
theorem Hg(cs):below n (.tuple cs)=∀x,x∈cs->fV n x:=rfl
theorem Pb(v):fV n (.p v)=True:=rfl
theorem Kf(id ver i o):fV n (.ptr id ver i o)=(id<n):=rfl
theorem FT(id ver i o):fV n (.slice id ver i o)=(id<n):=rfl
theorem Hk(f)(a c):fV n (.func f a c)=((∀x,x∈a->dO n x)/\∀x,x∈c->dO n x):=rfl
theorem Kg(cs):fV n (.agg cs)=∀x,x∈cs->eU n x:=rfl
theorem Pa(v):eU n (.p v)=True:=rfl
theorem Ke(id ver i o):eU n (.ptr id ver i o)=(id<n):=rfl
theorem zzF(id ver i o):eU n (.slice id ver i o)=(id<n):=rfl
theorem Hi(f)(a c):eU n (.func f a c)=((∀x,x∈a->dO n x)/\∀x,x∈c->dO n x):=rfl
theorem Pc(v):dO n (.p v)=True:=rfl
theorem Kh(id ver i o):dO n (.ptr id ver i o)=(id<n):=rfl
theorem FU(id ver i o):dO n (.slice id ver i o)=(id<n):=rfl
theorem EE(sz)(xs):bf n (.row sz xs)=∀x,x∈xs->below n x:=rfl
theorem EF(T e)(x):bf n (.bld T e x)=dO n x:=rfl
theorem GH(es):bf n (.mp es)=True:=rfl
theorem Da(s)(p):bf n (.strIter s p)=True:=rfl
theorem Db:bf n .dead=True:=rfl
theorem zD:bf n .dblock=True:=rfl
theorem C9(k)(T)(ps)(a b)(st)(pd):bf n (.loop k T ps a b st pd)=∀t,below n (T t):=rfl
theorem GV(f)(args):qZ n (.fn f args)=∀a,a∈args->below n a:=rfl
theorem Fk(id):qZ n (.collected id)=(id<n):=rfl
end
theorem eV{x}{A B}(hw:fJ P A B)(k:@W ⟨P,H,.loop x,Q⟩ B):@W ⟨P,H,.loop x,Q⟩ A:=by
 intro X hX;obtain⟨C,h1,h2⟩:=k X hX;exact⟨C,hw.trans h1,h2⟩
theorem ck{x}{A}(t sz)(ht:A.tmps t=.p .nilslice)(k:@W ⟨P,H,.loop x,Q⟩ { n:=A.n,bs:=A.bs,rc:=A.rc,tmps:=uY A.tmps t (.slice A.h.length 0 0 0),h:=A.h++[.row sz []],df:=A.df }) :
  @W ⟨P,H,.loop x,Q⟩ A:=by
 refine eV (DY sz (T:=uY A.tmps t (.slice A.h.length 0 0 0)) λu=>?_) k;rw[D4];by_cases h:u=t
 .subst h;rw[if_pos rfl];exact .inr ⟨ht,rfl⟩
 .rw[if_neg h];exact .inl rfl
theorem B9{α:Type}(f):∀l:List α,gq (l.map λx=>.p (f x))=some (l.map f)
 |[]=>rfl
 |x::r=>by rw[bD,gq,B9 f r];rfl
theorem mS{α β:Type}(f:α->β)(l:List α):(l.map f).take l.length=l.map f:=by
 rw[gv];simp
def ru (q v:PV):Prop:=q=v\/(q=.nilslice/\∃sz,v=.slice sz [] false)
def rq:List PV->List PV->Prop
 |[],[]=>True
 |q::a,v::b=>ru q v/\rq a b
 |_,_=>False
def rp (q v:PV):Prop:=ru q v\/∃a b,q=.tuple a/\v=.tuple b/\rq a b
theorem ru.rep{q v}(h:ru q v){M}{w}{u}(hr:RepP M w u q):RepP M w u v:=by
 rcases h with rfl|⟨rfl,sz,rfl⟩
 .exact hr
 .cases hr;exact .empty (by simp)
theorem rq.get:∀{a b},rq a b->a.length=b.length/\∀(i:Nat) (v),b[i]?=some v->∃q,a[i]?=some q/\ru q v
 |[],[],_=>⟨rfl,by simp⟩
 |q::a,v::b,h=>by
  obtain⟨h1,h2⟩:=rq.get h.2;refine⟨by simp[h1],λi u hi=>?_⟩
  cases i with
  |zero=>cases hi;exact⟨q,rfl,h.1⟩
  |succ i=>exact h2 i u (by simpa using hi)
 |[],_::_,h=>h.elim
 |_::_,[],h=>h.elim
theorem rp.rep{q v}(h:rp q v){M}{w}{u}(hr:RepP M w u q):RepP M w u v:=by
 rcases h with h|⟨a,b,rfl,rfl,h⟩
 .exact h.rep hr
 .obtain⟨h1,h2⟩:=h.get
  cases hr with
  |tuple hn hr=>
   refine .tuple (by omega) λi c hi=>?_;obtain⟨q,hq,hp⟩:=h2 i c hi;exact hp.rep (hr i q hq)
theorem af.less{f}{args}{q v}(hc:af P f args q)(h:rp q v):af P f args v:=by
 intro M0 w cargs hM hg ha;obtain⟨h1,h2⟩:=hc M0 w cargs hM hg ha;refine⟨h1,h2.mono λe w' he=>?_⟩;obtain⟨v',rfl,hv,hfr⟩:=he;exact⟨v',rfl,h.rep hv,hfr⟩
theorem af.argless{f}{args args'}{v}(hc:af P f args v)(h:rq args' args):af P f args' v:=by
 intro M0 w cargs hM hg ha;obtain⟨h1,h2⟩:=h.get;refine hc M0 w cargs hM hg ⟨by rw[ha.1,h1],λi c hi=>?_⟩;obtain⟨q,hq,hp⟩:=h2 i c hi;exact hp.rep (ha.2 i q hq)
theorem ym(hD:dK P){H}{f}{fn}{c}{pargs}{v}{rs}{n}(hf:P.funcs[f]?=some fn)(hb:fn.body=some c)(hrs:fn.results.toList=rs)(hn:fn.ntmps=n)(hok:cv H fn=true)
  (hlen:pargs.length<=n) (hw:wp P H c (iB P rs 0 (λ_ r h=>∃q,pF h r=some q/\rp q v)) (aW n .no (pargs.map .p) [])):af P f pargs v:=by
 intro M0 w cargs hM hg ha;have ha':dE (Rep M0 ⟨[],[],w⟩) cargs (pargs.map .p):=by
  refine⟨by simpa using ha.1,λi c hc=>?_⟩;simp only[cz,cd]at hc;obtain⟨q,hq,rfl⟩:=hc;exact aF ((ha.2 i q hq).mono (λ_ _ _=>rfl) (λb hb=>by
   rcases hb with hb|hb
   .exact .inl hb
   .simp[Own]at hb))
 have:=jm hD (h:=[]) (R:=λr h=>∃q,pF h r=some q/\rp q v) hf hb hrs hn hok (by simpa using hlen) hw M0 [] w cargs (qn hM hg) ha';refine⟨this.1,this.2.mono λe w' h=>?_⟩;obtain⟨r,h',m',⟨q,hq,hless⟩,hev,hk,hend⟩:=h
 cases e with
 |returned v'=>
  cases r with
  |panic v=>cases hq
  |ret a=>exact⟨v',rfl,hless.rep (qW (S:=⟨m',h',w'⟩) hk hend hq),hev.fr⟩
 |panicked ch=>
  cases r with
  |panic v=>cases hq
  |ret a=>exact hend.elim
 |outgrown=>exact hend.elim
theorem R9{σ}{x}{A}(live)(V)(μ)(M:σ->List (Nat×AV))(hp:σ->Heap->Heap)(s0)(hv:V s0)
  (h0:lO A.bs A.df A.tmps A.h (bT A.tmps live (M s0)) (hp s0 A.h))
  (hs:∀s,V s->@W ⟨P,H,x,dT (fT P V (λs=>e8 A live (M s) (hp s A.h)) μ s) Q⟩ { n:=A.n,bs:=A.bs,rc:=A.rc,tmps:=cK (bT A.tmps live (M s)),h:=hp s A.h,df:=A.df }) :
  @W ⟨P,H,.loop x,Q⟩ A:=fp live V μ M (λs=>hp s A.h) s0 hv h0 hs
theorem tA{A B}{live}{l}{h}(hn:B.n=A.n)(hb:B.bs=A.bs)(hr:B.rc=A.rc)(hd:B.df=A.df)(hh:B.h=h)
  (hk:∀p,p∈bT A.tmps live l->B.tmps p.1=p.2):fJ P B (e8 A live l h):=by
 have e:e8 A live l h={ B with tmps:=cK (bT A.tmps live l) }:=by
  unfold e8;cases A;cases B;simp only at hn hb hr hd hh;subst hn hb hr hd hh;rfl
 rw[e];exact KD _ hk
theorem eO{σ}{x}{A}(live)(V)(μ)(M:σ->List (Nat×AV))(hp:σ->Heap)(s0)(hv:V s0)(hh:A.h=hp s0)
  (h0:∀p,p∈bT A.tmps live (M s0)->A.tmps p.1=p.2)
  (hs:∀s,V s->@W ⟨P,H,x,dT (fT P V (λs=>e8 A live (M s) (hp s)) μ s) Q⟩ { n:=A.n,bs:=A.bs,rc:=A.rc,tmps:=cK (bT A.tmps live (M s)),h:=hp s,df:=A.df }) :
  @W ⟨P,H,.loop x,Q⟩ A:=
 MX V (λs=>e8 A live (M s) (hp s)) μ s0 hv (tA rfl rfl rfl rfl hh h0) hs
theorem br{σ}{V}{μ}{M:σ->List (Nat×AV)}{hp:σ->Heap}{live}{s}{A B}(s')(h1:V s')(h2:μ s'<μ s)(hh:B.h=hp s')
  (h3:∀p,p∈bT A.tmps live (M s')->B.tmps p.1=p.2) (hn:B.n=A.n:=by rfl) (hb:B.bs=A.bs:=by rfl) (hr:B.rc=A.rc:=by rfl) (hd:B.df=A.df:=by rfl) :
  @WQ ⟨dT (fT P V (λs=>e8 A live (M s) (hp s)) μ s) Q⟩ .normal B:=⟨s',h1,h2,tA hn hb hr hd hh h3⟩
section
variable {α τ:Type}
def nP (l:List α) (Inv:List α->List α->τ->Prop) (s:List α×List α×τ):Prop:=l=s.1++s.2.1/\Inv s.1 s.2.1 s.2.2
def g7 {β:Type} (M:List α->τ->β) (s:List α×List α×τ):β:=M s.1 s.2.2
theorem bm{x}{A}(live)(l)(hl:l.length<1000000000)(Inv:List α->List α->τ->Prop)(M)(hp)(t0)(hi:Inv [] l t0)
  (h0:lO A.bs A.df A.tmps A.h (bT A.tmps live (M [] t0)) (hp [] t0))
  (hnil:∀t,Inv l [] t->@W ⟨P,H,x,dT (fT P (nP l Inv) (λs=>e8 A live (g7 M s) (g7 hp s)) (λs=>s.2.1.length) (l,[],t)) Q⟩
   {n:=A.n,bs:=A.bs,rc:=A.rc,tmps:=cK (bT A.tmps live (M l t)),h:=hp l t,df:=A.df })
  (hcons:∀done y r t,l=done++y::r->Inv done (y::r) t->l[done.length]?=some y->((done.length:Int)<(l.length:Int))->IntKind.i64.wrap ((done.length:Int)+1)=(((done++[y]).length:Nat):Int) ->
   @W ⟨P,H,x,dT (fT P (nP l Inv) (λs=>e8 A live (g7 M s) (g7 hp s)) (λs=>s.2.1.length) (done,y::r,t)) Q⟩
    {n:=A.n,bs:=A.bs,rc:=A.rc,tmps:=cK (bT A.tmps live (M done t)),h:=hp done t,df:=A.df }):@W ⟨P,H,.loop x,Q⟩ A:=by
 refine fp live (nP l Inv) (λs=>s.2.1.length) (λs=>M s.1 s.2.2) (λs=>hp s.1 s.2.2) ([],l,t0) ⟨rfl,hi⟩ h0 ?_
 rintro⟨done,rest,t⟩ ⟨e1,e2⟩
 dsimp only at e1 e2
 cases rest with
 |nil=>
  rw[bw]at e1;subst e1
  exact hnil t e2
 |cons y r=>
  have hlen:done.length<l.length:=by rw[e1];simp
  have hg:l[done.length]?=some y:=by rw[e1];simp
  refine hcons done y r t e1 e2 hg (by omega) ?_;have e:((done.length:Int)+1)=(((done++[y]).length:Nat):Int):=by simp
  rw[e];exact IntWalk.i64_in _ ⟨by omega,by simp<;>omega⟩
theorem ei{x}{A}(live)(l)(hl:l.length<1000000000)(Inv:List α->List α->τ->Prop)(M)(t0)(hi:Inv [] l t0)
  (h0:lO A.bs A.df A.tmps A.h (bT A.tmps live (M [] t0)) A.h)
  (hnil:∀t,Inv l [] t->@W ⟨P,H,x,dT (fT P (nP l Inv) (λs=>e8 A live (g7 M s) (g7 (λ_ _=>A.h) s)) (λs=>s.2.1.length) (l,[],t)) Q⟩
   {n:=A.n,bs:=A.bs,rc:=A.rc,tmps:=cK (bT A.tmps live (M l t)),h:=A.h,df:=A.df })
  (hcons:∀done y r t,l=done++y::r->Inv done (y::r) t->l[done.length]?=some y->((done.length:Int)<(l.length:Int))->IntKind.i64.wrap ((done.length:Int)+1)=(((done++[y]).length:Nat):Int) ->
   @W ⟨P,H,x,dT (fT P (nP l Inv) (λs=>e8 A live (g7 M s) (g7 (λ_ _=>A.h) s)) (λs=>s.2.1.length) (done,y::r,t)) Q⟩
    {n:=A.n,bs:=A.bs,rc:=A.rc,tmps:=cK (bT A.tmps live (M done t)),h:=A.h,df:=A.df }):@W ⟨P,H,.loop x,Q⟩ A:=
 bm live l hl Inv M (λ_ _=>A.h) t0 hi h0 hnil hcons
theorem aE{l}{Inv:List α->List α->τ->Prop}{M}{hp}{live}{done r}{y}{t}{A B}
  (e1:l=done++y::r) (t') (hinv:Inv (done++[y]) r t') (h3:lO A.bs A.df B.tmps B.h (bT A.tmps live (M (done++[y]) t')) (hp (done++[y]) t'))
  (hn:B.n=A.n:=by rfl) (hb:B.bs=A.bs:=by rfl) (hr:B.rc=A.rc:=by rfl) (hd:B.df=A.df:=by rfl) :
  @WQ ⟨dT (fT P (nP l Inv) (λs=>e8 A live (g7 M s) (g7 hp s)) (λs=>s.2.1.length) (done,y::r,t)) Q⟩ .normal B:=
 ⟨(done++[y],r,t'),⟨by simp[e1],hinv⟩,by simp,pQ hn hb hr hd h3⟩
end
def UQ (P:Program) (fv:PV) (l:List PV):Prop:=
 ∃(g:FuncId) (first cap:List PV),fv=.func (.func g) first cap/\∀(id:Nat) (Inv:Nat->Heap->Prop) (Fin:Heap->Prop) (h0:Heap),(∀k h,Inv k h->h0.length<=h.length) ->
  (∀(k:Nat) (v:PV) (h:Heap),l[k]?=some v->Inv k h->sC P id [.p v] h (λr h'=>(r=.ret (.p (.bool true))/\Inv (k+1) h')\/(r=.ret (.p (.bool false))/\Fin h'/\h0.length<=h'.length))) ->
  Inv 0 h0->aB P g (first.map .p++[.ref .yl id]++cap.map .p) h0 (λr h'=>r=.ret (.p (.tuple []))/\(Inv l.length h'\/Fin h'))
theorem Yq:IntKind.i64.wrap 0=0:=by decide
theorem Yp:IntKind.i64.wrap 1=1:=by decide
theorem Yo:IntKind.i64.wrap 2=2:=by decide
theorem Yn:IntKind.i64.wrap 3=3:=by decide
theorem Ym:IntKind.i64.wrap 4=4:=by decide
theorem Yl:IntKind.i64.wrap 5=5:=by decide
theorem Yk:IntKind.i64.wrap 6=6:=by decide
theorem Yj:IntKind.i64.wrap 7=7:=by decide
theorem Yi:IntKind.i64.wrap 8=8:=by decide
theorem Yh:IntKind.i64.wrap 9=9:=by decide
theorem XT:IntKind.i64.wrap 10=10:=by decide
theorem XS:IntKind.i64.wrap 11=11:=by decide
theorem XR:IntKind.i64.wrap 12=12:=by decide
theorem am{i}(h0:-9223372036854775808<=i)(h1:i<=9223372036854775807):IntKind.i64.wrap i=i:=IntWalk.i64_in _ ⟨by omega,by omega⟩
theorem j9{a b A B:Int}(ha:0<=a)(hA:a<=A)(hb:0<=b)(hB:b<=B):0<=a*b/\a*b<=A*B:=⟨tu ha hb,AK hA hB hb (by omega)⟩
section
variable {ops:Array Oper} {rest:List Oper} {dst:Option Tmp} {A:AAct}
theorem cp{f}{args}{R}(hc:aB P f args A.h R)(h1:∀v h,R (.ret v) h->@WO ⟨P,H,ops,rest,Q⟩ (A.put dst v h))
  (h2:∀v h,R (.panic v) h->@WQ ⟨Q⟩ (.panic v) { A with h:=h }):@WF ⟨P,H,ops,rest,Q,dst⟩ A f args:=
 hc.mono λr h hr=>by
  cases r with
  |ret v=>exact h1 v h hr
  |panic v=>exact h2 v h hr
theorem ct{f}{args}{v}{h'}(hc:aB P f args A.h (λr h=>r=.ret v/\h=h'))(h1:@WO ⟨P,H,ops,rest,Q⟩ (A.put dst v h')):@WF ⟨P,H,ops,rest,Q,dst⟩ A f args:=
 cp hc (λv h hr=>by obtain⟨e,rfl⟩:=hr;cases e;exact h1) (λv h hr=>by cases hr.1)
theorem pm{l}{args}{R}(hc:sC P l args A.h R)(h1:∀v h,R (.ret v) h->@WO ⟨P,H,ops,rest,Q⟩ (A.put dst v h))
  (h2:∀v h,R (.panic v) h->@WQ ⟨Q⟩ (.panic v) { A with h:=h }):@WR ⟨P,H,ops,rest,Q,dst⟩ A (.yld l args):=by
 refine⟨hc.1,λM0 m w cargs b hS ha hb=>?_⟩;obtain⟨f,tmps,asx,bd,h3,h4⟩:=hc.2 M0 m w cargs b hS ha hb;refine⟨f,tmps,asx,bd,h3,λc cs=>?_⟩;obtain⟨e,w',⟨r,h',m',hR,hrest⟩,hs⟩:=h4 c cs;refine⟨e,w',⟨r,h',m',?_,hrest⟩,hs⟩
 cases r with
 |ret v=>exact h1 v h' hR
 |panic v=>exact h2 v h' hR
end
theorem UL(ops)(rest)(dst)(n bs)(T)(h)(df)(d) :
  @WR ⟨P,H,ops,rest,Q,dst⟩ ⟨n,bs,.no,T,h,df⟩ (.dfr d)=@WO ⟨P,H,ops,rest,Q⟩ (AAct.put ⟨n,bs,.no,T,h,d::df⟩ dst (.p (.tuple [])) h):=propext Iff.rfl
theorem Hs(ops)(rest)(dst)(n bs)(T)(h)(df) :
  @WR ⟨P,H,ops,rest,Q,dst⟩ ⟨n,bs,.none,T,h,df⟩ .recover=@WO ⟨P,H,ops,rest,Q⟩ (AAct.put ⟨n,bs,.none,T,h,df⟩ dst (.p .niliface) h):=propext Iff.rfl
theorem Hr(ops)(rest)(dst)(n bs)(v)(T)(h)(df) :
  @WR ⟨P,H,ops,rest,Q,dst⟩ ⟨n,bs,.pend v,T,h,df⟩ .recover=@WO ⟨P,H,ops,rest,Q⟩ (AAct.put ⟨n,bs,.got v,T,h,df⟩ dst (.p v) h):=propext Iff.rfl
theorem jY(rs:List ResultVar)(R:AEnd->Heap->Prop)(T:Nat->AV)(f:FuncId)(args:List AV)(ds:List ADef)(u:AMode)(h:Heap) :
  cg P rs R T (.fn f args::ds) u h=ju P f args u h λr u' h'=>match r with
   |.ret _=>cg P rs R T ds (xe u') h'
   |.panic v=>u'=.ret/\cg P rs R T ds (.pan v) h':=propext Iff.rfl
theorem bZ(rs)(R)(T)(id)(ds)(u)(h) :
  cg P rs R T (.collected id::ds) u h=(h[id]?=some .dblock/\cg P rs R T ds u (h.set id .dead)):=propext Iff.rfl
theorem ju.mono{f}{args}{u}{h}{R R'}(hc:ju P f args u h R)(hr:∀r u' h',R r u' h'->R' r u' h'):ju P f args u h R':=
 λM0 m w cargs um hS ha hm=>by
  obtain⟨h1,h2⟩:=hc M0 m w cargs um hS ha hm;refine⟨h1,λc cs hc=>?_⟩;obtain⟨e,um',w',fr,⟨r,u',h',m',hR,hrest⟩,hs⟩:=h2 c cs hc;exact⟨e,um',w',fr,⟨r,u',h',m',hr r u' h' hR,hrest⟩,hs⟩
theorem xg{ps}{assign body}{g}{A}{f}{args}{R}(hrc:A.rc=.no)
  (hi:fN (A.eval g) [.ref .yl (A.h.length+1)]=.call f args) (hc:aB P f args (A.h++[.dblock,.loop A.n A.tmps ps assign body .ready none]) R)
  (h1:∀v h,R (.ret v) h->mE Q { A with h:=h,df:=.collected A.h.length::A.df } (A.h.length+1) h[A.h.length+1]?)
  (h2:∀v h,R (.panic v) h->@WQ ⟨Q⟩ (.panic v) { A with h:=h,df:=.collected A.h.length::A.df }):@W ⟨P,H,.rangeFunc g ps assign body,Q⟩ A:=by
 show wp P H (.rangeFunc g ps assign body) Q A;unfold wp;rw[hrc];show vp _ _ _ _ _ _;rw[hi];exact hc.mono λr h hr=>by
  cases r with
  |ret v=>exact h1 v h hr
  |panic v=>exact h2 v h hr
theorem ET(A)(l)(n)(T)(ps)(asx bd)(st)(pend) :
  mE Q A l (some (.loop n T ps asx bd st pend))=(st≠.busy/\uh Q { A with h:=A.h.set l .dead } pend):=propext Iff.rfl
theorem Jw(A):uh Q A none=@WQ ⟨Q⟩ .normal A:=propext Iff.rfl
theorem LM(A):uh Q A (some .ret)=@WQ ⟨Q⟩ .ret A:=propext Iff.rfl
theorem Jx(A)(id):uh Q A (some (.exit id))=@WQ ⟨Q⟩ (.exit id) A:=propext Iff.rfl
theorem MY(n)(tmps)(ps)(assign body)(l bs)(Q)(c)(A) :
  @WQ ⟨It n tmps ps assign body l bs (λA=>wp P H c Q A)⟩ .normal A=(A.bs=bs/\A.h[l]?=some (.loop n tmps ps assign body .ready none)/\@W ⟨P,H,c,Q⟩ { A with h:=A.h.set l (.loop n tmps ps assign body .busy none) }):=propext Iff.rfl
section
variable (n:Nat) (tmps:Nat->AV) (ps:Array Tmp) (assign body:Code) (l bs:Nat) (R:AEnd->Heap->Prop) (A:AAct)
theorem AA:@WQ ⟨sD n tmps ps assign body l bs R⟩ .normal A =
  (A.bs=bs/\(∃st pend,A.h[l]?=some (.loop n tmps ps assign body st pend))/\R (.ret (.p (.bool true))) (A.h.set l (.loop n tmps ps assign body .ready none))):=propext Iff.rfl
theorem Dm(id):@WQ ⟨sD n tmps ps assign body l bs R⟩ (.exit id) A =
  (A.bs=bs/\(∃st pend,A.h[l]?=some (.loop n tmps ps assign body st pend))/\R (.ret (.p (.bool false))) (A.h.set l (.loop n tmps ps assign body .done (some (.exit id))))):=propext Iff.rfl
theorem BK(v):@WQ ⟨sD n tmps ps assign body l bs R⟩ (.panic v) A=(A.bs=bs/\A.df=[]/\R (.panic v) A.h):=propext Iff.rfl
theorem F8:@WQ ⟨sD n tmps ps assign body l bs R⟩ .ret A =
  (A.bs=bs/\(∃st pend,A.h[l]?=some (.loop n tmps ps assign body st pend))/\R (.ret (.p (.bool false))) (A.h.set l (.loop n tmps ps assign body .done (some .ret)))):=propext Iff.rfl
end
theorem C3(T)(l):gx T [] l=T:=by cases l<;>rfl
theorem AZ(T)(p)(ps)(x)(l):gx T (p::ps) (x::l)=gx (uY T p x) ps l:=rfl
end Abs
end Go.Proofs.YtnjiadikeacfaaaGreatDoor
namespace Go.Proofs.YtnjiadikeacfaaaGreatDoor
namespace Abs
variable {P:Program} {H:Hints} {Q:Cont}
def sY (oR oB:AObj) (l bs:Nat) (K:AAct->Prop):Ex->AAct->Prop
 |.normal,A=>A.bs=bs/\A.h[l]?=some oR/\K { A with h:=A.h.set l oB }
 |_,_=>False
def oO (oB oR:AObj) (oD:Code->AObj) (l bs:Nat) (R:AEnd->Heap->Prop):Ex->AAct->Prop
 |.normal,A=>A.bs=bs/\A.h[l]?=some oB/\R (.ret (.p (.bool true))) (A.h.set l oR)
 |.exit id,A=>A.bs=bs/\A.h[l]?=some oB/\R (.ret (.p (.bool false))) (A.h.set l (oD (.exit id)))
 |.ret,A=>A.bs=bs/\A.h[l]?=some oB/\R (.ret (.p (.bool false))) (A.h.set l (oD .ret))
 |.panic v,A=>A.bs=bs/\A.df=[]/\R (.panic v) A.h
theorem Kp(oR oB)(l bs)(c)(A):@WQ ⟨sY oR oB l bs (λA=>wp P H c Q A)⟩ .normal A=(A.bs=bs/\A.h[l]?=some oR/\@W ⟨P,H,c,Q⟩ { A with h:=A.h.set l oB }):=propext Iff.rfl
section
variable (oB oR:AObj) (oD:Code->AObj) (l bs:Nat) (R:AEnd->Heap->Prop) (A:AAct)
theorem yS:@WQ ⟨oO oB oR oD l bs R⟩ .normal A=(A.bs=bs/\A.h[l]?=some oB/\R (.ret (.p (.bool true))) (A.h.set l oR)):=propext Iff.rfl
theorem BL(id):@WQ ⟨oO oB oR oD l bs R⟩ (.exit id) A=(A.bs=bs/\A.h[l]?=some oB/\R (.ret (.p (.bool false))) (A.h.set l (oD (.exit id)))):=propext Iff.rfl
theorem AB(v):@WQ ⟨oO oB oR oD l bs R⟩ (.panic v) A=(A.bs=bs/\A.df=[]/\R (.panic v) A.h):=propext Iff.rfl
theorem Dn:@WQ ⟨oO oB oR oD l bs R⟩ .ret A=(A.bs=bs/\A.h[l]?=some oB/\R (.ret (.p (.bool false))) (A.h.set l (oD .ret))):=propext Iff.rfl
end
def vI (Q:Cont) (A:AAct):Code->Prop
 |.ret=>@WQ ⟨Q⟩ .ret A
 |.exit id=>@WQ ⟨Q⟩ (.exit id) A
 |_=>False
theorem UG{ps}{assign body}{g}{A}{fv}{l}(Inv:AObj->Nat->Heap->Prop)(Fin:Code->Heap->Prop)
  (hrc:A.rc=.no) (hg:A.eval g=.p fv) (hit:UQ P fv l) (hD:dK P) (hps:nT A.n ps=true) (hp1:ps.size=1) (hoka:cU H A.n assign=true) (hokb:cU H A.n body=true)
  (hlen:∀o k h,Inv o k h->A.h.length+2<=h.length) (hat:∀o k h,Inv o k h->h[A.h.length+1]?=some o) (h0:∀o,Inv o 0 (A.h++[.dblock,o]))
  (hround:∀(oR oB) (oD) (k) (v) (h),l[k]?=some v->Inv oR k h ->
   @W ⟨P,H,assign,sY oR oB (A.h.length+1) h.length (λB=>wp P H body (oO oB oR oD (A.h.length+1) h.length
    (λr h'=>(r=.ret (.p (.bool true))/\Inv oR (k+1) h')\/(r=.ret (.p (.bool false))/\∃j,Fin j h'/\h'[A.h.length+1]?=some (oD j)/\A.h.length+2<=h'.length))) B)⟩
    {n:=A.n,bs:=h.length,rc:=.rnd,tmps:=gx A.tmps ps.toList [.p v],h:=h,df:=[] })
  (hend:∀o h,Inv o l.length h->@WQ ⟨Q⟩ .normal { A with h:=h.set (A.h.length+1) .dead,df:=.collected A.h.length::A.df })
  (hfin:∀j h,Fin j h->vI Q { A with h:=h.set (A.h.length+1) .dead,df:=.collected A.h.length::A.df } j):@W ⟨P,H,.rangeFunc g ps assign body,Q⟩ A:=by
 obtain⟨gf,first,cap,rfl,hi⟩:=hit;have hoR:∃oR,oR=AObj.loop A.n A.tmps ps assign body .ready none:=⟨_,rfl⟩
 obtain⟨oR,hR⟩:=hoR
 refine xg (f:=gf) (args:=first.map .p++[.ref .yl (A.h.length+1)]++cap.map .p)
  (R:=λr h=>r=.ret (.p (.tuple []))/\(Inv oR l.length h\/∃j,Fin j h/\h[A.h.length+1]?=some (.loop A.n A.tmps ps assign body .done (some j))))
  hrc (by rw[hg];rfl) ?_ (λv h hr=>?_) λv h hr=>(by cases hr.1)
 .rw[<-hR];refine(hi (A.h.length+1) (Inv oR) (λh=>∃j,Fin j h/\h[A.h.length+1]?=some (.loop A.n A.tmps ps assign body .done (some j))) (A.h++[.dblock,oR]) (λk h hI=>by simpa using hlen _ _ _ hI) (λk v h hv hI=>?_) (h0 oR)).mono λr h hr=>hr;have hat':=hat _ _ _ hI;rw[hR]at hat';refine p7 hD (H:=H) hat' hps (by simpa using hp1) hoka hokb ?_;have:=hround oR (.loop A.n A.tmps ps assign body .busy none) (λj=>.loop A.n A.tmps ps assign body .done (some j)) k v h hv hI;refine jx assign (λe B hB=>?_) this
  cases e with
  |normal=>
   obtain⟨b1,b2,b3⟩:=hB;rw[hR]at b2;refine⟨b1,b2,jx body (λe C hC=>?_) b3⟩
   cases e with
   |normal=>
    obtain⟨c1,c2,c3⟩:=hC;refine⟨c1,⟨_,_,c2⟩,?_⟩;rw[<-hR];rcases c3 with c3|⟨c3,_⟩
    .exact .inl c3
    .cases c3
   |exit id=>
    obtain⟨c1,c2,c3⟩:=hC;refine⟨c1,⟨_,_,c2⟩,?_⟩;rcases c3 with⟨c3,_⟩|⟨c3,j,f1,f2,f3⟩
    .cases c3
    .exact .inr ⟨rfl,⟨j,f1,f2⟩,by simpa using f3⟩
   |ret=>
    obtain⟨c1,c2,c3⟩:=hC;refine⟨c1,⟨_,_,c2⟩,?_⟩;rcases c3 with⟨c3,_⟩|⟨c3,j,f1,f2,f3⟩
    .cases c3
    .exact .inr ⟨rfl,⟨j,f1,f2⟩,by simpa using f3⟩
   |panic v=>
    obtain⟨_,_,c3⟩:=hC
    rcases c3 with⟨c3,_⟩|⟨c3,_⟩<;>cases c3
  |exit id=>exact hB
  |ret=>exact hB
  |panic v=>exact hB
 .obtain⟨hr,hI⟩:=hr;rcases hI with hI|⟨j,f1,f2⟩
  .have hat':=hat _ _ _ hI;rw[hR]at hat';rw[hat'];exact⟨by simp,hend _ _ hI⟩
  .rw[f2];have:=hfin j h f1;refine⟨by simp,?_⟩;cases j<;>first|exact this.elim|exact this
theorem F6{ps}{assign body}{g}{A}{f}{args}{R:AEnd->Heap->Prop}(hrc:A.rc=.no)
  (hi:fN (A.eval g) [.ref .yl (A.h.length+1)]=.call f args) (hD:dK P) (hps:nT A.n ps=true) (hoka:cU H A.n assign=true) (hokb:cU H A.n body=true)
  (hc:∀(oR oB) (oD),
   (∀(asx) (h) (T),ps.size=asx.length->h[A.h.length+1]?=some oR ->
    @W ⟨P,H,assign,sY oR oB (A.h.length+1) h.length (λB=>wp P H body (oO oB oR oD (A.h.length+1) h.length T) B)⟩
     {n:=A.n,bs:=h.length,rc:=.rnd,tmps:=gx A.tmps ps.toList asx,h:=h,df:=[] }->sC P (A.h.length+1) asx h T) ->
   aB P f args (A.h++[.dblock,oR]) (λr h=>R r h/\∀v,r=.ret v->(h[A.h.length+1]?=some oR/\@WQ ⟨Q⟩ .normal { A with h:=h.set (A.h.length+1) .dead,df:=.collected A.h.length::A.df }) \/
    ∃j,h[A.h.length+1]?=some (oD j)/\vI Q { A with h:=h.set (A.h.length+1) .dead,df:=.collected A.h.length::A.df } j))
  (h2:∀v h,R (.panic v) h->@WQ ⟨Q⟩ (.panic v) { A with h:=h,df:=.collected A.h.length::A.df }):@W ⟨P,H,.rangeFunc g ps assign body,Q⟩ A:=by
 have hoR:∃oR,oR=AObj.loop A.n A.tmps ps assign body .ready none:=⟨_,rfl⟩
 obtain⟨oR,hR⟩:=hoR;have key:=hc oR (.loop A.n A.tmps ps assign body .busy none) (λj=>.loop A.n A.tmps ps assign body .done (some j)) ?_
 .rw[hR]at key;refine xg (f:=f) (args:=args) hrc hi key (λv h hr=>?_) λv h hr=>h2 v h hr.1;rw[<-hR]at hr;rcases hr.2 v rfl with⟨h3,h4⟩|⟨j,h3,h4⟩
  .rw[h3,hR];exact⟨by simp,h4⟩
  .rw[h3];refine⟨by simp,?_⟩;cases j<;>first|exact h4.elim|exact h4
 .intro asx h T hlen hat hw;rw[hR]at hat;refine p7 hD (H:=H) hat hps hlen hoka hokb ?_;refine jx assign (λe B hB=>?_) hw
  cases e with
  |normal=>
   obtain⟨b1,b2,b3⟩:=hB;rw[hR]at b2;refine⟨b1,b2,jx body (λe C hC=>?_) b3⟩
   cases e with
   |normal=>
    obtain⟨c1,c2,c3⟩:=hC;refine⟨c1,⟨_,_,c2⟩,?_⟩;rw[<-hR]
    exact c3
   |exit id=>
    obtain⟨c1,c2,c3⟩:=hC
    exact⟨c1,⟨_,_,c2⟩,c3⟩
   |ret=>
    obtain⟨c1,c2,c3⟩:=hC
    exact⟨c1,⟨_,_,c2⟩,c3⟩
   |panic v=>exact hC
  |exit id=>exact hB
  |ret=>exact hB
  |panic v=>exact hB
def Qa (P:Program) (fv:PV) (sz:Nat) (l:List (List PV)):Prop:=
 ∃(g:FuncId) (first cap:List PV),fv=.func (.func g) first cap/\∀(id:Nat) (Inv:Nat->Heap->Prop) (Fin:Heap->Prop) (h0:Heap),id<h0.length ->
  (∀(k:Nat) (xs:List PV) (lo mid:Heap) (j:Nat),l[k]?=some xs->Inv k lo->lo.length=h0.length->mid[j]?=some (.row sz (xs.map .p)) ->
   sC P id [.slice (j+h0.length) xs.length 0 xs.length] (lo++mid) (λr h'=>∃lo' ext,h'=lo'++mid++ext/\lo'.length=h0.length /\
    ((r=.ret (.p (.bool true))/\Inv (k+1) lo')\/(r=.ret (.p (.bool false))/\Fin lo')))) ->
  Inv 0 h0->aB P g (first.map .p++[.ref .yl id]++cap.map .p) h0 (λr h'=>r=.ret (.p (.tuple []))/\∃lo mid,h'=lo++mid/\lo.length=h0.length/\(Inv l.length lo\/Fin lo))
theorem Sb{ps}{assign body}{g}{A}{fv}{sz}{l}(Inv:AObj->Nat->Heap->Prop)(Fin:Code->Heap->Prop)
  (hrc:A.rc=.no) (hg:A.eval g=.p fv) (hit:Qa P fv sz l) (hD:dK P) (hps:nT A.n ps=true) (hp1:ps.size=1) (hoka:cU H A.n assign=true) (hokb:cU H A.n body=true)
  (hat:∀o k h,Inv o k h->h[A.h.length+1]?=some o) (h0:∀o,Inv o 0 (A.h++[.dblock,o]))
  (hround:∀(oR oB) (oD) (k) (xs) (lo mid) (j),l[k]?=some xs->Inv oR k lo->lo.length=A.h.length+2->mid[j]?=some (.row sz (xs.map .p)) ->
   @W ⟨P,H,assign,sY oR oB (A.h.length+1) (lo++mid).length (λB=>wp P H body (oO oB oR oD (A.h.length+1) (lo++mid).length
    (λr h'=>∃lo' ext,h'=lo'++mid++ext/\lo'.length=A.h.length+2/\((r=.ret (.p (.bool true))/\Inv oR (k+1) lo')\/(r=.ret (.p (.bool false))/\∃c,Fin c lo'/\lo'[A.h.length+1]?=some (oD c))))) B)⟩
    {n:=A.n,bs:=(lo++mid).length,rc:=.rnd,tmps:=gx A.tmps ps.toList [.slice (j+(A.h.length+2)) xs.length 0 xs.length],h:=lo++mid,df:=[] })
  (hend:∀o lo mid,Inv o l.length lo->lo.length=A.h.length+2->@WQ ⟨Q⟩ .normal { A with h:=(lo++mid).set (A.h.length+1) .dead,df:=.collected A.h.length::A.df })
  (hfin:∀c lo mid,Fin c lo->lo.length=A.h.length+2->vI Q { A with h:=(lo++mid).set (A.h.length+1) .dead,df:=.collected A.h.length::A.df } c):@W ⟨P,H,.rangeFunc g ps assign body,Q⟩ A:=by
 obtain⟨gf,first,cap,rfl,hi⟩:=hit;have hoR:∃oR,oR=AObj.loop A.n A.tmps ps assign body .ready none:=⟨_,rfl⟩
 obtain⟨oR,hR⟩:=hoR
 refine xg (f:=gf) (args:=first.map .p++[.ref .yl (A.h.length+1)]++cap.map .p)
  (R:=λr h=>r=.ret (.p (.tuple []))/\∃lo mid,h=lo++mid/\lo.length=A.h.length+2/\(Inv oR l.length lo\/∃c,Fin c lo/\lo[A.h.length+1]?=some (.loop A.n A.tmps ps assign body .done (some c))))
  hrc (by rw[hg];rfl) ?_ (λv h hr=>?_) λv h hr=>(by cases hr.1)
 .rw[<-hR];have hl2:(A.h++[.dblock,oR]).length=A.h.length+2:=by simp
  have key:=hi (A.h.length+1) (Inv oR) (λlo=>∃c,Fin c lo/\lo[A.h.length+1]?=some (.loop A.n A.tmps ps assign body .done (some c))) (A.h++[.dblock,oR]) (by simp) (λk xs lo mid j hv hI hlo hj=>?_) (h0 oR)
  .rw[hl2]at key;exact key
  rw[hl2]at hlo |-;have hat':=hat _ _ _ hI;have hat2:(lo++mid)[A.h.length+1]?=some oR:=by rw[aZ (by omega)];exact hat'
  rw[hR]at hat2;refine p7 hD (H:=H) hat2 hps (by simpa using hp1) hoka hokb ?_;have:=hround oR (.loop A.n A.tmps ps assign body .busy none) (λj=>.loop A.n A.tmps ps assign body .done (some j)) k xs lo mid j hv hI hlo hj;refine jx assign (λe B hB=>?_) this
  cases e with
  |normal=>
   obtain⟨b1,b2,b3⟩:=hB;rw[hR]at b2;refine⟨b1,b2,jx body (λe C hC=>?_) b3⟩
   cases e with
   |normal=>
    obtain⟨c1,c2,c3⟩:=hC;refine⟨c1,⟨_,_,c2⟩,?_⟩;rw[<-hR];obtain⟨lo',ext,d1,d2,d3⟩:=c3;refine⟨lo',ext,d1,d2,?_⟩;rcases d3 with d3|⟨d3,_⟩
    .exact .inl d3
    .cases d3
   |exit id=>
    obtain⟨c1,c2,c3⟩:=hC;refine⟨c1,⟨_,_,c2⟩,?_⟩;obtain⟨lo',ext,d1,d2,d3⟩:=c3;refine⟨lo',ext,d1,d2,?_⟩;rcases d3 with⟨d3,_⟩|⟨d3,c,f1,f2⟩
    .cases d3
    .exact .inr ⟨rfl,c,f1,f2⟩
   |ret=>
    obtain⟨c1,c2,c3⟩:=hC;refine⟨c1,⟨_,_,c2⟩,?_⟩;obtain⟨lo',ext,d1,d2,d3⟩:=c3;refine⟨lo',ext,d1,d2,?_⟩;rcases d3 with⟨d3,_⟩|⟨d3,c,f1,f2⟩
    .cases d3
    .exact .inr ⟨rfl,c,f1,f2⟩
   |panic v=>
    obtain⟨_,_,c3⟩:=hC;obtain⟨lo',ext,d1,d2,d3⟩:=c3
    rcases d3 with⟨d3,_⟩|⟨d3,_⟩<;>cases d3
  |exit id=>exact hB
  |ret=>exact hB
  |panic v=>exact hB
 .obtain⟨hr,lo,mid,rfl,hlo,hI⟩:=hr;rcases hI with hI|⟨c,f1,f2⟩
  .have hat':(lo++mid)[A.h.length+1]?=some oR:=by rw[aZ (by omega)];exact hat _ _ _ hI
   rw[hR]at hat';rw[hat'];exact⟨by simp,hend _ _ _ hI hlo⟩
  .have hat':(lo++mid)[A.h.length+1]?=some (.loop A.n A.tmps ps assign body .done (some c)):=by rw[aZ (by omega)];exact f2
   rw[hat'];have:=hfin c lo mid f1 hlo;refine⟨by simp,?_⟩;cases c<;>first|exact this.elim|exact this
theorem Kj(l:List Tmp):(List.toArray l).toList=l:=rfl
end Abs
end Go.Proofs.YtnjiadikeacfaaaGreatDoor
