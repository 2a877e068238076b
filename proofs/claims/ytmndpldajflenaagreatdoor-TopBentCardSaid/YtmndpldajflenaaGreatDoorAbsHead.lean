/- LAWS: a round of a loop over a function, out of what its code comes to.
  LAWS: heads of l -/
import Derived.Test.YtmndpldajflenaaGreatDoorAbsFrzX
set_option linter.all false
namespace Go.Proofs.YtmndpldajflenaaGreatDoor
namespace Abs
variable {P:Program} {M0:Nat->Prop}
theorem tV{n}{R:Value->AV->Prop}:∀(ps) (asx) (xs) (T:Array Value) (F),T.size=n->(∀p,p∈ps->p<n)->asx.length=xs.length ->
  (∀(i) (x),xs[i]?=some x->R (asx.getD i undef) x)->(∀t,R (T.getD t undef) (F t)) ->
  ((ps.zip asx).foldl (λT (x)=>T.setIfInBounds x.1 x.2) T).size=n/\∀t,R (((ps.zip asx).foldl (λT (x)=>T.setIfInBounds x.1 x.2) T).getD t undef) (ip F ps xs t)
 |[],_,_,T,F,hT,_,_,_,hF=>⟨hT,hF⟩
 |p::ps,[],xs,T,F,hT,_,hl,_,hF=>by
  have:xs=[]:=by cases xs<;>simp_all
  subst this
  exact⟨hT,hF⟩
 |p::ps,a::asx,[],T,F,hT,_,hl,_,hF=>by simp at hl
 |p::ps,a::asx,x::xs,T,F,hT,hp,hl,hx,hF=>by
  have hpn:p<n:=hp p (by simp);refine tV ps asx xs (T.setIfInBounds p a) (rQ F p x) (by simpa using hT) (λq hq=>hp q (by simp[hq])) (by simpa using hl) (λi y hy=>by simpa using hx (i+1) y (by simpa using hy)) λt=>?_;rw[zH];by_cases ht:t=p
  .subst ht;have h0:=hx 0 x rfl;simpa[hT,hpn]using h0
  .rw[if_neg ht];have:=hF t;simpa[NU (Ne.symm ht)]using this
theorem Hq(ps:Array Tmp)(asx)(T:Array Value):(ps.zip asx).foldl (λtmps (x)=>tmps.setIfInBounds x.1 x.2) T=(ps.toList.zip asx.toList).foldl (λT (x)=>T.setIfInBounds x.1 x.2) T:=by
 rw[<-Fh];simp
theorem El(hD:eZ P){H}{l n}{tmps}{ps}{assign body}{args}{h}{R}
  (ho:h[l]?=some (.loop n tmps ps assign body .ready none)) (hps:uq n ps=true) (hlen:ps.size=args.length) (hoka:dr H n assign=true) (hokb:dr H n body=true)
  (hw:wp P H assign (Dr n tmps ps assign body l h.length (λA=>wp P H body (pI n tmps ps assign body l h.length R) A)) { n:=n,bs:=h.length,rc:=.rnd,tmps:=ip tmps ps.toList args,h:=h,df:=[] }) :
  Fe P l args h R:=by
 refine⟨⟨_,ho,rfl⟩,λM0 m w cargs bl hS ha hbl=>?_⟩;obtain⟨bl',r,hbl',hrb,hrn,hrt,hrp,hra,hrbd,hrst,hrpd,hrf⟩:=hS.obj l _ ho;have:bl'=bl:=by
  have e:m.getD l none=some bl':=hbl';rw[hbl]at e;cases e;rfl
 subst this;have hrb':w.heap[bl']?=some (.loop r):=hrb;have hsz:cargs.size=r.params.size:=by rw[ha.1,hrp,hlen]
 refine⟨r.fn,_,assign,body,by rw[run_yield hrb' hsz,hra,hrbd],λc cs=>?_⟩;have hfold:=tV (n:=n) (R:=Rep M0 ⟨m,h,w⟩) ps.toList cargs.toList args r.tmps tmps hrn (λp hp=>by
   simp only[uq,iw,decide_eq_true_eq]at hps
   exact hps p hp) (by simpa using ha.1) (λi x hx=>by simpa using ha.2 i x hx) hrt
 obtain⟨T,hTdef⟩:∃T,T=(r.params.zip cargs).foldl (λtmps (x:Tmp×Value)=>tmps.setIfInBounds x.1 x.2) r.tmps:=⟨_,rfl⟩
 have hT2:T=(ps.toList.zip cargs.toList).foldl (λT (x:Tmp×Value)=>T.setIfInBounds x.1 x.2) r.tmps:=by rw[hTdef,Hq,hrp]
 rw[<-hT2]at hfold;rw[<-hTdef];have hround:Frame.round bl' r.fn T assign body .normal=({ (default:Frame) with fn:=r.fn,kind:=.normal,roundOf:=some bl' }).atR { tmps:=T,defers:=[] } [.code assign,.beginRound,.code body]:=rfl;rw[hround];obtain⟨b,hb⟩:∃b:Frame,b={ (default:Frame) with fn:=r.fn,kind:=.normal,roundOf:=some bl' }:=⟨_,rfl⟩
 have hbr:b.roundOf=some bl':=by rw[hb]
 have hbk:b.kind=.normal:=by rw[hb]
 rw[<-hb]
 have hr0:Rel P M0 ⟨m,h,w⟩ b (c::cs) m { n:=n,bs:=h.length,rc:=.rnd,tmps:=ip tmps ps.toList args,h:=h,df:=[] } { tmps:=T,defers:=[] } w:=
  {size:=hfold.1,tmps:=hfold.2,hok:=hS,ev:=Ev.refl _ _,le:=⟨aJ _,by rw[hb];exact hrf⟩,df:=trivial,rc:=⟨by rw[hbr];rfl,hbk⟩ }
 obtain⟨e,A1,m1,a1,w1,hq,hn1,hr1,harr⟩:=zD hD assign (k:=[.beginRound,.code body]) hoka hr0 rfl hw
 cases e with
 |exit id=>exact hq.elim
 |ret=>exact hq.elim
 |panic v=>exact hq.elim
 |normal=>
  obtain⟨hbs1,hob1,hK⟩:=hq;have hlt:l<h.length:=(aA.1 ho).1;have block:∀{m':List (Option Nat)} {h':Heap} {w':World} {x:AObj},Ev h.length ⟨m,h,w⟩ ⟨m',h',w'⟩->h'[l]?=some x->x.tag=some .yl->m'.getD l none=some bl':=by
   intro m' h' w' x hev hx htag;obtain⟨o',ho',hoe⟩:=hev.obj l _ hlt ho;have:o'=x:=by
    have e:h'[l]?=some o':=ho';rw[hx]at e;cases e;rfl
   subst this;rcases hoe with he|⟨_,_,_,he,_⟩|⟨_,_,he⟩
   .rw[he]at htag;cases htag
   .cases he
   .exact he.trans hbl
  have bs_of:∀{m':List (Option Nat)} {A':AAct} {a':Act} {w':World},Rel P M0 ⟨m,h,w⟩ b (c::cs) m' A' a' w'->A'.bs=h.length->Ev h.length ⟨m,h,w⟩ ⟨m',A'.h,w'⟩:=by
   intro m' A' a' w' hr hbs;have:=hr.ev;rwa [hbs]at this
  have hB:wp P H body (pI n tmps ps assign body l h.length R) { A1 with h:=A1.h.set l (.loop n tmps ps assign body .busy none) }:=hK;have hm1:=block (bs_of hr1 hbs1) hob1 rfl;obtain⟨bl1,r1,e1,hr1b,hr1n,hr1t,hr1p,hr1a,hr1bd,hr1s,hr1pd,hr1f⟩:=hr1.hok.obj l _ hob1;have:bl1=bl':=by
   have e:m1.getD l none=some bl1:=e1;rw[hm1]at e;cases e;rfl
  subst this;have hr1b':w1.heap[bl1]?=some (.loop r1):=hr1b;have hbegin:=run_beginRound (P:=P) hr1b' hr1s
  obtain⟨hk2,hev2⟩:=ig (S:=⟨m1,A1.h,w1⟩) hr1.hok (o:=.loop n tmps ps assign body .busy none) (ob:=.loop { r1 with state:=.busy }) hm1 hob1 hr1b (qP hr1b) (by intro C T f;simp)
   (.inr (.inr ⟨by simp[AObj.tag],rfl,rfl⟩)) (λhev hx=>⟨bl1,{ r1 with state:=.busy },rfl,hx,hr1n,λt=>hev.keep (hr1t t),hr1p,hr1a,hr1bd,rfl,hr1pd,hr1f⟩)
  have hr2:=hr1.ahead hev2 hk2;obtain⟨e,A3,m3,a3,w3,hq3,hn3,hr3,harr3⟩:=zD hD body (k:=[]) hokb hr2 (show A1.n=n from hn1) hB;have hrc1:bn A1.rc (c::cs)=c::cs:=by
   have:=hr1.rc
   cases hc:A1.rc with
   |got v=>rw[hc]at this;exact absurd this.1 (by rw[hbr];simp)
   |_=>rfl
  have hrc3:bn A3.rc (c::cs)=c::cs:=by
   have:=hr3.rc
   cases hc:A3.rc with
   |got v=>rw[hc]at this;exact absurd this.1 (by rw[hbr];simp)
   |_=>rfl
  have hcs0:bn Rc.rnd (c::cs)=c::cs:=rfl;have hstart:Steps P (lone (b.atR { tmps:=T,defers:=[] } [.code assign,.beginRound,.code body]) (c::cs) w) (lone (b.atR a1 [.code body]) (c::cs) (w1.putObj bl1 (.loop { r1 with state:=.busy }))):=by
   have h1:Steps P (lone (b.atR { tmps:=T,defers:=[] } [.code assign,.beginRound,.code body]) (bn Rc.rnd (c::cs)) w) (lone (b.atR a1 [.beginRound,.code body]) (bn A1.rc (c::cs)) w1):=harr;rw[hrc1]at h1;exact Steps.trans h1 (.one (stepR_beginRound hbr hbegin))
  have fin:∀(jump:Option Code) (st:LoopState) (t:Bool),(if jump.isNone then LoopState.ready else .done)=st->jump.isNone=t->A3.bs=h.length->(∃st pend,A3.h[l]?=some (.loop n tmps ps assign body st pend)) ->
    R (.ret (.p (.bool t))) (A3.h.set l (.loop n tmps ps assign body st jump)) ->
    (∀v w',(Instr.endRound bl1 jump).run P w3=.ok v w'->Steps P (lone (b.atR a1 [.code body]) (c::cs) (w1.putObj bl1 (.loop { r1 with state:=.busy }))) (lone (c.finish v) cs w')) ->
    ∃e w',oq P M0 ⟨m,h,w⟩ R e w'/\match e with
     |.returned v=>Steps P (lone (b.atR { tmps:=T,defers:=[] } [.code assign,.beginRound,.code body]) (c::cs) w) (lone (c.finish v) cs w')
     |.panicked ch=>Steps P (lone (b.atR { tmps:=T,defers:=[] } [.code assign,.beginRound,.code body]) (c::cs) w) (lone (c.raise ch) cs w')
     |.outgrown=>False:=by
   intro jump st t hst ht hbs3 ⟨st3,pend3,hob3⟩ hR hsteps;have hm3:=block (bs_of hr3 hbs3) hob3 rfl;obtain⟨bl3,r3,e3,hr3b,hr3n,hr3t,hr3p,hr3a,hr3bd,hr3s,hr3pd,hr3f⟩:=hr3.hok.obj l _ hob3;have:bl3=bl1:=by
    have e:m3.getD l none=some bl3:=e3;rw[hm3]at e;cases e;rfl
   subst this;have hr3b':w3.heap[bl3]?=some (.loop r3):=hr3b;have hend:=run_endRound (P:=P) jump hr3b';rw[hst,ht]at hend
   obtain⟨hk4,hev4⟩:=ig (S:=⟨m3,A3.h,w3⟩) hr3.hok (o:=.loop n tmps ps assign body st jump) (ob:=.loop { r3 with state:=st,pending:=jump }) hm3 hob3 hr3b (qP hr3b) (by intro C T f;simp)
    (.inr (.inr ⟨by simp[AObj.tag],rfl,rfl⟩)) (λhev hx=>⟨bl3,{ r3 with state:=st,pending:=jump },rfl,hx,hr3n,λt=>hev.keep (hr3t t),hr3p,hr3a,hr3bd,rfl,rfl,hr3f⟩)
   refine⟨.returned (.bool t),_,⟨.ret (.p (.bool t)),_,m3,hR,(bs_of hr3 hbs3).trans (hev4.mono (by
     have:=(bs_of hr3 hbs3).len (aJ _)
     exact this)),hk4,RepP.bool t⟩,Steps.trans hstart (hsteps _ _ hend)⟩
  have harr3':s6 P (Avoid M0 m3) (lone (b.atR a1 [.code body]) (c::cs) (w1.putObj bl1 (.loop { r1 with state:=.busy }))) b [] (c::cs) a3 w3 e:=by
   have h1:s6 P (Avoid M0 m3) (lone (b.atR a1 [.code body]) (bn A1.rc (c::cs)) (w1.putObj bl1 (.loop { r1 with state:=.busy }))) b [] (bn A3.rc (c::cs)) a3 w3 e:=harr3;rwa [hrc1,hrc3]at h1
  cases e with
  |panic v=>
   obtain⟨hbs3,hdf3,hR3⟩:=hq3;obtain⟨v',t,hv',hs3⟩:=harr3';have hd3:a3.defers=[]:=by
    have:=hr3.df;rw[hdf3]at this
    cases hd:a3.defers with
    |nil=>rfl
    |cons d ds=>rw[hd]at this;exact this.elim
   refine⟨.panicked [{ v:=v',recovered:=false }],w3,⟨.panic v,A3.h,m3,hR3,bs_of hr3 hbs3,hr3.hok,v',rfl,hv'⟩,Steps.trans hstart (Steps.trans hs3 (.one (step_leave_panicked ⟨rfl,hd3,?_⟩)))⟩
   exact hr3.le.2
  |normal=>exact fin none .ready true rfl rfl hq3.1 hq3.2.1 hq3.2.2 λv w' hend=>Steps.trans harr3' (.one (stepR_round_end hbr hbk hend))
  |ret=>exact fin (some .ret) .done false rfl rfl hq3.1 hq3.2.1 hq3.2.2 λv w' hend=>(by
         obtain⟨k₁,hs⟩:=harr3'
         exact Steps.trans hs (.one (stepR_round_ret hbr hbk hend)))
  |exit id=>exact fin (some (.exit id)) .done false rfl rfl hq3.1 hq3.2.1 hq3.2.2 λv w' hend=>(by
         obtain⟨k₁,hx,hs⟩:=harr3'.2 rfl
         exact Steps.trans hs (.one (stepR_round_exit hbr hbk hx hend)))
end Abs
end Go.Proofs.YtmndpldajflenaaGreatDoor
namespace Go.Proofs.YtmndpldajflenaaGreatDoor
namespace Abs
variable {P:Program} {H:Hints} {Q:Cont}
def cl (T:Nat->AV):List Nat->List (Nat×AV)->List (Nat×AV)
 |[],l=>l
 |t::r,l=>(t,T t)::cl T r l
theorem Gk(T)(l):cl T [] l=l:=rfl
theorem Eg(T)(t)(r)(l):cl T (t::r) l=(t,T t)::cl T r l:=rfl
def eP (A:AAct) (live:List Nat) (l:List (Nat×AV)) (h:Heap):AAct:={ A with tmps:=dM (cl A.tmps live l),h:=h }
def mq (bs:Nat) (df:List ADef) (T:Nat->AV) (h0:Heap) (l:List (Nat×AV)) (h:Heap):Prop:=
 bs<=h.length/\h0.take h.length=h/\(∀p,p∈l->T p.1=p.2/\below h.length p.2)/\(∀o,o∈h->bw h.length o)/\∀x,x∈df->nY h.length x
theorem qp{A B}{live}{l}{h}(hn:B.n=A.n)(hb:B.bs=A.bs)(hr:B.rc=A.rc)(hd:B.df=A.df)
  (hk:mq A.bs A.df B.tmps B.h (cl A.tmps live l) h):fy P B (eP A live l h):=by
 obtain⟨h1,h2,h3,h4,h5⟩:=hk;have hlen:h.length<=B.h.length:=by
  have:(B.h.take h.length).length=h.length:=by rw[h2]
  simp only[zj]at this;omega
 have e:eP A live l h={ B with tmps:=dM (cl A.tmps live l),h:=B.h.take h.length }:=by
  unfold eP;rw[h2];cases A;cases B;simp only at hn hb hr hd;subst hn hb hr hd;rfl
 rw[e];refine Hs h.length (by rw[hb];exact h1) hlen (λt=>?_) (λid o hid ho=>?_) (by rw[hd];exact h5)
 .rcases uu (cl A.tmps live l) t with h6|h6
  .exact .inr h6
  .have:=h3 _ h6;exact .inl ⟨this.1.symm,by rw[this.1];exact this.2⟩
 .refine h4 o ?_;rw[<-h2];exact aV (i:=id) (by rw[kh,if_pos hid];exact ho)
theorem aS{σ}{x}{A}(live)(V)(μ)(M:σ->List (Nat×AV))(hp:σ->Heap)(s0)(hv:V s0)
  (h0:mq A.bs A.df A.tmps A.h (cl A.tmps live (M s0)) (hp s0))
  (hs:∀s,V s->@W ⟨P,H,x,dZ (gQ P V (λs=>eP A live (M s) (hp s)) μ s) Q⟩ { n:=A.n,bs:=A.bs,rc:=A.rc,tmps:=dM (cl A.tmps live (M s)),h:=hp s,df:=A.df }) :
  @W ⟨P,H,.loop x,Q⟩ A:=
 Hf V (λs=>eP A live (M s) (hp s)) μ s0 hv (qp rfl rfl rfl rfl h0) hs
theorem ak{σ}{V}{μ}{M:σ->List (Nat×AV)}{hp:σ->Heap}{live}{s}{A B}(s')(h1:V s')(h2:μ s'<μ s)
  (h3:mq A.bs A.df B.tmps B.h (cl A.tmps live (M s')) (hp s')) (hn:B.n=A.n:=by rfl) (hb:B.bs=A.bs:=by rfl) (hr:B.rc=A.rc:=by rfl) (hd:B.df=A.df:=by rfl) :
  @WQ ⟨dZ (gQ P V (λs=>eP A live (M s) (hp s)) μ s) Q⟩ .normal B:=⟨s',h1,h2,qp hn hb hr hd h3⟩
section
variable (n:Nat)
theorem KH(v):below n (.p v)=True:=rfl
theorem G6(id ver i o):below n (.ptr id ver i o)=(id<n):=rfl
theorem CC(id ver i o):below n (.slice id ver i o)=(id<n):=rfl
theorem G5(k)(id):below n (.ref k id)=(id<n):=rfl
theorem CA:below n .undef=True:=rfl
theorem EQ(f)(a c):below n (.func f a c)=((∀x,x∈a->bP n x)/\∀x,x∈c->bP n x):=rfl
theorem G7(cs):below n (.agg cs)=∀x,x∈cs->bS n x:=rfl
theorem CB(cs):below n (.tuple cs)=∀x,x∈cs->de n x:=rfl
theorem ID(v):de n (.p v)=True:=rfl
theorem ET(id ver i o):de n (.ptr id ver i o)=(id<n):=rfl
theorem Bt(id ver i o):de n (.slice id ver i o)=(id<n):=rfl
theorem CF(f)(a c):de n (.func f a c)=((∀x,x∈a->bP n x)/\∀x,x∈c->bP n x):=rfl
theorem EU(cs):de n (.agg cs)=∀x,x∈cs->bS n x:=rfl
theorem IC(v):bS n (.p v)=True:=rfl
theorem ES(id ver i o):bS n (.ptr id ver i o)=(id<n):=rfl
theorem Bs(id ver i o):bS n (.slice id ver i o)=(id<n):=rfl
theorem CD(f)(a c):bS n (.func f a c)=((∀x,x∈a->bP n x)/\∀x,x∈c->bP n x):=rfl
theorem IE(v):bP n (.p v)=True:=rfl
theorem EV(id ver i o):bP n (.ptr id ver i o)=(id<n):=rfl
theorem Bu(id ver i o):bP n (.slice id ver i o)=(id<n):=rfl
theorem An(sz)(xs):bw n (.row sz xs)=∀x,x∈xs->below n x:=rfl
theorem Ao(T e)(x):bw n (.bld T e x)=bP n x:=rfl
theorem Cf(es):bw n (.mp es)=True:=rfl
theorem yA(s)(p):bw n (.strIter s p)=True:=rfl
theorem yB:bw n .dead=True:=rfl
theorem ve:bw n .dblock=True:=rfl
theorem yz(k)(T)(ps)(a b)(st)(pd):bw n (.loop k T ps a b st pd)=∀t,below n (T t):=rfl
theorem Cs(f)(args):nY n (.fn f args)=∀a,a∈args->below n a:=rfl
theorem Bb(id):nY n (.collected id)=(id<n):=rfl
end
theorem mb{x}{A B}(hw:fy P A B)(k:@W ⟨P,H,.loop x,Q⟩ B):@W ⟨P,H,.loop x,Q⟩ A:=by
 intro X hX;obtain⟨C,h1,h2⟩:=k X hX;exact⟨C,hw.trans h1,h2⟩
theorem dq{x}{A}(t sz)(ht:A.tmps t=.p .nilslice)(k:@W ⟨P,H,.loop x,Q⟩ { n:=A.n,bs:=A.bs,rc:=A.rc,tmps:=rQ A.tmps t (.slice A.h.length 0 0 0),h:=A.h++[.row sz []],df:=A.df }) :
  @W ⟨P,H,.loop x,Q⟩ A:=by
 refine mb (zE sz (T:=rQ A.tmps t (.slice A.h.length 0 0 0)) λu=>?_) k;rw[zH];by_cases h:u=t
 .subst h;rw[if_pos rfl];exact .inr ⟨ht,rfl⟩
 .rw[if_neg h];exact .inl rfl
theorem xI{α:Type}(f):∀l:List α,bV (l.map λx=>.p (f x))=some (l.map f)
 |[]=>rfl
 |x::r=>by rw[iu,bV,xI f r];rfl
theorem zM{α β:Type}(f:α->β)(l:List α):(l.map f).take l.length=l.map f:=by
 rw[dz];simp
def oh (q v:PV):Prop:=q=v\/(q=.nilslice/\∃sz,v=.slice sz [] false)
def qd:List PV->List PV->Prop
 |[],[]=>True
 |q::a,v::b=>oh q v/\qd a b
 |_,_=>False
def wq (q v:PV):Prop:=oh q v\/∃a b,q=.tuple a/\v=.tuple b/\qd a b
theorem oh.rep{q v}(h:oh q v){M}{w}{u}(hr:RepP M w u q):RepP M w u v:=by
 rcases h with rfl|⟨rfl,sz,rfl⟩
 .exact hr
 .cases hr;exact .empty (by simp)
theorem qd.get:∀{a b},qd a b->a.length=b.length/\∀(i:Nat) (v),b[i]?=some v->∃q,a[i]?=some q/\oh q v
 |[],[],_=>⟨rfl,by simp⟩
 |q::a,v::b,h=>by
  obtain⟨h1,h2⟩:=qd.get h.2;refine⟨by simp[h1],λi u hi=>?_⟩
  cases i with
  |zero=>cases hi;exact⟨q,rfl,h.1⟩
  |succ i=>exact h2 i u (by simpa using hi)
 |[],_::_,h=>h.elim
 |_::_,[],h=>h.elim
theorem wq.rep{q v}(h:wq q v){M}{w}{u}(hr:RepP M w u q):RepP M w u v:=by
 rcases h with h|⟨a,b,rfl,rfl,h⟩
 .exact h.rep hr
 .obtain⟨h1,h2⟩:=h.get
  cases hr with
  |tuple hn hr=>
   refine .tuple (by omega) λi c hi=>?_;obtain⟨q,hq,hp⟩:=h2 i c hi;exact hp.rep (hr i q hq)
theorem PCall.less{f}{args}{q v}(hc:PCall P f args q)(h:wq q v):PCall P f args v:=by
 intro M0 w cargs hM hg ha;obtain⟨h1,h2⟩:=hc M0 w cargs hM hg ha;refine⟨h1,h2.mono λe w' he=>?_⟩;obtain⟨v',rfl,hv,hfr⟩:=he;exact⟨v',rfl,h.rep hv,hfr⟩
theorem qo{A B}{live}{l}{h}(hn:B.n=A.n)(hb:B.bs=A.bs)(hr:B.rc=A.rc)(hd:B.df=A.df)(hh:B.h=h)
  (hk:∀p,p∈cl A.tmps live l->B.tmps p.1=p.2):fy P B (eP A live l h):=by
 have e:eP A live l h={ B with tmps:=dM (cl A.tmps live l) }:=by
  unfold eP;cases A;cases B;simp only at hn hb hr hd hh;subst hn hb hr hd hh;rfl
 rw[e];exact Fl _ hk
theorem lU{σ}{x}{A}(live)(V)(μ)(M:σ->List (Nat×AV))(hp:σ->Heap)(s0)(hv:V s0)(hh:A.h=hp s0)
  (h0:∀p,p∈cl A.tmps live (M s0)->A.tmps p.1=p.2)
  (hs:∀s,V s->@W ⟨P,H,x,dZ (gQ P V (λs=>eP A live (M s) (hp s)) μ s) Q⟩ { n:=A.n,bs:=A.bs,rc:=A.rc,tmps:=dM (cl A.tmps live (M s)),h:=hp s,df:=A.df }) :
  @W ⟨P,H,.loop x,Q⟩ A:=
 Hf V (λs=>eP A live (M s) (hp s)) μ s0 hv (qo rfl rfl rfl rfl hh h0) hs
theorem g9{σ}{V}{μ}{M:σ->List (Nat×AV)}{hp:σ->Heap}{live}{s}{A B}(s')(h1:V s')(h2:μ s'<μ s)(hh:B.h=hp s')
  (h3:∀p,p∈cl A.tmps live (M s')->B.tmps p.1=p.2) (hn:B.n=A.n:=by rfl) (hb:B.bs=A.bs:=by rfl) (hr:B.rc=A.rc:=by rfl) (hd:B.df=A.df:=by rfl) :
  @WQ ⟨dZ (gQ P V (λs=>eP A live (M s) (hp s)) μ s) Q⟩ .normal B:=⟨s',h1,h2,qo hn hb hr hd hh h3⟩
section
variable {α τ:Type}
def lx (l:List α) (Inv:List α->List α->τ->Prop) (s:List α×List α×τ):Prop:=l=s.1++s.2.1/\Inv s.1 s.2.1 s.2.2
def gD {β:Type} (M:List α->τ->β) (s:List α×List α×τ):β:=M s.1 s.2.2
theorem bt{x}{A}(live)(l)(hl:l.length<1000000000)(Inv:List α->List α->τ->Prop)(M)(hp)(t0)(hi:Inv [] l t0)
  (h0:mq A.bs A.df A.tmps A.h (cl A.tmps live (M [] t0)) (hp [] t0))
  (hnil:∀t,Inv l [] t->@W ⟨P,H,x,dZ (gQ P (lx l Inv) (λs=>eP A live (gD M s) (gD hp s)) (λs=>s.2.1.length) (l,[],t)) Q⟩
   {n:=A.n,bs:=A.bs,rc:=A.rc,tmps:=dM (cl A.tmps live (M l t)),h:=hp l t,df:=A.df })
  (hcons:∀done y r t,l=done++y::r->Inv done (y::r) t->l[done.length]?=some y->((done.length:Int)<(l.length:Int))->IntKind.i64.wrap ((done.length:Int)+1)=(((done++[y]).length:Nat):Int) ->
   @W ⟨P,H,x,dZ (gQ P (lx l Inv) (λs=>eP A live (gD M s) (gD hp s)) (λs=>s.2.1.length) (done,y::r,t)) Q⟩
    {n:=A.n,bs:=A.bs,rc:=A.rc,tmps:=dM (cl A.tmps live (M done t)),h:=hp done t,df:=A.df }):@W ⟨P,H,.loop x,Q⟩ A:=by
 refine aS live (lx l Inv) (λs=>s.2.1.length) (λs=>M s.1 s.2.2) (λs=>hp s.1 s.2.2) ([],l,t0) ⟨rfl,hi⟩ h0 ?_
 rintro⟨done,rest,t⟩ ⟨e1,e2⟩
 dsimp only at e1 e2
 cases rest with
 |nil=>
  rw[co]at e1;subst e1
  exact hnil t e2
 |cons y r=>
  have hlen:done.length<l.length:=by rw[e1];simp
  have hg:l[done.length]?=some y:=by rw[e1];simp
  refine hcons done y r t e1 e2 hg (by omega) ?_;have e:((done.length:Int)+1)=(((done++[y]).length:Nat):Int):=by simp
  rw[e];exact IntWalk.i64_in _ ⟨by omega,by simp<;>omega⟩
theorem oe{x}{A}(live)(l)(hl:l.length<1000000000)(Inv:List α->List α->τ->Prop)(M)(t0)(hi:Inv [] l t0)
  (h0:mq A.bs A.df A.tmps A.h (cl A.tmps live (M [] t0)) A.h)
  (hnil:∀t,Inv l [] t->@W ⟨P,H,x,dZ (gQ P (lx l Inv) (λs=>eP A live (gD M s) (gD (λ_ _=>A.h) s)) (λs=>s.2.1.length) (l,[],t)) Q⟩
   {n:=A.n,bs:=A.bs,rc:=A.rc,tmps:=dM (cl A.tmps live (M l t)),h:=A.h,df:=A.df })
  (hcons:∀done y r t,l=done++y::r->Inv done (y::r) t->l[done.length]?=some y->((done.length:Int)<(l.length:Int))->IntKind.i64.wrap ((done.length:Int)+1)=(((done++[y]).length:Nat):Int) ->
   @W ⟨P,H,x,dZ (gQ P (lx l Inv) (λs=>eP A live (gD M s) (gD (λ_ _=>A.h) s)) (λs=>s.2.1.length) (done,y::r,t)) Q⟩
    {n:=A.n,bs:=A.bs,rc:=A.rc,tmps:=dM (cl A.tmps live (M done t)),h:=A.h,df:=A.df }):@W ⟨P,H,.loop x,Q⟩ A:=
 bt live l hl Inv M (λ_ _=>A.h) t0 hi h0 hnil hcons
theorem aq{l}{Inv:List α->List α->τ->Prop}{M}{hp}{live}{done r}{y}{t}{A B}
  (e1:l=done++y::r) (t') (hinv:Inv (done++[y]) r t') (h3:mq A.bs A.df B.tmps B.h (cl A.tmps live (M (done++[y]) t')) (hp (done++[y]) t'))
  (hn:B.n=A.n:=by rfl) (hb:B.bs=A.bs:=by rfl) (hr:B.rc=A.rc:=by rfl) (hd:B.df=A.df:=by rfl) :
  @WQ ⟨dZ (gQ P (lx l Inv) (λs=>eP A live (gD M s) (gD hp s)) (λs=>s.2.1.length) (done,y::r,t)) Q⟩ .normal B:=
 ⟨(done++[y],r,t'),⟨by simp[e1],hinv⟩,by simp,qp hn hb hr hd h3⟩
end
theorem PJ:IntKind.i64.wrap 0=0:=by decide
theorem PI:IntKind.i64.wrap 1=1:=by decide
theorem PH:IntKind.i64.wrap 2=2:=by decide
theorem PG:IntKind.i64.wrap 3=3:=by decide
theorem PF:IntKind.i64.wrap 4=4:=by decide
theorem PE:IntKind.i64.wrap 5=5:=by decide
theorem PD:IntKind.i64.wrap 6=6:=by decide
theorem PC:IntKind.i64.wrap 7=7:=by decide
theorem PB:IntKind.i64.wrap 8=8:=by decide
theorem PA:IntKind.i64.wrap 9=9:=by decide
theorem O5:IntKind.i64.wrap 10=10:=by decide
theorem O4:IntKind.i64.wrap 11=11:=by decide
theorem O3:IntKind.i64.wrap 12=12:=by decide
theorem aj{i}(h0:-9223372036854775808<=i)(h1:i<=9223372036854775807):IntKind.i64.wrap i=i:=IntWalk.i64_in _ ⟨by omega,by omega⟩
section
variable {ops:Array Oper} {rest:List Oper} {dst:Option Tmp} {A:AAct}
theorem nh{f}{args}{R}(hc:aN P f args A.h R)(h1:∀v h,R (.ret v) h->@WO ⟨P,H,ops,rest,Q⟩ (A.put dst v h))
  (h2:∀v h,R (.panic v) h->@WQ ⟨Q⟩ (.panic v) { A with h:=h }):@WF ⟨P,H,ops,rest,Q,dst⟩ A f args:=
 hc.mono λr h hr=>by
  cases r with
  |ret v=>exact h1 v h hr
  |panic v=>exact h2 v h hr
theorem fj{f}{args}{v}{h'}(hc:aN P f args A.h (λr h=>r=.ret v/\h=h'))(h1:@WO ⟨P,H,ops,rest,Q⟩ (A.put dst v h')):@WF ⟨P,H,ops,rest,Q,dst⟩ A f args:=
 nh hc (λv h hr=>by obtain⟨e,rfl⟩:=hr;cases e;exact h1) (λv h hr=>by cases hr.1)
theorem Hg{l}{args}{R}(hc:Fe P l args A.h R)(h1:∀v h,R (.ret v) h->@WO ⟨P,H,ops,rest,Q⟩ (A.put dst v h))
  (h2:∀v h,R (.panic v) h->@WQ ⟨Q⟩ (.panic v) { A with h:=h }):@WR ⟨P,H,ops,rest,Q,dst⟩ A (.yld l args):=by
 refine⟨hc.1,λM0 m w cargs b hS ha hb=>?_⟩;obtain⟨f,tmps,asx,bd,h3,h4⟩:=hc.2 M0 m w cargs b hS ha hb;refine⟨f,tmps,asx,bd,h3,λc cs=>?_⟩;obtain⟨e,w',⟨r,h',m',hR,hrest⟩,hs⟩:=h4 c cs;refine⟨e,w',⟨r,h',m',?_,hrest⟩,hs⟩
 cases r with
 |ret v=>exact h1 v h' hR
 |panic v=>exact h2 v h' hR
end
theorem MJ(ops)(rest)(dst)(n bs)(T)(h)(df)(d) :
  @WR ⟨P,H,ops,rest,Q,dst⟩ ⟨n,bs,.no,T,h,df⟩ (.dfr d)=@WO ⟨P,H,ops,rest,Q⟩ (AAct.put ⟨n,bs,.no,T,h,d::df⟩ dst (.p (.tuple [])) h):=propext Iff.rfl
theorem CM(ops)(rest)(dst)(n bs)(T)(h)(df) :
  @WR ⟨P,H,ops,rest,Q,dst⟩ ⟨n,bs,.none,T,h,df⟩ .recover=@WO ⟨P,H,ops,rest,Q⟩ (AAct.put ⟨n,bs,.none,T,h,df⟩ dst (.p .niliface) h):=propext Iff.rfl
theorem CL(ops)(rest)(dst)(n bs)(v)(T)(h)(df) :
  @WR ⟨P,H,ops,rest,Q,dst⟩ ⟨n,bs,.pend v,T,h,df⟩ .recover=@WO ⟨P,H,ops,rest,Q⟩ (AAct.put ⟨n,bs,.got v,T,h,df⟩ dst (.p v) h):=propext Iff.rfl
theorem HY(rs:List ResultVar)(R:AEnd->Heap->Prop)(T:Nat->AV)(f:FuncId)(args:List AV)(ds:List ADef)(u:AMode)(h:Heap) :
  dt P rs R T (.fn f args::ds) u h=oW P f args u h λr u' h'=>match r with
   |.ret _=>dt P rs R T ds (tD u') h'
   |.panic v=>u'=.ret/\dt P rs R T ds (.pan v) h':=propext Iff.rfl
theorem lf(rs)(R)(T)(id)(ds)(u)(h) :
  dt P rs R T (.collected id::ds) u h=(h[id]?=some .dblock/\dt P rs R T ds u (h.set id .dead)):=propext Iff.rfl
theorem oW.mono{f}{args}{u}{h}{R R'}(hc:oW P f args u h R)(hr:∀r u' h',R r u' h'->R' r u' h'):oW P f args u h R':=
 λM0 m w cargs um hS ha hm=>by
  obtain⟨h1,h2⟩:=hc M0 m w cargs um hS ha hm;refine⟨h1,λc cs hc=>?_⟩;obtain⟨e,um',w',fr,⟨r,u',h',m',hR,hrest⟩,hs⟩:=h2 c cs hc;exact⟨e,um',w',fr,⟨r,u',h',m',hr r u' h' hR,hrest⟩,hs⟩
theorem KN{ps}{assign body}{g}{A}{f}{args}{R}(hrc:A.rc=.no)
  (hi:eX (A.eval g) [.ref .yl (A.h.length+1)]=.call f args) (hc:aN P f args (A.h++[.dblock,.loop A.n A.tmps ps assign body .ready none]) R)
  (h1:∀v h,R (.ret v) h->kF Q { A with h:=h,df:=.collected A.h.length::A.df } (A.h.length+1) h[A.h.length+1]?)
  (h2:∀v h,R (.panic v) h->@WQ ⟨Q⟩ (.panic v) { A with h:=h,df:=.collected A.h.length::A.df }):@W ⟨P,H,.rangeFunc g ps assign body,Q⟩ A:=by
 show wp P H (.rangeFunc g ps assign body) Q A;unfold wp;rw[hrc];show r8 _ _ _ _ _ _;rw[hi];exact hc.mono λr h hr=>by
  cases r with
  |ret v=>exact h1 v h hr
  |panic v=>exact h2 v h hr
theorem AF(A)(l)(n)(T)(ps)(asx bd)(st)(pend) :
  kF Q A l (some (.loop n T ps asx bd st pend))=(st≠.busy/\qV Q { A with h:=A.h.set l .dead } pend):=propext Iff.rfl
theorem Eh(A):qV Q A none=@WQ ⟨Q⟩ .normal A:=propext Iff.rfl
theorem Gn(A):qV Q A (some .ret)=@WQ ⟨Q⟩ .ret A:=propext Iff.rfl
theorem Ei(A)(id):qV Q A (some (.exit id))=@WQ ⟨Q⟩ (.exit id) A:=propext Iff.rfl
theorem Hh(n)(tmps)(ps)(assign body)(l bs)(Q)(c)(A) :
  @WQ ⟨Dr n tmps ps assign body l bs (λA=>wp P H c Q A)⟩ .normal A=(A.bs=bs/\A.h[l]?=some (.loop n tmps ps assign body .ready none)/\@W ⟨P,H,c,Q⟩ { A with h:=A.h.set l (.loop n tmps ps assign body .busy none) }):=propext Iff.rfl
section
variable (n:Nat) (tmps:Nat->AV) (ps:Array Tmp) (assign body:Code) (l bs:Nat) (R:AEnd->Heap->Prop) (A:AAct)
theorem v8:@WQ ⟨pI n tmps ps assign body l bs R⟩ .normal A =
  (A.bs=bs/\(∃st pend,A.h[l]?=some (.loop n tmps ps assign body st pend))/\R (.ret (.p (.bool true))) (A.h.set l (.loop n tmps ps assign body .ready none))):=propext Iff.rfl
theorem yH(id):@WQ ⟨pI n tmps ps assign body l bs R⟩ (.exit id) A =
  (A.bs=bs/\(∃st pend,A.h[l]?=some (.loop n tmps ps assign body st pend))/\R (.ret (.p (.bool false))) (A.h.set l (.loop n tmps ps assign body .done (some (.exit id))))):=propext Iff.rfl
theorem xr(v):@WQ ⟨pI n tmps ps assign body l bs R⟩ (.panic v) A=(A.bs=bs/\A.df=[]/\R (.panic v) A.h):=propext Iff.rfl
theorem BK:@WQ ⟨pI n tmps ps assign body l bs R⟩ .ret A =
  (A.bs=bs/\(∃st pend,A.h[l]?=some (.loop n tmps ps assign body st pend))/\R (.ret (.p (.bool false))) (A.h.set l (.loop n tmps ps assign body .done (some .ret)))):=propext Iff.rfl
end
theorem yv(T)(l):ip T [] l=T:=by cases l<;>rfl
theorem wT(T)(p)(ps)(x)(l):ip T (p::ps) (x::l)=ip (rQ T p x) ps l:=rfl
end Abs
end Go.Proofs.YtmndpldajflenaaGreatDoor
namespace Go.Proofs.YtmndpldajflenaaGreatDoor
namespace Abs
variable {P:Program} {H:Hints} {Q:Cont}
def Ds (oR oB:AObj) (l bs:Nat) (K:AAct->Prop):Ex->AAct->Prop
 |.normal,A=>A.bs=bs/\A.h[l]?=some oR/\K { A with h:=A.h.set l oB }
 |_,_=>False
def rY (oB oR:AObj) (oD:Code->AObj) (l bs:Nat) (R:AEnd->Heap->Prop):Ex->AAct->Prop
 |.normal,A=>A.bs=bs/\A.h[l]?=some oB/\R (.ret (.p (.bool true))) (A.h.set l oR)
 |.exit id,A=>A.bs=bs/\A.h[l]?=some oB/\R (.ret (.p (.bool false))) (A.h.set l (oD (.exit id)))
 |.ret,A=>A.bs=bs/\A.h[l]?=some oB/\R (.ret (.p (.bool false))) (A.h.set l (oD .ret))
 |.panic v,A=>A.bs=bs/\A.df=[]/\R (.panic v) A.h
theorem E4(oR oB)(l bs)(c)(A):@WQ ⟨Ds oR oB l bs (λA=>wp P H c Q A)⟩ .normal A=(A.bs=bs/\A.h[l]?=some oR/\@W ⟨P,H,c,Q⟩ { A with h:=A.h.set l oB }):=propext Iff.rfl
section
variable (oB oR:AObj) (oD:Code->AObj) (l bs:Nat) (R:AEnd->Heap->Prop) (A:AAct)
theorem uH:@WQ ⟨rY oB oR oD l bs R⟩ .normal A=(A.bs=bs/\A.h[l]?=some oB/\R (.ret (.p (.bool true))) (A.h.set l oR)):=propext Iff.rfl
theorem xt(id):@WQ ⟨rY oB oR oD l bs R⟩ (.exit id) A=(A.bs=bs/\A.h[l]?=some oB/\R (.ret (.p (.bool false))) (A.h.set l (oD (.exit id)))):=propext Iff.rfl
theorem we(v):@WQ ⟨rY oB oR oD l bs R⟩ (.panic v) A=(A.bs=bs/\A.df=[]/\R (.panic v) A.h):=propext Iff.rfl
theorem yI:@WQ ⟨rY oB oR oD l bs R⟩ .ret A=(A.bs=bs/\A.h[l]?=some oB/\R (.ret (.p (.bool false))) (A.h.set l (oD .ret))):=propext Iff.rfl
end
def Gm (Q:Cont) (A:AAct):Code->Prop
 |.ret=>@WQ ⟨Q⟩ .ret A
 |.exit id=>@WQ ⟨Q⟩ (.exit id) A
 |_=>False
theorem EY(l:List Tmp):(List.toArray l).toList=l:=rfl
end Abs
end Go.Proofs.YtmndpldajflenaaGreatDoor
