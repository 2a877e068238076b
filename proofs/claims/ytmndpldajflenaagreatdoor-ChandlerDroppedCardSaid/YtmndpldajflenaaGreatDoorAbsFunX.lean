/- CONTRACTS of the program's functions, and laws on what they return. No conditions but those in the theorems' heads. -/
import Derived.Test.YtmndpldajflenaaGreatDoorAbsStepX
import Derived.RangeFuncLeaves
set_option linter.all false
namespace Go.Proofs.YtmndpldajflenaaGreatDoor
namespace Abs
variable {P:Program} {M0:Nat->Prop}
def Fx (P:Program) (M0:Nat->Prop) (S:Mem) (T:TypeId) (v:Value):OR->Prop
 |.val y _=>∃ad v',v=.pointer (some ad)/\(loadVar T ad).run P S.w=.ok v' S.w/\Rep M0 S v' y
 |.stuck=>True
 |_=>False
theorem Fx.opt{S}{T}{a}{v}(h:∀x,v=some x->∃v',(loadVar T a).run P S.w=.ok v' S.w/\Rep M0 S v' x):Fx P M0 S T (.pointer (some a)) (ii S.h v):=by
 cases v with
 |none=>exact trivial
 |some x=>obtain⟨v',i,e⟩:=h x rfl;exact⟨a,v',rfl,i,e⟩
theorem M6{S}(U:HOk P M0 S){T}{x}{v}(hx:Rep M0 S v x):Fx P M0 S T v (nx P T x S.h):=by
 unfold nx;split
 .rename_i sz xs i o;split
  .rename_i y l;have h:RepP (Avoid M0 S.m) S.w v (.ptr sz xs i o):=hx
   cases h with
   |ptr f I F Z O M=>
    rename_i b off at_;refine Fx.opt λz E=>?_;have hi:=(aB.1 l).1;have a:=F y (aG l);have A:gO M0 S (λj=>f (i*sz+j)) (y.cells.map .p):=by
     intro j c D;simp only[cW,bC]at D;obtain⟨q,J,rfl⟩:=D;exact⟨a.2 q (aG J),M i j y q l J⟩
    have K:(y.cells.map AV.p).length=sz:=by simpa using a.1
    exact sV (P:=P) (λj=>f (i*sz+j)) (b:=b) (at_:=at_) (w9 a) A (λj D=>by
     rw[<-O (i*sz+(o+j)) (im hi (by omega)),I]
     simp only[gW]) E
  .exact trivial
 .rename_i id Y i o;split
  .rename_i sz xs u;split
   .rename_i L;split
    .rename_i y l;obtain⟨b,N,rfl⟩:=cm hx.2 u L;refine Fx.opt λz E=>?_;obtain⟨C,T',R,e,G⟩:=fj U u N;obtain⟨cs,X,h6,V⟩:=G i y l;have hi:=(aB.1 l).1;exact sV (P:=P) (λj=>C.getD (i*sz+j) undef) (b:=b) (at_:=i*sz+o) X V (λj D=>by
      rw[gW]
      exact i6 R _ (gk (im hi (by omega)) e)) E
    .exact trivial
   .exact trivial
  .exact trivial
 .exact trivial
def AV.single:AV->Bool
 |.tuple _=>false
 |_=>true
def JB (P:Program) (h:Heap) (tmps:Nat->AV):ResultVar->Option AV
 |.tmp t=>some (tmps t)
 |.cell a T=>match nx P T (tmps a) h with|.val v _=>some v|_=>none
def la (P:Program) (h:Heap) (tmps:Nat->AV):List ResultVar->Option (List AV)
 |[]=>some []
 |r::rs=>match JB P h tmps r,la P h tmps rs with|some v,some l=>if v.single=true then some (v::l) else none|_,_=>none
def nY:Option (List AV)->Option AV
 |some [v]=>some v
 |some l=>some (pX l)
 |none=>none
theorem z8{S}{v}{x}(hx:x.single=true)(h:Rep M0 S v x):cO M0 S v x:=by
 cases x<;>first|exact h|cases hx
def Dv (tmps:Array Value):ResultVar->Sem Value
 |.tmp t=>pure (tmps.getD t undef)
 |.cell a t=>do loadVar t (<-asAddr (tmps.getD a undef))
theorem In(fn)(tmps):results fn tmps=(fn.results.mapM (Dv tmps) >>= λa=>pure (if h:a.size=1 then a[0] else .tuple a)):=by
 unfold results;refine congrArg (· >>= _) (congrArg (λg=>Array.mapM g fn.results) ?_);funext r;cases r<;>rfl
theorem Ff{S}(u:HOk P M0 S){tmps}{T}(o:∀t,Rep M0 S (tmps.getD t undef) (T t)):∀(rs) (l),la P S.h T rs=some l ->
  ∃j,(rs.mapM (Dv tmps)).run P S.w=.ok j S.w/\j.length=l.length/\∀(i) (c),l[i]?=some c->Rep M0 S (j.getD i undef) c/\c.single=true
 |[],l,h=>by
  cases h
  exact⟨[],by simp,rfl,by simp⟩
 |r::rs,l,h=>by
  unfold la at h;split at h
  .rename_i v z e K;split at h
   .rename_i D;cases h;obtain⟨j,J,I,G⟩:=Ff u o rs z K;have C:∃v',(Dv tmps r).run P S.w=.ok v' S.w/\Rep M0 S v' v:=by
     cases r with
     |tmp t=>cases e;exact⟨_,by simp[Dv],o t⟩
     |cell a t=>
      unfold JB at e;dsimp only at e;have q:=M6 (P:=P) (T:=t) u (o a);split at e
      .rename_i y hh A;cases e;rw[A]at q;obtain⟨O,v',N,M,L⟩:=q;exact⟨v',by simp[Dv,N,asAddr,M],L⟩
      .cases e
    obtain⟨v',F,E⟩:=C;refine⟨v'::j,?_,by simp[I],λi c hi=>?_⟩
    .rw[List.mapM_cons];simp only[Sem.run_bind,F,Result.andThen,J];simp
    .cases i with
     |zero=>cases hi;exact⟨E,D⟩
     |succ i=>exact G i c hi
   .cases h
  .cases h
theorem FM{S}(E:HOk P M0 S){fn}{tmps}{T}(D:∀t,Rep M0 S (tmps.getD t undef) (T t)){v}(h:nY (la P S.h T fn.results.toList)=some v) :
  ∃v',(results fn tmps).run P S.w=.ok v' S.w/\Rep M0 S v' v:=by
 cases j:la P S.h T fn.results.toList with
 |none=>rw[j]at h;cases h
 |some l=>
  rw[j]at h;obtain⟨a,G,C,A⟩:=Ff E D _ _ j;have e:(results fn tmps).run P S.w=.ok (if h:a.toArray.size=1 then a.toArray[0] else .tuple a.toArray) S.w:=by
   rw[In,Array.mapM_eq_mapM_toList];simp only[map_eq_pure_bind,Sem.run_bind,Sem.run_pure,Result.andThen,G]
  refine⟨_,e,?_⟩;by_cases q:l.length=1
  .obtain⟨y,rfl⟩:=xT.1 q;have o:a.length=1:=C;obtain⟨u,rfl⟩:=xT.1 o;cases h;simpa using(A 0 _ rfl).1
  .have o:¬a.toArray.size=1:=by simp;omega
   have F:v=pX l:=by
    cases l with
    |nil=>cases h;rfl
    |cons y l=>cases l with
     |nil=>exact absurd rfl q
     |cons z l=>cases h;rfl
   rw[dif_neg o,F];refine F0 ⟨by simp[C],λi c hi=>?_⟩;have:=A i c hi;refine z8 this.2 ?_;simpa[ji,cr]using this.1
end Abs
end Go.Proofs.YtmndpldajflenaaGreatDoor
namespace Go.Proofs.YtmndpldajflenaaGreatDoor
namespace Abs
variable {P:Program} {M0:Nat->Prop}
def ca (P:Program) (rs:List ResultVar) (R:AEnd->Heap->Prop) (tmps:Nat->AV):List ADef->AMode->Heap->Prop
 |[],.ret,h=>match nY (la P h tmps rs) with|some v=>R (.ret v) h|none=>False
 |[],.pan v,h=>R (.panic v) h
 |[],.recd _,_=>False
 |.fn f args::ds,u,h=>jr P f args u h λr u' h'=>match r with
   |.ret _=>ca P rs R tmps ds (vY u') h'
   |.panic v=>u'=.ret/\ca P rs R tmps ds (.pan v) h'
 |.collected id::ds,u,h=>(h[id]?=some .dblock)/\ca P rs R tmps ds u (h.set id .dead)
theorem FZ{S}{a}{u}(h:iG M0 S a u):a≠.run:=by
 cases u with
 |ret=>rw[show a=_ from h];simp
 |pan v=>obtain⟨v',rfl,_⟩:=h;simp
 |recd v=>obtain⟨v',rfl⟩:=h;simp
theorem KO{fn}{R}{T}:∀(ds) (u) (S) (fr) (cs),HOk P M0 S ->
  (∀t,Rep M0 S (fr.tmps.getD t undef) (T t))->iG M0 S fr.mode u->DefsRep P M0 S fr.defers ds->P.funcs[fr.fn]?=some fn->ca P fn.results.toList R T ds u S.h ->
  ∃e w' a,qY P M0 S R e w'/\Steps P (lone fr cs S.w) (lone a cs w')/\a.fn=fr.fn/\a.kind=fr.kind/\e≠.outgrown/\a.going P w' e:=by
 intro ds
 induction ds with
 |nil=>
  intro u S fr cs U ht hm G hf h;have a4:fr.defers=[]:=by
   cases A:fr.defers with
   |nil=>rfl
   |cons d l=>rw[A]at G;exact G.elim
  cases u with
  |ret=>
   unfold ca at h
   cases D:nY (la P S.h T fn.results.toList) with
   |none=>rw[D]at h;exact h.elim
   |some v=>
    rw[D]at h;obtain⟨v',F,I⟩:=FM (P:=P) U (fn:=fn) ht D
    exact⟨.returned v',S.w,fr,⟨.ret v,S.h,S.m,h,Ev.refl _ _,U,I⟩,.refl P _,rfl,rfl,by simp,hm,a4,fn,hf,F⟩
  |pan v=>
   obtain⟨v',F,I⟩:=hm
   exact⟨.panicked [{ v:=v',recovered:=false }],S.w,fr,⟨.panic v,S.h,S.m,h,Ev.refl _ _,U,v',rfl,I⟩,.refl P _,rfl,rfl,by simp,F,a4,fn,hf⟩
  |recd v=>exact h.elim
 |cons d ds ih=>
  intro u S fr cs U ht hm G hf h
  cases A:fr.defers with
  |nil=>rw[A]at G;exact G.elim
  |cons d' C=>
   rw[A]at G;have a2:=FZ hm
   have next:∀(u1:AMode) (V:Mem) (J:FrameMode),Ev S.h.length S V->HOk P M0 V->iG M0 V J u1->ca P fn.results.toList R T ds u1 V.h ->
     Steps P (lone fr cs S.w) (lone { { fr with defers:=C } with mode:=J } cs V.w) ->
     ∃e w' a,qY P M0 S R e w'/\Steps P (lone fr cs S.w) (lone a cs w')/\a.fn=fr.fn/\a.kind=fr.kind/\e≠.outgrown/\a.going P w' e:=by
    intro u1 V J q hk a9 hl hs;obtain⟨e,w',a,⟨r,h',m',hR,a7,b2,i⟩,a8,F,I,h3,h4⟩:=ih u1 V { { fr with defers:=C } with mode:=J } cs hk (λt=>q.keep (ht t)) a9 (q.defsRep G.2) hf hl;exact⟨e,w',a,⟨r,h',m',hR,q.trans (a7.mono (q.len (ba _))),b2,i⟩,hs.trans a8,F,I,h3,h4⟩
   cases d with
   |fn g args=>
    obtain⟨⟨fv,cap,b5,a1,rfl,a6,a0⟩,b3⟩:=G;obtain⟨M,Z⟩:=h M0 S.m S.w a1 fr.mode U a0 hm;have F:=step_defer (P:=P) (fr:=fr) (cs:=cs) (w:=S.w) a2 A rfl ((a6 S.w).trans (M S.w));obtain⟨e,z,w',b6,⟨r,u',h',m',hR,q,hk,i,j⟩,y,b0,a3⟩:=Z { fr with defers:=C } cs rfl
    cases e with
    |outgrown=>exact i.elim
    |returned v'=>
     cases r with
     |panic v=>exact i.elim
     |ret v=>
      have I:=step_going_returned (c:={ { fr with defers:=C } with mode:=z }) (cs:=cs) b0 a3;have a5:iG M0 ⟨m',h',w'⟩ (settle z) (vY u'):=by
       cases u' with
       |ret=>rw[show z=_ from j];rfl
       |pan v2=>
        obtain⟨v3,rfl,h3⟩:=j
        exact⟨v3,by simp[settle],h3⟩
       |recd v2=>
        obtain⟨v3,rfl⟩:=j;show settle _=_;simp[settle]
      exact next (vY u') ⟨m',h',w'⟩ (settle z) q hk a5 hR (.head F (Steps.trans y (.one I)))
    |panicked ch=>
     cases r with
     |ret v=>exact i.elim
     |panic v=>
      obtain⟨v',rfl,hv⟩:=i;obtain⟨rfl,hR⟩:=hR;have I:=step_going_panicked (c:={ { fr with defers:=C } with mode:=z }) (cs:=cs) a3;have L:z=.returning:=j;subst L
      exact next (.pan v) ⟨m',h',w'⟩ (.panicking [{ v:=v',recovered:=false }]) q hk ⟨v',rfl,hv⟩ hR (.head F (Steps.trans y (.one I)))
   |collected id=>
    obtain⟨⟨bl,rfl,b4⟩,b3⟩:=G;obtain⟨X,hl⟩:=h;have K:S.m.getD id none=some bl:=by
     rcases b4 with E|⟨_,K⟩
     .rw[X]at E;cases E
     .exact K
    obtain⟨b7,O,hx⟩:=U.obj id _ X;rw[K]at O;cases O;have Y:=run_takeDeferred (P:=P) (w:=S.w) hx;have F:=step_collected (P:=P) (fr:=fr) (cs:=cs) a2 A rfl Y;obtain⟨b1,N⟩:=jx U (o:=.dead) (ob:=.deferred none) K X hx (Av hx) (by simp) (.inl rfl) (λ_ _=>trivial);refine next u ⟨S.m,S.h.set id .dead,S.w.putObj bl (.deferred none)⟩ fr.mode N b1 (N.mode hm) hl (.one ?_);simpa using F
def Jz (l:List AV) (t:Nat):AV:=match l[t]? with|some v=>v|none=>.p (.tuple [])
def start (n:Nat) (rc:Rc) (args:List AV) (h:Heap):AAct:={ n:=n,bs:=h.length,rc:=rc,tmps:=Jz args,h:=h,df:=[] }
def Sl (P:Program) (rs:List ResultVar) (R:AEnd->Heap->Prop):Ex->AAct->Prop
 |.normal,A=>ca P rs R A.tmps A.df .ret A.h
 |.ret,A=>ca P rs R A.tmps A.df .ret A.h
 |.panic v,A=>ca P rs R A.tmps A.df (.pan v) A.h
 |.exit _,_=>False
theorem A8{h:Heap}{m:List (Option Nat)}{w:World}{args:List AV}{a:Array Value}{n:Nat}{rc:Rc}{b:Frame}{cs0:List Frame}(q:HOk P M0 ⟨m,h,w⟩)(i:dz (Rep M0 ⟨m,h,w⟩) a args)(D:args.length<=n)
  (j:RcRep M0 ⟨m,h,w⟩ b cs0 rc) (l:∃f,P.funcs[b.fn]?=some f):Rel P M0 ⟨m,h,w⟩ b cs0 m (start n rc args h) { tmps:=a++Array.replicate (n-a.size) undef,defers:=[] } w where
 size:=by have:=i.1;simp[start];omega
 tmps:=λt=>by
  show Rep M0 _ _ (Jz args t);unfold Jz;have y:=i.1;split
  .rename_i v e;have A:=(aB.1 e).1;have u:=i.2 t v e;rw[ji,Array.getElem?_append_left (by omega)];rwa [ji]at u
  .rename_i e;have C:args.length<=t:=by simpa using e
   have:(a++Array.replicate (n-a.size) undef).getD t undef=undef:=by
    rw[ji,Array.getElem?_append_right (by omega)]
    cases o:(Array.replicate (n-a.size) undef)[t-a.size]? with
    |none=>rfl
    |some z=>
     rw[Array.getElem?_replicate]at o;split at o<;>simp_all
   rw[this];exact oI _ _
 hok:=q
 ev:=Ev.refl _ _
 le:=⟨ba _,l⟩
 df:=trivial
 rc:=j
theorem EW(hD:dI P){H}{fn}{c}{S}{b}{cs0}{A}{a}{R:Rc->AEnd->Heap->Prop}(hok:cZ H A.n c=true)(X:Rel P M0 S b cs0 S.m A a S.w)
  (T:A.bs=S.h.length) (hf:P.funcs[b.fn]?=some fn) (D:b.roundOf=none) (h:SW P H c (λe B=>B.bs=A.bs/\Sl P fn.results.toList (R B.rc) e B) A) :
  ∃e w' i l,qY P M0 S (R l) e w'/\Steps P (lone (b.atR a [.code c]) (bu A.rc cs0) S.w) (lone i (bu l cs0) w')/\i.fn=b.fn/\i.kind=b.kind/\e≠.outgrown/\i.going P w' e /\
   ∃M,RcRep M0 M b cs0 l:=by
 obtain⟨e,o,K,U,z,⟨I,L⟩,a0,q,y⟩:=h M0 S b cs0 _ S.m a S.w [] hok X rfl;have E:Ev S.h.length S ⟨K,o.h,z⟩:=by have:=q.ev;rwa [I,T]at this
 have out:∀(J:FrameMode) (u:AMode) (j:List Item),iG M0 ⟨K,o.h,z⟩ J u->ca P fn.results.toList (R o.rc) o.tmps o.df u o.h ->
   Steps P (lone (b.atR a [.code c]) (bu A.rc cs0) S.w) (lone { b.atR U j with mode:=J } (bu o.rc cs0) z) ->
   ∃e w' i l,qY P M0 S (R l) e w'/\Steps P (lone (b.atR a [.code c]) (bu A.rc cs0) S.w) (lone i (bu l cs0) w')/\i.fn=b.fn/\i.kind=b.kind/\e≠.outgrown/\i.going P w' e /\
    ∃M:Mem,RcRep M0 M b cs0 l:=by
  intro J u j Y Z C;obtain⟨e,w',i,⟨r,h',m',hR,F,O,G⟩,N,h1,h2,h3,h4⟩:=KO o.df u ⟨K,o.h,z⟩ { b.atR U j with mode:=J } (bu o.rc cs0) q.hok q.tmps Y q.df hf Z;exact⟨e,w',i,o.rc,⟨r,h',m',hR,E.trans (F.mono (E.len (ba _))),O,G⟩,C.trans N,h1,h2,h3,h4,⟨K,o.h,z⟩,q.rc⟩
 cases e with
 |normal=>exact out .returning .ret [] rfl L (Steps.trans y (.one (stepR_end D)))
 |ret=>
  obtain⟨k₁,C⟩:=y
  exact out .returning .ret _ rfl L (Steps.trans C (.one (stepR_ret D)))
 |exit id=>exact L.elim
 |panic v=>
  obtain⟨v',j,V,C⟩:=y;exact out (.panicking [{ v:=v',recovered:=false }]) (.pan v) j ⟨v',rfl,V⟩ L C
def iq (P:Program) (rs:List ResultVar) (n:Nat) (R:Rc->AEnd->Heap->Prop):Ex->AAct->Prop:=λe B=>B.bs=n/\Sl P rs (R B.rc) e B
def cy (H:Hints) (fn:Func):Bool:=
 match fn.body with
 |some c=>cZ H fn.ntmps c&&fn.name != "runtime.NumGoroutine"
 |none=>false
theorem iZ{f}{fn}{H}(e:P.funcs[f]?=some fn)(hok:cy H fn=true)(a)(w):(callFunc f a).run P w=.ok (.enter f a) w:=by
 unfold cy at hok;split at hok
 .rename_i c i;simp only[dQ,bne_iff_ne]at hok;simp[callFunc,program,Sem.run,Result.andThen,e,i,hok.2]
 .cases hok
theorem Et{f}{fn}{c}{a}{kind}(e:P.funcs[f]?=some fn)(i:fn.body=some c) :
  Frame.enter P f a kind=({ (default:Frame) with fn:=f,kind:=kind }).atR { tmps:=a++Array.replicate (fn.ntmps-a.size) undef,defers:=[] } [.code c]:=by
 simp[Frame.enter,Frame.atR,e,i];rfl
theorem Cp{fr:Frame}{w}{e}(a:fr.kind=.normal)(h:fr.going P w e):fr.leaving P w e:=by
 cases e with
 |returned v=>exact⟨h.1,h.2.1,a,h.2.2⟩
 |panicked i=>exact h
 |outgrown=>exact h
theorem wr(F:dI P){H}{f}{fn}{c}{args}{h}{R}{rs}{n}(o:P.funcs[f]?=some fn)(A:fn.body=some c)(u:fn.results.toList=rs)(C:fn.ntmps=n)(hok:cy H fn=true)
  (l:args.length<=n) (hw:SW P H c (iq P rs h.length (λ_=>R)) (start n .no args h)):ar P f args h R:=by
 subst u C;intro M0 m w a E D;refine⟨iZ o hok a,λcs=>?_⟩;have j:cZ H fn.ntmps c=true:=by
  unfold cy at hok;rw[A]at hok;simp only[dQ]at hok;exact hok.1
 obtain⟨e,w',z,i,G,q,L,K,J,I,_⟩:=EW F (S:=⟨m,h,w⟩) (b:={ (default:Frame) with fn:=f,kind:=.normal }) (cs0:=cs) (R:=λ_=>R) j
  (A8 (rc:=.no) E D l rfl ⟨_,o⟩) rfl o rfl hw
 rw[Et o A];have y:bu i cs=cs:=by
  rename_i hx;obtain⟨N,hx⟩:=hx
  cases i with
  |got v=>exact absurd hx.2.1 (by simp)
  |_=>rfl
 rw[y]at q;refine⟨e,w',z,G,?_,L,Cp K I⟩
 cases e with
 |outgrown=>exact absurd rfl J
 |returned v=>exact q
 |panicked M=>exact q
theorem jg(i:dI P){H}{f}{fn}{c}{args}{h}{R}{rs}{n}(l:P.funcs[f]?=some fn)(o:fn.body=some c)(e:fn.results.toList=rs)(j:fn.ntmps=n)(hok:cy H fn=true)
  (a:args.length<=n) (hw:wp P H c (iq P rs h.length (λ_=>R)) (start n .no args h)):ar P f args h R:=
 wr i l o e j hok a (xW i hw)
def mM:AMode->Rc
 |.pan v=>.pend v
 |_=>.none
def ik (u:AMode):Rc->AMode
 |.got _=>match u with|.pan v=>.recd v|u=>u
 |_=>u
theorem wZ{S:Mem}{c:Frame}{cs:List Frame}{u:AMode}(h:iG M0 S c.mode u) :
  match u with
  |.pan v=>∃v',RepP (Avoid M0 S.m) S.w v' v/\recoverD (c::cs)=some (v',{ c with mode:=.panicking [{ v:=v',recovered:=true }] }::cs)
  |_=>recoverD (c::cs)=none:=by
 cases u with
 |ret=>have h':c.mode=.returning:=h;simp[recoverD,h']
 |pan v=>
  obtain⟨v',a,e⟩:=h
  exact⟨v',e,by simp[recoverD,a]⟩
 |recd v=>
  obtain⟨v',a⟩:=h;simp[recoverD,a]
theorem Ga(T:dI P){H}{f}{fn}{c}{args}{u}{h}{R}{rs}{n}(F:P.funcs[f]?=some fn)(O:fn.body=some c)(I:fn.results.toList=rs)(X:fn.ntmps=n)(hok:cy H fn=true)
  (A:args.length<=n) (hw:wp P H c (iq P rs h.length (λrc r h'=>R r (ik u rc) h')) (start n (mM u) args h)):jr P f args u h R:=by
 subst I X;intro M0 m w o um hS Z N;refine⟨iZ F hok o,λc0 cs K=>?_⟩;have z:cZ H fn.ntmps c=true:=by
  unfold cy at hok;rw[O]at hok;simp only[dQ]at hok;exact hok.1
 subst K;have a:=wZ (cs:=cs) N;have J:RcRep M0 ⟨m,h,w⟩ ({ (default:Frame) with fn:=f,kind:=.deferred }) (c0::cs) (mM u):=by
  cases u with
  |ret=>exact⟨rfl,rfl,a⟩
  |recd v=>exact⟨rfl,rfl,a⟩
  |pan v=>
   obtain⟨v',V,G⟩:=a;exact⟨rfl,rfl,v',_,G,V⟩
 obtain⟨e,w',L,j,⟨r,h',m',hR,y,Y,C⟩,E,V,G,h3,h4,S',hx⟩:=EW T (S:=⟨m,h,w⟩) (b:={ (default:Frame) with fn:=f,kind:=.deferred }) (cs0:=c0::cs) (R:=λrc r h'=>R r (ik u rc) h') z
  (A8 (rc:=mM u) hS Z A J ⟨_,F⟩) rfl F rfl (xW T hw)
 rw[Et F O];have D:bu (start fn.ntmps (mM u) args h).rc (c0::cs)=c0::cs:=by cases u<;>rfl
 rw[D]at E;have l:∃i:FrameMode,bu j (c0::cs)={ c0 with mode:=i }::cs/\iG M0 ⟨m',h',w'⟩ i (ik u j):=by
  have same:bu j (c0::cs)=c0::cs->ik u j=u->∃i:FrameMode,bu j (c0::cs)={ c0 with mode:=i }::cs/\iG M0 ⟨m',h',w'⟩ i (ik u j):=by
   intro e1 e2;exact⟨c0.mode,by rw[e1],by rw[e2];exact y.mode N⟩
  cases j with
  |got v=>
   obtain⟨_,_,v',a0,q⟩:=hx
   cases u with
   |ret=>rw[a]at q;cases q
   |recd v2=>rw[a]at q;cases q
   |pan v2=>
    obtain⟨M,U,h7⟩:=a
    exact⟨.panicking [{ v:=M,recovered:=true }],by simp only[bu,h7],M,rfl⟩
  |_=>exact same rfl rfl
 obtain⟨i,q,U⟩:=l;rw[q]at E;refine⟨e,i,w',L,⟨r,_,h',m',hR,y,Y,C,U⟩,?_,G,h4⟩
 cases e with
 |outgrown=>exact absurd rfl h3
 |returned v=>exact E
 |panicked ch=>exact E
def gu (tmps:Nat->AV):List Tmp->List AV->Nat->AV
 |p::ps,x::xs=>gu (uf tmps p x) ps xs
 |_,_=>tmps
def nL (n:Nat) (ps:Array Tmp):Bool:=ps.toList.all λp=>decide (p<n)
def rV (n:Nat) (tmps:Nat->AV) (ps:Array Tmp) (assign body:Code) (l bs:Nat) (R:AEnd->Heap->Prop):Ex->AAct->Prop
 |.normal,A=>A.bs=bs/\(∃st pend,A.h[l]?=some (.loop n tmps ps assign body st pend))/\R (.ret (.p (.bool true))) (A.h.set l (.loop n tmps ps assign body .ready none))
 |.exit id,A=>A.bs=bs/\(∃st pend,A.h[l]?=some (.loop n tmps ps assign body st pend))/\R (.ret (.p (.bool false))) (A.h.set l (.loop n tmps ps assign body .done (some (.exit id))))
 |.ret,A=>A.bs=bs/\(∃st pend,A.h[l]?=some (.loop n tmps ps assign body st pend))/\R (.ret (.p (.bool false))) (A.h.set l (.loop n tmps ps assign body .done (some .ret)))
 |.panic v,A=>A.bs=bs/\A.df=[]/\R (.panic v) A.h
def HF (n:Nat) (tmps:Nat->AV) (ps:Array Tmp) (assign body:Code) (l bs:Nat) (K:AAct->Prop):Ex->AAct->Prop
 |.normal,A=>A.bs=bs/\A.h[l]?=some (.loop n tmps ps assign body .ready none)/\K { A with h:=A.h.set l (.loop n tmps ps assign body .busy none) }
 |_,_=>False
end Abs
end Go.Proofs.YtmndpldajflenaaGreatDoor
namespace Go.Proofs.YtmndpldajflenaaGreatDoor
namespace Abs
variable {P:Program} {M0:Nat->Prop}
def Mem.nil (S:Mem) (sz:Nat):Mem:=⟨S.m++[none],S.h++[.row sz []],S.w⟩
theorem Ev.nil{S:Mem}(i:HOk P M0 S)(sz:Nat):Ev S.h.length S (S.nil sz) where
 fr:=Fr.refl _ _
 sub:=λb h=>by
  have h':some b∈S.m++[none]:=h;simp at h';exact .inl h'
 obj:=λid o a e=>by
  refine⟨o,?_,?_⟩
  .show (S.h++[AObj.row sz []])[id]?=_;rw[bp a];exact e
  .have:(S.nil sz).m.getD id none=S.m.getD id none:=by
    show (S.m++[none]).getD id none=_;have:=i.len;simp[bp (show id<S.m.length by omega)]
   rw[this];exact ObjEv.refl _ _
theorem wq{S:Mem}(e:HOk P M0 S)(sz:Nat):HOk P M0 (S.nil sz) where
 gl:=(Ev.nil e sz).glob e.gl
 len:=by simp[Mem.nil,e.len]
 lt:=λb h=>by
  have h':some b∈S.m++[none]:=h;simp at h';exact e.lt b h'
 m0:=λb h=>⟨(e.m0 b h).1,λy=>by
  have h':some b∈S.m++[none]:=y;simp at h'
  exact(e.m0 b h).2 h'⟩
 inj:=λi j b hi z=>by
  have q:∀k:Nat,(S.m++[none])[k]?=some (some b)->S.m[k]?=some (some b):=by
   intro k l;rcases cx k S.m.length with h|h
   .rwa [bp h]at l
   .rw[cG h]at l
    cases hx:k-S.m.length with
    |zero=>rw[hx]at l;simp at l
    |succ x=>rw[hx]at l;simp at l
  exact e.inj i j b (q i hi) (q j z)
 obj:=λid o v=>by
  have a:(S.h++[AObj.row sz []])[id]?=some o:=v;rcases cx id S.h.length with h|h
  .rw[bp h]at a;have u:(S.nil sz).m.getD id none=S.m.getD id none:=by
    show (S.m++[none]).getD id none=_;have:=e.len;simp[bp (show id<S.m.length by omega)]
   rw[u];exact(e.obj id o a).keep (Ev.nil e sz) λ_ _=>rfl
  .rw[cG h]at a
   cases hx:id-S.h.length with
   |succ x=>rw[hx]at a;simp at a
   |zero=>
    rw[hx]at a;simp at a;subst a;have u:(S.nil sz).m.getD id none=none:=by
     show (S.m++[none]).getD id none=_;have:=e.len;rw[cr,cG (by omega),show id-S.m.length=0 by omega];rfl
    rw[u];exact .inl ⟨rfl,rfl⟩
theorem Rel.resv{o}{b}{cs0}{a}{w}:∀(l:List Nat) {m} {A},Rel P M0 o b cs0 m A a w->∃m',Rel P M0 o b cs0 m' { A with h:=A.h++l.map λsz=>.row sz [] } a w
 |[],m,A,e=>⟨m,by simpa using e⟩
 |sz::l,m,A,e=>by
  have q:=wq (S:=⟨m,A.h,w⟩) e.hok sz;have j:=Ev.nil (S:=⟨m,A.h,w⟩) e.hok sz;have i:=e.ahead (m':=m++[none]) (h':=A.h++[.row sz []]) (w':=w) j q;obtain⟨m',h⟩:=Rel.resv l i;refine⟨m',?_⟩;simpa using h
theorem yc{S}(D:HOk P M0 S){id sz}(l:S.h[id]?=some (.row sz [])){T}{x}{v}{cs}(hx:Rep M0 S v x)(A:x.cells=some cs)(z:cs.length=sz) :
  aF P M0 S (do pure (.pointer (some (<-newVar T v)))) (.val (.ptr id 1 0 0) (S.h.set id (.row sz [x]))):=by
 obtain⟨E,u⟩:=iP hx A;have C:=(aB.1 l).1;have e:=Ev.regrow S.h.length (ob:=.cells v.cells T) (xs':=[x]) l (by simp);have G:dA M0 (S.regrow id (.row sz [x]) (.cells v.cells T)) sz v.cells [x]:=by
  intro i y a
  cases i with
  |zero=>
   simp at a;subst a
   exact⟨cs,A,z,λj c o=>⟨(u j c o).1,by simpa using e.keepS (u j c o).2⟩⟩
  |succ i=>simp at a
 have q:dA M0 S sz v.cells [x]:=by
  intro i y a
  cases i with
  |zero=>
   simp at a;subst a
   exact⟨cs,A,z,λj c o=>⟨(u j c o).1,by simpa using(u j c o).2⟩⟩
  |succ i=>simp at a
 have F:=HOk.regrow (T:=T) D l (xs':=[x]) (by simp) (by simp[E,z]) q;refine⟨S.regrow id (.row sz [x]) (.cells v.cells T),.pointer (some ⟨S.w.heap.size,0,none⟩),rfl,?_,e,F,⟨_,rfl⟩,.inr ⟨sz,[x],?_,by simp,λ_=>⟨S.w.heap.size,?_,by simp⟩⟩⟩
 .simp[newVar,newRow,Mem.regrow]
 .simp[Mem.regrow,C]
 .have:=D.len;simp[Mem.regrow,cr,fZ (show id<S.m.length by omega)]
theorem Pj{S}(C:HOk P M0 S){id sz}(l:S.h[id]?=some (.row sz [])){o}{e}{ρ}(G:∀x,Rep M0 S (ρ x) (e x)){z}(i:gG P e o.op=some z)
  (j:z.cells.map (·.length)=some sz):rS P M0 S (execOp ρ o) (.val (.ptr id 1 0 0) (S.h.set id (.row sz [z]))):=by
 simp only[bC]at j;obtain⟨cs,A,j⟩:=j;unfold gG at i;split at i
 .rename_i T a;simp only[bC]at i;obtain⟨q,F,rfl⟩:=i;unfold execOp;rw[a];dsimp only;obtain⟨v,E,y⟩:=iJ F S.w;have u:Rep M0 S v (.p q):=fB y;obtain⟨K,v',J,D,I⟩:=yc (P:=P) C l (T:=T) u A j;refine aF.op (r:=.val _ _) ⟨K,v',J,?_,I⟩;simp only[Sem.run_bind]at D;unfold Instr.alloc;simp only[Sem.run_bind,E,aS];exact D
 .rename_i T x a;cases i;unfold execOp;rw[a];dsimp only;exact(yc C l (G x) A j).op
 .cases i
theorem FW{G}{b}{cs0}{m}{A}{a}{w}{o}{i}{rest}{ops}{k}{v}{h'}
  (E:ops[i]?=some o) (I:nd A.n o=true) (hw:Region.wanted o (yielded ops a.tmps)=true) (D:Rel P M0 G b cs0 m A a w) (y:∀c,o.op≠.defer c) (hok:rS P M0 ⟨m,A.h,w⟩ (execOp a.eval o) (.val v h')) :
  ∃m' j w',Rel P M0 G b cs0 m' (A.put o.dst v h') j w'/\Steps P (lone (b.atR a (.inRegion ops (i::rest)::k)) (bu A.rc cs0) w) (lone (b.atR j (.inRegion ops rest::k)) (bu A.rc cs0) w'):=by
 have u:∀(j:Act) v,(b.atR j (.inRegion ops (i::rest)::k)).finish v=b.atR (j.put o.dst v) (.inRegion ops rest::k):=by
  intro j v;rw[Frame.finish_atR,E];rfl
 have F:=stepGR_op (P:=P) (b:=b) (k:=k) (cs:=bu A.rc cs0) (w:=w) (rest:=rest) E hw;obtain⟨⟨m',J,w'⟩,v',rfl,e,C,z,q⟩:=hok;rw[D.semAt (.inl y)]at F;have l:=(D.ahead C z).put (dst:=o.dst) (lO I) q;rw[<-qq]at l;refine⟨m',_,w',l,?_⟩;rw[<-u];exact .one (step_lone_go (by rw[F];simp only at e;simp[stepG.apply,e]))
end Abs
end Go.Proofs.YtmndpldajflenaaGreatDoor
