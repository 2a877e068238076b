/- CONTRACTS of the program's functions, and laws on what they return. No conditions but those in the theorems' heads. -/
import Derived.Test.YtmndpldajflenaaGreatDoorAbsStepX
import Derived.RangeFuncLeaves
set_option linter.all false
namespace Go.Proofs.YtmndpldajflenaaGreatDoor
namespace Abs
variable {P:Program} {M0:Nat->Prop}
def BR (P:Program) (M0:Nat->Prop) (S:Mem) (T:TypeId) (v:Value):OR->Prop
 |.val y _=>∃ad v',v=.pointer (some ad)/\(loadVar T ad).run P S.w=.ok v' S.w/\Rep M0 S v' y
 |.stuck=>True
 |_=>False
theorem BR.opt{S}{T}{ad}{v}(h:∀x,v=some x->∃v',(loadVar T ad).run P S.w=.ok v' S.w/\Rep M0 S v' x):BR P M0 S T (.pointer (some ad)) (fP S.h v):=by
 cases v with
 |none=>exact trivial
 |some x=>obtain⟨v',h1,h2⟩:=h x rfl;exact⟨ad,v',rfl,h1,h2⟩
theorem HX{S}(hS:HOk P M0 S){T}{x}{v}(hx:Rep M0 S v x):BR P M0 S T v (lr P T x S.h):=by
 unfold lr;split
 .rename_i sz xs i o;split
  .rename_i y hy;have h:RepP (Avoid M0 S.m) S.w v (.ptr sz xs i o):=hx
   cases h with
   |ptr f hat hsz hM hc hr=>
    rename_i b off at_;refine BR.opt λz hz=>?_;have hi:=(aA.1 hy).1;have hsy:=hsz y (aV hy);have hrep:fz M0 S (λj=>f (i*sz+j)) (y.cells.map .p):=by
     intro j c hj;simp only[bU,bx]at hj;obtain⟨q,hq,rfl⟩:=hj;exact⟨hsy.2 q (aV hq),hr i j y q hy hq⟩
    have hlen:(y.cells.map AV.p).length=sz:=by simpa using hsy.1
    exact qx (P:=P) (λj=>f (i*sz+j)) (b:=b) (at_:=at_) (un hsy) hrep (λj hj=>by
     rw[<-hc (i*sz+(o+j)) (fS hi (by omega)),hat]
     simp only[fX]) hz
  .exact trivial
 .rename_i id ver i o;split
  .rename_i sz xs hid;split
   .rename_i hv;split
    .rename_i y hy;obtain⟨b,hm,rfl⟩:=bK hx.2 hid hv;refine BR.opt λz hz=>?_;obtain⟨C,T',hb,hsize,hel⟩:=dU hS hid hm;obtain⟨cs,h5,h6,h7⟩:=hel i y hy;have hi:=(aA.1 hy).1;exact qx (P:=P) (λj=>C.getD (i*sz+j) undef) (b:=b) (at_:=i*sz+o) h5 h7 (λj hj=>by
      rw[fX]
      exact gU hb _ (hP (fS hi (by omega)) hsize)) hz
    .exact trivial
   .exact trivial
  .exact trivial
 .exact trivial
def AV.single:AV->Bool
 |.tuple _=>false
 |_=>true
def E1 (P:Program) (h:Heap) (tmps:Nat->AV):ResultVar->Option AV
 |.tmp t=>some (tmps t)
 |.cell a T=>match lr P T (tmps a) h with|.val v _=>some v|_=>none
def jx (P:Program) (h:Heap) (tmps:Nat->AV):List ResultVar->Option (List AV)
 |[]=>some []
 |r::rs=>match E1 P h tmps r,jx P h tmps rs with|some v,some l=>if v.single=true then some (v::l) else none|_,_=>none
def lQ:Option (List AV)->Option AV
 |some [v]=>some v
 |some l=>some (m7 l)
 |none=>none
theorem wL{S}{v}{x}(hx:x.single=true)(h:Rep M0 S v x):cc M0 S v x:=by
 cases x<;>first|exact h|cases hx
def z8 (tmps:Array Value):ResultVar->Sem Value
 |.tmp t=>pure (tmps.getD t undef)
 |.cell a t=>do loadVar t (<-asAddr (tmps.getD a undef))
theorem DY(fn)(tmps):results fn tmps=(fn.results.mapM (z8 tmps) >>= λvs=>pure (if h:vs.size=1 then vs[0] else .tuple vs)):=by
 unfold results;refine congrArg (· >>= _) (congrArg (λg=>Array.mapM g fn.results) ?_);funext r;cases r<;>rfl
theorem BG{S}(hS:HOk P M0 S){tmps}{T}(ht:∀t,Rep M0 S (tmps.getD t undef) (T t)):∀(rs) (l),jx P S.h T rs=some l ->
  ∃vs,(rs.mapM (z8 tmps)).run P S.w=.ok vs S.w/\vs.length=l.length/\∀(i) (c),l[i]?=some c->Rep M0 S (vs.getD i undef) c/\c.single=true
 |[],l,h=>by
  cases h
  exact⟨[],by simp,rfl,by simp⟩
 |r::rs,l,h=>by
  unfold jx at h;split at h
  .rename_i v l' h1 h2;split at h
   .rename_i hs;cases h;obtain⟨vs,h3,h4,h5⟩:=BG hS ht rs l' h2;have hv:∃v',(z8 tmps r).run P S.w=.ok v' S.w/\Rep M0 S v' v:=by
     cases r with
     |tmp t=>cases h1;exact⟨_,by simp[z8],ht t⟩
     |cell a t=>
      unfold E1 at h1;dsimp only at h1;have hl:=HX (P:=P) (T:=t) hS (ht a);split at h1
      .rename_i y hh hy;cases h1;rw[hy]at hl;obtain⟨ad,v',e1,e2,e3⟩:=hl;exact⟨v',by simp[z8,e1,asAddr,e2],e3⟩
      .cases h1
    obtain⟨v',h6,h7⟩:=hv;refine⟨v'::vs,?_,by simp[h4],λi c hi=>?_⟩
    .rw[List.mapM_cons];simp only[Sem.run_bind,h6,Result.andThen,h3];simp
    .cases i with
     |zero=>cases hi;exact⟨h7,hs⟩
     |succ i=>exact h5 i c hi
   .cases h
  .cases h
theorem B9{S}(hS:HOk P M0 S){fn}{tmps}{T}(ht:∀t,Rep M0 S (tmps.getD t undef) (T t)){v}(h:lQ (jx P S.h T fn.results.toList)=some v) :
  ∃v',(results fn tmps).run P S.w=.ok v' S.w/\Rep M0 S v' v:=by
 cases hl:jx P S.h T fn.results.toList with
 |none=>rw[hl]at h;cases h
 |some l=>
  rw[hl]at h;obtain⟨vs,h1,h2,h3⟩:=BG hS ht _ _ hl;have hrun:(results fn tmps).run P S.w=.ok (if h:vs.toArray.size=1 then vs.toArray[0] else .tuple vs.toArray) S.w:=by
   rw[DY,Array.mapM_eq_mapM_toList];simp only[map_eq_pure_bind,Sem.run_bind,Sem.run_pure,Result.andThen,h1]
  refine⟨_,hrun,?_⟩;by_cases h4:l.length=1
  .obtain⟨y,rfl⟩:=zk.1 h4;have h5:vs.length=1:=h2;obtain⟨u,rfl⟩:=zk.1 h5;cases h;simpa using(h3 0 _ rfl).1
  .have h5:¬vs.toArray.size=1:=by simp;omega
   have h6:v=m7 l:=by
    cases l with
    |nil=>cases h;rfl
    |cons y l=>cases l with
     |nil=>exact absurd rfl h4
     |cons z l=>cases h;rfl
   rw[dif_neg h5,h6];refine Ci ⟨by simp[h2],λi c hi=>?_⟩;have:=h3 i c hi;refine wL this.2 ?_;simpa[gG,bB]using this.1
end Abs
end Go.Proofs.YtmndpldajflenaaGreatDoor
namespace Go.Proofs.YtmndpldajflenaaGreatDoor
namespace Abs
variable {P:Program} {M0:Nat->Prop}
def dt (P:Program) (rs:List ResultVar) (R:AEnd->Heap->Prop) (tmps:Nat->AV):List ADef->AMode->Heap->Prop
 |[],.ret,h=>match lQ (jx P h tmps rs) with|some v=>R (.ret v) h|none=>False
 |[],.pan v,h=>R (.panic v) h
 |[],.recd _,_=>False
 |.fn f args::ds,u,h=>oW P f args u h λr u' h'=>match r with
   |.ret _=>dt P rs R tmps ds (tD u') h'
   |.panic v=>u'=.ret/\dt P rs R tmps ds (.pan v) h'
 |.collected id::ds,u,h=>(h[id]?=some .dblock)/\dt P rs R tmps ds u (h.set id .dead)
theorem Ch{S}{um}{u}(h:gF M0 S um u):um≠.run:=by
 cases u with
 |ret=>rw[show um=_ from h];simp
 |pan v=>obtain⟨v',rfl,_⟩:=h;simp
 |recd v=>obtain⟨v',rfl⟩:=h;simp
theorem Gf{fn}{R}{T}:∀(ds) (u) (S) (fr) (cs),HOk P M0 S ->
  (∀t,Rep M0 S (fr.tmps.getD t undef) (T t))->gF M0 S fr.mode u->DefsRep P M0 S fr.defers ds->P.funcs[fr.fn]?=some fn->dt P fn.results.toList R T ds u S.h ->
  ∃e w' fr',oq P M0 S R e w'/\Steps P (lone fr cs S.w) (lone fr' cs w')/\fr'.fn=fr.fn/\fr'.kind=fr.kind/\e≠.outgrown/\fr'.going P w' e:=by
 intro ds
 induction ds with
 |nil=>
  intro u S fr cs hS ht hm hd hf h;have hd':fr.defers=[]:=by
   cases hdd:fr.defers with
   |nil=>rfl
   |cons d l=>rw[hdd]at hd;exact hd.elim
  cases u with
  |ret=>
   unfold dt at h
   cases hres:lQ (jx P S.h T fn.results.toList) with
   |none=>rw[hres]at h;exact h.elim
   |some v=>
    rw[hres]at h;obtain⟨v',h1,h2⟩:=B9 (P:=P) hS (fn:=fn) ht hres
    exact⟨.returned v',S.w,fr,⟨.ret v,S.h,S.m,h,Ev.refl _ _,hS,h2⟩,.refl P _,rfl,rfl,by simp,hm,hd',fn,hf,h1⟩
  |pan v=>
   obtain⟨v',h1,h2⟩:=hm
   exact⟨.panicked [{ v:=v',recovered:=false }],S.w,fr,⟨.panic v,S.h,S.m,h,Ev.refl _ _,hS,v',rfl,h2⟩,.refl P _,rfl,rfl,by simp,h1,hd',fn,hf⟩
  |recd v=>exact h.elim
 |cons d ds ih=>
  intro u S fr cs hS ht hm hd hf h
  cases hdd:fr.defers with
  |nil=>rw[hdd]at hd;exact hd.elim
  |cons d' ds'=>
   rw[hdd]at hd;have hne:=Ch hm
   have next:∀(u1:AMode) (S1:Mem) (um1:FrameMode),Ev S.h.length S S1->HOk P M0 S1->gF M0 S1 um1 u1->dt P fn.results.toList R T ds u1 S1.h ->
     Steps P (lone fr cs S.w) (lone { { fr with defers:=ds' } with mode:=um1 } cs S1.w) ->
     ∃e w' fr',oq P M0 S R e w'/\Steps P (lone fr cs S.w) (lone fr' cs w')/\fr'.fn=fr.fn/\fr'.kind=fr.kind/\e≠.outgrown/\fr'.going P w' e:=by
    intro u1 S1 um1 hev hk hm1 hl hs;obtain⟨e,w',fr',⟨r,h',m',hR,hev',hk',hend⟩,hs',h1,h2,h3,h4⟩:=ih u1 S1 { { fr with defers:=ds' } with mode:=um1 } cs hk (λt=>hev.keep (ht t)) hm1 (hev.defsRep hd.2) hf hl;exact⟨e,w',fr',⟨r,h',m',hR,hev.trans (hev'.mono (hev.len (aJ _))),hk',hend⟩,hs.trans hs',h1,h2,h3,h4⟩
   cases d with
   |fn g args=>
    obtain⟨⟨fv,cap,dargs,cargs,rfl,hinv,hargs⟩,hds⟩:=hd;obtain⟨henter,hcall⟩:=h M0 S.m S.w cargs fr.mode hS hargs hm;have h1:=step_defer (P:=P) (fr:=fr) (cs:=cs) (w:=S.w) hne hdd rfl ((hinv S.w).trans (henter S.w));obtain⟨e,um',w',frX,⟨r,u',h',m',hR,hev,hk,hend,hmode⟩,hcomes,hkX,hgo⟩:=hcall { fr with defers:=ds' } cs rfl
    cases e with
    |outgrown=>exact hend.elim
    |returned v'=>
     cases r with
     |panic v=>exact hend.elim
     |ret v=>
      have h2:=step_going_returned (c:={ { fr with defers:=ds' } with mode:=um' }) (cs:=cs) hkX hgo;have hset:gF M0 ⟨m',h',w'⟩ (settle um') (tD u'):=by
       cases u' with
       |ret=>rw[show um'=_ from hmode];rfl
       |pan v2=>
        obtain⟨v3,rfl,h3⟩:=hmode
        exact⟨v3,by simp[settle],h3⟩
       |recd v2=>
        obtain⟨v3,rfl⟩:=hmode;show settle _=_;simp[settle]
      exact next (tD u') ⟨m',h',w'⟩ (settle um') hev hk hset hR (.head h1 (Steps.trans hcomes (.one h2)))
    |panicked ch=>
     cases r with
     |ret v=>exact hend.elim
     |panic v=>
      obtain⟨v',rfl,hv⟩:=hend;obtain⟨rfl,hR⟩:=hR;have h2:=step_going_panicked (c:={ { fr with defers:=ds' } with mode:=um' }) (cs:=cs) hgo;have hmode':um'=.returning:=hmode;subst hmode'
      exact next (.pan v) ⟨m',h',w'⟩ (.panicking [{ v:=v',recovered:=false }]) hev hk ⟨v',rfl,hv⟩ hR (.head h1 (Steps.trans hcomes (.one h2)))
   |collected id=>
    obtain⟨⟨bl,rfl,hdb⟩,hds⟩:=hd;obtain⟨hob,hl⟩:=h;have hbl:S.m.getD id none=some bl:=by
     rcases hdb with hdead|⟨_,hbl⟩
     .rw[hob]at hdead;cases hdead
     .exact hbl
    obtain⟨bl',hbl',hx⟩:=hS.obj id _ hob;rw[hbl]at hbl';cases hbl';have htake:=run_takeDeferred (P:=P) (w:=S.w) hx;have h1:=step_collected (P:=P) (fr:=fr) (cs:=cs) hne hdd rfl htake;obtain⟨hk1,hev1⟩:=ig hS (o:=.dead) (ob:=.deferred none) hbl hob hx (xe hx) (by simp) (.inl rfl) (λ_ _=>trivial);refine next u ⟨S.m,S.h.set id .dead,S.w.putObj bl (.deferred none)⟩ fr.mode hev1 hk1 (hev1.mode hm) hl (.one ?_);simpa using h1
def EZ (l:List AV) (t:Nat):AV:=match l[t]? with|some v=>v|none=>.p (.tuple [])
def fZ (n:Nat) (rc:Rc) (args:List AV) (h:Heap):AAct:={ n:=n,bs:=h.length,rc:=rc,tmps:=EZ args,h:=h,df:=[] }
def L4 (P:Program) (rs:List ResultVar) (R:AEnd->Heap->Prop):Ex->AAct->Prop
 |.normal,A=>dt P rs R A.tmps A.df .ret A.h
 |.ret,A=>dt P rs R A.tmps A.df .ret A.h
 |.panic v,A=>dt P rs R A.tmps A.df (.pan v) A.h
 |.exit _,_=>False
theorem xD{h:Heap}{m:List (Option Nat)}{w:World}{args:List AV}{cargs:Array Value}{n:Nat}{rc:Rc}{b:Frame}{cs0:List Frame}(hS:HOk P M0 ⟨m,h,w⟩)(ha:cK (Rep M0 ⟨m,h,w⟩) cargs args)(hn:args.length<=n)
  (hrc:RcRep M0 ⟨m,h,w⟩ b cs0 rc) (hfn:∃f,P.funcs[b.fn]?=some f):Rel P M0 ⟨m,h,w⟩ b cs0 m (fZ n rc args h) { tmps:=cargs++Array.replicate (n-cargs.size) undef,defers:=[] } w where
 size:=by have:=ha.1;simp[fZ];omega
 tmps:=λt=>by
  show Rep M0 _ _ (EZ args t);unfold EZ;have hsz:=ha.1;split
  .rename_i v hv;have hlt:=(aA.1 hv).1;have h1:=ha.2 t v hv;rw[gG,Array.getElem?_append_left (by omega)];rwa [gG]at h1
  .rename_i hv;have hge:args.length<=t:=by simpa using hv
   have:(cargs++Array.replicate (n-cargs.size) undef).getD t undef=undef:=by
    rw[gG,Array.getElem?_append_right (by omega)]
    cases hq:(Array.replicate (n-cargs.size) undef)[t-cargs.size]? with
    |none=>rfl
    |some z=>
     rw[Array.getElem?_replicate]at hq;split at hq<;>simp_all
   rw[this];exact me _ _
 hok:=hS
 ev:=Ev.refl _ _
 le:=⟨aJ _,hfn⟩
 df:=trivial
 rc:=hrc
theorem Bo(hD:eZ P){H}{fn}{c}{S}{b}{cs0}{A}{a}{R:Rc->AEnd->Heap->Prop}(hok:dr H A.n c=true)(hr:Rel P M0 S b cs0 S.m A a S.w)
  (hbs:A.bs=S.h.length) (hf:P.funcs[b.fn]?=some fn) (hro:b.roundOf=none) (h:SW P H c (λe B=>B.bs=A.bs/\L4 P fn.results.toList (R B.rc) e B) A) :
  ∃e w' fr' rc',oq P M0 S (R rc') e w'/\Steps P (lone (b.atR a [.code c]) (bn A.rc cs0) S.w) (lone fr' (bn rc' cs0) w')/\fr'.fn=b.fn/\fr'.kind=b.kind/\e≠.outgrown/\fr'.going P w' e /\
   ∃S',RcRep M0 S' b cs0 rc':=by
 obtain⟨e,A1,m1,a1,w1,⟨hbs1,hq⟩,hn1,hr1,harr⟩:=h M0 S b cs0 _ S.m a S.w [] hok hr rfl;have hev:Ev S.h.length S ⟨m1,A1.h,w1⟩:=by have:=hr1.ev;rwa [hbs1,hbs]at this
 have out:∀(um:FrameMode) (u:AMode) (todo:List Item),gF M0 ⟨m1,A1.h,w1⟩ um u->dt P fn.results.toList (R A1.rc) A1.tmps A1.df u A1.h ->
   Steps P (lone (b.atR a [.code c]) (bn A.rc cs0) S.w) (lone { b.atR a1 todo with mode:=um } (bn A1.rc cs0) w1) ->
   ∃e w' fr' rc',oq P M0 S (R rc') e w'/\Steps P (lone (b.atR a [.code c]) (bn A.rc cs0) S.w) (lone fr' (bn rc' cs0) w')/\fr'.fn=b.fn/\fr'.kind=b.kind/\e≠.outgrown/\fr'.going P w' e /\
    ∃S':Mem,RcRep M0 S' b cs0 rc':=by
  intro um u todo hm hl hs;obtain⟨e,w',fr',⟨r,h',m',hR,hev',hk',hend⟩,hs',h1,h2,h3,h4⟩:=Gf A1.df u ⟨m1,A1.h,w1⟩ { b.atR a1 todo with mode:=um } (bn A1.rc cs0) hr1.hok hr1.tmps hm hr1.df hf hl;exact⟨e,w',fr',A1.rc,⟨r,h',m',hR,hev.trans (hev'.mono (hev.len (aJ _))),hk',hend⟩,hs.trans hs',h1,h2,h3,h4,⟨m1,A1.h,w1⟩,hr1.rc⟩
 cases e with
 |normal=>exact out .returning .ret [] rfl hq (Steps.trans harr (.one (stepR_end hro)))
 |ret=>
  obtain⟨k₁,hs⟩:=harr
  exact out .returning .ret _ rfl hq (Steps.trans hs (.one (stepR_ret hro)))
 |exit id=>exact hq.elim
 |panic v=>
  obtain⟨v',todo,hv,hs⟩:=harr;exact out (.panicking [{ v:=v',recovered:=false }]) (.pan v) todo ⟨v',rfl,hv⟩ hq hs
def jv (P:Program) (rs:List ResultVar) (n:Nat) (R:Rc->AEnd->Heap->Prop):Ex->AAct->Prop:=λe B=>B.bs=n/\L4 P rs (R B.rc) e B
def dv (H:Hints) (fn:Func):Bool:=
 match fn.body with
 |some c=>dr H fn.ntmps c&&fn.name != "runtime.NumGoroutine"
 |none=>false
theorem gS{f}{fn}{H}(hf:P.funcs[f]?=some fn)(hok:dv H fn=true)(cargs)(w):(callFunc f cargs).run P w=.ok (.enter f cargs) w:=by
 unfold dv at hok;split at hok
 .rename_i c hb;simp only[bY,bne_iff_ne]at hok;simp[callFunc,program,Sem.run,Result.andThen,hf,hb,hok.2]
 .cases hok
theorem A6{f}{fn}{c}{cargs}{kind}(hf:P.funcs[f]?=some fn)(hb:fn.body=some c) :
  Frame.enter P f cargs kind=({ (default:Frame) with fn:=f,kind:=kind }).atR { tmps:=cargs++Array.replicate (fn.ntmps-cargs.size) undef,defers:=[] } [.code c]:=by
 simp[Frame.enter,Frame.atR,hf,hb];rfl
theorem yC{fr:Frame}{w}{e}(hk:fr.kind=.normal)(h:fr.going P w e):fr.leaving P w e:=by
 cases e with
 |returned v=>exact⟨h.1,h.2.1,hk,h.2.2⟩
 |panicked ch=>exact h
 |outgrown=>exact h
theorem tT(hD:eZ P){H}{f}{fn}{c}{args}{h}{R}{rs}{n}(hf:P.funcs[f]?=some fn)(hb:fn.body=some c)(hrs:fn.results.toList=rs)(hn:fn.ntmps=n)(hok:dv H fn=true)
  (hlen:args.length<=n) (hw:SW P H c (jv P rs h.length (λ_=>R)) (fZ n .no args h)):aN P f args h R:=by
 subst hrs hn;intro M0 m w cargs hS ha;refine⟨gS hf hok cargs,λcs=>?_⟩;have hokc:dr H fn.ntmps c=true:=by
  unfold dv at hok;rw[hb]at hok;simp only[bY]at hok;exact hok.1
 obtain⟨e,w',fr',rc',hB,hs,h1,h2,h3,h4,_⟩:=Bo hD (S:=⟨m,h,w⟩) (b:={ (default:Frame) with fn:=f,kind:=.normal }) (cs0:=cs) (R:=λ_=>R) hokc
  (xD (rc:=.no) hS ha hlen rfl ⟨_,hf⟩) rfl hf rfl hw
 rw[A6 hf hb];have hcs:bn rc' cs=cs:=by
  rename_i hx;obtain⟨S',hx⟩:=hx
  cases rc' with
  |got v=>exact absurd hx.2.1 (by simp)
  |_=>rfl
 rw[hcs]at hs;refine⟨e,w',fr',hB,?_,h1,yC h2 h4⟩
 cases e with
 |outgrown=>exact absurd rfl h3
 |returned v=>exact hs
 |panicked ch=>exact hs
theorem l7(hD:eZ P){H}{f}{fn}{c}{args}{h}{R}{rs}{n}(hf:P.funcs[f]?=some fn)(hb:fn.body=some c)(hrs:fn.results.toList=rs)(hn:fn.ntmps=n)(hok:dv H fn=true)
  (hlen:args.length<=n) (hw:wp P H c (jv P rs h.length (λ_=>R)) (fZ n .no args h)):aN P f args h R:=
 tT hD hf hb hrs hn hok hlen (DJ hD hw)
def wM:AMode->Rc
 |.pan v=>.pend v
 |_=>.none
def nO (u:AMode):Rc->AMode
 |.got _=>match u with|.pan v=>.recd v|u=>u
 |_=>u
theorem ul{S:Mem}{c:Frame}{cs:List Frame}{u:AMode}(h:gF M0 S c.mode u) :
  match u with
  |.pan v=>∃v',RepP (Avoid M0 S.m) S.w v' v/\recoverD (c::cs)=some (v',{ c with mode:=.panicking [{ v:=v',recovered:=true }] }::cs)
  |_=>recoverD (c::cs)=none:=by
 cases u with
 |ret=>have h':c.mode=.returning:=h;simp[recoverD,h']
 |pan v=>
  obtain⟨v',h1,h2⟩:=h
  exact⟨v',h2,by simp[recoverD,h1]⟩
 |recd v=>
  obtain⟨v',h1⟩:=h;simp[recoverD,h1]
theorem Ct(hD:eZ P){H}{f}{fn}{c}{args}{u}{h}{R}{rs}{n}(hf:P.funcs[f]?=some fn)(hb:fn.body=some c)(hrs:fn.results.toList=rs)(hn:fn.ntmps=n)(hok:dv H fn=true)
  (hlen:args.length<=n) (hw:wp P H c (jv P rs h.length (λrc r h'=>R r (nO u rc) h')) (fZ n (wM u) args h)):oW P f args u h R:=by
 subst hrs hn;intro M0 m w cargs um hS ha hm;refine⟨gS hf hok cargs,λc0 cs hc0=>?_⟩;have hokc:dr H fn.ntmps c=true:=by
  unfold dv at hok;rw[hb]at hok;simp only[bY]at hok;exact hok.1
 subst hc0;have hrec:=ul (cs:=cs) hm;have hrc:RcRep M0 ⟨m,h,w⟩ ({ (default:Frame) with fn:=f,kind:=.deferred }) (c0::cs) (wM u):=by
  cases u with
  |ret=>exact⟨rfl,rfl,hrec⟩
  |recd v=>exact⟨rfl,rfl,hrec⟩
  |pan v=>
   obtain⟨v',h1,h2⟩:=hrec;exact⟨rfl,rfl,v',_,h2,h1⟩
 obtain⟨e,w',fr',rc',⟨r,h',m',hR,hev,hk,hend⟩,hs,h1,h2,h3,h4,S',hx⟩:=Bo hD (S:=⟨m,h,w⟩) (b:={ (default:Frame) with fn:=f,kind:=.deferred }) (cs0:=c0::cs) (R:=λrc r h'=>R r (nO u rc) h') hokc
  (xD (rc:=wM u) hS ha hlen hrc ⟨_,hf⟩) rfl hf rfl (DJ hD hw)
 rw[A6 hf hb];have hcs0:bn (fZ fn.ntmps (wM u) args h).rc (c0::cs)=c0::cs:=by cases u<;>rfl
 rw[hcs0]at hs;have hbelow:∃um':FrameMode,bn rc' (c0::cs)={ c0 with mode:=um' }::cs/\gF M0 ⟨m',h',w'⟩ um' (nO u rc'):=by
  have same:bn rc' (c0::cs)=c0::cs->nO u rc'=u->∃um':FrameMode,bn rc' (c0::cs)={ c0 with mode:=um' }::cs/\gF M0 ⟨m',h',w'⟩ um' (nO u rc'):=by
   intro e1 e2;exact⟨c0.mode,by rw[e1],by rw[e2];exact hev.mode hm⟩
  cases rc' with
  |got v=>
   obtain⟨_,_,v',cs1,h5⟩:=hx
   cases u with
   |ret=>rw[hrec]at h5;cases h5
   |recd v2=>rw[hrec]at h5;cases h5
   |pan v2=>
    obtain⟨v3,h6,h7⟩:=hrec
    exact⟨.panicking [{ v:=v3,recovered:=true }],by simp only[bn,h7],v3,rfl⟩
  |_=>exact same rfl rfl
 obtain⟨um',h5,h6⟩:=hbelow;rw[h5]at hs;refine⟨e,um',w',fr',⟨r,_,h',m',hR,hev,hk,hend,h6⟩,?_,h2,h4⟩
 cases e with
 |outgrown=>exact absurd rfl h3
 |returned v=>exact hs
 |panicked ch=>exact hs
def ip (tmps:Nat->AV):List Tmp->List AV->Nat->AV
 |p::ps,x::xs=>ip (rQ tmps p x) ps xs
 |_,_=>tmps
def uq (n:Nat) (ps:Array Tmp):Bool:=ps.toList.all λp=>decide (p<n)
def pI (n:Nat) (tmps:Nat->AV) (ps:Array Tmp) (assign body:Code) (l bs:Nat) (R:AEnd->Heap->Prop):Ex->AAct->Prop
 |.normal,A=>A.bs=bs/\(∃st pend,A.h[l]?=some (.loop n tmps ps assign body st pend))/\R (.ret (.p (.bool true))) (A.h.set l (.loop n tmps ps assign body .ready none))
 |.exit id,A=>A.bs=bs/\(∃st pend,A.h[l]?=some (.loop n tmps ps assign body st pend))/\R (.ret (.p (.bool false))) (A.h.set l (.loop n tmps ps assign body .done (some (.exit id))))
 |.ret,A=>A.bs=bs/\(∃st pend,A.h[l]?=some (.loop n tmps ps assign body st pend))/\R (.ret (.p (.bool false))) (A.h.set l (.loop n tmps ps assign body .done (some .ret)))
 |.panic v,A=>A.bs=bs/\A.df=[]/\R (.panic v) A.h
def Dr (n:Nat) (tmps:Nat->AV) (ps:Array Tmp) (assign body:Code) (l bs:Nat) (K:AAct->Prop):Ex->AAct->Prop
 |.normal,A=>A.bs=bs/\A.h[l]?=some (.loop n tmps ps assign body .ready none)/\K { A with h:=A.h.set l (.loop n tmps ps assign body .busy none) }
 |_,_=>False
end Abs
end Go.Proofs.YtmndpldajflenaaGreatDoor
namespace Go.Proofs.YtmndpldajflenaaGreatDoor
namespace Abs
variable {P:Program} {M0:Nat->Prop}
def Mem.nil (S:Mem) (sz:Nat):Mem:=⟨S.m++[none],S.h++[.row sz []],S.w⟩
theorem Ev.nil{S:Mem}(hS:HOk P M0 S)(sz:Nat):Ev S.h.length S (S.nil sz) where
 fr:=Fr.refl _ _
 sub:=λb h=>by
  have h':some b∈S.m++[none]:=h;simp at h';exact .inl h'
 obj:=λid o hid ho=>by
  refine⟨o,?_,?_⟩
  .show (S.h++[AObj.row sz []])[id]?=_;rw[br hid];exact ho
  .have:(S.nil sz).m.getD id none=S.m.getD id none:=by
    show (S.m++[none]).getD id none=_;have:=hS.len;simp[br (show id<S.m.length by omega)]
   rw[this];exact ObjEv.refl _ _
theorem tS{S:Mem}(hS:HOk P M0 S)(sz:Nat):HOk P M0 (S.nil sz) where
 gl:=(Ev.nil hS sz).glob hS.gl
 len:=by simp[Mem.nil,hS.len]
 lt:=λb h=>by
  have h':some b∈S.m++[none]:=h;simp at h';exact hS.lt b h'
 m0:=λb h=>⟨(hS.m0 b h).1,λhn=>by
  have h':some b∈S.m++[none]:=hn;simp at h'
  exact(hS.m0 b h).2 h'⟩
 inj:=λi j b hi hj=>by
  have key:∀k:Nat,(S.m++[none])[k]?=some (some b)->S.m[k]?=some (some b):=by
   intro k hk;rcases aw k S.m.length with h|h
   .rwa [br h]at hk
   .rw[ca h]at hk
    cases hx:k-S.m.length with
    |zero=>rw[hx]at hk;simp at hk
    |succ x=>rw[hx]at hk;simp at hk
  exact hS.inj i j b (key i hi) (key j hj)
 obj:=λid o hid=>by
  have hid':(S.h++[AObj.row sz []])[id]?=some o:=hid;rcases aw id S.h.length with h|h
  .rw[br h]at hid';have hm:(S.nil sz).m.getD id none=S.m.getD id none:=by
    show (S.m++[none]).getD id none=_;have:=hS.len;simp[br (show id<S.m.length by omega)]
   rw[hm];exact(hS.obj id o hid').keep (Ev.nil hS sz) λ_ _=>rfl
  .rw[ca h]at hid'
   cases hx:id-S.h.length with
   |succ x=>rw[hx]at hid';simp at hid'
   |zero=>
    rw[hx]at hid';simp at hid';subst hid';have hm:(S.nil sz).m.getD id none=none:=by
     show (S.m++[none]).getD id none=_;have:=hS.len;rw[bB,ca (by omega),show id-S.m.length=0 by omega];rfl
    rw[hm];exact .inl ⟨rfl,rfl⟩
theorem Rel.resv{S0}{b}{cs0}{a}{w}:∀(l:List Nat) {m} {A},Rel P M0 S0 b cs0 m A a w->∃m',Rel P M0 S0 b cs0 m' { A with h:=A.h++l.map λsz=>.row sz [] } a w
 |[],m,A,hr=>⟨m,by simpa using hr⟩
 |sz::l,m,A,hr=>by
  have hk:=tS (S:=⟨m,A.h,w⟩) hr.hok sz;have hev:=Ev.nil (S:=⟨m,A.h,w⟩) hr.hok sz;have hr1:=hr.ahead (m':=m++[none]) (h':=A.h++[.row sz []]) (w':=w) hev hk;obtain⟨m',h⟩:=Rel.resv l hr1;refine⟨m',?_⟩;simpa using h
theorem uW{S}(hS:HOk P M0 S){id sz}(hid:S.h[id]?=some (.row sz [])){T}{x}{v}{cs}(hx:Rep M0 S v x)(hc:x.cells=some cs)(hl:cs.length=sz) :
  aB P M0 S (do pure (.pointer (some (<-newVar T v)))) (.val (.ptr id 1 0 0) (S.h.set id (.row sz [x]))):=by
 obtain⟨hn,hr⟩:=gL hx hc;have hlt:=(aA.1 hid).1;have e:=Ev.regrow S.h.length (ob:=.cells v.cells T) (xs':=[x]) hid (by simp);have hel:cA M0 (S.regrow id (.row sz [x]) (.cells v.cells T)) sz v.cells [x]:=by
  intro i y hy
  cases i with
  |zero=>
   simp at hy;subst hy
   exact⟨cs,hc,hl,λj c hj=>⟨(hr j c hj).1,by simpa using e.keepS (hr j c hj).2⟩⟩
  |succ i=>simp at hy
 have hel0:cA M0 S sz v.cells [x]:=by
  intro i y hy
  cases i with
  |zero=>
   simp at hy;subst hy
   exact⟨cs,hc,hl,λj c hj=>⟨(hr j c hj).1,by simpa using(hr j c hj).2⟩⟩
  |succ i=>simp at hy
 have hk:=HOk.regrow (T:=T) hS hid (xs':=[x]) (by simp) (by simp[hn,hl]) hel0;refine⟨S.regrow id (.row sz [x]) (.cells v.cells T),.pointer (some ⟨S.w.heap.size,0,none⟩),rfl,?_,e,hk,⟨_,rfl⟩,.inr ⟨sz,[x],?_,by simp,λ_=>⟨S.w.heap.size,?_,by simp⟩⟩⟩
 .simp[newVar,newRow,Mem.regrow]
 .simp[Mem.regrow,hlt]
 .have:=hS.len;simp[Mem.regrow,bB,fp (show id<S.m.length by omega)]
theorem JI{S}(hS:HOk P M0 S){id sz}(hid:S.h[id]?=some (.row sz [])){o}{e}{ρ}(he:∀x,Rep M0 S (ρ x) (e x)){z}(hz:fo P e o.op=some z)
  (hl:z.cells.map (·.length)=some sz):pE P M0 S (execOp ρ o) (.val (.ptr id 1 0 0) (S.h.set id (.row sz [z]))):=by
 simp only[bx]at hl;obtain⟨cs,hc,hl⟩:=hl;unfold fo at hz;split at hz
 .rename_i T hop;simp only[bx]at hz;obtain⟨q,hq,rfl⟩:=hz;unfold execOp;rw[hop];dsimp only;obtain⟨v,hv,hcz⟩:=gH hq S.w;have hrep:Rep M0 S v (.p q):=eb hcz;obtain⟨S',v',h1,h2,h3⟩:=uW (P:=P) hS hid (T:=T) hrep hc hl;refine aB.op (r:=.val _ _) ⟨S',v',h1,?_,h3⟩;simp only[Sem.run_bind]at h2;unfold Instr.alloc;simp only[Sem.run_bind,hv,aG];exact h2
 .rename_i T x hop;cases hz;unfold execOp;rw[hop];dsimp only;exact(uW hS hid (he x) hc hl).op
 .cases hz
theorem Ce{S0}{b}{cs0}{m}{A}{a}{w}{o}{i}{rest}{ops}{k}{v}{h'}
  (ho:ops[i]?=some o) (hd:lj A.n o=true) (hw:Region.wanted o (yielded ops a.tmps)=true) (hr:Rel P M0 S0 b cs0 m A a w) (hnd:∀c,o.op≠.defer c) (hok:pE P M0 ⟨m,A.h,w⟩ (execOp a.eval o) (.val v h')) :
  ∃m' a' w',Rel P M0 S0 b cs0 m' (A.put o.dst v h') a' w'/\Steps P (lone (b.atR a (.inRegion ops (i::rest)::k)) (bn A.rc cs0) w) (lone (b.atR a' (.inRegion ops rest::k)) (bn A.rc cs0) w'):=by
 have hfin:∀(a':Act) v,(b.atR a' (.inRegion ops (i::rest)::k)).finish v=b.atR (a'.put o.dst v) (.inRegion ops rest::k):=by
  intro a' v;rw[Frame.finish_atR,ho];rfl
 have hg:=stepGR_op (P:=P) (b:=b) (k:=k) (cs:=bn A.rc cs0) (w:=w) (rest:=rest) ho hw;obtain⟨⟨m',h1,w'⟩,v',rfl,hrun,hev,hhk,hrep⟩:=hok;rw[hr.semAt (.inl hnd)]at hg;have hr':=(hr.ahead hev hhk).put (dst:=o.dst) (j3 hd) hrep;rw[<-nJ]at hr';refine⟨m',_,w',hr',?_⟩;rw[<-hfin];exact .one (step_lone_go (by rw[hg];simp only at hrun;simp[stepG.apply,hrun]))
end Abs
end Go.Proofs.YtmndpldajflenaaGreatDoor
