/- CONTRACTS of the program's functions, and laws on what they return. No conditions but those in the theorems' heads. -/
import Derived.Test.YtnjiadikeacfaaaGreatDoorChLaw0
set_option linter.all false
namespace Go.Proofs.YtnjiadikeacfaaaGreatDoor
namespace Abs
namespace Ch
set_option maxRecDepth 100000
set_option maxRecDepth 4000
theorem Ol{a b:List UInt8}(h:a≠[]):(a++b)[0]?=a[0]?:=by
 cases a with
 |nil=>exact absurd rfl h
 |cons x a=>rfl
structure Said where
 verb:List UInt8
 names:List (List UInt8)
 numbers:List Int
 text:List UInt8
def Said.pv (x:Said):PV:=.agg [.str (bs x.verb),bB x.names,.slice 1 (x.numbers.map aG) false,.str (bs x.text)]
def Ts:List UInt8:=[116,101,115,116]
def KY:Cmd->Said
 |.lot n k g rs=>⟨vG,[n,k],g::rs,[]⟩
 |.batch n c l g=>⟨oW,[n,c,l],[g],[]⟩
 |.drop n=>⟨rR,[n],[],[]⟩
 |.plan c=>⟨uf,[c],[],[]⟩
 |.pour c=>⟨rQ,[c],[],[]⟩
 |.test t=>⟨Ts,[],[],t⟩
 |.promise k=>⟨mq,[k],[],[]⟩
 |.box k h=>⟨vH,[k],[h],[]⟩
 |.look=>⟨ug,[],[],[]⟩
 |.wick k a b c d=>⟨ue,[k],[a,b,c,d],[]⟩
 |.blend a b c=>⟨qS,[],[a,b,c],[]⟩
 |.stock=>⟨qR,[],[],[]⟩
def Tm:Said:=⟨[],[],[],[]⟩
def NK (l:List UInt8):Said×Int:=match fj l with|.error e=>(Tm,e)|.ok c=>(KY c,0)
def qx (v:List UInt8):Bool:=v==vG||v==oW||v==rR||v==rQ||v==Ts||v==vH
theorem DW(c):qx (KY c).verb=c.written:=by
 cases c<;>rfl
end Ch
variable {P:Program} {H:Hints}
def IA (q v:PV):Prop:=∀(M:Nat->Prop) (w:World) (u:Value),RepP M w u q->RepP M w u v
theorem mF{q:PV}:IA q q:=λ_ _ _ h=>h
theorem Ns{A:AAct}{T:Nat->AV}(K:Nat->Bool)(hT:∀t,T t=A.tmps t\/T t=.undef\/∃q v,T t=.p v/\xC (dB (λi=>!K i) A.h) (A.tmps t)=some q/\IA q v) :
  fJ P A { A with tmps:=T,h:=dB K A.h }:=
 ⟨rfl,rfl,λM0 S0 b cs0 m a w hr=>by
  have hr2:=hr.ahead (m':=gr K m) (h':=dB K A.h) (w':=w) (Bg ⟨m,A.h,w⟩ K _) (yD hr.hok K);refine⟨gr K m,hr2.size,λt=>?_,hr2.hok,hr2.ev,hr2.le,?_,hr2.rc⟩
  .show Rep M0 ⟨gr K m,dB K A.h,w⟩ (a.tmps.getD t undef) (T t);rcases hT t with h|h|⟨q,v,h,hq,hle⟩
   .rw[h];exact hr2.tmps t
   .rw[h];exact trivial
   .rw[h];exact hle _ _ _ (yE (S:=⟨m,A.h,w⟩) hr.hok K (hr.tmps t) hq)
  .exact hr2.df⟩
theorem Cn{A:AAct}(f:AV->Option PV)(live:List Nat)(t:Nat):∀l:List (Nat×PV),(∀p,p∈l->∃q,f (A.tmps p.1)=some q/\IA q p.2) ->
  cK ((l.map λp=>(p.1,AV.p p.2))++bT A.tmps live []) t=A.tmps t\/cK ((l.map λp=>(p.1,AV.p p.2))++bT A.tmps live []) t=.undef\/∃q v,cK ((l.map λp=>(p.1,AV.p p.2))++bT A.tmps live []) t=.p v/\f (A.tmps t)=some q/\IA q v
 |[],_=>by
  rcases vF (T:=A.tmps) live t with⟨h1,_⟩|h1
  .exact .inl h1
  .exact .inr (.inl h1)
 |p::l,hl=>by
  rw[bD,eW,p5];by_cases ht:t=p.1
  .rw[if_pos ht];subst ht;obtain⟨q,h1,h2⟩:=hl p (by simp);exact .inr (.inr ⟨q,p.2,rfl,h1,h2⟩)
  .rw[if_neg ht];exact Cn f live t l λq hq=>hl q (by simp[hq])
theorem wq{c:Code}{Q:Ex->AAct->Prop}{A:AAct}(K:Nat->Bool)(live:List Nat)(l:List (Nat×PV))(h':Heap)(hh:dB K A.h=h')(hd:A.df=[])
  (hl:∀p,p∈l->∃q,xC (dB (λi=>!K i) A.h) (A.tmps p.1)=some q/\IA q p.2) (k:SW P H c Q { n:=A.n,bs:=A.bs,rc:=A.rc,tmps:=cK ((l.map λp=>(p.1,AV.p p.2))++bT A.tmps live []),h:=h',df:=[] }):SW P H c Q A:=by
 subst hh;have hw:=Ns (P:=P) (A:=A) (T:=cK ((l.map λp=>(p.1,AV.p p.2))++bT A.tmps live [])) K (λt=>Cn _ live t l hl);refine SA hw ?_;rw[hd];exact k
theorem Wa{y:Code}{Q:Ex->AAct->Prop}{A:AAct}:@WQ ⟨dT (SW P H y Q) Q⟩ .normal A=SW P H y Q A:=rfl
attribute [go_sem] Wa
theorem Iz{x y}{Q}{A}(h:SW P H x (dT (SW P H y Q) Q) A):SW P H (.seq x y) Q A:=
 λM0 S0 b cs0 n m a w k hc hr hn=>by
  simp only[cU,dD]at hc;obtain⟨e,A1,m1,a1,w1,hq,hn1,hr1,harr⟩:=h M0 S0 b cs0 n m a w (.code y::k) hc.1 hr hn
  have pass:∀(e':Ex),e'≠.normal->Q e' A1->sa P (Avoid M0 m1) (lone (b.atR a (.code x::.code y::k)) (bv A.rc cs0) w) b (.code y::k) (bv A1.rc cs0) a1 w1 e' ->
    nL P M0 S0 b cs0 n (lone (b.atR a (.code (.seq x y)::k)) (bv A.rc cs0) w) k Q:=
   λe' he hq harr=>⟨e',A1,m1,a1,w1,hq,hn1,hr1,.of_steps (.one stepR_seq) (.pass (x:=.code y) rfl he harr)⟩
  cases e with
  |normal=>exact(hq M0 S0 b cs0 n m1 a1 w1 k hc.2 hr1 hn1).of_steps (.head stepR_seq harr)
  |exit id=>exact pass (.exit id) (by simp) hq harr
  |ret=>exact pass .ret (by simp) hq harr
  |panic v=>exact pass (.panic v) (by simp) hq harr
theorem Gf{id}{x}{Q}{A}(h:SW P H x (jG id Q) A):SW P H (.block id x) Q A:=
 λM0 S0 b cs0 n m a w k hc hr hn=>by
  obtain⟨e,A1,m1,a1,w1,hq,hn1,hr1,harr⟩:=h M0 S0 b cs0 n m a w (.inBlock id::k) hc hr hn
  cases e with
  |normal=>exact⟨.normal,A1,m1,a1,w1,hq,hn1,hr1,.head stepR_block (Steps.trans harr (.one stepR_inBlock))⟩
  |exit id'=>
   by_cases hid:id'=id
   .simp only[jG,hid,if_true]at hq;exact⟨.normal,A1,m1,a1,w1,hq,hn1,hr1,.head stepR_block (harr.1 k (by simp[exitTo,hid]))⟩
   .simp only[jG,hid,if_false]at hq;have this:(id==id')=false:=by simp;exact λh=>hid h.symm
    have hx:exitTo id' (.inBlock id::k)=exitTo id' k:=by simp[exitTo,this]
    exact⟨.exit id',A1,m1,a1,w1,hq,hn1,hr1,λk' hk=>.head stepR_block (harr.1 k' (by rw[hx];exact hk)),
     λhk=>let ⟨k₁,h1,h2⟩:=harr.2 (by rw[hx];exact hk);⟨k₁,h1,.head stepR_block h2⟩⟩
  |ret=>exact⟨.ret,A1,m1,a1,w1,hq,hn1,hr1,let ⟨k₁,h1⟩:=harr;⟨k₁,.head stepR_block h1⟩⟩
  |panic v=>exact⟨.panic v,A1,m1,a1,w1,hq,hn1,hr1,let ⟨v',t,h1,h2⟩:=harr;⟨v',t,h1,.head stepR_block h2⟩⟩
theorem SB{σ}{x}{Q}{A}(V:σ->Prop)(I)(μ)(s0)(hv:V s0)(h0:fJ P A (I s0))(hs:∀s,V s->SW P H x (dT (fT P V I μ s) Q) (I s)):SW P H (.loop x) Q A:=
 λM0 S0 b cs0 n m a w k hc hr hn=>by
  have key:∀(j:Nat) (s:σ),V s->μ s=j->∀(m:List (Option Nat)) (a:Act) (w:World),Rel P M0 S0 b cs0 m (I s) a w->(I s).n=n->nL P M0 S0 b cs0 n (lone (b.atR a (.code x::.inLoop x::k)) (bv (I s).rc cs0) w) k Q:=by
   intro j
   induction j using Nat.strongRecOn with
   |_ j ih=>
    intro s hVs hj m a w hr hn;obtain⟨e,A1,m1,a1,w1,hq,hn1,hr1,harr⟩:=hs s hVs M0 S0 b cs0 n m a w (.inLoop x::k) hc hr hn
    have pass:∀(e':Ex),e'≠.normal->Q e' A1->sa P (Avoid M0 m1) (lone (b.atR a (.code x::.inLoop x::k)) (bv (I s).rc cs0) w) b (.inLoop x::k) (bv A1.rc cs0) a1 w1 e' ->
      nL P M0 S0 b cs0 n (lone (b.atR a (.code x::.inLoop x::k)) (bv (I s).rc cs0) w) k Q:=
     λe' he hq harr=>⟨e',A1,m1,a1,w1,hq,hn1,hr1,.pass (x:=.inLoop x) rfl he harr⟩
    cases e with
    |normal=>
     obtain⟨s',hV',hlt,hn2,hrc2,hw⟩:=hq;obtain⟨m2,hr2⟩:=hw M0 S0 b cs0 m1 a1 w1 hr1;have:=ih (μ s') (hj▸hlt) s' hV' rfl m2 a1 w1 hr2 (hn2.trans hn1);rw[hrc2]at this
     exact this.of_steps (Steps.trans harr (.one stepR_inLoop))
    |exit id=>exact pass (.exit id) (by simp) hq harr
    |ret=>exact pass .ret (by simp) hq harr
    |panic v=>exact pass (.panic v) (by simp) hq harr
  obtain⟨hn2,hrc2,hw⟩:=h0;obtain⟨m2,hr2⟩:=hw M0 S0 b cs0 m a w hr;have:=key _ s0 hv rfl m2 a w hr2 (hn2.trans hn);rw[hrc2]at this;exact this.of_steps (.one stepR_loop)
theorem M7{α τ}{x}{Q}{A}(live)(l)(hl:l.length<1000000000)(Inv:List α->List α->τ->Prop)(M)(hp)(t0)(hi:Inv [] l t0)
  (h0:lO A.bs A.df A.tmps A.h (bT A.tmps live (M [] t0)) (hp [] t0))
  (hnil:∀t,Inv l [] t->SW P H x (dT (fT P (nP l Inv) (λs=>e8 A live (g7 M s) (g7 hp s)) (λs=>s.2.1.length) (l,[],t)) Q)
   {n:=A.n,bs:=A.bs,rc:=A.rc,tmps:=cK (bT A.tmps live (M l t)),h:=hp l t,df:=A.df })
  (hcons:∀done y r t,l=done++y::r->Inv done (y::r) t->l[done.length]?=some y->((done.length:Int)<(l.length:Int))->IntKind.i64.wrap ((done.length:Int)+1)=(((done++[y]).length:Nat):Int) ->
   SW P H x (dT (fT P (nP l Inv) (λs=>e8 A live (g7 M s) (g7 hp s)) (λs=>s.2.1.length) (done,y::r,t)) Q)
    {n:=A.n,bs:=A.bs,rc:=A.rc,tmps:=cK (bT A.tmps live (M done t)),h:=hp done t,df:=A.df }):SW P H (.loop x) Q A:=by
 refine SB (nP l Inv) (λs=>e8 A live (g7 M s) (g7 hp s)) (λs=>s.2.1.length) ([],l,t0) ⟨rfl,hi⟩ (pQ rfl rfl rfl rfl h0) ?_
 rintro⟨done,rest,t⟩ ⟨e1,e2⟩
 dsimp only at e1 e2
 cases rest with
 |nil=>
  rw[bw]at e1;subst e1
  exact hnil t e2
 |cons y r=>
  have hle:done.length<l.length:=by rw[e1];simp
  refine hcons done y r t e1 e2 ?_ (by omega) ?_
  .subst e1;simp
  .rw[am (by omega) (by omega)];simp
end Abs
end Go.Proofs.YtnjiadikeacfaaaGreatDoor
namespace Go.Proofs.YtnjiadikeacfaaaGreatDoor
namespace Abs
namespace Ch
set_option maxRecDepth 4000
def I0:List UInt8:=[110,111,32]
def nR (a:List UInt8):Bool:=decide (3<a.length)&&(a.take 3==I0)
def wD (l:List UInt8):List UInt8:=(NK l).1.verb
theorem R7{s:ChShop}{b b':ChBooks}{c:Cmd}{a:List UInt8}(hc:c.written=false)(h:aP s b c=.ok (b',a)):b'=b:=by
 cases c with
 |lot name kind grams rs=>cases hc
 |batch name colour lot grams=>cases hc
 |drop name=>cases hc
 |pour c=>cases hc
 |test text=>cases hc
 |box kind hours=>cases hc
 |plan c=>
  simp only[aP]at h;split at h
  .cases h
  .cases h;rfl
 |promise kind=>
  simp only[aP]at h;split at h
  .cases h
  .cases h;rfl
 |look=>
  simp only[aP]at h
  cases h;rfl
 |wick kind a1 b1 c1 d1=>
  simp only[aP]at h;split at h
  .cases h
  split at h
  .cases h
  split at h
  .cases h
  split at h
  .cases h
  cases h;rfl
 |blend a1 b1 c1=>
  simp only[aP]at h;split at h
  .cases h
  cases h;rfl
 |stock=>
  simp only[aP]at h;cases h;rfl
theorem uX{l:List UInt8}{c:Cmd}(h:fj l=.ok c):qx (wD l)=c.written:=by
 unfold wD NK;rw[h];exact DW c
theorem Nv{l:List UInt8}{e:Int}(h:fj l=.error e):qx (wD l)=false:=by
 unfold wD NK;rw[h];rfl
def Et (a:List UInt8):Prop:=a.length<=3\/a[0]?≠some 110
theorem B'{a:List UInt8}(h:Et a):nR a=false:=by
 unfold nR;rcases h with h|h
 .rw[decide_eq_false (by omega)];rfl
 .have:(a.take 3==I0)=false:=by
   rw[beq_eq_false_iff_ne];intro e;apply h
   cases a with
   |nil=>cases e
   |cons x a=>
    have:=congrArg (λl:List UInt8=>l[0]?) e;simpa[I0]using this
  rw[this,Bool.and_false]
theorem Fo(n:Int):∀b,(bC n)[0]?=some b->b≠110:=by
 intro b hb he;have:=qa n.toNat b (aT hb);rw[he]at this;exact absurd this.2 (by decide)
theorem Fm(n:Int):(bC n)≠[]:=q9 _
theorem Jy(x:List UInt8)(r:List (List UInt8))(h:x≠[]):(joinL (x::r))[0]?=x[0]?:=by
 cases r with
 |nil=>rfl
 |cons y r=>
  rw[joinL,Ol h]
theorem tQ{x:List UInt8}{r:List (List UInt8)}(h:x≠[])(h2:∀b,x[0]?=some b->b≠110):Et (joinL (x::r)):=by
 right;rw[Jy x r h];intro e;exact h2 110 e rfl
theorem CV{s:ChShop}{b b':ChBooks}{c:Cmd}{a:List UInt8}(hc:c.written=true)(h:aP s b c=.ok (b',a)):Et a:=by
 cases c with
 |lot name kind grams rs=>
  simp only[aP]at h;split at h
  .cases h
  split at h
  .cases h
  split at h
  .cases h
  split at h
  .cases h
  split at h
  .cases h
  cases h;refine tQ ?_ ?_
  .unfold km;split
   .decide
   .split<;>decide
  .unfold km;intro b hb;split at hb
   .cases hb;decide
   .split at hb<;>cases hb<;>decide
 |batch name colour lot grams=>
  simp only[aP]at h;split at h
  .cases h
  split at h
  .cases h
  split at h
  .cases h
  split at h
  .cases h
  split at h
  .cases h
  split at h
  .cases h
  split at h
  .cases h
  cases h
  left;decide
 |drop name=>
  simp only[aP]at h;split at h
  .cases h
  split at h
  .cases h
  split at h
  .cases h
  cases h
  left;decide
 |pour c=>
  simp only[aP]at h;split at h
  .cases h
  .cases h;right;intro e
   exact Fo _ 110 e rfl
 |test text=>
  simp only[aP]at h;split at h
  .cases h
  split at h
  .cases h
  cases h;split
  .exact tQ (Fm _) (Fo _)
  .exact tQ (by decide) (λb hb=>by cases hb;decide)
 |box kind hours=>
  simp only[aP]at h;split at h
  .cases h
  split at h
  .cases h
  split at h
  .cases h
  cases h
  left;decide
 |plan c=>cases hc
 |promise kind=>cases hc
 |look=>cases hc
 |wick kind a1 b1 c1 d1=>cases hc
 |blend a1 b1 c1=>cases hc
 |stock=>cases hc
theorem Jd(e:Int):nR (joinL [HA,bC e])=true:=by
 have h:joinL [HA,bC e]=[110,111,32]++bC e:=rfl;have hp:0<(bC e).length:=PB.2 (Fm e);unfold nR;rw[h];simp[I0];omega
def uE (s:ChShop) (b:ChBooks) (l:List UInt8):List UInt8:=match d8 s b l with|.error e=>joinL [HA,bC e]|.ok (_,a,_)=>a
def oa (s:ChShop) (b:ChBooks) (l:List UInt8):ChBooks:=match d8 s b l with|.error _=>b|.ok (b',_,_)=>b'
def qz (s:ChShop) (b:ChBooks) (l:List UInt8):List (List UInt8):=match d8 s b l with|.error _=>[]|.ok (_,_,w)=>if w=true then [l] else []
theorem Qs(s:ChShop)(q:ChBooks×List (List UInt8)×List (List UInt8))(l:List UInt8):eo s q l=(oa s q.1 l,q.2.1++[uE s q.1 l],q.2.2++qz s q.1 l):=by
 unfold eo oa uE qz
 cases d8 s q.1 l with
 |error e=>simp
 |ok x=>
  obtain⟨b,a,w⟩:=x;cases w<;>simp
theorem Bk{s:ChShop}{b:ChBooks}{l:List UInt8}{e:Int}(hs:fj l=.error e):d8 s b l=.error e:=by simp[d8,hs]
theorem Bj{s:ChShop}{b:ChBooks}{l:List UInt8}{c:Cmd}{e:Int}(hs:fj l=.ok c)(ha:aP s b c=.error e):d8 s b l=.error e:=by simp[d8,hs,ha]
theorem w8{s:ChShop}{b b':ChBooks}{l a:List UInt8}{c:Cmd}(hs:fj l=.ok c)(ha:aP s b c=.ok (b',a)):d8 s b l=.ok (b',a,c.written):=by simp[d8,hs,ha]
theorem U5(s:ChShop)(b:ChBooks)(l:List UInt8):qz s b l=if(qx (wD l)&&!nR (uE s b l))=true then [l] else []:=by
 unfold qz uE
 cases hs:fj l with
 |error e=>rw[Bk hs,Nv hs];simp
 |ok c=>
  rw[uX hs]
  cases ha:aP s b c with
  |error e=>rw[Bj hs ha];simp[Jd]
  |ok x=>
   obtain⟨b',a⟩:=x;rw[w8 hs ha];simp only
   cases hw:c.written with
   |false=>simp
   |true=>simp[B' (CV hw ha)]
theorem R2{s:ChShop}{b:ChBooks}{l:List UInt8}(h:(qx (wD l)&&!nR (uE s b l))=false):oa s b l=b:=by
 unfold uE at h;unfold oa
 cases hs:fj l with
 |error e=>rw[Bk hs]
 |ok c=>
  rw[uX hs]at h
  cases ha:aP s b c with
  |error e=>rw[Bj hs ha]
  |ok x=>
   obtain⟨b',a⟩:=x;rw[w8 hs ha]at h |-;simp only at h |-
   cases hw:c.written with
   |false=>exact R7 hw ha
   |true=>
    rw[hw,B' (CV hw ha)]at h;cases h
def F0 (s:ChShop):ChBooks->List (List UInt8)->List (List UInt8)
 |_,[]=>[]
 |b,l::r=>uE s b l::F0 s (oa s b l) r
def pI (s:ChShop):ChBooks->List (List UInt8)->ChBooks
 |b,[]=>b
 |b,l::r=>pI s (oa s b l) r
def mP (s:ChShop):ChBooks->List (List UInt8)->List (List UInt8)
 |_,[]=>[]
 |b,l::r=>qz s b l++mP s (oa s b l) r
theorem H8(s:ChShop):∀(d:List (List UInt8)) (q:ChBooks×List (List UInt8)×List (List UInt8)),d.foldl (eo s) q=(pI s q.1 d,q.2.1++F0 s q.1 d,q.2.2++mP s q.1 d)
 |[],q=>by simp[pI,F0,mP]
 |l::d,q=>by
  rw[pp,H8 s d,Qs];simp[pI,F0,mP]
theorem K1(s:ChShop)(d:List (List UInt8)):bJ s d=(pI s b5 d,F0 s b5 d,mP s b5 d):=by
 rw[bJ,H8];simp
theorem wO{x:List UInt8}(h:nameOk (bs x)=true):(47:UInt8)∉x:=by
 unfold nameOk at h;rw[dD]at h;intro hm;have:=qO _ _ h.1 47 hm;simp at this
theorem kW{w x:List UInt8}(h:cS w=some x):(47:UInt8)∉w/\x=w:=by
 unfold cS at h;split at h
 .rename_i hn;cases h;exact⟨wO hn,rfl⟩
 .cases h
theorem rX(n:Int):(47:UInt8)∉bC n:=by
 intro hm;have:=qa n.toNat 47 hm;simp at this
theorem wN{w:List UInt8}{v:Int}(h:eP w=some v):(47:UInt8)∉w:=by
 unfold eP at h;split at h
 .split at h
  .rename_i h1;rw[<-h1.2.2];exact rX _
  .cases h
 .cases h
theorem yh:∀{ws:List (List UInt8)} {l:List Int},eb ws=some l->∀w,w∈ws->(47:UInt8)∉w
 |[],_,_,w,hw=>by cases hw
 |x::r,l,h,w,hw=>by
  rw[eb]at h;split at h
  .rename_i hx;obtain⟨l',h1,_⟩:=cd.1 h;rcases ce.1 hw with rfl|hw
   .rw[hx];decide
   .exact yh h1 w hw
  .split at h
   .rename_i hx;obtain⟨l',h1,_⟩:=cd.1 h;rcases ce.1 hw with rfl|hw
    .exact wN hx
    .exact yh h1 w hw
   .cases h
theorem yc{a:UInt8}{c:UInt8}(hac:a≠c):∀(l:List UInt8),(∀w,w∈aQ c l->a∉w)->a∉l
 |[],_=>by simp
 |x::r,h=>by
  unfold aQ at h;by_cases hx:x=c
  .rw[if_pos hx]at h;rw[ce,not_or];exact⟨λe=>hac (e.trans hx),yc hac r λw hw=>h w (xY _ hw)⟩
  .rw[if_neg hx]at h
   cases hs:aQ c r with
   |nil=>
    have:=lj c r;rw[hs]at this
    cases this
   |cons b t=>
    rw[hs]at h;simp only at h;have h1:=h (x::b) (by simp);rw[ce,not_or]at h1;rw[ce,not_or];refine⟨h1.1,yc hac r λw hw=>?_⟩;rw[hs]at hw;rcases ce.1 hw with rfl|hw
    .exact h1.2
    .exact h w (xY _ hw)
theorem KX{v:List UInt8}{ws:List (List UInt8)}{c:Cmd}(h:ff v ws=some c)(hw:c.written=true):∀w,w∈v::ws->(47:UInt8)∉w:=by
 unfold ff at h;split at h
 .rename_i hv;split at h
  .split at h
   .rename_i h1 h2 h3 h4;cases h;intro w hm;simp only[ce]at hm;rcases hm with rfl|rfl|rfl|rfl|hm
    .rw[hv];decide
    .exact(kW h1).1
    .exact(kW h2).1
    .exact wN h3
    .exact yh h4 w hm
   .cases h
  .cases h
 split at h
 .rename_i hv;split at h
  .split at h
   .rename_i h1 h2 h3 h4;cases h;intro w hm;simp only[ce,fW,or_false]at hm;rcases hm with rfl|rfl|rfl|rfl|rfl
    .rw[hv];decide
    .exact(kW h1).1
    .exact(kW h2).1
    .exact(kW h3).1
    .exact wN h4
   .cases h
  .cases h
 split at h
 .rename_i hv;split at h
  .obtain⟨x,h1,rfl⟩:=cd.1 h;intro w hm;simp only[ce,fW,or_false]at hm;rcases hm with rfl|rfl
   .rw[hv];decide
   .exact(kW h1).1
  .cases h
 split at h
 .split at h
  .obtain⟨x,h1,rfl⟩:=cd.1 h;cases hw
  .cases h
 split at h
 .rename_i hv;split at h
  .obtain⟨x,h1,rfl⟩:=cd.1 h;intro w hm;simp only[ce,fW,or_false]at hm;rcases hm with rfl|rfl
   .rw[hv];decide
   .exact(kW h1).1
  .cases h
 split at h
 .split at h
  .obtain⟨x,h1,rfl⟩:=cd.1 h;cases hw
  .cases h
 split at h
 .rename_i hv;split at h
  .split at h
   .rename_i h1 h2;cases h;intro w hm;simp only[ce,fW,or_false]at hm;rcases hm with rfl|rfl|rfl
    .rw[hv];decide
    .exact(kW h1).1
    .exact wN h2
   .cases h
  .cases h
 split at h
 .split at h
  .cases h;cases hw
  .cases h
 split at h
 .split at h
  .split at h
   .cases h;cases hw
   .cases h
  .cases h
 split at h
 .split at h
  .split at h
   .cases h;cases hw
   .cases h
  .cases h
 split at h
 .split at h
  .cases h;cases hw
  .cases h
 .cases h
theorem Qq{s:HrShop}{t:List UInt8}(hs:(hrCheck s).2.2=0)(h:(aM s t).2=0):(47:UInt8)∉t:=by
 have hno:∀n,bn s []=n->n≠0->(aM s t).2=n:=λn e h0=>by rw[aM,if_neg (by rw[e];exact h0),e]
 unfold aM at h;split at h
 .split at h
  .cases h
  .split at h
   .cases h
   .rename_i x hx;split at h
    .rename_i hg;unfold ma at hg;rw[dD]at hg;have ht:dQ s x=t:=by simpa using hg.2
     rw[<-ht];unfold dQ ka;have hn:∀c,c∈(((s.kinds[x.kind.toNat]?).map λk=>k.name.data.toList).getD [])->c≠47:=by
      intro c hc
      cases hk:s.kinds[x.kind.toNat]? with
      |none=>rw[hk]at hc;cases hc
      |some k=>
       rw[hk]at hc;have hko:=(mH hs (aT hk)).name;have:=wO (x:=k.name.data.toList) (by rw[wb];exact hko)
       rintro rfl
       exact this hc
     have hm:∀(ms:List HrMark),(47:UInt8)∉(ms.map hH).flatten:=by
      intro ms
      induction ms with
      |nil=>simp
      |cons m ms ih=>
       rw[bD,DU,b7,not_or];refine⟨?_,ih⟩;unfold hH;simp only[b7,not_or];exact⟨⟨⟨rX _,by decide⟩,rX _⟩,by decide⟩
     simp only[b7,not_or];exact⟨⟨⟨⟨⟨by decide,λhc=>hn 47 hc rfl⟩,by decide⟩,rX _⟩,by decide⟩,hm _⟩
    .cases h
 .rename_i h0;exact absurd h h0
theorem QQ{s:ChShop}{b b':ChBooks}{l a:List UInt8}{c:Cmd}(hs:SOk s)(hc:fj l=.ok c)(hw:c.written=true)(ha:aP s b c=.ok (b',a)):(47:UInt8)∉l:=by
 unfold fj at hc;split at hc
 .cases hc
 split at hc
 .rename_i h5;cases hc;have hr:(aM s.hour (l.drop 5)).2=0:=by
   simp only[aP]at ha;split at ha
   .cases ha
   .rename_i h;exact Classical.byContradiction h
  have:=Qq hs.hour hr;rw[<-rC 5 l,h5,b7,not_or];exact⟨by decide,this⟩
 .cases hsp:aQ 32 l with
  |nil=>rw[hsp]at hc;cases hc
  |cons v ws=>
   rw[hsp]at hc;simp only at hc
   cases hq:ff v ws with
   |none=>rw[hq]at hc;cases hc
   |some c'=>
    rw[hq]at hc;cases hc;refine yc (c:=32) (by decide) l ?_;rw[hsp];exact KX hq hw
theorem uV{s:ChShop}{b:ChBooks}{l:List UInt8}(h:qz s b l≠[]):qz s b l=[l]/\∃c a b',fj l=.ok c/\c.written=true/\aP s b c=.ok (b',a)/\d8 s b l=.ok (b',a,true):=by
 unfold qz at h |-
 cases hs:fj l with
 |error e=>rw[Bk hs]at h;exact absurd rfl h
 |ok c=>
  cases ha:aP s b c with
  |error e=>rw[Bj hs ha]at h;exact absurd rfl h
  |ok x=>
   obtain⟨b',a⟩:=x;have hd:=w8 hs ha;rw[hd]at h |-;simp only at h |-
   cases hw:c.written with
   |false=>rw[hw]at h;exact absurd rfl h
   |true=>exact⟨by simp,c,a,b',rfl,hw,ha,rfl⟩
theorem Kz{s:ChShop}(hs:SOk s):∀(d:List (List UInt8)) (b:ChBooks),∀x,x∈mP s b d->(47:UInt8)∉x/\x≠[]/\x.length<=400
 |[],b,x,hx=>by cases hx
 |l::d,b,x,hx=>by
  rw[mP,b7]at hx;rcases hx with hx|hx
  .obtain⟨h1,c,a,b',h2,h3,h4,_⟩:=uV (λe=>by rw[e]at hx;cases hx);rw[h1,dA]at hx;subst hx;refine⟨QQ hs h2 h3 h4,?_,BZ h2⟩
   rintro rfl
   cases h2
  .exact Kz hs d _ x hx
theorem Hz(s:ChShop):∀(d:List (List UInt8)) (b:ChBooks),(mP s b d).length<=d.length
 |[],_=>bi _
 |l::d,b=>by
  rw[mP,aK,cc];have h1:=Hz s d (oa s b l);have h2:(qz s b l).length<=1:=by
   by_cases h:qz s b l=[]
   .rw[h];exact cV _
   .rw[(uV h).1];exact bi _
  omega
theorem NN{x:List UInt8}(h:(47:UInt8)∉x):repL 47 10 (repL 10 47 x)=x:=by
 induction x with
 |nil=>rfl
 |cons c r ih=>
  rw[ce,not_or]at h;have ih:=ih h.2;unfold repL at ih |-;rw[bD,bD,ih];by_cases hc:c=10
  .rw[if_pos hc,if_pos rfl,hc]
  .rw[if_neg hc,if_neg (λe=>h.1 e.symm)]
theorem S5(x:List UInt8):(10:UInt8)∉repL 10 47 x:=by
 intro h;obtain⟨c,_,hc⟩:=dN.1 h;by_cases e:c=10
 .rw[if_pos e]at hc;cases hc
 .rw[if_neg e]at hc;exact e hc
def jc:Nat->List (List UInt8)->List UInt8
 |_,[]=>[]
 |i,x::r=>me i x++jc (i+1) r
theorem xw:∀(l:List (List UInt8)) (i:Nat),(l.mapIdx λj x=>me (i+j) x).flatten=jc i l
 |[],_=>rfl
 |x::l,i=>by
  rw[List.mapIdx_cons,DU,jc,<-xw l (i+1)]
  congr 2
  apply qu;intro j;simp only[AH]
  congr 1
  funext y;rw[show i+(j+1)=i+1+j by omega]
theorem G0(l:List (List UInt8)):fH l=jc 0 l:=by
 rw[<-xw l 0];unfold fH
 congr 1
 apply qu;intro j;simp only[AH,d5]
theorem B8:∀(l:List (List UInt8)) (i:Nat),i+l.length<=1000->(∀x,x∈l->(47:UInt8)∉x/\x≠[]/\x.length<=400)->lJ (i+1) (aQ 10 (jc i l))=some l
 |[],i,_,_=>rfl
 |x::l,i,hi,h=>by
  obtain⟨h1,h2,h3⟩:=h x (by simp);have hd:=q8 (n:=((i+1:Nat):Int));have hno:(10:UInt8)∉bC ((i+1:Nat):Int)++32::repL 10 47 x:=by
   rw[b7,not_or,ce,not_or];exact⟨hd.1,by decide,S5 x⟩
  have hc:jc i (x::l)=(bC ((i+1:Nat):Int)++32::repL 10 47 x)++10::jc (i+1) l:=by
   rw[jc,me];simp
  obtain⟨a,r,hr⟩:=xl 10 (jc (i+1) l);have ih:=B8 l (i+1) (by simp at hi;omega) λy hy=>h y (xY _ hy);rw[hr]at ih;rw[hc,jM _ hno,hr,lJ];have hrow:mY (i+1) (bC ((i+1:Nat):Int)++32::repL 10 47 x)=some x:=by
   rw[mY,sS _ hd.2];simp only;rw[if_pos ⟨trivial,λe=>h2 (ot (by rw[<-iq 10 47 x,e];rfl)),by rw[iq];exact h3⟩,NN h1]
  rw[hrow];simp only;rw[ih];rfl
theorem Je{l:List (List UInt8)}(hl:l.length<=40)(h:∀x,x∈l->(47:UInt8)∉x/\x≠[]/\x.length<=400):cO (fH l)=(l,0):=by
 have:=B8 l 0 (by omega) h;unfold cO;rw[G0,this];simp only;rw[if_neg (by omega)]
theorem tM(s:ChShop):∀(d:List (List UInt8)) (b:ChBooks) (i:Nat),cJ s b i (mP s b d)=(pI s b d,-1)
 |[],b,i=>rfl
 |l::d,b,i=>by
  rw[mP,pI];by_cases h:qz s b l=[]
  .have hb:oa s b l=b:=by
    apply R2;have hw:=U5 s b l;rw[h]at hw;split at hw
    .cases hw
    .rename_i h1;simpa using h1
   rw[h,gR,hb];exact tM s d b i
  .obtain⟨h1,c,a,b',_,_,_,h2⟩:=uV h;have hb:oa s b l=b':=by rw[oa,h2]
   rw[h1,Dt,cJ,h2,hb];simp only[if_true];exact tM s d b' (i+1)
end Ch
set_option maxRecDepth 4000
theorem NZ{s}{t}(h1:(hrCheck s).2.2=0)(h2:aO s.kinds.length t=0):bn s [t]=0:=by
 rw[bn,if_pos h1,bW,if_pos h2];rfl
namespace Ch
def kE (s:HrShop) (t:HrTest):List UInt8:=gN++dQ s t
theorem KW{s}{t}(hc:(hrCheck s).2.2=0)(ht:aO s.kinds.length t=0):fj (kE s t)=.ok (.test (dQ s t)):=by
 have hl:=x9 hc ht;have h5:gN.length=5:=rfl;unfold fj;rw[if_neg (by rw[kE,aK,h5];omega),if_pos (by rw[kE,jL h5]),kE,List.drop_left' h5]
theorem MV{s}{b}{t}(hc:(hrCheck s.hour).2.2=0)(ht:aO s.hour.kinds.length t=0)(hl:b.tests.length<8):∃a,aP s b (.test (dQ s.hour t))=.ok ({ b with tests:=b.tests++[t] },a):=by
 have hr:=B5 hc ht;simp only[aP,hr];rw[if_neg (by simp),if_neg (by omega)];exact⟨_,rfl⟩
theorem CL{s}(hc:(hrCheck s.hour).2.2=0):∀(P) (b),b.tests.length+P.length<=8->(∀t,t∈P->aO s.hour.kinds.length t=0)->pI s b (P.map (kE s.hour))={ b with tests:=b.tests++P }
 |[],b,_,_=>by simp[pI]
 |t::P,b,hl,h=>by
  rw[cc]at hl;have ht:=h t (by simp);obtain⟨a,ha⟩:=MV (b:=b) hc ht (by omega);have hb:oa s b (kE s.hour t)={ b with tests:=b.tests++[t] }:=by
   unfold oa;rw[w8 (KW hc ht) ha]
  rw[bD,pI,hb,CL hc P _ (by simp;omega) λx hx=>h x (by simp[hx])];simp
def wF (at':Int) (r:Span) (t:HrTest):Span:=if t.kind=at'/\gy t=true then eC r (da t).1 else r
theorem ko(at')(r)(t)(l):k7 at' r (t::l)=k7 at' (wF at' r t) l:=rfl
theorem L0{r a b}(ha:0<=a.lo)(hb:0<=b.lo):eC (eC r a) b=eC (eC r b) a:=by
 have na:¬a.lo<0:=by omega
 have nb:¬b.lo<0:=by omega
 by_cases h0:r.lo<0
 .simp only[eC,if_pos h0,if_neg na,if_neg nb]
  congr 1<;>(repeat' split)<;>omega
 .have h1:¬(if a.lo<r.lo then a.lo else r.lo)<0:=by split<;>omega
  have h2:¬(if b.lo<r.lo then b.lo else r.lo)<0:=by split<;>omega
  simp only[eC,if_neg h0,if_neg h1,if_neg h2]
  congr 1<;>(repeat' split)<;>omega
theorem KT{nk}{at'}{r}{x y}(hx:aO nk x=0)(hy:aO nk y=0):wF at' (wF at' r x) y=wF at' (wF at' r y) x:=by
 have pos:∀t,aO nk t=0->0<=(da t).1.lo:=λt ht=>by
  have h:=eX ht;exact(rT h.1).1
 unfold wF;by_cases h1:x.kind=at'/\gy x=true<;>by_cases h2:y.kind=at'/\gy y=true
 .simp only[if_pos h1,if_pos h2];exact L0 (pos x hx) (pos y hy)
 .simp only[if_pos h1,if_neg h2]
 .simp only[if_neg h1,if_pos h2]
 .simp only[if_neg h1,if_neg h2]
theorem GN{nk}{at'}{l m}(h:l.Perm m):(∀t,t∈l->aO nk t=0)->∀r,k7 at' r l=k7 at' r m:=by
 induction h with
 |nil=>intro _ _;rfl
 |cons x _ ih=>
  intro hl r;rw[ko,ko]
  exact ih (λt ht=>hl t (by simp[ht])) _
 |swap x y l=>
  intro hl r
  rw[ko,ko,ko,ko,KT (hl x (by simp)) (hl y (by simp))]
 |trans h1 _ ih1 ih2=>
  intro hl r;rw[ih1 hl,ih2 λt ht=>hl t (h1.mem_iff.2 ht)]
theorem xk{nk}:∀{l},(∀t,t∈l->aO nk t=0)->bW nk l=0
 |[],_=>rfl
 |x::l,h=>by rw[bW,if_pos (h x (by simp))];exact xk λt ht=>h t (by simp[ht])
theorem I5{s}{l m}(h:m.Perm l)(hl:bg s l=0):bg s m=0:=by
 obtain⟨h1,h2,h3⟩:=j0 hl;rw[bg,if_pos h1,if_neg (by rw[h.length_eq];omega)];exact xk λt ht=>jy h3 t (h.mem_iff.1 ht)
theorem Eo{s}{l m}(h:m.Perm l)(hl:bg s l=0)(k):cx s m k=cx s l k:=by
 have h3:=(j0 hl).2.2;have hk:aD s m k=aD s l k:=by
  have hr:dR s m k=dR s l k:=GN h (λt ht=>jy h3 t (h.mem_iff.1 ht)) _;unfold aD;rw[I5 h hl,hl,hr]
 unfold cx;rw[hk]
end Ch
end Abs
end Go.Proofs.YtnjiadikeacfaaaGreatDoor
