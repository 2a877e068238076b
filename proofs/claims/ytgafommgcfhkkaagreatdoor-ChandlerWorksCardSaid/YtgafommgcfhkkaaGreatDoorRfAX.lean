/- CONTRACTS of functions and laws. No conditions but those in the heads. -/
import Derived.Test.YtgafommgcfhkkaaGreatDoorChReadCX
set_option linter.all false
set_option maxHeartbeats 4000000
open Go.Proofs.Tryz
namespace Go.Proofs.YtgafommgcfhkkaaGreatDoor
namespace Abs
namespace Ch
set_option maxRecDepth 4000
def Wb(s:ChShop)(j)(u:s.wax.kinds.length<1000000000):af Tryz.prog 189 [s.pv,.str (bs j)] (.int .i64 (an (λx=>x.name==bs j) s.wax.kinds 0)):=by
 refine ae (ag func189 rfl) rfl (zm ?_);refine aG [1,2] s.wax.kinds u (τ:=Unit) (λd r _=>an (λx:WxKind=>x.name==bs j) s.wax.kinds 0=an (λx:WxKind=>x.name==bs j) r d.length) (λd _=>[(5,.p (.int .i64 d.length))]) (λ_ _=>[.row 17 [.p s.pv]]) () rfl ?_ ?_ ?_
 .simp[bS,go_sem]
 .intro _ e;have i:¬((s.wax.kinds.length:Int)<(s.wax.kinds.length:Int)):=by omega
  rw[e];simp[i,decide_false,an,go_sem]
 .intro d x r _ v e hx i l;refine zp i decide_true hx ?_;rw[an]at e
  cases q:(x.name==bs j) with
  |true=>
   rw[q,if_pos rfl]at e;rw[e]
   simp[go_sem]
  |false=>
   rw[q,if_neg (by simp)]at e;refine zm ?_;refine am v () (by rw[e];simp) ?_;simp[l,go_sem]
def zd(s:ChShop)(j)(u:s.colour.colours.length<1000000000):af Tryz.prog 192 [s.pv,.str (bs j)] (.int .i64 (an (λx=>x.name==bs j) s.colour.colours 0)):=by
 refine ae (ag func192 rfl) rfl (zm ?_);refine aG [1,2] s.colour.colours u (τ:=Unit) (λd r _=>an (λx:ClColour=>x.name==bs j) s.colour.colours 0=an (λx:ClColour=>x.name==bs j) r d.length) (λd _=>[(5,.p (.int .i64 d.length))]) (λ_ _=>[.row 17 [.p s.pv]]) () rfl ?_ ?_ ?_
 .simp[bS,go_sem]
 .intro _ e;have i:¬((s.colour.colours.length:Int)<(s.colour.colours.length:Int)):=by omega
  rw[e];simp[i,decide_false,an,go_sem]
 .intro d x r _ v e hx i l;refine zp i decide_true hx ?_;rw[an]at e
  cases q:(x.name==bs j) with
  |true=>
   rw[q,if_pos rfl]at e;rw[e]
   simp[go_sem]
  |false=>
   rw[q,if_neg (by simp)]at e;refine zm ?_;refine am v () (by rw[e];simp) ?_;simp[l,go_sem]
def FU(s:ChShop)(j)(u:s.hour.kinds.length<1000000000):af Tryz.prog 199 [s.pv,.str (bs j)] (.int .i64 (an (λx=>x.name==bs j) s.hour.kinds 0)):=by
 refine ae (ag func199 rfl) rfl (zm ?_);refine aG [1,2] s.hour.kinds u (τ:=Unit) (λd r _=>an (λx:HrKind=>x.name==bs j) s.hour.kinds 0=an (λx:HrKind=>x.name==bs j) r d.length) (λd _=>[(5,.p (.int .i64 d.length))]) (λ_ _=>[.row 17 [.p s.pv]]) () rfl ?_ ?_ ?_
 .simp[bS,go_sem]
 .intro _ e;have i:¬((s.hour.kinds.length:Int)<(s.hour.kinds.length:Int)):=by omega
  rw[e];simp[i,decide_false,an,go_sem]
 .intro d x r _ v e hx i l;refine zp i decide_true hx ?_;rw[an]at e
  cases q:(x.name==bs j) with
  |true=>
   rw[q,if_pos rfl]at e;rw[e]
   simp[go_sem]
  |false=>
   rw[q,if_neg (by simp)]at e;refine zm ?_;refine am v () (by rw[e];simp) ?_;simp[l,go_sem]
def QG(s:ChBooks)(j)(u:s.lots.length<1000000000):af Tryz.prog 190 [s.pv,.str (bs j)] (.int .i64 (an (λx=>x.name==bs j) s.lots 0)):=by
 refine ae (ag func190 rfl) rfl (zm ?_);refine aG [1,2] s.lots u (τ:=Unit) (λd r _=>an (λx:ChLot=>x.name==bs j) s.lots 0=an (λx:ChLot=>x.name==bs j) r d.length) (λd _=>[(5,.p (.int .i64 d.length))]) (λ_ _=>[.row 6 [.p s.pv]]) () rfl ?_ ?_ ?_
 .simp[bS,go_sem]
 .intro _ e;have i:¬((s.lots.length:Int)<(s.lots.length:Int)):=by omega
  rw[e];simp[i,decide_false,an,go_sem]
 .intro d x r _ v e hx i l;refine zp i decide_true hx ?_;rw[an]at e
  cases q:(x.name==bs j) with
  |true=>
   rw[q,if_pos rfl]at e;rw[e]
   simp[go_sem]
  |false=>
   rw[q,if_neg (by simp)]at e;refine zm ?_;refine am v () (by rw[e];simp) ?_;simp[l,go_sem]
def I'(s:ChBooks)(j)(u:s.batches.length<1000000000):af Tryz.prog 193 [s.pv,.str (bs j)] (.int .i64 (an (λx=>x.name==bs j) s.batches 0)):=by
 refine ae (ag func193 rfl) rfl (zm ?_);refine aG [1,2] s.batches u (τ:=Unit) (λd r _=>an (λx:ChBatch=>x.name==bs j) s.batches 0=an (λx:ChBatch=>x.name==bs j) r d.length) (λd _=>[(5,.p (.int .i64 d.length))]) (λ_ _=>[.row 6 [.p s.pv]]) () rfl ?_ ?_ ?_
 .simp[bS,go_sem]
 .intro _ e;have i:¬((s.batches.length:Int)<(s.batches.length:Int)):=by omega
  rw[e];simp[i,decide_false,an,go_sem]
 .intro d x r _ v e hx i l;refine zp i decide_true hx ?_;rw[an]at e
  cases q:(x.name==bs j) with
  |true=>
   rw[q,if_pos rfl]at e;rw[e]
   simp[go_sem]
  |false=>
   rw[q,if_neg (by simp)]at e;refine zm ?_;refine am v () (by rw[e];simp) ?_;simp[l,go_sem]
def ea (l:List Int):List UInt8:=l.flatMap λn=>32::aX n
def M8(d)(n):ea (d++[n])=ea d++32::aX n:=by simp[ea]
def ny:∀d,(∀n,n∈d->0<=n/\n<1000000000)->(ea d).length<=1001*d.length
 |[],_=>ba _
 |n::d,h=>by
  have e:=h n (by simp);have:=j8 e.1 e.2;have:=ny d λm i=>h m (by simp[i]);unfold ea at this |-;simp only[mS,ak,bc];omega
def mf(l)(fl)(G:l.length<=100000)(h:∀n,n∈l->0<=n/\n<1000000000):af Tryz.prog 97 [.slice 1 (l.map ay) fl] (.str (bs (ea l))):=by
 refine ae (ag func97 rfl) rfl (zm ?_);refine aG [0] l (by omega) (τ:=Unit) (λ_ _ _=>True) (λd _=>[(3,.p (.str (bs (ea d)))),(4,.p (.int .i64 d.length))]) (λ_ _=>[]) () trivial ?_ ?_ ?_
 .simp only[bS,go_sem,simprocAttr];rfl
 .intro _ _;have i:¬((l.length:Int)<(l.length:Int)):=by omega
  simp[i,decide_false,go_sem]
 .intro d n r _ j _ C i u;have e:=h n (by rw[j];simp);have y:(⟨#[32]⟩:ByteArray)=bs [32]:=rfl;have E:=ny d λm D=>h m (by rw[j];simp[D]);have v:=congrArg List.length j;rw[ak]at v;have F:=j8 e.1 e.2;have A:(bs (ea d)).size+1<=aM:=by simp[al,aM];omega
  have q:(bs (ea d)).size+(bs [32]).size<=aM:=A;have z:(bs (ea d++[32])).size+(bs (aX n)).size<=aM:=by simp[al,aM];omega
  simp only[i,decide_true,C,q,y,cc,go_sem,simprocAttr];refine aa (js e.1 e.2) rfl (zo @cc z ?_);refine am (Inv:=λ_ _ _=>True) j () trivial ?_;simp[u,M8,dD,BY,go_sem]
end Ch
variable {P:Program} {H:Hints}
def qt (q v:PV):Prop:=∀(M:Nat->Prop) (w:World) (u:Value),RepP M w u q->RepP M w u v
def pk{q:PV}:qt q q:=λ_ _ _ h=>h
def Ft{n:Nat}{l:List PV}{b:Bool}:qt (.slice n l b) (.slice n l false):=λ_ _ _ h=>by
 cases h with
 |slice f e v y u q j i=>exact .slice f e v (λh=>by cases h) u q j i
 |empty e=>exact .empty (by simp)
def RJ{A:AAct}{T:Nat->AV}(K:Nat->Bool)(y:∀t,T t=A.tmps t\/T t=.undef\/∃q v,T t=.p v/\oH (aQ (λi=>!K i) A.h) (A.tmps t)=some q/\qt q v) :
  gU P A { A with tmps:=T,h:=aQ K A.h }:=
 ⟨rfl,rfl,λM0 z b cs0 m a w j=>by
  have e:=j.ahead (m':=cT K m) (h':=aQ K A.h) (w':=w) (s7 ⟨m,A.h,w⟩ K _) (qM j.hok K);refine⟨cT K m,e.size,λt=>?_,e.hok,e.ev,e.le,?_,e.rc⟩
  .show Rep M0 ⟨cT K m,aQ K A.h,w⟩ (a.tmps.getD t undef) (T t);rcases y t with h|h|⟨q,v,h,u,l⟩
   .rw[h];exact e.tmps t
   .rw[h];exact trivial
   .rw[h];exact l _ _ _ (nK (S:=⟨m,A.h,w⟩) j.hok K (j.tmps t) u)
  .exact e.df⟩
def Fv{A:AAct}(f:AV->Option PV)(live:List Nat)(t:Nat):∀l:List (Nat×PV),(∀p,p∈l->∃q,f (A.tmps p.1)=some q/\qt q p.2) ->
  cM ((l.map λp=>(p.1,AV.p p.2))++bP A.tmps live []) t=A.tmps t\/cM ((l.map λp=>(p.1,AV.p p.2))++bP A.tmps live []) t=.undef\/∃q v,cM ((l.map λp=>(p.1,AV.p p.2))++bP A.tmps live []) t=.p v/\f (A.tmps t)=some q/\qt q v
 |[],_=>by
  rcases pn (T:=A.tmps) live t with⟨e,_⟩|e
  .exact .inl e
  .exact .inr (.inl e)
 |p::l,j=>by
  rw[bf,ga,sH];by_cases i:t=p.1
  .rw[if_pos i];subst i;obtain⟨q,e,y⟩:=j p (by simp);exact .inr (.inr ⟨q,p.2,rfl,e,y⟩)
  .rw[if_neg i];exact Fv f live t l λq u=>j q (by simp[u])
def Rx{c:Code}{Q:Ex->AAct->Prop}{A:AAct}(K:Nat->Bool)(live:List Nat)(l:List (Nat×PV))(h':Heap)(hh:aQ K A.h=h')(j:A.df=[])
  (e:∀p,p∈l->∃q,oH (aQ (λi=>!K i) A.h) (A.tmps p.1)=some q/\qt q p.2) (k:SW P H c Q { n:=A.n,bs:=A.bs,rc:=A.rc,tmps:=cM ((l.map λp=>(p.1,AV.p p.2))++bP A.tmps live []),h:=h',df:=[] }):SW P H c Q A:=by
 subst hh;have hw:=RJ (P:=P) (A:=A) (T:=cM ((l.map λp=>(p.1,AV.p p.2))++bP A.tmps live [])) K (λt=>Fv _ live t l e);refine vR hw ?_;rw[j];exact k
def zaM{y:Code}{Q:Ex->AAct->Prop}{A:AAct}:@WQ ⟨fh (SW P H y Q) Q⟩ .normal A=SW P H y Q A:=rfl
attribute [go_sem] zaM
def Ag{x y}{Q}{A}(h:SW P H x (fh (SW P H y Q) Q) A):SW P H (.seq x y) Q A:=
 λM0 F b cs0 n m a w k D I J=>by
  simp only[dV,eI]at D;obtain⟨e,G,C,E,z,j,u,q,i⟩:=h M0 F b cs0 n m a w (.code y::k) D.1 I J
  have pass:∀(l:Ex),l≠.normal->Q l G->uI P (Avoid M0 C) (lone (b.atR a (.code x::.code y::k)) (bR A.rc cs0) w) b (.code y::k) (bR G.rc cs0) E z l ->
    qw P M0 F b cs0 n (lone (b.atR a (.code (.seq x y)::k)) (bR A.rc cs0) w) k Q:=
   λl K j i=>⟨l,G,C,E,z,j,u,q,.of_steps (.one stepR_seq) (.pass (x:=.code y) rfl K i)⟩
  cases e with
  |normal=>exact(j M0 F b cs0 n C E z k D.2 q u).of_steps (.head stepR_seq i)
  |exit id=>exact pass (.exit id) (by simp) j i
  |ret=>exact pass .ret (by simp) j i
  |panic v=>exact pass (.panic v) (by simp) j i
def xy{id}{x}{Q}{A}(h:SW P H x (lE id Q) A):SW P H (.block id x) Q A:=
 λM0 O b cs0 n m a w k N L M=>by
  obtain⟨e,F,C,E,z,y,q,l,i⟩:=h M0 O b cs0 n m a w (.inBlock id::k) N L M
  cases e with
  |normal=>exact⟨.normal,F,C,E,z,y,q,l,.head stepR_block (Steps.trans i (.one stepR_inBlock))⟩
  |exit j=>
   by_cases u:j=id
   .simp only[lE,u,if_true]at y;exact⟨.normal,F,C,E,z,y,q,l,.head stepR_block (i.1 k (by simp[exitTo,u]))⟩
   .simp only[lE,u,if_false]at y;have this:(id==j)=false:=by simp;exact λh=>u h.symm
    have hx:exitTo j (.inBlock id::k)=exitTo j k:=by simp[exitTo,this]
    exact⟨.exit j,F,C,E,z,y,q,l,λK I=>.head stepR_block (i.1 K (by rw[hx];exact I)),
     λI=>let ⟨G,D,J⟩:=i.2 (by rw[hx];exact I);⟨G,D,.head stepR_block J⟩⟩
  |ret=>exact⟨.ret,F,C,E,z,y,q,l,let ⟨G,D⟩:=i;⟨G,.head stepR_block D⟩⟩
  |panic v=>exact⟨.panic v,F,C,E,z,y,q,l,let ⟨v',t,D,J⟩:=i;⟨v',t,D,.head stepR_block J⟩⟩
def Xi{σ}{x}{Q}{A}(V:σ->Prop)(I)(μ)(J)(Z:V J)(h0:gU P A (I J))(hs:∀s,V s->SW P H x (fh (iA P V I μ s) Q) (I s)):SW P H (.loop x) Q A:=
 λM0 z b cs0 n m a w k hc M N=>by
  have R:∀(j:Nat) (s:σ),V s->μ s=j->∀(m:List (Option Nat)) (a:Act) (w:World),Rel P M0 z b cs0 m (I s) a w->(I s).n=n->qw P M0 z b cs0 n (lone (b.atR a (.code x::.inLoop x::k)) (bR (I s).rc cs0) w) k Q:=by
   intro j
   induction j using Nat.strongRecOn with
   |_ j Y=>
    intro s T hj m a w M N;obtain⟨e,O,L,G,F,y,E,D,i⟩:=hs s T M0 z b cs0 n m a w (.inLoop x::k) hc M N
    have pass:∀(C:Ex),C≠.normal->Q C O->uI P (Avoid M0 L) (lone (b.atR a (.code x::.inLoop x::k)) (bR (I s).rc cs0) w) b (.inLoop x::k) (bR O.rc cs0) G F C ->
      qw P M0 z b cs0 n (lone (b.atR a (.code x::.inLoop x::k)) (bR (I s).rc cs0) w) k Q:=
     λC he y i=>⟨C,O,L,G,F,y,E,D,.pass (x:=.inLoop x) rfl he i⟩
    cases e with
    |normal=>
     obtain⟨X,U,S,u,l,hw⟩:=y;obtain⟨K,q⟩:=hw M0 z b cs0 L G F D;have:=Y (μ X) (hj▸S) X U rfl K G F q (u.trans E);rw[l]at this
     exact this.of_steps (Steps.trans i (.one stepR_inLoop))
    |exit id=>exact pass (.exit id) (by simp) y i
    |ret=>exact pass .ret (by simp) y i
    |panic v=>exact pass (.panic v) (by simp) y i
  obtain⟨u,l,hw⟩:=h0;obtain⟨K,q⟩:=hw M0 z b cs0 m a w M;have:=R _ J Z rfl K a w q (u.trans N);rw[l]at this;exact this.of_steps (.one stepR_loop)
def Gg{α τ}{x}{Q}{A}(live)(l)(D:l.length<1000000000)(Inv:List α->List α->τ->Prop)(M)(i)(u)(hi:Inv [] l u)
  (z:oE A.bs A.df A.tmps A.h (bP A.tmps live (M [] u)) (i [] u))
  (q:∀t,Inv l [] t->SW P H x (fh (iA P (qE l Inv) (λs=>gw A live (jB M s) (jB i s)) (λs=>s.2.1.length) (l,[],t)) Q)
   {n:=A.n,bs:=A.bs,rc:=A.rc,tmps:=cM (bP A.tmps live (M l t)),h:=i l t,df:=A.df })
  (e:∀d_ y r t,l=d_++y::r->Inv d_ (y::r) t->l[d_.length]?=some y->((d_.length:Int)<(l.length:Int))->IntKind.i64.wrap ((d_.length:Int)+1)=(((d_++[y]).length:Nat):Int) ->
   SW P H x (fh (iA P (qE l Inv) (λs=>gw A live (jB M s) (jB i s)) (λs=>s.2.1.length) (d_,y::r,t)) Q)
    {n:=A.n,bs:=A.bs,rc:=A.rc,tmps:=cM (bP A.tmps live (M d_ t)),h:=i d_ t,df:=A.df }):SW P H (.loop x) Q A:=by
 refine Xi (qE l Inv) (λs=>gw A live (jB M s) (jB i s)) (λs=>s.2.1.length) ([],l,u) ⟨rfl,hi⟩ (su rfl rfl rfl rfl z) ?_
 rintro⟨d_,rest,t⟩ ⟨j,v⟩
 dsimp only at j v
 cases rest with
 |nil=>
  rw[bI]at j;subst j
  exact q t v
 |cons y r=>
  have C:d_.length<l.length:=by rw[j];simp
  refine e d_ y r t j v ?_ (by omega) ?_
  .subst j;simp
  .rw[ah];simp
variable {P:Program} {M0:Nat->Prop}
def II (h:Heap) (x y:AV):Prop:=∃cs ds,x.cells=some cs/\y.cells=some ds/\ds.length=cs.length/\∀(j:Nat) (c d:AV),cs[j]?=some c->ds[j]?=some d->d=c\/∃q v,d=.p v/\v.isCell=true/\oH h c=some q/\qt q v
def Ak{A}{T}(K)(i s)(xs ys)(X:K i=false)(hx:A.h[i]?=some (.row s xs))(l:ys.length=xs.length)
  (J:∀(n:Nat) (x y),xs[n]?=some x->ys[n]?=some y->II (aQ (λi=>!K i) A.h) x y)
  (hT:∀t,T t=A.tmps t\/T t=.undef\/∃q v,T t=.p v/\oH (aQ (λi=>!K i) A.h) (A.tmps t)=some q/\qt q v) :
  gU P A { A with tmps:=T,h:=(aQ K A.h).set i (.row s ys) }:=
 ⟨rfl,rfl,λM0 S0 b cs0 m a w L=>by
  have a4:i<A.h.length:=(aC.1 hx).1;have a3:(aQ K A.h).length=A.h.length:=by simp[aQ]
  have z:=qM L.hok K;have V:(aQ K A.h)[i]?=some (.row s xs):=by rw[l8 X];exact hx
  have e2:∀base,Ev base ⟨cT K m,aQ K A.h,w⟩ ⟨cT K m,(aQ K A.h).set i (.row s ys),w⟩:=λbase=>
   ⟨Fr.refl _ _,λ_ h=>.inl h,λid o _ M=>by
    by_cases D:id=i
    .subst D;have e:(aQ K A.h)[id]?=some o:=M;rw[V]at e;cases e;exact⟨.row s ys,jp (by omega),.inr (.inl ⟨s,xs,ys,rfl,rfl,.inl ⟨l,rfl⟩⟩)⟩
    .exact⟨o,by show ((aQ K A.h).set i (.row s ys))[id]?=some o;rw[eS (Ne.symm D)];exact M,ObjEv.refl _ _⟩⟩
  have hm:(cT K m).getD i none=m.getD i none:=p5 X
  have Z:HOk P M0 ⟨cT K m,(aQ K A.h).set i (.row s ys),w⟩:=
   {len:=by show (cT K m).length=_;rw[wh];exact z.len
    lt:=z.lt
    m0:=z.m0
    inj:=z.inj
    gl:=(e2 0).glob z.gl
    obj:=λid o M=>by
     by_cases D:id=i
     .subst D;have e:((aQ K A.h).set id (.row s ys))[id]?=some o:=M;rw[jp (by omega)]at e;cases e;have h0:=L.hok.obj id _ hx;have h1:=z.obj id _ V;show ObjOk P M0 _ ((cT K m).getD id none) _;rw[hm];rcases h0 with⟨O,h3⟩|⟨b',T',C,O,h3,h4,h5⟩
      .refine .inl ⟨O,?_⟩;rw[h3]at l;exact pJ.1 l
      .rcases h1 with⟨I,_⟩|⟨R,T1,C1,g2,g3,g4,g5⟩
       .have E:(cT K m).getD id none=none:=I;rw[hm]at E;have:m.getD id none=some b':=O;rw[E]at this;cases this
       .have Y:(cT K m).getD id none=some R:=g2;rw[hm]at Y;have I:m.getD id none=some b':=O;have a2:R=b':=kw (Y.symm.trans I);subst a2;have a1:=kw (Eq.trans (Eq.symm (show w.heap[R]?=some (Obj.cells C T' (0,0)) from h3)) (show w.heap[R]?=some (Obj.cells C1 T1 (0,0)) from g3));cases a1;refine .inr ⟨R,T',C,O,h3,by rw[l];exact h4,λn y hy=>?_⟩;have hn:n<xs.length:=by rw[<-l];exact(aC.1 hy).1
        obtain⟨x,F⟩:∃x,xs[n]?=some x:=⟨_,bL hn⟩
        obtain⟨cs,ds,k1,k2,k3,k4⟩:=J n x y F hy;obtain⟨a6,k5,k6,k7⟩:=h5 n x F;rw[k1]at k5;cases k5;obtain⟨a5,k8,k9,U⟩:=g5 n x F;rw[k1]at k8;cases k8;refine⟨ds,k2,by omega,λj d hd=>?_⟩;have hj:j<cs.length:=by rw[<-k3];exact(aC.1 hd).1
        obtain⟨c,N⟩:∃c,cs[j]?=some c:=⟨_,bL hj⟩
        rcases k4 j c d N hd with rfl|⟨q,v,rfl,a0,hq,G⟩
        .exact⟨(U j _ N).1,(e2 _).keepS (U j _ N).2⟩
        .refine⟨a0,?_⟩;exact G _ _ _ (nK (S:=⟨m,A.h,w⟩) L.hok K (qF (k7 j c N).1 (k7 j c N).2) hq)
     .have e:((aQ K A.h).set i (.row s ys))[id]?=some o:=M;rw[eS (Ne.symm D)]at e
      exact ObjOk.keep (e2 _) (z.obj id o e) (λ_ _=>rfl) }
  have ev:Ev A.h.length ⟨m,A.h,w⟩ ⟨cT K m,(aQ K A.h).set i (.row s ys),w⟩:=(s7 ⟨m,A.h,w⟩ K _).trans (e2 _);have u:=L.ahead ev Z;refine⟨cT K m,u.size,λt=>?_,u.hok,u.ev,u.le,u.df,u.rc⟩;show Rep M0 _ (a.tmps.getD t undef) (T t);rcases hT t with h|h|⟨q,v,h,hq,G⟩
  .rw[h];exact u.tmps t
  .rw[h];exact trivial
  .rw[h];exact G _ _ _ (nK (S:=⟨m,A.h,w⟩) L.hok K (L.tmps t) hq)⟩
def Nf(h):aQ (λi=>!(λ_=>true) i) h=h:=by
 apply pE;intro i;rw[nG];cases h[i]?<;>simp
def lL{f}{args}{h}{v}(O:aw P f args h (λr L=>∃a q,r=.ret a/\oH L a=some q/\qt q v)) :
  aw P f args h (λr h'=>r=.ret (.p v)/\h'=List.replicate h.length .dead):=by
 intro M0 m w D R C;have:=O M0 m w D R C;refine⟨this.1,this.2.mono λe w' hh=>?_⟩;obtain⟨r,h',m',⟨a,q,rfl,N,I⟩,K,G,y⟩:=hh;have u:∀b,¬Own (List.replicate h.length (none:Option Nat)) b:=λb l=>by
  obtain⟨i,hi⟩:=fN (show some b∈List.replicate h.length none from l);rw[AT]at hi;split at hi<;>cases hi
 have A:∃v',e=.returned v'/\Rep M0 ⟨m',h',w'⟩ v' a:=by
  cases e with
  |returned v'=>exact⟨v',rfl,y⟩
  |panicked V=>exact y.elim
  |outgrown=>exact y.elim
 obtain⟨v',rfl,E⟩:=A;refine⟨.ret (.p v),_,List.replicate h.length none,⟨rfl,rfl⟩,⟨K.fr,λb l=>(u b l).elim,λid o J F=>⟨.dead,?_,.inl rfl⟩⟩,?_,?_⟩
 .show (List.replicate h.length AObj.dead)[id]?=some .dead;rw[AT,if_pos J]
 .exact
   {len:=by simp
    lt:=λb l=>(u b l).elim
    m0:=λb l=>⟨(G.m0 b l).1,u b⟩
    inj:=λi j b hi T=>by
     rw[AT]at hi;split at hi<;>cases hi
    obj:=λid o F=>by
     have z:(List.replicate h.length AObj.dead)[id]?=some o:=F;rw[AT]at z;split at z<;>cases z;exact trivial
    gl:=⟨G.gl.1,λb U F=>(u b F).elim⟩ }
 .have M:=nK (S:=⟨m',h',w'⟩) G (λ_=>true) E (q:=q) (by rw[show aQ (λi=>!(λ_:Nat=>true) i) h'=h' from Nf h'];exact N);have:=I _ _ _ M;exact RepP.less this λb l=>by
   rcases l with l|l
   .exact .inl l
   .exact(u b l).elim
def vn{f}{pargs}{v}(y:aw P f (pargs.map .p) [] (λr E=>∃a q,r=.ret a/\oH E a=some q/\qt q v)):af P f pargs v:=by
 intro M0 w l J I F;have D:eD (Rep M0 ⟨[],[],w⟩) l (pargs.map .p):=by
  refine⟨by simpa using F.1,λi c y=>?_⟩;simp only[cX,bg]at y;obtain⟨q,z,rfl⟩:=y;exact aR ((F.2 i q z).mono (λ_ _ _=>rfl) (λb u=>by
   rcases u with u|u
   .exact .inl u
   .simp[Own]at u))
 have:=y M0 [] w l (pu J I) D;refine⟨this.1,this.2.mono λe w' h=>?_⟩;obtain⟨r,h',m',⟨a,q,rfl,z,A⟩,C,G,j⟩:=h
 cases e with
 |returned v'=>exact⟨v',rfl,A _ _ _ (rO (S:=⟨m',h',w'⟩) G j z),C.fr⟩
 |panicked K=>exact j.elim
 |outgrown=>exact j.elim
def PO{q v}(h:PL q v):qt q v:=λ_ _ _ e=>PL.rep h e
def uG{H}{c}{Q}{A}(K)(live)(i s)(xs ys)(h')(q:K i=false)(hx:A.h[i]?=some (.row s xs))(j:ys.length=xs.length)
  (e:∀(n:Nat) (x y),xs[n]?=some x->ys[n]?=some y->II (aQ (λi=>!K i) A.h) x y) (hh:(aQ K A.h).set i (.row s ys)=h')
  (k:SW P H c Q { n:=A.n,bs:=A.bs,rc:=A.rc,tmps:=cM (bP A.tmps live []),h:=h',df:=A.df }):SW P H c Q A:=by
 subst hh;exact vR (Ak (P:=P) (A:=A) (T:=cM (bP A.tmps live [])) K i s xs ys q hx j e λt=>by
  rcases pn (T:=A.tmps) live t with⟨l,_⟩|l
  .exact .inl l
  .exact .inr (.inl l)) k
def NB (h:Heap):List AV->List AV->Prop
 |c::cs,d::ds=>(d=c\/∃q v,d=.p v/\v.isCell=true/\oH h c=some q/\qt q v)/\NB h cs ds
 |[],[]=>True
 |_,_=>False
def yQ{h}:∀{cs ds},NB h cs ds->ds.length=cs.length/\∀(j:Nat) (c d),cs[j]?=some c->ds[j]?=some d->d=c\/∃q v,d=.p v/\v.isCell=true/\oH h c=some q/\qt q v
 |[],[],_=>⟨rfl,λj c d h=>by simp at h⟩
 |c::cs,d::ds,h=>by
  obtain⟨u,l⟩:=yQ h.2;refine⟨by simp[u],λj z y i e=>?_⟩
  cases j with
  |zero=>cases i;cases e;exact h.1
  |succ j=>exact l j z y (by simpa using i) (by simpa using e)
 |[],_::_,h=>h.elim
 |_::_,[],h=>h.elim
def rm{h}{xs}{a b}{cs ds}(z:∀x,x∈xs->x.cells.isSome=true)(C:a.cells=some cs)(A:b.cells=some ds)(q:NB h cs ds) :
  ∀(n:Nat) (x y),(xs++[a])[n]?=some x->(xs++[b])[n]?=some y->II h x y:=by
 intro n x y hx e;rcases GO n xs.length with l|l|l
 .rw[bJ l]at hx e;rw[hx]at e;cases e;obtain⟨i,u⟩:=iM.1 (z x (aB hx));exact⟨i,i,u,u,rfl,λj c d D v=>by rw[D]at v;cases v;exact .inl rfl⟩
 .subst l;rw[dB (ba _),ud]at hx e;cases hx;cases e;exact⟨cs,ds,C,A,(yQ q).1,(yQ q).2⟩
 .rw[vV (by simp;omega)]at hx;cases hx
namespace Ch
set_option maxRecDepth 4000
def sU{P}{H}{c}{Q}{A}(live)(i sz s)(xs ys)(hi:A.bs<=i)(F:A.bs<=A.h.length)(hx:A.h[i]?=some (.row s xs))(u:ys.length=xs.length)
  (l:∀(n:Nat) (x y),xs[n]?=some x->ys[n]?=some y->tG A.h.length x y)
  (D:∀t,t∈live->below A.h.length (A.tmps t)) (C:∀o,o∈A.h->bB A.h.length o) (E:A.df=[])
  (k:SW P H c Q { n:=A.n,bs:=A.bs,rc:=A.rc,tmps:=cM (bP A.tmps live []),h:=A.h.set i (.row s ys)++[.row sz []],df:=A.df }):SW P H c Q A:=by
 have q:i<A.h.length:=(aC.1 hx).1
 have hw:=pK (P:=P) (A:={ A with h:=A.h++[.row sz []] }) (T:=cM (bP A.tmps live [])) A.h.length i sz s xs ys F hi (by simp) (by omega)
  (by rw[bJ q];exact hx) u l (λt=>by
   rcases n6 (T:=A.tmps) live t with⟨v,G⟩|v
   .exact .inl ⟨v,vv (D t G)⟩
   .exact .inr v) (λid o I j=>by
   have z:id<A.h.length:=by
    have:=(aC.1 j).1;simp at this;omega
   rw[bJ z]at j
   exact uv (C o (aB j))) E
 have e:((A.h++[AObj.row sz []]).set A.h.length (.row sz [])).set i (.row s ys)=A.h.set i (.row s ys)++[.row sz []]:=by
  rw[ra _ _ (ba _),ud];show (A.h++[AObj.row sz []]).set i _=_;rw[ue _ _ q]
 refine vR (wk sz) (vR hw ?_);rw[e];exact k
def Se (k:Nat):List AV->List AV->Prop
 |c::cs,d::ds=>(d=c\/(c=.p .nilslice/\d=.slice k 0 0 0))/\Se k cs ds
 |[],[]=>True
 |_,_=>False
def Bl{k}:∀{cs ds},Se k cs ds->ds.length=cs.length/\∀(j:Nat) (c d),cs[j]?=some c->ds[j]?=some d->d=c\/(c=.p .nilslice/\d=.slice k 0 0 0)
 |[],[],_=>⟨rfl,λj c d h=>by simp at h⟩
 |c::cs,d::ds,h=>by
  obtain⟨q,l⟩:=Bl h.2;refine⟨by simp[q],λj v u i e=>?_⟩
  cases j with
  |zero=>cases i;cases e;exact h.1
  |succ j=>exact l j v u (by simpa using i) (by simpa using e)
 |[],_::_,h=>h.elim
 |_::_,[],h=>h.elim
def pW{k}{a b}{cs ds}(j:a.cells=some cs)(i:b.cells=some ds)(h:Se k cs ds):∀(n:Nat) (x y),[a][n]?=some x->[b][n]?=some y->tG k x y:=by
 intro n x y hx e
 cases n with
 |zero=>cases hx;cases e;exact⟨cs,ds,j,i,(Bl h).1,(Bl h).2⟩
 |succ n=>simp at hx
def fQ:PV:=.agg [.nilslice,.nilslice,.nilslice,.nilslice,.int .i64 0,.int .i64 0]
def Qe(s)(b)(z)(n)(O)(I:BkOk O b n)(S:∀x,x∈b.lots->x.readings.length<=ai)(R:∀x,x∈b.tests->x.marks.length<=ai):aw Tryz.prog 110 [.p b.pv] [.row 17 [.p s],.row 6 [.p b.pv],.row 6 [.p z]]
  (λr h'=>r=.ret (.agg [.slice 6 b.lots.length 0 b.lots.length,.slice 7 b.batches.length 0 b.batches.length,.slice 8 b.tests.length 0 b.tests.length,.slice 9 b.boxes.length 0 b.boxes.length,.p (.int .i64 b.poured),.p (.int .i64 b.lost)]) /\
   ∃N M L,h'=[.row 17 [.p s],.row 6 [.p b.pv],.row 6 [.p z],N,M,L,.row 4 (b.lots.map dI),.row 4 (b.batches.map bD),.row 3 (b.tests.map er),.row 2 (b.boxes.map jK)]):=by
 have X:=I.lots;have V:=I.batches;have U:=I.tests;have T:=I.boxes
 refine tK (ag func110 rfl) rfl ?_;refine gP cH (zm ?_);refine gP cH (zm ?_);refine Ag ?_;refine gP cH (zm ?_);refine sU (4::[1,2,3]) 5 4 6 _ [.agg [.slice 6 0 0 0,.p .nilslice,.p .nilslice,.p .nilslice,.p (.int .i64 b.poured),.p (.int .i64 b.lost)]] (by show 3<=5;decide) (by show 3<=6;decide) rfl rfl (pW rfl rfl ⟨.inr ⟨rfl,rfl⟩,.inl rfl,.inl rfl,.inl rfl,.inl rfl,.inl rfl,trivial⟩) ?_ ?_ rfl ?_
 .simp[go_sem]
 .simp[go_sem]
 refine zm ?_;refine sU (4::[1,2,3]) 5 4 6 _ [.agg [.slice 6 0 0 0,.slice 7 0 0 0,.p .nilslice,.p .nilslice,.p (.int .i64 b.poured),.p (.int .i64 b.lost)]] (by show 3<=5;decide) (by show 3<=7;decide) rfl rfl (pW rfl rfl ⟨.inl rfl,.inr ⟨rfl,rfl⟩,.inl rfl,.inl rfl,.inl rfl,.inl rfl,trivial⟩) ?_ ?_ rfl ?_
 .simp[go_sem]
 .simp[go_sem]
 refine zm ?_;refine sU (4::[1,2,3]) 5 3 6 _ [.agg [.slice 6 0 0 0,.slice 7 0 0 0,.slice 8 0 0 0,.p .nilslice,.p (.int .i64 b.poured),.p (.int .i64 b.lost)]] (by show 3<=5;decide) (by show 3<=8;decide) rfl rfl (pW rfl rfl ⟨.inl rfl,.inl rfl,.inr ⟨rfl,rfl⟩,.inl rfl,.inl rfl,.inl rfl,trivial⟩) ?_ ?_ rfl ?_
 .simp[go_sem]
 .simp[go_sem]
 refine zm ?_;refine sU (4::[1,2,3]) 5 2 6 _ [.agg [.slice 6 0 0 0,.slice 7 0 0 0,.slice 8 0 0 0,.slice 9 0 0 0,.p (.int .i64 b.poured),.p (.int .i64 b.lost)]] (by show 3<=5;decide) (by show 3<=9;decide) rfl rfl (pW rfl rfl ⟨.inl rfl,.inl rfl,.inl rfl,.inr ⟨rfl,rfl⟩,.inl rfl,.inl rfl,trivial⟩) ?_ ?_ rfl ?_
 .simp[go_sem]
 .simp[go_sem]
 refine zm ?_;refine xy ?_
 refine Gg [1,2,3] b.lots (by omega) (τ:=Unit) (λ_ _ _=>True) (λd _=>[(4,.p (.int .i64 d.length))])
  (λd _=>[.row 17 [.p s],.row 6 [.p b.pv],.row 6 [.p z],.row 6 [.p b.pv],.row 6 [.p fQ],.row 6 [.agg [.slice 6 d.length 0 d.length,.slice 7 0 0 0,.slice 8 0 0 0,.slice 9 0 0 0,.p (.int .i64 b.poured),.p (.int .i64 b.lost)]],.row 4 (d.map dI),.row 4 [],.row 3 [],.row 2 []]) () trivial ?_ ?_ ?_
 .simp[bS,fQ,ChBooks.pv,go_sem]
 .intro _ _;have j:¬((b.lots.length:Int)<(b.lots.length:Int)):=by omega
  refine gP cH (zo j decide_false ?_);refine gP cH ?_;have G:b.batches.length<=ai:=by simp[ai];omega
  refine zn G ?_;have K:∀l:List ChBatch,List.map AV.p (List.map ChBatch.pv l)=l.map bD:=λl=>by rw[g8];rfl
  have J:∀l:List HrBox,List.map AV.p (List.map HrBox.pv l)=l.map jK:=λl=>by rw[g8];rfl
  refine Ag ?_;refine gP cH (zm ?_);refine xy ?_
  refine Gg [1,2,3] b.tests (by omega) (τ:=Unit) (λ_ _ _=>True) (λd _=>[(6,.p (.int .i64 d.length))])
   (λd _=>[.row 17 [.p s],.row 6 [.p b.pv],.row 6 [.p z],.row 6 [.p b.pv],.row 6 [.p fQ],.row 6 [.agg [.slice 6 b.lots.length 0 b.lots.length,.slice 7 b.batches.length 0 b.batches.length,.slice 8 d.length 0 d.length,.slice 9 0 0 0,.p (.int .i64 b.poured),.p (.int .i64 b.lost)]],.row 4 (b.lots.map dI),.row 4 (b.batches.map bD),.row 3 (d.map er),.row 2 []]) () trivial ?_ ?_ ?_
  .simp[bS,fQ,ChBooks.pv,K,go_sem]
  .intro _ _;have j:¬((b.tests.length:Int)<(b.tests.length:Int)):=by omega
   refine gP cH (zo j decide_false ?_);refine gP cH ?_;have G:b.boxes.length<=ai:=by simp[ai];omega
   refine zn G ?_;refine lS cH ?_;simp only[J,fQ,go_sem,simprocAttr];exact⟨_,_,_,rfl,rfl,rfl⟩
  intro d_ x rest _ C _ hx j A;have F:=congrArg List.length C;rw[ak,bc]at F;have v:d_.length+1<=ai:=by simp[ai];omega
  refine gP cH (zo j decide_true ?_);refine Ag ?_;refine xy ?_;refine gP cH ?_;simp only[j,hx,go_sem,simprocAttr];have u:=R x (by rw[C];simp);refine gP cH ?_;by_cases q:x.marks=[]
  .have e:List.map AV.p (List.map HrMark.pv x.marks)=[]:=by simp[q]
   simp only[if_pos e,if_pos u,go_sem,simprocAttr];refine lS cH (zn v ?_);have E:er x=.p (.agg [.int .i64 x.kind,.int .i64 x.error,.slice 2 [] false]):=by simp[er,HrTest.pv,q]
   refine uG (λi=>decide (10<=i)) [1,2,3,6] 8 3 (d_.map er++[.p (.agg [.int .i64 x.kind,.int .i64 x.error,.slice 2 [] true])]) (d_.map er++[er x]) _ rfl rfl (by simp)
    (rm (cs:=[.p (.int .i64 x.kind),.p (.int .i64 x.error),.p (.slice 2 [] true)]) (ds:=[.p (.int .i64 x.kind),.p (.int .i64 x.error),.p (.slice 2 [] false)]) (λy D=>by obtain⟨z,_,rfl⟩:=cA.1 D;rfl) rfl (by rw[E];rfl) ⟨.inl rfl,.inl rfl,.inr ⟨_,_,rfl,rfl,rfl,Ft⟩,trivial⟩) rfl ?_
   simp only[go_sem,simprocAttr];refine lS cH ?_;simp only[A,aQ,List.mapIdx_cons,List.mapIdx_nil,go_sem,simprocAttr];refine am (Inv:=λ_ _ _=>True) C () trivial ?_;simp only[aS,ak,aK,go_sem,simprocAttr]
  .have e:¬List.map AV.p (List.map HrMark.pv x.marks)=[]:=by simp[q]
   simp only[if_neg e,if_pos u,go_sem,simprocAttr];refine lS cH (zn v ?_)
   refine uG (λi=>decide (10<=i)) [1,2,3,6] 8 3 (d_.map er++[.agg [.p (.int .i64 x.kind),.p (.int .i64 x.error),.slice 11 x.marks.length 0 x.marks.length]]) (d_.map er++[er x]) _ rfl rfl (by simp)
    (rm (cs:=[.p (.int .i64 x.kind),.p (.int .i64 x.error),.slice 11 x.marks.length 0 x.marks.length]) (ds:=[.p (.int .i64 x.kind),.p (.int .i64 x.error),.p (.slice 2 (x.marks.map HrMark.pv) false)]) (λy D=>by obtain⟨z,_,rfl⟩:=cA.1 D;rfl) rfl rfl ⟨.inl rfl,.inl rfl,.inr ⟨.slice 2 (x.marks.map HrMark.pv) false,_,rfl,rfl,?_,pk⟩,trivial⟩) rfl ?_
   .simp only[aQ,List.mapIdx_cons,List.mapIdx_nil,go_sem,simprocAttr]
   simp only[go_sem,simprocAttr];refine lS cH ?_;simp only[A,aQ,List.mapIdx_cons,List.mapIdx_nil,go_sem,simprocAttr];refine am (Inv:=λ_ _ _=>True) C () trivial ?_;simp only[aS,ak,aK,go_sem,simprocAttr]
 intro d_ x rest _ C _ hx j A;have F:=congrArg List.length C;rw[ak,bc]at F;have v:d_.length+1<=ai:=by simp[ai];omega
 refine gP cH (zo j decide_true ?_);refine Ag ?_;refine xy ?_;refine gP cH ?_;simp only[j,hx,go_sem,simprocAttr];have u:=S x (by rw[C];simp);refine gP cH ?_;by_cases q:x.readings=[]
 .have e:List.map AV.p (List.map ay x.readings)=[]:=by simp[q]
  simp only[if_pos e,if_pos u,go_sem,simprocAttr];refine lS cH (zn v ?_);have E:dI x=.p (.agg [.str x.name,.int .i64 x.kind,.int .i64 x.grams,.slice 1 [] false]):=by simp[dI,ChLot.pv,q]
  refine uG (λi=>decide (10<=i)) [1,2,3,4] 6 4 (d_.map dI++[.p (.agg [.str x.name,.int .i64 x.kind,.int .i64 x.grams,.slice 1 [] true])]) (d_.map dI++[dI x]) _ rfl rfl (by simp)
   (rm (cs:=[.p (.str x.name),.p (.int .i64 x.kind),.p (.int .i64 x.grams),.p (.slice 1 [] true)]) (ds:=[.p (.str x.name),.p (.int .i64 x.kind),.p (.int .i64 x.grams),.p (.slice 1 [] false)]) (λy D=>by obtain⟨z,_,rfl⟩:=cA.1 D;rfl) rfl (by rw[E];rfl) ⟨.inl rfl,.inl rfl,.inl rfl,.inr ⟨_,_,rfl,rfl,rfl,Ft⟩,trivial⟩) rfl ?_
  simp only[go_sem,simprocAttr];refine lS cH ?_;simp only[A,aQ,List.mapIdx_cons,List.mapIdx_nil,go_sem,simprocAttr];refine am (Inv:=λ_ _ _=>True) C () trivial ?_;simp only[aS,ak,aK,go_sem,simprocAttr]
 .have e:¬List.map AV.p (List.map ay x.readings)=[]:=by simp[q]
  simp only[if_neg e,if_pos u,go_sem,simprocAttr];refine lS cH (zn v ?_)
  refine uG (λi=>decide (10<=i)) [1,2,3,4] 6 4 (d_.map dI++[.agg [.p (.str x.name),.p (.int .i64 x.kind),.p (.int .i64 x.grams),.slice 11 x.readings.length 0 x.readings.length]]) (d_.map dI++[dI x]) _ rfl rfl (by simp)
   (rm (cs:=[.p (.str x.name),.p (.int .i64 x.kind),.p (.int .i64 x.grams),.slice 11 x.readings.length 0 x.readings.length]) (ds:=[.p (.str x.name),.p (.int .i64 x.kind),.p (.int .i64 x.grams),.p (.slice 1 (x.readings.map ay) false)]) (λy D=>by obtain⟨z,_,rfl⟩:=cA.1 D;rfl) rfl rfl ⟨.inl rfl,.inl rfl,.inl rfl,.inr ⟨.slice 1 (x.readings.map ay) false,_,rfl,rfl,?_,pk⟩,trivial⟩) rfl ?_
  .simp only[aQ,List.mapIdx_cons,List.mapIdx_nil,go_sem,simprocAttr]
  simp only[go_sem,simprocAttr];refine lS cH ?_;simp only[A,aQ,List.mapIdx_cons,List.mapIdx_nil,go_sem,simprocAttr];refine am (Inv:=λ_ _ _=>True) C () trivial ?_;simp only[aS,ak,aK,go_sem,simprocAttr]
end Ch
open Go.Proofs.Tryz renaming prog->TP
open Go.IntKind (i64)
namespace Ch
set_option maxRecDepth 4000
def B4 (b:ChBooks):Heap:=[.row 4 (b.lots.map dI),.row 4 (b.batches.map bD),.row 3 (b.tests.map er),.row 2 (b.boxes.map jK)]
def bA (b:ChBooks):AV:=.agg [.slice 0 b.lots.length 0 b.lots.length,.slice 1 b.batches.length 0 b.batches.length,.slice 2 b.tests.length 0 b.tests.length,.slice 3 b.boxes.length 0 b.boxes.length,.p (.int .i64 b.poured),.p (.int .i64 b.lost)]
attribute [go_sem] B4 bA
def mb (b:ChBooks) (q:Except Int (ChBooks×List UInt8)):PV:=match q with|.error e=>.tuple [b.pv,.str .empty,.int .i64 e]|.ok (b',a)=>.tuple [b'.pv,.str (bs a),.int .i64 0]
def fu{α}(p:α->Bool):∀(l) (k),decide (0<=an p l k)=l.any p
 |[],_=>rfl
 |x::r,k=>by
  rw[an,bZ]
  cases p x with
  |true=>rw[if_pos rfl];simp
  |false=>rw[if_neg (by simp),fu p r (k+1)];rfl
def yP(b)(t)(v w):oH (B4 b++t) (.tuple [bA b,.p v,.p w])=some (.tuple [b.pv,v,w]):=by
 have q:∀n h (l:List ChLot),aE (bi n h) (l.map dI)=some (l.map ChLot.pv):=λn h l=>aW (bH n h) ChLot.pv l;have j:∀n h (l:List ChBatch),aE (bi n h) (l.map bD)=some (l.map ChBatch.pv):=λn h l=>aW (bH n h) ChBatch.pv l;have i:∀n h (l:List HrTest),aE (bi n h) (l.map er)=some (l.map HrTest.pv):=λn h l=>aW (bH n h) HrTest.pv l;have e:∀n h (l:List HrBox),aE (bi n h) (l.map jK)=some (l.map HrBox.pv):=λn h l=>aW (bH n h) HrBox.pv l;simp[q,j,i,e,ChBooks.pv,go_sem]
def sN(b)(t)(v):ib (B4 b++t) [bA b,.p v]=some [b.pv,v]:=by
 have q:∀n h (l:List ChLot),aE (bi n h) (l.map dI)=some (l.map ChLot.pv):=λn h l=>aW (bH n h) ChLot.pv l;have j:∀n h (l:List ChBatch),aE (bi n h) (l.map bD)=some (l.map ChBatch.pv):=λn h l=>aW (bH n h) ChBatch.pv l;have i:∀n h (l:List HrTest),aE (bi n h) (l.map er)=some (l.map HrTest.pv):=λn h l=>aW (bH n h) HrTest.pv l;have e:∀n h (l:List HrBox),aE (bi n h) (l.map jK)=some (l.map HrBox.pv):=λn h l=>aW (bH n h) HrBox.pv l;simp[q,j,i,e,ChBooks.pv,go_sem]
def jn{b}{hh}{a}{q}(e)(u:q=.error e)(i:hh.take 4=B4 b)(v:a=.tuple [bA b,.p (.str .empty),.p (.int .i64 e)]) :
  ∃l j,a=l/\bi 8 hh l=some j/\qt j (mb b q):=by
 subst u;subst v;exact⟨_,_,rfl,by have h:=yP b (hh.drop 4) (.str .empty) (.int .i64 e);rw[<-i,ja]at h;exact h,pk⟩
def rU{b b'}{hh}{a}{q}{w}(l:q=.ok (b',w))(e:hh.take 4=B4 b')(u:a=.tuple [bA b',.p (.str (bs w)),.p (.int .i64 0)]) :
  ∃j i,a=j/\bi 8 hh j=some i/\qt i (mb b q):=by
 subst l;subst u;exact⟨_,_,rfl,by have h:=yP b' (hh.drop 4) (.str (bs w)) (.int .i64 0);rw[<-e,ja]at h;exact h,pk⟩
def Hu(t)(rs)(k):(Wx.bj t rs k).2.1=0\/(Wx.bj t rs k).2.1=1\/(Wx.bj t rs k).2.1=2:=by
 unfold Wx.bj;split
 .split
  .unfold Wx.jd;split
   .exact .inl rfl
   .split
    .exact .inr (.inl rfl)
    .split
     .exact .inl rfl
     .exact .inr (.inr rfl)
  .exact .inl rfl
 .exact .inl rfl
def Qf(s)(b)(n)(hs:SOk s)(N:BkOk s b n)(q j)(g)(rs)(V:rs.length<1000000000) :
  aw TP 111 [.p s.pv,bA b,.p (bp (.lot q j g rs)).pv] (B4 b) (λr h'=>r=.ret (.p (mb b (aH s b (.lot q j g rs))))/\h'=List.replicate 4 .dead):=by
 have a5:=N.lots;have a4:=N.batches;have a3:=N.tests;have a2:=N.boxes
 refine lL ?_;refine au (dv (by kernel_rfl) rfl Z4) rfl ?_;simp only[bp,Said.pv,aN,Zw,aD,go_sem,simprocAttr];refine aj (Wb s j hs.waxkinds) rfl ?_;have a0:(0:Int)<((rs.length+1:Nat):Int):=by omega
 have Z:(1:Int)<=((rs.length+1:Nat):Int):=by omega
 refine zp @aD a0 Z ?_;refine pC (pargs:=[b.pv,.str (bs q)]) (QG b q (by omega)) (sN b [_,_,_,_] _) (.int _ _) ?_;have M:=fu (λx:ChLot=>x.name==bs q) b.lots 0;refine zn M ?_;cases h1:(b.lots.any λx=>x.name==bs q)
 rotate_left
 .refine zm ?_;exact jn 5 (by simp only[aH,if_pos h1]) rfl rfl
 have C:¬(b.lots.any λy=>y.name==bs q)=true:=by simp[h1]
 refine zm ?_;cases h2:decide (an (λx:WxKind=>x.name==bs j) s.wax.kinds 0<0);rotate_left
 .have u:an (λx:WxKind=>x.name==bs j) s.wax.kinds 0<0:=by simpa using h2
  refine zm ?_;exact jn 4 (by simp only[aH,if_neg C,if_pos u]) rfl rfl
 have u:¬an (λx:WxKind=>x.name==bs j) s.wax.kinds 0<0:=by simpa using h2
 refine zm ?_;cases T:(decide (g<1)||decide (100000<g))
 rotate_left
 .have a1:¬(1<=g/\g<=100000):=by simp at T;omega
  have ha:aH s b (.lot q j g rs)=.error 7:=by simp only[aH,if_neg C,if_neg u,if_pos a1]
  cases A:decide (g<1)
  .have z:decide (100000<g)=true:=by simpa[A]using T
   refine zn z ?_;exact jn 7 ha rfl rfl
  .refine zm ?_;exact jn 7 ha rfl rfl
 obtain⟨A,z⟩:decide (g<1)=false/\decide (100000<g)=false:=by simpa using T
 have J:¬¬(1<=g/\g<=100000):=by simp at A z;omega
 refine zo A z ?_;refine aa (Wx.S8 s.wax rs (an (λx:WxKind=>x.name==bs j) s.wax.kinds 0) V) rfl ?_;have F:(Wx.bj s.wax rs (an (λx:WxKind=>x.name==bs j) s.wax.kinds 0)).2.2=0->aH s b (.lot q j g rs)=if ¬b.lots.length<8 then .error 3 else .ok ({ b with lots:=b.lots++[⟨bs q,an (λx:WxKind=>x.name==bs j) s.wax.kinds 0,g,rs⟩] },joinL [jc (Wx.bj s.wax rs (an (λx:WxKind=>x.name==bs j) s.wax.kinds 0)).2.1,aX (Wx.bj s.wax rs (an (λx:WxKind=>x.name==bs j) s.wax.kinds 0)).1.lo,aX (Wx.bj s.wax rs (an (λx:WxKind=>x.name==bs j) s.wax.kinds 0)).1.hi]):=λh=>by
  simp only[aH,if_neg C,if_neg u,if_neg J,if_neg (λhn:(Wx.bj s.wax rs (an (λx:WxKind=>x.name==bs j) s.wax.kinds 0)).2.2≠0=>hn h)]
 have E:(Wx.bj s.wax rs (an (λx:WxKind=>x.name==bs j) s.wax.kinds 0)).2.2≠0->aH s b (.lot q j g rs)=.error (Wx.bj s.wax rs (an (λx:WxKind=>x.name==bs j) s.wax.kinds 0)).2.2:=λh=>by
  simp only[aH,if_neg C,if_neg u,if_neg J,if_pos h]
 have K:=Hu s.wax rs (an (λx:WxKind=>x.name==bs j) s.wax.kinds 0);have Y:=λh=>Ce (t:=s.wax) (rs:=rs) (k:=an (λx:WxKind=>x.name==bs j) s.wax.kinds 0) h;generalize Wx.bj s.wax rs (an (λx:WxKind=>x.name==bs j) s.wax.kinds 0)=S at *
 cases O:(S.2.2 != 0)
 rotate_left
 .have v:S.2.2≠0:=by simpa using O
  simp only[Span.pv,O,go_sem,simprocAttr];exact jn S.2.2 (E v) rfl rfl
 have v:S.2.2=0:=by simpa using O
 have i:=F v;obtain⟨r1,r2⟩:=Y v;simp only[Span.pv,O,go_sem,simprocAttr];cases h5:((b.lots.length:Int)==8)
 rotate_left
 .have D:¬b.lots.length<8:=by simp at h5;omega
  rw[if_pos D]at i;refine zm ?_;exact jn 3 i rfl rfl
 have D:¬¬b.lots.length<8:=by simp at h5;omega
 rw[if_neg D]at i;have X:b.lots.length+1<=ai:=by simp only[ai];omega
 refine zo @aD X ?_;have L:=mf [S.1.lo,S.1.hi] true (by simp) (λm I=>by
  simp only[br,dP,or_false]at I;rcases I with rfl|rfl
  .exact r1
  .exact r2)
 have G:S.2.1=0\/S.2.1=1\/S.2.1=2:=K;have l:∀w:List UInt8,jc S.2.1=w->bs w++bs (ea [S.1.lo,S.1.hi])=bs (joinL [jc S.2.1,aX S.1.lo,aX S.1.hi]):=λw h=>by
  rw[h,cc];simp[ea,joinL]
 have U:=ny [S.1.lo,S.1.hi] (λm I=>by
  simp only[br,dP,or_false]at I;rcases I with rfl|rfl
  .exact r1
  .exact r2)
 have R:∀k:Nat,k<=100->k+(bs (ea [S.1.lo,S.1.hi])).size<=aM:=λk hk=>by simp only[al,aM,bc,bS]at U |-;omega
 have q4:=R 4 (by decide);have q6:=R 6 (by decide);have q7:=R 7 (by decide);rcases G with G|G|G<;>rw[G]at l i<;>refine zn G ?_<;>refine aj L rfl ?_<;>refine zp q4 q6 q7 ?_
 .have e:=l vh rfl;exact rU (w:=joinL [jc 0,aX S.1.lo,aX S.1.hi]) i (by simp[B4,dI,ChLot.pv]) (by simp[bA];exact e)
 .have e:=l B3 rfl;exact rU (w:=joinL [jc 1,aX S.1.lo,aX S.1.hi]) i (by simp[B4,dI,ChLot.pv]) (by simp[bA];exact e)
 .have e:=l tm rfl;exact rU (w:=joinL [jc 2,aX S.1.lo,aX S.1.hi]) i (by simp[B4,dI,ChLot.pv]) (by simp[bA];exact e)
def sI:∀(w) (l),joinL (w::l.map aX)=w++ea l
 |w,[]=>by simp[joinL,ea]
 |w,n::l=>by
  rw[bf,joinL,sI (aX n) l]
  .simp[ea]
def QJ(s)(b)(n)(v:BkOk s b n):af TP 117 [s.pv,b.pv] (.str (bs (if(bQ s.hour b.tests b.boxes).1=[] then vg else joinL (sX::(bQ s.hour b.tests b.boxes).1.map aX)))):=by
 obtain⟨k1,A,z⟩:=F1 s.hour b.tests b.boxes v.boxes;have u:=NY s.hour b.tests b.boxes;generalize (bQ s.hour b.tests b.boxes).1=l at *
 generalize (bQ s.hour b.tests b.boxes).2=e at *
 refine ae (ag func117 rfl) rfl (zm ?_);refine aa u rfl ?_;by_cases j:l=[]
 .subst j;simp only[fi,go_sem,simprocAttr];rfl
 .have i:((l.length:Int)==0)=false:=by
   rw[beq_eq_false_iff_ne];intro h;exact j (qx (by omega))
  rw[if_neg j,sI];simp only[fi,i,go_sem,simprocAttr];refine aa (mf l false (by omega) k1) rfl ?_;have y:=ny l k1;have q:6+(bs (ea l)).size<=aM:=by simp only[al,aM];omega
  refine zn q ?_;exact cc sX (ea l)
def sl (l:List ChLot):List (List UInt8):=l.flatMap λx=>[bl x.name,aX x.grams]
def yG(w)(a c):joinL (w++[a,c])=(if w=[] then [] else joinL w++[32])++a++32::c:=by
 induction w with
 |nil=>rfl
 |cons x w e=>
  cases w with
  |nil=>simp[joinL]
  |cons y w=>
   rw[ga,ga,joinL,<-ga,e,if_neg (by simp),if_neg (by simp),joinL];simp
def A7(d)(x):sl (d++[x])=sl d++[bl x.name,aX x.grams]:=by simp[sl]
def UV(d):sl d=[]↔d=[]:=by cases d<;>simp[sl]
def UW:∀d,(∀x,x∈d->0<=x.grams/\x.grams<1000000000)->(∀x,x∈d->x.name.size<=20)->(joinL (sl d)).length<=2000*d.length:=by
 intro d
 induction i:d.length generalizing d with
 |zero=>
  intro _ _
  rw[pJ.1 i];exact ba _
 |succ k v=>
  intro u q;obtain⟨e,x,rfl⟩:∃e x,d=e++[x]:=⟨d.dropLast,d.getLast (by intro h;rw[h]at i;cases i),(List.dropLast_concat_getLast _).symm⟩
  have:=v e (by simp at i;omega) (λy j=>u y (by simp[j])) (λy j=>q y (by simp[j]));have l:=u x (by simp);have A:=j8 l.1 l.2;have z:(bl x.name).length<=20:=q x (by simp);rw[A7,yG];split<;>simp<;>omega
def NR(s)(b)(n)(I:BkOk s b n):af TP 120 [b.pv] (.str (bs (if b.lots=[] then MF else joinL (sl b.lots)))):=by
 have a1:=I.lots;have G:∀x,x∈b.lots->0<=x.grams/\x.grams<1000000000:=λx hx=>by have h1:=I.grams x hx;have h2:=I.few;omega
 have F:=I.names;refine ae (ag func120 rfl) rfl (zm ?_);refine aG [1] b.lots (by omega) (τ:=Unit) (λ_ _ _=>True) (λd _=>[(3,.p (.str (bs (joinL (sl d))))),(4,.p (.int .i64 d.length))]) (λ_ _=>[.row 6 [.p b.pv]]) () trivial ?_ ?_ ?_
 .simp only[bS,go_sem,simprocAttr];rfl
 .intro _ _;have i:¬((b.lots.length:Int)<(b.lots.length:Int)):=by omega
  refine zo i decide_false ?_;have N:(bs (joinL (sl b.lots))==(⟨#[]⟩:ByteArray))=decide (b.lots=[]):=by
   rw[show (⟨#[]⟩:ByteArray)=bs [] from rfl,cF];rcases AW b.lots with h|⟨e,x,h⟩
   .rw[h];rfl
   .rw[h,AX,A7,yG];split<;>simp
  rw[N];by_cases J:b.lots=[]
  .rw[if_pos J];refine zo J decide_true ?_;rfl
  .rw[if_neg J];simp[J,decide_false,go_sem]
 intro d x r _ l _ hx i D;have M:=congrArg List.length l;rw[ak,bc]at M;have Z:=UW d (λy K=>G y (by rw[l];simp[K])) (λy K=>F y (by rw[l];simp[K]));have v:=G x (by rw[l];simp);have E:=mf [x.grams] true (by simp) (λm S=>by rw[dW]at S;subst S;exact v);have L:(bl x.name).length<=20:=F x (by rw[l];simp);have a0:=j8 v.1 v.2;have j:∀n:Int,ea [n]=32::aX n:=λn=>by simp[ea]
 have q:=A7 d x;have u:=yG (sl d) (bl x.name) (aX x.grams);obtain⟨w,C⟩:∃w,x.name=bs w:=⟨bl x.name,(xp x.name).symm⟩
 have O:bl x.name=w:=by rw[C];rfl
 rw[O]at L q u;have R:(⟨#[32]⟩:ByteArray)=bs [32]:=rfl;have Y:(bs (joinL (sl d))).size+(bs [32]).size<=aM:=by simp[al,aM];omega
 have X:(bs (joinL (sl d))).size+(bs w).size<=aM:=by simp[al,aM];omega
 have V:(bs (joinL (sl d)++[32])).size+(bs w).size<=aM:=by simp[al,aM];omega
 have U:(bs (joinL (sl d)++w)).size+(bs (ea [x.grams])).size<=aM:=by rw[j];simp[al,aM];omega
 have T:(bs (joinL (sl d)++32::w)).size+(bs (ea [x.grams])).size<=aM:=by rw[j];simp[al,aM];omega
 refine zo i decide_true ?_;cases A:decide ((0:Int)<(d.length:Int))
 .have z:d=[]:=by have:=of_decide_eq_false A;exact pJ.1 (by omega)
  refine t_ i hx C @cc X ?_;refine aj E rfl (zo @cc U ?_);refine am (Inv:=λ_ _ _=>True) l () trivial (zn D ?_);rw[q,u,j,z];rfl
 .have z:¬sl d=[]:=λh=>by rw[(UV d).1 h]at A;simp at A
  simp only[i,hx,C,cc,Y,R,V,dD,go_sem,simprocAttr];refine aj E rfl ?_;simp only[cc,T,dD,go_sem,simprocAttr];refine am (Inv:=λ_ _ _=>True) l () trivial (zn D ?_);rw[q,u,j,if_neg z];simp
def Nv(s)(b)(n)(hs:SOk s)(E:BkOk s b n)(v F lt)(g) :
  aw TP 112 [.p s.pv,bA b,.p (bp (.batch v F lt g)).pv] (B4 b) (λr h'=>r=.ret (.p (mb b (aH s b (.batch v F lt g))))/\h'=List.replicate 4 .dead):=by
 have a5:=E.lots;have a4:=E.batches;have a3:=E.tests;have a2:=E.boxes
 refine lL ?_;refine au (ag func112 rfl) rfl ?_;simp only[bp,Said.pv,aN,go_sem,simprocAttr];refine aj (zd s F hs.colours) rfl (zm ?_);refine pC (pargs:=[b.pv,.str (bs lt)]) (QG b lt (by omega)) (sN b [_,_,_,_] _) (.int _ _) (zm ?_);refine pC (pargs:=[b.pv,.str (bs v)]) (I' b v (by omega)) (sN b [_,_,_,_] _) (.int _ _) ?_;have K:=fu (λx:ChBatch=>x.name==bs v) b.batches 0;refine zn K ?_;cases h1:(b.batches.any λx=>x.name==bs v)
 rotate_left
 .refine zm ?_;exact jn 5 (by simp only[aH,if_pos h1]) rfl rfl
 have q:¬(b.batches.any λy=>y.name==bs v)=true:=by simp[h1]
 refine zm ?_;generalize D:an (λx:ClColour=>x.name==bs F) s.colour.colours 0=c at *
 cases h2:decide (c<0);rotate_left
 .have e:c<0:=by simpa using h2
  refine zm ?_;exact jn 4 (by simp only[aH,D,if_neg q,if_pos e]) rfl rfl
 have e:¬c<0:=by simpa using h2
 rcases pp (λx:ChLot=>x.name==bs lt) b.lots 0 with Z|⟨j,x,C,hx,_⟩
 .have A:decide (an (λx:ChLot=>x.name==bs lt) b.lots 0<0)=true:=by simpa using Z
  refine zn A ?_;exact jn 4 (by simp only[aH,D,if_neg q,if_neg e,if_pos Z]) rfl rfl
 rw[gZ]at C;have u:¬((j:Nat):Int)<0:=by omega
 have A:decide (((j:Nat):Int)<0)=false:=by simpa using u
 have a0:j<b.lots.length:=(aC.1 hx).1;have G:((j:Nat):Int)<(b.lots.length:Int):=by omega
 refine zo C A ?_;cases M:(decide (g<1)||decide (100000<g))
 rotate_left
 .have T:¬(1<=g/\g<=100000):=by simp at M;omega
  have U:aH s b (.batch v F lt g)=.error 7:=by simp only[aH,D,C,if_neg q,if_neg e,if_neg u,if_pos T]
  cases l:decide (g<1)
  .have i:decide (100000<g)=true:=by simpa[l]using M
   refine zn i ?_;exact jn 7 U rfl rfl
  .refine zm ?_;exact jn 7 U rfl rfl
 obtain⟨l,i⟩:decide (g<1)=false/\decide (100000<g)=false:=by simpa using M
 have z:¬¬(1<=g/\g<=100000):=by simp at l i;omega
 have V:(b.lots.map dI)[j]?=some (.p x.pv):=by rw[cX,hx];rfl
 refine s_ l i G V ?_;cases Y:decide (x.grams<g);rotate_left
 .have S:¬g<=x.grams:=by simp at Y;omega
  refine zm ?_;exact jn 9 (by simp only[aH,D,C,if_neg q,if_neg e,if_neg u,if_neg z,gX,hx,if_pos S]) rfl rfl
 have I:¬¬g<=x.grams:=by simp at Y;omega
 refine zm ?_;cases X:((b.batches.length:Int)==7)
 rotate_left
 .have R:¬b.batches.length<7:=by simp at X;omega
  refine zm ?_;exact jn 3 (by simp only[aH,D,C,if_neg q,if_neg e,if_neg u,if_neg z,gX,hx,if_neg I,if_pos R]) rfl rfl
 have O:¬¬b.batches.length<7:=by simp at X;omega
 have a1:=E.grams x (aB hx);have hw:i64.wrap (x.grams-g)=x.grams-g:=ah (by simp at l i;omega) (by have:=E.few;simp at l i;omega);have L:aH s b (.batch v F lt g)=.ok ({ b with lots:=b.lots.set j { x with grams:=x.grams-g },batches:=b.batches++[⟨bs v,c,(j:Int),g⟩] },vg):=by
  simp only[aH,D,C,if_neg q,if_neg e,if_neg u,if_neg z,gX,hx,if_neg I,if_neg O]
 have N:b.batches.length+1<=ai:=by simp only[ai];omega
 have J:(b.lots.map dI).set j (.p (.agg [.str x.name,.int .i64 x.kind,.int .i64 (x.grams-g),.slice 1 (x.readings.map ay) false]))=(b.lots.set j { x with grams:=x.grams-g }).map dI:=by rw[we];rfl
 refine t_ N hw G V J ?_;exact rU (w:=vg) L (by simp[B4,bD,ChBatch.pv]) (by simp[bA];rfl)
def NA(b:ChBooks)(e)(t)(V)(i v w)(j:bi 6 ([.row 4 (b.lots.map dI),e,.row 3 (b.tests.map er),.row 2 (b.boxes.map jK)]++t) V=some i) :
  bi 8 ([.row 4 (b.lots.map dI),e,.row 3 (b.tests.map er),.row 2 (b.boxes.map jK)]++t) (.tuple [.agg [.slice 0 b.lots.length 0 b.lots.length,V,.slice 2 b.tests.length 0 b.tests.length,.slice 3 b.boxes.length 0 b.boxes.length,.p (.int .i64 b.poured),.p (.int .i64 b.lost)],.p v,.p w]) =
   some (.tuple [.agg [.slice 4 (b.lots.map ChLot.pv) false,i,.slice 3 (b.tests.map HrTest.pv) false,.slice 2 (b.boxes.map HrBox.pv) false,.int .i64 b.poured,.int .i64 b.lost],v,w]):=by
 have y:∀n h (l:List ChLot),aE (bi n h) (l.map dI)=some (l.map ChLot.pv):=λn h l=>aW (bH n h) ChLot.pv l;have u:∀n h (l:List HrTest),aE (bi n h) (l.map er)=some (l.map HrTest.pv):=λn h l=>aW (bH n h) HrTest.pv l;have q:∀n h (l:List HrBox),aE (bi n h) (l.map jK)=some (l.map HrBox.pv):=λn h l=>aW (bH n h) HrBox.pv l;simp only[ga,jb]at j;simp[y,u,q,j,go_sem]
def LR(h)(i)(l:List ChBatch)(hi:h[i]?=some (.row 4 (l.map bD))):bi 6 h (.slice i l.length 0 l.length)=some (.slice 4 (l.map ChBatch.pv) false):=by
 have e:∀n h,aE (bi n h) (l.map bD)=some (l.map ChBatch.pv):=λn h=>aW (bH n h) ChBatch.pv l;simp[hi,e,go_sem]
def G2{b b'}{hh}{a}{q}{w}(V)(i)(l)(y:q=.ok (b',w))
  (e:hh.take 4=[.row 4 (b'.lots.map dI),l,.row 3 (b'.tests.map er),.row 2 (b'.boxes.map jK)]) (A:bi 6 hh V=some i) (j:PL i (.slice 4 (b'.batches.map ChBatch.pv) false))
  (z:a=.tuple [.agg [.slice 0 b'.lots.length 0 b'.lots.length,V,.slice 2 b'.tests.length 0 b'.tests.length,.slice 3 b'.boxes.length 0 b'.boxes.length,.p (.int .i64 b'.poured),.p (.int .i64 b'.lost)],.p (.str (bs w)),.p (.int .i64 0)]) :
  ∃v u,a=v/\bi 8 hh v=some u/\qt u (mb b q):=by
 subst y;subst z;have h:=NA b' l (hh.drop 4) V i (.str (bs w)) (.int .i64 0) (by rw[<-e,ja];exact A);rw[<-e,ja]at h;exact⟨_,_,rfl,h,PO (PL.tupleL ⟨PL.aggL rfl ⟨.refl _,j,.refl _,.refl _,.refl _,.refl _,trivial⟩,.refl _,.refl _,trivial⟩)⟩
def Nw(s)(b)(n)(u:BkOk s b n)(q) :
  aw TP 113 [bA b,.p (bp (.drop q)).pv] (B4 b) (λr h'=>r=.ret (.p (mb b (aH s b (.drop q))))/\h'=List.replicate 4 .dead):=by
 have a6:=u.lots;have a5:=u.batches;have a4:=u.tests;have a3:=u.boxes
 refine lL ?_;refine au (dv (by kernel_rfl) rfl Z3) rfl ?_;simp only[bp,Said.pv,aN,Zv,aD,go_sem,simprocAttr];refine pC (pargs:=[b.pv,.str (bs q)]) (I' b q (by omega)) (sN b [_,_,_] _) (.int _ _) ?_;rcases pp (λx:ChBatch=>x.name==bs q) b.batches 0 with h3|⟨j,y,N,M,_⟩
 .have a1:decide (an (λx:ChBatch=>x.name==bs q) b.batches 0<0)=true:=by simpa using h3
  refine zn a1 ?_;exact jn 4 (by simp only[aH,if_pos h3]) rfl rfl
 rw[gZ]at N;have a2:j<b.batches.length:=(aC.1 M).1;have F:(j:Int)<(b.batches.length:Int):=by omega
 have R:¬(j:Int)<0:=by omega
 have D:decide ((j:Int)<0)=false:=by simpa using R
 obtain⟨⟨g1,g2⟩,⟨g3,g4⟩,_⟩:=u.waits y (aB M);obtain⟨k,T⟩:=na g3;have a0:k<b.lots.length:=by omega
 obtain⟨x,hx⟩:∃x,b.lots[k]?=some x:=⟨_,bL a0⟩
 have E:(k:Int)<(b.lots.length:Int):=by omega
 have Y:dI x=.p x.pv:=rfl;have hg:=u.grams x (aB hx);have hw:i64.wrap (x.grams+y.grams)=x.grams+y.grams:=ah (by omega) (by have:=u.few;omega);have v:i64.wrap ((j:Int)+1)=((j+1:Nat):Int):=by rw[ah];rfl
 have i:(b.lots.map dI).set k (.p (.agg [.str x.name,.int .i64 x.kind,.int .i64 (x.grams+y.grams),.slice 1 (x.readings.map ay) false]))=(b.lots.set k { x with grams:=x.grams+y.grams }).map dI:=by rw[we];rfl
 have C:(b.lots.set k { x with grams:=x.grams+y.grams }).length=b.lots.length:=wh;have e:aH s b (.drop q)=.ok ({ b with lots:=b.lots.set k { x with grams:=x.grams+y.grams },batches:=b.batches.eraseIdx j },vg):=by
  simp only[aH,N,if_neg R,gX,M,T,hx]
 have K:(b.batches.map bD)[j]?=some (.p y.pv):=by rw[cX,M];rfl
 have J:(0:Int)<=(j:Int):=by omega
 have I:(j:Int)<=(b.batches.length:Int):=by omega
 have G:((j+1:Nat):Int)<=(b.batches.length:Int):=by omega
 obtain⟨A,B,l,L⟩:∃A B,b.batches=A++y::B/\A.length=j:=⟨b.batches.take j,b.batches.drop (j+1),by
  obtain⟨h1,h2⟩:=aC.1 M
  rw[<-h2,List.getElem_cons_drop,ja],by simp;omega⟩
 have V:List.take j (b.batches.map bD)=A.map bD:=by rw[<-B0,l,<-L,eX rfl]
 have X:List.drop (j+1) (b.batches.map bD)=B.map bD:=by
  rw[<-List.map_drop,l,<-L,List.drop_append];simp
 have hE:b.batches.eraseIdx j=A++B:=by
  rw[Ms,l,<-L,eX rfl,List.drop_append];simp
 have S:=congrArg List.length l;rw[ak,bc]at S;rw[hE]at e;have c1:j<=b.batches.length:=by omega
 have O:A.length<=ai:=by simp only[ai];omega
 have c3:B.length<=ai:=by simp only[ai];omega
 have c4:j+1+(b.batches.length-(j+1))<=b.batches.length:=by omega
 have Z:List.take (b.batches.length-(j+1)) (B.map bD)=B.map bD:=dt (by simp;omega);have U:A.length+B.length<=ai:=by simp only[ai];omega
 cases A with
 |nil=>
  simp only[bS,gZ,jb]at O U e
  cases B with
  |nil=>
   simp only[aD,N,D,F,K,T,E,hx,Y,hw,i,v,J,I,G,Nat.sub_zero,c1,V,X,O,c4,bx,List.take_nil,bS,go_sem,simprocAttr];refine And.intro (by first|exact .inl ⟨_,rfl⟩|exact .inr ⟨_,_,rfl,rfl⟩) ?_
   exact G2 (.p (.slice 4 [] true)) (.slice 4 [] true) (.row 4 (b.batches.map bD)) e (by simp[]) rfl (PL.sliceL rfl trivial) (by simp[C];rfl)
  |cons z B=>
   simp only[bc]at c3 U;rw[bf]at Z;simp only[aD,N,D,F,K,T,E,hx,Y,hw,i,v,J,I,G,Nat.sub_zero,c1,V,X,O,c3,c4,Z,bx,go_sem,simprocAttr];refine And.intro (by first|exact .inl ⟨_,rfl⟩|exact .inr ⟨_,_,rfl,rfl⟩) ?_
   exact G2 (.slice 8 (B.length+1) 0 (B.length+1)) (.slice 4 ((z::B).map ChBatch.pv) false) (.row 4 (b.batches.map bD)) e (by simp[]) (LR _ 8 (z::B) rfl) (.refl _) (by simp[C];rfl)
 |cons a A=>
  simp only[bc]at O U;simp only[aD,N,D,F,K,T,E,hx,Y,hw,i,v,J,I,G,Nat.sub_zero,c1,V,X,O,c4,Z,U,go_sem,simprocAttr];refine And.intro (by first|exact .inl ⟨_,rfl⟩|exact .inr ⟨_,_,rfl,rfl⟩) ?_;exact G2 (.slice 8 (A.length+1+B.length) 0 (A.length+1+B.length)) (.slice 4 (((a::A)++B).map ChBatch.pv) false) (.row 4 (b.batches.map bD)) e (by simp[]) (by rw[show A.length+1+B.length=((a::A)++B).length by simp;omega];exact LR _ 8 ((a::A)++B) (by simp)) (.refl _) (by simp[C];rfl)
end Ch
set_option maxRecDepth 100000
def R7(s:HrShop)(x:List UInt8):(aI s x).1.marks.length<1000000000:=by
 by_cases h:(aI s x).2=0
 .have:=(eY (Pk h).2.1).1.len;omega
 .rw[R9 h];simp[cQ]
namespace Ch
structure BkIn (b:ChBooks):Prop where
 reads:∀x,x∈b.lots->x.readings.length<1000000000
 marks:∀t,t∈b.tests->t.marks.length<1000000000
def JM{s}{b b'}{c}{a}(e:BkIn b)(h:aH s b c=.ok (b',a)):BkIn b':=by
 have j:∀(i:Nat) (x y:ChLot),b.lots[i]?=some x->y.readings=x.readings->∀z,z∈b.lots.set i y->z.readings.length<1000000000:=by
  intro i x y hx A z u;rcases vr u with u|rfl
  .exact e.reads z u
  .rw[A];exact e.reads x (aB hx)
 cases c with
 |lot name kind grams rs=>
  simp only[aH]at h;split at h
  .cases h
  split at h
  .cases h
  split at h
  .cases h
  split at h
  .cases h
  rename_i hw;split at h
  .cases h
  have q:(Wx.bj s.wax rs (an (λx:WxKind=>x.name==bs kind) s.wax.kinds 0)).2.2=0:=Classical.byContradiction hw;have v:rs.length<1000000000:=by
   unfold Wx.bj at q;split at q
   .rename_i D;obtain⟨C,G,_⟩:=Wx.ye D;have:=C.props;omega
   .contradiction
  cases h;refine⟨λx hx=>?_,e.marks⟩;rcases cn.1 hx with hx|hx
  .exact e.reads x hx
  .rw[dW.1 hx];exact v
 |batch name colour lot grams=>
  simp only[aH]at h;split at h
  .cases h
  split at h
  .cases h
  split at h
  .cases h
  split at h
  .cases h
  split at h
  .cases h
  rename_i x hx;split at h
  .cases h
  split at h
  .cases h
  cases h
  exact⟨j _ x _ hx rfl,e.marks⟩
 |drop name=>
  simp only[aH]at h;split at h
  .cases h
  split at h
  .cases h
  split at h
  .cases h
  rename_i x hx;cases h
  exact⟨j _ x _ hx rfl,e.marks⟩
 |plan c=>
  simp only[aH]at h;split at h
  .cases h
  .cases h;exact e
 |pour c=>
  simp only[aH]at h;split at h
  .cases h
  .cases h;exact⟨e.reads,e.marks⟩
 |test text=>
  simp only[aH]at h;split at h
  .cases h
  split at h
  .cases h
  cases h;refine⟨e.reads,λt l=>?_⟩;rcases cn.1 l with l|l
  .exact e.marks t l
  .rw[dW.1 l];exact R7 _ _
 |promise kind=>
  simp only[aH]at h;split at h
  .cases h
  .cases h;exact e
 |box kind hours=>
  simp only[aH]at h;split at h
  .cases h
  split at h
  .cases h
  split at h
  .cases h
  cases h;exact⟨e.reads,e.marks⟩
 |look=>
  simp only[aH]at h
  cases h;exact e
 |wick kind F E c1 I=>
  simp only[aH]at h;split at h
  .cases h
  split at h
  .cases h
  split at h
  .cases h
  split at h
  .cases h
  cases h;exact e
 |blend F E c1=>
  simp only[aH]at h;split at h
  .cases h
  cases h;exact e
 |stock=>
  simp only[aH]at h;cases h;exact e
def VO{s}{b}{l}{q}(e:BkIn b)(h:ey s b l=.ok q):BkIn q.1:=by
 unfold ey at h;split at h
 .cases h
 .split at h
  .cases h
  .rename_i i;cases h;exact JM e i
def LU{s}:∀(d:List (List UInt8)) (q),BkIn q.1->BkIn (d.foldl (eP s) q).1
 |[],q,h=>h
 |l::d,q,h=>by
  refine LU d (eP s q l) ?_;unfold eP;split
  .exact h
  .rename_i e;exact VO h e
def Pd(s)(d):BkIn (bh s d).1:=LU d _ ⟨λx hx=>(by cases hx),λx hx=>(by cases hx)⟩
def oN (s:ChShop) (ls:List (List UInt8)):List (List UInt8):=if be s ls=0 then(bh s ls).2.1 else []
def r7 (s:ChShop) (ls:List (List UInt8)):ChBooks:=if be s ls=0 then(bh s ls).1 else cK
def qC (s:ChShop) (ls:List (List UInt8)):List (List UInt8):=if be s ls=0 then(bh s ls).2.2 else []
def zI:PL jz cK.pv:=PL.aggL rfl ⟨.nil _,.nil _,.nil _,.nil _,.refl _,.refl _,trivial⟩
def Ni(s)(e):af TP 7 [s.pv,aN e] (.tuple [aN (oN s e),.int .i64 (be s e)]):=by
 refine(SY s e).lessD ?_;unfold oN;by_cases h:be s e=0
 .rw[if_pos h,if_pos h,h];exact .refl _
 .rw[if_neg h,if_neg h];exact PL.tupleL ⟨.nil _,.refl _,trivial⟩
def PX(s)(e):af TP 10 [s.pv,aN e] (.tuple [(r7 s e).pv,.int .i64 (be s e)]):=by
 refine(YU s e).lessD ?_;unfold r7;by_cases h:be s e=0
 .rw[if_pos h,if_pos h,h];exact .refl _
 .rw[if_neg h,if_neg h];exact PL.tupleL ⟨zI,.refl _,trivial⟩
def PW(s)(e):af TP 14 [s.pv,aN e] (.tuple [.str (bs (dy (qC s e))),.int .i64 (be s e)]):=by
 have:=YT s e;unfold md at this;unfold qC;by_cases h:be s e=0
 .rw[if_pos h,<-h]at this;rw[if_pos h];exact this
 .rw[if_neg h]at this;rw[if_neg h];exact this
def yn{t}(h:(cd t).2≠0):(cd t).1=[]:=by
 unfold cd at h |-;split
 .rfl
 .split
  .rfl
  .rename_i l e i;rw[e]at h;simp only[if_neg i]at h;exact absurd rfl h
def Uh(t)(e:t.length<=2000000):af TP 16 [.str (bs t)] (.tuple [aN (cd t).1,.int .i64 (cd t).2]):=by
 refine(NZ t e).lessD ?_;unfold dn;by_cases h:(cd t).2=0
 .rw[if_pos h];exact .refl _
 .rw[if_neg h,yn h];exact PL.tupleL ⟨.nil _,.refl _,trivial⟩
def Cm{s}{t}(h:(cS s t).2.2≠0):(cS s t).1=cK:=by
 unfold cS at h |-;split
 .rfl
 .split
  .rfl
  .rename_i i e;rw[if_neg i,if_neg e]at h;exact absurd rfl h
def D'(s)(t)(e:t.length<=2000000):af TP 18 [s.pv,.str (bs t)] (.tuple [(cS s t).1.pv,.int .i64 (cS s t).2.1,.int .i64 (cS s t).2.2]):=by
 refine(Wc s t e).lessD ?_;unfold iE;by_cases h:(cS s t).2.2=0
 .rw[if_pos h];exact .refl _
 .rw[if_neg h,Cm h];exact PL.tupleL ⟨zI,.refl _,.refl _,trivial⟩
def BC(a c)(A:a.length<1000000000):af TP 9 [aN a,aN c] (.bool (a==c)):=by
 refine ae (ag func9 rfl) rfl ?_;simp only[aN,go_sem,simprocAttr];refine aT (λe=>?_) (λe=>?_)<;>refine zn e ?_
 .have:¬(a=c):=λh=>by subst h;simp at e
  simp[this]
 have z:a.length=c.length:=by simp[bne]at e;omega
 refine eZ [0,1] a A (τ:=Unit) (λd_ rest _=>c.take d_.length=d_) (λd_ _=>[(5,.p (.int .i64 d_.length))]) () (by simp) ?_ ?_ ?_
 .simp only[go_sem,simprocAttr]<;>simp
 .intro _ l;rw[dt (by omega)]at l;subst l;refine zm ?_;simp
 .intro d_ x rest _ C l hx v u;have i:(d_.length:Int)<(c.length:Int):=by omega
  obtain⟨y,j⟩:∃y,c[d_.length]?=some y:=⟨_,bL (by omega)⟩
  refine t_ v i hx j @cF ?_;cases e:(x==y)
  .refine zm ?_;have:¬(a=c):=λh=>by
    subst h;rw[hx]at j;cases j;simp at e
   simp[this]
  .have q:x=y:=by simpa using e
   refine zm ?_;refine am C () (by rw[ak,aK,wb,l,j,q];rfl) ?_;simp[u,go_sem]
structure BkLen (b:ChBooks):Prop where
 lots:b.lots.length<1000000000
 batches:b.batches.length<1000000000
 tests:b.tests.length<1000000000
 boxes:b.boxes.length<1000000000
 readings:∀x,x∈b.lots->x.readings.length<1000000000
 marks:∀t,t∈b.tests->t.marks.length<1000000000
def N8(b)(h:BkLen b):af TP 12 [b.pv,b.pv] (.bool true):=by
 refine ae (dv (by kernel_rfl) rfl zba) rfl ?_;have A:∀n:Int,(n != n)=false:=λn=>by simp
 have z:∀x:ByteArray,(x==x)=true:=λx=>(qm x x).2 rfl;refine zn A ?_;refine aG [2,3] b.lots h.lots (τ:=Unit) (λ_ _ _=>True) (λd_ _=>[(5,.p (.int .i64 d_.length))]) (λ_ _=>[.row 6 [.p b.pv],.row 6 [.p b.pv]]) () trivial ?_ ?_ ?_
 .simp[bS,go_sem]
 rotate_left
 .intro d_ x rest _ j _ hx i e;have l:x∈b.lots:=by rw[j];simp
  simp only[i,decide_true,hx,Mn,aD,A,z,go_sem,simprocAttr];refine aa (Wg x.readings x.readings false false (h.readings x l)) rfl ?_;rw[show (x.readings==x.readings)=true by simp];refine zm ?_;refine am j () trivial ?_;simp[e,go_sem]
 intro _ _;have y:¬((b.lots.length:Int)<(b.lots.length:Int)):=by omega
 refine zo y decide_false ?_;refine aG [2,3] b.batches h.batches (τ:=Unit) (λ_ _ _=>True) (λd_ _=>[(8,.p (.int .i64 d_.length))]) (λ_ _=>[.row 6 [.p b.pv],.row 6 [.p b.pv]]) () trivial ?_ ?_ ?_
 .simp[bS,go_sem]
 rotate_left
 .intro d_ x rest _ j _ hx i e;have l:x∈b.batches:=by rw[j];simp
  simp only[i,decide_true,hx,Mn,aD,z,go_sem,simprocAttr];rw[show (x.colour==x.colour&&(x.lot==x.lot&&x.grams==x.grams))=true by simp];refine zm ?_;refine am j () trivial ?_;simp[e,go_sem]
 intro _ _;have v:¬((b.batches.length:Int)<(b.batches.length:Int)):=by omega
 refine zo v decide_false ?_;refine aG [2,3] b.tests h.tests (τ:=Unit) (λ_ _ _=>True) (λd_ _=>[(9,.p (.int .i64 d_.length))]) (λ_ _=>[.row 6 [.p b.pv],.row 6 [.p b.pv]]) () trivial ?_ ?_ ?_
 .simp[bS,go_sem]
 rotate_left
 .intro d_ x rest _ j _ hx i e;have l:x∈b.tests:=by rw[j];simp
  simp only[i,decide_true,hx,Mn,aD,go_sem,simprocAttr];refine aj (YQ x x (h.marks x l)) rfl ?_;rw[show C9 x x=true by rw[VJ]];simp only[Mn,go_sem,simprocAttr];refine am j () trivial ?_;simp[e,go_sem]
 intro _ _;have u:¬((b.tests.length:Int)<(b.tests.length:Int)):=by omega
 refine zo u decide_false ?_;refine aG [2,3] b.boxes h.boxes (τ:=Unit) (λ_ _ _=>True) (λd_ _=>[(10,.p (.int .i64 d_.length))]) (λ_ _=>[.row 6 [.p b.pv],.row 6 [.p b.pv]]) () trivial ?_ ?_ ?_
 .simp[bS,go_sem]
 rotate_left
 .intro d_ x rest _ j _ hx i e;have l:x∈b.boxes:=by rw[j];simp
  simp only[i,decide_true,hx,Mn,aD,go_sem,simprocAttr];rw[show (x.kind==x.kind&&x.hours==x.hours)=true by simp];refine zm ?_;refine am j () trivial ?_;simp[e,go_sem]
 intro _ _;have q:¬((b.boxes.length:Int)<(b.boxes.length:Int)):=by omega
 simp[q,decide_false,go_sem]
def RM:WxTable:=⟨[⟨⟨#[109,101,108,116]⟩,5⟩,⟨⟨#[97,99,105,100]⟩,2⟩],[⟨⟨#[98,101,101,115]⟩,[⟨620,640⟩,⟨17,22⟩]⟩,⟨⟨#[112,97,114,97,102,102,105,110]⟩,[⟨540,580⟩,⟨0,0⟩]⟩,⟨⟨#[116,97,108,108,111,119]⟩,[⟨420,460⟩,⟨2,10⟩]⟩],950⟩
def GU:Shop:=⟨[⟨⟨#[116,104,105,110]⟩,10,⟨16,18⟩⟩,⟨⟨#[109,105,100]⟩,14,⟨20,24⟩⟩,⟨⟨#[102,97,116]⟩,20,⟨30,36⟩⟩],[⟨⟨#[98,101,101,115]⟩,⟨100,100⟩,⟨150,160⟩,⟨1000,1100⟩,1⟩],⟨20,45⟩,⟨500,1000⟩⟩
def Q9:List BdWax:=[⟨⟨#[98,101,101,115]⟩,1200,⟨620,640⟩,⟨90,100⟩,[]⟩,⟨⟨#[112,97,114,97,102,102,105,110]⟩,200,⟨540,580⟩,⟨110,150⟩,[]⟩,⟨⟨#[104,97,114,100]⟩,400,⟨690,700⟩,⟨60,70⟩,[⟨0,0⟩,⟨2,20⟩,⟨4,30⟩]⟩]
def LY:ClShop:=⟨[⟨⟨#[119,104,105,116,101]⟩,⟨10,20⟩,[1000,1000,1000]⟩,⟨⟨#[114,101,100]⟩,⟨10,20⟩,[2,1000,50]⟩,⟨⟨#[98,108,97,99,107]⟩,⟨20,40⟩,[1,5,1000]⟩],⟨100,200⟩,50⟩
def fG:ChShop:=⟨RM,Q9,GU,GW,LY⟩
def ft:List (List UInt8):=[[108,111,116,32,111,108,100,32,98,101,101,115,32,53,48,48,48,32,54,52,51,32,49,54],[108,111,116,32,110,101,119,32,98,101,101,115,32,57,48,48,48,32,54,48,48,32,57],[108,111,116,32,111,100,100,32,98,101,101,115,32,57,48,48,48,32,55,48,48,32,120],[98,97,116,99,104,32,97,32,98,108,97,99,107,32,111,108,100,32,50,48,48,48],[98,97,116,99,104,32,98,32,119,104,105,116,101,32,111,108,100,32,50,48,48,48],[98,97,116,99,104,32,99,32,114,101,100,32,111,108,100,32,50,48,48,48],[98,97,116,99,104,32,99,32,114,101,100,32,110,101,119,32,50,48,48,48],[112,108,97,110,32,98,108,97,99,107],[112,111,117,114,32,98,108,97,99,107],[115,116,111,99,107],[116,101,115,116,10,116,101,115,116,32,97,108,116,97,114,32,53,48,10,48,32,49,48,48,53,48,48,10,54,48,32,57,54,53,48,48,10,49,50,48,32,57,50,52,48,48,10],[112,114,111,109,105,115,101,32,97,108,116,97,114],[98,111,120,32,97,108,116,97,114,32,50,49],[98,111,120,32,97,108,116,97,114,32,50,50],[116,101,115,116,10,116,101,115,116,32,97,108,116,97,114,32,48,10,48,32,49,48,48,48,48,48,10,54,48,32,57,53,48,48,48,10],[108,111,111,107],[119,105,99,107,32,98,101,101,115,32,51,48,48,32,49,48,32,48,32,50,48],[98,108,101,110,100,32,53,54,48,32,54,50,48,32,49,52,48]]
def zu:List (List UInt8):=[[112,117,114,101,32,57,54,55,32,49,48,48,48],[105,109,112,117,114,101,32,51,49,57,32,54,52,55],[110,111,32,57],[111,107],[111,107],[110,111,32,57],[111,107],[97,32,98,32,99,32,49,48,48],[49,48,48],[111,108,100,32,49,48,48,48,32,110,101,119,32,55,48,48,48],[52,48,48,48,32,52,49,48,48],[50,49],[111,107],[110,111,32,57],[53,48,48,48,32,53,48,48,48],[98,114,111,107,101,110,32,48],[109,105,100],[49,32,49,55,32,50,32,53,52,48,48]]
def mC:List UInt8:=[49,32,108,111,116,32,111,108,100,32,98,101,101,115,32,53,48,48,48,32,54,52,51,32,49,54,10,50,32,108,111,116,32,110,101,119,32,98,101,101,115,32,57,48,48,48,32,54,48,48,32,57,10,51,32,98,97,116,99,104,32,97,32,98,108,97,99,107,32,111,108,100,32,50,48,48,48,10,52,32,98,97,116,99,104,32,98,32,119,104,105,116,101,32,111,108,100,32,50,48,48,48,10,53,32,98,97,116,99,104,32,99,32,114,101,100,32,110,101,119,32,50,48,48,48,10,54,32,112,111,117,114,32,98,108,97,99,107,10,55,32,116,101,115,116,47,116,101,115,116,32,97,108,116,97,114,32,53,48,47,48,32,49,48,48,53,48,48,47,54,48,32,57,54,53,48,48,47,49,50,48,32,57,50,52,48,48,47,10,56,32,98,111,120,32,97,108,116,97,114,32,50,49,10,57,32,116,101,115,116,47,116,101,115,116,32,97,108,116,97,114,32,48,47,48,32,49,48,48,48,48,48,47,54,48,32,57,53,48,48,48,47,10]
def V8(a b):af TP 148 [.int .i64 a,.int .i64 b] (.agg [.int .i64 a,.int .i64 b]):=by
 refine ae (ag func148 rfl) rfl ?_;simp[go_sem]
def V7(a b):af TP 149 [.int .i64 a,.int .i64 b] (.agg [.int .i64 a,.int .i64 b]):=by
 refine ae (ag func149 rfl) rfl ?_;simp[go_sem]
def V6(a b):af TP 150 [.int .i64 a,.int .i64 b] (.agg [.int .i64 a,.int .i64 b]):=by
 refine ae (ag func150 rfl) rfl ?_;simp[go_sem]
def V4(a b):af TP 152 [.int .i64 a,.int .i64 b] (.agg [.int .i64 a,.int .i64 b]):=by
 refine ae (ag func152 rfl) rfl ?_;simp[go_sem]
def V3:af TP 98 [] RM.pv:=by
 refine af.lessD (q:=.agg [.slice 2 (RM.props.map WxProp.pv) true,.slice 2 [.agg [.str ⟨#[98,101,101,115]⟩,.slice 2 [.agg [.int .i64 620,.int .i64 640],.agg [.int .i64 17,.int .i64 22]] true],.agg [.str ⟨#[112,97,114,97,102,102,105,110]⟩,.slice 2 [.agg [.int .i64 540,.int .i64 580],.agg [.int .i64 0,.int .i64 0]] true],.agg [.str ⟨#[116,97,108,108,111,119]⟩,.slice 2 [.agg [.int .i64 420,.int .i64 460],.agg [.int .i64 2,.int .i64 10]] true]] true,.int .i64 950]) ?_ ?_
 .refine ae (ag func98 rfl) rfl (zm ?_);repeat' (refine aa (V8 _ _) rfl ?_;simp[go_sem])
  rfl
 .exact PL.aggL rfl ⟨PL.sliceL rfl (dZ _),PL.sliceL rfl ⟨PL.aggL rfl ⟨.refl _,PL.sliceL rfl (dZ _),trivial⟩,PL.aggL rfl ⟨.refl _,PL.sliceL rfl (dZ _),trivial⟩,PL.aggL rfl ⟨.refl _,PL.sliceL rfl (dZ _),trivial⟩,trivial⟩,.refl _,trivial⟩
def V1:af TP 99 [] (dg Q9):=by
 refine af.lessD (q:=.slice 7 [.agg [.str ⟨#[98,101,101,115]⟩,.int .i64 1200,.int .i64 620,.int .i64 640,.int .i64 90,.int .i64 100,.nilslice],.agg [.str ⟨#[112,97,114,97,102,102,105,110]⟩,.int .i64 200,.int .i64 540,.int .i64 580,.int .i64 110,.int .i64 150,.nilslice],
   .agg [.str ⟨#[104,97,114,100]⟩,.int .i64 400,.int .i64 690,.int .i64 700,.int .i64 60,.int .i64 70,.slice 2 [.agg [.int .i64 0,.int .i64 0],.agg [.int .i64 2,.int .i64 20],.agg [.int .i64 4,.int .i64 30]] true]] true) ?_ ?_
 .refine ae (ag func99 rfl) rfl (zm ?_);repeat' (refine aa (V7 _ _) rfl ?_;simp[go_sem])
 .refine PL.sliceL rfl ⟨PL.aggL rfl ⟨.refl _,.refl _,.refl _,.refl _,.refl _,.refl _,.nil _,trivial⟩,PL.aggL rfl ⟨.refl _,.refl _,.refl _,.refl _,.refl _,.refl _,.nil _,trivial⟩,
   PL.aggL rfl ⟨.refl _,.refl _,.refl _,.refl _,.refl _,.refl _,PL.sliceL rfl (dZ _),trivial⟩,trivial⟩
def Yz:af TP 100 [] GU.pv:=by
 refine af.lessD (q:=.agg [.slice 4 (GU.wicks.map Wick.pv) true,.slice 8 (GU.waxes.map Wax.pv) true,.int .i64 20,.int .i64 45,.int .i64 500,.int .i64 1000]) ?_ ?_
 .refine ae (ag func100 rfl) rfl (zm ?_);repeat' (refine aa (V6 _ _) rfl ?_;simp[go_sem])
  exact⟨rfl,rfl⟩
 .exact PL.aggL rfl ⟨PL.sliceL rfl (dZ _),PL.sliceL rfl (dZ _),.refl _,.refl _,.refl _,.refl _,trivial⟩
def Ti:af TP 102 [] LY.pv:=by
 refine af.lessD (q:=.agg [.slice 4 [.agg [.str ⟨#[119,104,105,116,101]⟩,.int .i64 10,.int .i64 20,.slice 1 [.int .i64 1000,.int .i64 1000,.int .i64 1000] true],.agg [.str ⟨#[114,101,100]⟩,.int .i64 10,.int .i64 20,.slice 1 [.int .i64 2,.int .i64 1000,.int .i64 50] true],.agg [.str ⟨#[98,108,97,99,107]⟩,.int .i64 20,.int .i64 40,.slice 1 [.int .i64 1,.int .i64 5,.int .i64 1000] true]] true,.int .i64 100,.int .i64 200,.int .i64 50]) ?_ ?_
 .refine ae (ag func102 rfl) rfl (zm ?_);repeat' (refine aa (V4 _ _) rfl ?_;simp[go_sem])
 .exact PL.aggL rfl ⟨PL.sliceL rfl ⟨PL.aggL rfl ⟨.refl _,.refl _,.refl _,PL.sliceL rfl (dZ _),trivial⟩,PL.aggL rfl ⟨.refl _,.refl _,.refl _,PL.sliceL rfl (dZ _),trivial⟩,PL.aggL rfl ⟨.refl _,.refl _,.refl _,PL.sliceL rfl (dZ _),trivial⟩,trivial⟩,.refl _,.refl _,.refl _,trivial⟩
def zc:af TP 34 [] fG.pv:=by
 refine ae (ag func34 rfl) rfl (zm ?_);refine aa V3 rfl (zm ?_);refine aa V1 rfl (zm ?_);refine aa Yz rfl (zm ?_);refine aa zaw rfl (zm ?_);refine aa Ti rfl (zm ?_);and_intros<;>rfl
def Eu:af TP 35 [] (aN ft):=by
 refine af.lessD (q:=.slice 1 (ft.map λx=>.str (bs x)) true) ?_ (PL.sliceL rfl (dZ _));refine ae (ag func35 rfl) rfl (zm ?_);rfl
def zaF:af TP 36 [] (aN zu):=by
 refine af.lessD (q:=.slice 1 (zu.map λx=>.str (bs x)) true) ?_ (PL.sliceL rfl (dZ _));refine ae (ag func36 rfl) rfl (zm ?_);rfl
def Sc:cu H0 f37=true:=by kernel_rfl
def Wv:af TP 37 [] (.str (bs mC)):=by
 refine ae (dv (by kernel_rfl) rfl Sc) rfl (zm ?_);rfl
def xe:be fG ft=0:=by kernel_rfl
def Yd:(bh fG ft).2.1=zu:=by kernel_rfl
def VI:(bh fG ft).1=(cS fG mC).1:=by kernel_rfl
def Yg:(bh fG ft).1.lots.length=2:=by kernel_rfl
def Yh:((bh fG ft).1.lots[0]?).map (·.grams)=some 1000:=by kernel_rfl
def zal:((bh fG ft).1.poured,(bh fG ft).1.lost,(bh fG ft).1.tests.length,(bh fG ft).1.boxes.length)=(6000,100,2,1):=by kernel_rfl
def VH:dy (bh fG ft).2.2=mC:=by kernel_rfl
def Ye:((cd mC).1.length,(cd mC).2)=(9,0):=by kernel_rfl
def SL:(cS fG mC).2=(-1,0):=by kernel_rfl
def Tv:List UInt8:=[49,32,115,116,111,99,107,10]
def zam:(cS fG Tv).2=(0,0):=by kernel_rfl
def PC:ChShop:=⟨⟨[],[],0⟩,[],⟨[],[],⟨0,0⟩,⟨0,0⟩⟩,⟨[],[],0⟩,⟨[],⟨0,0⟩,0⟩⟩
def Yf:be PC []=3:=by kernel_rfl
def Uj{s}{i}(h:be s i=0):(bu s).2.2=0/\i.length<=40:=by
 unfold be at h;split at h
 .rename_i e;split at h
  .cases h
  .exact⟨e,by omega⟩
 .rename_i e;exact absurd h e
def xq{s}{b}{n}(h:BkOk s b n)(hi:BkIn b):BkLen b:=
 ⟨by have:=h.lots;omega,by have:=h.batches;omega,by have:=h.tests;omega,by have:=h.boxes;omega,hi.reads,hi.marks⟩
def H':BkLen cK:=⟨by decide,by decide,by decide,by decide,λx hx=>(by cases hx),λx hx=>(by cases hx)⟩
def E8{s}{e}(h:be s e=0):BkLen (bh s e).1:=by
 obtain⟨j,i⟩:=Uj h;exact xq (HC (tr j) i) (Pd s e)
def Q7(s)(e):BkLen (r7 s e):=by
 unfold r7;split
 .rename_i h;exact E8 h
 .exact H'
def Jp:af TP 13 [] (.bool true):=by
 have F:oN fG ft=zu:=by rw[oN,if_pos xe,Yd]
 have E:qC fG ft=(bh fG ft).2.2:=by rw[qC,if_pos xe]
 refine ae (ag func13 rfl) rfl (zm ?_);refine aa zc rfl (zm ?_);refine aa Eu rfl (zm ?_);refine aa (Ni fG ft) rfl ?_;rw[xe,F];refine zm ?_;refine aa zc rfl (zm ?_);refine aa Eu rfl (zm ?_);refine aa (PX fG ft) rfl ?_;rw[xe,r7,if_pos xe];refine zm ?_;refine aa zc rfl (zm ?_);refine aa Eu rfl (zm ?_);refine aa (PW fG ft) rfl ?_;rw[xe,E,VH];refine zm ?_;refine aa (Uh mC (by decide)) rfl (zm ?_);refine aa zc rfl (zm ?_);refine aa (D' fG mC (by decide)) rfl ?_;rw[SL];refine zm ?_;refine aa zc rfl ?_;have l:(⟨#[49,32,115,116,111,99,107,10]⟩:ByteArray)=bs Tv:=rfl;refine zn l ?_;refine aa (D' fG Tv (by decide)) rfl ?_;rw[zam];refine zm ?_;refine aa ((Ni PC []).arglessD (args':=[.agg [.nilslice,.nilslice,.int .i64 0,.nilslice,.nilslice,.nilslice,.int .i64 0,.int .i64 0,.int .i64 0,.int .i64 0,.nilslice,.nilslice,.int .i64 0,.nilslice,.int .i64 0,.int .i64 0,.int .i64 0],.nilslice]) ⟨PL.aggL rfl ⟨.nil _,.nil _,.refl _,.nil _,.nil _,.nil _,.refl _,.refl _,.refl _,.refl _,.nil _,.nil _,.refl _,.nil _,.refl _,.refl _,.refl _,trivial⟩,.nil _,trivial⟩) rfl ?_;rw[Yf];obtain⟨n1,q,v,u⟩:(bh fG ft).1.poured=6000/\(bh fG ft).1.lost=100/\(bh fG ft).1.tests.length=2/\(bh fG ft).1.boxes.length=1:=by
  have:=zal;simpa only[zD]using this
 obtain⟨C,A⟩:(cd mC).1.length=9/\(cd mC).2=0:=by
  have:=Ye;simpa only[zD]using this
 obtain⟨x,hx,D⟩:=bg.1 Yh;have i:=Yg;have e:=E8 xe;rw[<-VI];simp only[A,Hc,go_sem,simprocAttr];generalize (bh fG ft).1=G at n1 q v u hx i e;have z:(zu==zu)=true:=by simp
 have y:(bs mC==bs mC)=true:=(qm _ _).2 rfl;refine aa zaF rfl ?_;simp only[Hc,go_sem,simprocAttr];refine aa (BC zu zu (by decide)) rfl ?_;rw[z];simp only[Hc,i,hx,D,n1,q,v,u,go_sem,simprocAttr];refine aa Wv rfl ?_;simp only[Hc,y,C,aN,go_sem,simprocAttr];have j:=N8 G e;simp only[ChBooks.pv,ChBooks.cells,n1,q]at j;refine aa j rfl ?_;simp[Hc,go_sem]
end Ch
end Abs
end Go.Proofs.YtgafommgcfhkkaaGreatDoor
