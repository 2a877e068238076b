/- LAWS: rows of the call's own memory that are handed to a call for good: they become immuta -/
import Derived.Test.YtmndpldajflenaaGreatDoorAbsEvX
set_option linter.all false
namespace Go.Proofs.YtmndpldajflenaaGreatDoor
namespace Abs
variable {P:Program} {H:Hints} {Q:Cont} {M0:Nat->Prop}
def cS (K:Nat->Bool) (h:Heap):Heap:=h.mapIdx λi o=>if K i=true then .dead else o
def fu (K:Nat->Bool) (m:List (Option Nat)):List (Option Nat):=m.mapIdx λi μ=>if K i=true then none else μ
def Mem.kill (K:Nat->Bool) (S:Mem):Mem:=⟨fu K S.m,cS K S.h,S.w⟩
theorem oS(K)(h)(i):(cS K h)[i]?=(h[i]?).map λo=>if K i=true then .dead else o:=by
 unfold cS;rw[ua]
theorem uI(K)(m)(i):(fu K m)[i]?=(m[i]?).map λo=>if K i=true then none else o:=by
 unfold fu;rw[ua]
theorem mX{K}{h}{i}(a:K i=false):(cS K h)[i]?=h[i]?:=by
 rw[oS,a];simp
theorem mY{K}{h}{i}{o}(e:K i=true)(a:h[i]?=some o):(cS K h)[i]?=some .dead:=by
 rw[oS,e,a];rfl
theorem pK{K}{m}{i}(a:K i=false):(fu K m).getD i none=m.getD i none:=by
 rw[cr,cr,uI,a];simp
theorem uH{K}{m}{i b}(h:(fu K m)[i]?=some (some b)):m[i]?=some (some b)/\K i=false:=by
 rw[uI]at h
 cases e:K i with
 |true=>
  rw[e]at h
  cases a:m[i]?<;>rw[a]at h<;>cases h
 |false=>
  rw[e]at h;refine⟨?_,rfl⟩
  cases a:m[i]? with
  |none=>rw[a]at h;cases h
  |some μ=>rw[a]at h;simpa using h
theorem ig{K}{m}{b}(h:Own (fu K m) b):∃i,m[i]?=some (some b)/\K i=false:=by
 obtain⟨i,hi⟩:=eF h;exact⟨i,uH hi⟩
theorem kN{m}{i b:Nat}(h:m[i]?=some (some b)):Own m b:=aG h
theorem cC.kill{S}{K}{id a}{X}(h:cC S id a X):cC (S.kill K) id a X:=by
 unfold cC at *
 have j:(S.kill K).h[id]?=(cS K S.h)[id]?:=rfl;have i:(S.kill K).m.getD id none=(fu K S.m).getD id none:=rfl;rw[j,i]
 cases e:K id with
 |true=>
  left;rcases h with h|⟨sz,xs,h,_⟩
  .exact mY e h
  .exact mY e h
 |false=>
  rw[mX e,pK e];exact h
section
variable {M1:Nat->Prop} {S:Mem} {K:Nat->Bool} (hM:∀b,Avoid M1 (fu K S.m) b->Avoid M0 S.m b)
include hM
theorem bB.kill{v}{a}(h:bB M0 S v a):bB M1 (S.kill K) v a:=by
 cases a with
 |p q=>exact RepP.less (show RepP (Avoid M0 S.m) S.w v q from h) hM
 |ptr id e i o=>exact⟨h.1,cC.kill h.2⟩
 |iptr it id=>exact⟨h.1,cC.kill h.2⟩
 |arr id e i o n=>exact⟨h.1,cC.kill h.2⟩
 |slice id e off len=>exact⟨h.1,cC.kill (S:=S) h.2⟩
 |ref k id=>
  refine⟨h.1,?_⟩;have u:(S.kill K).h[id]?=(cS K S.h)[id]?:=rfl;have l:(S.kill K).m.getD id none=(fu K S.m).getD id none:=rfl;rw[u,l]
  cases j:K id with
  |true=>
   left;rcases h.2 with h|⟨⟨o,h,_⟩,_⟩
   .exact mY j h
   .exact mY j h
  |false=>
   rw[mX j,pK j]
   exact h.2
 |undef=>exact trivial
 |agg cs=>exact h.elim
 |func fn f c=>exact h.elim
 |tuple y=>exact h.elim
theorem bm.kill{v}{a}(h:bm M0 S v a):bm M1 (S.kill K) v a:=by
 cases a with
 |func fn f c=>
  obtain⟨F,C,rfl,y,u⟩:=h
  exact⟨F,C,rfl,y.imp λv c l j=>bB.kill hM j,u.imp λv c l j=>bB.kill hM j⟩
 |p q=>exact bB.kill (M0:=M0) (a:=.p q) hM h
 |ptr id e i o=>exact bB.kill (M0:=M0) (a:=.ptr id e i o) hM h
 |iptr it id=>exact bB.kill (M0:=M0) (a:=.iptr it id) hM h
 |arr id e i o n=>exact bB.kill (M0:=M0) (a:=.arr id e i o n) hM h
 |slice id e off len=>exact bB.kill (M0:=M0) (a:=.slice id e off len) hM h
 |ref k id=>exact bB.kill (M0:=M0) (a:=.ref k id) hM h
 |undef=>exact trivial
 |agg cs=>exact h.elim
 |tuple z=>exact h.elim
theorem cO.kill{v}{a}(h:cO M0 S v a):cO M1 (S.kill K) v a:=by
 cases a with
 |agg cs=>
  obtain⟨C,rfl,u,l⟩:=h
  exact⟨C,rfl,u,l.imp λv c z j=>bm.kill hM j⟩
 |p q=>exact bm.kill (M0:=M0) (a:=.p q) hM h
 |ptr id e i o=>exact bm.kill (M0:=M0) (a:=.ptr id e i o) hM h
 |iptr it id=>exact bm.kill (M0:=M0) (a:=.iptr it id) hM h
 |arr id e i o n=>exact bm.kill (M0:=M0) (a:=.arr id e i o n) hM h
 |slice id e off len=>exact bm.kill (M0:=M0) (a:=.slice id e off len) hM h
 |ref k id=>exact bm.kill (M0:=M0) (a:=.ref k id) hM h
 |func fn f c=>exact bm.kill (M0:=M0) (a:=.func fn f c) hM h
 |undef=>exact trivial
 |tuple y=>exact h.elim
theorem Rep.kill{v}{a}(h:Rep M0 S v a):Rep M1 (S.kill K) v a:=by
 cases a with
 |tuple cs=>
  obtain⟨C,rfl,l⟩:=h
  exact⟨C,rfl,l.imp λv c u j=>cO.kill hM j⟩
 |p q=>exact cO.kill (M0:=M0) (a:=.p q) hM h
 |ptr id e i o=>exact cO.kill (M0:=M0) (a:=.ptr id e i o) hM h
 |iptr it id=>exact cO.kill (M0:=M0) (a:=.iptr it id) hM h
 |arr id e i o n=>exact cO.kill (M0:=M0) (a:=.arr id e i o n) hM h
 |slice id e off len=>exact cO.kill (M0:=M0) (a:=.slice id e off len) hM h
 |ref k id=>exact cO.kill (M0:=M0) (a:=.ref k id) hM h
 |func fn f c=>exact cO.kill (M0:=M0) (a:=.func fn f c) hM h
 |agg cs=>exact cO.kill (M0:=M0) (a:=.agg cs) hM h
 |undef=>exact trivial
theorem HOk.kill(z:HOk P M0 S)(l:∀b,M1 b->b<S.w.heap.size/\¬Own (fu K S.m) b):HOk P M1 (S.kill K) where
 len:=by simp[Mem.kill,fu,cS,z.len]
 lt:=λb h=>let ⟨i,hi,_⟩:=ig h;z.lt b (kN hi)
 m0:=l
 gl:=z.gl.fr (λ_ _ _=>rfl) λb R=>let ⟨i,hi,_⟩:=ig R;.inl (kN hi)
 inj:=λi j b hi M=>z.inj i j b (uH hi).1 (uH M).1
 obj:=λid o G=>by
  have U:(S.kill K).m.getD id none=(fu K S.m).getD id none:=rfl;have e:(cS K S.h)[id]?=some o:=G
  cases E:K id with
  |true=>
   rw[oS,E]at e
   cases I:S.h[id]? with
   |none=>rw[I]at e;cases e
   |some X=>rw[I]at e;cases e;exact trivial
  |false=>
   rw[mX E]at e;rw[U,pK E];have:=z.obj id o e
   cases o with
   |row sz xs=>
    rcases this with h|⟨b,T,C,l,u,q,D⟩
    .exact .inl h
    .refine .inr ⟨b,T,C,l,u,q,λi x hx=>?_⟩;obtain⟨cs,A,F,L⟩:=D i x hx
     exact⟨cs,A,F,λj c J=>⟨(L j c J).1,bm.kill hM (L j c J).2⟩⟩
   |loop n tmps ps assign body V pend=>
    obtain⟨b,r,l,u,q,D,A⟩:=this
    exact⟨b,r,l,u,q,λt=>Rep.kill hM (D t),A⟩
   |strIter s p=>exact this
   |mp es=>
    obtain⟨b,C,y,l,u,q⟩:=this
    exact⟨b,C,y,l,u,q.mono λv a=>bm.kill hM⟩
   |memo f=>
    obtain⟨N,es,O,b,C,y,l,u,q⟩:=this
    exact⟨N,es,O,b,C,y,l,u,q.mono λv a=>bm.kill hM⟩
   |dblock=>exact this
   |bld T Y x=>
    obtain⟨b,p,v,l,u,q,D,A,F⟩:=this
    exact⟨b,p,v,l,u,q,D,bB.kill hM A,F⟩
   |dead=>exact trivial
end
theorem vS(S:Mem)(K:Nat->Bool)(base:Nat):Ev base S (S.kill K) where
 fr:=Fr.refl _ _
 sub:=λb j=>let ⟨i,hi,_⟩:=ig (K:=K) j;.inl (kN hi)
 obj:=λid o _ e=>by
  cases a:K id with
  |true=>exact⟨.dead,mY a e,.inl rfl⟩
  |false=>
   refine⟨o,(mX a).trans e,?_⟩;have l:(S.kill K).m.getD id none=S.m.getD id none:=pK a;rw[l];exact ObjEv.refl _ _
theorem tq{S}(e:HOk P M0 S)(K):HOk P M0 (S.kill K):=
 HOk.kill (M0:=M0) (M1:=M0) (λ_ a=>a.imp id λh=>let ⟨_,hi,_⟩:=ig h;kN hi) e
  (λb a=>⟨(e.m0 b a).1,λh=>(e.m0 b a).2 (let ⟨_,hi,_⟩:=ig h;kN hi)⟩)
theorem tt{S}(l:HOk P M0 S)(K){v}{a}{q}(y:Rep M0 S v a)(C:wv (cS (λi=>!K i) S.h) a=some q):RepP (Avoid M0 (fu K S.m)) S.w v q:=by
 have hM:∀b,Avoid (Avoid M0 (fu K S.m)) (fu (λi=>!K i) S.m) b->Avoid M0 S.m b:=by
  rintro b ((e|e)|e)
  .exact .inl e
  .obtain⟨_,hi,_⟩:=ig e;exact .inr (kN hi)
  .obtain⟨_,hi,_⟩:=ig e;exact .inr (kN hi)
 have z:=HOk.kill hM l (λb e=>by
  rcases e with e|e
  .exact⟨(l.m0 b e).1,λh=>(l.m0 b e).2 (let ⟨_,hi,_⟩:=ig h;kN hi)⟩
  .obtain⟨i,hi,u⟩:=ig e;refine⟨l.lt b (kN hi),λh=>?_⟩;obtain⟨j,A,o⟩:=ig h;have:=l.inj i j b hi A;subst this;rw[u]at o
   cases o)
 exact qD (S:=S.kill λi=>!K i) z (Rep.kill hM y) C
theorem IW{f}{args}{j}{v}{h}(K)(L:af P f j v)(M:m9 (cS (λi=>!K i) h) args=some j) :
  ar P f args h (λr h'=>r=.ret (.p v)/\h'=cS K h):=by
 intro M0 m w o u l;obtain⟨G,J⟩:=vQ M;have D:oC (Avoid M0 (fu K m)) w o j:=by
  refine⟨by rw[l.1,G],λi c hi=>?_⟩;obtain⟨a,C,A⟩:=J i c hi;exact tt (S:=⟨m,h,w⟩) u K (l.2 i a C) A
 obtain⟨C,A⟩:=L (Avoid M0 (fu K m)) w o (λb q=>by
  rcases q with q|q
  .exact(u.m0 b q).1
  .obtain⟨_,hi,_⟩:=ig q;exact u.lt b (kN hi)) u.gl.1 D
 refine⟨C,A.mono λe w' hh=>?_⟩;obtain⟨v',rfl,F,E⟩:=hh;obtain⟨I,y⟩:=oX (S:=Mem.kill K ⟨m,h,w⟩) (tq u K) E;have N:=vS ⟨m,h,w⟩ K h.length;have z:(Mem.kill K ⟨m,h,w⟩).h.length=h.length:=by simp[Mem.kill,cS]
 rw[z]at y;exact⟨.ret (.p v),_,fu K m,⟨rfl,rfl⟩,N.trans y,I,F⟩
def yt (id:Nat):AV->Prop
 |.p _=>True
 |.slice i _ _ _=>i=id
 |.ptr i _ _ _=>i=id
 |_=>False
theorem Eb(id)(h):cS (λi=>i==id) h=h.set id .dead:=by
 apply mD;intro i;rw[oS,HT];by_cases hi:i=id
 .subst hi
  cases hh:h[i]? with
  |none=>
   have:¬i<h.length:=by simpa using hh
   simp[this]
  |some o=>
   have:i<h.length:=(aB.1 hh).1;simp[this]
 .have:(i==id)=false:=by simpa using hi
  rw[this,if_neg (Ne.symm hi)];simp
theorem Kv(id):(∀a,a∈([]:List AV)->yt id a)=True:=by simp
theorem Iw(id)(x)(l):(∀a,a∈x::l->yt id a)=(yt id x/\∀a,a∈l->yt id a):=by simp
def fw:PV->Bool
 |.bool _=>true
 |.int _ _=>true
 |.str _=>true
 |.agg cs=>flatL cs
 |.tuple cs=>flatL cs
 |.nilslice=>true
 |.nilptr=>true
 |.nilfunc=>true
 |.niliface=>true
 |.any=>true
 |.iface _ v=>fw v
 |_=>false
where flatL:List PV->Bool
 |[]=>true
 |c::l=>fw c&&flatL l
theorem Aq:∀(q),fw q=true->Flat q
 |.bool b,_=>.bool b
 |.int k n,_=>.int k n
 |.str s,_=>.str s
 |.agg cs,h=>by
  rw[fw]at h
  exact .agg (key cs h)
 |.nilslice,_=>.nilslice
 |.nilptr,_=>.nilptr
 |.nilfunc,_=>.nilfunc
 |.niliface,_=>.niliface
 |.any,_=>.any
 |.tuple cs,h=>by
  rw[fw]at h
  exact .tuple (key cs h)
 |.slice _ _ _,h=>by simp[fw]at h
 |.ptr _ _ _ _,h=>by simp[fw]at h
 |.func _ _ _,h=>by simp[fw]at h
 |.iface _ v,h=>.iface (Aq v (by rw[fw]at h;exact h))
where key:∀(cs:List PV),fw.flatL cs=true->∀(i:Nat) (c:PV),cs[i]?=some c->Flat c
 |[],_=>Flat.nil
 |c::l,h=>by
  rw[fw.flatL,dQ]at h;exact Flat.cons (Aq c h.1) (key l h.2)
def gx:Nat->Heap->AV->Option PV
 |_,_,.p v=>if fw v=true then some v else none
 |0,_,_=>none
 |n+1,h,.slice id ver off len=>(j8 (gx n h) ver h[id]?).map λq=>.slice q.1 ((q.2.take (off+len)).drop off) false
 |n+1,h,.agg cs=>(aQ (gx n h) cs).map .agg
 |n+1,h,.tuple cs=>(aQ (gx n h) cs).map .tuple
 |_,_,_=>none
theorem oW(n)(h)(v):gx n h (.p v)=if fw v=true then some v else none:=by cases n<;>rfl
theorem tv:∀(n) (h) (a) (q),gx n h a=some q->bV n h a=some q:=by
 intro n
 induction n with
 |zero=>
  intro h a q e
  cases a with
  |p v=>rw[oW]at e;split at e<;>cases e;rw[eE]
  |_=>cases e
 |succ n l=>
  intro h a q e
  cases a with
  |p v=>rw[oW]at e;split at e<;>cases e;rw[eE]
  |slice id z off len=>
   unfold gx at e;unfold bV;simp only[bC]at e |-;obtain⟨r,j,i⟩:=e;obtain⟨xs,y,u,o⟩:=mz j;refine⟨r,?_,i⟩
   rw[y,j8,if_pos u,fA (l h) o];rfl
  |agg cs=>
   unfold gx at e;unfold bV;simp only[bC]at e |-;obtain⟨r,j,i⟩:=e
   exact⟨r,fA (l h) j,i⟩
  |tuple cs=>
   unfold gx at e;unfold bV;simp only[bC]at e |-;obtain⟨r,j,i⟩:=e
   exact⟨r,fA (l h) j,i⟩
  |_=>cases e
theorem I1{n}{h}{a}{q}{cs}(e:gx n h a=some q)(o:a.cells=some cs) :
  ∀(j:Nat) (c),q.cells[j]?=some c->∃x m,cs[j]?=some x/\m<=n/\gx m h x=some c:=by
 intro j c i
 cases a with
 |p v=>
  rw[oW]at e;split at e
  .rename_i A;cases e;have E:cs=q.cells.map .p:=by
    cases q with
    |tuple l=>cases o
    |_=>cases o;rfl
   refine⟨.p c,n,by rw[E,cW,i];rfl,ba _,?_⟩;rw[oW];have:fw c=true:=by
    cases q with
    |agg l=>
     have D:∀(l:List PV),fw.flatL l=true->∀x,x∈l->fw x=true:=by
      intro l
      induction l with
      |nil=>intro _ x hx;cases hx
      |cons y l F=>
       intro z x hx;rw[fw.flatL,dQ]at z;rcases ce.1 hx with rfl|hx
       .exact z.1
       .exact F z.2 x hx
     rw[fw]at A
     exact D l A c (aG i)
    |_=>
     have u:[_][j]?=some c:=i
     cases j with
     |zero=>cases u;exact A
     |succ j=>cases u
   rw[if_pos this]
  .cases e
 |slice id C off len=>
  cases o
  cases n with
  |zero=>cases e
  |succ n=>
   have G:q.cells=[q]:=oq (mA (a:=.slice id C off len) rfl (tv _ _ _ _ e));rw[G]at i
   cases j with
   |zero=>cases i;exact⟨_,n+1,rfl,ba _,e⟩
   |succ j=>cases i
 |agg l=>
  cases o
  cases n with
  |zero=>cases e
  |succ n=>
   unfold gx at e;simp only[bC]at e;obtain⟨r,L,rfl⟩:=e;obtain⟨_,K⟩:=fd L;obtain⟨x,J,I⟩:=K j c i
   exact⟨x,n,J,by omega,I⟩
 |tuple l=>cases o
 |undef=>cases n<;>cases e
 |ptr _ _ _ _=>cases n<;>cases e
 |func _ _ _=>cases n<;>cases e
 |ref _ _=>cases n<;>cases e
 |iptr _ _=>cases n<;>cases e
 |arr _ _ _ _ _=>cases n<;>cases e
theorem PR{S}(hS:HOk P M0 S){M}(hM:∀b,Own S.m b->¬M b):∀(n) (v) (a) (q),Rep M0 S v a->gx n S.h a=some q->RepP M S.w v q:=by
 intro n
 induction n using Nat.strongRecOn with
 |_ n R=>
  intro v a q I e
  cases a with
  |p v'=>
   rw[oW]at e;split at e
   .rename_i hf;cases e;exact(Aq _ hf).rep (show RepP (Avoid M0 S.m) S.w v q from I)
   .cases e
  |slice id a2 off len=>
   cases n with
   |zero=>cases e
   |succ n=>
    unfold gx at e;simp only[bC]at e;obtain⟨⟨sz,l⟩,N,rfl⟩:=e;obtain⟨xs,y,hv,z⟩:=mz N;dsimp only at y z |-;have u:len=0->(l.take (off+len)).drop off=[]:=by
     intro e;subst e;apply sy;simp
    rcases cm I.2 y hv with⟨F,_,_,a,cap,rfl⟩|⟨b,cap,T',n',hm,rfl,⟨N,L⟩,_,_⟩|⟨_,rfl,F⟩
    .rw[u F];exact .empty (by simp)
    .obtain⟨C,T,hb,a1,Y⟩:=fj hS y hm;obtain⟨V,X⟩:=fd z;have o:∀(i:Nat) (q:PV),l[i]?=some q->(q.cells.length=sz/\∀c,c∈q.cells->c.isCell=true)/\∀(j:Nat) (c:PV),q.cells[j]?=some c->RepP M S.w (C.getD (i*sz+j) undef) c:=by
      intro i q hi;obtain⟨a,F,G⟩:=X i q hi;obtain⟨cs,g1,g2,U⟩:=Y i a F;obtain⟨g4,g5⟩:=yX (tv _ _ _ _ G) g1;have g6:=I1 G g1;refine⟨⟨by omega,λc J=>?_⟩,λj c D=>?_⟩
      .obtain⟨j,D⟩:=eF J;obtain⟨x,m,k1,_,O⟩:=g5 j c D;exact mA (U j x k1).1 O
      .obtain⟨x,m,k1,k2,O⟩:=g6 j c D;exact R m (by omega) _ x c (qp (U j x k1).1 (U j x k1).2) O
     have a0:¬M b:=hM b (kN (cu hm))
     have:=s1 (M:=M) (w:=S.w) (b:=b) (off:=0) (sz:=sz) (l:=off) (r:=off+len) (xs:=l) (λk=>C.getD k undef) (by omega) (by omega)
      (λx hx=>let ⟨i,hi⟩:=eF hx;(o i x hi).1) (λ_=>a0) (λk hk=>by rw[gV];exact i6 hb k (by rw[<-V]at hk;omega)) (λi j x c hx D=>(o i x hx).2 j c D) (cap:=cap) (full:=false) (by omega) (by simp)
     simpa using this
    .rw[u F];exact .empty (by simp)
  |agg cs=>
   cases n with
   |zero=>cases e
   |succ n=>
    obtain⟨C,rfl,J,N,L⟩:=I;have e0:=tv _ _ _ _ e;unfold gx at e;simp only[bC]at e;obtain⟨l,z,rfl⟩:=e;obtain⟨h3,K⟩:=fd z;refine .agg (by omega) (λc Z=>?_) λi c hi=>?_
    .obtain⟨i,hi⟩:=eF Z;obtain⟨a,A,E⟩:=K i c hi;exact mA (J a (aG A)) (tv _ _ _ _ E)
    .obtain⟨a,A,E⟩:=K i c hi
     exact R n (by omega) _ a c (qp (J a (aG A)) (L i a A)) E
  |tuple cs=>
   cases n with
   |zero=>cases e
   |succ n=>
    obtain⟨C,rfl,N,L⟩:=I;unfold gx at e;simp only[bC]at e;obtain⟨l,z,rfl⟩:=e;obtain⟨h3,K⟩:=fd z;refine .tuple (by omega) λi c hi=>?_;obtain⟨a,A,E⟩:=K i c hi
    exact R n (by omega) _ a c (nI (L i a A)) E
  |undef=>cases n<;>cases e
  |ptr _ _ _ _=>cases n<;>cases e
  |func _ _ _=>cases n<;>cases e
  |ref _ _=>cases n<;>cases e
  |iptr _ _=>cases n<;>cases e
  |arr _ _ _ _ _=>cases n<;>cases e
def gU (P:Program) (f:FuncId) (pargs:List PV) (v:PV):Prop:=
 ∀(M0:Nat->Prop) (w:World) (cargs:Array Value),(∀b,M0 b->b<w.heap.size)->t7 P w->oC M0 w cargs pargs ->
  (∀w',(callFunc f cargs).run P w'=.ok (.enter f cargs) w') /\
  Calls P f cargs w λe w'=>∃v',e=.returned v'/\RepP (λb=>b<w.heap.size) w' v' v/\Fr [] w w'
theorem gU.pure{f}{a}{v}(h:gU P f a v):af P f a v:=by
 intro M0 w i hM o u;obtain⟨z,y⟩:=h M0 w i hM o u;refine⟨z,y.mono λe w' q=>?_⟩;obtain⟨v',rfl,l,j⟩:=q;exact⟨v',rfl,RepP.less l hM,j⟩
def CR (h:Heap):AEnd->Option PV
 |.ret a=>gx 8 h a
 |_=>none
theorem DG(N:dI P){H}{f}{fn}{c}{j}{v}{rs}{n}(M:P.funcs[f]?=some fn)(u:fn.body=some c)(D:fn.results.toList=rs)(J:fn.ntmps=n)(hok:cy H fn=true)
  (A:j.length<=n) (hw:wp P H c (iq P rs 0 (λ_ r h=>CR h r=some v)) (start n .no (j.map .p) [])):gU P f j v:=by
 intro M0 w o hM L G;have E:dz (Rep M0 ⟨[],[],w⟩) o (j.map .p):=by
  refine⟨by simpa using G.1,λi c F=>?_⟩;simp only[cW,bC]at F;obtain⟨q,I,rfl⟩:=F;exact aC ((G.2 i q I).mono (λ_ _ _=>rfl) (λb u=>by
   rcases u with u|u
   .exact .inl u
   .simp[Own]at u))
 have:=jg N (h:=[]) (R:=λr h=>CR h r=some v) M u D J hok (by simpa using A) hw M0 [] w o (pZ hM L) E;refine⟨this.1,this.2.mono λe w' h=>?_⟩;obtain⟨r,h',m',C,y,K,l⟩:=h;have z:∀b,Own m' b->¬b<w.heap.size:=λb u=>by
  rcases y.sub b u with h|h
  .simp[Own]at h
  .exact Nat.not_lt.2 h
 cases e with
 |returned v'=>
  cases r with
  |panic v=>cases C
  |ret a=>exact⟨v',rfl,PR (S:=⟨m',h',w'⟩) K z 8 v' a v l C,y.fr⟩
 |panicked O=>
  cases r with
  |panic v=>cases C
  |ret a=>exact l.elim
 |outgrown=>exact l.elim
theorem BF{f}{args}{j}{v}{h}(J:gU P f j v)(K:m9 h args=some j):ar P f args h (λr h'=>r=.ret (.p v)/\h'=h):=by
 intro M0 m w o u l;obtain⟨F,I⟩:=vQ K;have A:oC M0 w o j:=by
  refine⟨by rw[l.1,F],λi c hi=>?_⟩;obtain⟨a,z,y⟩:=I i c hi;exact qD (S:=⟨m,h,w⟩) u (l.2 i a z) y
 obtain⟨z,y⟩:=J M0 w o (λb q=>(u.m0 b q).1) u.gl.1 A;refine⟨z,y.mono λe w' hh=>?_⟩;obtain⟨v',rfl,E,C⟩:=hh;obtain⟨G,D⟩:=oX u C;refine⟨.ret (.p v),_,m,⟨rfl,rfl⟩,D,G,?_⟩;exact RepP.less E λb q=>by
  rcases q with q|q
  .exact(u.m0 b q).1
  .exact u.lt b q
theorem vj{ops}{rest}{dst}{A}{f}{args}{a}{v}(e:gU P f a v)(i:m9 A.h args=some a)
  (h:@WO ⟨P,H,ops,rest,Q⟩ (A.put dst (.p v) A.h)):@WF ⟨P,H,ops,rest,Q,dst⟩ A f args:=cq (BF e i) h
theorem Rb{ops}{rest}{o}{e i}{A}{f}{args}{a}{v}(j:gU P f a v)(l:m9 i args=some a)
  (h:@WD ⟨P,H,ops,rest,Q⟩ e (A.put o.dst (.p v) A.h)):@Fo ⟨P,H,ops,rest,Q,o⟩ e i A (.call f args):=
 ⟨.p v,λ_ e=>BF j (En e l),h⟩
theorem kY{α:Type}(n)(h)(f)(a:∀x,fw (f x)=true):∀l:List α,aQ (gx n h) (l.map λx=>.p (f x))=some (l.map f)
 |[]=>rfl
 |x::r=>by rw[bK,aQ,kY n h f a r,oW,if_pos (a x)];rfl
theorem qE{α:Type}(n)(h)(f)(a:∀x,fw (f x)=true)(m):∀l:List α,aQ (gx n h) ((l.map λx=>.p (f x))++m)=(aQ (gx n h) m).map (l.map f++·)
 |[]=>by cases e:aQ (gx n h) m<;>simp[e]
 |x::r=>by
  rw[bK,hZ,aQ,qE n h f a m r,oW,if_pos (a x)];cases aQ (gx n h) m<;>rfl
theorem Cq{α:Type}(n)(h)(f)(a:∀x,fw (f x)=true)(l:List α):aQ (gx n h) ((l.map f).map .p)=some (l.map f):=by
 rw[q6];exact kY n h f a l
theorem Cr{α:Type}(n)(h)(f)(a:∀x,fw (f x)=true)(m)(l:List α):aQ (gx n h) ((l.map f).map .p++m)=(aQ (gx n h) m).map (l.map f++·):=by
 rw[q6];exact qE n h f a m l
attribute [go_sem] Cq Cr fw fw.flatL gx oW CR kY qE
theorem BD{S}(G:HOk P M0 S){id:Nat}{o}(E:S.h[id]?=some o):aX S.h.length o:=by
 have:=G.obj id o E
 cases o with
 |row sz xs=>
  intro x hx;rcases this with⟨_,rfl⟩|⟨b,T,C,D,A,z,e⟩
  .cases hx
  .obtain⟨i,hi⟩:=eF hx;obtain⟨cs,a,I,y⟩:=e i x hi;have one:∀c,cs=[c]->e8 S.h.length c:=λc u=>by
    subst u;exact dU (y 0 c rfl).2
   cases x with
   |p q=>exact trivial
   |agg l=>
    cases a;intro c u;obtain⟨j,F⟩:=eF u
    exact dU (y j c F).2
   |tuple l=>cases a
   |undef=>cases a
   |ptr _ _ _ _=>cases a;exact one _ rfl
   |iptr _ _=>cases a;exact one _ rfl
   |arr _ _ _ _ _=>cases a;exact one _ rfl
   |slice _ _ _ _=>cases a;exact one _ rfl
   |ref _ _=>cases a;exact one _ rfl
   |func _ _ _=>cases a;exact one _ rfl
 |loop n tmps ps assign body J pend=>
  obtain⟨b,r,D,A,z,e,a⟩:=this
  exact λt=>Bh (e t)
 |strIter s p=>exact trivial
 |mp es=>exact trivial
 |memo f=>exact trivial
 |dblock=>exact trivial
 |bld T K x=>
  obtain⟨b,p,v,D,A,z,e,a,I⟩:=this
  exact fb a
 |dead=>exact trivial
theorem wb(Z:dI P){H}{f}{fn}{c}{args}{h}{v}{rs}{n}(Y:P.funcs[f]?=some fn)(u:fn.body=some c)(N:fn.results.toList=rs)(X:fn.ntmps=n)(hok:cy H fn=true)
  (J:args.length<=n) (hw:wp P H c (iq P rs h.length (λ_ r h'=>∃t,h'=h++t/\pg (List.replicate h.length .dead++t) r=some v)) (start n .no args h)):ar P f args h (λr h'=>r=.ret (.p v)/\h'=h):=by
 intro M0 m w F V E;have:=jg Z (R:=λr h'=>∃t,h'=h++t/\pg (List.replicate h.length .dead++t) r=some v) Y u N X hok J hw M0 m w F V E;refine⟨this.1,this.2.mono λe w' hh=>?_⟩;obtain⟨r,h',m',⟨t,rfl,M⟩,C,U,j⟩:=hh
 cases e with
 |returned v'=>
  cases r with
  |panic v=>cases M
  |ret a=>
   have D:∀(id:Nat) (o:AObj),id<h.length->(h++t)[id]?=some o->aX h.length o:=λid o y L=>by
    rw[bp y]at L;exact BD (S:=⟨m,h,w⟩) V L
   have A:=Ap (S:=⟨m',h++t,w'⟩) U (l:=h.length) D;have K:Mem.cut ⟨m',h++t,w'⟩ h.length=⟨m'.take h.length,h,w'⟩:=by simp[Mem.cut]
   rw[K]at A;have e1:cS (λi=>!decide (h.length<=i)) (h++t)=List.replicate h.length .dead++t:=by
    apply mD;intro i;rw[oS];by_cases hi:i<h.length
    .rw[bp hi,bp (by simpa using hi),bO hi];have:decide (h.length<=i)=false:=by simpa using hi
     simp[this,hi]
    .rw[cG (by omega),cG (by simpa using H3 hi)];have:decide (h.length<=i)=true:=by simpa using hi
     simp[this]
   have I:=tt (S:=⟨m',h++t,w'⟩) U (λi=>decide (h.length<=i)) (v:=v') (a:=a) (q:=v) j (by rw[e1];exact M);refine⟨.ret (.p v),h,m'.take h.length,⟨rfl,rfl⟩,⟨C.fr,λb u=>C.sub b (od u),λid o y L=>?_⟩,A,?_⟩
   .have z:id<h.length:=y;obtain⟨T,h1,h2⟩:=C.obj id o y L;refine⟨T,?_,?_⟩
    .have G:(h++t)[id]?=some T:=h1;rw[bp z]at G;exact G
    .have:(m'.take h.length).getD id none=m'.getD id none:=by
      rw[cr,cr,kB,if_pos z]
     show ObjEv _ _ ((m'.take h.length).getD id none) _;rw[this];exact h2
   .exact RepP.less I λb u=>by
     rcases u with u|u
     .exact .inl u
     .obtain⟨i,hi⟩:=eF u;rw[kB]at hi;split at hi
      .rename_i O;refine .inr (aG (i:=i) ?_);rw[uI,hi];have:decide (h.length<=i)=false:=by simpa using O
       simp[this]
      .cases hi
 |panicked ch=>
  cases r with
  |panic v=>cases M
  |ret a=>exact j.elim
 |outgrown=>exact j.elim
theorem Dw(n)(t)(j):(List.replicate n AObj.dead++t)[n+j]?=t[j]?:=by rw[cG (by simp)];simp
theorem Kg(n)(t):(List.replicate n AObj.dead++t)[n]?=t[0]?:=Dw n t 0
attribute [go_sem] Dw Kg
section
variable {α τ:Type}
theorem Oh{x}{A}(live)(l)(F:l.length<1000000000)(i:List α->List α->τ->Prop)(M)(o)(v)(hi:i [] l v)
  (hh:A.h=o [] v) (E:∀p,p∈bU A.tmps live (M [] v)->A.tmps p.1=p.2)
  (u:∀t,i l [] t->@W ⟨P,H,x,eH (g8 P (rD l i) (λs=>fW A live (kq M s) (kq o s)) (λs=>s.2.1.length) (l,[],t)) Q⟩
   {n:=A.n,bs:=A.bs,rc:=A.rc,tmps:=cN (bU A.tmps live (M l t)),h:=o l t,df:=A.df })
  (j:∀a y r t,l=a++y::r->i a (y::r) t->l[a.length]?=some y->((a.length:Int)<(l.length:Int))->IntKind.i64.wrap ((a.length:Int)+1)=(((a++[y]).length:Nat):Int) ->
   @W ⟨P,H,x,eH (g8 P (rD l i) (λs=>fW A live (kq M s) (kq o s)) (λs=>s.2.1.length) (a,y::r,t)) Q⟩
    {n:=A.n,bs:=A.bs,rc:=A.rc,tmps:=cN (bU A.tmps live (M a t)),h:=o a t,df:=A.df }):@W ⟨P,H,.loop x,Q⟩ A:=by
 refine fo live (rD l i) (λs=>s.2.1.length) (kq M) (kq o) ([],l,v) ⟨rfl,hi⟩ hh E ?_
 rintro⟨a,rest,t⟩ ⟨q,z⟩
 dsimp only at q z
 cases rest with
 |nil=>
  rw[bt]at q;subst q
  exact u t z
 |cons y r=>
  have C:a.length<l.length:=by rw[q];simp
  have D:l[a.length]?=some y:=by rw[q];simp
  refine j a y r t q z D (by omega) ?_;have e:((a.length:Int)+1)=(((a++[y]).length:Nat):Int):=by simp
  rw[e];exact IntWalk.i64_in _ ⟨by omega,by simp<;>omega⟩
theorem Oj{l}{e:List α->List α->τ->Prop}{M}{o}{live}{a r}{y}{t}{A B}
  (D:l=a++y::r) (j) (i:e (a++[y]) r j) (hh:B.h=o (a++[y]) j) (C:∀p,p∈bU A.tmps live (M (a++[y]) j)->B.tmps p.1=p.2)
  (u:B.n=A.n:=by rfl) (z:B.bs=A.bs:=by rfl) (q:B.rc=A.rc:=by rfl) (v:B.df=A.df:=by rfl) :
  @WQ ⟨eH (g8 P (rD l e) (λs=>fW A live (kq M s) (kq o s)) (λs=>s.2.1.length) (a,y::r,t)) Q⟩ .normal B:=
 ⟨(a++[y],r,j),⟨by simp[D],i⟩,by simp,sO u z q v hh C⟩
end
attribute [go_sem] yt Kv Iw
end Abs
end Go.Proofs.YtmndpldajflenaaGreatDoor
namespace Go.Proofs.YtmndpldajflenaaGreatDoor
namespace Abs
variable {P:Program}
inductive PL:PV->PV->Prop
 |refl (v:PV):PL v v
 |nil (sz:Nat):PL .nilslice (.slice sz [] false)
 |agg {a b:List PV} (hl:a.length=b.length) (hc:∀c,c∈b->c.isCell=true) (h:∀(i:Nat) (q c:PV),a[i]?=some q->b[i]?=some c->PL q c):PL (.agg a) (.agg b)
 |slice {sz:Nat} {xs ys:List PV} {full:Bool} (hl:xs.length=ys.length) (hc:∀y,y∈ys->y.cells.length=sz/\∀c,c∈y.cells->c.isCell=true) (h:∀(i:Nat) (q c:PV),xs[i]?=some q->ys[i]?=some c->PL q c) :
   PL (.slice sz xs full) (.slice sz ys false)
 |tuple {a b:List PV} (hl:a.length=b.length) (h:∀(i:Nat) (q c:PV),a[i]?=some q->b[i]?=some c->PL q c):PL (.tuple a) (.tuple b)
theorem PL.cells{q v}(h:PL q v):q.cells.length=v.cells.length/\∀(j:Nat) (c d),q.cells[j]?=some c->v.cells[j]?=some d->PL c d:=by
 cases h with
 |refl v=>exact⟨rfl,λj c d e a=>by rw[e]at a;cases a;exact .refl _⟩
 |nil sz=>exact⟨rfl,λj c d e a=>by cases j<;>cases e;cases a;exact .nil sz⟩
 |agg i l h=>exact⟨i,h⟩
 |slice i l h=>exact⟨rfl,λj c d e a=>by cases j<;>cases e;cases a;exact .slice i l h⟩
 |tuple i h=>exact⟨rfl,λj c d e a=>by cases j<;>cases e;cases a;exact .tuple i h⟩
theorem PL.single{q y}(h:PL q y)(a:∀l,q≠.agg l):y.cells=[y]:=by
 cases h with
 |refl v=>cases q with
  |agg l=>exact absurd rfl (a l)
  |_=>rfl
 |nil _=>rfl
 |agg _ _ _=>exact absurd rfl (a _)
 |slice _ _ _=>rfl
 |tuple _ _=>rfl
theorem PL.rep{M}{w}{q v}(h:PL q v):∀{u},RepP M w u q->RepP M w u v:=by
 induction h with
 |refl v=>intro u o;exact o
 |nil sz=>intro u o;cases o;exact .empty (by simp)
 |@agg a b N O h F=>
  intro u o
  cases o with
  |agg Z hs o=>
   refine .agg (by omega) O λi c hi=>?_;have e:i<a.length:=by have:=(aB.1 hi).1;omega
   exact F i _ c (bO e) hi (o i _ (bO e))
 |@tuple a b N h F=>
  intro u o
  cases o with
  |tuple Z o=>
   refine .tuple (by omega) λi c hi=>?_;have e:i<a.length:=by have:=(aB.1 hi).1;omega
   exact F i _ c (bO e) hi (o i _ (bO e))
 |@slice sz xs ys full N O h F=>
  intro u o
  cases o with
  |empty hf=>
   have:ys=[]:=sK.1 N.symm;subst this
   exact .empty (by simp)
  |slice f a0 K Y U hm z C=>
   rw[N]at hm z;refine .slice f (by omega) K (by simp) O hm z λi j y c G J=>?_;have e:i<xs.length:=by have:=(aB.1 G).1;omega
   have hx:xs[i]?=some xs[i]:=bO e;have I:=h i _ y hx G;obtain⟨g1,g2⟩:=I.cells;have A:=U _ (HS e);have V:=O y (aG G)
   cases D:xs[i] with
   |agg a=>
    rw[D]at I A hx;obtain⟨b,rfl⟩:∃b,y=.agg b:=by
     generalize L:PV.agg a=q at I
     cases I with
     |refl v=>exact⟨a,L.symm⟩
     |agg _ _ _=>exact⟨_,rfl⟩
     |nil _=>cases L
     |slice _ _ _=>cases L
     |tuple _ _=>cases L
    have hv:RepP M w (.agg (Array.ofFn λk:Fin sz=>f (i*sz+k.val))) (.agg a):=by
     refine .agg (by have:=A.1;simp[PV.cells]at this;simp[this]) A.2 λk c hk=>?_;have E:k<sz:=by have:=(aB.1 hk).1;have:=A.1;simp[PV.cells]at this;omega
     have:=C i k (.agg a) c hx hk;simpa[E]using this
    have T:=F i _ _ hx G hv
    cases T with
    |agg Z hs X=>
     have E:j<sz:=by have:=(aB.1 J).1;have:=V.1;omega
     have:=X j c J
     simpa[E]using this
   |_=>
    have R:y.cells=[y]:=I.single λl=>by rw[D];simp
    have S:xs[i].cells=[xs[i]]:=by rw[D];rfl
    rw[R]at J
    cases j with
    |zero=>
     cases J
     exact F i _ _ hx G (C i 0 _ _ hx (by rw[S];rfl))
    |succ j=>cases J
theorem af.lessD{f}{args}{q v}(u:af P f args q)(h:PL q v):af P f args v:=by
 intro M0 w a hM l y;obtain⟨A,z⟩:=u M0 w a hM l y;refine⟨A,z.mono λe w' o=>?_⟩;obtain⟨v',rfl,j,i⟩:=o;exact⟨v',rfl,h.rep j,i⟩
def zH:List PV->List PV->Prop
 |[],[]=>True
 |q::a,c::b=>PL q c/\zH a b
 |_,_=>False
theorem zH.get:∀{a b},zH a b->a.length=b.length/\∀(i:Nat) (q c),a[i]?=some q->b[i]?=some c->PL q c
 |[],[],_=>⟨rfl,by simp⟩
 |q::a,c::b,h=>by
  obtain⟨l,j⟩:=zH.get h.2;refine⟨by simp[l],λi x y hx e=>?_⟩
  cases i with
  |zero=>cases hx;cases e;exact h.1
  |succ i=>exact j i x y (by simpa using hx) (by simpa using e)
 |[],_::_,h=>h.elim
 |_::_,[],h=>h.elim
def fK (l:List PV):Bool:=l.all PV.isCell
def Sr (sz:Nat) (l:List PV):Bool:=l.all λy=>y.cells.length==sz&&y.cells.all PV.isCell
theorem PL.aggL{a b}(i:fK b=true)(h:zH a b):PL (.agg a) (.agg b):=.agg h.get.1 (λc e=>kC.1 i c e) h.get.2
theorem PL.sliceL{sz}{xs ys}{full}(a:Sr sz ys=true)(h:zH xs ys):PL (.slice sz xs full) (.slice sz ys false):=
 .slice h.get.1 (λy e=>by
  have:=kC.1 a y e;simp at this
  exact⟨this.1,λc a=>this.2 c a⟩) h.get.2
theorem PL.tupleL{a b}(h:zH a b):PL (.tuple a) (.tuple b):=.tuple h.get.1 h.get.2
end Abs
end Go.Proofs.YtmndpldajflenaaGreatDoor
