/- CONTRACTS of the program's functions, and laws on what they return. No conditions but those in the theorems' heads. -/
import Derived.Test.YtmndpldajflenaaGreatDoorChApiX
set_option linter.all false
set_option maxHeartbeats 4000000
namespace Go.Proofs.YtmndpldajflenaaGreatDoor
namespace Abs
namespace Ch
set_option maxRecDepth 4000
def pd (i:Nat) (row:List UInt8):Option (List UInt8):=
 match (aH 32 row).2 with
 |none=>none
 |some line=>if(aH 32 row).1=bH (i:Int)/\line≠[]/\line.length<=400 then some (repL 47 10 line) else none
def oM:Nat->List (List UInt8)->Option (List (List UInt8))
 |_,[]=>none
 |_,[last]=>if last=[] then some [] else none
 |i,row::r::rs=>match pd i row with|none=>none|some x=>(oM (i+1) (r::rs)).map (x::·)
def cR (text:List UInt8):List (List UInt8)×Int:=
 match oM 1 (aM 10 text) with
 |none=>([],6)
 |some l=>if 40<l.length then([],3) else(l,0)
def dl (text:List UInt8):PV:=.tuple [if(cR text).2=0 then bv (cR text).1 else .nilslice,.int .i64 (cR text).2]
theorem Iq(i):oM i (aM 10 [])=some []:=rfl
theorem FQ{i}{t}(h:(aH 10 t).2=none)(a:t≠[]):oM i (aM 10 t)=none:=by
 rw[lI h];exact if_neg a
theorem FH(c)(t):∃a r,aM c t=a::r:=⟨_,_,lg c t⟩
theorem FO{i}{t r}(h:(aH 10 t).2=some r):oM i (aM 10 t)=(match pd i (aH 10 t).1 with|none=>none|some x=>(oM (i+1) (aM 10 r)).map (x::·)):=by
 rw[lH h];obtain⟨a,rs,e⟩:=FH 10 r;rw[e];rfl
theorem Je(text)(U:text.length<=2000000):af Tryz.prog 78 [.str (bs text)] (dl text):=by
 refine gQ (ag Tryz.func78 rfl) rfl ?_;simp only[go_sem,simprocAttr];refine cp 2 1 (by simp only[go_sem,simprocAttr]) ?_;simp only[go_sem,simprocAttr]
 refine fo [] (σ:=List (List UInt8)×List UInt8) (λq=>oM 1 (aM 10 text)=(oM (q.1.length+1) (aM 10 q.2)).map (q.1++·)/\q.2.length+q.1.length<=text.length) (λq=>q.2.length)
  (λq=>[(0,.p (.str (bs q.2))),(2,.slice 0 q.1.length 0 q.1.length),(4,.p (.int .i64 ((q.1.length+1:Nat):Int)))]) (λq=>[.row 1 (q.1.map λx=>.p (.str (bs x)))]) ([],text) ⟨by simp,by simp⟩ rfl ?_ ?_
 .simp only[dL,go_sem,simprocAttr]
 rintro⟨a,t⟩ ⟨j,N⟩
 dsimp only at j N;have c0:(⟨#[]⟩:ByteArray)=bs []:=rfl;have c1:(⟨#[10]⟩:ByteArray)=bs [10]:=rfl;have R:(⟨#[32]⟩:ByteArray)=bs [32]:=rfl;have O:(⟨#[47]⟩:ByteArray)=bs [47]:=rfl;by_cases u:t=[]
 .subst u;have F:(bs []==bs [])=true:=by rw[dy];rfl
  rw[Iq,jI,bt]at j;simp only[c0,F,go_sem,simprocAttr];have u:List.take a.length (a.map λx=>PV.str (bs x))=a.map λx=>PV.str (bs x):=fC (by simp);have L:∀n h,aQ (bV n h) (a.map λx=>AV.p (PV.str (bs x)))=some (a.map λx=>.str (bs x)):=λn h=>dC (eE n h) (λx=>PV.str (bs x)) a;by_cases y:40<a.length
  .have D:decide ((40:Int)<(a.length:Int))=true:=decide_eq_true (by omega);have o:dl text=.tuple [.nilslice,.int .i64 3]:=by rw[dl,cR,j];simp only[if_pos y];rfl
   simp only[D,o,go_sem,simprocAttr]
  .have D:decide ((40:Int)<(a.length:Int))=false:=decide_eq_false (by omega);have o:dl text=.tuple [bv a,.int .i64 0]:=by rw[dl,cR,j];simp only[if_neg y];rfl
   simp only[D,L,u,o,bv,go_sem,simprocAttr]
 .have F:(bs t==bs [])=false:=by rw[dy];simpa using u
  simp only[c0,F,c1,go_sem,simprocAttr];refine ae (sj t 10 (by omega)) rfl ?_;simp only[R,go_sem,simprocAttr];have S:=pj 10 t;refine ae (sj (aH 10 t).1 32 (by omega)) rfl ?_
  cases E:(aH 10 t).2 with
  |none=>
   rw[FQ E u]at j;simp only[CC,go_sem,simprocAttr]
   exact .inl (by rw[dl,cR,j];rfl)
  |some r=>
   rw[FO E]at j;have J:=tF 10 t r E
   cases l:(aH 32 (aH 10 t).1).2 with
   |none=>
    simp only[HZ,CC,go_sem,simprocAttr];have i:pd (a.length+1) (aH 10 t).1=none:=by rw[pd,l]
    rw[i]at j
    exact .inl (by rw[dl,cR,j];rfl)
   |some e=>
    simp only[HZ,go_sem,simprocAttr];refine ae (vW ((a.length+1:Nat):Int) (by omega) (by omega)) rfl ?_;rw[md (by omega)];have T:=tF 32 (aH 10 t).1 e l;by_cases A:(aH 32 (aH 10 t).1).1=bH ((a.length+1:Nat):Int);rotate_left
    .have v:(bs (aH 32 (aH 10 t).1).1==bs (bH ((a.length+1:Nat):Int)))=false:=by rw[dy];simpa using A
     have i:pd (a.length+1) (aH 10 t).1=none:=by rw[pd,l];exact if_neg λh=>A h.1
     rw[i]at j;simp only[v,go_sem,simprocAttr];exact .inl (by rw[dl,cR,j];rfl)
    have v:(bs (aH 32 (aH 10 t).1).1==bs (bH ((a.length+1:Nat):Int)))=true:=by rw[dy];simpa using A
    by_cases z:e=[]
    .have C:(bs e==bs [])=true:=by rw[dy];simpa using z
     have i:pd (a.length+1) (aH 10 t).1=none:=by rw[pd,l];exact if_neg λh=>h.2.1 z
     rw[i]at j;simp only[v,c0,C,go_sem,simprocAttr];exact .inl (by rw[dl,cR,j];rfl)
    have C:(bs e==bs [])=false:=by rw[dy];simpa using z
    by_cases M:e.length<=400;rotate_left
    .have G:decide ((400:Int)<(e.length:Int))=true:=decide_eq_true (by omega);have i:pd (a.length+1) (aH 10 t).1=none:=by rw[pd,l];exact if_neg λh=>M h.2.2
     rw[i]at j;simp only[v,c0,C,aj,G,go_sem,simprocAttr];exact .inl (by rw[dl,cR,j];rfl)
    have G:decide ((400:Int)<(e.length:Int))=false:=decide_eq_false (by omega);have i:pd (a.length+1) (aH 10 t).1=some (repL 47 10 e):=by rw[pd,l];exact if_pos ⟨A,z,M⟩
    rw[i]at j;simp only[v,c0,C,aj,G,c1,O,go_sem,simprocAttr];refine ae (wG e 47 10 (by decide) (by omega)) rfl ?_;have I:a.length+1<=ao:=by simp[ao];omega
    have K:IntKind.i64.wrap (((a.length+1:Nat):Int)+1)=(((a++[repL 47 10 e]).length+1:Nat):Int):=bk (by omega) (by simp[ao];omega) (by simp);simp only[I,dp,go_sem,simprocAttr];refine br (a++[repL 47 10 e],r) ⟨?_,?_⟩ J ?_ ?_
    .rw[j];simp[js]
    .show r.length+(a++[repL 47 10 e]).length<=text.length;rw[aL,aV];omega
    .simp
    simp only[K,go_sem,simprocAttr];rw[aL,aV]
end Ch
variable {P:Program} {M0:Nat->Prop} {H:Hints} {Q:Cont}
def yz (π:Nat->Nat):AV->AV
 |.ptr id v i o=>.ptr (π id) v i o
 |.slice id v off len=>.slice (π id) v off len
 |.iptr t id=>.iptr t (π id)
 |.arr id ver i o n=>.arr (π id) ver i o n
 |a=>a
def yy (π:Nat->Nat):AV->AV
 |.agg cs=>.agg (cs.map (yz π))
 |a=>yz π a
def ON (π:Nat->Nat):AObj->AObj
 |.row sz xs=>.row sz (xs.map (yy π))
 |_=>.dead
def sT:AV->Bool
 |.p _=>true
 |.ptr _ _ _ _=>true
 |.slice _ _ _ _=>true
 |.iptr _ _=>true
 |.arr _ _ _ _ _=>true
 |_=>false
def yd:AV->Bool
 |.agg cs=>cs.all sT
 |a=>sT a
def OG:AObj->Bool
 |.row _ xs=>xs.all yd
 |.dead=>true
 |_=>false
theorem KC{π}{x}{cs}(j:yd x=true)(hx:x.cells=some cs):(yy π x).cells=some (cs.map (yz π))/\∀c,c∈cs->sT c=true:=by
 cases x with
 |p q=>
  cases q<;>simp[AV.cells]at hx<;>subst hx<;>refine⟨by simp[yy,yz,AV.cells,js],λc i=>?_⟩<;>simp at i<;>first|(subst i;rfl)|(obtain⟨_,_,rfl⟩:=i;rfl)
 |agg l=>cases hx;exact⟨rfl,λc i=>kC.1 j c i⟩
 |ptr a b c d=>cases hx;exact⟨rfl,λc i=>by simp at i;subst i;rfl⟩
 |iptr a b=>cases hx;exact⟨rfl,λc i=>by simp at i;subst i;rfl⟩
 |arr a b c d e=>cases hx;exact⟨rfl,λc i=>by simp at i;subst i;rfl⟩
 |slice a b c d=>cases hx;exact⟨rfl,λc i=>by simp at i;subst i;rfl⟩
 |ref a b=>cases j
 |func a b c=>cases j
 |tuple l=>cases j
 |undef=>cases j
theorem DU{π}{c}(a:sT c=true):(yz π c).isCell=c.isCell:=by
 cases c<;>first|rfl|cases a
theorem JV{A}{T}{h'}(π σ:Nat->Nat)(hπ:∀i,i<A.h.length->π i<A.h.length/\σ (π i)=i)(hσ:∀i,i<A.h.length->σ i<A.h.length/\π (σ i)=i)(D:A.bs=0)(hd:A.df=[])
  (hs:∀o,o∈A.h->OG o=true) (hh:h'=(List.range A.h.length).map λj=>ON π (A.h.getD (σ j) .dead)) (hT:∀t,(T t=yy π (A.tmps t)/\yd (A.tmps t)=true)\/T t=.undef) :
  fS P A { A with tmps:=T,h:=h' }:=
 ⟨rfl,rfl,λM0 S0 b cs0 m a w G=>by
  have b1:m.length=A.h.length:=G.hok.len;have b2:h'.length=A.h.length:=by rw[hh];simp
  obtain⟨m',a2⟩:∃m',m'=(List.range A.h.length).map λj=>m.getD (σ j) none:=⟨_,rfl⟩
  have y:∀j,j<A.h.length->m'[j]?=some (m.getD (σ j) none):=λj M=>by rw[a2,cW,List.getElem?_range M];rfl
  have S:∀j,j<A.h.length->h'[j]?=some (ON π (A.h.getD (σ j) .dead)):=λj M=>by rw[hh,cW,List.getElem?_range M];rfl
  have a9:m'.length=A.h.length:=by rw[a2];simp
  have u:∀b,Own m' b->Own m b:=λb D=>by
   obtain⟨j,M⟩:=eF D;have O:j<A.h.length:=by have:=(aB.1 M).1;omega
   rw[y j O]at M;exact aG (cu (lS M))
  have a8:∀b,Own m b->Own m' b:=λb D=>by
   obtain⟨i,hi⟩:=eF D;have K:i<A.h.length:=by have:=(aB.1 hi).1;omega
   have z:=y (π i) (hπ i K).1;rw[(hπ i K).2,cr,hi]at z;exact aG z
  have a4:∀i,i<A.h.length->m'.getD (π i) none=m.getD i none:=λi hi=>by
   rw[cr,y _ (hπ i hi).1,(hπ i hi).2];rfl
  have U:∀i o,A.h[i]?=some o->h'[π i]?=some (ON π o):=λi o R=>by
   have hi:=(aB.1 R).1;rw[S _ (hπ i hi).1,(hπ i hi).2,cr,R];rfl
  have live:∀{id e:Nat} {X:Nat->Option Nat->Prop},cC ⟨m,A.h,w⟩ id e X->cC ⟨m',h',w⟩ (π id) e X:=by
   intro id e X h;rcases h with h|⟨sz,xs,h,z,I⟩
   .exact .inl (U _ _ h)
   .have F:=(aB.1 h).1;refine .inr ⟨sz,xs.map (yy π),U _ _ h,by simpa using z,λhe=>?_⟩;show X sz (m'.getD (π id) none);rw[a4 id F];exact I (by simpa using he)
  have rep0:∀{v:Value} {a:AV},sT a=true->bB M0 ⟨m,A.h,w⟩ v a->bB M0 ⟨m',h',w⟩ v (yz π a):=by
   intro v a l h
   cases a with
   |p q=>exact RepP.less (show RepP (Avoid M0 m) w v q from h) λb D=>D.imp id (u b)
   |ptr id e i o=>exact⟨h.1,live h.2⟩
   |iptr it id=>exact⟨h.1,live h.2⟩
   |arr id e i o n=>exact⟨h.1,live h.2⟩
   |slice id e off len=>exact⟨h.1,live (X:=sliceAt w v e off len) h.2⟩
   |ref q id=>cases l
   |undef=>cases l
   |agg cs=>cases l
   |func fn f c=>cases l
   |tuple vs=>cases l
  have repS:∀{v:Value} {a:AV},sT a=true->bm M0 ⟨m,A.h,w⟩ v a->bm M0 ⟨m',h',w⟩ v (yz π a):=by
   intro v a l h
   cases a with
   |p q=>exact rep0 l h
   |ptr id e i o=>exact rep0 l h
   |iptr it id=>exact rep0 l h
   |arr id e i o n=>exact rep0 l h
   |slice id e off len=>exact rep0 l h
   |ref q id=>cases l
   |undef=>cases l
   |agg cs=>cases l
   |func fn f c=>cases l
   |tuple vs=>cases l
  have rep:∀{v:Value} {a:AV},yd a=true->Rep M0 ⟨m,A.h,w⟩ v a->Rep M0 ⟨m',h',w⟩ v (yy π a):=by
   intro v a l h
   cases a with
   |p q=>exact repS (a:=.p q) rfl h
   |ptr id e i o=>exact repS (a:=.ptr id e i o) rfl h
   |iptr it id=>exact repS (a:=.iptr it id) rfl h
   |arr id e i o n=>exact repS (a:=.arr id e i o n) rfl h
   |slice id e off len=>exact repS (a:=.slice id e off len) rfl h
   |agg cs=>
    obtain⟨C,z,I,h3,h4⟩:=h;have V:∀c,c∈cs->sT c=true:=kC.1 l;refine⟨C,z,λc N=>?_,by rw[h3];simp,λi c hi=>?_⟩
    .obtain⟨c0,a3,rfl⟩:=cX.1 N;rw[DU (V c0 a3)];exact I c0 a3
    .rw[cW]at hi
     cases L:cs[i]? with
     |none=>rw[L]at hi;cases hi
     |some c0=>
      rw[L]at hi;cases hi
      exact repS (V c0 (aG L)) (h4 i c0 L)
   |ref q id=>cases l
   |undef=>cases l
   |func fn f c=>cases l
   |tuple vs=>cases l
  refine⟨m',?_⟩;refine⟨G.size,λt=>?_,?_,?_,?_,?_,?_⟩
  .show Rep M0 ⟨m',h',w⟩ (a.tmps.getD t undef) (T t);rcases hT t with⟨z,I⟩|z
   .rw[z];exact rep I (G.tmps t)
   .rw[z];exact trivial
  .exact
   {len:=by show m'.length=h'.length;omega
    lt:=λb D=>G.hok.lt b (u b D)
    m0:=λb D=>⟨(G.hok.m0 b D).1,λh=>(G.hok.m0 b D).2 (u b h)⟩
    inj:=λi j b hi M=>by
     have a0:m'[i]?=some (some b):=hi;have Z:m'[j]?=some (some b):=M;have K:i<A.h.length:=by have:=(aB.1 a0).1;omega
     have O:j<A.h.length:=by have:=(aB.1 Z).1;omega
     rw[y i K]at a0;rw[y j O]at Z;have:=G.hok.inj (σ i) (σ j) b (cu (lS a0)) (cu (lS Z));rw[<-(hσ i K).2,<-(hσ j O).2,this]
    obj:=λid o R=>by
     have Y:h'[id]?=some o:=R;have F:id<A.h.length:=by have:=(aB.1 Y).1;omega
     rw[S id F]at Y;cases Y;show ObjOk P M0 ⟨m',h',w⟩ (m'.getD id none) _;rw[cr,y id F,fT];obtain⟨o,R⟩:∃o,A.h[σ id]?=some o:=⟨_,bO (hσ id F).1⟩
     rw[show A.h.getD (σ id) .dead=o by rw[cr,R];rfl];have E:=hs o (aG R);have a5:ObjOk P M0 ⟨m,A.h,w⟩ (m.getD (σ id) none) o:=G.hok.obj _ _ R
     cases o with
     |row sz xs=>
      rcases a5 with⟨z,I⟩|⟨b,T',C,z,I,h3,h4⟩
      .exact .inl ⟨z,by rw[I];rfl⟩
      .refine .inr ⟨b,T',C,z,I,by simpa using h3,λi x hx=>?_⟩;rw[cW]at hx
       cases L:xs[i]? with
       |none=>rw[L]at hx;cases hx
       |some x0=>
        rw[L]at hx;cases hx;obtain⟨cs,h5,h6,h7⟩:=h4 i x0 L;obtain⟨k1,k2⟩:=KC (π:=π) (kC.1 E x0 (aG L)) h5;refine⟨cs.map (yz π),k1,by simpa using h6,λj c N=>?_⟩;rw[cW]at N
        cases J:cs[j]? with
        |none=>rw[J]at N;cases N
        |some c0=>
         rw[J]at N;cases N;have a1:=k2 c0 (aG J)
         exact⟨by rw[DU a1];exact(h7 j c0 J).1,repS a1 (h7 j c0 J).2⟩
     |dead=>exact trivial
     |strIter s p=>cases E
     |mp es=>cases E
     |memo f=>cases E
     |loop n tmps ps assign body st pend=>cases E
     |dblock=>cases E
     |bld T' el x=>cases E
    gl:=G.hok.gl.fr (λ_ _ _=>rfl) λb D=>.inl (u b D) }
  .exact
   {fr:=G.ev.fr
    sub:=λx hx=>G.ev.sub x (u x hx)
    obj:=λid o F _=>by
     have b0:id<A.bs:=F
     omega }
  .exact⟨by show A.bs<=h'.length;omega,G.le.2⟩
  .have:=G.df;rw[hd]at this;show DefsRep P M0 _ a.defers A.df;rw[hd]
   cases a6:a.defers with
   |nil=>exact trivial
   |cons d ds=>rw[a6]at this;exact this.elim
  .have:=G.rc;show RcRep M0 _ b cs0 A.rc;cases N:A.rc<;>rw[N]at this<;>first|exact this|skip
   obtain⟨z,I,v',a7,h3,h4⟩:=this
   exact⟨z,I,v',a7,h3,RepP.less h4 λb D=>D.imp id (u b)⟩⟩
theorem uK{T}:∀(live) (t),(cN (bU T live []) t=T t/\t∈live)\/cN (bU T live []) t=.undef
 |[],_=>.inr rfl
 |k::r,t=>by
  rw[yJ,pM];by_cases h:t=k
  .rw[if_pos h];subst h;exact .inl ⟨rfl,List.mem_cons_self⟩
  .rw[if_neg h];rcases uK r t with⟨a,e⟩|a
   .exact .inl ⟨a,CI _ e⟩
   .exact .inr a
theorem GG{x}{A}(live)(h')(l:List Nat)(r:List Nat)(n)(e:A.h.length=n)(q:(List.range n).all (λi=>decide (l.getD i 0<n)&&decide (r.getD (l.getD i 0) 0=i)&&decide (r.getD i 0<n)&&decide (l.getD (r.getD i 0) 0=i))=true)
  (z:A.bs=0) (y:A.df=[]) (u:A.h.all OG=true) (hh:h'=(List.range n).map λj=>ON (λi=>l.getD i 0) (A.h.getD (r.getD j 0) .dead)) (v:∀t,t∈live->yd (A.tmps t)=true)
  (k:@W ⟨P,H,.loop x,Q⟩ { n:=A.n,bs:=A.bs,rc:=A.rc,tmps:=cN (bU (λt=>yy (λi=>l.getD i 0) (A.tmps t)) live []),h:=h',df:=A.df }):@W ⟨P,H,.loop x,Q⟩ A:=by
 have a:∀i,i<n->(l.getD i 0<n/\r.getD (l.getD i 0) 0=i)/\r.getD i 0<n/\l.getD (r.getD i 0) 0=i:=λi hi=>by
  have:=kC.1 q i (xQ.2 hi);simp only[dQ,decide_eq_true_eq]at this;exact⟨⟨this.1.1.1,this.1.1.2⟩,this.1.2,this.2⟩
 refine e9 (JV (λi=>l.getD i 0) (λi=>r.getD i 0) (by rw[e];exact λi hi=>(a i hi).1) (by rw[e];exact λi hi=>(a i hi).2) z y (kC.1 u) (by rw[e];exact hh) (λt=>?_)) k;rcases uK (T:=λt=>yy (λi=>l.getD i 0) (A.tmps t)) live t with⟨o,C⟩|o
 .exact .inl ⟨o,v t C⟩
 .exact .inr o
end Abs
end Go.Proofs.YtmndpldajflenaaGreatDoor
namespace Go.Proofs.YtmndpldajflenaaGreatDoor
namespace Abs
def wM (q v:PV):Prop:=∀(M:Nat->Prop) (w:World) (u:Value),RepP M w u q->RepP M w u v
theorem wM.rfl'{q}:wM q q:=λ_ _ _ h=>h
theorem xc{P}(N:dI P){H}{f}{fn}{c}{j}{v}{rs}{n}(L:P.funcs[f]?=some fn)(u:fn.body=some c)(C:fn.results.toList=rs)(I:fn.ntmps=n)(hok:cy H fn=true)
  (A:j.length<=n) (hw:wp P H c (iq P rs 0 (λ_ r h=>∃q,pg h r=some q/\wM q v)) (start n .no (j.map .p) [])):af P f j v:=by
 intro M0 w o M K G;have E:dz (Rep M0 ⟨[],[],w⟩) o (j.map .p):=by
  refine⟨by simpa using G.1,λi c F=>?_⟩;simp only[cW,bC]at F;obtain⟨q,z,rfl⟩:=F;exact aC ((G.2 i q z).mono (λ_ _ _=>rfl) (λb u=>by
   rcases u with u|u
   .exact .inl u
   .simp[Own]at u))
 have:=jg N (h:=[]) (R:=λr h=>∃q,pg h r=some q/\wM q v) L u C I hok (by simpa using A) hw M0 [] w o (pZ M K) E;refine⟨this.1,this.2.mono λe w' h=>?_⟩;obtain⟨r,h',m',⟨q,z,y⟩,D,J,l⟩:=h
 cases e with
 |returned v'=>
  cases r with
  |panic v=>cases z
  |ret a=>exact⟨v',rfl,y _ _ _ (qD (S:=⟨m',h',w'⟩) J l z),D.fr⟩
 |panicked O=>
  cases r with
  |panic v=>cases z
  |ret a=>exact l.elim
 |outgrown=>exact l.elim
theorem KM{a c d e f x y}:wM (.tuple [.agg [a,.nilslice,c,d,e,f],x,y]) (.tuple [.agg [a,.slice 4 [] false,c,d,e,f],x,y]):=by
 intro M w u h
 cases h with
 |tuple q j=>
  refine .tuple q λi z hi=>?_
  match i,hi with
  |0,hi=>
   cases hi;have A:=j 0 _ rfl;generalize Array.getD _ 0 undef=v0 at A |-
   cases A with
   |agg q o j=>
    refine .agg q (λz l=>?_) λi z hi=>?_
    .simp only[ce,fD,or_false]at l o;rcases l with rfl|rfl|l
     .exact o _ (.inl rfl)
     .rfl
     .exact o _ (.inr (.inr l))
    .match i,hi with
     |0,hi=>exact j 0 _ hi
     |1,hi=>
      cases hi;have v:=j 1 _ rfl;generalize Array.getD _ 1 undef=v1 at v |-;cases v
      exact .empty (by simp)
     |i+2,hi=>exact j (i+2) _ hi
  |i+1,hi=>exact j (i+1) _ hi
namespace Ch
set_option maxRecDepth 4000
def cT (s:ChShop):ChBooks->Nat->List (List UInt8)->ChBooks×Int
 |b,_,[]=>(b,-1)
 |b,i,l::r=>match eB s b l with
  |.error _=>(b,(i:Int))
  |.ok (b',_,w)=>if w=true then cT s b' (i+1) r else(b',(i:Int))
def dY (s:ChShop) (text:List UInt8):ChBooks×Int×Int:=
 if(aZ s).2.2≠0 then(bS,0,(aZ s).2.2)
 else if(cR text).2≠0 then(bS,0,(cR text).2)
 else((cT s bS 0 (cR text).1).1,(cT s bS 0 (cR text).1).2,0)
def gX:PV:=.agg [.nilslice,.nilslice,.nilslice,.nilslice,.int .i64 0,.int .i64 0]
def kI (s:ChShop) (text:List UInt8):PV:=.tuple [if(dY s text).2.2=0 then(dY s text).1.pv else gX,.int .i64 (dY s text).2.1,.int .i64 (dY s text).2.2]
theorem Sh(s)(a e):ar Tryz.prog 124 [.p s.pv] [a,e] (λr h'=>r=.ret (.tuple [.ptr 3 1 0 0,.p (.int .i64 (aZ s).2.2)])/\h'=[a,e,.row 17 [.p s.pv],Ag s]):=by
 refine au (ag Tryz.func124 rfl) rfl ?_;simp only[go_sem,simprocAttr];refine ae (EU s) rfl ?_;simp only[ah,Ag,go_sem,simprocAttr]
def pn:AObj:=.row 6 [.p gX]
theorem MP{t}(h:(cR t).2=0):(cR t).1.length<=40:=by
 unfold cR at h |-;split at h
 .cases h
 .split at h
  .cases h
  .rename_i e a;rw[if_neg a];exact H3 a
theorem Qw(s)(text)(hl:text.length<=2000000):af Tryz.prog 79 [s.pv,.str (bs text)] (kI s text):=by
 refine xc dh (fn:=Tryz.f79) (n:=58) (rs:=[.cell 4 81,.tmp 5,.tmp 6]) (by kernel_rfl) rfl rfl rfl Wb (oa rfl) ?_;simp only[go_sem,simprocAttr];refine cj (Sh s _ _) (λv h j=>?_) (λv h j=>by cases j.1);obtain⟨I,rfl⟩:=j;cases I;by_cases A:(aZ s).2.2=0;rotate_left
 .have C:((aZ s).2.2 != 0)=true:=by simpa using A
  have y:kI s text=.tuple [gX,.int .i64 0,.int .i64 (aZ s).2.2]:=by
   have:dY s text=(bS,0,(aZ s).2.2):=by rw[dY,if_pos A]
   rw[kI,this];simp only[if_neg A]
  simp only[C,y,gX,go_sem,simprocAttr];exact wM.rfl'
 simp only[A,go_sem,simprocAttr];refine ae (Je text hl) rfl ?_;by_cases j:(cR text).2=0;rotate_left
 .have C:((cR text).2 != 0)=true:=by simpa using j
  have y:kI s text=.tuple [gX,.int .i64 0,.int .i64 (cR text).2]:=by
   have:dY s text=(bS,0,(cR text).2):=by rw[dY,if_neg (by simpa using A),if_pos j]
   rw[kI,this];simp only[if_neg j]
  simp only[dl,C,y,gX,go_sem,simprocAttr];exact wM.rfl'
 have D:dY s text=((cT s bS 0 (cR text).1).1,(cT s bS 0 (cR text).1).2,0):=by rw[dY,if_neg (by simpa using A),if_neg (by simpa using j)]
 have y:kI s text=.tuple [(cT s bS 0 (cR text).1).1.pv,.int .i64 (cT s bS 0 (cR text).1).2,.int .i64 0]:=by
  rw[kI,D];simp only[if_true]
 have L:=MP j;have Z:=yb A;simp only[dl,j,bv,go_sem,simprocAttr];rw[y];generalize (cR text).1=M at L;have S:M.length<1000000000:=by omega
 refine fR [4,7,32,33,34] 3 4 23 _ (fK s [.slice 4 0 0 0,.p .nilslice,.p .nilslice,.p .nilslice]) (de _) (de _) rfl (gv 0 rfl rfl rfl) ?_ ?_ rfl ?_
 .simp only[go_sem,simprocAttr]
 .simp only[Ag,go_sem,simprocAttr]
 simp only[go_sem,simprocAttr];refine fR [4,7,32,33,34] 3 4 23 _ (fK s [.slice 4 0 0 0,.slice 5 0 0 0,.p .nilslice,.p .nilslice]) (de _) (de _) rfl (gv 1 rfl rfl rfl) ?_ ?_ rfl ?_
 .simp only[go_sem,simprocAttr]
 .simp only[fK,go_sem,simprocAttr]
 simp only[go_sem,simprocAttr];refine fR [4,7,32,33,34] 3 3 23 _ (fK s [.slice 4 0 0 0,.slice 5 0 0 0,.slice 6 0 0 0,.p .nilslice]) (de _) (de _) rfl (gv 2 rfl rfl rfl) ?_ ?_ rfl ?_
 .simp only[go_sem,simprocAttr]
 .simp only[fK,go_sem,simprocAttr]
 simp only[go_sem,simprocAttr];refine fR [4,7,32,33,34] 3 2 23 _ (fK s [.slice 4 0 0 0,.slice 5 0 0 0,.slice 6 0 0 0,.slice 7 0 0 0]) (de _) (de _) rfl (gv 3 rfl rfl rfl) ?_ ?_ rfl ?_
 .simp only[go_sem,simprocAttr]
 .simp only[fK,go_sem,simprocAttr]
 simp only[go_sem,simprocAttr];refine GG [4,7,32,33,34] ([.row 17 [.p s.pv],.row 17 [.p s.pv],.row 23 [fK s [.slice 3 0 0 0,.slice 4 0 0 0,.slice 5 0 0 0,.slice 6 0 0 0]],.row 4 [],.row 4 [],.row 3 [],.row 2 [],pn]) [0,7,1,2,3,4,5,6] [0,2,3,4,5,6,7,1] 8 rfl (by decide) rfl rfl (by rfl) (by rfl) (by simp only[ce,go_sem,simprocAttr];rintro t (rfl|rfl|rfl|rfl|rfl)<;>rfl) ?_;have p1:[0,7,1,2,3,4,5,6].getD 1 0=7:=rfl;have p3:[0,7,1,2,3,4,5,6].getD 3 0=2:=rfl;simp only[yy,yz,p1,p3,go_sem,simprocAttr];refine e9 (q9 0) (e9 (q9 1) ?_);simp only[fK,go_sem,simprocAttr]
 refine bg [4,7,32,33] M S (τ:=List PV×ChBooks) (λi rest q=>cT s bS 0 M=cT s q.2 i.length rest/\BkOk s q.2 i.length) (λi q=>[(34,.p (.int .i64 i.length))])
  (λi q=>B7 s q.2 q.1++[pn]) ([],bS) ⟨rfl,OL s⟩ ?_ ?_ ?_
 .simp only[bS,dL,cf,bt,pn,gX,go_sem,simprocAttr]
 .rintro⟨ex,b⟩ ⟨G,_⟩
  dsimp only at G;rw[G,cT];simp only[pn,gX,l7,uU,vP,sf,uV,go_sem,simprocAttr];exact wM.rfl'
 .rintro i l r ⟨ex,b⟩ G ⟨F,N⟩ hx R J
  dsimp only at F N;have U:i.length+1<=40:=by
   have:=congrArg List.length G;simp at this;omega
  have V:=OP s b ex i.length Z N l;have T:=g' (fi s b ex) (args:=[.ptr 2 1 0 0,.p (.str (bs l))]) (by simp only[go_sem,simprocAttr]) (V.mono λr h' j=>⟨B' j,j⟩) [pn];simp only[R,hx,go_sem,simprocAttr];refine cj T (λv h j=>?_) (λv h j=>?_);rotate_left
  .obtain⟨h',_,_,j⟩:=j;unfold nA at j;split at j<;>cases j.1
  obtain⟨h',rfl,_,j⟩:=j;unfold nA at j
  cases u:eB s b l with
  |error e=>
   rw[u]at j;obtain⟨I,rfl⟩:=j;cases I;have z:cT s b i.length (l::r)=(b,(i.length:Int)):=by rw[cT,u]
   rw[F,z];simp only[pn,gX,l7,uU,vP,sf,uV,go_sem,simprocAttr]
   exact wM.rfl'
  |ok q=>
   obtain⟨b',a,w⟩:=q;rw[u]at j;obtain⟨I,O⟩:=j;cases I;have K:BkOk s b' (i.length+1):=by
    have:=GS (s:=s) (q:=(b,[],[])) (l:=l) Z N U;rw[er]at this;simp only[u]at this;exact this
   rcases O with⟨ex',rfl⟩|⟨h0,Y,X,rfl⟩
   .cases w
    .have z:cT s b i.length (l::r)=(b',(i.length:Int)):=by rw[cT,u];rfl
     rw[F,z];simp only[pn,gX,l7,uU,vP,sf,uV,go_sem,simprocAttr];exact wM.rfl'
    .have z:cT s b i.length (l::r)=cT s b' (i.length+1) r:=by rw[cT,u];rfl
     simp only[go_sem,simprocAttr];refine aD G (ex',b') ⟨by rw[F,z];simp,by simpa using K⟩ ?_;simp only[J,pn,gX,go_sem,simprocAttr]
   .cases w
    .have z:cT s b i.length (l::r)=(b',(i.length:Int)):=by rw[cT,u];rfl
     rw[F,z];simp only[pn,gX,uU,sf,uV,go_sem,simprocAttr];rw[h0];exact KM
    .have z:cT s b i.length (l::r)=cT s b' (i.length+1) r:=by rw[cT,u];rfl
     simp only[go_sem,simprocAttr];refine xG [4,7,32,33,34] 4 2 4 23 _ (.agg ([.slice 3 b'.lots.length 0 b'.lots.length,.slice 4 0 0 0,.slice 5 b'.tests.length 0 b'.tests.length,.slice 6 b'.boxes.length 0 b'.boxes.length,.p (.int .i64 b'.poured),.p (.int .i64 b'.lost)]++s.cells.map .p)) (de _) (de _) (by show 4<8;decide) (by decide) rfl (gv 1 rfl rfl rfl) ?_ ?_ rfl ?_
     .simp only[qz,rL,qy,pf,go_sem,simprocAttr]
     .intro o E;change o∈vo s b' Y X++[pn]at E;rcases ck.1 E with E|E
      .exact HQ s b' Y X o E
      .rw[dT.1 E,pn,gX];intro x hx;rw[dT.1 hx];trivial
     simp only[go_sem,simprocAttr];refine aD G ([],b') ⟨by rw[F,z];simp,by simpa using K⟩ ?_;simp only[J,h0,cf,dL,bt,pn,gX,go_sem,simprocAttr]
end Ch
set_option maxRecDepth 100000
theorem MN(s:HrShop)(x:List UInt8):(aN s x).1.marks.length<1000000000:=by
 by_cases h:(aN s x).2=0
 .have:=(gn (Kh h).2.1).1.len;omega
 .rw[MO h];simp[dc]
namespace Ch
structure BkIn (b:ChBooks):Prop where
 reads:∀x,x∈b.lots->x.readings.length<1000000000
 marks:∀t,t∈b.tests->t.marks.length<1000000000
theorem Tf{s}{b b'}{c}{a}(e:BkIn b)(h:aR s b c=.ok (b',a)):BkIn b':=by
 have j:∀(i:Nat) (x y:ChLot),b.lots[i]?=some x->y.readings=x.readings->∀z,z∈b.lots.set i y->z.readings.length<1000000000:=by
  intro i x y hx v z q;rcases rZ q with q|rfl
  .exact e.reads z q
  .rw[v];exact e.reads x (aG hx)
 cases c with
 |lot name kind grams rs=>
  simp only[aR]at h;split at h
  .cases h
  split at h
  .cases h
  split at h
  .cases h
  split at h
  .cases h
  rename_i hw;split at h
  .cases h
  have o:(Wx.bq s.wax rs (aq (λx:WxKind=>x.name==bs kind) s.wax.kinds 0)).2.2=0:=Classical.byContradiction hw;have u:rs.length<1000000000:=by
   unfold Wx.bq at o;split at o
   .rename_i C;obtain⟨A,F,_⟩:=Wx.Bd C;have:=A.props;omega
   .contradiction
  cases h;refine⟨λx hx=>?_,e.marks⟩;rcases ck.1 hx with hx|hx
  .exact e.reads x hx
  .rw[dT.1 hx];exact u
 |batch name colour lot grams=>
  simp only[aR]at h;split at h
  .cases h
  split at h
  .cases h
  split at h
  .cases h
  split at h
  .cases h
  split at h
  .cases h
  rename_i x hx;split at h
  .cases h
  split at h
  .cases h
  cases h
  exact⟨j _ x _ hx rfl,e.marks⟩
 |drop name=>
  simp only[aR]at h;split at h
  .cases h
  split at h
  .cases h
  split at h
  .cases h
  rename_i x hx;cases h
  exact⟨j _ x _ hx rfl,e.marks⟩
 |plan c=>
  simp only[aR]at h;split at h
  .cases h
  .cases h;exact e
 |pour c=>
  simp only[aR]at h;split at h
  .cases h
  .cases h;exact⟨e.reads,e.marks⟩
 |test text=>
  simp only[aR]at h;split at h
  .cases h
  split at h
  .cases h
  cases h;refine⟨e.reads,λt l=>?_⟩;rcases ck.1 l with l|l
  .exact e.marks t l
  .rw[dT.1 l];exact MN _ _
 |promise kind=>
  simp only[aR]at h;split at h
  .cases h
  .cases h;exact e
 |box kind hours=>
  simp only[aR]at h;split at h
  .cases h
  split at h
  .cases h
  split at h
  .cases h
  cases h;exact⟨e.reads,e.marks⟩
 |look=>
  simp only[aR]at h
  cases h;exact e
 |wick kind E D c1 G=>
  simp only[aR]at h;split at h
  .cases h
  split at h
  .cases h
  split at h
  .cases h
  split at h
  .cases h
  cases h;exact e
 |blend E D c1=>
  simp only[aR]at h;split at h
  .cases h
  cases h;exact e
 |stock=>
  simp only[aR]at h;cases h;exact e
theorem P0{s}{b}{l}{q}(a:BkIn b)(h:eB s b l=.ok q):BkIn q.1:=by
 unfold eB at h;split at h
 .cases h
 .split at h
  .cases h
  .rename_i e;cases h;exact Tf a e
theorem Hm{s}:∀(d:List (List UInt8)) (q),BkIn q.1->BkIn (d.foldl (er s) q).1
 |[],q,h=>h
 |l::d,q,h=>by
  refine Hm d (er s q l) ?_;unfold er;split
  .exact h
  .rename_i a;exact P0 h a
theorem RO(s)(d):BkIn (bx s d).1:=Hm d _ ⟨λx hx=>(by cases hx),λx hx=>(by cases hx)⟩
end Ch
end Abs
end Go.Proofs.YtmndpldajflenaaGreatDoor
