/- CONTRACTS of functions and laws. No conditions but those in the heads. -/
import Derived.Test.YtgafommgcfhkkaaGreatDoorStrBldX
set_option linter.all false
set_option maxHeartbeats 2000000
open Go.Proofs.Tryz renaming prog->TP
open Go.Proofs.Tryz
open Go.IntKind (i64)
namespace Go.Proofs.YtgafommgcfhkkaaGreatDoor
namespace Abs
def qO{c:UInt8}:∀{a:List UInt8} (b:List UInt8),c∉a->aP c (a++c::b)=(a,some b)
 |[],b,_=>by simp[aP]
 |x::a,b,h=>by
  have hx:¬x=c:=λe=>h (by simp[e]);have i:=qO (a:=a) b (λj=>h (wd _ j));grind[aP]
def LX{c:UInt8}:∀{a:List UInt8},c∉a->aP c a=(a,none)
 |[],_=>rfl
 |x::a,h=>by
  have hx:¬x=c:=λe=>h (by simp[e]);have i:=LX (a:=a) (λj=>h (wd _ j));grind[aP]
def nh{c:UInt8}{a:List UInt8}(b:List UInt8)(h:c∉a):aA c (a++c::b)=a::aA c b:=by
 have e:=qO b h;rw[mH (r:=b) (by rw[e]),e]
def x8{c:UInt8}{a:List UInt8}(h:c∉a):aA c a=[a]:=mI (by rw[LX h])
def MH(c:UInt8)(l:List UInt8):rf c (l++[c])=l:=by simp[rf]
def tH:∀(l:List UInt8) (e:Int),eB l e=true->∀c,c∈l->c.toNat=45\/(97<=c.toNat/\c.toNat<=122)
 |[],_,_,c,h=>by cases h
 |x::l,e,h,c,i=>by
  rw[eB]at h;split at h
  .cases h
  .rename_i j;rcases br.1 i with rfl|i
   .simp[sj]at j;omega
   .exact tH l _ h c i
def zS{b:ByteArray}(h:nameOk b=true):(10:UInt8)∉b.data.toList/\(32:UInt8)∉b.data.toList:=by
 unfold nameOk at h;rw[eI]at h;have:=tH _ _ h.1;grind
def rV(n:Int):(10:UInt8)∉aX n/\(32:UInt8)∉aX n:=by
 have:=xi n.toNat;grind[aX]
def mW (m:HrMark):List UInt8:=aX m.minute++32::aX m.weight
def n7:List HrMark->List UInt8
 |[]=>[]
 |[m]=>mW m
 |m::q::r=>mW m++10::n7 (q::r)
def Fq(m:HrMark):gu m=mW m++[10]:=by simp[gu,mW,sp,nl]
def zK(m:HrMark):(10:UInt8)∉mW m:=by
 have i:=rV m.minute;have e:=rV m.weight;grind[mW]
def FH:∀(l:List HrMark),l≠[]->(l.map gu).flatten=n7 l++[10]
 |[],h=>absurd rfl h
 |[m],_=>by simp[n7,Fq]
 |m::q::r,_=>by
  have e:=FH (q::r) (by simp);rw[bf,DD,e,Fq,n7];simp
def Cd:∀(l:List HrMark),l≠[]->aA 10 (n7 l)=l.map mW
 |[],h=>absurd rfl h
 |[m],_=>by rw[n7,x8 (zK m)];rfl
 |m::q::r,_=>by
  have e:=Cd (q::r) (by simp);rw[n7,nh _ (zK m),e];rfl
def xD:∀(l:List HrMark),l≠[]->aA 10 (n7 l++[10])=l.map mW++[[]]
 |[],h=>absurd rfl h
 |[m],_=>by rw[n7,nh [] (zK m)];rfl
 |m::q::r,_=>by
  have e:=xD (q::r) (by simp);rw[n7,dD,ga,nh _ (zK m),e];rfl
def VU(m:HrMark):aP 32 (mW m)=(aX m.minute,some (aX m.weight)):=qO _ (rV _).2
def O7(m:HrMark):aA 32 (mW m)=[aX m.minute,aX m.weight]:=by
 rw[mW,nh _ (rV _).2,x8 (rV _).2]
def Kx{m:HrMark}(h:0<=m.minute/\m.minute<=1000000/\0<=m.weight/\m.weight<=10000000):eM (mW m)=some m:=by
 simp only[eM,VU,wM h.1 (by omega),wM h.2.2.1 h.2.2.2]
def Am:∀(l e:List HrMark),(∀m,m∈l->0<=m.minute/\m.minute<=1000000/\0<=m.weight/\m.weight<=10000000)->fq e (l.map mW)=some (e++l)
 |[],e,_=>by simp[fq]
 |m::l,e,h=>by
  rw[bf,fq,Kx (h m (by simp))];dsimp only;rw[Am l _ λq i=>h q (by simp[i])];simp
def Bk{n:Int}(e:0<=n)(l:n<=10000000):lv (aX n)=n:=by
 obtain⟨m,rfl⟩:=na e;have u:=lC e l;have q:(aX (m:Int)).length≠0:=λh=>qf (m:Int).toNat (pJ.1 h);have i:aq ((aX (m:Int)).length:Int) 1 8=true:=by simp[aq];omega
 have j:Lib.decFrom 0 (aX (m:Int))=some m:=by unfold aX;rw[gX];exact u2 m
 rw[lv,i,j];rfl
def CI(j:ByteArray):∀(l:List HrKind) (i:Nat) (e:Int),(∀k,k∈l->¬k.name=j)->jQ j l i e=e
 |[],_,_,_=>rfl
 |k::r,i,e,h=>by
  have v:(k.name==j)=false:=RE.2 λy=>h k (by simp) ((qm _ _).1 y);rw[jQ,v];exact CI j r _ _ λq u=>h q (by simp[u])
def CJ(j:ByteArray):∀(a:List HrKind) (k:HrKind) (r:List HrKind) (i:Nat) (e:Int),k.name=j->(∀q,q∈r->¬q.name=j)->jQ j (a++k::r) i e=((i+a.length:Nat):Int)
 |[],k,r,i,e,u,l=>by
  have v:(k.name==j)=true:=(qm _ _).2 u;rw[jb,jQ,v,CI j r _ _ l]
  simp
 |x::a,k,r,i,e,u,l=>by
  rw[ga,jQ,CJ j a k r _ _ u l];simp;omega
def LN{α:Type}(p:α->Bool):∀(a:List α) (k:α) (r:List α) (i:Nat),p k=true->(∀q,q∈a->p q=false)->an p (a++k::r) i=((i+a.length:Nat):Int)
 |[],k,r,i,e,_=>by simp[an,e]
 |x::a,k,r,i,e,j=>by
  rw[ga,an,j x (by simp)];have:=LN p a k r (i+1) e λq l=>j q (by simp[l]);grind
def Nc{s:HrShop}(u:(hrCheck s).2.2=0){n:Nat}{k:HrKind}(j:s.kinds[n]?=some k) :
  s.kinds=s.kinds.take n++k::s.kinds.drop (n+1)/\(s.kinds.take n).length=n/\(∀q,q∈s.kinds.take n->¬q.name=k.name)/\∀q,q∈s.kinds.drop (n+1)->¬q.name=k.name:=by
 have y:=(aC.1 j).1;have v:=vY y;rw[(aC.1 j).2]at v;refine⟨by rw[<-v,ja],by rw[wg];omega,λq l e=>?_,λq l e=>?_⟩
 .obtain⟨i,hi⟩:=fN l;rw[om]at hi;split at hi
  .rename_i z;have:=yy u hi j e;omega
  .cases hi
 .obtain⟨i,hi⟩:=fN l;rw[sc]at hi;have:=yy u hi j e;omega
def Ck(s:HrShop):∀(l:List HrMark) (k e:Int) (i:List HrMark),(∀m,m∈l->0<=m.minute/\m.minute<=1000000/\0<=m.weight/\m.weight<=10000000) ->
  oQ s false ⟨k,e,i⟩ (l.map mW++[[]])=⟨k,e,i++l⟩
 |[],k,e,i,_=>by simp[oQ]
 |m::l,k,e,i,h=>by
  have j:=h m (by simp);have y:=Ck s l k e (i++[m]) λq z=>h q (by simp[z]);have u:jA s false ⟨k,e,i⟩ (mW m)=⟨k,e,i++[m]⟩:=by
   simp only[jA,O7,Bk j.1 (show m.minute<=10000000 by omega),Bk j.2.2.1 j.2.2.2]
  rw[bf,ga]
  cases v:l.map mW++[[]] with
  |nil=>simp at v
  |cons a b=>
   grind[oQ,mW]
def Cs{s:HrShop}{t:HrTest}(S:(hrCheck s).2.2=0)(V:bm s.kinds.length t=0):pU s (gQ s t)=some t/\ox s (gQ s t)=t:=by
 obtain⟨hok,k0,k1⟩:=eY V;obtain⟨n,y⟩:=na k0;have G:n<s.kinds.length:=by omega
 obtain⟨k,z⟩:∃k,s.kinds[n]?=some k:=⟨_,bL G⟩
 have K:=pm S (aB z);obtain⟨C,A⟩:=zS K.name;obtain⟨N,M⟩:=rV t.error;have i:t.marks≠[]:=by intro h;have:=hok.two;rw[h]at this;simp at this
 have l:gQ s t=([116,101,115,116]++32::(k.name.data.toList++32::aX t.error))++10::(n7 t.marks++[10]):=by
  rw[gQ,y,gX,z,i8,gY,FH _ i];simp[j1,ol,sp,nl]
 have u:(10:UInt8)∉([116,101,115,116]++32::(k.name.data.toList++32::aX t.error)):=by simp[C,N]
 have e:aP 10 (gQ s t)=([116,101,115,116]++32::(k.name.data.toList++32::aX t.error),some (n7 t.marks++[10])):=by rw[l];exact qO _ u
 have j:aA 32 ([116,101,115,116]++32::(k.name.data.toList++32::aX t.error))=[[116,101,115,116],k.name.data.toList,aX t.error]:=by
  rw[nh _ (by decide),nh _ A,x8 M]
 obtain⟨R,O,U,T⟩:=Nc S z;have L:s5 s.kinds (bs k.name.data.toList)=t.kind:=by
  rw[r6,s5,R,LN (λq=>q.name==k.name) _ k _ 0 ((qm _ _).2 rfl) (λq X=>RE.2 λY=>U q X ((qm _ _).1 Y)),O,y];simp
 have J:jQ (bs k.name.data.toList) s.kinds 0 (-1)=t.kind:=by
  rw[r6,R,CJ _ _ k _ 0 _ rfl T,O,y];simp
 have I:=wM hok.err.1 (by have:=hok.err.2;omega);have F:=Bk hok.err.1 (by have:=hok.err.2;omega);refine⟨?_,?_⟩
 .have hw:rA (gQ s t)=[[116,101,115,116],k.name.data.toList,aX t.error]:=by rw[rA,e];exact j
  have v:wy (gQ s t)=n7 t.marks:=by rw[wy,e];exact MH _ _
  rw[pU,hw];dsimp only;rw[I,v,Cd _ i,Am _ _ hok.all,L];rfl
 .have E:aA 10 (gQ s t)=([116,101,115,116]++32::(k.name.data.toList++32::aX t.error))::(t.marks.map mW++[[]]):=by
   rw[l,nh _ u,xD _ i]
  have D:jA s true ⟨-1,0,[]⟩ ([116,101,115,116]++32::(k.name.data.toList++32::aX t.error))=⟨t.kind,t.error,[]⟩:=by
   simp only[jA,j,J,F]
  rw[ox,E]
  cases v:t.marks.map mW++[[]] with
  |nil=>simp at v
  |cons a b=>
   rw[oQ,D,<-v,Ck s _ _ _ _ hok.all];simp
def yM{s:HrShop}{all:List UInt8}{t:HrTest}:jH s all t=true↔bm s.kinds.length t=0/\gQ s t=all:=by simp[jH]
def H3(s:HrShop):bO s []=(hrCheck s).2.2:=by
 unfold bO;grind[hrCheck,cR]
def ym(s:HrShop)(all:List UInt8):aI s all=kp s all:=by
 rw[aI,kp,H3];split
 .rename_i q;split
  .rfl
  .cases i:jH s all (ox s all) with
   |true=>
    obtain⟨l,j⟩:=yM.1 i;have:=(Cs q l).1;grind
   |false=>
    rw[if_neg (by simp)]
    cases u:pU s all with
    |none=>rfl
    |some t=>
     dsimp only;split
     .rename_i e;obtain⟨l,j⟩:=yM.1 e;have:=(Cs q l).2;grind
     .rfl
 .rfl
def Pk{s:HrShop}{all:List UInt8}(h:(aI s all).2=0):(hrCheck s).2.2=0/\bm s.kinds.length (aI s all).1=0/\gQ s (aI s all).1=all:=by
 rw[ym]at h |-;unfold kp at h |-;split at h
 .rename_i i;split at h
  .cases h
  .rename_i j;split at h
   .rename_i e;rw[if_pos i,if_neg j,if_pos e];exact⟨i,yM.1 e⟩
   .cases h
 omega
def R9{s:HrShop}{all:List UInt8}(h:(aI s all).2≠0):(aI s all).1=cQ:=by
 grind[aI,cQ]
def qN:∀l:List HrMark,(∀m,m∈l->(gu m).length<=18)->(l.map gu).flatten.length<=18*l.length
 |[],_=>by simp
 |m::l,h=>by
  have j:=h m (by simp);have i:=qN l λq e=>h q (by simp[e]);grind
set_option maxRecDepth 100000
def Fc(t:HrTest):PL (dn t) t.pv:=by
 cases t with
 |mk k e i=>
  cases i with
  |nil=>exact Lw k e
  |cons m i=>exact .refl _
def NZ(s:HrShop)(all:List UInt8):af TP 225 [s.pv,.str (bs all)] (.tuple [(aI s all).1.pv,.int .i64 (aI s all).2]):=
 (L9 s all).lessD (PL.tupleL ⟨Fc _,.refl _,trivial⟩)
def S9(s:HrShop)(all:List UInt8):af TP 196 [s.pv,.str (bs all)] (.tuple [(aI s all).1.pv,.int .i64 (aI s all).2]):=by
 rw[ym];exact(QL s all).lessD (PL.tupleL ⟨Fc _,.refl _,trivial⟩)
def Wg(a c:List Int)(E D:Bool)(A:a.length<1000000000):af TP 32 [.slice 1 (a.map ay) E,.slice 1 (c.map ay) D] (.bool (a==c)):=by
 refine ae (ag func32 rfl) rfl (zm ?_);refine aT (λe=>?_) (λe=>?_)<;>refine zn e ?_
 .grind
 have z:a.length=c.length:=by simp[bne]at e;omega
 refine eZ [0,1] a A (τ:=Unit) (λd_ rest _=>c.take d_.length=d_) (λd_ _=>[(5,.p (.int .i64 d_.length))]) () (by simp) ?_ ?_ ?_
 .simp only[go_sem,simprocAttr]<;>simp
 .intro _ l;rw[dt (by omega)]at l;subst l;refine zm ?_;simp
 .intro d_ x rest _ C l hx v u;have i:(d_.length:Int)<(c.length:Int):=by omega
  obtain⟨y,j⟩:∃y,c[d_.length]?=some y:=⟨_,bL (by omega)⟩
  refine s_ v i hx j ?_;refine aT (λe=>?_) (λe=>?_)<;>refine zn e ?_
  .grind
  .have q:x=y:=by simpa using e
   refine am C () (by rw[ak,aK,wb,l,j,q];rfl) ?_;simp[u,go_sem]
def V5(a b):af TP 151 [.int .i64 a,.int .i64 b] (.agg [.int .i64 a,.int .i64 b]):=by
 refine ae (ag func151 rfl) rfl ?_;simp[go_sem]
def GW:HrShop:=⟨[⟨⟨#[97,108,116,97,114]⟩,⟨100000,101000⟩,1000⟩],[⟨⟨#[99,104,117,114,99,104]⟩,⟨1200,2000⟩,⟨90000,110000⟩⟩,⟨⟨#[108,97,109,112]⟩,⟨1400,2000⟩,⟨0,10000000⟩⟩],100⟩
def dZ:∀l:List PV,vT l l
 |[]=>trivial
 |x::l=>⟨.refl x,dZ l⟩
def zaw:af TP 101 [] GW.pv:=by
 refine af.lessD (q:=.agg [.slice 4 (GW.kinds.map HrKind.pv) true,.slice 5 (GW.rules.map HrRule.pv) true,.int .i64 100]) ?_ (PL.aggL rfl ⟨PL.sliceL rfl (dZ _),PL.sliceL rfl (dZ _),.refl _,trivial⟩);refine ae (ag func101 rfl) rfl (zm ?_);repeat' (refine aa (V5 _ _) rfl ?_;simp[go_sem])
 exact⟨rfl,rfl⟩
def Gl{x:HrK}(hx:HrKOk x):0<=x.promise/\x.promise<=16666/\x.promise*x.rates.hi<=x.k.weight.lo-x.k.rest/\(x.promise<16666->x.k.weight.lo-x.k.rest<x.rates.hi*(x.promise+1)):=by
 have j:=hx.k;have C:=j.lo;have A:=j.rest;have z:=j.less;have y:=hx.pos;have v:=hx.hi
 have l:=Frac.down_le (f:=⟨x.least.top,x.least.below*60⟩) (show (0:Int)<x.rates.hi*60 by omega);simp only[HrK.least]at l;have e:∀n:Int,n*(x.rates.hi*60)=n*x.rates.hi*60:=λn=>(v7 _ _ _).symm;have i:∀n:Int,n<=Frac.down ⟨60*(x.k.weight.lo-x.k.rest),x.rates.hi*60⟩↔n*x.rates.hi<=x.k.weight.lo-x.k.rest:=by
  intro n;rw[l n,e n];omega
 rw[HrK.promise,HrK.least];dsimp only;generalize u:Frac.down ⟨60*(x.k.weight.lo-x.k.rest),x.rates.hi*60⟩=D at i |-;have k0:0<=D:=(i 0).2 (by omega);have k1:=(i D).1 (lP _);have q:¬(D+1)*x.rates.hi<=x.k.weight.lo-x.k.rest:=λh=>by grind
 split
 .grind
 grind
def XY (l:List HrTest) (k w r:Int):PV:=.agg [.slice 3 (l.map HrTest.pv) false,.int .u8 k,.int .u32 w,.int .u32 r]
attribute [go_sem] XY
set_option maxRecDepth 4000
def Qr{f g:Frac}(i:0<f.below)(e:0<g.below)(h:f.le g):f.down<=g.down:=by
 refine(Frac.down_le e _).2 ?_;have l:f.down*f.below<=f.top:=(Frac.down_le i _).1 (lP _);have j:Frac.le ⟨f.down,1⟩ f:=(Frac.int_le _ _).2 l;have:=Frac.le_trans Int.one_pos i e j h;exact(Frac.int_le _ _).1 this
def UN{f g:Frac}(i:0<f.below)(e:0<g.below)(h:f.le g):f.up<=g.up:=by
 refine(Frac.up_le i _).2 ?_;have l:g.top<=g.up*g.below:=(Frac.up_le e _).1 (lP _);have j:Frac.le g ⟨g.up,1⟩:=(Frac.le_int _ _).2 l;have:=Frac.le_trans i e Int.one_pos h j;exact(Frac.le_int _ _).1 this
def Sl{a b:Int}(h:a<=b):nC a<=nC b:=by grind[nC]
def L6(a b)(l:0<b)(u:-1000000000000000000<=a)(q:a<=1000000000000000000):af TP 330 [.int .i64 a,.int .i64 b] (.int .i64 (a / b)):=by
 refine ae (ag func330 rfl) rfl ?_;have i:¬b=0:=by omega
 have z:=kO l u q (by omega);have e:=sw a b l;have y:i64.wrap (a.tdiv b)=a.tdiv b:=by
  split at e
  .exact ah
  .exact ah
 refine zo i y ?_;cases j:decide (a.tmod b<0)
 .rw[if_neg (by simpa using j)]at e;simp[e,go_sem]
 .rw[if_pos (by simpa using j)]at e;have v:i64.wrap (a.tdiv b-1)=a.tdiv b-1:=ah;simp[e,v,go_sem]
def Uo(a b)(e:0<b)(u:-1000000000000000000<=a)(q:a<=1000000000000000000):af TP 331 [.int .i64 a,.int .i64 b] (.int .i64 (-(-a / b))):=by
 refine ae (ag func331 rfl) rfl ?_;have j:i64.wrap (-a)=-a:=ah;have l:=kO (a:=-a) (B:=1000000000000000000) e (by omega) (by omega) (by omega);have i:i64.wrap (-(-a / b))=-(-a / b):=ah;refine zn j ?_;refine aa (L6 (-a) b e (by omega) (by omega)) rfl ?_;simp[i,go_sem]
def Fp (e:Int) (p:HrMark×HrMark):Int:=(jI e p.1 p.2).1.down
def FA (e:Int) (p:HrMark×HrMark):Int:=nC (jI e p.1 p.2).2.up
def fF (e:Int) (r:Span) (p:HrMark×HrMark):Span:=⟨if r.lo<Fp e p then Fp e p else r.lo,if FA e p<r.hi then FA e p else r.hi⟩
def qh (t:HrTest):Span:=(fT t.marks).foldl (fF t.error) ⟨0,601200000⟩
def AA(e):∀(l:List (HrMark×HrMark)) (r),r.lo<=(l.foldl (fF e) r).lo/\(l.foldl (fF e) r).hi<=r.hi/\(∀p,p∈l->Fp e p<=(l.foldl (fF e) r).lo/\(l.foldl (fF e) r).hi<=FA e p) /\
  ((l.foldl (fF e) r).lo=r.lo\/∃p,p∈l/\(l.foldl (fF e) r).lo=Fp e p)/\((l.foldl (fF e) r).hi=r.hi\/∃p,p∈l/\(l.foldl (fF e) r).hi=FA e p)
 |[],r=>⟨lP _,lP _,λp i=>(by cases i),.inl rfl,.inl rfl⟩
 |x::l,r=>by
  obtain⟨A,z,y,q,j⟩:=AA e l (fF e r x);grind[fF,Fp,FA]
def Id(x):x<=nC x/\0<=nC x/\(nC x=x\/nC x=0):=by grind[nC]
def Tl{t}(hok:TestOk t):qh t=(cC t).1:=by
 obtain⟨⟨⟨J,L,G⟩,b1⟩,⟨I,K,F⟩,b2⟩:=wD hok;have y:=nv hok;obtain⟨N,M,z,u,q⟩:=AA t.error (fT t.marks) ⟨0,601200000⟩;have v:=pq hok;have U:qh t=(fT t.marks).foldl (fF t.error) ⟨0,601200000⟩:=rfl;rw[<-U]at N M z u q;have S:(cC t).1=⟨nC (dR t).1.down,nC (dR t).2.up⟩:=rfl;rw[S]at v |-;dsimp only at v N M u q;have i:∀p,p∈fT t.marks->jI t.error p.1 p.2∈fU t:=λp e=>(lK t _).2 ⟨p,e,rfl⟩;obtain⟨E,C,Z⟩:=(lK t J).1 L;obtain⟨D,A,Y⟩:=(lK t I).1 K;have P1:=y J L;have P2:=y I K;have c1:Fp t.error E=(dR t).1.down:=by rw[<-G,Z];rfl
 have c2:FA t.error D=nC (dR t).2.up:=by rw[<-F,Y];rfl
 have X:=(z E C).1;have V:=(z D A).2;rw[c1]at X;rw[c2]at V;have R:∀p,p∈fT t.marks->Fp t.error p<=(dR t).1.down:=λp e=>by
  have:=y _ (i p e);exact Qr this.2.2.1 (by rw[<-G];exact P1.2.2.1) (b1 _ (i p e))
 have O:∀p,p∈fT t.marks->nC (dR t).2.up<=FA t.error p:=λp e=>by
  have:=y _ (i p e);exact Sl (UN (by rw[<-F];exact P2.2.2.2) this.2.2.2 (b2 _ (i p e)))
 have s1:=Id (dR t).1.down;have j:(qh t).lo=nC (dR t).1.down:=by
  rcases u with u|⟨p,e,u⟩
  .omega
  .grind
 have l:(qh t).hi=nC (dR t).2.up:=by
  rcases q with q|⟨p,e,q⟩
  .omega
  .grind
 cases T:qh t with
 |mk a b=>
  grind
def Jb(t)(hok:TestOk t):af TP 266 [t.pv] (cC t).1.pv:=by
 rw[<-Tl hok];have hl:=hok.len;have u:=hok.all;have he:=hok.err;have j:=hok.sorted;generalize i:t.marks=m at hl u j;have A:qh t=(fT m).foldl (fF t.error) ⟨0,601200000⟩:=by rw[qh,i]
 refine ae (ag func266 rfl) rfl (zn i ?_)
 refine dl [1,2,3,4] (σ:=List HrMark×List HrMark×Span) (λq=>m=q.1++q.2.1/\qh t=(fT q.2.1).foldl (fF t.error) q.2.2/\(0<=q.2.2.lo/\q.2.2.lo<=1000000000/\0<=q.2.2.hi/\q.2.2.hi<=1000000000)) (λq=>q.2.1.length)
  (λq=>[(5,.p (.int .i64 q.1.length))]) (λq=>[.row 3 [.p t.pv],.row 2 [.p (.agg [.int .i64 0,.int .i64 0])],.row 2 [.p q.2.2.pv]]) ([],m,⟨0,601200000⟩) ⟨rfl,A,lP 0,(by decide:(0:Int)<=1000000000),(by decide:(0:Int)<=601200000),(by decide:(601200000:Int)<=1000000000)⟩ ?_ ?_
 .simp[i,bS,Span.pv,go_sem]
 rintro⟨E,F,o1⟩ ⟨D,I,X⟩
 dsimp only at D I X
 cases F with
 |nil=>
  have v:¬((E.length:Int)<(m.length:Int)):=by rw[D];simp
  rw[fT,List.foldl_nil]at I
  simp[i,v,decide_false,I,Span.pv,go_sem]
 |cons a F=>
 obtain⟨S,l⟩:=ca D;have K:i64.wrap ((E.length:Int)+1)=(((E++[a]).length:Nat):Int):=aO (by omega) (by simp[ai];omega) (by simp);have ha:=u a (by rw[D];simp);refine s_ i l decide_true K ?_;rw[fT,vW]at I
 refine dl [1,2,3,4,5] (σ:=List HrMark×List HrMark×Span) (λq=>m=q.1++q.2.1/\(E++[a]) <+: q.1/\qh t=(fT F).foldl (fF t.error) ((q.2.1.map λy=>(a,y)).foldl (fF t.error) q.2.2)/\(0<=q.2.2.lo/\q.2.2.lo<=1000000000/\0<=q.2.2.hi/\q.2.2.hi<=1000000000)) (λq=>q.2.1.length)
  (λq=>[(6,.p (.int .i64 q.1.length))]) (λq=>[.row 3 [.p t.pv],.row 2 [.p (.agg [.int .i64 0,.int .i64 0])],.row 2 [.p q.2.2.pv]]) (E++[a],F,o1) ⟨by rw[D];simp,List.prefix_refl _,I,X⟩ ?_ ?_
 .simp[i,Span.pv,go_sem]
 rintro⟨M,N,e⟩ ⟨C,O,G,V⟩
 dsimp only at C O G V
 cases N with
 |nil=>
  have v:¬((M.length:Int)<(m.length:Int)):=by rw[C];simp
  rw[bx,List.foldl_nil]at G;refine zp i v decide_false ?_;refine aF (E++[a],F,e) ⟨by rw[D];simp,G,V⟩ (dc _) ?_
  simp[i,K,go_sem]
 |cons b N=>
 obtain⟨R,L⟩:=ca C;have T:i64.wrap ((M.length:Int)+1)=(((M++[b]).length:Nat):Int):=aO (by omega) (by simp[ai];omega) (by simp);have hb:=u b (by rw[C];simp);have a3:a.minute<b.minute:=by
  obtain⟨z,hz⟩:=O;rw[C,<-hz]at j;simp only[dD,ga,jb,List.pairwise_append,List.pairwise_cons]at j;exact j.2.1.1 b (by simp)
 rw[bf,pD]at G;have w1:i64.wrap (a.weight-b.weight)=a.weight-b.weight:=ah;have w2:i64.wrap (b.minute-a.minute)=b.minute-a.minute:=ah;have U:i64.wrap (2*t.error)=2*t.error:=ah;have w4:i64.wrap (a.weight-b.weight-2*t.error)=a.weight-b.weight-2*t.error:=ah;have w5:i64.wrap (60*(a.weight-b.weight-2*t.error))=60*(a.weight-b.weight-2*t.error):=ah;have Z:i64.wrap (a.weight-b.weight+2*t.error)=a.weight-b.weight+2*t.error:=ah;have Y:i64.wrap (60*(a.weight-b.weight+2*t.error))=60*(a.weight-b.weight+2*t.error):=ah;have a1:=kO (a:=60*(a.weight-b.weight-2*t.error)) (b:=b.minute-a.minute) (B:=1000000000) (by omega) (by omega) (by omega) (by omega);have a0:=kO (a:=-(60*(a.weight-b.weight+2*t.error))) (b:=b.minute-a.minute) (B:=1000000000) (by omega) (by omega) (by omega) (by omega)
 have J:fF t.error e (a,b)=⟨if e.lo<60*(a.weight-b.weight-2*t.error) / (b.minute-a.minute) then 60*(a.weight-b.weight-2*t.error) / (b.minute-a.minute) else e.lo,
   if nC (-(-(60*(a.weight-b.weight+2*t.error)) / (b.minute-a.minute)))<e.hi then nC (-(-(60*(a.weight-b.weight+2*t.error)) / (b.minute-a.minute))) else e.hi⟩:=rfl
 have a2:=Id (-(-(60*(a.weight-b.weight+2*t.error)) / (b.minute-a.minute)));simp only[i,L,l,decide_true,S,R,w1,w2,U,w4,w5,Span.pv,go_sem,simprocAttr];refine aj (L6 _ _ (by omega) (by omega) (by omega)) rfl (zp U Z Y ?_);refine aj (Uo _ _ (by omega) (by omega) (by omega)) rfl (zm ?_);refine aF (M++[b],N,fF t.error e (a,b)) ⟨by rw[C];simp,O.trans (List.prefix_append _ _),G,?_⟩ (dc _) ?_
 .grind
 rw[J];simp only[i,T,Span.pv,nC,go_sem,simprocAttr];rfl
def NS(n lo hi):af TP 91 [.int .i64 n,.int .i64 lo,.int .i64 hi] (.bool (aq n lo hi)):=by
 refine ae (ag func91 rfl) rfl (zm ?_);refine aT (λe=>?_) (λe=>?_)<;>refine zn e ?_<;>simp[aq,e]
def Ta(s)(t):af TP 197 [s.pv,t.pv] (.tuple [(cf s t).1.pv,.int .i64 (cf s t).2]):=by
 refine ae (ag func197 rfl) rfl (zm ?_);refine aa (Jd s t) rfl (zm ?_);cases l:(bO s [t]==0)
 .have e:¬bO s [t]=0:=by simpa using l
  have j:(bO s [t] != 0)=true:=by simp[e]
  simp[cf,if_neg e,j,go_sem]
 have e:bO s [t]=0:=by simpa using l
 have hok:=(eY (zQ e).2).1;have i:cf s t=(if gh t=true then((cC t).1,0) else(⟨0,0⟩,9)):=by rw[cf,if_pos e]
 rw[i];refine zm ?_;refine aa (nN t hok) rfl ?_;rw[wG hok];cases q:gh t
 .simp[e,go_sem]
 .refine zn e ?_;refine aa (Jb t hok) rfl ?_;simp[Span.pv,go_sem]
def nY (s:HrShop) (l:List HrTest) (at':Int):Span×Int:=(if(bk s l at').2=0 then(bk s l at').1.rates else⟨0,0⟩,(bk s l at').2)
def QM(s)(l)(at'):af TP 268 [s.pv,.slice 3 (l.map HrTest.pv) false,.int .i64 at'] (.tuple [(nY s l at').1.pv,.int .i64 (nY s l at').2]):=by
 refine ae (ag func268 rfl) rfl (zm ?_);refine aa (FW s l false) rfl (zm ?_);cases h0:(bY s l==0)
 .have e:¬bY s l=0:=by simpa using h0
  have V:(bY s l != 0)=true:=by simp[e]
  have u:nY s l at'=(⟨0,0⟩,bY s l):=by rw[nY,bk,if_neg e,if_neg e]
  rw[u];simp[V,go_sem]
 have e:bY s l=0:=by simpa using h0
 have C:=sL e;have hk:=gv C.1;have hm:=my C.1;have hw:i64.wrap ((s.kinds.length:Int)-1)=(s.kinds.length:Int)-1:=ah;refine zo hw e ?_;refine aa (NS at' 0 ((s.kinds.length:Int)-1)) rfl ?_;cases K:aq at' 0 ((s.kinds.length:Int)-1)
 .have u:nY s l at'=(⟨0,0⟩,4):=by rw[nY,bk,if_pos e,K];rfl
  rw[u];simp[go_sem]
 obtain⟨g1,g2⟩:0<=at'/\at'<=(s.kinds.length:Int)-1:=by simpa[aq]using K
 obtain⟨n,rfl⟩:=na g1;have hn:n<s.kinds.length:=by omega
 obtain⟨k,R⟩:∃k,s.kinds[n]?=some k:=⟨_,bL hn⟩
 have u:nY s l n=(if(eF s l n).lo<0 then(⟨0,0⟩,9) else if(fE s.margin (eF s l n)).hi=0 then(⟨0,0⟩,8) else(fE s.margin (eF s l n),0)):=by
  rw[nY,bk,if_pos e,if_pos K,gX,R];dsimp only;split
  .rfl
  .grind
 rw[u];refine zm ?_
 refine dY [1,2,3,6,9] (σ:=List HrTest×List HrTest×Span×Heap)
  (λq=>l=q.1++q.2.1/\eF s l n=oA n q.2.2.1 q.2.1/\Dy q.2.2.1) (λq=>q.2.1.length)
  (λq=>[(10,.p (.int .i64 q.1.length))]) (λq=>[.row 3 [.p s.pv],.row 2 [.p (.agg [.int .i64 0,.int .i64 0])],.row 2 [.p q.2.2.1.pv]]++q.2.2.2) ([],l,⟨-1,0⟩,[]) ⟨rfl,rfl,.inl rfl⟩ (by simp[Span.pv,go_sem]) ?_ ?_
 .simp[go_sem]
 rintro⟨d_,rest,r,g⟩ ⟨z,j,A⟩
 dsimp only at z j A;have g0:=mA (lo:=g) rfl;have s0:=oG (lo:=g) rfl;have gg:=mz (lo:=g) rfl;have ss:=oF (lo:=g) rfl
 cases rest with
 |nil=>
  have O:¬((d_.length:Int)<(l.length:Int)):=by rw[z];simp
  rw[oA]at j;rw[j];simp only[O,decide_false,Span.pv,go_sem,simprocAttr];cases h3:decide (r.lo<0);rotate_left
  .have y:r.lo<0:=by simpa using h3
   simp[if_pos y,go_sem]
  have y:¬r.lo<0:=by simpa using h3
  have a0:0<=r.lo/\0<=r.hi/\r.lo<=601200000/\r.hi<=601200000:=A.resolve_left (by grind);have Y:=yu (a:=r.lo) (b:=1000-s.margin) (by omega) (by omega) (by omega) (by omega);have X:=yu (a:=r.hi) (b:=1000+s.margin) (by omega) (by omega) (by omega) (by omega);have w1:i64.wrap (1000-s.margin)=1000-s.margin:=ah;have w2:i64.wrap (1000+s.margin)=1000+s.margin:=ah;have w3:i64.wrap (r.lo*(1000-s.margin))=r.lo*(1000-s.margin):=ah;have w4:i64.wrap (r.hi*(1000+s.margin))=r.hi*(1000+s.margin):=ah;have N:0<=r.lo*(1000-s.margin):=pF (by omega) (by omega);have hq:(r.lo*(1000-s.margin)).tdiv 1000=r.lo*(1000-s.margin) / 1000:=Int.tdiv_eq_ediv_of_nonneg N;have a1:=kO (a:=r.lo*(1000-s.margin)) (b:=1000) (by decide) Y.1 Y.2 (by decide);have w5:i64.wrap (r.lo*(1000-s.margin) / 1000)=r.lo*(1000-s.margin) / 1000:=ah;rw[if_neg y];have L:fE s.margin r=⟨r.lo*(1000-s.margin) / 1000,-(-(r.hi*(1000+s.margin)) / 1000)⟩:=rfl;rw[L];simp only[w1,w2,w3,w4,hq,w5,go_sem,simprocAttr];refine aj (Uo (r.hi*(1000+s.margin)) 1000 (by decide) X.1 X.2) rfl (zm ?_);cases h4:(-(-(r.hi*(1000+s.margin)) / 1000)==0)
  .have F:¬-(-(r.hi*(1000+s.margin)) / 1000)=0:=by simpa using h4
   rw[if_neg F];simp[go_sem]
  .have F:-(-(r.hi*(1000+s.margin)) / 1000)=0:=by simpa using h4
   rw[if_pos F]
   simp[go_sem]
 |cons t rest=>
  obtain⟨hx,v⟩:=ca z;have G:=congrArg List.length z;simp only[ak,bc]at G;have E:i64.wrap ((d_.length:Int)+1)=(((d_++[t]).length:Nat):Int):=aO (by omega) (by simp[ai];omega) (by simp);have i:=(eY (pM C.2.2 t (by rw[z];simp))).1;have I:=pq i;rw[oA]at j;have M:=wG i;refine zp v decide_true hx ?_;cases h5:(t.kind != (n:Int))
  rotate_left
  .have U:¬(t.kind=(n:Int)/\gh t=true):=λh=>by grind
   rw[if_neg U]at j;refine zm ?_;refine aZ (d_++[t],rest,r,g) ⟨by rw[z];simp,j,A⟩ (dc _) (by simp[Span.pv,go_sem]) ?_;simp[E,go_sem]
  have T:t.kind=(n:Int):=by simpa using h5
  refine zo v hx ?_;refine aa (nN t i) rfl ?_;rw[M];cases h6:gh t
  .have S:¬(t.kind=(n:Int)/\gh t=true):=λh=>by grind
   rw[if_neg S]at j;refine zm ?_;refine aZ (d_++[t],rest,r,g) ⟨by rw[z];simp,j,A⟩ (dc _) (by simp[Span.pv,go_sem]) ?_;simp[E,go_sem]
  rw[if_pos ⟨T,h6⟩]at j;refine zo v hx ?_;refine aa (Jb t i) rfl ?_;have J:=wR A I;have D:iG r (cC t).1=⟨if(decide (r.lo<0)||decide ((cC t).1.lo<r.lo))=true then(cC t).1.lo else r.lo,if r.hi<(cC t).1.hi then(cC t).1.hi else r.hi⟩:=by
   rcases A with rfl|A
   .grind[iG,cC]
   .grind[iG,cC]
  generalize (cC t).1=q at D J j I;simp only[g0,s0,Span.pv,aK,go_sem,simprocAttr]
  cases h7:decide (r.lo<0)<;>cases Z:decide (q.lo<r.lo)<;>simp only[h7,Z,Bool.or_true,dd,if_true,if_false,fD,Bool.or_self]at D<;>simp only[g0,aK,Z,go_sem,simprocAttr] <;>
   refine aZ (d_++[t],rest,iG r q,g++[.row 2 [.p q.pv]]) ⟨by rw[z];simp,j,J⟩ (dc _) (by rw[D];simp[Span.pv,go_sem]) ?_<;>simp[E,go_sem]
def MX{x}(hx:HrKOk x):x.promise=(if(x.k.weight.lo-x.k.rest) / x.rates.hi<16666 then(x.k.weight.lo-x.k.rest) / x.rates.hi else 16666):=by
 have i:=hx.pos;have e:Frac.down ⟨x.least.top,x.least.below*60⟩=(x.k.weight.lo-x.k.rest) / x.rates.hi:=by
  show (60*(x.k.weight.lo-x.k.rest)) / (x.rates.hi*60)=_;rw[xR x.rates.hi 60];exact Int.mul_ediv_mul_of_pos _ _ (by decide)
 rw[HrK.promise,e]
def u4(s)(l)(at'):af TP 200 [s.pv,.slice 3 (l.map HrTest.pv) false,.int .i64 at'] (.tuple [.int .i64 (aY s l at').1,.int .i64 (aY s l at').2]):=by
 refine ae (ag func200 rfl) rfl (zm ?_);refine aa (QM s l at') rfl ?_;simp only[nY,go_sem,simprocAttr];cases v:((bk s l at').2 != 0)
 rotate_left
 .have e:¬(bk s l at').2=0:=by simpa using v
  simp[aY,if_neg e,go_sem]
 have e:(bk s l at').2=0:=by simpa using v
 obtain⟨hx,R,D,u,O,N⟩:=uw e;obtain⟨E,S⟩:0<=at'/\at'<=(s.kinds.length:Int)-1:=by simpa[aq]using D
 obtain⟨n,rfl⟩:=na E;rw[gX]at u;have q:(n:Int)<(s.kinds.length:Int):=by omega
 have j:aY s l n=((bk s l n).1.promise,0):=by rw[aY,if_pos e]
 rw[j,MX hx];have i:=hx.k;have k1:=i.lo;have M:=i.le;have L:=i.hi;have K:=i.rest;have J:=i.less;have I:=hx.pos;have G:=hx.hi
 generalize (bk s l n).1=x at *
 have z:i64.wrap (x.k.weight.lo-x.k.rest)=x.k.weight.lo-x.k.rest:=ah;have C:(x.k.weight.lo-x.k.rest).tdiv x.rates.hi=(x.k.weight.lo-x.k.rest) / x.rates.hi:=Int.tdiv_eq_ediv_of_nonneg (by omega);have F:=kO (a:=x.k.weight.lo-x.k.rest) (b:=x.rates.hi) (B:=10000000) (by omega) (by omega) (by omega) (by omega);have y:i64.wrap ((x.k.weight.lo-x.k.rest) / x.rates.hi)=(x.k.weight.lo-x.k.rest) / x.rates.hi:=ah;have A:¬x.rates.hi=0:=by omega
 simp[q,u,z,C,y,A,e,go_sem]
def Wd(s)(t):af TP 198 [s.pv,t.pv] (.tuple [fi (ia s t).1,.int .i64 (ia s t).2]):=by
 refine bF (ag func198 rfl) rfl (zm ?_);refine aa (Jd s t) rfl (zm ?_);cases N:(bO s [t] != 0)
 rotate_left
 .have j:¬bO s [t]=0:=by simpa using N
  simp only[ia,if_neg j,fi,bx,go_sem,simprocAttr];exact⟨_,_,rfl,rfl,.inr ⟨rfl,1,rfl⟩,.inl rfl,trivial⟩
 have j:bO s [t]=0:=by simpa using N
 have hok:=(eY (zQ j).2).1;have G:ia s t=(p8 t,0):=by rw[ia,if_pos j]
 rw[G];have E:=hok.len;have K:=hok.two;have C:=wG hok;refine zm ?_;refine bt 7 1 (by simp only[go_sem,simprocAttr]) (zm ?_);cases z:gh t;rotate_left
 .have e:p8 t=[]:=by rw[p8,if_pos z]
  rw[e];refine bw ?_;cases M:decide ((0:Int)<(t.marks.length:Int))
  .grind
  refine zn M ?_;refine aa (nN t hok) rfl ?_;rw[C,z];simp[fi,go_sem]
 have O:3<=t.marks.length:=by
  rcases dO t.marks.length 3 with h|h
  .exact absurd (HR hok (by omega)) (by simp[z])
  .exact h
 have e:p8 t=kG t 0 t.marks:=by rw[p8,if_neg (by simp[z])]
 rw[e]
 refine dl [3] (σ:=List HrMark×List HrMark×List Int)
  (λq=>t.marks=q.1++q.2.1/\kG t 0 t.marks=q.2.2++kG t q.1.length q.2.1/\q.2.2.length<=q.1.length) (λq=>q.2.1.length)
  (λq=>[(7,.slice 2 q.2.2.length 0 q.2.2.length),(8,.p (.int .i64 q.1.length))]) (λq=>[.row 3 [.p s.pv],.row 3 [.p t.pv],.row 1 (q.2.2.map λn=>.p (ay n))]) ([],t.marks,[]) ⟨rfl,rfl,ba _⟩ ?_ ?_
 .simp[go_sem]
 rintro⟨d_,rest,out⟩ ⟨y,v,R⟩
 dsimp only at y v R
 cases rest with
 |nil=>
  have l:¬((d_.length:Int)<(t.marks.length:Int)):=by rw[y];simp
  rw[kG,bI]at v;simp only[l,decide_false,v,fi,go_sem,simprocAttr]
  exact .inl rfl
 |cons b r=>
  obtain⟨hx,l⟩:=ca y;have u:=congrArg List.length y;simp only[ak,bc]at u;have hi:d_.length<t.marks.length:=by omega
  have D:i64.wrap ((d_.length:Int)+1)=(((d_++[b]).length:Nat):Int):=aO (by omega) (by simp[ai];omega) (by simp);have A:=T3 hok (i:=d_.length) O;have F:=wG A;have I:out.length+1<=ai:=by simp[ai];omega
  have J:kG t d_.length (b::r)=(if gh (wo t d_.length)=true then [((d_.length:Nat):Int)] else [])++kG t (d_.length+1) r:=rfl;rw[J]at v;refine zo l decide_true ?_;refine aa (nN t hok) rfl ?_;rw[C,z];refine zm ?_;refine aa (KQ t d_.length hi K E) rfl (zm ?_);refine aa (nN _ A) rfl ?_;rw[F];cases L:gh (wo t d_.length)
  .simp only[go_sem,simprocAttr];refine aF (d_++[b],r,out) ⟨by rw[y];simp,by grind,by simp;omega⟩ (dc _) ?_;simp only[D,go_sem,simprocAttr]
  .simp only[I,go_sem,simprocAttr];refine aF (d_++[b],r,out++[((d_.length:Nat):Int)]) ⟨by rw[y];simp,by grind,by simp;omega⟩ (dc _) ?_;simp only[D,ak,aK,aS,go_sem,simprocAttr]
def NY(s)(l)(boxes):af TP 201 [s.pv,.slice 3 (l.map HrTest.pv) false,.slice 2 (boxes.map HrBox.pv) false] (.tuple [fi (bQ s l boxes).1,.int .i64 (bQ s l boxes).2]):=by
 refine bF (ag func201 rfl) rfl (zm ?_);refine aa (FW s l false) rfl (zm ?_);have S:∀e:Int,bY s l=e->e≠0->bQ s l boxes=([],e):=λe E G=>by grind[bQ]
 cases X:(bY s l==0)
 .have u:¬bY s l=0:=by simpa using X
  have a0:(bY s l != 0)=true:=by simpa using u
  rw[S _ rfl u];refine zm ?_;refine bw ?_;cases V:decide ((0:Int)<(boxes.length:Int))<;>simp only[V,X,a0,fi,bx,go_sem,simprocAttr];all_goals exact⟨_,_,rfl,rfl,.inr ⟨rfl,1,rfl⟩,.inl rfl,trivial⟩
 have u:bY s l=0:=by simpa using X
 have hok:=sL u;have a1:=gv hok.1;have hw:i64.wrap ((s.kinds.length:Int)-1)=(s.kinds.length:Int)-1:=ah;refine zm ?_;cases R:decide ((20:Int)<(boxes.length:Int));rotate_left
 .have A:20<boxes.length:=by simp at R;omega
  have I:bQ s l boxes=([],3):=by rw[bQ,if_pos u,if_pos A]
  rw[I];refine zm ?_;refine bw ?_;cases V:decide ((0:Int)<(boxes.length:Int))<;>simp only[V,fi,bx,go_sem,simprocAttr];all_goals exact⟨_,_,rfl,rfl,.inr ⟨rfl,1,rfl⟩,.inl rfl,trivial⟩
 have A:¬20<boxes.length:=by simp at R;omega
 have I:bQ s l boxes=bT s l 0 boxes:=by rw[bQ,if_pos u,if_neg A]
 have hj:bT s l 0 boxes=fV [] (bT s l 0 boxes):=by
  have Y:∀q:List Int×Int,(q.2≠0->q.1=[])->q=fV [] q:=by
   rintro⟨a,b⟩ h
   simp only[fV,jb];split
   .grind
   .grind
  refine Y _ ?_;generalize (0:Nat)=i
  cases boxes with
  |nil=>simp[bT]
  |cons b r=>
   grind[bT]
 rw[I,hj];refine zn u ?_;refine bt 9 1 (by simp only[go_sem,simprocAttr]) (zm ?_)
 refine dl [1,2,3] (σ:=List HrBox×List HrBox×List Int×Int)
  (λq=>boxes=q.1++q.2.1/\(if q.2.2.2=0 then fV [] (bT s l 0 boxes)=fV q.2.2.1 (bT s l q.1.length q.2.1) else fV [] (bT s l 0 boxes)=([],q.2.2.2))/\q.2.2.1.length<=q.1.length) (λq=>q.2.1.length)
  (λq=>[(8,.p (.int .i64 q.2.2.2)),(9,.slice 1 q.2.2.1.length 0 q.2.2.1.length),(10,.p (.int .i64 q.1.length))]) (λq=>[.row 3 [.p s.pv],.row 1 (q.2.2.1.map λn=>.p (ay n))]) ([],boxes,[],0) ⟨rfl,by rfl,ba _⟩ ?_ ?_
 .simp[go_sem]
 rintro⟨d_,rest,out,e⟩ ⟨F,v,e3⟩
 dsimp only at F v e3;have a2:∀q:List Int×Int,q.2≠0->q.1=[]->q=([],q.2):=λ⟨a,b⟩ _ h=>by cases h;rfl
 cases rest with
 |nil=>
  have N:¬((d_.length:Int)<(boxes.length:Int)):=by rw[F];simp
  have e5:fV out (bT s l d_.length [])=(out,0):=by rw[bT,fV,if_pos rfl,bI]
  by_cases D:e=0
  .rw[if_pos D,e5]at v;rw[v];simp only[N,decide_false,fi,D,go_sem,simprocAttr];exact .inl rfl
  .rw[if_neg D]at v;rw[v];have J:(e != 0)=true:=by simpa using D
   simp only[N,decide_false,fi,J,bx,go_sem,simprocAttr]
   exact⟨_,_,rfl,rfl,.inr ⟨rfl,1,rfl⟩,.inl rfl,trivial⟩
 |cons b r=>
  obtain⟨hx,j⟩:=ca F;have L:=congrArg List.length F;simp only[ak,bc]at L;have C:i64.wrap ((d_.length:Int)+1)=(((d_++[b]).length:Nat):Int):=aO (by omega) (by simp[ai];omega) (by simp);have Z:out.length+1<=ai:=by simp[ai];omega
  cases D:(e==0)
  .have z:¬e=0:=by simpa using D
   have J:(e != 0)=true:=by simpa using z
   rw[if_neg z]at v;rw[v];simp only[j,decide_true,D,J,fi,bx,go_sem,simprocAttr];exact⟨_,_,rfl,rfl,.inr ⟨rfl,1,rfl⟩,.inl rfl,trivial⟩
  have z:e=0:=by simpa using D
  rw[if_pos z]at v;subst z;refine s_ j decide_true hx hw ?_;refine aj (NS b.kind 0 ((s.kinds.length:Int)-1)) rfl ?_;cases G:aq b.kind 0 ((s.kinds.length:Int)-1)
  .refine zm ?_;refine aF (d_++[b],r,out,4) ⟨by rw[F];simp,by rw[if_neg (show ¬(4:Int)=0 by decide),v,qJ (e:=4) (by rw[mE,G];rfl) (by decide)],by simp;omega⟩ (dc _) ?_;simp[C,go_sem]
  refine zo j hx ?_;refine aa (NS b.hours 0 1000000) rfl ?_;cases h3:aq b.hours 0 1000000
  .refine zm ?_;refine aF (d_++[b],r,out,7) ⟨by rw[F];simp,by rw[if_neg (show ¬(7:Int)=0 by decide),v,qJ (e:=7) (by grind[mE]) (by decide)],by simp;omega⟩ (dc _) ?_;simp[C,go_sem]
  have O:mE s l b=(bk s l b.kind).2:=by rw[mE,G,h3];rfl
  refine zo j hx ?_;refine aj (u4 s l b.kind) rfl ?_
  have M:∀(o:List Int) (U:(aY s l b.kind).2=0->o=out++(if(aY s l b.kind).1<b.hours then [((d_.length:Nat):Int)] else [])),
    (if(aY s l b.kind).2=0 then fV [] (bT s l 0 boxes)=fV o (bT s l (d_++[b]).length r) else fV [] (bT s l 0 boxes)=([],(aY s l b.kind).2)):=by
   intro o U;rw[v];by_cases y:(bk s l b.kind).2=0
   .grind[aY,fV,bT]
   .grind[aY,fV,bT]
  simp only[j,hx,go_sem,simprocAttr];cases h9:decide ((aY s l b.kind).1<b.hours)
  .have K:¬(aY s l b.kind).1<b.hours:=by simpa using h9
   simp only[go_sem,simprocAttr];refine aF (d_++[b],r,out,(aY s l b.kind).2) ⟨by rw[F];simp,M out (λ_=>by grind),by simp;omega⟩ (dc _) ?_;simp only[C,go_sem,simprocAttr]
  .have K:(aY s l b.kind).1<b.hours:=by simpa using h9
   simp only[Z,go_sem,simprocAttr];refine aF (d_++[b],r,out++[((d_.length:Nat):Int)],(aY s l b.kind).2) ⟨by rw[F];simp,M _ (λ_=>by rw[if_pos K]),by simp;omega⟩ (dc _) ?_;simp only[C,ak,aK,aS,go_sem,simprocAttr]
namespace Cl
def Jj(n lo hi):af TP 94 [.int .i64 n,.int .i64 lo,.int .i64 hi] (.bool (aq n lo hi)):=by
 refine ae (ag func94 rfl) rfl (zm ?_);refine aT (λe=>?_) (λe=>?_)<;>refine zn e ?_<;>simp[aq,e]
def Dh(lo hi n):af TP 144 [.int .i64 n,.ptr 1 [.int .i64 lo] 0 0,.ptr 1 [.int .i64 hi] 0 0] (.bool (!aq n lo hi)):=by
 refine ae (ag func144 rfl) rfl (zm ?_);refine aT (λe=>?_) (λe=>?_)<;>refine zn e ?_<;>simp_all [aq];grind
def gk(lo hi)(l:List Int)(b)(e:l.length<1000000000):af TP 79 [.int .i64 lo,.int .i64 hi,.slice 1 (l.map ay) b] (.bool (l.any λn=>!aq n lo hi)):=by
 refine ae (ag func79 rfl) rfl (zm ?_);refine bq (lD (fv:=.func (.func 144) [] [.ptr 1 [.int .i64 lo] 0 0,.ptr 1 [.int .i64 hi] 0 0]) l (λn=>!aq n lo hi) b 1 rfl e λn _=>⟨_,_,_,rfl,Dh lo hi n⟩) ?_ (.bool _) ?_
 .simp[go_sem]
 .simp[go_sem]
def im (many:Nat) (c:ClColour):Int:=
 if c.shows.length=many then(if(c.shows.any λn=>!aq n 0 1000)=true then 7 else ec c.stay.lo c.stay.hi 0 1000) else 3
def fy (many:Nat) (before:List ByteArray) (c:ClColour):Int:=if ar before c.name=0 then im many c else ar before c.name
def fK (s:ClShop):Int:=if aq s.colours.length 1 6=true then(if aq s.rinse 0 10000=true then ec s.keep.lo s.keep.hi 0 1000 else 7) else 3
def clCheck (s:ClShop):Int×Int×Int:=
 if fK s=0 then(match firstErr (fy s.colours.length) (·.name) s.colours []with|some (i,e)=>(2,i,e)|none=>(0,0,0)) else(1,0,fK s)
def Qz{s}{d_ r}{x}(q:fK s=0)(u:firstErr (fy s.colours.length) (·.name) s.colours []=firstErr (fy s.colours.length) (·.name) (x::r) (d_.map (·.name))) :
  (fy s.colours.length (d_.map (·.name)) x=0->firstErr (fy s.colours.length) (·.name) s.colours []=firstErr (fy s.colours.length) (·.name) r ((d_++[x]).map (·.name))) /\
  ∀e,fy s.colours.length (d_.map (·.name)) x=e->e≠0->clCheck s=(2,(d_.length:Int),e):=by
 grind[fy,firstErr,clCheck]
def zaz(s)(b c d)(x:ClColour):af TP 81 [x.pv,.ptr 4 [.agg [.str s,b,c,d]] 0 0] (.bool (x.name==s)):=by
 refine ae (ag func81 rfl) rfl ?_;simp[go_sem]
def rY(s):af TP 24 [s.pv] (ao (clCheck s)):=by
 refine ae (ag func24 rfl) rfl (zm ?_);refine aa (gk 1 6 [_] true (by simp)) rfl ?_;simp only[bZ,cO,dd,go_sem,simprocAttr];cases q:aq s.colours.length 1 6
 .have hh:fK s=3:=by rw[fK,q];rfl
  simp[ao,clCheck,hh,go_sem]
 refine zm ?_;refine aa (gk 0 10000 [_] true (by simp)) rfl ?_;simp only[bZ,cO,dd,go_sem,simprocAttr];cases O:aq s.rinse 0 10000
 .have hh:fK s=7:=by rw[fK,q,O];rfl
  simp[ao,clCheck,hh,go_sem]
 refine zm ?_;refine aa (gk 0 1000 [_,_] true (by simp)) rfl ?_;simp only[bZ,cO,dd,<-mT,go_sem,simprocAttr];have hh:fK s=ec s.keep.lo s.keep.hi 0 1000:=by rw[fK,q,O];rfl
 unfold ec at hh;cases N:(aq s.keep.lo 0 1000&&aq s.keep.hi 0 1000)
 .rw[if_neg (by grind)]at hh;simp[ao,clCheck,hh,go_sem]
 rw[if_pos (by rw[<-eI,N])]at hh;refine zm ?_;cases M:decide (s.keep.hi<s.keep.lo);rotate_left
 .rw[if_pos (by simpa using M)]at hh;simp[ao,clCheck,hh,go_sem]
 rw[if_neg (by simpa using M)]at hh;have S:s.colours.length<=6:=by simp[aq]at q;omega
 refine zm ?_
 refine aG [1,37,38] s.colours (by omega) (τ:=Unit) (λd_ rest _=>firstErr (fy s.colours.length) (·.name) s.colours []=firstErr (fy s.colours.length) (·.name) rest (d_.map (·.name)))
  (λd_ _=>[(39,.p (.int .i64 d_.length)),(4,.p (.int .i64 0))]) (λ_ _=>[.row 4 [.p s.pv]]) () rfl ?_ ?_ ?_
 .simp only[go_sem,simprocAttr]<;>simp
 .intro _ v;have:clCheck s=(0,0,0):=by rw[clCheck,if_pos hh,v];rfl
  simp[ao,this,go_sem]
 .intro d_ x r _ z v hx D C;obtain⟨R,e⟩:=Qz hh v;have E:((d_.length:Nat):Int)<=(s.colours.length:Int):=by omega
  have A:(s.colours.map ClColour.pv).take d_.length=d_.map ClColour.pv:=by
   rw[z,aS,eX (by simp)]
  have T:d_.length<1000000:=by have:=congrArg List.length z;simp at this;omega
  have F:(d_.length==s.colours.length)=false:=by simp;omega
  refine zo D hx ?_;refine aa (kY x.name) rfl (zm ?_);cases u:nameOk x.name
  .have l:ar (d_.map (·.name)) x.name=6:=by simp[ar,u]
   simp only[ao,e 6 (by rw[fy,l];rfl) (by decide),go_sem,simprocAttr]
  refine zp E A F ?_;refine bq (Ew (fv:=.func (.func 81) [] [.ptr 4 [x.pv] 0 0]) d_ (λy=>y.name==x.name) false 4 rfl (by omega) λy _=>⟨_,_,_,rfl,zaz x.name _ _ _ y⟩) ?_ (.bool _) ?_
  .simp[go_sem]
  refine zm ?_;cases L:(d_.any λy=>y.name==x.name)
  rotate_left
  .have l:ar (d_.map (·.name)) x.name=5:=by simp only[ar,u,oY,gS,L,if_true]
   simp only[ao,e 5 (by rw[fy,l];rfl) (by decide),go_sem,simprocAttr]
  have l:ar (d_.map (·.name)) x.name=0:=by simp only[ar,u,oY,gS,L,if_true,fD,if_false]
  have i:fy s.colours.length (d_.map (·.name)) x=im s.colours.length x:=by rw[fy,if_pos l]
  refine zm ?_;cases K:((x.shows.length:Int) != (s.colours.length:Int))
  rotate_left
  .have j:¬x.shows.length=s.colours.length:=by simp at K;omega
   simp only[ao,e 3 (by rw[i,im,if_neg j]) (by decide),go_sem,simprocAttr]
  have j:x.shows.length=s.colours.length:=by simp at K;omega
  refine zm ?_;refine aa (gk 0 1000 x.shows false (by omega)) rfl (zm ?_);cases J:(x.shows.any λn=>!aq n 0 1000)
  rotate_left
  .simp only[ao,e 7 (by rw[i,im,if_pos j,J];rfl) (by decide),go_sem,simprocAttr]
  refine zm ?_;refine aa (gk 0 1000 [_,_] true (by simp)) rfl ?_;simp only[bZ,cO,dd,<-mT,go_sem,simprocAttr];rw[im,if_pos j,J,if_neg (by decide)]at i;unfold ec at i;cases I:(aq x.stay.lo 0 1000&&aq x.stay.hi 0 1000)
  .rw[if_neg (by grind)]at i;simp[ao,e 7 i (by decide),go_sem]
  rw[if_pos (by rw[<-eI,I])]at i;refine zm ?_;cases G:decide (x.stay.hi<x.stay.lo);rotate_left
  .rw[if_pos (by simpa using G)]at i;simp[ao,e 2 i (by decide),go_sem]
  rw[if_neg (by simpa using G)]at i;refine zm ?_;refine am z () (R i) ?_;simp[C,go_sem]
def YE(c)(e:Nat)(y:e<1000000000):af TP 95 [c.pv,.int .i64 e] (.int .i64 (im e c)):=by
 refine ae (ag func95 rfl) rfl (zm ?_);cases u:((c.shows.length:Int) != (e:Int))
 rotate_left
 .have j:¬c.shows.length=e:=by simp at u;omega
  simp[im,if_neg j,go_sem]
 have j:c.shows.length=e:=by simp at u;omega
 subst j;have z:im c.shows.length c=if(c.shows.any λn=>!aq n 0 1000)=true then 7 else ec c.stay.lo c.stay.hi 0 1000:=by rw[im,if_pos rfl]
 rw[z];refine zm ?_;refine aG [1,2] c.shows y (τ:=Unit) (λd_ rest _=>(c.shows.any λn=>!aq n 0 1000)=(rest.any λn=>!aq n 0 1000)) (λd_ _=>[(5,.p (.int .i64 d_.length))]) (λ_ _=>[.row 4 [.p c.pv]]) () rfl ?_ ?_ ?_
 .simp only[go_sem,simprocAttr]<;>simp
 .intro _ i;rw[cO]at i;rw[i,if_neg (by decide)];refine zm ?_;refine aa (oc _ _ _ _) rfl ?_;simp[go_sem]
 .intro d_ n r _ A i hx q l;rw[bZ]at i;refine zo q hx ?_;refine aa (Jj _ _ _) rfl (zm ?_);cases v:aq n 0 1000
  .rw[v,uK,oZ]at i;rw[i,if_pos rfl];simp[go_sem]
  .rw[v,Bool.not_true,oo]at i;refine zm ?_;refine am A () i ?_;simp[l,go_sem]
def lN(s):af TP 29 [s.pv] (ao (clCheck s)):=by
 refine ae (ag func29 rfl) rfl (zm ?_);refine aa (Jj _ _ _) rfl (zm ?_);cases u:aq s.colours.length 1 6
 .have hh:fK s=3:=by rw[fK,u];rfl
  simp[ao,clCheck,hh,go_sem]
 refine zm ?_;refine aa (oc _ _ _ _) rfl (zm ?_);refine aa (Jj _ _ _) rfl (zm ?_);cases G:aq s.rinse 0 10000
 .have hh:fK s=7:=by rw[fK,u,G];rfl
  simp[ao,clCheck,hh,go_sem]
 have hh:fK s=ec s.keep.lo s.keep.hi 0 1000:=by rw[fK,u,G];rfl
 refine zm ?_;rw[<-hh];cases F:(fK s != 0)
 rotate_left
 .have i:¬fK s=0:=by simpa using F
  simp[ao,clCheck,if_neg i,go_sem]
 have i:fK s=0:=by simpa using F
 have K:s.colours.length<=6:=by simp[aq]at u;omega
 refine zm ?_;refine bt 6 1 (by simp only[go_sem,simprocAttr]) (zm ?_)
 refine aG [1] s.colours (by omega) (τ:=Unit) (λd_ rest _=>firstErr (fy s.colours.length) (·.name) s.colours []=firstErr (fy s.colours.length) (·.name) rest (d_.map (·.name)))
  (λd_ _=>[(6,.slice 1 d_.length 0 d_.length),(7,.p (.int .i64 d_.length))]) (λd_ _=>[.row 4 [.p s.pv],.row 1 (d_.map λx=>.p (.str x.name))]) () rfl ?_ ?_ ?_
 .simp only[go_sem,simprocAttr]<;>simp
 .intro _ y;have:clCheck s=(0,0,0):=by rw[clCheck,if_pos i,y];rfl
  simp[ao,this,go_sem]
 .intro d_ x r _ I y hx j A;obtain⟨J,q⟩:=Qz i y;have L:d_.length<s.colours.length:=by have:=congrArg List.length I;simp at this;omega
  have z:d_.length+1<=ai:=by simp[ai];omega
  refine zo j hx ?_;refine bq (kQ x.name (d_.map (·.name)) false (d_.map λx=>.str x.name) (by simp) (by simp;omega)) ?_ (.int _ _) ?_
  .simp[go_sem]
  refine zp z j hx ?_;cases v:(ar (d_.map (·.name)) x.name==0)
  .have e:ar (d_.map (·.name)) x.name≠0:=by simpa using v
   have C:(ar (d_.map (·.name)) x.name != 0)=true:=by simp[bne,v]
   simp only[C,ao,q _ (by rw[fy,if_neg e]) e,go_sem,simprocAttr]
  have e:ar (d_.map (·.name)) x.name=0:=by simpa using v
  have D:fy s.colours.length (d_.map (·.name)) x=im s.colours.length x:=by rw[fy,if_pos e]
  refine zo hx j ?_
  (first|refine aa (YE x s.colours.length (by omega)) rfl ?_|refine aj (YE x s.colours.length (by omega)) rfl ?_)
  refine zm ?_;cases E:(im s.colours.length x != 0)
  rotate_left
  .have l:im s.colours.length x≠0:=by simpa using E
   simp[ao,q _ D l,go_sem]
  have l:im s.colours.length x=0:=by simpa using E
  refine zm ?_;refine am I () (J (D.trans l)) (zn A ?_);simp
end Cl
open Go.IntKind (i64)
namespace Cl
set_option maxRecDepth 4000
def zX(b)(e)(h):aw TP 380 [.p (.bool b),.p (.int .i64 e)] h (λr h'=>h'=h/\r=if b=true then .ret (.p (.tuple [])) else .panic (.iface 43 (.int .i64 e))):=by
 refine au (ag func380 rfl) rfl (zm ?_);cases b
 .simp[go_sem]
 .simp[go_sem]
def az{H}{Q}{ops}{rest}{dst}{A}{b}{e}(l:b=true->@WO ⟨TP,H,ops,rest,Q⟩ (A.put dst (.p (.tuple [])) A.h))
  (j:b=false->@WQ ⟨Q⟩ (.panic (.iface 43 (.int .i64 e))) A):@WF ⟨TP,H,ops,rest,Q,dst⟩ A 380 [.p (.bool b),.p (.int .i64 e)]:=by
 refine cZ (zX b e A.h) (λv h i=>?_) (λv h i=>?_)
 .grind
 .obtain⟨rfl,i⟩:=i;cases b
  .simp_all
  .cases i
def TM{H}{Q}{ops}{rest}{o}{j}{A}{e}(h:∀T,@WQ ⟨Q⟩ (.panic (.iface 43 (.int .i64 e))) { A with tmps:=T }) :
  @Rr ⟨TP,H,ops,rest,Q,o⟩ j A (.call 380 [.p (.bool false),.p (.int .i64 e)]):=by
 refine .inr ⟨_,(zX false e A.h).mono λr h' i=>?_,h⟩;grind
def ep (s:ClShop) (b:ClBatch):Int:=if aq b.colour 0 ((s.colours.length:Int)-1)=true then(if aq b.grams 1 100000=true then 0 else 7) else 4
def eh (s:ClShop):List ClBatch->Int
 |[]=>0
 |b::l=>if ep s b=0 then eh s l else ep s b
def iH (s:ClShop) (l:List ClBatch):Int:=if l.length<=7 then eh s l else 3
def dj (s:ClShop) (start:Int) (l:List ClBatch):Int:=
 if(clCheck s).2.2=0 then(if aq start 0 ((s.colours.length:Int)-1)=true then iH s l else 4) else(clCheck s).2.2
def E1 (s:ClShop) (l:List ClBatch) (m:PV):List PV:=[.slice 4 (s.colours.map ClColour.pv) false,.int .i64 s.keep.lo,.int .i64 s.keep.hi,.int .i64 s.rinse,.slice 2 (l.map ClBatch.pv) false,m]
def MP (s:ClShop) (l:List ClBatch):PV:=.ptr 6 [.agg (E1 s l .any)] 0 0
attribute [go_sem] E1 MP
structure ShopOk (s:ClShop):Prop where
 len:1<=s.colours.length/\s.colours.length<=6
 keep:0<=s.keep.lo/\s.keep.lo<=s.keep.hi/\s.keep.hi<=1000
 rinse:0<=s.rinse/\s.rinse<=10000
 shows:∀c,c∈s.colours->c.shows.length=s.colours.length/\∀n,n∈c.shows->0<=n/\n<=1000
 stay:∀c,c∈s.colours->0<=c.stay.lo/\c.stay.lo<=c.stay.hi/\c.stay.hi<=1000
def gW{α}{f:List ByteArray->α->Int}{i}:∀{l} {e},firstErr f i l e=none->∀x,x∈l->∃bs,f bs x=0
 |[],_,_,x,hx=>by cases hx
 |y::l,e,h,x,hx=>by
  rw[firstErr]at h;split at h
  .rename_i j;rcases br.1 hx with rfl|hx
   .grind
   .exact gW h x hx
  .cases h
def jM{α}{f:List ByteArray->α->Int}{q}:∀{l} {j} {i e},firstErr f q l j=some (i,e)->e≠0
 |[],_,_,_,h=>by cases h
 |y::r,j,i,e,h=>by
  rw[firstErr]at h;split at h
  .exact jM h
  grind
def CZ{a b lo hi}(h:ec a b lo hi=0):lo<=a/\a<=b/\b<=hi:=by
 unfold ec at h;split at h
 .rename_i e;simp[aq]at e;omega
 .cases h
def sZ{s}(h:(clCheck s).2.2=0):ShopOk s:=by
 unfold clCheck at h;split at h
 .rename_i l;unfold fK at l;split at l
  .rename_i D;split at l
   .rename_i y;have C:=CZ l;simp[aq]at D y;have q:∀c,c∈s.colours->im s.colours.length c=0:=by
     intro c q;split at h
     .rename_i i e u;exact absurd h (jM u)
     .rename_i u;obtain⟨bs,v⟩:=gW u c q;unfold fy at v;omega
    refine⟨by omega,C,y,λc j=>?_,λc j=>?_⟩
    .have:=q c j;unfold im at this;split at this
     .rename_i E;split at this
      .cases this
      .rename_i z;refine⟨E,λn A=>?_⟩;simp only[Mu,not_exists,not_and]at z;have:=z n A;simpa[aq]using this
     .cases this
    .have:=q c j;unfold im at this;split at this
     .split at this
      .cases this
      .exact CZ this
     .cases this
   .cases l
  .cases l
 grind
structure BatchOk (s:ClShop) (b:ClBatch):Prop where
 colour:0<=b.colour/\b.colour<s.colours.length
 grams:1<=b.grams/\b.grams<=100000
def Tu{s}{b}(h:ep s b=0):BatchOk s b:=by
 unfold ep at h;split at h
 .rename_i i;split at h
  .rename_i e;simp[aq]at i e;exact⟨by omega,e⟩
  .cases h
 .cases h
def xw{s}:∀{l},eh s l=0->∀b,b∈l->BatchOk s b
 |[],_,b,e=>by cases e
 |x::l,h,b,e=>by
  rw[eh]at h;split at h
  .rename_i i;rcases br.1 e with rfl|e
   .exact Tu i
   .exact xw h b e
  omega
def kr (s:ClShop) (before:Int) (b:ClBatch) (r:Nat):Bool:=
 match s.colours[before.toNat]? with
 |some x=>(match x.shows[b.colour.toNat]? with|some n=>before != b.colour&&decide (b.grams*n*1000^r<1000*x.stay.hi*s.keep.hi^r)|none=>false)
 |none=>false
def mw (can:Nat->Bool):Nat->Nat->Int
 |0,_=>-1
 |c+1,r=>if can r=true then mw can c (r+1) else r
def fm (s:ClShop) (before:Int) (b:ClBatch):Int:=mw (kr s before b) 4 0
def GY{k:Int}(i:0<=k)(j:k<=1000):∀r,0<=k^r/\k^r<=1000^r
 |0=>by simp
 |r+1=>by
  have e:=GY i j r;rw[Int.pow_succ,Int.pow_succ];exact⟨pF e.1 i,pG e.2 j i (xS e.1 e.2)⟩
def z8(n keep)(r:Nat)(q:0<=n/\n<=1000000000)(u:0<=keep/\keep<=1000)(D:r<=3):af TP 407 [.int .i64 n,.int .i64 keep,.int .i64 r] (.int .i64 (n*keep^r)):=by
 refine ae (ag func407 rfl) rfl (zm ?_);have z:∀k:Nat,k<=3->0<=n*keep^k/\n*keep^k<=1000000000000000000:=λk j=>by
  have e:=GY u.1 u.2 k;have A:(1000:Int)^k<=1000000000:=by
   match k,j with
   |0,_=>decide
   |1,_=>decide
   |2,_=>decide
   |3,_=>decide
  exact⟨pF q.1 e.1,by have:=pG q.2 (xS e.2 A) e.1 (by omega:(0:Int)<=1000000000);omega⟩
 refine dY [1,7] (σ:=Nat) (λk=>k<=r) (λk=>r-k) (λk=>[(0,.p (.int .i64 (n*keep^k))),(8,.p (.int .i64 k))]) (λk=>[]) 0 (cG _) rfl ?_ ?_
 .refine zm ?_;simp
 intro k i;rcases pI i with rfl|C
 .have v:decide ((k:Int)<(k:Int))=false:=by simp
  simp[go_sem]
 have v:decide ((k:Int)<(r:Int))=true:=by simp;omega
 have hw:i64.wrap ((k:Int)+1)=((k+1:Nat):Int):=aO (by omega) (by simp[ai];omega) (by omega);have l:=z (k+1) (by omega);have y:i64.wrap (n*keep^k*keep)=n*keep^(k+1):=by
  rw[Int.pow_succ,<-v7]at l |-;exact ah
 refine zn v ?_;refine aZ (k+1) (by omega) (by omega) rfl ?_;simp[hw,y,go_sem]
def YB(s)(l)(e:Int)(b)(r:Nat)(v:ShopOk s)(A:BatchOk s b)(K:0<=e/\e<s.colours.length)(y:r<=3) :
  af TP 396 [MP s l,.int .i64 e,b.pv,.int .i64 r] (.bool (kr s e b r)):=by
 refine ae (ag func396 rfl) rfl ?_;obtain⟨i,rfl⟩:∃i:Nat,e=(i:Int):=⟨e.toNat,by omega⟩
 obtain⟨j,D⟩:∃j:Nat,b.colour=(j:Int):=⟨b.colour.toNat,by have:=A.colour;omega⟩
 have N:=A.colour;obtain⟨x,hx⟩:∃x,s.colours[i]?=some x:=⟨_,bL (by omega)⟩
 have q:=aB hx;have M:=(v.shows x q).1;obtain⟨n,z⟩:∃n,x.shows[j]?=some n:=⟨_,bL (by omega)⟩
 have u:=(v.shows x q).2 n (aB z);have L:=v.stay x q;have J:=A.grams;have I:(i:Int)<(s.colours.length:Int):=K.2;have G:(j:Int)<(x.shows.length:Int):=by omega
 have O:0<=b.grams*n/\b.grams*n<=100000000:=⟨pF (by omega) u.1,by have:=pG J.2 u.2 u.1 (by omega:(0:Int)<=100000);omega⟩
 have F:i64.wrap (b.grams*n)=b.grams*n:=ah;have E:i64.wrap (1000*x.stay.hi)=1000*x.stay.hi:=ah;have C:kr s (i:Int) b r=((i:Int) != (j:Int)&&decide (b.grams*n*1000^r<1000*x.stay.hi*s.keep.hi^r)):=by
  simp only[kr,gX,hx,D,z]
 rw[C];simp only[hx,I,D,z,G,F,go_sem,simprocAttr];cases R:((i:Int) != (j:Int))
 .simp[go_sem]
 refine zn E ?_
 (first|refine aa (z8 (1000*x.stay.hi) s.keep.hi r (by omega) (by have:=v.keep;omega) y) rfl ?_|refine aj (z8 (1000*x.stay.hi) s.keep.hi r (by omega) (by have:=v.keep;omega) y) rfl ?_)
 refine zm ?_
 (first|refine aa (z8 (b.grams*n) 1000 r (by omega) (by omega) y) rfl ?_|refine aj (z8 (b.grams*n) 1000 r (by omega) (by omega) y) rfl ?_)
 simp[go_sem]
def Wa(s)(l)(e:Int)(b)(q:ShopOk s)(y:BatchOk s b)(z:0<=e/\e<s.colours.length) :
  af TP 383 [MP s l,.int .i64 e,b.pv] (.int .i64 (fm s e b)):=by
 refine ae (ag func383 rfl) rfl (zm ?_);refine dl [0,1,5] (σ:=Nat) (λk=>k<=4/\fm s e b=mw (kr s e b) (4-k) k) (λk=>4-k) (λk=>[(8,.p (.int .i64 k))]) (λk=>[.row 2 [.p b.pv]]) 0 ⟨by decide,rfl⟩ ?_ ?_
 .simp only[go_sem,simprocAttr]<;>simp
 intro k ⟨u,i⟩;rcases pI u with rfl|A
 .rw[show 4-4=0 from rfl,mw]at i;simp[i,go_sem]
 have v:decide ((k:Int)<4)=true:=by simp;omega
 have hw:i64.wrap ((k:Int)+1)=((k+1:Nat):Int):=aO (by omega) (by simp[ai];omega) (by omega);rw[show 4-k=(4-(k+1))+1 by omega,mw]at i;refine zn v ?_;refine bq (YB s l e b k q y z (by omega)) ?_ (.bool _) ?_
 .simp[go_sem]
 refine zm ?_;cases j:kr s e b k
 .rw[j,if_neg (by decide)]at i;simp[i,go_sem]
 .rw[j,if_pos rfl]at i;refine zm ?_;refine aF (k+1) ⟨by omega,i⟩ (by omega) ?_;simp[hw,go_sem]
def oP (s:ClShop) (l:List ClBatch) (m:Nat):AObj:=.row 6 [.agg [.p (.slice 4 (s.colours.map ClColour.pv) false),.p (.int .i64 s.keep.lo),.p (.int .i64 s.keep.hi),.p (.int .i64 s.rinse),.p (.slice 2 (l.map ClBatch.pv) false),.ref .mp m]]
attribute [go_sem] oP
def IY{e j}{a b c}{u}{t}(i:u=.p .nilptr\/u=.ptr 6 1 0 0):lk TP 379 [.ptr 3 1 0 0,.ptr 4 1 0 0] (.pan (.iface 43 (.int .i64 e))) (a::b::c::.row 1 [u]::.row 1 [.p (.int .i64 j)]::t)
  (λr u h'=>r=.ret (.p (.tuple []))/\u=.recd (.iface 43 (.int .i64 e))/\h'=a::b::c::.row 1 [.p .nilptr]::.row 1 [.p (.int .i64 e)]::t):=by
 refine ii (dv (by kernel_rfl) rfl Ua) rfl ?_;rcases i with rfl|rfl<;>simp[Zn,aD,pS,j0,bI,go_sem]
def Qt{i j}{h}:lk TP 379 [.ptr i 1 0 0,.ptr j 1 0 0] .ret h (λr u h'=>r=.ret (.p (.tuple []))/\u=.ret/\h'=h):=by
 refine ii (dv (by kernel_rfl) rfl Ua) rfl ?_;simp[pS,j0,go_sem]
def eb{rs}{R}{T}{e l}{a b c}{u}{t}(i:u=.p .nilptr\/u=.ptr 6 1 0 0)(k:cW TP rs R T [] .ret (a::b::c::.row 1 [.p .nilptr]::.row 1 [.p (.int .i64 e)]::t)) :
  cW TP rs R T [.fn 379 [.ptr 3 1 0 0,.ptr 4 1 0 0]] (.pan (.iface 43 (.int .i64 e))) (a::b::c::.row 1 [u]::.row 1 [.p (.int .i64 l)]::t):=by
 rw[l7];refine(IY i).mono λr u h' j=>?_;obtain⟨rfl,rfl,rfl⟩:=j;exact k
def Bo{rs}{R}{T}{h}(k:cW TP rs R T [] .ret h):cW TP rs R T [.fn 379 [.ptr 3 1 0 0,.ptr 4 1 0 0]] .ret h:=by
 rw[l7];refine Qt.mono λr u h' e=>?_;obtain⟨rfl,rfl,rfl⟩:=e;exact k
def zaC(e):af TP 380 [.bool true,.int .i64 e] (.tuple []):=by
 refine ae (ag func380 rfl) rfl ?_;simp[go_sem]
def qZ{P}{H}{ops}{rest}{Q}{o}{e}{A}{f}{args}{pargs}{v}(i:af P f pargs v)(j:args=pargs.map .p)
  (h:@WD ⟨P,H,ops,rest,Q⟩ e (A.put o.dst (.p v) A.h)):@Rr ⟨P,H,ops,rest,Q,o⟩ e A (.call f args):=by
 subst j;exact .inl ⟨.p v,λ_ _=>sM i,h⟩
def Ny(s)(l)(b)(D:s.colours.length<=6)(C A z y v u q):aw TP 381 [.ptr 6 1 0 0,.p b.pv] [C,A,z,y,v,u,oP s l 5,q]
  (λr h'=>h'=[C,A,z,y,v,u,oP s l 5,q,.row 2 [.p b.pv]]/\r=if ep s b=0 then .ret (.p (.tuple [])) else .panic (.iface 43 (.int .i64 (ep s b)))):=by
 refine au (dv (by kernel_rfl) rfl ZL) rfl ?_;have hw:i64.wrap ((s.colours.length:Int)-1)=(s.colours.length:Int)-1:=ah;simp only[Zm,aD,hw,go_sem,simprocAttr]
 (first|refine aa (gk 0 ((s.colours.length:Int)-1) [b.colour] true (by simp)) rfl ?_|refine aj (gk 0 ((s.colours.length:Int)-1) [b.colour] true (by simp)) rfl ?_)
 simp only[bZ,cO,dd,qz,go_sem,simprocAttr];cases i:aq b.colour 0 ((s.colours.length:Int)-1)
 .have e:ep s b=4:=by rw[ep,i];rfl
  refine TM λT=>?_;simp[e,go_sem]
 refine qZ (zaC 4) rfl (zm ?_);refine aa (gk 1 100000 [_] true (by simp)) rfl ?_;simp only[bZ,cO,dd,qz,go_sem,simprocAttr];cases j:aq b.grams 1 100000
 .have e:ep s b=7:=by rw[ep,i,j];rfl
  refine az (λh=>by cases h) λ_=>?_;simp[e,go_sem]
 have e:ep s b=0:=by rw[ep,i,j];rfl
 refine az (λ_=>?_) (λh=>by cases h);simp[e,go_sem]
def Nx(s)(start)(l)(x)(N:l.length<1000000000):aw TP 350 [.p s.pv,.p (.slice 2 (l.map ClBatch.pv) false),.slice 1 1 0 1] [x,.row 1 [.p (.int .i64 start)]]
  (λr h'=>(dj s start l=0/\ShopOk s/\(∀b,b∈l->BatchOk s b)/\l.length<=7/\r=.ret (.tuple [.ptr 6 1 0 0,.p (.int .i64 0)])/\h'=[x,.row 1 [.p (.int .i64 start)],.row 4 [.p s.pv],.row 1 [.ptr 6 1 0 0],.row 1 [.p (.int .i64 0)],.mp [],oP s l 5]) \/
   (dj s start l≠0/\r=.ret (.p (.tuple [.nilptr,.int .i64 (dj s start l)]))/\∃t,h'=[x,.row 1 [.p (.int .i64 start)],.row 4 [.p s.pv],.row 1 [.p .nilptr],.row 1 [.p (.int .i64 (dj s start l))]]++t)):=by
 refine KG λD=>?_;have A:bB 7 x:=Ku (n:=2) (by decide) (D x (by simp));refine au (ag func350 rfl) rfl (zm ?_);refine aa (rY s) rfl ?_;simp only[ao,go_sem,simprocAttr];cases K:((clCheck s).2.2==0)
 .have e:¬(clCheck s).2.2=0:=by simpa using K
  have j:dj s start l=(clCheck s).2.2:=by rw[dj,if_neg e]
  refine az (λh=>by cases h) λ_=>?_;refine zm ?_;refine eb (.inl rfl) (zm ?_);grind
 have e:(clCheck s).2.2=0:=by simpa using K
 have G:=sZ e;have M:=G.len;have hw:i64.wrap ((s.colours.length:Int)-1)=(s.colours.length:Int)-1:=ah;refine az (λ_=>?_) (λh=>by cases h);refine zo e hw ?_;refine bq (gk 0 ((s.colours.length:Int)-1) [start] false (by simp)) ?_ (.bool _) ?_
 .simp[go_sem]
 simp only[bZ,cO,dd,qz,go_sem,simprocAttr];cases J:aq start 0 ((s.colours.length:Int)-1)
 .have j:dj s start l=4:=by rw[dj,if_pos e,J];rfl
  refine az (λh=>by cases h) λ_=>?_;refine zm ?_;refine eb (.inl rfl) (zm ?_);grind
 have C:dj s start l=iH s l:=by rw[dj,if_pos e,J];rfl
 refine az (λ_=>?_) (λh=>by cases h);refine zm ?_;cases I:decide ((l.length:Int)<=7)
 .have y:¬l.length<=7:=by simp at I;omega
  have j:dj s start l=3:=by rw[C,iH,if_neg y]
  refine az (λh=>by cases h) λ_=>?_;refine zm ?_;refine eb (.inl rfl) (zm ?_);grind
 have y:l.length<=7:=by simp at I;omega
 have u:dj s start l=eh s l:=by rw[C,iH,if_pos y]
 refine az (λ_=>?_) (λh=>by cases h);refine zm ?_
 refine aG [6,7,38,39] l (by omega) (τ:=Unit) (λd_ rest _=>eh s l=eh s rest) (λd_ _=>[(40,.p (.int .i64 d_.length))])
  (λ_ _=>[x,.row 1 [.p (.int .i64 start)],.row 4 [.p s.pv],.row 1 [.ptr 6 1 0 0],.row 1 [.p (.int .i64 0)],.mp [],oP s l 5]) () rfl ?_ ?_ ?_
 .refine zm ?_;exact⟨A,show 5<7 by decide⟩
 .intro _ q;rw[eh]at q;refine zm ?_;refine Bo (zm ?_);exact .inl ⟨u.trans q,G,xw q,y⟩
 .intro d_ b r _ L q hx F E;rw[eh]at q;refine zo F hx ?_;refine cZ (Ny s l b (by omega) _ _ _ _ _ _ _) (λv h i=>?_) (λv h i=>?_)
  .obtain⟨rfl,i⟩:=i;by_cases z:ep s b=0
   .rw[if_pos z]at q i;cases i;refine zm ?_;refine am L () q (zn E ?_);exact⟨A,show 5<7 by decide⟩
   .rw[if_neg z]at i;cases i
  .obtain⟨rfl,i⟩:=i;by_cases z:ep s b=0
   .rw[if_pos z]at i;cases i
   .rw[if_neg z]at q i;cases i;refine zm ?_;refine eb (.inr rfl) (zm ?_);grind
section
variable (need:Int->Nat->Option Int) (col:Nat->Int)
def dq (a b:Option (List Nat×Int)):Option (List Nat×Int):=
 match a,b with
 |none,b=>b
 |a,none=>a
 |some p,some q=>if q.2<p.2 then some q else some p
def jo (i:Nat) (n:Option Int) (r:Option (List Nat×Int)):Option (List Nat×Int):=
 match n,r with
 |some n,some (o,c)=>some (i::o,n+c)
 |_,_=>none
def gB:Nat->Int->List Nat->Option (List Nat×Int)
 |_,_,[]=>some ([],0)
 |0,_,_::_=>none
 |k+1,c,i::l=>(i::l).foldl (λa j=>dq a (jo j (need c j) (gB k (col j) ((i::l).erase j)))) none
def dT:Nat->List Nat->List (List Nat)
 |_,[]=>[[]]
 |0,_::_=>[]
 |k+1,i::l=>(i::l).flatMap λj=>(dT k ((i::l).erase j)).map (j::·)
def jv:Int->List Nat->Option Int
 |_,[]=>some 0
 |c,i::o=>match need c i,jv (col i) o with|some n,some m=>some (n+m)|_,_=>none
def eQ (c:Int) (l:List (List Nat)) (a:Option (List Nat×Int)):Option (List Nat×Int):=l.foldl (λa o=>dq a ((jv need col c o).map λn=>(o,n))) a
def iT(a):dq a none=a:=by cases a<;>rfl
def fB(a):dq none a=a:=by cases a<;>rfl
def Jx(a b c):dq (dq a b) c=dq a (dq b c):=by
 cases a with
 |none=>simp[fB]
 |some p=>cases b with
  |none=>simp[iT,fB]
  |some q=>cases c with
   |none=>simp[iT]
   |some r=>
    grind[dq]
def kE(c):∀(l) (a),eQ need col c l a=dq a (eQ need col c l none)
 |[],a=>by simp[eQ,iT]
 |o::l,a=>by
  have i:=kE c l (dq a ((jv need col c o).map λn=>(o,n)));have e:=kE c l (dq none ((jv need col c o).map λn=>(o,n)));simp only[eQ,pD]at i e |-;rw[i,e,fB,Jx]
def Kn(c)(l m)(a):eQ need col c (l++m) a=dq (eQ need col c l a) (eQ need col c m none):=by
 rw[<-kE];simp[eQ,vW]
def IZ(i)(n)(a b):jo i n (dq a b)=dq (jo i n a) (jo i n b):=by
 cases n with
 |none=>rfl
 |some n=>cases a with
  |none=>simp[fB,jo]
  |some p=>cases b with
   |none=>simp[iT,jo]
   |some q=>
    grind[jo,dq]
def Fh(c)(i):∀(l),eQ need col c (l.map (i::·)) none=jo i (need c i) (eQ need col (col i) l none)
 |[]=>by simp[eQ,jo]
 |o::l=>by
  have j:=Fh c i l;rw[bf];rw[show eQ need col c ((i::o)::l.map (i::·)) none=eQ need col c (l.map (i::·)) (dq none ((jv need col c (i::o)).map λn=>(i::o,n))) from rfl];rw[show eQ need col (col i) (o::l) none=eQ need col (col i) l (dq none ((jv need col (col i) o).map λn=>(o,n))) from rfl];rw[kE need col c _ (dq none _),j,kE need col (col i) l (dq none _),IZ,fB,fB,jv];have e:(match need c i,jv need col (col i) o with|some n,some m=>some (n+m)|_,_=>none).map (λn=>(i::o,n))=jo i (need c i) ((jv need col (col i) o).map λn=>(o,n)):=by
   cases need c i<;>cases jv need col (col i) o<;>simp[jo]
  rw[e]
def rn{α β:Type}{f g:β->α->β}:∀{l:List α} {b},(∀b x,x∈l->f b x=g b x)->l.foldl f b=l.foldl g b
 |[],_,_=>rfl
 |x::l,b,h=>by rw[pD,pD,h b x (by simp),rn λb y e=>h b y (by simp[e])]
def Fg(c)(f):∀(l:List Nat) (a),eQ need col c (l.flatMap f) a=l.foldl (λa j=>dq a (eQ need col c (f j) none)) a
 |[],a=>rfl
 |j::l,a=>by rw[mS,Kn,pD,<-Fg c f l,kE need col c (l.flatMap f) (dq a _),kE need col c (f j) a]
def zj:∀(k) (c) (l),l.length<=k->eQ need col c (dT k l) none=gB need col k c l
 |k,c,[],h=>by cases k<;>simp[dT,gB,eQ,jv,fB]
 |0,c,i::l,h=>by simp at h
 |k+1,c,i::l,h=>by
  rw[dT,gB,Fg];refine rn λa j e=>?_;rw[Fh,zj k (col j) _ (by grind)]
def wH(c):∀(l) (o) (n),eQ need col c l none=some (o,n)->o∈l/\jv need col c o=some n
 |[],o,n,h=>by simp[eQ]at h
 |x::l,o,n,h=>by
  rw[show eQ need col c (x::l) none=eQ need col c l (dq none ((jv need col c x).map λn=>(x,n))) from rfl,kE,fB]at h
  cases hx:jv need col c x with
  |none=>
   rw[hx,Option.map_none,fB]at h;have:=wH c l o n h
   grind
  |some m=>
   rw[hx,i8]at h
   cases e:eQ need col c l none with
   |none=>rw[e,iT]at h;grind
   |some q=>
    rw[e]at h;simp only[dq]at h;split at h
    .cases h;have:=wH c l _ _ e;grind
    grind
def uP:∀(k) (l o),o∈dT k l->o.Perm l
 |k,[],o,h=>by cases k<;>(simp[dT]at h;grind)
 |0,i::l,o,h=>by simp[dT]at h
 |k+1,i::l,o,h=>by
  rw[dT,wc]at h;obtain⟨j,q,h⟩:=h;obtain⟨p,e,rfl⟩:=cA.1 h;exact((uP k _ p e).cons j).trans (List.perm_cons_erase q).symm
end
def gm (m:Nat):List Nat:=(List.range 7).filter m.testBit
set_option maxRecDepth 100000 in
def sR:∀m,m<128->∀i,i<7->m.testBit i=true->(gm m).erase i=gm (m-2^i)/\2^i<=m:=by decide
def Jv{m i}:i∈gm m↔i<7/\m.testBit i=true:=by simp[gm]
def F7:gm 0=[]:=by decide
set_option maxRecDepth 100000 in
def Ju:∀m,m<128->gm m=[]->m=0:=by decide
def xr(m):(gm m).length<=7:=by grind[gm]
def nA:Int:=1099511627776
def jT:Option (List Nat×Int)->Int×Int
 |none=>(nA,-2)
 |some (o,n)=>(n,match o with|[]=>-1|i::_=>(i:Int))
section
variable (need:Int->Nat->Option Int) (col:Nat->Int)
def lZ (c:Int) (f:Nat->Int×Int) (p:Int×Int) (j:Nat):Int×Int:=
 match need c j with
 |none=>p
 |some n=>if n+(f j).1<p.1 then(n+(f j).1,(j:Int)) else p
def qp (B:Int) (a:Option (List Nat×Int)):Prop:=∀o n,a=some (o,n)->0<=n/\n<=B
def x9{B}{a b}(i:qp B a)(e:qp B b):qp B (dq a b):=by
 intro o n h
 cases a with
 |none=>cases b<;>first|exact e o n h|cases h
 |some p=>
  cases b with
  |none=>exact i o n h
  |some q=>
   simp only[dq]at h;split at h
   .exact e o n h
   .exact i o n h
def Al{α:Type}{B}{f:α->Option (List Nat×Int)}:∀(l:List α) (a),qp B a->(∀x,x∈l->qp B (f x))->qp B (l.foldl (λa x=>dq a (f x)) a)
 |[],a,e,_=>e
 |x::l,a,e,h=>Al l _ (x9 e (h x (by simp))) λy i=>h y (by simp[i])
def nV(e:∀c j n,need c j=some n->0<=n/\n<=30000):∀(k:Nat) (c) (l),qp (30000*(k)) (gB need col k c l)
 |k,c,[]=>by
  grind[qp,gB]
 |0,c,i::l=>by simp[qp,gB]
 |k+1,c,i::l=>by
  rw[gB];refine Al _ none (λo n h=>by cases h) λj y=>?_;intro o n h;unfold jo at h;split at h
  .rename_i n1 q c1 v u;have A:=e _ _ _ v;have z:=nV e k (col j) _ q c1 u;cases h;omega
  .cases h
def Pu{B}(C:B+30000<nA)(l:∀c j n,need c j=some n->0<=n/\n<=30000)(c)(j){a r}{f}(y:qp (B+30000) a)(i:qp B r)(u:f j=jT r) :
  jT (dq a (jo j (need c j) r))=lZ need c f (jT a) j:=by
 unfold lZ
 cases v:need c j with
 |none=>simp only[jo,iT]
 |some n=>
  have z:=l _ _ _ v;dsimp only;rw[u]
  cases r with
  |none=>
   simp only[jo,iT];rw[if_neg]
   cases a with
   |none=>omega
   |some p=>have:=y p.1 p.2 rfl;simp only[jT];omega
  |some q=>
   have A:=i q.1 q.2 rfl;simp only[jo]
   cases a with
   |none=>
    simp only[fB,jT]
    grind
   |some p=>
    simp only[dq,jT];grind
def Cq{B}(u:B+30000<nA)(i:∀c j n,need c j=some n->0<=n/\n<=30000)(c)(r:Nat->Option (List Nat×Int))(e:∀j,qp B (r j)):∀(l:List Nat) (a),qp (B+30000) a ->
  jT (l.foldl (λa j=>dq a (jo j (need c j) (r j))) a)=l.foldl (lZ need c λj=>jT (r j)) (jT a)
 |[],a,_=>rfl
 |j::l,a,q=>by
  rw[pD,pD,<-Pu need u i c j q (e j) rfl];refine Cq u i c r e l _ (x9 q ?_);intro o n h;unfold jo at h;split at h
  .rename_i n1 v c1 z y;have C:=i _ _ _ z;have A:=e j v c1 y;cases h;omega
  .cases h
def nu (c:Int) (m:Nat):Int×Int:=jT (gB need col 7 c (gm m))
def zk:∀(k) (c) (l),l.length<=k->gB need col (k+1) c l=gB need col k c l
 |0,c,[],_=>rfl
 |0,c,_::_,h=>by simp at h
 |k+1,c,[],_=>rfl
 |k+1,c,i::l,h=>by
  rw[gB,gB];refine rn λa j e=>?_;rw[zk k (col j) _ (by grind)]
def Aq(c):nu need col c 0=(0,-1):=by
 rw[nu,F7];rfl
def Km(q:∀c j n,need c j=some n->0<=n/\n<=30000)(c){m}(u:m<128)(A:m≠0) :
  nu need col c m=(gm m).foldl (lZ need c λj=>nu need col (col j) (m-2^j)) (nA,-2):=by
 have z:=xr m;unfold nu;rw[<-zk need col 7 c _ z]
 cases v:gm m with
 |nil=>exact absurd (Ju m u v) A
 |cons i l=>
  rw[gB];have y:=nV need col q 7;rw[Cq need (B:=210000) (by simp[nA]) q c (λj=>gB need col 7 (col j) ((i::l).erase j)) (λj o n h=>y _ _ o n h) (i::l) none (λo n h=>by cases h)];refine rn λa j e=>?_;rw[<-v]at e |-;rw[Jv]at e;simp only[lZ,(sR m u j e.1 e.2).1]
def C3{f:Nat->Option (List Nat×Int)}:∀(l:List Nat) (a) (o) (n),l.foldl (λa j=>dq a (f j)) a=some (o,n)->a=some (o,n)\/∃j,j∈l/\f j=some (o,n)
 |[],a,o,n,h=>.inl h
 |j::l,a,o,n,h=>by
  rcases C3 l _ o n h with h|⟨i,hi,h⟩
  .cases a with
   |none=>exact .inr ⟨j,by simp,(fB _).symm.trans h⟩
   |some p=>
    dsimp only at h
    cases e:f j with
    |none=>simp only[e,iT]at h;exact .inl h
    |some q=>
     simp only[e,dq]at h;grind
  grind
def Rb{k}{c}{i}{l}{o}{n}(h:gB need col (k+1) c (i::l)=some (o,n)):∃j e u,j∈i::l/\o=j::e/\gB need col k (col j) ((i::l).erase j)=some (e,u):=by
 rw[gB]at h;rcases C3 _ none o n h with h|⟨j,v,h⟩
 .cases h
 .unfold jo at h;grind
def M3{c}{m}(y:m<128)(C:m≠0){o}{n}(h:gB need col 7 c (gm m)=some (o,n)):∃j q u,j<7/\m.testBit j=true/\o=j::q/\(nu need col c m).2=(j)/\gB need col 7 (col j) (gm (m-2^j))=some (q,u):=by
 have A:=xr m;have z:nu need col c m=jT (some (o,n)):=by rw[nu,h]
 rw[<-zk need col 7 c _ A]at h
 cases v:gm m with
 |nil=>exact absurd (Ju m y v) C
 |cons i l=>
  rw[v]at h;obtain⟨j,q,u,e,rfl,h'⟩:=Rb need col h;rw[<-v]at e h';rw[Jv]at e;rw[(sR m y j e.1 e.2).1]at h';exact⟨j,q,u,e.1,e.2,rfl,by rw[z];rfl,h'⟩
end
set_option maxRecDepth 4000
def Dg(n:Int)(r:Nat)(q:0<=n/\n<=1000)(C:r<=3):af TP 405 [.int .i64 n,.int .i64 r] (.int .i64 (n^r)):=by
 refine ae (ag func405 rfl) rfl (zm ?_);have y:∀k:Nat,k<=3->0<=n^k/\n^k<=1000000000:=λk j=>by
  have u:=GY q.1 q.2 k;have z:(1000:Int)^k<=1000000000:=by
   match k,j with
   |0,_=>decide
   |1,_=>decide
   |2,_=>decide
   |3,_=>decide
  omega
 refine dY [0,1] (σ:=Nat) (λk=>k<=r) (λk=>r-k) (λk=>[(5,.p (.int .i64 (n^k))),(6,.p (.int .i64 k))]) (λk=>[]) 0 (cG _) rfl ?_ ?_
 .refine zm ?_;simp
 intro k i;rcases pI i with rfl|A
 .have e:decide ((k:Int)<(k:Int))=false:=by simp
  simp[e,go_sem]
 have e:decide ((k:Int)<(r:Int))=true:=by simp;omega
 have hw:i64.wrap ((k:Int)+1)=((k+1:Nat):Int):=aO (by omega) (by simp[ai];omega) (by omega);have l:=y (k+1) (by omega);have v:i64.wrap (n^k*n)=n^(k+1):=by
  rw[Int.pow_succ]at l |-;exact ah
 refine zn e ?_;refine aZ (k+1) (by omega) (by omega) rfl ?_;simp[hw,v,go_sem]
def za4{r}(e:r<=3):(1000:Int)^r<=1000000000/\0<=(1000:Int)^r:=by
 match r,e with
 |0,_=>decide
 |1,_=>decide
 |2,_=>decide
 |3,_=>decide
def zbj(s:ClShop)(e:Int)(b:ClBatch)(r:Nat)(C:ShopOk s)(I:BatchOk s b)(O:0<=e/\e<s.colours.length)(u:r<=3) :
  af TP 393 [s.pv,.int .i64 e,b.pv,.int .i64 r] (.bool (kr s e b r)):=by
 refine ae (ag func393 rfl) rfl ?_;obtain⟨i,rfl⟩:∃i:Nat,e=(i:Int):=⟨e.toNat,by omega⟩
 obtain⟨j,y⟩:∃j:Nat,b.colour=(j:Int):=⟨b.colour.toNat,by have:=I.colour;omega⟩
 have T:=I.colour;obtain⟨x,hx⟩:∃x,s.colours[i]?=some x:=⟨_,bL (by omega)⟩
 have l:=aB hx;have S:=(C.shows x l).1;obtain⟨n,v⟩:∃n,x.shows[j]?=some n:=⟨_,bL (by omega)⟩
 have q:=(C.shows x l).2 n (aB v);have R:=C.stay x l;have N:=I.grams;have X:=C.keep;have A:(i:Int)<(s.colours.length:Int):=O.2;have G:(j:Int)<(x.shows.length:Int):=by omega
 have M:0<=b.grams*n/\b.grams*n<=100000000:=⟨pF (by omega) q.1,by have:=pG N.2 q.2 q.1 (by omega:(0:Int)<=100000);omega⟩
 have z:=za4 u;have F:=GY (k:=s.keep.hi) (by omega) (by omega) r;have V:0<=1000*x.stay.hi*s.keep.hi^r/\1000*x.stay.hi*s.keep.hi^r<=1000000*1000000000:=⟨pF (by omega) F.1,pG (by omega) (xS F.2 z.1) F.1 (by omega)⟩
 have U:0<=b.grams*n*1000^r/\b.grams*n*1000^r<=100000000*1000000000:=⟨pF (by omega) z.2,pG M.2 z.1 z.2 (by omega)⟩
 have E:i64.wrap (b.grams*n)=b.grams*n:=ah;have D:i64.wrap (1000*x.stay.hi)=1000*x.stay.hi:=ah;have L:i64.wrap (1000*x.stay.hi*s.keep.hi^r)=1000*x.stay.hi*s.keep.hi^r:=ah;have K:i64.wrap (b.grams*n*1000^r)=b.grams*n*1000^r:=ah;have J:kr s (i:Int) b r=((i:Int) != (j:Int)&&decide (b.grams*n*1000^r<1000*x.stay.hi*s.keep.hi^r)):=by
  simp only[kr,gX,hx,y,v]
 rw[J];refine zp hx A y ?_;cases Y:((i:Int) != (j:Int))
 .simp[hx,A,y,v,G,E,D,go_sem]
 simp only[hx,A,y,v,G,E,D,go_sem,simprocAttr]
 (first|refine aa (Dg s.keep.hi r (by omega) u) rfl ?_|refine aj (Dg s.keep.hi r (by omega) u) rfl ?_)
 simp only[hx,A,y,v,G,E,D,L,go_sem,simprocAttr]
 (first|refine aa (Dg 1000 r (by omega) u) rfl ?_|refine aj (Dg 1000 r (by omega) u) rfl ?_)
 simp[K,go_sem]
def QR(s:ClShop)(e:Int)(b:ClBatch)(q:ShopOk s)(v:BatchOk s b)(y:0<=e/\e<s.colours.length) :
  af TP 364 [s.pv,.int .i64 e,b.pv] (.int .i64 (fm s e b)):=by
 refine ae (ag func364 rfl) rfl (zm ?_);refine dl [1,3,5] (σ:=Nat) (λk=>k<=4/\fm s e b=mw (kr s e b) (4-k) k) (λk=>4-k) (λk=>[(7,.p (.int .i64 k))]) (λk=>[.row 4 [.p s.pv],.row 2 [.p b.pv]]) 0 ⟨by decide,rfl⟩ ?_ ?_
 .simp only[go_sem,simprocAttr]<;>simp
 intro k ⟨u,i⟩;rcases pI u with rfl|z
 .rw[show 4-4=0 from rfl,mw]at i;have j:decide (((4:Nat):Int)<=3)=false:=rfl;simp[j,i,go_sem]
 have j:decide ((k:Int)<=3)=true:=by simp;omega
 have hw:i64.wrap ((k:Int)+1)=((k+1:Nat):Int):=aO (by omega) (by simp[ai];omega) (by omega);rw[show 4-k=(4-(k+1))+1 by omega,mw]at i;refine zn j ?_;refine aa (zbj s e b k q v y (by omega)) rfl (zm ?_);cases l:kr s e b k
 .rw[l,if_neg (by decide)]at i;simp[i,go_sem]
 .rw[l,if_pos rfl]at i;refine zm ?_;refine aF (k+1) ⟨by omega,i⟩ (by omega) ?_;simp[hw,go_sem]
def Ia(e):∀(c r),mw e c r=-1\/((r)<=mw e c r/\mw e c r<r+c)
 |0,r=>.inl rfl
 |c+1,r=>by
  rw[mw];split
  .rcases Ia e c (r+1) with h|h
   .exact .inl h
   omega
  omega
def Lx(s)(c)(b):-1<=fm s c b/\fm s c b<=3:=by
 have:=Ia (kr s c b) 4 0;grind[fm]
def m4 (s:ClShop) (c:Int) (b:ClBatch):Option Int:=if fm s c b<0 then none else some (fm s c b*s.rinse)
def jw (s:ClShop):Int->List ClBatch->Option Int
 |_,[]=>some 0
 |c,b::l=>match m4 s c b,jw s b.colour l with|some n,some m=>some (n+m)|_,_=>none
def CG:Option Int->Int
 |none=>-1
 |some n=>n
def vp{s}(i:ShopOk s){c}{b}{n}(h:m4 s c b=some n):0<=n/\n<=30000:=by
 unfold m4 at h;split at h
 .cases h
 .rename_i l;cases h;have j:=Lx s c b;have e:=i.rinse;have:=pG j.2 e.2 e.1 (by omega:(0:Int)<=3);exact⟨pF (by omega) e.1,by omega⟩
def YI(s:ClShop)(e:Int)(l:List ClBatch)(y:ShopOk s)(I:∀b,b∈l->BatchOk s b)(K:0<=e/\e<s.colours.length)(R:l.length<=1000) :
  af TP 327 [s.pv,.int .i64 e,.slice 2 (l.map ClBatch.pv) false] (.int .i64 (CG (jw s e l))):=by
 refine ae (ag func327 rfl) rfl (zm ?_)
 refine aG [2,3] l (by omega) (τ:=Int×Int) (λd_ rest q=>jw s e l=(jw s q.2 rest).map (q.1+·)/\(0<=q.1/\q.1<=30000*(d_.length:Int))/\0<=q.2/\q.2<s.colours.length)
  (λd_ q=>[(1,.p (.int .i64 q.2)),(7,.p (.int .i64 q.1)),(8,.p (.int .i64 d_.length))]) (λ_ _=>[.row 4 [.p s.pv]]) (0,e) ⟨by simp,by simp,K⟩ ?_ ?_ ?_
 .simp only[go_sem,simprocAttr]<;>simp
 .rintro⟨a,c⟩ ⟨i,_⟩
  simp only[jw,i8,uJ]at i;simp[i,CG,go_sem]
 .rintro d_ b r ⟨a,c⟩ E ⟨i,J,C⟩ hx v D
  dsimp only at i J C;have j:=I b (by rw[E];simp);have O:d_.length<l.length:=by omega
  have M:=Lx s c b;have L:=y.rinse;rw[jw]at i;refine zo v hx ?_
  (first|refine aa (QR s c b y j C) rfl ?_|refine aj (QR s c b y j C) rfl ?_)
  refine zm ?_;by_cases z:fm s c b<0
  .have A:decide (fm s c b<0)=true:=by simpa using z
   rw[m4,if_pos z]at i;simp[A,i,CG,go_sem]
  .have A:decide (fm s c b<0)=false:=by simpa using z
   have u:m4 s c b=some (fm s c b*s.rinse):=by rw[m4,if_neg z]
   have N:=vp y u;have G:i64.wrap (fm s c b*s.rinse)=fm s c b*s.rinse:=ah;have F:i64.wrap (a+fm s c b*s.rinse)=a+fm s c b*s.rinse:=ah;rw[u]at i;refine t_ A v hx G F ?_;refine am E (a+fm s c b*s.rinse,b.colour) ⟨?_,by simp;omega,j.colour⟩ ?_
   .rw[i]
    cases jw s b.colour r with
    |none=>rfl
    |some m=>grind
   .simp[D,go_sem]
end Cl
variable {P:Program} {M0:Nat->Prop}
def HM{w:World}{b}{ob}(h:w.heap[b]?=some ob):w.putObj b ob=w:=by
 obtain⟨l,j⟩:=xC.1 h;have:w.heap.setIfInBounds b ob=w.heap:=by
  apply tk
  .simp
  .grind
 unfold World.putObj;simp_all
def PG{S}(q:HOk P M0 S){id}{φ}(e:S.h[id]?=some (.memo φ)) :
  qr φ/\∃es,(∀p,p∈es->φ p.1 p.2=true)/\HOk P M0 ⟨S.m,S.h.set id (.mp es),S.w⟩/\Ev S.h.length S ⟨S.m,S.h.set id (.mp es),S.w⟩:=by
 obtain⟨y,es,z,bl,C,i,u,l,j⟩:=q.obj id _ e;have:=lq q (o:=.mp es) (ob:=.map C i) u e l (ph l) (by simp) (.inr (.inr ⟨by simp[AObj.tag],rfl,rfl⟩)) (λA hx=>⟨bl,C,i,rfl,hx,j.mono λv a=>A.keepS⟩);rw[HM l]at this;grind
def wN{S}(q:HOk P M0 S){id}{es}{φ}(y:qr φ)(z:∀p,p∈es->φ p.1 p.2=true)(e:S.h[id]?=some (.mp es)) :
  HOk P M0 ⟨S.m,S.h.set id (.memo φ),S.w⟩/\Ev S.h.length S ⟨S.m,S.h.set id (.memo φ),S.w⟩:=by
 obtain⟨bl,C,i,u,l,j⟩:=q.obj id _ e;have:=lq q (o:=.memo φ) (ob:=.map C i) u e l (ph l) (by simp) (.inr (.inr ⟨by simp[AObj.tag],rfl,rfl⟩)) (λA hx=>⟨y,es,z,bl,C,i,rfl,hx,j.mono λv a=>A.keepS⟩);rw[HM l]at this;exact this
def Ns{f}{args}{h}{R}{id}{φ}(y:h[id]?=some (.memo φ))
  (k:qr φ->∀es,(∀p,p∈es->φ p.1 p.2=true)->aw P f args (h.set id (.mp es)) (λr l=>(l=h\/l=h.set id (.mp es))/\R r h)):aw P f args h R:=by
 intro M0 m w A N z;have D:=(aC.1 y).1;obtain⟨J,es,K,G,C⟩:=PG N y;have:=k J es K M0 m w A G (z.imp λv a _ M=>C.keep M);refine⟨this.1,this.2.mono λe w' hh=>?_⟩;obtain⟨r,l,m',⟨hh,L⟩,F,I,i⟩:=hh;have q:Ev h.length ⟨m,h,w⟩ ⟨m',l,w'⟩:=C.trans (by simpa using F);rcases hh with rfl|rfl
 .grind[uc]
 .have E:(h.set id (.mp es))[id]?=some (.mp es):=jp D;obtain⟨u,j⟩:=wN I (φ:=φ) J K E;have T:(h.set id (.mp es)).set id (.memo φ)=h:=by rw[sn];exact kU y
  dsimp only at u j;rw[T]at u j;refine⟨r,h,m',L,q.trans (by simpa using j),u,?_⟩
  cases e with
  |returned v'=>
   cases r with
   |panic v=>exact i.elim
   |ret a=>exact j.keep i
  |panicked U=>
   cases r with
   |ret a=>exact i.elim
   |panic v=>
    grind[Rz]
  |outgrown=>exact i.elim
def OP{A}{id}{es}{φ}(j:qr φ)(l:∀p,p∈es->φ p.1 p.2=true)(e:A.h[id]?=some (.mp es)):gU P A { A with h:=A.h.set id (.memo φ) }:=
 ⟨rfl,rfl,λM0 q b cs0 m a w i=>⟨m,by
  have:=wN (S:=⟨m,A.h,w⟩) i.hok j l e
  exact i.ahead (m':=m) (h':=A.h.set id (.memo φ)) (w':=w) this.2 this.1⟩⟩
variable {H:Hints} {Q:Cont}
end Abs
end Go.Proofs.YtgafommgcfhkkaaGreatDoor
