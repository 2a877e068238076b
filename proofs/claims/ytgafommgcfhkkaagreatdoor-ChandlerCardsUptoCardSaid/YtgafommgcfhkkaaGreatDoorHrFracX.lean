/- CONTRACTS of functions and laws. No conditions but those in the heads. -/
import Derived.Test.YtgafommgcfhkkaaGreatDoorAbsCutX
import Derived.Shelf.LaysM
import Derived.Shelf.LaysC
import Derived.Shelf.Strconv.Itoa3
import Derived.Shelf.Strconv.AtoiAll
import Derived.Shelf.Strconv.ErrVarAll
import Derived.Shelf.Strings.Search3
import Derived.Shelf.Strings.Count
import Derived.Lib.AppendIntMem
import Derived.Lib.AtoiErrMem
set_option linter.all false
set_option maxHeartbeats 2000000
open Go.Proofs.Tryz renaming prog->TP
open Go.Proofs.Tryz
open Go.IntKind (i64)
namespace Go.Proofs.YtgafommgcfhkkaaGreatDoor
namespace Abs
set_option maxRecDepth 4000
structure Frac where
 top:Int
 below:Int
 deriving DecidableEq
def Frac.pv (f:Frac):PV:=.agg [.int .i64 f.top,.int .i64 f.below]
attribute [go_sem] Frac.pv
def Frac.B (f:Frac):Prop:=-1000000000<=f.top/\f.top<=1000000000/\0<=f.below/\f.below<=1000000000
def Frac.lt (f g:Frac):Bool:=decide (f.top*g.below<g.top*f.below)
def Frac.down (f:Frac):Int:=f.top / f.below
def Frac.up (f:Frac):Int:=-(-f.top / f.below)
def yu{a b}(j:-1000000000<=a)(i:a<=1000000000)(e:0<=b)(l:b<=1000000000):-1000000000000000000<=a*b/\a*b<=1000000000000000000:=by
 have u:a*b<=1000000000*b:=xQ i e;have q:-1000000000*b<=a*b:=xQ j e;omega
def Dj(f g:Frac)(i:f.B)(e:g.B):af TP 341 [f.pv,g.pv] (.bool (f.lt g)):=by
 refine ae (ag func341 rfl) rfl ?_;have u:=yu i.1 i.2.1 e.2.2.1 e.2.2.2;have q:=yu e.1 e.2.1 i.2.2.1 i.2.2.2;have l:i64.wrap (f.top*g.below)=f.top*g.below:=ah;have j:i64.wrap (g.top*f.below)=g.top*f.below:=ah;simp[l,j,Frac.lt,go_sem]
def sw(a b:Int)(e:0<b):a / b=if a.tmod b<0 then a.tdiv b-1 else a.tdiv b:=by
 have i:=Int.tdiv_eq_ediv (a:=a) (b:=b);have l:=Int.tmod_eq_emod (a:=a) (b:=b);have y:=Int.emod_nonneg a (Int.ne_of_gt e);have v:=Int.emod_lt_of_pos a e;grind
def kO{a b B}(i:0<b)(q:-B<=a)(l:a<=B)(j:0<=B):-B<=a / b/\a / b<=B:=by
 refine⟨?_,?_⟩
 .have:-B*b<=a:=by
   have:B*1<=B*b:=v6 (by omega) j;have e:-B*b=-(B*b):=by rw[He]
   omega
  exact(DF i).2 this
 .rcases Hf 0 a with h|h
  .exact xS (Int.ediv_le_self b h) l
  .have:a / b<=0:=by
    have:=Hg i h;simpa using this
   omega
def od(f:Frac)(l:0<f.below)(u:-1000000000000000000<=f.top)(q:f.top<=1000000000000000000):af TP 343 [f.pv] (.int .i64 f.down):=by
 refine ae (ag func343 rfl) rfl ?_;have i:¬f.below=0:=by omega
 have z:=kO l u q (by omega);have e:=sw f.top f.below l;have y:i64.wrap (f.top.tdiv f.below)=f.top.tdiv f.below:=by
  split at e
  .exact ah
  .exact ah
 simp only[i,y,Frac.down,go_sem,simprocAttr];cases j:decide (f.top.tmod f.below<0)
 .rw[if_neg (by simpa using j)]at e;simp[e,go_sem]
 .rw[if_pos (by simpa using j)]at e;have v:i64.wrap (f.top.tdiv f.below-1)=f.top.tdiv f.below-1:=ah;simp[e,v,go_sem]
def cUp(f:Frac)(e:0<f.below)(u:-1000000000000000000<=f.top)(q:f.top<=1000000000000000000):af TP 344 [f.pv] (.int .i64 f.up):=by
 refine ae (ag func344 rfl) rfl ?_;have j:i64.wrap (-f.top)=-f.top:=ah;have l:=kO (a:=-f.top) (B:=1000000000000000000) e (by omega) (by omega) (by omega);have i:i64.wrap (-(-f.top / f.below))=-(-f.top / f.below):=ah;refine zn j ?_;refine aa (od ⟨-f.top,f.below⟩ e (by grind) (by grind)) rfl ?_;simp[Frac.down,i,Frac.up,go_sem]
def kJ (lo least:Frac):Frac:=if(decide (lo=⟨0,0⟩)||lo.lt least)=true then least else lo
def kK (hi most:Frac):Frac:=if(decide (hi=⟨0,0⟩)||most.lt hi)=true then most else hi
def zZ(f:Frac):((f.top==0)&&(f.below==0))=decide (f=⟨0,0⟩):=by
 cases f with
 |mk a b=>rw[km];simp
def zaf(lo hi least most)(i j)(h)(G:h[i]?=some (.row 2 [.p lo.pv]))(A:h[j]?=some (.row 2 [.p hi.pv]))(M:i≠j)(X:lo.B)(S:hi.B)(V:least.B)(R:most.B) :
  aw TP 340 [.p least.pv,.p most.pv,.ptr i 1 0 0,.ptr j 1 0 0] h (λr h'=>r=.ret (.p (.tuple [])) /\
   h'=(h.set i (.row 2 [.p (kJ lo least).pv])).set j (.row 2 [.p (kK hi most).pv])++[.row 2 [.p least.pv],.row 2 [.p most.pv]]):=by
 refine au (ag func340 rfl) rfl ?_;have L:i<h.length:=(aC.1 G).1;have E:j<h.length:=(aC.1 A).1;have K:∀t,(h++t)[i]?=some (.row 2 [.p lo.pv]):=λt=>by grind
 have J:∀t,(h++t)[j]?=some (.row 2 [.p hi.pv]):=λt=>by grind
 have q:∀x t,(h.set i x++t)[j]?=some (.row 2 [.p hi.pv]):=λx t=>by grind
 have U:∀t x,(h++t).set i x=h.set i x++t:=λt x=>ue _ _ L;have T:∀t x,(h++t).set j x=h.set j x++t:=λt x=>ue _ _ E;have D:∀t x y,(h.set i y++t).set j x=(h.set i y).set j x++t:=λt x y=>ue _ _ (by simpa using E);have N:=mz (lo:=h) rfl;have O:=mA (lo:=h) rfl;have v:∀x,∀t j,(h.set i x++t)[h.length+j]?=t[j]?:=λx=>mz (lo:=h.set i x) (by simp);have Y:∀x,∀t,(h.set i x++t)[h.length]?=t[0]?:=λx=>mA (lo:=h.set i x) (by simp);have e:h.set i (.row 2 [.p lo.pv])=h:=qD G;have u:h.set j (.row 2 [.p hi.pv])=h:=qD A;have l:∀x,(h.set i x).set j (.row 2 [.p hi.pv])=h.set i x:=λx=>qD (by grind);simp only[Frac.pv]at K J q e u l;simp only[dD,ak,aK,K,zZ,go_sem,simprocAttr];cases C:decide (lo=⟨0,0⟩)
 .simp only[aK,K,O,go_sem,simprocAttr];refine aa (Dj lo least X V) rfl (zm ?_);cases I:lo.lt least
  .simp only[aK,J,zZ,go_sem,simprocAttr];cases z:decide (hi=⟨0,0⟩)
   .simp only[aK,J,N,go_sem,simprocAttr];refine aa (Dj most hi R S) rfl (zm ?_);cases F:most.lt hi
    .refine zm ?_;grind[kJ,kK]
    .simp only[aK,J,N,T,go_sem,simprocAttr];grind[kJ,kK]
   .simp only[aK,J,N,T,go_sem,simprocAttr];grind[kJ,kK]
  .simp only[aK,K,q,O,U,zZ,go_sem,simprocAttr];cases z:decide (hi=⟨0,0⟩)
   .simp only[aK,q,v,go_sem,simprocAttr];refine aa (Dj most hi R S) rfl (zm ?_);cases F:most.lt hi
    .refine zm ?_;grind[kJ,kK]
    .simp only[aK,q,v,D,go_sem,simprocAttr];grind[kJ,kK]
   .simp only[aK,q,v,D,go_sem,simprocAttr];grind[kJ,kK]
 .simp only[aK,K,q,O,U,zZ,go_sem,simprocAttr];cases z:decide (hi=⟨0,0⟩)
  .simp only[aK,q,v,go_sem,simprocAttr];refine aa (Dj most hi R S) rfl (zm ?_);cases F:most.lt hi
   .refine zm ?_;grind[kJ,kK]
   .simp only[aK,q,v,D,go_sem,simprocAttr];grind[kJ,kK]
  .simp only[aK,q,v,D,go_sem,simprocAttr];grind[kJ,kK]
def jI (e:Int) (a b:HrMark):Frac×Frac:=(⟨60*(a.weight-b.weight-2*e),b.minute-a.minute⟩,⟨60*(a.weight-b.weight+2*e),b.minute-a.minute⟩)
def jO (e:Int):List HrMark->List HrMark->List (Frac×Frac)
 |_,[]=>[]
 |d_,b::r=>d_.map (λa=>jI e a b)++jO e (d_++[b]) r
def fU (t:HrTest):List (Frac×Frac):=jO t.error [] t.marks
def yS (q:Frac×Frac):List PV:=[q.1.pv,q.2.pv]
def tJ (t:HrTest):PV:=.func (.func 373) [] [.ptr 3 [t.pv] 0 0]
def YD(t):af TP 342 [t.pv] (tJ t):=by
 refine bX (ag func342 rfl) rfl ?_;simp[tJ,go_sem]
structure MarksOk (t:HrTest):Prop where
 len:t.marks.length<=10
 all:∀m,m∈t.marks->0<=m.minute/\m.minute<=1000000/\0<=m.weight/\m.weight<=10000000
 err:0<=t.error/\t.error<=10000
def X1(t)(hok:MarksOk t):OD TP (tJ t) 2 ((fU t).map yS):=by
 refine⟨λa ha=>?_,_,_,_,rfl,λid Inv a9 h0 a8 hy hi=>?_⟩
 .obtain⟨q,_,rfl⟩:=cA.1 ha;rfl
 have hl:=hok.len;have he:=hok.err;refine au (ag func373 rfl) rfl (zm ?_)
 refine dY [0,1,10,11] (σ:=List HrMark×List HrMark×List (Frac×Frac)×Heap×Heap)
  (λq=>t.marks=q.1++q.2.1/\fU t=q.2.2.1++jO t.error q.1 q.2.1/\Inv q.2.2.1.length q.2.2.2.1/\q.2.2.2.1.length=h0.length) (λq=>q.2.1.length)
  (λq=>[(12,.p (.int .i64 q.1.length))]) (λq=>q.2.2.2.1++q.2.2.2.2) ([],t.marks,[],h0,[]) ⟨rfl,rfl,hi,rfl⟩ (by simp) ?_ ?_
 .simp[go_sem]
 rintro⟨d_,rest,a0,lo,y⟩ ⟨z,K,X,j⟩
 dsimp only at z K X j
 cases rest with
 |nil=>
  have C:¬((d_.length:Int)<(t.marks.length:Int)):=by rw[z];simp
  refine zo C decide_false ?_;refine⟨lo,y,rfl,j,.inl ?_⟩;rw[K]
  grind[jO]
 |cons b r=>
  obtain⟨hx,C⟩:=ca z;have S:=congrArg List.length z;simp only[ak,bc]at S;have a4:i64.wrap ((d_.length:Int)+1)=(((d_++[b]).length:Nat):Int):=aO (by omega) (by simp[ai];omega) (by simp);have a6:((d_.length:Nat):Int)<=(t.marks.length:Int):=by omega
  have a3:(t.marks.map HrMark.pv).take d_.length=d_.map HrMark.pv:=by
   rw[z,aS,eX (by simp)]
  have a5:(d_.length==t.marks.length)=false:=by simp;omega
  have hb:=hok.all b (by rw[z];simp);rw[jO]at K;have Y:=mz j;have U:=oF j;have J:=mA (lo:=y) rfl;have V:=oG (lo:=y) rfl;simp only[C,decide_true,hx,a6,a3,a5,dD,ak,aK,j,Y,U,J,V,go_sem,simprocAttr]
  refine dY [0,1,4,10,11,12,20,21] (σ:=List HrMark×List HrMark×List (Frac×Frac)×Heap×Heap)
   (λq=>d_=q.1++q.2.1/\fU t=q.2.2.1++(q.2.1.map (λa=>jI t.error a b)++jO t.error (d_++[b]) r)/\Inv q.2.2.1.length q.2.2.2.1/\q.2.2.2.1.length=h0.length/\q.2.2.2.2[y.length]?=some (.row 2 [.p b.pv])) (λq=>q.2.1.length)
   (λq=>[(22,.p (.int .i64 q.1.length))]) (λq=>q.2.2.2.1++q.2.2.2.2) ([],d_,a0,lo,y++[.row 2 [.p b.pv]]) ⟨rfl,K,X,j,J _⟩ rfl ?_ ?_
  .simp[go_sem]
  clear Y U J V X j K
  rintro⟨d2,r2,u,M,e⟩ ⟨I,Z,F,i,E⟩
  dsimp only at I Z F i E
  cases r2 with
  |nil=>
   have R:¬((d2.length:Int)<(d_.length:Int)):=by rw[I];simp
   refine zo R decide_false ?_;refine aZ (d_++[b],r,u,M,e) ⟨by rw[z];simp,by simpa using Z,F,i⟩ (dc _) rfl ?_
   simp[a4,go_sem]
  |cons a r2=>
   obtain⟨a2,O⟩:=ca I;have G:=congrArg List.length I;simp only[ak,bc]at G;have N:i64.wrap ((d2.length:Int)+1)=(((d2++[a]).length:Nat):Int):=aO (by omega) (by simp[ai];omega) (by simp);have ha:=hok.all a (by rw[z,I];simp);have Y:=mz i;have U:=oF i;have J:=mA (lo:=e) rfl;have V:=oG (lo:=e) rfl;have D:∀x,(e++x)[y.length]?=some (.row 2 [.p b.pv]):=λx=>by grind
   simp only[HrMark.pv]at D;have w1:i64.wrap (a.weight-b.weight)=a.weight-b.weight:=ah;have w2:i64.wrap (b.minute-a.minute)=b.minute-a.minute:=ah;have w3:i64.wrap (2*t.error)=2*t.error:=ah;have w4:i64.wrap (a.weight-b.weight-2*t.error)=a.weight-b.weight-2*t.error:=ah;have w5:i64.wrap (60*(a.weight-b.weight-2*t.error))=60*(a.weight-b.weight-2*t.error):=ah;have w6:i64.wrap (a.weight-b.weight+2*t.error)=a.weight-b.weight+2*t.error:=ah;have w7:i64.wrap (60*(a.weight-b.weight+2*t.error))=60*(a.weight-b.weight+2*t.error):=ah;have T:((fU t).map yS)[u.length]?=some (yS (jI t.error a b)):=by rw[Z];simp
   simp only[O,decide_true,a2,dD,ak,aK,i,Y,U,J,V,D,w1,w2,w3,w4,w5,w6,w7,go_sem,simprocAttr];have a1:=hy u.length _ M (e++[AObj.row 2 [AV.p a.pv]]) T F i;refine r9 a1 (λv h' l=>?_) (λv h' l=>?_);rotate_left
   .obtain⟨_,_,_,_,l⟩:=l;rcases l with⟨l,_⟩|⟨l,_⟩<;>cases l
   obtain⟨L,ext,rfl,A,l⟩:=l;rcases l with⟨l,a7⟩|⟨l,hF⟩
   .cases l;refine zm ?_;refine aZ (d2++[a],r2,u++[jI t.error a b],L,e++[.row 2 [.p a.pv]]++ext) ⟨by rw[I];simp,by rw[Z];simp,by grind,A,by grind⟩ (dc _) (by simp[dD,HrMark.pv]) ?_;simp[N,go_sem]
   .cases l;refine zm ?_;grind
structure TestOk (t:HrTest):Prop extends MarksOk t where
 two:2<=t.marks.length
 sorted:t.marks.Pairwise λa b=>a.minute<b.minute
def kh (q p:Frac×Frac):Frac×Frac:=(kJ q.1 p.1,kK q.2 p.2)
def kb:Frac×Frac:=(⟨0,0⟩,⟨0,0⟩)
def dR (t:HrTest):Frac×Frac:=(fU t).foldl kh kb
def nC (x:Int):Int:=if 0<x then x else 0
def cC (t:HrTest):Span×Bool:=(⟨nC (dR t).1.down,nC (dR t).2.up⟩,!(dR t).2.lt (dR t).1)
def lj (q:Frac×Frac):Prop:=q.1.B/\q.2.B/\0<q.1.below/\0<q.2.below
def Cu{t}(hok:TestOk t):∀(rest d_),t.marks=d_++rest->∀q,q∈jO t.error d_ rest->lj q
 |[],_,_,q,h=>by cases h
 |b::r,d_,e,q,h=>by
  rw[jO,cn,cA]at h;rcases h with⟨a,i,rfl⟩|h
  .have v:=hok.all a (by rw[e];simp[i]);have u:=hok.all b (by rw[e];simp);have l:a.minute<b.minute:=by
    have:=hok.sorted;rw[e,List.pairwise_append]at this;exact this.2.2 a i b (by simp)
   have j:=hok.err;simp only[lj,jI,Frac.B];omega
  .exact Cu hok r (d_++[b]) (by rw[e];simp) q h
def nv{t}(hok:TestOk t):∀q,q∈fU t->lj q:=Cu hok t.marks [] rfl
def Bs{q p}(e:q=kb\/lj q)(i:lj p):lj (kh q p):=by
 unfold kh kJ kK;rcases e with rfl|e
 .simpa[kb]using i
 grind[lj,instDecidableEqFrac,Frac.lt]
def Bv:∀(l) (q),(q=kb\/lj q)->(∀p,p∈l->lj p)->(l.foldl kh q=kb/\l=[]\/lj (l.foldl kh q))
 |[],q,e,_=>e.imp (λh=>⟨h,rfl⟩) id
 |p::l,q,e,i=>by
  have:=Bv l (kh q p) (.inr (Bs e (i p (by simp)))) λp' j=>i p' (by simp[j]);rcases this with⟨v,u⟩|h
  .subst u;exact .inr (Bs e (i p (by simp)))
  .exact .inr h
def HY{t}(h:2<=t.marks.length):fU t≠[]:=by
 unfold fU
 match e:t.marks with
 |[]=>grind
 |[a]=>grind
 |a::b::r=>simp[jO]
def Bf{t}(hok:TestOk t):lj (dR t):=by
 rcases Bv (fU t) kb (.inl rfl) (nv hok) with⟨_,h⟩|h
 .exact absurd h (HY hok.two)
 .exact h
def UE:kb.1.B/\kb.2.B:=by simp[kb,Frac.B]
def Df(t)(hok:TestOk t):af TP 292 [t.pv] (.tuple [(cC t).1.pv,.bool (cC t).2]):=by
 refine ae (dv (by kernel_rfl) rfl ZS) rfl ?_;simp only[Zr,go_sem,simprocAttr];refine aa (YD t) rfl ?_;simp only[tJ,go_sem,simprocAttr]
 refine Mh (l:=(fU t).map yS) (λo k h=>h=[.row 3 [.p t.pv],.row 2 [.p (.agg [.int .i64 0,.int .i64 0])],.row 2 [.p (((fU t).take k).foldl kh kb).1.pv],.row 2 [.p (((fU t).take k).foldl kh kb).2.pv],
   .row 1 [.func (.func 340) [] [.ptr 2 1 0 0,.ptr 3 1 0 0]],.dblock,o]) (λ_ _=>False)
  rfl (by simp[tJ,go_sem]) (X1 t hok.toMarksOk) cH (by kernel_rfl) (by kernel_rfl) (by kernel_rfl) ?_ ?_ ?_ ?_ (λ_ _ _ h=>h.elim)
 .simp
 .intro o;simp only[kb,go_sem,simprocAttr];simp
 .rintro G J I k xs lo i C rfl _
  rw[cX,bg]at C;obtain⟨q,A,rfl⟩:=C;have u:=nv hok q (aB A);have v:(((fU t).take k).foldl kh kb).1.B/\(((fU t).take k).foldl kh kb).2.B:=by
   rcases Bv ((fU t).take k) kb (.inl rfl) (λp F=>nv hok p (rb F)) with⟨h,_⟩|h
   .rw[h];exact UE
   .exact⟨h.1,h.2.1⟩
  have E:=mA (lo:=i) rfl;have z:=mz (lo:=i) rfl;have D:=oG (lo:=i) rfl;have y:=oF (lo:=i) rfl;simp only[yS,dD,ak,aK,E,z,D,y,go_sem,simprocAttr];refine cw (zaf _ _ q.1 q.2 2 3 _ rfl rfl (by decide) v.1 v.2 u.1 u.2.1) (zm ?_);refine⟨_,[AObj.row 2 [AV.p q.1.pv],AObj.row 2 [AV.p q.2.pv]]++[AObj.row 2 [AV.p q.1.pv],AObj.row 2 [AV.p q.2.pv]],?_,by simp,rfl⟩;rw[wb,A,Option.toList_some,vW];simp[kh,Frac.pv]
 .rintro o lo i rfl _
  have j:=Bf hok;rw[dQ,nS];have e:List.foldl kh kb (fU t)=dR t:=rfl;rw[e];refine zn @aD ?_;refine aj (od (dR t).1 j.2.2.1 (by have:=j.1.1;omega) (by have:=j.1.2.1;omega)) rfl ?_;refine zm ?_;refine aj (cUp (dR t).2 j.2.2.2 (by have:=j.2.1.1;omega) (by have:=j.2.1.2.1;omega)) rfl ?_;refine zm ?_;refine aj (Dj (dR t).2 (dR t).1 j.2.1 j.1) rfl ?_;simp only[cC,nC,go_sem,simprocAttr];rw[cB];simp[go_sem]
def Frac.le (f g:Frac):Prop:=f.top*g.below<=g.top*f.below
def Frac.lt_iff(f g:Frac):f.lt g=true↔¬g.le f:=by
 simp[lt,le]
def Frac.lt_false(f g:Frac):f.lt g=false↔g.le f:=by
 simp[lt,le]
def Frac.le_refl(f:Frac):f.le f:=lP _
def Frac.le_total(f g:Frac):f.le g\/g.le f:=by grind[le]
def Frac.le_trans{f g h:Frac}(i:0<f.below)(e:0<g.below)(hh:0<h.below)(l:f.le g)(j:g.le h):f.le h:=by
 unfold Frac.le at *
 have v:f.top*g.below*h.below<=g.top*f.below*h.below:=xQ l (Mw hh);have u:g.top*h.below*f.below<=h.top*g.below*f.below:=xQ j (Mw i);have q:f.top*h.below*g.below<=h.top*f.below*g.below:=by
  have A:f.top*h.below*g.below=f.top*g.below*h.below:=by rw[v7,xR h.below,<-v7]
  have z:g.top*f.below*h.below=g.top*h.below*f.below:=by rw[v7,xR f.below,<-v7]
  have y:h.top*f.below*g.below=h.top*g.below*f.below:=by rw[v7,xR f.below,<-v7]
  omega
 simp_all
def Frac.le_int(f:Frac)(n):f.le ⟨n,1⟩↔f.top<=n*f.below:=by simp[Frac.le]
def Frac.int_le(f)(n):Frac.le ⟨n,1⟩ f↔n*f.below<=f.top:=by simp[Frac.le]
def Frac.down_le{f:Frac}(e:0<f.below)(n):n<=f.down↔n*f.below<=f.top:=DF e
def Frac.up_le{f:Frac}(e:0<f.below)(n):f.up<=n↔f.top<=n*f.below:=by
 unfold Frac.up;have:=DF (a:=-n) (b:=-f.top) e;grind
def J6 (l:List (Frac×Frac)) (q:Frac×Frac):Prop:=
 ((∃p,p∈l/\p.1=q.1)/\∀p,p∈l->p.1.le q.1)/\((∃p,p∈l/\p.2=q.2)/\∀p,p∈l->q.2.le p.2)
def Nh{l}{q p}(A:∀x,x∈l->lj x)(G:J6 l q)(j:lj q)(v:lj p):J6 (l++[p]) (kh q p):=by
 have n1:q.1≠⟨0,0⟩:=λh=>by have:=j.2.2.1;grind
 have E:q.2≠⟨0,0⟩:=λh=>by have:=j.2.2.2;grind
 obtain⟨⟨⟨x,hx,ex⟩,D⟩,⟨y,F,I⟩,C⟩:=G;unfold kh kJ kK;simp only[decide_eq_false n1,decide_eq_false E,oo];refine⟨?_,?_⟩
 .dsimp only;cases i:q.1.lt p.1
  .rw[Frac.lt_false]at i;grind
  .have u:q.1.le p.1:=(Frac.le_total _ _).resolve_right (by rw[Frac.lt_iff]at i;exact i);refine⟨⟨p,by simp,rfl⟩,λz e=>?_⟩;rcases cn.1 e with e|e
   .exact Frac.le_trans (A z e).2.2.1 j.2.2.1 v.2.2.1 (D z e) u
   grind[Frac.le]
 .dsimp only;cases i:p.2.lt q.2
  .rw[Frac.lt_false]at i;grind
  .have u:p.2.le q.2:=(Frac.le_total _ _).resolve_right (by rw[Frac.lt_iff]at i;exact i);refine⟨⟨p,by simp,rfl⟩,λz e=>?_⟩;rcases cn.1 e with e|e
   .exact Frac.le_trans v.2.2.2 j.2.2.2 (A z e).2.2.2 u (C z e)
   grind[Frac.le]
def C5:∀(r l) (q),(∀x,x∈l++r->lj x)->J6 l q->lj q->J6 (l++r) (r.foldl kh q)
 |[],l,q,_,h,_=>by simpa using h
 |p::r,l,q,e,h,i=>by
  have j:=e p (by simp);have:=C5 r (l++[p]) (kh q p) (by simpa using e) (Nh (λx hx=>e x (by simp[hx])) h i j) (Bs (.inr i) j);grind
def wD{t}(hok:TestOk t):J6 (fU t) (dR t):=by
 have i:=nv hok;have l:=HY hok.two;unfold dR
 cases q:fU t with
 |nil=>grind
 |cons p r=>
  rw[q]at i;have j:=i p (by simp);have e:kh kb p=p:=by simp[kh,kJ,kK,kb]
  rw[pD,e];have:=C5 r [p] p (by simpa using i) ⟨⟨⟨p,by simp,rfl⟩,by simp[Frac.le_refl]⟩,⟨p,by simp,rfl⟩,by simp[Frac.le_refl]⟩ j;grind
def gh (t:HrTest):Bool:=(cC t).2
def HS{t}(hok:TestOk t):gh t=true↔∀p,p∈fU t->∀q,q∈fU t->p.1.le q.2:=by
 have l:=wD hok;have v:=nv hok;have u:=Bf hok;have e:gh t=true↔(dR t).1.le (dR t).2:=by
  rw[gh,cC];dsimp only;rw[DG,Frac.lt_false]
 rw[e];constructor
 .intro h p i q j;exact Frac.le_trans (v p i).2.2.1 u.2.2.2 (v q j).2.2.2 (Frac.le_trans (v p i).2.2.1 u.2.2.1 u.2.2.2 (l.1.2 p i) h) (l.2.2 q j)
 .intro h;obtain⟨⟨p,i,z⟩,_⟩:=l.1;obtain⟨⟨q,j,y⟩,_⟩:=l.2;grind
def yV:∀(l) (e),f' e l=false->(∀m,m∈l->e<m.minute)/\l.Pairwise λa b=>a.minute<b.minute
 |[],_,_=>⟨λ_ h=>(dP h).elim,.nil⟩
 |m::r,e,h=>by
  rw[f',RD]at h;have q:e<m.minute:=by simpa using h.1
  have ⟨i,j⟩:=yV r m.minute h.2;refine⟨λx hx=>?_,.cons i j⟩;grind
def eY{i}{t}(h:bm i t=0):TestOk t/\0<=t.kind/\t.kind<i:=by
 unfold bm at h;split at h
 .rename_i y;split at h
  .rename_i v;split at h
   .rename_i u;split at h
    .rename_i j;split at h
     .cases h
     .rename_i q;simp[aq]at y v u;have e:=yV _ _ (RE.2 q);rw[kl]at j;refine⟨⟨⟨by omega,λm l=>?_,by omega⟩,by omega,e.2⟩,by omega,by omega⟩;have:=j m l;simp[hI,aq]at this;omega
    .cases h
   .cases h
  .cases h
 .cases h
def zQ{s}{t}(h:bO s [t]=0):(hrCheck s).2.2=0/\bm s.kinds.length t=0:=by
 unfold bO at h;split at h
 .rename_i e;refine⟨e,?_⟩;simp only[cR]at h;omega
 omega
def cf (s:HrShop) (t:HrTest):Span×Int:=if bO s [t]=0 then(if gh t=true then((cC t).1,0) else(⟨0,0⟩,9)) else(⟨0,0⟩,bO s [t])
def zaB(s)(t):af TP 226 [s.pv,t.pv] (.tuple [(cf s t).1.pv,.int .i64 (cf s t).2]):=by
 refine ae (ag func226 rfl) rfl (zm ?_);refine bq (qR s [t] true (by simp)) (by simp only[go_sem,simprocAttr]) (.int _ _) (zm ?_);cases j:(bO s [t] != 0)
 rotate_left
 .have e:¬bO s [t]=0:=by simpa using j
  simp[cf,if_neg e,go_sem]
 have e:bO s [t]=0:=by simpa using j
 have hok:=(eY (zQ e).2).1;refine zm ?_;refine aa (Df t hok) rfl ?_;simp only[Span.pv,go_sem,simprocAttr];cases i:(cC t).2
 .simp[cf,e,gh,i,go_sem]
 .simp[cf,e,gh,i,go_sem]
def Uf{a b}(i:-1000000000<=a)(e:a<=1000000000)(l:-1000000000<=b)(j:b<=1000000000):-1000000000000000000<=a*b/\a*b<=1000000000000000000:=by
 rcases Hf 0 b with h|h
 .exact yu i e h j
 .have:=yu i e (b:=-b) (by omega) (by omega);grind
def fT {α:Type}:List α->List (α×α)
 |[]=>[]
 |x::r=>r.map (λy=>(x,y))++fT r
def rJ (e:Int) (p q:HrMark×HrMark):Bool:=!decide ((p.1.weight-p.2.weight-2*e)*(q.2.minute-q.1.minute) > (q.1.weight-q.2.weight+2*e)*(p.2.minute-p.1.minute))
def sC (t:HrTest):Bool:=(fT t.marks).all λp=>(fT t.marks).all λq=>rJ t.error p q
def sB{α}(x:α):∀l,∀q,q∈fT (l++[x])↔q∈fT l\/∃y,y∈l/\q=(y,x)
 |[],q=>by simp[fT]
 |z::l,q=>by
  rw[ga,fT,fT,cn,cn,sB x l,aS,cn];grind
def As(e):∀(rest d_) (q),(q∈jO e d_ rest\/∃p,p∈fT d_/\q=jI e p.1 p.2)↔∃p,p∈fT (d_++rest)/\q=jI e p.1 p.2
 |[],d_,q=>by simp[jO]
 |b::r,d_,q=>by
  have:=As e r (d_++[b]) q;rw[dD,BY]at this;rw[<-this,jO,cn,cA];constructor
  .rintro((⟨a,j,h⟩|h)|⟨p,i,h⟩)
   .exact .inr ⟨(a,b),(sB b d_ _).2 (.inr ⟨a,j,rfl⟩),h.symm⟩
   .exact .inl h
   .exact .inr ⟨p,(sB b d_ _).2 (.inl i),h⟩
  .rintro(h|⟨p,i,h⟩)
   .grind
   .rcases(sB b d_ _).1 i with i|⟨a,j,rfl⟩
    .grind
    grind
def lK(t)(q):q∈fU t↔∃p,p∈fT t.marks/\q=jI t.error p.1 p.2:=by
 have:=As t.error t.marks [] q;grind[fU,fT,jI]
def XT(e)(p q):rJ e p q=true↔(jI e p.1 p.2).1.le (jI e q.1 q.2).2:=by
 simp only[rJ,jI,Frac.le,DG,decide_eq_false_iff_not,v7 60];omega
def wG{t}(hok:TestOk t):sC t=gh t:=by
 rw[km,HS hok];simp only[sC,kl,XT];constructor
 .rintro h p j q i
  obtain⟨x,hx,rfl⟩:=(lK t p).1 j;obtain⟨y,e,rfl⟩:=(lK t q).1 i;grind
 .intro h x hx y e;exact h _ ((lK t _).2 ⟨x,hx,rfl⟩) _ ((lK t _).2 ⟨y,e,rfl⟩)
def nN(t:HrTest)(hok:TestOk t):af TP 265 [t.pv] (.bool (sC t)):=by
 have hl:=hok.len;have l:=hok.all;have he:=hok.err;generalize e:t.marks=m at hl l;have F:sC t=(fT m).all λp=>(fT m).all λq=>rJ t.error p q:=by rw[sC,e]
 refine ae (ag func265 rfl) rfl (zn e ?_)
 refine dl [1,3] (σ:=List HrMark×List HrMark) (λq=>m=q.1++q.2/\sC t=((fT q.2).all λp=>(fT m).all λq=>rJ t.error p q)) (λq=>q.2.length)
  (λq=>[(4,.p (.int .i64 q.1.length))]) (λ_=>[.row 3 [.p t.pv]]) ([],m) ⟨rfl,F⟩ ?_ ?_
 .simp[e,go_sem]
 rintro⟨O,A⟩ ⟨I,U⟩
 dsimp only at I U
 cases A with
 |nil=>
  have i:¬((O.length:Int)<(m.length:Int)):=by rw[I];simp
  simp[e,i,decide_false,U,fT,ti,go_sem]
 |cons a A=>
 obtain⟨a2,z⟩:=ca I;have E:i64.wrap ((O.length:Int)+1)=(((O++[a]).length:Nat):Int):=aO (by omega) (by simp[ai];omega) (by simp);have ha:=l a (by rw[I];simp);refine s_ e z decide_true E ?_;rw[fT,List.all_append,List.all_map]at U
 refine dl [1,3,4] (σ:=List HrMark×List HrMark) (λq=>m=q.1++q.2/\sC t=((q.2.all λb=>(fT m).all λq=>rJ t.error (a,b) q)&&((fT A).all λp=>(fT m).all λq=>rJ t.error p q))) (λq=>q.2.length)
  (λq=>[(5,.p (.int .i64 q.1.length))]) (λ_=>[.row 3 [.p t.pv]]) (O++[a],A) ⟨by rw[I];simp,U⟩ ?_ ?_
 .simp[e,E,go_sem]
 rintro⟨X,K⟩ ⟨M,T⟩
 dsimp only at M T
 cases K with
 |nil=>
  have i:¬((X.length:Int)<(m.length:Int)):=by rw[M];simp
  refine zp e i decide_false ?_;refine aF (O++[a],A) ⟨by rw[I];simp,by rw[T,ti,o0]⟩ (dc _) ?_
  simp[e,E,go_sem]
 |cons b K=>
 obtain⟨a1,y⟩:=ca M;have a4:i64.wrap ((X.length:Int)+1)=(((X++[b]).length:Nat):Int):=aO (by omega) (by simp[ai];omega) (by simp);have hb:=l b (by rw[M];simp);refine zp e y decide_true ?_;rw[List.all_cons]at T
 refine dl [1,3,4,5] (σ:=List HrMark×List HrMark) (λq=>m=q.1++q.2/\sC t=(((fT q.2).all λq=>rJ t.error (a,b) q)&&(K.all λb=>(fT m).all λq=>rJ t.error (a,b) q)&&((fT A).all λp=>(fT m).all λq=>rJ t.error p q))) (λq=>q.2.length)
  (λq=>[(6,.p (.int .i64 q.1.length))]) (λ_=>[.row 3 [.p t.pv]]) ([],m) ⟨rfl,T⟩ ?_ ?_
 .simp[e,go_sem]
 rintro⟨N,J⟩ ⟨G,S⟩
 dsimp only at G S
 cases J with
 |nil=>
  have i:¬((N.length:Int)<(m.length:Int)):=by rw[G];simp
  refine zp e i decide_false ?_;refine aF (X++[b],K) ⟨by rw[M];simp,by rw[S,fT,ti,o0]⟩ (dc _) ?_
  simp[e,a4,go_sem]
 |cons c J=>
 obtain⟨a0,v⟩:=ca G;have D:i64.wrap ((N.length:Int)+1)=(((N++[c]).length:Nat):Int):=aO (by omega) (by simp[ai];omega) (by simp);have hc:=l c (by rw[G];simp);refine s_ e v decide_true D ?_;rw[fT,List.all_append,List.all_map]at S
 refine dl [1,3,4,5,6] (σ:=List HrMark×List HrMark) (λq=>m=q.1++q.2/\sC t=((q.2.all λd=>rJ t.error (a,b) (c,d))&&((fT J).all λq=>rJ t.error (a,b) q)&&(K.all λb=>(fT m).all λq=>rJ t.error (a,b) q)&&((fT A).all λp=>(fT m).all λq=>rJ t.error p q))) (λq=>q.2.length)
  (λq=>[(7,.p (.int .i64 q.1.length))]) (λ_=>[.row 3 [.p t.pv]]) (N++[c],J) ⟨by rw[G];simp,S⟩ ?_ ?_
 .simp[e,D,go_sem]
 rintro⟨V,Y⟩ ⟨L,C⟩
 dsimp only at L C
 cases Y with
 |nil=>
  have i:¬((V.length:Int)<(m.length:Int)):=by rw[L];simp
  refine zp e i decide_false ?_;refine aF (N++[c],J) ⟨by rw[G];simp,by rw[C,ti,o0]⟩ (dc _) ?_
  simp[e,D,go_sem]
 |cons d Y=>
 obtain⟨Z,R⟩:=ca L;have a3:i64.wrap ((V.length:Int)+1)=(((V++[d]).length:Nat):Int):=aO (by omega) (by simp[ai];omega) (by simp);have hd:=l d (by rw[L];simp);rw[List.all_cons]at C;have w1:i64.wrap (a.weight-b.weight)=a.weight-b.weight:=ah;have w2:i64.wrap (2*t.error)=2*t.error:=ah;have w3:i64.wrap (a.weight-b.weight-2*t.error)=a.weight-b.weight-2*t.error:=ah;have w4:i64.wrap (c.weight-d.weight)=c.weight-d.weight:=ah;have w5:i64.wrap (c.weight-d.weight+2*t.error)=c.weight-d.weight+2*t.error:=ah;have w6:i64.wrap (d.minute-c.minute)=d.minute-c.minute:=ah;have w7:i64.wrap (b.minute-a.minute)=b.minute-a.minute:=ah;have q1:=Uf (a:=a.weight-b.weight-2*t.error) (b:=d.minute-c.minute) (by omega) (by omega) (by omega) (by omega);have q2:=Uf (a:=c.weight-d.weight+2*t.error) (b:=b.minute-a.minute) (by omega) (by omega) (by omega) (by omega);have w8:i64.wrap ((a.weight-b.weight-2*t.error)*(d.minute-c.minute))=(a.weight-b.weight-2*t.error)*(d.minute-c.minute):=ah;have w9:i64.wrap ((c.weight-d.weight+2*t.error)*(b.minute-a.minute))=(c.weight-d.weight+2*t.error)*(b.minute-a.minute):=ah;simp only[e,R,decide_true,a2,a1,a0,Z,z,y,v,w1,w2,w3,w4,w5,w6,w7,w8,w9,go_sem,simprocAttr];cases j:rJ t.error (a,b) (c,d)
 .have u:(c.weight-d.weight+2*t.error)*(b.minute-a.minute)<(a.weight-b.weight-2*t.error)*(d.minute-c.minute):=by simpa[rJ]using j
  rw[j]at C;simp[u,decide_true,C,go_sem]
 .have u:¬(c.weight-d.weight+2*t.error)*(b.minute-a.minute)<(a.weight-b.weight-2*t.error)*(d.minute-c.minute):=by simpa[rJ]using j
  rw[j]at C;refine zo u decide_false ?_;refine aF (V++[d],Y) ⟨by rw[L];simp,by rw[C,o0]⟩ (dc _) ?_;simp[e,a3,go_sem]
open Go.IntKind (i64)
set_option maxRecDepth 4000
def fI (m:HrMark):AV:=.p m.pv
attribute [go_sem] fI
def wP:AV:=.p (.agg [.int .i64 0,.int .i64 0])
def VB(l)(b)(h)(q:l≠[])(u:l.length<=10) :
  aw TP 294 [.p (.slice 2 (l.map HrMark.pv) b)] h (λr h'=>r=.ret (.slice h.length l.length 0 l.length)/\h'=h++[.row 2 (l.map fI)]):=by
 refine au (ag func294 rfl) rfl ?_;have j:¬(l.map HrMark.pv=[]):=by simpa using q
 have i:l.length<=ai:=by simp[ai];omega
 have v:(l.map HrMark.pv).map AV.p=l.map fI:=by simp[fI]
 have e:¬(l.map fI=[]):=by simpa using q
 simp[j,i,v,e,go_sem]
def SC(l:List HrMark)(i id)(h)(hid:h[id]?=some (.row 2 (l.map fI)))(hi:i<l.length)(hlen:l.length<=10) :
  aw TP 293 [.slice id l.length 0 l.length,.p (.int .i64 i),.p (.int .i64 (i+1:Nat))] h
   (λr h'=>r=.ret (.slice id l.length 0 (l.length-1))/\h'=h.set id (.row 2 ((l.eraseIdx i).map fI++[wP]))):=by
 refine au (ag func293 rfl) rfl ?_;have h1:(i:Int)<=((i+1:Nat):Int):=by omega
 have h2:((i+1:Nat):Int)<=(l.length:Int):=by omega
 have h3:((i:Int)==((i+1:Nat):Int))=false:=by simp;omega
 have h0:(0:Int)<=(i:Int):=by omega
 have h4:(0:Int)+(l.length:Int)<=(l.length:Int):=by omega
 have h5:(i:Int)<=(l.length:Int):=by omega
 have h6:i+1+(l.length-(i+1))<=l.length:=by omega
 have h7:¬(i=l.length):=by omega
 have hys:List.take (l.length-(i+1)) (List.drop (i+1) (List.map fI l))=(l.drop (i+1)).map fI:=by
  rw[<-List.map_drop,dt (by simp)]
 have h8:i+(l.length-(i+1))=l.length-1:=by omega
 have h9:l.length-1<=l.length:=by omega
 obtain⟨z,hz⟩:∃z,List.drop (l.length-1) (List.map fI l)=[z]:=by
  have:(List.drop (l.length-1) (List.map fI l)).length=1:=by simp;omega
  match hd:List.drop (l.length-1) (List.map fI l),this with
  |[z],_=>simp
 have her:List.take i (List.map fI l)++((l.drop (i+1)).map fI++[z])=(l.eraseIdx i).map fI++[z]:=by
  rw[<-dD,<-B0,<-aS,Ms]
 have hel:(l.eraseIdx i).length=l.length-1:=by rw[wi,if_pos hi]
 have hgs:∀x,(h.set id x)[id]?=some x:=λx=>by grind
 have h10:((l.length-1:Nat):Int)<=(l.length:Int):=by omega
 have h11:(0:Int)<=((l.length-1:Nat):Int):=by omega
 have h12:l.length-1+1=l.length:=by omega
 have h13:l.length-(l.length-1)=1:=by omega
 have h14:l.length-1+(l.length-(l.length-1))<=l.length:=by omega
 have h15:¬((l.length:Int)<=((l.length-1:Nat):Int)):=by omega
 have htk:List.take (l.length-1) (List.map fI (l.eraseIdx i)++[z])=List.map fI (l.eraseIdx i):=eX (by rw[dQ,hel]);have ol:List.drop l.length (List.map fI (l.eraseIdx i)++[z])=[]:=Mt (by grind);simp only[h15,htk,ol,hid,h0,h1,h2,h3,h4,h5,h6,h7,hys,h8,h9,hz,her,hel,hgs,h10,h11,h12,h13,Nat.sub_zero,gZ,List.length_drop,dD,sn,ak,aK,ba,bI,GR,GQ,wP,go_sem,simprocAttr]
def fi (l:List Int):PV:=.slice 1 (l.map ay) false
def wo (t:HrTest) (i:Nat):HrTest:={ t with marks:=t.marks.eraseIdx i }
def kG (t:HrTest):Nat->List HrMark->List Int
 |_,[]=>[]
 |i,_::r=>(if gh (wo t i)=true then [(i:Int)] else [])++kG t (i+1) r
def p8 (t:HrTest):List Int:=if gh t=true then [] else kG t 0 t.marks
def T3{t}(hok:TestOk t){i}(q:3<=t.marks.length):TestOk (wo t i):=by
 have e:(t.marks.eraseIdx i).Sublist t.marks:=List.eraseIdx_sublist ..;have j:(t.marks.eraseIdx i).length<=t.marks.length/\2<=(t.marks.eraseIdx i).length:=by
  rw[wi];split<;>omega
 exact⟨⟨fP j.1 hok.len,λm l=>hok.all m (e.subset l),hok.err⟩,j.2,hok.sorted.sublist e⟩
def HR{t}(hok:TestOk t)(h:t.marks.length=2):gh t=true:=by
 rw[HS hok]
 match l:t.marks,h with
 |[a,b],_=>
  intro p j q i;have e:fU t=[jI t.error a b]:=by simp[fU,jO,l]
  rw[e,dW]at j i;subst j i;have u:=nv hok (jI t.error a b) (by rw[e];simp);have y:0<b.minute-a.minute:=u.2.2.1;have v:=hok.err;show _*_<=_*_;simp only[jI];simp_all;omega
def ia (s:HrShop) (t:HrTest):List Int×Int:=if bO s [t]=0 then(p8 t,0) else([],bO s [t])
def YJ(s)(t):af TP 227 [s.pv,t.pv] (.tuple [fi (ia s t).1,.int .i64 (ia s t).2]):=by
 refine bF (ag func227 rfl) rfl (zm ?_);refine bq (qR s [t] true (by simp)) (by simp only[go_sem,simprocAttr]) (.int _ _) (zm ?_);cases h0:(bO s [t] != 0)
 rotate_left
 .have h0':¬bO s [t]=0:=by simpa using h0
  simp only[ia,if_neg h0',fi,bx,go_sem,simprocAttr];exact⟨_,_,rfl,rfl,.inr ⟨rfl,1,rfl⟩,.inl rfl,trivial⟩
 have h0':bO s [t]=0:=by simpa using h0
 have hok:=(eY (zQ h0').2).1;have hsp:ia s t=(p8 t,0):=by rw[ia,if_pos h0']
 rw[hsp];refine zm ?_;refine aa (Df t hok) rfl (zm ?_);cases h1:(cC t).2;rotate_left
 .simp only[p8,gh,h1,fi,bx,go_sem,simprocAttr];exact⟨_,_,rfl,rfl,.inr ⟨rfl,1,rfl⟩,.inl rfl,trivial⟩
 have hnp:¬gh t=true:=by simp[gh,h1]
 have h3:3<=t.marks.length:=by
  rcases dO t.marks.length 3 with h|h
  .have:=hok.two;exact absurd (HR hok (by omega)) hnp
  .exact h
 have hlen:=hok.len;have hne:t.marks≠[]:=by intro h;rw[h]at h3;simp at h3
 have hsp2:p8 t=kG t 0 t.marks:=by rw[p8,if_neg hnp]
 rw[hsp2];refine zm ?_;refine bt 4 1 (by simp only[go_sem,simprocAttr]) (zm ?_)
 refine dY [3,8,28] (σ:=List HrMark×List HrMark×List Int×AObj×Heap)
  (λq=>t.marks=q.1++q.2.1/\kG t 0 t.marks=q.2.2.1++kG t q.1.length q.2.1/\q.2.2.1.length<=q.1.length/\(q.2.2.2.1=.row 3 [.p t.pv]\/∃id ver n,q.2.2.2.1=.row 3 [.agg [.p (.int .i64 t.kind),.p (.int .i64 t.error),.slice id ver 0 n]])) (λq=>q.2.1.length)
  (λq=>[(4,.slice 3 q.2.2.1.length 0 q.2.2.1.length),(29,.p (.int .i64 q.1.length))]) (λq=>[.row 3 [.p s.pv],q.2.2.2.1,.row 2 [.p (cC t).1.pv],.row 1 (q.2.2.1.map λn=>.p (ay n))]++q.2.2.2.2) ([],t.marks,[],.row 3 [.p t.pv],[]) ⟨rfl,rfl,ba _,.inl rfl⟩ (by simp[Span.pv,bx,bI,go_sem]) ?_ ?_
 .simp[go_sem]
 rintro⟨d_,rest,out,a,g⟩ ⟨e1,e2,e3,ha⟩
 dsimp only at e1 e2 e3 ha
 cases rest with
 |nil=>
  have hlt:¬((d_.length:Int)<(t.marks.length:Int)):=by rw[e1];simp
  rw[kG,bI]at e2;simp only[hlt,decide_false,e2,fi,go_sem,simprocAttr]
  exact .inl rfl
 |cons b r=>
  obtain⟨hx,hlt⟩:=ca e1;have hlen1:=congrArg List.length e1;simp only[ak,bc]at hlen1;have hi:d_.length<t.marks.length:=by omega
  have hnx:i64.wrap ((d_.length:Int)+1)=(((d_++[b]).length:Nat):Int):=aO (by omega) (by simp[ai];omega) (by simp);have hn1:i64.wrap ((d_.length:Int)+1)=((d_.length+1:Nat):Int):=by rw[hnx];simp
  have hwo:=T3 hok (i:=d_.length) h3;refine zo hlt decide_true ?_;refine cw (VB t.marks false _ hne hlen) (zn hn1 ?_);have g0:=mA (lo:=g) rfl;have s0:=oG (lo:=g) rfl;have gg:=mz (lo:=g) rfl;have ss:=oF (lo:=g) rfl;refine cw (SC t.marks d_.length _ _ (by simp) hi hlen) ?_;have hrm:out.length+1<=ai:=by simp[ai];omega
  have hog:kG t d_.length (b::r)=(if gh (wo t d_.length)=true then [((d_.length:Nat):Int)] else [])++kG t (d_.length+1) r:=rfl;rw[hog]at e2;have hfz:∀n h,aE (bi n h) (List.map fI (t.marks.eraseIdx d_.length)++[wP])=some ((wo t d_.length).marks.map HrMark.pv++[.agg [.int .i64 0,.int .i64 0]]):=by
   intro n h;have e:List.map fI (t.marks.eraseIdx d_.length)++[wP]=List.map AV.p ((wo t d_.length).marks.map HrMark.pv++[.agg [.int .i64 0,.int .i64 0]]):=by simp[fI,wP,wo]
   rw[e];exact aW (bH n h) id _ |>.trans (by simp)
  have htk2:List.take (t.marks.length-1) ((t.marks.eraseIdx d_.length).map HrMark.pv++[.agg [.int .i64 0,.int .i64 0]])=(t.marks.eraseIdx d_.length).map HrMark.pv:=by
   rw[eX (by grind)]
  have hel2:(t.marks.eraseIdx d_.length).length+1=t.marks.length:=by rw[wi,if_pos hi];omega
  have hfl:t.marks.length-1<=t.marks.length:=by omega
  rcases ha with rfl|⟨id,ver,n,rfl⟩ <;>
  (refine zn s0 ?_
   refine bq (Df (wo t d_.length) hwo) ?_ (.tuple ?_) ?_
   .simp[g0,hfz,htk2,hel2,ak,aK,wo,go_sem]
   .exact Flat.cons (.agg (Flat.cons (.int _ _) (Flat.cons (.int _ _) Flat.nil))) (Flat.cons (.bool _) Flat.nil)
   simp only[dD,ak,aK,gg,ss,go_sem,simprocAttr];cases hp:(cC (wo t d_.length)).2
   .refine zm ?_;refine aZ (d_++[b],r,out,_,g++[AObj.row 2 (List.map fI (t.marks.eraseIdx d_.length)++[wP]),AObj.row 2 [AV.p (PV.agg [PV.int i64 (cC (wo t d_.length)).fst.lo,PV.int i64 (cC (wo t d_.length)).fst.hi])]]) ⟨by rw[e1];simp,by rw[e2,if_neg (by rw[gh,hp];simp)];simp,by simp;omega,.inr ⟨g.length+1+1+1+1,t.marks.length,t.marks.length-1,rfl⟩⟩ (dc _) ?_ ?_
    .simp[go_sem]
    .simp[hnx,go_sem]
   .simp only[aK,hrm,go_sem,simprocAttr];refine aZ (d_++[b],r,out++[((d_.length:Nat):Int)],_,g++[AObj.row 2 (List.map fI (t.marks.eraseIdx d_.length)++[wP]),AObj.row 2 [AV.p (PV.agg [PV.int i64 (cC (wo t d_.length)).fst.lo,PV.int i64 (cC (wo t d_.length)).fst.hi])]]) ⟨by rw[e1];simp,by rw[e2,if_pos (by rw[gh,hp])];simp,by simp;omega,.inr ⟨g.length+1+1+1+1,t.marks.length,t.marks.length-1,rfl⟩⟩ (dc _) ?_ ?_
    .refine zm ?_;rw[aS];rfl
    .simp[hnx,ak,aK,go_sem])
def KQ(t:HrTest)(i:Nat)(hi:i<t.marks.length)(M:2<=t.marks.length)(K:t.marks.length<=10):af TP 267 [t.pv,.int .i64 i] (wo t i).pv:=by
 refine bX (dv (by kernel_rfl) rfl ZU) rfl ?_;have E:(0:Int)<=(i:Int):=by omega
 have D:(i:Int)<=(t.marks.length:Int):=by omega
 have u:i64.wrap ((i:Int)+1)=((i+1:Nat):Int):=aO (by omega) (by simp[ai];omega) (by simp);have C:((i+1:Nat):Int)<=(t.marks.length:Int):=by omega
 have F:(wo t i).pv=.agg [.int .i64 t.kind,.int .i64 t.error,.slice 2 ((t.marks.take i++t.marks.drop (i+1)).map HrMark.pv) false]:=by
  simp only[wo,HrTest.pv,Ms]
 rw[F];have z:List.take i (List.map HrMark.pv t.marks)=(t.marks.take i).map HrMark.pv:=by rw[B0]
 have y:List.drop (i+1) (List.map HrMark.pv t.marks)=(t.marks.drop (i+1)).map HrMark.pv:=by rw[List.map_drop]
 have v:∀n h (l:List HrMark),aE (bi n h) (List.map AV.p (List.map HrMark.pv l))=some (l.map HrMark.pv):=λn h l=>(aW (bH n h) id _).trans (by simp);have q:(t.marks.take i).length<=ai:=by simp[ai];omega
 have j:(t.marks.drop (i+1)).length<=ai:=by simp[ai];omega
 have e:(t.marks.take i).length+(t.marks.drop (i+1)).length<=ai:=by rw[wg,List.length_drop,show ai=274877906944 from rfl];omega
 have G:(t.marks.take i).length+(t.marks.drop (i+1)).length≠0:=by rw[wg,List.length_drop];omega
 generalize t.marks.take i=A at *
 generalize t.marks.drop (i+1)=B at *
 cases A with
 |nil=>
  cases B with
  |nil=>simp at G
  |cons b B=>
   simp only[bS,bc,gZ]at q j e;simp only[E,D,C,u,z,y,q,j,e,OH,aD,v,go_sem,simprocAttr]
   exact .inl ⟨[],rfl⟩
 |cons a A=>
  cases B with
  |nil=>
   simp only[bS,bc,kx]at q j e;simp only[E,D,C,u,z,y,q,j,e,OH,aD,kx,bI,v,go_sem,simprocAttr]
   exact .inl ⟨_,rfl⟩
  |cons b B=>
   have I:List.map AV.p (List.map HrMark.pv A)++AV.p (.agg [.int .i64 b.minute,.int .i64 b.weight])::List.map AV.p (List.map HrMark.pv B)=List.map AV.p (List.map HrMark.pv (A++b::B)):=by simp[HrMark.pv]
   have J:(A++b::B).length+1=A.length+1+(B.length+1):=by simp;omega
   have L:List.take (A.length+(B.length+1)) (List.map HrMark.pv (A++b::B))=List.map HrMark.pv (A++b::B):=dt (by simp);simp only[bS,bc]at q j e;simp only[E,D,C,u,z,y,q,j,e,OH,aD,kx,I,v,J,go_sem,simprocAttr];refine⟨.inl ⟨_,rfl⟩,?_⟩;grind
end Abs
open Go.Shelf
open Abs (l_)
def laysM171_ren:Go.Shelf.Ren:=⟨λ| 171=>43|243=>106|246=>155|283=>216|284=>217|285=>218|286=>219|129=>277|317=>276|318=>278|319=>279|320=>280|337=>336|338=>337|n=>n,λ| 3=>3|9=>9|2=>2|4=>4|171=>275|0=>0|53=>276|37=>95|5=>5|173=>279|212=>325|51=>321|20=>20|213=>326|46=>274|232=>444|233=>445|n=>n,λ| 17=>1|18=>6|19=>7|n=>n⟩
def laysM171:Go.Proofs.LaysM.n171 TP laysM171_ren:={
 mixed:=by kernel_rfl
 f129:=l_ func277
 f171:=l_ func43
 f243:=l_ func106
 f246:=l_ func155
 f283:=l_ func216
 f284:=l_ func217
 f285:=l_ func218
 f286:=l_ func219
 f317:=l_ func276
 f318:=l_ func278
 f319:=l_ func279
 f320:=l_ func280
 f337:=l_ func336
 f338:=l_ func337
 t0:=underlying0
 a0:=isAgg0
 z0:=sizeOf0
 v0:=zeroValue0
 t2:=underlying2
 a2:=isAgg2
 z2:=sizeOf2
 v2:=zeroValue2
 t3:=underlying3
 a3:=isAgg3
 z3:=sizeOf3
 v3:=zeroValue3
 t4:=underlying4
 a4:=isAgg4
 z4:=sizeOf4
 v4:=zeroValue4
 t5:=underlying5
 a5:=isAgg5
 z5:=sizeOf5
 v5:=zeroValue5
 t9:=underlying9
 a9:=isAgg9
 z9:=sizeOf9
 v9:=zeroValue9
 t20:=underlying20
 a20:=isAgg20
 z20:=sizeOf20
 v20:=zeroValue20
 t37:=underlying95
 a37:=isAgg95
 z37:=sizeOf95
 v37:=zeroValue95
 t46:=underlying274
 a46:=isAgg274
 z46:=sizeOf274
 v46:=zeroValue274
 t51:=underlying321
 a51:=isAgg321
 z51:=sizeOf321
 v51:=zeroValue321
 t53:=underlying276
 a53:=isAgg276
 z53:=sizeOf276
 v53:=zeroValue276
 t171:=underlying275
 a171:=isAgg275
 z171:=sizeOf275
 v171:=zeroValue275
 t173:=underlying279
 a173:=isAgg279
 z173:=sizeOf279
 v173:=zeroValue279
 t212:=underlying325
 a212:=isAgg325
 z212:=sizeOf325
 v212:=zeroValue325
 t213:=underlying326
 a213:=isAgg326
 z213:=sizeOf326
 t232:=underlying444
 a232:=isAgg444
 z232:=sizeOf444
 v232:=zeroValue444
 t233:=underlying445
 a233:=isAgg445
 z233:=sizeOf445
 v233:=zeroValue445
 g17:=by kernel_rfl
 g18:=by kernel_rfl
 g19:=by kernel_rfl
 i0:=by kernel_rfl
 i2:=by kernel_rfl
 i3:=by kernel_rfl
 i4:=by kernel_rfl
 i5:=by kernel_rfl
 i9:=by kernel_rfl
 i20:=by kernel_rfl
 i37:=by kernel_rfl
 i46:=by kernel_rfl
 i51:=by kernel_rfl
 i53:=by kernel_rfl
 i171:=by kernel_rfl
 i173:=by kernel_rfl
 i212:=by kernel_rfl
 i232:=by kernel_rfl
 i233:=by kernel_rfl
 m17:=by kernel_rfl
 m18:=by kernel_rfl
 m19:=by kernel_rfl }
def laysC172_ren:Go.Shelf.Ren:=⟨λ| 172=>168|244=>229|245=>230|247=>296|279=>297|280=>298|281=>299|282=>300|287=>345|316=>346|171=>43|205=>347|321=>374|322=>375|243=>106|246=>155|283=>216|284=>217|285=>218|286=>219|129=>277|317=>276|318=>278|319=>279|320=>280|337=>336|338=>337|n=>n,λ| 9=>9|3=>3|75=>102|76=>103|4=>4|5=>5|167=>342|37=>95|0=>0|85=>343|2=>2|168=>345|53=>276|175=>404|46=>274|210=>407|127=>184|145=>450|143=>448|21=>21|171=>275|173=>279|212=>325|51=>321|20=>20|213=>326|232=>444|233=>445|80=>93|n=>n,λ| 15=>4|16=>5|17=>1|18=>6|19=>7|n=>n⟩
def laysC172:Go.Proofs.LaysC.n172 TP laysC172_ren:={
 mixed:=by kernel_rfl
 f129:=l_ func277
 f171:=l_ func43
 f172:=l_ func168
 f205:=l_ func347
 f243:=l_ func106
 f244:=l_ func229
 f245:=l_ func230
 f246:=l_ func155
 f247:=l_ func296
 f279:=l_ func297
 f280:=l_ func298
 f281:=l_ func299
 f282:=l_ func300
 f283:=l_ func216
 f284:=l_ func217
 f285:=l_ func218
 f286:=l_ func219
 f287:=l_ func345
 f316:=l_ func346
 f317:=l_ func276
 f318:=l_ func278
 f319:=l_ func279
 f320:=l_ func280
 f321:=l_ func374
 f322:=l_ func375
 f337:=l_ func336
 f338:=l_ func337
 t0:=underlying0
 a0:=isAgg0
 z0:=sizeOf0
 v0:=zeroValue0
 t2:=underlying2
 a2:=isAgg2
 z2:=sizeOf2
 v2:=zeroValue2
 t3:=underlying3
 a3:=isAgg3
 z3:=sizeOf3
 v3:=zeroValue3
 t4:=underlying4
 a4:=isAgg4
 z4:=sizeOf4
 v4:=zeroValue4
 t5:=underlying5
 a5:=isAgg5
 z5:=sizeOf5
 v5:=zeroValue5
 t9:=underlying9
 a9:=isAgg9
 z9:=sizeOf9
 v9:=zeroValue9
 t20:=underlying20
 a20:=isAgg20
 z20:=sizeOf20
 v20:=zeroValue20
 t21:=underlying21
 a21:=isAgg21
 z21:=sizeOf21
 v21:=zeroValue21
 t37:=underlying95
 a37:=isAgg95
 z37:=sizeOf95
 v37:=zeroValue95
 t46:=underlying274
 a46:=isAgg274
 z46:=sizeOf274
 v46:=zeroValue274
 t51:=underlying321
 a51:=isAgg321
 z51:=sizeOf321
 v51:=zeroValue321
 t53:=underlying276
 a53:=isAgg276
 z53:=sizeOf276
 v53:=zeroValue276
 t75:=underlying102
 a75:=isAgg102
 z75:=sizeOf102
 v75:=zeroValue102
 t76:=underlying103
 a76:=isAgg103
 z76:=sizeOf103
 v76:=zeroValue103
 t85:=underlying343
 a85:=isAgg343
 z85:=sizeOf343
 v85:=zeroValue343
 t127:=underlying184
 a127:=isAgg184
 z127:=sizeOf184
 v127:=zeroValue184
 t143:=underlying448
 a143:=isAgg448
 z143:=sizeOf448
 v143:=zeroValue448
 t145:=underlying450
 a145:=isAgg450
 z145:=sizeOf450
 v145:=zeroValue450
 t167:=underlying342
 a167:=isAgg342
 z167:=sizeOf342
 v167:=zeroValue342
 t168:=underlying345
 a168:=isAgg345
 z168:=sizeOf345
 v168:=zeroValue345
 t171:=underlying275
 a171:=isAgg275
 z171:=sizeOf275
 v171:=zeroValue275
 t173:=underlying279
 a173:=isAgg279
 z173:=sizeOf279
 v173:=zeroValue279
 t175:=underlying404
 a175:=isAgg404
 z175:=sizeOf404
 v175:=zeroValue404
 t210:=underlying407
 a210:=isAgg407
 z210:=sizeOf407
 v210:=zeroValue407
 t212:=underlying325
 a212:=isAgg325
 z212:=sizeOf325
 v212:=zeroValue325
 t213:=underlying326
 a213:=isAgg326
 z213:=sizeOf326
 t232:=underlying444
 a232:=isAgg444
 z232:=sizeOf444
 v232:=zeroValue444
 t233:=underlying445
 a233:=isAgg445
 z233:=sizeOf445
 v233:=zeroValue445
 g15:=by kernel_rfl
 g16:=by kernel_rfl
 g17:=by kernel_rfl
 g18:=by kernel_rfl
 g19:=by kernel_rfl
 t80:=underlying93
 a80:=isAgg93
 z80:=sizeOf93
 v80:=zeroValue93
 i0:=by kernel_rfl
 i2:=by kernel_rfl
 i3:=by kernel_rfl
 i4:=by kernel_rfl
 i5:=by kernel_rfl
 i9:=by kernel_rfl
 i20:=by kernel_rfl
 i21:=by kernel_rfl
 i37:=by kernel_rfl
 i46:=by kernel_rfl
 i51:=by kernel_rfl
 i53:=by kernel_rfl
 i75:=by kernel_rfl
 i76:=by kernel_rfl
 i80:=by kernel_rfl
 i85:=by kernel_rfl
 i127:=by kernel_rfl
 i143:=by kernel_rfl
 i145:=by kernel_rfl
 i167:=by kernel_rfl
 i168:=by kernel_rfl
 i171:=by kernel_rfl
 i173:=by kernel_rfl
 i175:=by kernel_rfl
 i210:=by kernel_rfl
 i212:=by kernel_rfl
 i232:=by kernel_rfl
 i233:=by kernel_rfl
 m15:=by kernel_rfl
 m16:=by kernel_rfl
 m17:=by kernel_rfl
 m18:=by kernel_rfl
 m19:=by kernel_rfl
 c0:=by kernel_rfl
 c2:=by kernel_rfl
 c3:=by kernel_rfl
 c4:=by kernel_rfl
 c5:=by kernel_rfl
 c9:=by kernel_rfl
 c20:=by kernel_rfl
 c21:=by kernel_rfl
 c37:=by kernel_rfl
 c46:=by kernel_rfl
 c51:=by kernel_rfl
 c53:=by kernel_rfl
 c75:=by kernel_rfl
 c76:=by kernel_rfl
 c80:=by kernel_rfl
 c85:=by kernel_rfl
 c127:=by kernel_rfl
 c143:=by kernel_rfl
 c145:=by kernel_rfl
 c167:=by kernel_rfl
 c168:=by kernel_rfl
 c171:=by kernel_rfl
 c173:=by kernel_rfl
 c175:=by kernel_rfl
 c210:=by kernel_rfl
 c212:=by kernel_rfl
 c213:=by kernel_rfl
 c232:=by kernel_rfl
 c233:=by kernel_rfl }
def lays219_ren:Go.Shelf.Ren:=⟨λ| 219=>154|217=>212|225=>213|224=>214|267=>215|266=>274|314=>275|n=>n,λ| 9=>9|3=>3|4=>4|5=>5|46=>274|146=>322|51=>321|n=>n,λ| 1=>0|n=>n⟩
def lays219:Go.Proofs.Lays.n219 TP lays219_ren:={
 mixed:=by kernel_rfl
 f217:=l_ func212
 f219:=l_ func154
 f224:=l_ func214
 f225:=l_ func213
 f266:=l_ func274
 f267:=l_ func215
 f314:=l_ func275
 t3:=underlying3
 a3:=isAgg3
 z3:=sizeOf3
 v3:=zeroValue3
 t4:=underlying4
 a4:=isAgg4
 z4:=sizeOf4
 v4:=zeroValue4
 t5:=underlying5
 a5:=isAgg5
 z5:=sizeOf5
 v5:=zeroValue5
 t9:=underlying9
 a9:=isAgg9
 z9:=sizeOf9
 v9:=zeroValue9
 t46:=underlying274
 a46:=isAgg274
 z46:=sizeOf274
 v46:=zeroValue274
 t51:=underlying321
 a51:=isAgg321
 z51:=sizeOf321
 v51:=zeroValue321
 t146:=underlying322
 a146:=isAgg322
 z146:=sizeOf322
 v146:=zeroValue322
 g1:=by kernel_rfl }
def lays143_ren:Go.Shelf.Ren:=⟨λ| 143=>158|219=>154|217=>212|225=>213|224=>214|267=>215|266=>274|314=>275|n=>n,λ| 9=>9|3=>3|4=>4|5=>5|46=>274|146=>322|51=>321|n=>n,λ| 1=>0|n=>n⟩
def lays143:Go.Proofs.Lays.n143 TP lays143_ren:={
 mixed:=by kernel_rfl
 f143:=l_ func158
 f217:=l_ func212
 f219:=l_ func154
 f224:=l_ func214
 f225:=l_ func213
 f266:=l_ func274
 f267:=l_ func215
 f314:=l_ func275
 t3:=underlying3
 a3:=isAgg3
 z3:=sizeOf3
 v3:=zeroValue3
 t4:=underlying4
 a4:=isAgg4
 z4:=sizeOf4
 v4:=zeroValue4
 t5:=underlying5
 a5:=isAgg5
 z5:=sizeOf5
 v5:=zeroValue5
 t9:=underlying9
 a9:=isAgg9
 z9:=sizeOf9
 v9:=zeroValue9
 t46:=underlying274
 a46:=isAgg274
 z46:=sizeOf274
 v46:=zeroValue274
 t51:=underlying321
 a51:=isAgg321
 z51:=sizeOf321
 v51:=zeroValue321
 t146:=underlying322
 a146:=isAgg322
 z146:=sizeOf322
 v146:=zeroValue322
 g1:=by kernel_rfl }
def lays138_ren:Go.Shelf.Ren:=⟨λ| 138=>156|195=>220|218=>221|143=>158|219=>154|217=>212|225=>213|224=>214|267=>215|266=>274|314=>275|n=>n,λ| 9=>9|3=>3|4=>4|5=>5|0=>0|46=>274|146=>322|51=>321|n=>n,λ| 1=>0|n=>n⟩
def lays138:Go.Proofs.Lays.n138 TP lays138_ren:={
 mixed:=by kernel_rfl
 f138:=l_ func156
 f143:=l_ func158
 f195:=l_ func220
 f217:=l_ func212
 f218:=l_ func221
 f219:=l_ func154
 f224:=l_ func214
 f225:=l_ func213
 f266:=l_ func274
 f267:=l_ func215
 f314:=l_ func275
 t0:=underlying0
 a0:=isAgg0
 z0:=sizeOf0
 v0:=zeroValue0
 t3:=underlying3
 a3:=isAgg3
 z3:=sizeOf3
 v3:=zeroValue3
 t4:=underlying4
 a4:=isAgg4
 z4:=sizeOf4
 v4:=zeroValue4
 t5:=underlying5
 a5:=isAgg5
 z5:=sizeOf5
 v5:=zeroValue5
 t9:=underlying9
 a9:=isAgg9
 z9:=sizeOf9
 v9:=zeroValue9
 t46:=underlying274
 a46:=isAgg274
 z46:=sizeOf274
 v46:=zeroValue274
 t51:=underlying321
 a51:=isAgg321
 z51:=sizeOf321
 v51:=zeroValue321
 t146:=underlying322
 a146:=isAgg322
 z146:=sizeOf322
 v146:=zeroValue322
 g1:=by kernel_rfl }
namespace Abs
open Go.RowKit Go.Sort
def oI{w w'}(h:Below w.heap.size w w'):Fr [] w w':=
 ⟨h.os,h.tape,h.output,h.size,λb e _=>h.block b e,λb e=>by simp only[World.shape?,h.block b e]⟩
def Pv{M}{w}{e}{q}(h:oX M w e [q]):∃v,e=#[v]/\RepP M w v q:=by
 have j:=h.1;refine⟨e.getD 0 undef,?_,h.2 0 q rfl⟩;apply tk
 .simpa using j
 simp_all
def Ct{M}{w}{e}{p q}(h:oX M w e [p,q]):∃u v,e=#[u,v]/\RepP M w u p/\RepP M w v q:=by
 have j:=h.1;refine⟨e.getD 0 undef,e.getD 1 undef,?_,h.2 0 p rfl,h.2 1 q rfl⟩;apply tk
 .simpa using j
 .intro i y l;have:i=0\/i=1:=by simp at l;omega
  rcases this with rfl|rfl<;>simp[y]
def CQ (n:Int):ByteArray:=⟨(Lib.itoa n).toArray⟩
def Aa(n)(A:-9223372036854775808<=n)(z:n<=9223372036854775807):af TP 43 [.int .i64 n] (.str (CQ n)):=by
 intro M0 w i C q y;obtain⟨v,rfl,j⟩:=Pv y;cases j;refine⟨(λw'=>kM func43 za5 _ w'),?_⟩;have l:(TP.globalNamed "internal/strconv.uint64pow10").isSome=true:=by kernel_rfl
 obtain⟨b,u⟩:=iM.1 l;refine(Any.strconv_Itoa laysM171 n A z w (q.1 b u)).mono ?_
 rintro e w' ⟨rfl,k,os,rfl⟩
 exact⟨_,rfl,.str _,oI (Lib.below_grow _ _ (ba _) _ _)⟩
def mF (s:ByteArray):PV:=
 match Lib.atoiAll s.data.toList with
 |.ok v=>.tuple [.int .i64 v,.niliface]
 |.range=>.tuple [.int .i64 (Lib.atoiSat s.data.toList),.iface 345 .any]
 |_=>.tuple [.int .i64 0,.iface 345 .any]
def zL{M}{w}{a b}{p q}(j:RepP M w a p)(e:RepP M w b q):RepP M w (.tuple #[a,b]) (.tuple [p,q]):=
 .tuple rfl λi c hi=>by
  match i,hi with
  |0,hi=>simp_all
  |1,hi=>simp_all
def G4(s)(A:s.size<=281474976710656):af TP 168 [.str s] (mF s):=by
 intro M0 w z F C E;obtain⟨v,rfl,D⟩:=Pv E;cases D;refine⟨(λw'=>kM func168 ZX _ w'),?_⟩;unfold mF
 cases q:Lib.atoiAll s.data.toList with
 |ok v=>
  refine(Any.strconv_Atoi_ok laysC172 s (by omega) v q w).mono ?_
  rintro e w' ⟨rfl,h⟩
  refine⟨_,rfl,zL (.int _ _) .niliface,?_⟩;rcases h with rfl|⟨t,rfl⟩
  .exact Fr.refl _ _
  .exact oI (Lib.bytesWorld_below _ _ _)
 |range=>
  have u:(TP.globalNamed "strconv.ErrRange").isSome=true:=by kernel_rfl
  obtain⟨b,y⟩:=iM.1 u;obtain⟨l,p,i⟩:=C.2.2 b y;refine(Any.strconv_Atoi_range_var laysC172 s A q l p w i).mono ?_
  rintro e w' ⟨N,rfl,_,_,j⟩
  exact⟨_,rfl,zL (.int _ _) (.iface .any),oI j⟩
 |_=>
  have u:(TP.globalNamed "strconv.ErrSyntax").isSome=true:=by kernel_rfl
  obtain⟨b,y⟩:=iM.1 u;obtain⟨l,p,i⟩:=C.2.1 b y;refine(Any.strconv_Atoi_syntax_var laysC172 s A q l p w i).mono ?_
  rintro e w' ⟨N,rfl,_,_,j⟩
  exact⟨_,rfl,zL (.int _ _) (.iface .any),oI j⟩
def N4(s)(c):af TP 154 [.str s,.str ⟨#[c]⟩] (.int .i64 (Lib.indexByte s.data.toList c)):=by
 intro M0 w i z y q;obtain⟨u,v,rfl,l,j⟩:=Ct q;cases l;cases j;refine⟨(λw'=>kM func154 Z0 _ w'),?_⟩;refine(Any.stringslite_Index_one lays219 s c w).mono ?_
 rintro e w' ⟨rfl,rfl⟩
 exact⟨_,rfl,.int _ _,Fr.refl _ _⟩
def Ji(s)(c):af TP 158 [.str s,.str ⟨#[c]⟩] (.int .i64 (Lib.indexByte s.data.toList c)):=by
 intro M0 w i z y q;obtain⟨u,v,rfl,l,j⟩:=Ct q;cases l;cases j;refine⟨(λw'=>kM func158 ZY _ w'),?_⟩;refine(Any.strings_Index_one lays143 s c w).mono ?_
 rintro e w' ⟨rfl,rfl⟩
 exact⟨_,rfl,.int _ _,Fr.refl _ _⟩
def Q1(s)(c):af TP 156 [.str s,.str ⟨#[c]⟩] (.int .i64 (Lib.countByte s.data.toList c)):=by
 intro M0 w i z y q;obtain⟨u,v,rfl,l,j⟩:=Ct q;cases l;cases j;refine⟨(λw'=>kM func156 ZZ _ w'),?_⟩;refine(Any.strings_Count_one lays138 s c w).mono ?_
 rintro e w' ⟨rfl,rfl⟩
 exact⟨_,rfl,.int _ _,Fr.refl _ _⟩
set_option maxRecDepth 4000
def bs (l:List UInt8):ByteArray:=⟨l.toArray⟩
def io(l):(bs l).data.toList=l:=rfl
def al(l):(bs l).size=l.length:=by rfl
def r6(s):bs s.data.toList=s:=by cases s;rfl
def dF(l)(i j):(bs l).extract i j=bs ((l.take j).drop i):=by
 apply ByteArray.ext;rw[ByteArray.data_extract];grind[bs]
def cc(a b):bs a++bs b=bs (a++b):=by
 rfl
def YZ{a b}:bs a=bs b↔a=b:=
 ⟨λh=>by have:=congrArg (λs:ByteArray=>s.data.toList) h;simpa[io]using this,λh=>h▸rfl⟩
def qm(x y:ByteArray):(x==y)=true↔x=y:=by
 cases x with
 |mk a=>
  cases y with
  |mk b=>
   show (a==b)=true↔_;simp
def cF(a b):(bs a==bs b)=(a==b):=by
 rw[km,qm,beq_iff_eq,YZ]
def aP (c:UInt8):List UInt8->List UInt8×Option (List UInt8)
 |[]=>([],none)
 |x::r=>if x=c then([],some r) else(x::(aP c r).1,(aP c r).2)
def lA(c):∀l,((aP c l).2=none/\(aP c l).1=l/\Lib.indexByte l c=-1) \/
  ∃r,(aP c l).2=some r/\Lib.indexByte l c=((aP c l).1.length:Int)/\l=(aP c l).1++c::r
 |[]=>.inl ⟨rfl,rfl,rfl⟩
 |x::l=>by
  unfold aP Lib.indexByte;by_cases hx:x=c
  .subst hx;simp
  .have q:(x==c)=false:=by simpa using hx
   rw[if_neg hx,q];simp only[fD,if_false];rcases lA c l with⟨j,i,e⟩|⟨r,j,i,e⟩
   .grind
   grind
def xj(c):∀(l r),(aP c l).2=some r->r.length<l.length:=by
 intro l r h;rcases lA c l with⟨e,_⟩|⟨j,e,_,i⟩
 .grind
 grind
def Te(l)(c)(C:l.length<1000000000):af TP 105 [.str (bs l),.str (bs [c])] (.tuple [.str (bs (aP c l).1),.str (bs ((aP c l).2.getD [])),.bool (aP c l).2.isSome]):=by
 refine ae (ag func105 rfl) rfl (zm ?_);refine aa (N4 (bs l) c) rfl ?_;rw[io];rcases lA c l with⟨q,j,e⟩|⟨r,q,j,e⟩
 .refine zp q j e ?_;simp[bs]
 .have i:=congrArg List.length e;simp only[ak,bc]at i;have D:decide ((0:Int)<=((aP c l).1.length:Int))=true:=by simp
  have A:(((aP c l).1.length:Int)<=((bs l).size:Int)):=by rw[al];omega
  have z:i64.wrap (((aP c l).1.length:Int)+(((bs [c]).size:Nat):Int))=(((aP c l).1.length+1:Nat):Int):=by
   rw[al];exact aO (by omega) (by simp[ai];omega) (by simp)
  have y:((((aP c l).1.length+1:Nat):Int)<=((bs l).size:Int)):=by rw[al];omega
  have v:(bs l).extract 0 (aP c l).1.length=bs (aP c l).1:=by
   rw[dF,qy]
   congr 1
   have:=congrArg (List.take (aP c l).1.length) e;rw[eX]at this
   .exact this
   .rfl
  have u:(bs l).extract ((aP c l).1.length+1) (bs l).size=bs r:=by
   rw[dF,al,nS]
   congr 1
   have:=congrArg (List.drop ((aP c l).1.length+1)) e;rw[this];simp
  simp only[q,j,A,z,y,v,u,go_sem,simprocAttr];try exact⟨rfl,rfl⟩
def vH(l)(c)(e:l.length<1000000000):af TP 42 [.str (bs l),.str (bs [c])] (.tuple [.str (bs (aP c l).1),.str (bs ((aP c l).2.getD [])),.bool (aP c l).2.isSome]):=by
 refine ae (ag func42 rfl) rfl (zm ?_);refine aa (Te l c e) rfl ?_;simp[go_sem]
def rf (c:UInt8) (l:List UInt8):List UInt8:=if l.getLast?=some c then l.dropLast else l
def N5(l)(c)(i:l.length<1000000000):af TP 372 [.str (bs l),.str (bs [c])] (.bool (decide (l.getLast?=some c))):=by
 refine ae (ag func372 rfl) rfl ?_;rcases AW l with rfl|⟨a,x,rfl⟩
 .have e:decide ((((bs [c]).size:Nat):Int)<=(((bs []).size:Nat):Int))=false:=by rw[al,al];simp
  simp only[e,go_sem,simprocAttr];simp
 .rw[AX]at i |-;have e:decide ((((bs [c]).size:Nat):Int)<=(((bs (a++[x])).size:Nat):Int))=true:=by rw[al,al];simp<;>omega
  have v:i64.wrap ((((bs (a++[x])).size:Nat):Int)-(((bs [c]).size:Nat):Int))=((a.length:Nat):Int):=by
   rw[al,al,ct (by simp) (by grind[ai])];simp
  have u:((a.length:Nat):Int)<=(((bs (a++[x])).size:Nat):Int):=by rw[al];simp<;>omega
  have q:(bs (a++[x])).extract a.length (bs (a++[x])).size=bs [x]:=by
   rw[dF,al,nS];simp
  have j:(bs [x]==bs [c])=decide ((a++[x]).getLast?=some c):=by
   rw[cF,List.getLast?_concat,km];simp
  simp only[e,v,u,q,j,go_sem,simprocAttr]
def QU(l)(c)(e:l.length<1000000000):af TP 339 [.str (bs l),.str (bs [c])] (.str (bs (rf c l))):=by
 refine ae (ag func339 rfl) rfl (zm ?_);refine aa (N5 l c e) rfl ?_;by_cases h:l.getLast?=some c
 .have q:i64.wrap ((((bs l).size:Nat):Int)-(((bs [c]).size:Nat):Int))=((l.length-1:Nat):Int):=by
   have:l≠[]:=by rintro rfl;simp at h
   have:0<l.length:=zH.2 this;rw[al,al,ct (by simp;omega) (by simp[ai];omega)];simp;omega
  have j:((l.length-1:Nat):Int)<=(((bs l).size:Nat):Int):=by rw[al];omega
  have i:(bs l).extract 0 (l.length-1)=bs l.dropLast:=by rw[dF,qy,List.dropLast_eq_take]
  simp[h,q,j,i,rf,go_sem]
 .simp[h,rf,go_sem]
def KP(l)(c)(e:l.length<1000000000):af TP 289 [.str (bs l),.str (bs [c])] (.str (bs (rf c l))):=by
 refine ae (ag func289 rfl) rfl (zm ?_);refine aa (QU l c e) rfl ?_;simp[go_sem]
def aA (c:UInt8):List UInt8->List (List UInt8)
 |[]=>[[]]
 |x::r=>if x=c then []::aA c r else match aA c r with|[]=>[[x]]|a::t=>(x::a)::t
def lW(c):∀l,aA c l=(aP c l).1::(match (aP c l).2 with|none=>[]|some r=>aA c r)
 |[]=>rfl
 |x::r=>by
  by_cases hx:x=c
  .simp only[aA,aP,if_pos hx]
  .simp only[aA,aP,if_neg hx];rw[lW c r]
def mI{c}{l}(h:(aP c l).2=none):aA c l=[l]:=by
 rcases lA c l with⟨e,i,j⟩|⟨r,e,_⟩
 .rw[lW,e,i]
 grind
def mH{c}{l r}(h:(aP c l).2=some r):aA c l=(aP c l).1::aA c r:=by
 rw[lW,h]
def pO(c):∀l,(aA c l).length=l.count c+1
 |[]=>rfl
 |x::r=>by
  have e:=pO c r;grind[aA]
def lV(c)(l):0<(aA c l).length:=by rw[pO];omega
def pc(c)(l):(aA c l).length<=l.length+1:=by rw[pO];grind
def bG (l:List (List UInt8)):PV:=.slice 1 (l.map λx=>.str (bs x)) false
def g' (N:Nat) (d_:List (List UInt8)):List AV:=(d_.map λx=>AV.p (.str (bs x)))++List.replicate (N-d_.length) (AV.p (.str ⟨#[]⟩))
def Hp{N}{d_}(h:d_.length<=N):(g' N d_).length=N:=by simp[g'];omega
def Ka{N}{d_}(h:d_.length<N):(g' N d_)[d_.length]?=some (AV.p (.str ⟨#[]⟩)):=by
 grind[g']
def x7{N}{d_}(x)(h:d_.length<N):(g' N d_).set d_.length (AV.p (.str (bs x)))=g' N (d_++[x]):=by
 unfold g';rw[ra _ _ (by simp)];obtain⟨k,i⟩:∃k,N-d_.length=k+1:=⟨N-d_.length-1,by omega⟩
 grind
def Hq{N}{d_}(h:d_.length=N):g' N d_=d_.map λx=>AV.p (.str (bs x)):=by
 unfold g';rw[h];simp
def DP(n N)(d_):∀x,x∈g' N d_->below n x:=by
 intro x hx;simp only[g',cn,cA,List.mem_replicate]at hx;rcases hx with⟨_,_,rfl⟩|⟨_,rfl⟩<;>exact trivial
def QY(l)(c)(hl:l.length<1000000000):af TP 228 [.str (bs l),.str (bs [c]),.int .i64 0,.int .i64 (-1)] (bG (aA c l)):=by
 refine bX (ag func228 rfl) rfl ?_;have G:(bs [c]==(⟨#[]⟩:ByteArray))=false:=by
  rw[show (⟨#[]⟩:ByteArray)=bs [] from rfl,cF];rfl
 obtain⟨N,A⟩:∃N,N=(aA c l).length:=⟨_,rfl⟩
 have a1:0<N:=A▸lV c l;have a0:N<=l.length+1:=A▸pc c l;have J:i64.wrap ((Lib.countByte (bs l).data.toList c:Int)+1)=(N:Int):=by
  refine aO (by omega) (by simp[ai];omega) ?_;rw[io];unfold Lib.countByte;rw[A,pO];rfl
 refine zn G ?_;refine aa (Q1 (bs l) c) rfl ?_;have hw:i64.wrap ((((bs l).size:Nat):Int)+1)=((l.length+1:Nat):Int):=by
  rw[al];exact aO (by omega) (by simp[ai];omega) (by simp)
 have I:¬(((l.length+1:Nat):Int)<(N:Int)):=by omega
 have u:((N:Int)<=((ai:Nat):Int)):=by simp[ai];omega
 have V:i64.wrap ((N:Int)-1)=((N-1:Nat):Int):=by rw[ct (by omega) (by omega)];omega
 refine t_ J hw I u V ?_
 refine dl [1,2,3,9] (σ:=List (List UInt8)×List UInt8) (λq=>aA c l=q.1++aA c q.2/\q.2.length<=l.length) (λq=>q.2.length)
  (λq=>[(0,.p (.str (bs q.2))),(10,.p (.int .i64 q.1.length))]) (λq=>[.row 1 (g' N q.1)]) ([],l) ⟨rfl,ba _⟩ ?_ ?_
 .simp only[g',go_sem,simprocAttr];all_goals first|(simp;done)|(simp;intro _;trivial)
 rintro⟨d_,r⟩ ⟨M,e2⟩
 dsimp only at M e2;have j:=congrArg List.length M;rw[<-A,ak]at j;have e:d_.length<N:=by have:=lV c r;omega
 have C:=Hp (Nat.le_of_lt e);have E:=Ka e;have D:(d_.length:Int)<(N:Int):=by omega
 rcases lA c r with⟨O,X,L⟩|⟨y,O,X,L⟩
 .have z:=mI O;rw[z,aK]at j;have U:decide ((d_.length:Int)<((N-1:Nat):Int))=false:=by simp;omega
  have i:=x7 r e;have K:g' N (d_++[r])=(aA c l).map λx=>AV.p (.str (bs x)):=by rw[Hq (by simp;omega),M,z]
  have R:i64.wrap ((d_.length:Int)+1)=(N:Int):=aO (by omega) (by omega) (by omega);have F:(aA c l).length=N:=A.symm;simp only[U,C,E,D,i,K,R,F,go_sem,simprocAttr];grind[bs,aA,bG]
 .have z:=mH O;have T:decide ((d_.length:Int)<((N-1:Nat):Int))=true:=by
   have:=lV c y;have:=congrArg List.length z;simp at this |-;omega
  have i:=x7 (aP c r).1 e;have v:=congrArg List.length L;simp only[ak,bc]at v;refine zn T ?_;refine aa (Ji (bs r) c) rfl ?_;have Y:Lib.indexByte (bs r).data.toList c=((aP c r).1.length:Int):=X;have f0:decide (((aP c r).1.length:Int)<0)=false:=by simp
  have f1:i64.wrap (((aP c r).1.length:Int)+0)=((aP c r).1.length:Int):=aO (by omega) (by simp[ai];omega) (by simp);have f2:(((aP c r).1.length:Int)<=((bs r).size:Int)):=by rw[al];omega
  have f3:(bs r).extract 0 (aP c r).1.length=bs (aP c r).1:=by
   rw[dF,qy]
   congr 1
   have:=congrArg (List.take (aP c r).1.length) L;rw[eX]at this
   .exact this
   .rfl
  have f4:i64.wrap (((aP c r).1.length:Int)+(((bs [c]).size:Nat):Int))=(((aP c r).1.length+1:Nat):Int):=by
   rw[al];exact aO (by omega) (by simp[ai];omega) (by simp)
  have f5:((((aP c r).1.length+1:Nat):Int)<=((bs r).size:Int)):=by rw[al];omega
  have Z:(bs r).extract ((aP c r).1.length+1) (bs r).size=bs y:=by
   rw[dF,al,nS]
   congr 1
   have:=congrArg (List.drop ((aP c r).1.length+1)) L;rw[this];simp
  have S:i64.wrap ((d_.length:Int)+1)=(((d_++[(aP c r).1]).length:Nat):Int):=aO (by omega) (by grind) (by simp);simp only[Y,f0,f1,f2,f3,f4,f5,Z,C,E,D,i,go_sem,simprocAttr];refine aF (d_++[(aP c r).1],y) ⟨by rw[M,z];simp,by grind⟩ (by grind) ?_;refine zn S ?_;exact DP _ _ _
def FT(l)(c)(e:l.length<1000000000):af TP 164 [.str (bs l),.str (bs [c])] (bG (aA c l)):=by
 refine ae (ag func164 rfl) rfl (zm ?_);refine aa (QY l c e) rfl ?_;simp[go_sem]
def qn (p:List UInt8):List (List UInt8)->List (List UInt8)
 |[]=>[p]
 |a::t=>(p++a)::t
def Dq(L)(h:L≠[]):qn [] L=L:=by cases L<;>simp_all [qn]
def rC(c)(l):aA c l≠[]:=λh=>by have:=lV c l;grind
def Ok(c)(p r):qn p (aA c (c::r))=p::aA c r:=by simp[aA,qn]
def K8{c x}(hx:x≠c)(p r):qn p (aA c (x::r))=qn (p++[x]) (aA c r):=by
 grind[qn,aA]
def tU(l)(i:Nat):(bs l)[i]?=l[i]?:=by rw[qT];rfl
def pB(l)(c)(R:l.length<1000000000):af TP 45 [.str (bs l),.int .u8 c.toNat] (bG (aA c l)):=by
 refine bX (ag func45 rfl) rfl (zm ?_);refine bt 5 1 (by simp only[go_sem,simprocAttr]) (zm ?_)
 refine dl [0,1] (σ:=List (List UInt8)×List UInt8×List UInt8×List UInt8×Nat) (λq=>l=q.2.1++q.2.2.1++q.2.2.2.1/\aA c l=q.1++qn q.2.2.1 (aA c q.2.2.2.1)/\q.1.length<=q.2.1.length/\q.2.2.2.2=q.2.1.length+q.2.2.1.length) (λq=>q.2.2.2.1.length)
  (λq=>[(5,.slice 0 q.1.length 0 q.1.length),(6,.p (.int .i64 q.2.1.length)),(7,.p (.int .i64 q.2.2.2.2))]) (λq=>[.row 1 (q.1.map λx=>.p (.str (bs x)))]) ([],[],[],l,0)
  ⟨rfl,by rw[Dq _ (rC c l)];rfl,ba _,rfl⟩ ?_ ?_
 .simp only[go_sem,simprocAttr]<;>simp
 rintro⟨db,i,e,r,k⟩ ⟨v,D,M,L⟩
 dsimp only at v D M L;have j:=congrArg List.length v;simp only[ak]at j;have z:db.length+1<=ai:=by simp[ai];omega
 have y:(i++e).length=k:=by rw[ak,L]
 cases r with
 |nil=>
  have u:decide (((k:Nat):Int)<(((bs l).size:Nat):Int))=false:=by rw[al];simp;simp at j;omega
  have J:((i.length:Nat):Int)<=(((bs l).size:Nat):Int):=by rw[al];omega
  have I:(bs l).extract i.length (bs l).size=bs e:=by
   rw[dF,al,nS,v];simp
  have C:(db.map λx=>AV.p (.str (bs x)))++[AV.p (.str (bs e))]=(db++[e]).map λx=>AV.p (.str (bs x)):=by simp
  have K:(db++[e]).length=db.length+1:=by simp
  have N:aA c l=db++[e]:=by rw[D];simp[qn,aA]
  simp only[u,J,I,z,C,K,go_sem,simprocAttr]
  grind[bs,bG,aA]
 |cons x r=>
  simp only[bc]at j;have u:decide (((k:Nat):Int)<(((bs l).size:Nat):Int))=true:=by rw[al];simp;omega
  have hx:(bs l)[k]?=some x:=by
   rw[tU,v,<-y];simp
  have A:i64.wrap (((k:Nat):Int)+1)=((k+1:Nat):Int):=aO (by omega) (by simp[ai];omega) (by simp);by_cases F:x=c
  .subst F;have G:(((x.toNat:Nat):Int)==((x.toNat:Nat):Int))=true:=by simp
   have J:((i.length:Nat):Int)<=((k:Nat):Int):=by omega
   have I:((k:Nat):Int)<=(((bs l).size:Nat):Int):=by rw[al];omega
   have O:(bs l).extract i.length k=bs e:=by
    rw[dF,v,<-y]
    congr 1
    rw[eX rfl];simp
   simp only[u,hx,G,J,I,O,z,go_sem,simprocAttr];have E:((i++e++[x]).length:Nat)=k+1:=by simp at y |-;omega
   refine aF (db++[e],i++e++[x],[],r,k+1) ⟨by rw[v];simp,by rw[D,Ok,Dq _ (rC x r)];simp,by grind,by grind⟩ (dc _) ?_;refine zo A E ?_;simp
  .have G:(((x.toNat:Nat):Int)==((c.toNat:Nat):Int))=false:=by
    have:x.toNat≠c.toNat:=λh=>F (UInt8.toNat_inj.1 h);simp;omega
   refine zp u hx G ?_;refine aF (db,i,e++[x],r,k+1) ⟨by rw[v];simp,by rw[D,K8 F],M,by grind⟩ (dc _) ?_;simp[A,go_sem]
def GB(n):(Lib.decDigits n).length<=n+1:=by
 induction n using Nat.strongRecOn with
 |ind n e=>
  rw[Lib.decDigits];grind
def Wt(n:Nat):n<1000000000->af TP 46 [.int .i64 n] (.str (bs (Lib.decDigits n))):=by
 induction n using Nat.strongRecOn with
 |ind n u=>
  intro C;refine ae (ag func46 rfl) rfl ?_;have q:((n:Nat):Int).tmod 10=((n%10:Nat):Int):=by rw[Int.tmod_eq_emod_of_nonneg (by omega)];omega
  have l:i64.wrap (48+((n%10:Nat):Int))=((48+n%10:Nat):Int):=by rw[ct (by omega) (by simp[ai];omega)];simp
  have j:IntKind.u8.wrap ((48+n%10:Nat):Int)=((48+n%10:Nat):Int):=by
   simp[IntKind.wrap,IntKind.signed,IntKind.bits];omega
  have i:(⟨#[UInt8.ofNat (48+n%10)]⟩:ByteArray)=bs [UInt8.ofNat (48+n%10)]:=rfl;have z:i64.wrap (((n:Nat):Int).tdiv 10)=((n / 10:Nat):Int):=by rw[Int.tdiv_eq_ediv_of_nonneg (by omega),ct (by omega) (by simp[ai];omega)];omega
  by_cases A:10<=n
  .have e:decide ((10:Int)<=((n:Nat):Int))=true:=by simp;omega
   have y:(bs (Lib.decDigits (n / 10))).size+(bs [UInt8.ofNat (48+n%10)]).size<=aM:=by
    have:=GB (n / 10);rw[al,al,aK];unfold aM;omega
   simp only[q,l,j,e,z,i,go_sem,simprocAttr];refine aa (u (n / 10) (by omega) (by omega)) rfl (zo y @cc ?_)
   conv=>rhs;rw[Lib.decDigits,dif_neg (by omega)]
  .have e:decide ((10:Int)<=((n:Nat):Int))=false:=by simp;omega
   have v:n%10=n:=by omega
   refine t_ q l j e i ?_
   conv=>rhs;rw[Lib.decDigits,dif_pos (by omega)]
   rw[v]
end Abs
end Go.Proofs.YtgafommgcfhkkaaGreatDoor
