/- CONTRACTS of the program's functions, and laws on what they return. No conditions but those in the theorems' heads. -/
import Derived.Test.YtoapoaoelpcniaaGreatDoorStrBldX
import Derived.Lib.AtoiTie
set_option linter.all false
open Go.Proofs.Tryz renaming prog->TP
namespace Go.Proofs.YtoapoaoelpcniaaGreatDoor
namespace Abs
set_option maxRecDepth 4000
structure HrKOk (x:HrK):Prop where
 k:HrKindOk x.k
 lo:0<=x.rates.lo
 le:x.rates.lo<=x.rates.hi
 pos:1<=x.rates.hi
 hi:x.rates.hi<=901800000
def uO (r:Span):Prop:=(r=⟨-1,0⟩)\/(0<=r.lo/\r.lo<=r.hi/\r.hi<=601200000)
theorem Lq{r q}(hr:uO r)(hq:0<=q.lo/\q.lo<=q.hi/\q.hi<=601200000):uO (gz r q):=by
 unfold gz;rcases hr with rfl|hr
 .rw[if_pos (by decide)];exact .inr hq
 .rw[if_neg (by omega)];refine .inr ⟨?_,?_,?_⟩<;>dsimp only<;>split<;>(try split)<;>omega
theorem zT{nk at'}:∀{l} {r},cr nk l=0->uO r->uO (ki at' r l)
 |[],_,_,h=>h
 |t::l,r,h,hr=>by
  have h1:=n8 h;have h2:cr nk l=0:=by rw[cr]at h;split at h<;>(first|exact h|contradiction)
  rw[ki];refine zT h2 ?_;split
  .rename_i hc;have hok:=(fS (h1 t (by simp))).1;have:=tz hok;exact Lq hr ⟨this.1,CA hok hc.2,this.2.2.2⟩
  .exact hr
theorem Pn{m}{r}(hm:0<=m/\m<=500)(hr:0<=r.lo/\r.lo<=r.hi/\r.hi<=601200000):0<=(eb m r).lo/\(eb m r).lo<=(eb m r).hi/\(eb m r).hi<=901800000:=by
 have e1:0<=(eb m r).lo:=by
  refine(Frac.down_le (f:=⟨r.lo*(1000-m),1000⟩) (by show (0:Int)<1000;decide) 0).2 ?_;have:0<=r.lo*(1000-m):=ri (by omega) (by omega);simpa using this
 have e2:(eb m r).lo<=r.lo:=by
  have:=(Frac.down_le (f:=⟨r.lo*(1000-m),1000⟩) (by show (0:Int)<1000;decide) (eb m r).lo).1 (ir _);dsimp only at this;have h2:r.lo*(1000-m)<=r.lo*1000:=tM (by omega) (by omega);omega
 have e3:r.hi<=(eb m r).hi:=by
  have:=(Frac.up_le (f:=⟨r.hi*(1000+m),1000⟩) (by show (0:Int)<1000;decide) (eb m r).hi).1 (ir _);dsimp only at this;have h2:r.hi*1000<=r.hi*(1000+m):=tM (by omega) (by omega);omega
 have e4:(eb m r).hi<=901800000:=by
  refine(Frac.up_le (f:=⟨r.hi*(1000+m),1000⟩) (by show (0:Int)<1000;decide) _).2 ?_;dsimp only;have h2:r.hi*(1000+m)<=r.hi*1500:=tM (by omega) (by omega);omega
 omega
theorem iD{s}{l}{at'}(h:(hrLook s l at').2=0):HrKOk (hrLook s l at').1/\hrTests s l=0/\ar at' 0 ((s.kinds.length:Int)-1)=true /\
  s.kinds[at'.toNat]?=some (hrLook s l at').1.k/\(hrLook s l at').1.rates=eb s.margin (cn s l at')/\0<=(cn s l at').lo:=by
 unfold hrLook at h |-;split at h
 .rename_i h0;have ht:=jC h0;rw[if_pos h0];split at h
  .cases h
  .rename_i k hk;split at h
   .cases h
   .rename_i h1;split at h
    .cases h
    .rename_i h2;have hg:ar at' 0 ((s.kinds.length:Int)-1)=true:=by
      cases hg:ar at' 0 ((s.kinds.length:Int)-1) with
      |true=>rfl
      |false=>rw[hg]at hk;cases hk
     rw[if_pos hg]at hk;simp only[hg,hk,if_neg h1,if_neg h2];have hm:=kZ ht.1;have hO:uO (cn s l at'):=zT ht.2.2 (.inl rfl);have hr:=hO.resolve_left (by intro e;rw[e]at h1;exact h1 (by decide));have hw:=Pn hm.2.2 hr;refine⟨⟨tx ht.1 (aG hk),hw.1,hw.2.1,?_,hw.2.2⟩,h0,trivial,trivial,trivial,by omega⟩;dsimp only;omega
 .contradiction
def HrK.least (x:HrK):Frac:=⟨60*(x.k.weight.lo-x.k.rest),x.rates.hi⟩
def HrK.most (x:HrK):Frac:=if 0<x.rates.lo then⟨60*(x.k.weight.hi-x.k.rest),x.rates.lo⟩ else⟨-1,1⟩
theorem TX(x)(hx:HrKOk x):af TP 90 [x.pv] (.tuple [x.least.pv,x.most.pv]):=by
 have hk:=hx.k;have h1:=hk.lo;have h2:=hk.le;have h3:=hk.hi;have h4:=hk.rest;have h5:=hk.less
 refine aa (eg (by kernel_rfl) rfl ZQ) rfl ?_;have w1:IntKind.i64.wrap (x.k.weight.lo-x.k.rest)=x.k.weight.lo-x.k.rest:=aj (by omega) (by omega);have w2:IntKind.i64.wrap (60*(x.k.weight.lo-x.k.rest))=60*(x.k.weight.lo-x.k.rest):=aj (by omega) (by omega);have w3:IntKind.i64.wrap (x.k.weight.hi-x.k.rest)=x.k.weight.hi-x.k.rest:=aj (by omega) (by omega);have w4:IntKind.i64.wrap (60*(x.k.weight.hi-x.k.rest))=60*(x.k.weight.hi-x.k.rest):=aj (by omega) (by omega);simp only[w1,w2,go_sem,simprocAttr];cases hp:decide (0<x.rates.lo)
 .have hp':¬0<x.rates.lo:=by simpa using hp
  simp only[WS,aL,HrK.least,HrK.most,if_neg hp',go_sem,simprocAttr]
 .have hp':0<x.rates.lo:=by simpa using hp
  simp only[w3,w4,WS,aL,HrK.least,HrK.most,if_pos hp',go_sem,simprocAttr]
def HrK.promise (x:HrK):Int:=if Frac.down ⟨x.least.top,x.least.below*60⟩<16666 then Frac.down ⟨x.least.top,x.least.below*60⟩ else 16666
theorem HrKOk.leastB{x}(hx:HrKOk x):60<=x.least.top/\x.least.top<=600000000/\1<=x.least.below/\x.least.below<=901800000:=by
 have hk:=hx.k;have h1:=hk.lo;have h2:=hk.le;have h3:=hk.hi;have h4:=hk.rest;have h5:=hk.less;have h6:=hx.pos;have h7:=hx.hi
 simp only[HrK.least];omega
theorem HrKOk.mostB{x}(hx:HrKOk x):-1<=x.most.top/\x.most.top<=600000000/\1<=x.most.below/\x.most.below<=901800000:=by
 have hk:=hx.k;have h1:=hk.lo;have h2:=hk.le;have h3:=hk.hi;have h4:=hk.rest;have h5:=hk.less;have h6:=hx.le;have h7:=hx.hi
 simp only[HrK.most];split<;>dsimp only<;>omega
theorem xO(x)(hx:HrKOk x):af TP 51 [x.pv] (.int .i64 x.promise):=by
 have hb:=hx.leastB;refine aa (ah Tryz.func51 rfl (by kernel_rfl)) rfl ?_;simp only[go_sem,simprocAttr];refine ae (TX x hx) rfl ?_;have w1:IntKind.i64.wrap (x.least.below*60)=x.least.below*60:=aj (by omega) (by omega);simp only[w1,go_sem,simprocAttr];refine ae (mC ⟨x.least.top,x.least.below*60⟩ (by show 0<x.least.below*60;omega) (by show _<=x.least.top;omega) (by show x.least.top<=_;omega)) rfl ?_;simp only[HrK.promise,go_sem,simprocAttr]
def HrK.short (x:HrK) (r:HrRule):Bool:=x.least.lt ⟨r.minutes.lo,1⟩
def HrK.long (x:HrK) (r:HrRule):Bool:=decide (x.most.top<0)||Frac.lt ⟨r.minutes.hi,1⟩ x.most
def HrK.size (x:HrK) (r:HrRule):Bool:=!ar x.k.weight.lo r.weight.lo r.weight.hi||!ar x.k.weight.hi r.weight.lo r.weight.hi
def nR (s:HrShop) (l:List HrTest) (at':Int):Span×Int:=if(hrLook s l at').2=0 then((hrLook s l at').1.rates,0) else(⟨0,0⟩,(hrLook s l at').2)
theorem V1(s:HrShop)(l:List HrTest)(at':Int):af TP 22 [s.pv,.slice 3 (l.map HrTest.pv) false,.int .i64 at'] (.tuple [(nR s l at').1.pv,.int .i64 (nR s l at').2]):=by
 refine aa (ah Tryz.func22 rfl (by kernel_rfl)) rfl ?_;simp only[go_sem,simprocAttr];refine ae (yK s l at') rfl ?_;simp only[go_sem,simprocAttr];cases h0:((hrLook s l at').2 != 0)
 .have h0':(hrLook s l at').2=0:=by simpa using h0
  simp only[nR,h0',Span.pv,go_sem,simprocAttr]
 .have h0':¬(hrLook s l at').2=0:=by simpa using h0
  simp only[nR,if_neg h0',Span.pv,go_sem,simprocAttr]
def dz (s:HrShop) (l:List HrTest) (at':Int):Int×Int:=if(hrLook s l at').2=0 then((hrLook s l at').1.promise,0) else(0,(hrLook s l at').2)
theorem QV(s)(l)(at'):af TP 220 [s.pv,.slice 3 (l.map HrTest.pv) false,.int .i64 at'] (.tuple [.int .i64 (dz s l at').1,.int .i64 (dz s l at').2]):=by
 refine aa (ah Tryz.func220 rfl (by kernel_rfl)) rfl ?_;simp only[go_sem,simprocAttr];refine ae (yK s l at') rfl ?_;simp only[go_sem,simprocAttr];cases h0:((hrLook s l at').2 != 0)
 .have h0':(hrLook s l at').2=0:=by simpa using h0
  simp only[go_sem,simprocAttr];refine ae (xO _ (iD h0').1) rfl ?_;simp only[dz,if_pos h0',go_sem,simprocAttr]
 .have h0':¬(hrLook s l at').2=0:=by simpa using h0
  simp only[dz,if_neg h0',go_sem,simprocAttr]
def HrK.minutes (x:HrK):Span:=⟨if x.least.down<1000000 then x.least.down else 1000000,if ar x.most.up 0 1000000=true then x.most.up else 1000000⟩
def tA (s:HrShop) (l:List HrTest) (at':Int):Span×Int:=if(hrLook s l at').2=0 then((hrLook s l at').1.minutes,0) else(⟨0,0⟩,(hrLook s l at').2)
def HrK.fits (x:HrK) (r:HrRule):Int:=if x.short r=true then 1 else if x.long r=true then 2 else if x.size r=true then 3 else 0
def Gw (p:Int×Int):PV×PV:=(.int .i64 p.1,.int .i64 p.2)
def iB (k:Int):List (Int×Int)->Option Int
 |[]=>none
 |(q,v)::r=>if k=q then some v else iB k r
theorem vI(k):∀es,lS (.int .i64 k) (es.map Gw)=some ((iB k es).map λv=>.int .i64 v)
 |[]=>rfl
 |(q,v)::r=>by
  rw[bL,lS.eq_def];simp only[Gw,j0,if_true];cases h:(k==q)
  .rw[iB,if_neg (by simpa using h)];exact vI k r
  .rw[iB,if_pos (by simpa using h)];rfl
theorem vH(k v):∀es,iB k es=none->oC (.int .i64 k) (.int .i64 v) (es.map Gw)=some ((es++[(k,v)]).map Gw)
 |[],_=>rfl
 |(q,u)::r,h=>by
  rw[iB]at h;split at h
  .cases h
  .rename_i hne;rw[bL,oC.eq_def];simp only[Gw,j0,if_true];rw[show (k==q)=false by simpa using hne];dsimp only;rw[vH k v r h];rfl
theorem sx(k)(a):∀es,iB k (es++[a])=(iB k es).or (if k=a.1 then some a.2 else none)
 |[]=>by simp[iB]
 |(q,u)::r=>by
  rw[eu,iB,iB];split
  .rfl
  .exact sx k a r
def jI (s:HrShop) (l:List HrTest) (b:HrBox):Int:=
 if ar b.kind 0 ((s.kinds.length:Int)-1)=true then(if ar b.hours 0 1000000=true then(hrLook s l b.kind).2 else 7) else 4
def bH (s:HrShop) (l:List HrTest):Nat->List HrBox->List Int×Int
 |_,[]=>([],0)
 |i,b::r=>
  if jI s l b=0 then
   (if(bH s l (i+1) r).2=0 then((if(hrLook s l b.kind).1.promise<b.hours then [(i:Int)] else [])++(bH s l (i+1) r).1,0) else([],(bH s l (i+1) r).2))
  else([],jI s l b)
def bq (s:HrShop) (l:List HrTest) (boxes:List HrBox):List Int×Int:=
 if hrTests s l=0 then(if 20<boxes.length then([],3) else bH s l 0 boxes) else([],hrTests s l)
def gr (out:List Int) (q:List Int×Int):List Int×Int:=if q.2=0 then(out++q.1,0) else([],q.2)
theorem pE{s}{l}{out}{i}{b}{r}{e}(h:jI s l b=e)(he:e≠0):gr out (bH s l i (b::r))=([],e):=by
 rw[bH,h,if_neg he,gr,if_neg he]
theorem yv{s}{l}{out}{i}{b}{r}(h:jI s l b=0) :
  gr out (bH s l i (b::r))=gr (out++(if(hrLook s l b.kind).1.promise<b.hours then [(i:Int)] else [])) (bH s l (i+1) r):=by
 rw[bH,if_pos h];by_cases h2:(bH s l (i+1) r).2=0
 .rw[if_pos h2,gr,gr,if_pos rfl,if_pos h2,cF]
 .rw[if_neg h2,gr,gr,if_neg h2,if_neg h2]
theorem A9(s)(l):hrLook s l (-1)=(⟨l5,⟨0,0⟩⟩,if hrTests s l=0 then 4 else hrTests s l):=by
 rw[hrLook];split
 .rw[show ar (-1) 0 ((s.kinds.length:Int)-1)=false by simp[ar]];rfl
 .rfl
set_option maxHeartbeats 2000000 in
theorem T1(s)(l)(boxes):af TP 21 [s.pv,.slice 3 (l.map HrTest.pv) false,.slice 2 (boxes.map HrBox.pv) false] (.tuple [mG (bq s l boxes).1,.int .i64 (bq s l boxes).2]):=by
 refine dj (ah Tryz.func21 rfl (by kernel_rfl)) rfl ?_;simp only[go_sem,simprocAttr];refine ae (yK s l (-1)) rfl ?_;simp only[A9,go_sem,simprocAttr];cases h0:decide (hrTests s l=0)
 .have h0':¬hrTests s l=0:=by simpa using h0
  have hsp:bq s l boxes=([],hrTests s l):=by rw[bq,if_neg h0']
  rw[hsp,if_neg h0'];have hch:(hrCheck s).2.2=0->hrTests s l=4->l.length<1000000000:=by
   intro hc h4;unfold hrTests at h4;rw[if_pos hc]at h4;split at h4
   .cases h4
   .omega
  cases h4:(hrTests s l != 4)
  .have h4':hrTests s l=4:=by simpa using h4
   simp only[go_sem,simprocAttr];refine ae (mA s l false (λhc=>hch hc h4')) rfl ?_;have hop:(bS s l != 0)=true:=by
    unfold hrTests at h4';unfold bS;split at h4'
    .rename_i hc;split at h4'
     .cases h4'
     .rw[if_pos hc,h4'];rfl
    .rename_i hc;rw[if_neg hc,h4'];rfl
   simp only[hop,mG,ck,go_sem,simprocAttr];exact⟨_,_,rfl,rfl,.inr ⟨rfl,1,rfl⟩,.inl rfl,trivial⟩
  .simp only[mG,ck,go_sem,simprocAttr];exact⟨_,_,rfl,rfl,.inr ⟨rfl,1,rfl⟩,.inl rfl,trivial⟩
 have h0':hrTests s l=0:=by simpa using h0
 have hok:=jC h0';have hkk:=kY hok.1;have hop:bS s l=0:=by rw[bS,if_pos hok.1,hok.2.2]
 rw[if_pos h0'];simp only[go_sem,simprocAttr];refine ae (mA s l false (λ_=>by omega)) rfl ?_;simp only[hop,go_sem,simprocAttr];cases h20:decide ((20:Int)<(boxes.length:Int));rotate_left
 .have h20':20<boxes.length:=by simp at h20;omega
  have hsp:bq s l boxes=([],3):=by rw[bq,if_pos h0',if_pos h20']
  rw[hsp];simp only[mG,ck,go_sem,simprocAttr];exact⟨_,_,rfl,rfl,.inr ⟨rfl,1,rfl⟩,.inl rfl,trivial⟩
 have h20':¬20<boxes.length:=by simp at h20;omega
 have hsp:bq s l boxes=bH s l 0 boxes:=by rw[bq,if_pos h0',if_neg h20']
 rw[hsp];have hj:bH s l 0 boxes=gr [] (bH s l 0 boxes):=by
  have key:∀q:List Int×Int,(q.2≠0->q.1=[])->q=gr [] q:=by
   rintro⟨a,b⟩ h
   simp only[gr,ky];split
   .rename_i h1;rw[show b=0 from h1]
   .rename_i h1;rw[show a=[] from h h1]
  refine key _ ?_;generalize (0:Nat)=i
  cases boxes with
  |nil=>intro h;exact absurd rfl h
  |cons b r=>
   intro h;rw[bH]at h |-;split
   .split
    .rename_i h1 h2;rw[if_pos h1,if_pos h2]at h;exact absurd rfl h
    .rfl
   .rfl
 rw[hj];simp only[go_sem,simprocAttr];refine cl 6 1 (by simp only[go_sem,simprocAttr]) ?_;simp only[go_sem,simprocAttr]
 refine eC [1,3,8,36,37] (σ:=List HrBox×List HrBox×List Int×List (Int×Int)×Heap)
  (λq=>boxes=q.1++q.2.1/\gr [] (bH s l 0 boxes)=gr q.2.2.1 (bH s l q.1.length q.2.1)/\q.2.2.1.length<=q.1.length /\
   ∀k v,iB k q.2.2.2.1=some v->(hrLook s l k).2=0/\v=(hrLook s l k).1.promise) (λq=>q.2.1.length)
  (λq=>[(6,.slice 2 q.2.2.1.length 0 q.2.2.1.length),(38,.p (.int .i64 q.1.length))])
  (λq=>[.row 3 [.p s.pv],.mp (q.2.2.2.1.map Gw),.row 1 (q.2.2.1.map λn=>.p (aI n))]++q.2.2.2.2) ([],boxes,[],[],[]) ⟨rfl,rfl,bB _,λk v h=>by cases h⟩ (by simp only[ck,bC,go_sem,simprocAttr]) ?_ ?_
 .simp only[go_sem,simprocAttr]
 rintro⟨done,rest,out,es,g⟩ ⟨e1,e2,e3,e4⟩
 dsimp only at e1 e2 e3 e4
 cases rest with
 |nil=>
  have hlt:¬((done.length:Int)<(boxes.length:Int)):=by rw[e1];simp
  have e5:gr out (bH s l done.length [])=(out,0):=by rw[bH,gr,if_pos rfl,bC]
  rw[e2,e5];simp only[hlt,decide_false,mG,go_sem,simprocAttr]
  exact .inl rfl
 |cons b r=>
  obtain⟨hx,hltt⟩:=d8 e1;have hlen1:=congrArg List.length e1;simp only[aB,cu]at hlen1;have hnx:IntKind.i64.wrap ((done.length:Int)+1)=(((done++[b]).length:Nat):Int):=bj (by omega) (by simp[aw];omega) (by simp);have g0:=k8 (lo:=g) rfl;have s0:=mT (lo:=g) rfl;have gg:=k7 (lo:=g) rfl;have ss:=mS (lo:=g) rfl;have hw:IntKind.i64.wrap ((s.kinds.length:Int)-1)=(s.kinds.length:Int)-1:=aj (by omega) (by omega);simp only[hltt,decide_true,hx,g0,s0,hw,go_sem,simprocAttr];refine ae (im 0 _ [_] true (by simp)) rfl ?_;simp only[cV,bw,cD,go_sem,simprocAttr];cases h2:ar b.kind 0 ((s.kinds.length:Int)-1)
  .rw[e2,pE (e:=4) (by rw[jI,h2];rfl) (by decide)];simp only[mG,ck,go_sem,simprocAttr];exact⟨_,_,rfl,rfl,.inr ⟨rfl,1,rfl⟩,.inl rfl,trivial⟩
  simp only[g0,go_sem,simprocAttr];refine ae (im 0 1000000 [_] true (by simp)) rfl ?_;simp only[cV,bw,cD,go_sem,simprocAttr];cases h3:ar b.hours 0 1000000
  .rw[e2,pE (e:=7) (by rw[jI,h2,h3];rfl) (by decide)];simp only[mG,ck,go_sem,simprocAttr];exact⟨_,_,rfl,rfl,.inr ⟨rfl,1,rfl⟩,.inl rfl,trivial⟩
  have hbe:jI s l b=(hrLook s l b.kind).2:=by rw[jI,h2,h3];rfl
  have hgi:=vI b.kind es;simp only[g0,hgi,go_sem,simprocAttr];have hrm:out.length+1<=aw:=by simp[aw];omega
  cases hm:iB b.kind es with
  |some v=>
   obtain⟨hl0,rfl⟩:=e4 _ _ hm;have hj2:=yv (out:=out) (i:=done.length) (r:=r) (hbe.trans hl0);simp only[g0,go_sem,simprocAttr];cases h9:decide ((hrLook s l b.kind).1.promise<b.hours)
   .have h9':¬(hrLook s l b.kind).1.promise<b.hours:=by simpa using h9
    rw[if_neg h9',bC]at hj2;simp only[go_sem,simprocAttr];refine bh (done++[b],r,out,es,g++[.row 2 [.p b.pv]]) ⟨by rw[e1];simp,by rw[e2,hj2];simp,by simp;omega,e4⟩ (j4 _) (by simp only[go_sem,simprocAttr]) ?_;simp only[hnx,go_sem,simprocAttr]
   .have h9':(hrLook s l b.kind).1.promise<b.hours:=by simpa using h9
    rw[if_pos h9']at hj2;simp only[hrm,go_sem,simprocAttr];refine bh (done++[b],r,out++[((done.length:Nat):Int)],es,g++[.row 2 [.p b.pv]]) ⟨by rw[e1];simp,by rw[e2,hj2];simp,by simp;omega,e4⟩ (j4 _) (by simp only[cj,go_sem,simprocAttr]) ?_
    simp only[hnx,aB,bn,go_sem,simprocAttr]
  |none=>
   simp only[g0,go_sem,simprocAttr];refine ae (yK s l b.kind) rfl ?_;simp only[gg,ss,cF,aB,bn,go_sem,simprocAttr];cases hl:((hrLook s l b.kind).2 != 0)
   rotate_left
   .have hl':(hrLook s l b.kind).2≠0:=by simpa using hl
    rw[e2,pE hbe hl'];simp only[mG,ck,go_sem,simprocAttr];exact⟨_,_,rfl,rfl,.inr ⟨rfl,1,rfl⟩,.inl rfl,trivial⟩
   have hl0:(hrLook s l b.kind).2=0:=by simpa using hl
   have hj2:=yv (out:=out) (i:=done.length) (r:=r) (hbe.trans hl0);have hmp:=vH b.kind (hrLook s l b.kind).1.promise es hm;have hes:∀k v,iB k (es++[(b.kind,(hrLook s l b.kind).1.promise)])=some v->(hrLook s l k).2=0/\v=(hrLook s l k).1.promise:=by
    intro k v h;rw[sx]at h
    cases hk:iB k es with
    |some u=>rw[hk]at h;cases h;exact e4 k _ hk
    |none=>
     rw[hk]at h;dsimp only[Option.or]at h;split at h
     .rename_i hkk;cases h;rw[hkk];exact⟨hl0,rfl⟩
     .cases h
   simp only[gg,go_sem,simprocAttr];refine ae (xO _ (iD hl0).1) rfl ?_;simp only[g0,hmp,go_sem,simprocAttr];cases h9:decide ((hrLook s l b.kind).1.promise<b.hours)
   .have h9':¬(hrLook s l b.kind).1.promise<b.hours:=by simpa using h9
    rw[if_neg h9',bC]at hj2;simp only[go_sem,simprocAttr];refine bh (done++[b],r,out,es++[(b.kind,(hrLook s l b.kind).1.promise)],g++[.row 2 [.p b.pv],.row 6 [.p (hrLook s l b.kind).1.pv]]) ⟨by rw[e1];simp,by rw[e2,hj2];simp,by simp;omega,hes⟩ (j4 _) (by simp only[go_sem,simprocAttr]) ?_;simp only[hnx,go_sem,simprocAttr]
   .have h9':(hrLook s l b.kind).1.promise<b.hours:=by simpa using h9
    rw[if_pos h9']at hj2;simp only[hrm,go_sem,simprocAttr];refine bh (done++[b],r,out++[((done.length:Nat):Int)],es++[(b.kind,(hrLook s l b.kind).1.promise)],g++[.row 2 [.p b.pv],.row 6 [.p (hrLook s l b.kind).1.pv]]) ⟨by rw[e1];simp,by rw[e2,hj2];simp,by simp;omega,hes⟩ (j4 _) (by simp only[cj,go_sem,simprocAttr]) ?_;simp only[hnx,aB,bn,go_sem,simprocAttr]
theorem Kp{P}{H}{ops}{rest}{Q}{o}{A}{f}{args}{v}{h'}(hc:aD P f args A.h (λr h=>r=.ret v/\h=h'))
  (h1:@WD ⟨P,H,ops,rest,Q⟩ (A.put o.dst v h').h (A.put o.dst v h')):@O1 ⟨P,H,ops,rest,Q,o⟩ A (.call f args):=
 hc.mono λr h hr=>by
  obtain⟨rfl,rfl⟩:=hr;exact h1
def be (n:Int):List UInt8:=Lib.decDigits n.toNat
theorem wa:∀(k n),n<10^(k+1)->(Lib.decDigits n).length<=k+1
 |0,n,h=>by rw[Lib.decDigits,dif_pos (by simpa using h)];simp
 |k+1,n,h=>by
  rw[Lib.decDigits];split
  .simp
  .have:=wa k (n / 10) (by rw[Nat.pow_succ]at h;omega);simp;omega
theorem nU{n}(_:0<=n)(h1:n<=10000000):(be n).length<=8:=wa 7 _ (by omega)
theorem nG{n}(h0:0<=n):Bk n=bs (be n):=by
 have:Lib.itoa n=be n:=by rw[Lib.itoa,if_neg (by omega)];rfl
 rw[Bk,this];rfl
def us:List UInt8:=[116,101,115,116,32]
def sp:List UInt8:=[32]
def nl:List UInt8:=[10]
def oE (nm:List UInt8) (e:Int):List UInt8:=us++nm++sp++be e++nl
def kJ (m:HrMark):List UInt8:=be m.minute++sp++be m.weight++nl
def jY (s:HrShop) (t:HrTest):List UInt8:=oE (((s.kinds[t.kind.toNat]?).map λk=>k.name.data.toList).getD []) t.error++(t.marks.map kJ).flatten
theorem vC{b}(h:nameOk b=true):b.size<=20:=by
 unfold nameOk at h;simp at h;omega
theorem lb(a b):gV a++gV b=gV (a++b):=by
 have:(a++b).data.toList=a.data.toList++b.data.toList:=by simp
 unfold gV;rw[this,cj]
theorem ze{h}{i}{s}(hi:h[i]?=some (.bld 170 5 (.p .nilslice)))(hs:s.size<=1000000)(h0:s.size≠0) :
  aD TP 65 [.ref .bl i,.p (.str s)] h (λr h'=>r=.ret (.p (.tuple [.int .i64 s.size,.niliface])) /\
   h'=(h++[AObj.row 1 (gV s)]).set i (.bld 170 5 (.slice h.length s.size 0 s.size))):=by
 have hil:=(aF.1 hi).1;refine DU (x':=.slice h.length s.size 0 s.size) hi (by simp[aw];omega) (.inl rfl) ?_ (by rw[aX hil];exact hi) (.inr ⟨_,_,rfl⟩);have hne:¬(List.map (λb:UInt8=>AV.p (PV.int .u8 (b.toNat:Int))) s.data.toList=[]):=λh=>h0 (by have:=congrArg List.length h;simpa using this);have hrm:s.size<=aw:=by simp[aw];omega
 have hl:s.data.size=s.size:=rfl;simp only[hne,hrm,uX,hl,gV,go_sem,simprocAttr];rw[if_neg (by simp)]
theorem oM{h}{i j n}{xs}{s}(hi:h[i]?=some (.bld 170 5 (.slice j n 0 n)))(hj:h[j]?=some (.row 1 xs))(hn:xs.length=n)(hij:i≠j)(hs:n+s.size<=1000000) :
  aD TP 65 [.ref .bl i,.p (.str s)] h (λr h'=>r=.ret (.p (.tuple [.int .i64 s.size,.niliface])) /\
   h'=(h.set j (.row 1 (xs++gV s))).set i (.bld 170 5 (.slice j (n+s.size) 0 (n+s.size)))):=by
 refine DU (x':=.slice j (n+s.size) 0 (n+s.size)) hi (by simp[aw];omega) (.inr ⟨j,n,xs,rfl,hj,hn,by simp[aw];omega⟩) ?_ (by rw[eo hij.symm];exact hi) (.inr ⟨_,_,rfl⟩);have hrm:n+s.size<=aw:=by simp[aw];omega
 have hl:s.data.size=s.size:=rfl;simp only[hj,hn,hrm,uX,hl,gV,go_sem,simprocAttr];rw[if_neg (by simp)]
set_option maxHeartbeats 2000000 in
theorem XU(s)(t)(hc:(hrCheck s).2.2=0)(ht:bV s.kinds.length t=0):af TP 261 [s.pv,t.pv] (.str (bs (jY s t))):=by
 obtain⟨hok,k0,k1⟩:=fS ht;obtain⟨n,hn⟩:=nx k0;have hnl:n<s.kinds.length:=by omega
 obtain⟨k,hk⟩:∃k,s.kinds[n]?=some k:=⟨_,dc hnl⟩
 have hko:=tx hc (aG hk);have hks:=vC hko.name;obtain⟨nm,hnm⟩:∃nm,k.name=bs nm:=⟨_,(xT _).symm⟩
 have hsp:jY s t=oE nm t.error++(t.marks.map kJ).flatten:=by rw[jY,hn,g7,hk,jX,je,hnm,gF]
 rw[hnm,ao]at hks;have hlt:(n:Int)<(s.kinds.length:Int):=by omega
 have he:=hok.err;have hel:=nU he.1 (by omega);have hit:=nG he.1;have l1:us.length=5:=rfl;have l2:sp.length=1:=rfl;have l3:nl.length=1:=rfl;have r1:(bs us).size+(bs nm).size<=bG:=by simp[ao,bG,l1];omega
 have r2:(bs (us++nm)).size+(bs sp).size<=bG:=by simp[ao,bG,l1,l2];omega
 have r3:(bs (us++nm++sp)).size+(bs (be t.error)).size<=bG:=by simp[ao,bG,l1,l2];omega
 have r4:(bs (us++nm++sp++be t.error)).size+(bs nl).size<=bG:=by simp[ao,bG,l1,l2,l3];omega
 have c1:(⟨#[116,101,115,116,32]⟩:ByteArray)=bs us:=rfl;have c2:(⟨#[32]⟩:ByteArray)=bs sp:=rfl;have c3:(⟨#[10]⟩:ByteArray)=bs nl:=rfl;have hA:us++nm++sp++be t.error++nl=oE nm t.error:=rfl;have hAl:(oE nm t.error).length<=40:=by simp[oE,l1,l2,l3];omega
 have hA0:(oE nm t.error).length≠0:=by simp[oE,l1]
 generalize oE nm t.error=A at hsp hA hAl hA0;refine aa (eg (by kernel_rfl) rfl Xn) rfl ?_;simp only[WX,aL,hn,hlt,hk,hnm,c1,c2,c3,r1,r2,dQ,go_sem,simprocAttr];refine ax (yL t.error (by omega) (by omega)) rfl ?_;simp only[hit,r3,r4,dQ,hA,go_sem,simprocAttr];refine Kp (ze (s:=bs A) rfl (by rw[ao];omega) (by rw[ao];exact hA0)) ?_;simp only[ao,go_sem,simprocAttr]
 refine eC [5,24,25] (σ:=List HrMark×List HrMark×List UInt8×Heap)
  (λq=>t.marks=q.1++q.2.1/\jY s t=q.2.2.1++(q.2.1.map kJ).flatten/\q.2.2.1.length<=40+18*q.1.length/\q.2.2.1.length≠0) (λq=>q.2.1.length)
  (λq=>[(26,.p (.int .i64 q.1.length))])
  (λq=>[.row 3 [.p s.pv],.row 3 [.p t.pv],.bld 170 5 (.slice 3 q.2.2.1.length 0 q.2.2.1.length),.row 1 (gV (bs q.2.2.1))]++q.2.2.2) ([],t.marks,A,[]) ⟨rfl,hsp,hAl,hA0⟩ (by simp only[hn,bC,go_sem,simprocAttr]) ?_ ?_
 .simp only[go_sem,simprocAttr]
 rintro⟨done,rest,acc,g⟩ ⟨e1,e2,e3,e4⟩
 dsimp only at e1 e2 e3 e4
 cases rest with
 |nil=>
  have hlt2:¬((done.length:Int)<(t.marks.length:Int)):=by rw[e1];simp
  rw[ck,List.flatten_nil,bC]at e2;have hml:=hok.len;have hdl:=congrArg List.length e1;simp only[aB,cw]at hdl;simp only[hlt2,decide_false,go_sem,simprocAttr];have hsz:=ao acc;refine cJ (vT (j:=3) (s:=bs acc) (by rw[hsz];rfl) rfl (by rw[hsz];exact e4) (by rw[hsz];omega)) ?_;simp only[go_sem,simprocAttr]
  rw[e2]
 |cons m rest=>
  obtain⟨hx,hltt⟩:=d8 e1;have hml:=hok.len;have hdl:=congrArg List.length e1;simp only[aB,cu]at hdl;have hnx:IntKind.i64.wrap ((done.length:Int)+1)=(((done++[m]).length:Nat):Int):=bj (by omega) (by simp[aw];omega) (by simp);have hm:=hok.all m (by rw[e1];simp);have hd1:=nU hm.1 (by omega);have hd2:=nU hm.2.2.1 (by omega);have i1:=nG hm.1;have i2:=nG hm.2.2.1;have q1:(bs (be m.minute)).size+(bs sp).size<=bG:=by simp[ao,bG,l2];omega
  have q2:(bs (be m.minute++sp)).size+(bs (be m.weight)).size<=bG:=by simp[ao,bG,l2];omega
  have q3:(bs (be m.minute++sp++be m.weight)).size+(bs nl).size<=bG:=by simp[ao,bG,l2,l3];omega
  have hB:be m.minute++sp++be m.weight++nl=kJ m:=rfl;have hBl:(kJ m).length<=18:=by simp[kJ,l2,l3];omega
  rw[bL,Pc]at e2;have g0:=k8 (lo:=g) rfl;have s0:=mT (lo:=g) rfl;simp only[hltt,decide_true,hx,g0,s0,aL,bC,go_sem,simprocAttr];refine ax (yL m.minute (by omega) (by omega)) rfl ?_;simp only[i1,q1,dQ,g0,bC,go_sem,simprocAttr];refine ax (yL m.weight (by omega) (by omega)) rfl ?_;simp only[i2,q2,q3,dQ,hB,bC,go_sem,simprocAttr];refine Kp (oM (s:=bs (kJ m)) (j:=3) rfl rfl (by rw[kM,ao]) (by decide) (by rw[ao];omega)) ?_;simp only[ao,lb,dQ,go_sem,simprocAttr];refine bh (done++[m],rest,acc++kJ m,g++[.row 2 [.p m.pv]]) ⟨by rw[e1];simp,by rw[e2];simp,by show (acc++kJ m).length<=40+18*(done++[m]).length;simp only[aB,bn];omega,by show (acc++kJ m).length≠0;simp only[aB];omega⟩ (j4 _) (by simp only[aB,go_sem,simprocAttr]) ?_;simp only[hnx,go_sem,simprocAttr]
theorem Ah{n}(h0:0<=n)(h1:n<1000000000):af TP 20 [.int .i64 n] (.str (bs (be n))):=by
 obtain⟨m,rfl⟩:=nx h0;exact TY m (by omega)
theorem LI(l)(c)(h):aD TP 302 [.p (.str (bs l)),.p (.str (bs [c])),.p (.int .i64 0)] h
  (λr h'=>r=.ret (.func (.func 320) [] [.ptr (h.length+1) 1 0 0,.ptr h.length 1 0 0,.ptr (h.length+2) 1 0 0]) /\
   h'=h++[.row 1 [.p (.str (bs l))],.row 1 [.p (.str (bs [c]))],.row 1 [.p (.int .i64 0)]]):=by
 refine aC (ah Tryz.func302 rfl (by kernel_rfl)) rfl ?_;simp only[cF,aB,bn,go_sem,simprocAttr]
theorem NY(l)(c)(h):aD TP 259 [.p (.str (bs l)),.p (.str (bs [c]))] h
  (λr h'=>r=.ret (.func (.func 320) [] [.ptr (h.length+1) 1 0 0,.ptr h.length 1 0 0,.ptr (h.length+2) 1 0 0]) /\
   h'=h++[.row 1 [.p (.str (bs l))],.row 1 [.p (.str (bs [c]))],.row 1 [.p (.int .i64 0)]]):=by
 refine aC (ah Tryz.func259 rfl (by kernel_rfl)) rfl ?_;simp only[go_sem,simprocAttr];refine cJ (LI l c h) ?_;simp only[go_sem,simprocAttr]
def Kq (c:UInt8) (ns nsep nz:Nat) (x:List UInt8) (h:Heap):Prop:=
 h[ns]?=some (.row 1 [.p (.str (bs x))])/\h[nsep]?=some (.row 1 [.p (.str (bs [c]))])/\h[nz]?=some (.row 1 [.p (.int .i64 0)])
set_option maxHeartbeats 1000000 in
theorem Vq(l)(c)(hl:l.length<1000000000)(id ns nsep nz)(h0)(Inv Inv':List (List UInt8)->List UInt8->Heap->Prop)(Pan:PV->Heap->Prop)
  (hrow:∀done x h,Inv done x h->Kq c ns nsep nz x h) (hrow':∀done x h,Inv' done x h->Kq c ns nsep nz x h)
  (hy:∀done x h,aP c l=done++aP c x->Inv done x h->ue TP id [.p (.str (bs (aK c x).1))] h (λr h'=>(r=.ret (.p (.bool true))/\Inv' (done++[(aK c x).1]) x h')\/∃v,r=.panic v/\Pan v h'))
  (hstep:∀done x y h,Inv' done x h->(aK c x).2=some y->Inv done y (h.set ns (.row 1 [.p (.str (bs y))]))) (hi:Inv [] l h0) :
  aD TP 320 [.ref .yl id,.ptr nsep 1 0 0,.ptr ns 1 0 0,.ptr nz 1 0 0] h0
   (λr h'=>(r=.ret (.p (.tuple []))/\∃x,(aK c x).2=none/\Inv' (aP c l) x h')\/∃v,r=.panic v/\Pan v h'):=by
 refine aC (ah Tryz.func320 rfl (by kernel_rfl)) rfl ?_;obtain⟨r1,r2,r3⟩:=hrow _ _ _ hi;have hz:(((bs [c]).size:Int)==0)=false:=rfl;simp only[r2,hz,go_sem,simprocAttr]
 refine eC [0,1,2,3] (σ:=List (List UInt8)×List UInt8×Heap)
  (λq=>aP c l=q.1++aP c q.2.1/\Inv q.1 q.2.1 q.2.2/\q.2.1.length<1000000000) (λq=>q.2.1.length)
  (λ_=>[]) (λq=>q.2.2) ([],l,h0) ⟨rfl,hi,hl⟩ rfl ?_ ?_
 .simp only[go_sem,simprocAttr]
 clear r1 r2 r3
 rintro⟨done,x,h⟩ ⟨e1,e2,e3⟩
 dsimp only at e1 e2 e3;obtain⟨r1,r2,r3⟩:=hrow _ _ _ e2;have hyy:=hy done x h e1 e2;simp only[r1,r2,go_sem,simprocAttr];refine ae (Hk (bs x) c) rfl ?_;rw[gF];rcases kl c x with⟨h1,h2,h3⟩|⟨r,h1,h2,h3⟩
 .simp only[h3,r1,go_sem,simprocAttr];have hall:aP c l=done++[x]:=by rw[e1,mK h1]
  rw[h2]at hyy;refine qL hyy (λv h' hr=>?_) (λv h' hr=>?_)
  .rcases hr with⟨hr,hI⟩|⟨v',hr,_⟩
   .cases hr;simp only[go_sem,simprocAttr];refine .inl ?_;rw[hall];exact⟨x,h1,hI⟩
   .cases hr
  .rcases hr with⟨hr,_⟩|⟨v',hr,hP⟩
   .cases hr
   .cases hr;simp only[go_sem,simprocAttr];exact⟨_,rfl,hP⟩
 .have hlen3:=congrArg List.length h3;simp only[aB,cu]at hlen3;have q1:decide (((aK c x).1.length:Int)<0)=false:=by simp
  have q2:IntKind.i64.wrap (((aK c x).1.length:Int)+0)=(((aK c x).1.length:Nat):Int):=by rw[mb];exact aj (by omega) (by omega)
  have q3:(((aK c x).1.length:Int)<=((bs x).size:Int)):=by rw[ao];omega
  have q4:(bs x).extract 0 (aK c x).1.length=bs (aK c x).1:=by
   rw[cY,mE]
   congr 1
   have:=congrArg (List.take (aK c x).1.length) h3;rw[gk]at this
   .exact this
   .rfl
  have q5:IntKind.i64.wrap (((aK c x).1.length:Int)+(((bs [c]).size:Nat):Int))=(((aK c x).1.length+1:Nat):Int):=by
   rw[ao];exact bj (by omega) (by simp[aw];omega) (by simp)
  have q6:((((aK c x).1.length+1:Nat):Int)<=((bs x).size:Int)):=by rw[ao];omega
  have q7:(bs x).extract ((aK c x).1.length+1) (bs x).size=bs r:=by
   rw[cY,ao,qN]
   congr 1
   have:=congrArg (List.drop ((aK c x).1.length+1)) h3;rw[this];simp
  simp only[h2,q1,r1,r3,q2,q3,q4,go_sem,simprocAttr];refine qL hyy (λv h' hr=>?_) (λv h' hr=>?_);rotate_left
  .rcases hr with⟨hr,_⟩|⟨v',hr,hP⟩
   .cases hr
   .cases hr;simp only[go_sem,simprocAttr];exact⟨_,rfl,hP⟩
  rcases hr with⟨hr,hI⟩|⟨v',hr,_⟩
  rotate_left
  .cases hr
  cases hr;obtain⟨s1,s2,s3⟩:=hrow' _ _ _ hI;simp only[s1,s2,q5,q6,q7,go_sem,simprocAttr];refine bh (done++[(aK c x).1],r,h'.set ns (.row 1 [.p (.str (bs r))])) ⟨by rw[e1,mJ h1];simp,hstep _ _ _ _ hI h1,by show r.length<1000000000;omega⟩ (by show r.length<x.length;omega) rfl ?_;simp only[go_sem,simprocAttr]
theorem uz(a b):∀acc,Lib.decFrom acc (a++b)=(Lib.decFrom acc a).bind λx=>Lib.decFrom x b:=by
 induction a with
 |nil=>intro acc;rfl
 |cons x r ih=>
  intro acc;rw[eu,Lib.decFrom,Lib.decFrom]
  cases Lib.digitVal x with
  |none=>rfl
  |some d=>exact ih _
theorem D2{d}(h:d<10):Lib.digitVal (UInt8.ofNat (48+d))=some d:=by
 have e:(UInt8.ofNat (48+d)).toNat=48+d:=by simp;omega
 rw[Lib.digitVal,e,if_pos (by omega)]
 congr 1;omega
theorem t7(n):Lib.decFrom 0 (Lib.decDigits n)=some n:=by
 induction n using Nat.strongRecOn with
 |ind n ih=>
  rw[Lib.decDigits];split
  .rename_i h;simp only[Lib.decFrom,D2 h,E0,iq]
  .rename_i h;rw[uz,ih (n / 10) (by omega)];simp only[gp,Lib.decFrom,D2 (uQ n (by omega:0<10))]
   congr 1;omega
theorem wb(n):∀b,b∈Lib.decDigits n->48<=b.toNat/\b.toNat<=57:=by
 induction n using Nat.strongRecOn with
 |ind n ih=>
  intro b hb;rw[Lib.decDigits]at hb;split at hb
  .rename_i h;rw[gh]at hb;subst hb;have e:(UInt8.ofNat (48+n)).toNat=48+n:=by simp;omega
   omega
  .rename_i h;rw[dr,gh]at hb;rcases hb with hb|rfl
   .exact ih (n / 10) (by omega) b hb
   .have e:(UInt8.ofNat (48+n%10)).toNat=48+n%10:=by simp;omega
    omega
theorem l6(n):Lib.decDigits n≠[]:=by rw[Lib.decDigits];split<;>simp
def jR (l:List UInt8):Option Int:=match Lib.atoiAll l with|.ok v=>some v|_=>none
theorem vv{n}(h0:0<=n)(h1:n<=10000000):jR (be n)=some n:=by
 obtain⟨m,rfl⟩:=nx h0;have hl:=nU h0 h1;have hat:Lib.atoi (be (m:Int))=some (m:Int):=by
  unfold be;rw[g7];have hd:=wb m;have hf:=t7 m
  cases hc:Lib.decDigits m with
  |nil=>exact absurd hc (l6 m)
  |cons b r=>
   rw[hc]at hd hf;have hb:=hd b (by simp);have b1:(b==45)=false:=by
    rw[beq_eq_false_iff_ne];rintro rfl;simp at hb
   have b2:(b==43)=false:=by
    rw[beq_eq_false_iff_ne];rintro rfl;simp at hb
   simp only[Lib.atoi,b1,b2,jc,if_false,Lib.decNat,List.isEmpty_cons,hf,jX]
 rw[jR,Lib.atoiAll_short _ (by omega),hat];rfl
def hZ:PV:=.iface 49 (.int .i64 6)
theorem Vu(b)(h):aD TP 256 [.p (.bool b)] h (λr h'=>h'=h/\r=if b=true then .ret (.p (.tuple [])) else .panic hZ):=by
 refine aC (ah Tryz.func256 rfl (by kernel_rfl)) rfl ?_;simp only[go_sem,simprocAttr];cases b
 .simp only[hZ,go_sem,simprocAttr]
 .simp only[go_sem,simprocAttr]
theorem pS{H}{Q}{ops}{rest}{dst}{A}{b}(h1:b=true->@WO ⟨TP,H,ops,rest,Q⟩ (A.put dst (.p (.tuple [])) A.h))
  (h2:b=false->@WQ ⟨Q⟩ (.panic hZ) A):@WF ⟨TP,H,ops,rest,Q,dst⟩ A 256 [.p (.bool b)]:=by
 refine cz (Vu b A.h) (λv h hr=>?_) (λv h hr=>?_)
 .obtain⟨rfl,hr⟩:=hr;cases b
  .cases hr
  .cases hr;exact h1 rfl
 .obtain⟨rfl,hr⟩:=hr;cases b
  .cases hr;exact h2 rfl
  .cases hr
theorem V6:af TP 256 [.bool true] (.tuple []):=by
 refine aa (ah Tryz.func256 rfl (by kernel_rfl)) rfl ?_;simp only[go_sem,simprocAttr]
theorem uD{l}{n}(hl:l.length<=1000000)(h:jR l=some n):af TP 258 [.str (bs l)] (.int .i64 n):=by
 refine aa (ah Tryz.func258 rfl (by kernel_rfl)) rfl ?_;have hp:lc (bs l)=.tuple [.int .i64 n,.niliface]:=by
  unfold jR at h;rw[lc,gF];cases ha:Lib.atoiAll l<;>rw[ha]at h<;>first|cases h;done|skip
  cases h;rfl
 simp only[go_sem,simprocAttr];refine ae (Fk (bs l) (by rw[ao];omega)) rfl ?_;simp only[hp,go_sem,simprocAttr];refine ae V6 rfl ?_;simp only[go_sem,simprocAttr]
theorem oN{l}(hl:l.length<=1000000)(h:jR l=none)(hp):aD TP 258 [.p (.str (bs l))] hp (λr h'=>r=.panic hZ/\h'=hp):=by
 refine aC (ah Tryz.func258 rfl (by kernel_rfl)) rfl ?_;have hx:∃v,lc (bs l)=.tuple [.int .i64 v,.iface 348 .any]:=by
  unfold jR at h;rw[lc,gF];cases ha:Lib.atoiAll l<;>rw[ha]at h<;>first|cases h;done|exact⟨_,rfl⟩
 obtain⟨v,hx⟩:=hx;simp only[go_sem,simprocAttr];refine ae (Fk (bs l) (by rw[ao];omega)) rfl ?_;simp only[hx,go_sem,simprocAttr];refine pS (λh=>by cases h) (λ_=>?_);simp only[go_sem,simprocAttr]
theorem pT{P}{H}{ops}{rest}{Q}{o}{hs}{A}{f}{args}{pargs}{v}(hc:af P f pargs v)(ha:args=pargs.map .p)
  (h:@WD ⟨P,H,ops,rest,Q⟩ hs (A.put o.dst (.p v) A.h)):@OX ⟨P,H,ops,rest,Q,o⟩ hs A (.call f args):=by
 subst ha;exact .inl ⟨.p v,λ_ _=>rG hc,h⟩
theorem tH{P}{H}{ops}{rest}{Q}{o}{hs}{A}{f}{args}{v}(hc:aD P f args A.h (λr h'=>r=.panic v/\h'=A.h))
  (h:∀T,@WQ ⟨Q⟩ (.panic v) { A with tmps:=T }):@OX ⟨P,H,ops,rest,Q,o⟩ hs A (.call f args):=.inr ⟨v,hc,h⟩
end Abs
end Go.Proofs.YtoapoaoelpcniaaGreatDoor
