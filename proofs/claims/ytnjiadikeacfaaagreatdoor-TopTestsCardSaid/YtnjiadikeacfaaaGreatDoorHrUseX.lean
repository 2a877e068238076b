/- CONTRACTS of the program's functions, and laws on what they return. No conditions but those in the theorems' heads. -/
import Derived.Test.YtnjiadikeacfaaaGreatDoorStrBldX
set_option linter.all false
open Go.Proofs.Tryz renaming prog->TP
namespace Go.Proofs.YtnjiadikeacfaaaGreatDoor
namespace Abs
set_option maxRecDepth 4000
structure HrKOk (x:HrK):Prop where
 k:HrKindOk x.k
 lo:0<=x.rates.lo
 le:x.rates.lo<=x.rates.hi
 pos:1<=x.rates.hi
 hi:x.rates.hi<=901800000
def wr (r:Span):Prop:=(r=⟨-1,0⟩)\/(0<=r.lo/\r.lo<=r.hi/\r.hi<=601200000)
theorem Jr{r q}(hr:wr r)(hq:0<=q.lo/\q.lo<=q.hi/\q.hi<=601200000):wr (eC r q):=by
 unfold eC;rcases hr with rfl|hr
 .rw[if_pos (by decide)];exact .inr hq
 .rw[if_neg (by omega)];refine .inr ⟨?_,?_,?_⟩<;>dsimp only<;>split<;>(try split)<;>omega
theorem EV{nk at'}:∀{l} {r},bW nk l=0->wr r->wr (k7 at' r l)
 |[],_,_,h=>h
 |t::l,r,h,hr=>by
  have h1:=jy h;have h2:bW nk l=0:=by rw[bW]at h;split at h<;>(first|exact h|contradiction)
  rw[k7];refine EV h2 ?_;split
  .rename_i hc;have hok:=(eX (h1 t (by simp))).1;have:=rT hok;exact Jr hr ⟨this.1,Bb hok hc.2,this.2.2.2⟩
  .exact hr
theorem Nr{m}{r}(hm:0<=m/\m<=500)(hr:0<=r.lo/\r.lo<=r.hi/\r.hi<=601200000):0<=(fq m r).lo/\(fq m r).lo<=(fq m r).hi/\(fq m r).hi<=901800000:=by
 have e1:0<=(fq m r).lo:=by
  refine(Frac.down_le (f:=⟨r.lo*(1000-m),1000⟩) (by show (0:Int)<1000;decide) 0).2 ?_;have:0<=r.lo*(1000-m):=tu (by omega) (by omega);simpa using this
 have e2:(fq m r).lo<=r.lo:=by
  have:=(Frac.down_le (f:=⟨r.lo*(1000-m),1000⟩) (by show (0:Int)<1000;decide) (fq m r).lo).1 (l4 _);dsimp only at this;have h2:r.lo*(1000-m)<=r.lo*1000:=tk (by omega) (by omega);omega
 have e3:r.hi<=(fq m r).hi:=by
  have:=(Frac.up_le (f:=⟨r.hi*(1000+m),1000⟩) (by show (0:Int)<1000;decide) (fq m r).hi).1 (l4 _);dsimp only at this;have h2:r.hi*1000<=r.hi*(1000+m):=tk (by omega) (by omega);omega
 have e4:(fq m r).hi<=901800000:=by
  refine(Frac.up_le (f:=⟨r.hi*(1000+m),1000⟩) (by show (0:Int)<1000;decide) _).2 ?_;dsimp only;have h2:r.hi*(1000+m)<=r.hi*1500:=tk (by omega) (by omega);omega
 omega
theorem mI{s}{l}{at'}(h:(aD s l at').2=0):HrKOk (aD s l at').1/\bg s l=0/\al at' 0 ((s.kinds.length:Int)-1)=true /\
  s.kinds[at'.toNat]?=some (aD s l at').1.k/\(aD s l at').1.rates=fq s.margin (dR s l at')/\0<=(dR s l at').lo:=by
 unfold aD at h |-;split at h
 .rename_i h0;have ht:=j0 h0;rw[if_pos h0];split at h
  .cases h
  .rename_i k hk;split at h
   .cases h
   .rename_i h1;split at h
    .cases h
    .rename_i h2;have hg:al at' 0 ((s.kinds.length:Int)-1)=true:=by
      cases hg:al at' 0 ((s.kinds.length:Int)-1) with
      |true=>rfl
      |false=>rw[hg]at hk;cases hk
     rw[if_pos hg]at hk;simp only[hg,hk,if_neg h1,if_neg h2];have hm:=ke ht.1;have hO:wr (dR s l at'):=EV ht.2.2 (.inl rfl);have hr:=hO.resolve_left (by intro e;rw[e]at h1;exact h1 (by decide));have hw:=Nr hm.2.2 hr;refine⟨⟨mH ht.1 (aT hk),hw.1,hw.2.1,?_,hw.2.2⟩,h0,trivial,trivial,trivial,by omega⟩;dsimp only;omega
 .contradiction
def HrK.least (x:HrK):Frac:=⟨60*(x.k.weight.lo-x.k.rest),x.rates.hi⟩
def HrK.most (x:HrK):Frac:=if 0<x.rates.lo then⟨60*(x.k.weight.hi-x.k.rest),x.rates.lo⟩ else⟨-1,1⟩
theorem xc(x)(hx:HrKOk x):af TP 69 [x.pv] (.tuple [x.least.pv,x.most.pv]):=by
 have hk:=hx.k;have h1:=hk.lo;have h2:=hk.le;have h3:=hk.hi;have h4:=hk.rest;have h5:=hk.less
 refine aa (eA (by kernel_rfl) rfl XV) rfl ?_;have w1:IntKind.i64.wrap (x.k.weight.lo-x.k.rest)=x.k.weight.lo-x.k.rest:=am (by omega) (by omega);have w2:IntKind.i64.wrap (60*(x.k.weight.lo-x.k.rest))=60*(x.k.weight.lo-x.k.rest):=am (by omega) (by omega);have w3:IntKind.i64.wrap (x.k.weight.hi-x.k.rest)=x.k.weight.hi-x.k.rest:=am (by omega) (by omega);have w4:IntKind.i64.wrap (60*(x.k.weight.hi-x.k.rest))=60*(x.k.weight.hi-x.k.rest):=am (by omega) (by omega);simp only[w1,w2,go_sem,simprocAttr];cases hp:decide (0<x.rates.lo)
 .have hp':¬0<x.rates.lo:=by simpa using hp
  simp only[US,aV,HrK.least,HrK.most,if_neg hp',go_sem,simprocAttr]
 .have hp':0<x.rates.lo:=by simpa using hp
  simp only[w3,w4,US,aV,HrK.least,HrK.most,if_pos hp',go_sem,simprocAttr]
def HrK.promise (x:HrK):Int:=if Frac.down ⟨x.least.top,x.least.below*60⟩<16666 then Frac.down ⟨x.least.top,x.least.below*60⟩ else 16666
theorem HrKOk.leastB{x}(hx:HrKOk x):60<=x.least.top/\x.least.top<=600000000/\1<=x.least.below/\x.least.below<=901800000:=by
 have hk:=hx.k;have h1:=hk.lo;have h2:=hk.le;have h3:=hk.hi;have h4:=hk.rest;have h5:=hk.less;have h6:=hx.pos;have h7:=hx.hi
 simp only[HrK.least];omega
theorem HrKOk.mostB{x}(hx:HrKOk x):-1<=x.most.top/\x.most.top<=600000000/\1<=x.most.below/\x.most.below<=901800000:=by
 have hk:=hx.k;have h1:=hk.lo;have h2:=hk.le;have h3:=hk.hi;have h4:=hk.rest;have h5:=hk.less;have h6:=hx.le;have h7:=hx.hi
 simp only[HrK.most];split<;>dsimp only<;>omega
theorem vY(x)(hx:HrKOk x):af TP 50 [x.pv] (.int .i64 x.promise):=by
 have hb:=hx.leastB;refine aa (ah Tryz.func50 rfl (by kernel_rfl)) rfl ?_;simp only[go_sem,simprocAttr];refine ae (xc x hx) rfl ?_;have w1:IntKind.i64.wrap (x.least.below*60)=x.least.below*60:=am (by omega) (by omega);simp only[w1,go_sem,simprocAttr];refine ae (kH ⟨x.least.top,x.least.below*60⟩ (by show 0<x.least.below*60;omega) (by show _<=x.least.top;omega) (by show x.least.top<=_;omega)) rfl ?_;simp only[HrK.promise,go_sem,simprocAttr]
theorem Ty{n}(h1:-1000000000<=n)(h2:n<=1000000000):Frac.B ⟨n,1⟩:=by simp only[Frac.B];omega
def HrK.short (x:HrK) (r:HrRule):Bool:=x.least.lt ⟨r.minutes.lo,1⟩
def HrK.long (x:HrK) (r:HrRule):Bool:=decide (x.most.top<0)||Frac.lt ⟨r.minutes.hi,1⟩ x.most
def HrK.size (x:HrK) (r:HrRule):Bool:=!al x.k.weight.lo r.weight.lo r.weight.hi||!al x.k.weight.hi r.weight.lo r.weight.hi
theorem Ud(x:HrK)(r:HrRule)(hx:HrKOk x)(hr:HrRuleOk r):af TP 73 [x.pv,r.pv] (.bool (x.short r)):=by
 have hb:=hx.leastB;have h1:=hr.mlo;have h2:=hr.mle;have h3:=hr.mhi
 refine aa (ah Tryz.func73 rfl (by kernel_rfl)) rfl ?_;simp only[go_sem,simprocAttr];refine ae (xc x hx) rfl ?_;simp only[go_sem,simprocAttr];refine ae (uy x.least ⟨r.minutes.lo,1⟩ ⟨by omega,by omega,by omega,by omega⟩ (Ty (by omega) (by omega))) rfl ?_;simp only[HrK.short,go_sem,simprocAttr]
theorem V2(x:HrK)(r:HrRule)(hx:HrKOk x)(hr:HrRuleOk r):af TP 74 [x.pv,r.pv] (.bool (x.long r)):=by
 have hb:=hx.mostB;have h1:=hr.mlo;have h2:=hr.mle;have h3:=hr.mhi
 refine aa (ah Tryz.func74 rfl (by kernel_rfl)) rfl ?_;simp only[go_sem,simprocAttr];refine ae (xc x hx) rfl ?_;simp only[go_sem,simprocAttr];cases hm:decide (x.most.top<0)
 .simp only[go_sem,simprocAttr];refine ae (uy ⟨r.minutes.hi,1⟩ x.most (Ty (by omega) (by omega)) ⟨by omega,by omega,by omega,by omega⟩) rfl ?_;simp only[HrK.long,hm,go_sem,simprocAttr]
 .simp only[HrK.long,hm,go_sem,simprocAttr]
theorem VX(x:HrK)(r:HrRule):af TP 75 [x.pv,r.pv] (.bool (x.size r)):=by
 refine aa (ah Tryz.func75 rfl (by kernel_rfl)) rfl ?_;simp only[go_sem,simprocAttr];refine ae (fI r.weight.lo r.weight.hi [_,_] true (by simp)) rfl ?_;simp only[bF,bp,cl,HrK.size,go_sem,simprocAttr]
def sL (s:HrShop) (l:List HrTest) (at':Int):Span×Int:=if(aD s l at').2=0 then((aD s l at').1.rates,0) else(⟨0,0⟩,(aD s l at').2)
theorem Ue(s:HrShop)(l:List HrTest)(at':Int):af TP 24 [s.pv,.slice 3 (l.map HrTest.pv) false,.int .i64 at'] (.tuple [(sL s l at').1.pv,.int .i64 (sL s l at').2]):=by
 refine aa (ah Tryz.func24 rfl (by kernel_rfl)) rfl ?_;simp only[go_sem,simprocAttr];refine ae (rZ s l at') rfl ?_;simp only[go_sem,simprocAttr];cases h0:((aD s l at').2 != 0)
 .have h0':(aD s l at').2=0:=by simpa using h0
  simp only[sL,h0',Span.pv,go_sem,simprocAttr]
 .have h0':¬(aD s l at').2=0:=by simpa using h0
  simp only[sL,if_neg h0',Span.pv,go_sem,simprocAttr]
def cx (s:HrShop) (l:List HrTest) (at':Int):Int×Int:=if(aD s l at').2=0 then((aD s l at').1.promise,0) else(0,(aD s l at').2)
theorem ux(s)(l)(at'):af TP 12 [s.pv,.slice 3 (l.map HrTest.pv) false,.int .i64 at'] (.tuple [.int .i64 (cx s l at').1,.int .i64 (cx s l at').2]):=by
 refine aa (ah Tryz.func12 rfl (by kernel_rfl)) rfl ?_;simp only[go_sem,simprocAttr];refine ae (rZ s l at') rfl ?_;simp only[go_sem,simprocAttr];cases h0:((aD s l at').2 != 0)
 .have h0':(aD s l at').2=0:=by simpa using h0
  simp only[go_sem,simprocAttr];refine ae (vY _ (mI h0').1) rfl ?_;simp only[cx,if_pos h0',go_sem,simprocAttr]
 .have h0':¬(aD s l at').2=0:=by simpa using h0
  simp only[cx,if_neg h0',go_sem,simprocAttr]
def HrK.minutes (x:HrK):Span:=⟨if x.least.down<1000000 then x.least.down else 1000000,if al x.most.up 0 1000000=true then x.most.up else 1000000⟩
def oY (s:HrShop) (l:List HrTest) (at':Int):Span×Int:=if(aD s l at').2=0 then((aD s l at').1.minutes,0) else(⟨0,0⟩,(aD s l at').2)
theorem OV(s:HrShop)(l:List HrTest)(at':Int):af TP 25 [s.pv,.slice 3 (l.map HrTest.pv) false,.int .i64 at'] (.tuple [(oY s l at').1.pv,.int .i64 (oY s l at').2]):=by
 refine aa (ah Tryz.func25 rfl (by kernel_rfl)) rfl ?_;simp only[go_sem,simprocAttr];refine ae (rZ s l at') rfl ?_;simp only[go_sem,simprocAttr];cases h0:((aD s l at').2 != 0)
 rotate_left
 .have h0':¬(aD s l at').2=0:=by simpa using h0
  simp only[oY,if_neg h0',Span.pv,go_sem,simprocAttr]
 have h0':(aD s l at').2=0:=by simpa using h0
 have hx:=(mI h0').1;have hb:=hx.leastB;have hb2:=hx.mostB;rw[oY,if_pos h0'];generalize (aD s l at').1=x at hx hb hb2;simp only[go_sem,simprocAttr];refine ae (xc x hx) rfl ?_;simp only[go_sem,simprocAttr];refine ay (kH x.least (by omega) (by omega) (by omega)) rfl ?_;simp only[go_sem,simprocAttr];refine ay (Ua x.most (by omega) (by omega) (by omega)) rfl ?_;simp only[go_sem,simprocAttr];refine ae (fI 0 1000000 [_] true (by simp)) rfl ?_;simp only[bF,bp,cl,go_sem,simprocAttr];cases h1:al x.most.up 0 1000000
 .simp only[HrK.minutes,h1,Span.pv,go_sem,simprocAttr]
 .simp only[HrK.minutes,h1,Span.pv,go_sem,simprocAttr]
def HrK.fits (x:HrK) (r:HrRule):Int:=if x.short r=true then 1 else if x.long r=true then 2 else if x.size r=true then 3 else 0
def vL (s:HrShop) (l:List HrTest) (at' rule:Int):Int×Int:=
 if(aD s l at').2=0 then
  match (if al rule 0 ((s.rules.length:Int)-1)=true then s.rules[rule.toNat]? else none) with
  |none=>(0,4)
  |some r=>((aD s l at').1.fits r,0)
 else(0,(aD s l at').2)
set_option maxHeartbeats 2000000 in
theorem RR(s:HrShop)(l:List HrTest)(at' rule:Int):af TP 26 [s.pv,.slice 3 (l.map HrTest.pv) false,.int .i64 at',.int .i64 rule] (.tuple [.int .i64 (vL s l at' rule).1,.int .i64 (vL s l at' rule).2]):=by
 refine aa (ah Tryz.func26 rfl (by kernel_rfl)) rfl ?_;simp only[go_sem,simprocAttr];refine ae (rZ s l at') rfl ?_;simp only[go_sem,simprocAttr];cases h0:((aD s l at').2 != 0)
 rotate_left
 .have h0':¬(aD s l at').2=0:=by simpa using h0
  simp only[vL,if_neg h0',go_sem,simprocAttr]
 have h0':(aD s l at').2=0:=by simpa using h0
 have hL:=mI h0';have hx:=hL.1;have hc:=(j0 hL.2.1).1;have hk:=gU hc;rw[vL,if_pos h0'];generalize (aD s l at').1=x at hx;have hw:IntKind.i64.wrap ((s.rules.length:Int)-1)=(s.rules.length:Int)-1:=am (by omega) (by omega);simp only[hw,go_sem,simprocAttr];refine ae (fI 0 _ [_] true (by simp)) rfl ?_;simp only[bF,bp,cl,go_sem,simprocAttr];cases h2:al rule 0 ((s.rules.length:Int)-1)
 .simp only[go_sem,simprocAttr]
 obtain⟨g1,g2⟩:0<=rule/\rule<=(s.rules.length:Int)-1:=by simpa[al]using h2
 obtain⟨n,rfl⟩:=pq g1;have hn:n<s.rules.length:=by omega
 obtain⟨r,hrn⟩:∃r,s.rules[n]?=some r:=⟨_,bA hn⟩
 have hro:=K3 hc (aT hrn);have hlt:(n:Int)<(s.rules.length:Int):=by omega
 rw[if_pos rfl,jO,hrn];simp only[go_sem,simprocAttr];refine aU ?_;simp only[hlt,hrn,go_sem,simprocAttr];refine ae (Ud x r hx hro) rfl ?_;simp only[go_sem,simprocAttr];cases z1:x.short r;rotate_left
 .simp only[HrK.fits,z1,go_sem,simprocAttr]
 simp only[go_sem,simprocAttr];refine aU ?_;simp only[hlt,hrn,go_sem,simprocAttr];refine ae (V2 x r hx hro) rfl ?_;simp only[go_sem,simprocAttr];cases z2:x.long r;rotate_left
 .simp only[HrK.fits,z1,z2,go_sem,simprocAttr]
 simp only[go_sem,simprocAttr];refine aU ?_;simp only[hlt,hrn,go_sem,simprocAttr];refine ae (VX x r) rfl ?_;simp only[go_sem,simprocAttr];cases z3:x.size r;rotate_left
 .simp only[HrK.fits,z1,z2,z3,go_sem,simprocAttr]
 simp only[go_sem,simprocAttr];refine aU ?_;simp only[HrK.fits,z1,z2,z3,go_sem,simprocAttr]
def EN (p:Int×Int):PV×PV:=(.int .i64 p.1,.int .i64 p.2)
def hG (k:Int):List (Int×Int)->Option Int
 |[]=>none
 |(q,v)::r=>if k=q then some v else hG k r
theorem t6(k):∀es,kY (.int .i64 k) (es.map EN)=some ((hG k es).map λv=>.int .i64 v)
 |[]=>rfl
 |(q,v)::r=>by
  rw[bD,kY.eq_def];simp only[EN,jr,if_true];cases h:(k==q)
  .rw[hG,if_neg (by simpa using h)];exact t6 k r
  .rw[hG,if_pos (by simpa using h)];rfl
theorem tZ(k v):∀es,hG k es=none->nn (.int .i64 k) (.int .i64 v) (es.map EN)=some ((es++[(k,v)]).map EN)
 |[],_=>rfl
 |(q,u)::r,h=>by
  rw[hG]at h;split at h
  .cases h
  .rename_i hne;rw[bD,nn.eq_def];simp only[EN,jr,if_true];rw[show (k==q)=false by simpa using hne];dsimp only;rw[tZ k v r h];rfl
theorem qQ(k)(a):∀es,hG k (es++[a])=(hG k es).or (if k=a.1 then some a.2 else none)
 |[]=>by simp[hG]
 |(q,u)::r=>by
  rw[eW,hG,hG];split
  .rfl
  .exact qQ k a r
def kj (s:HrShop) (l:List HrTest) (b:HrBox):Int:=
 if al b.kind 0 ((s.kinds.length:Int)-1)=true then(if al b.hours 0 1000000=true then(aD s l b.kind).2 else 7) else 4
def bR (s:HrShop) (l:List HrTest):Nat->List HrBox->List Int×Int
 |_,[]=>([],0)
 |i,b::r=>
  if kj s l b=0 then
   (if(bR s l (i+1) r).2=0 then((if(aD s l b.kind).1.promise<b.hours then [(i:Int)] else [])++(bR s l (i+1) r).1,0) else([],(bR s l (i+1) r).2))
  else([],kj s l b)
def bG (s:HrShop) (l:List HrTest) (boxes:List HrBox):List Int×Int:=
 if bg s l=0 then(if 20<boxes.length then([],3) else bR s l 0 boxes) else([],bg s l)
def fS (out:List Int) (q:List Int×Int):List Int×Int:=if q.2=0 then(out++q.1,0) else([],q.2)
theorem nX{s}{l}{out}{i}{b}{r}{e}(h:kj s l b=e)(he:e≠0):fS out (bR s l i (b::r))=([],e):=by
 rw[bR,h,if_neg he,fS,if_neg he]
theorem wR{s}{l}{out}{i}{b}{r}(h:kj s l b=0) :
  fS out (bR s l i (b::r))=fS (out++(if(aD s l b.kind).1.promise<b.hours then [(i:Int)] else [])) (bR s l (i+1) r):=by
 rw[bR,if_pos h];by_cases h2:(bR s l (i+1) r).2=0
 .rw[if_pos h2,fS,fS,if_pos rfl,if_pos h2,dq]
 .rw[if_neg h2,fS,fS,if_neg h2,if_neg h2]
theorem zK(s)(l):aD s l (-1)=(⟨lc,⟨0,0⟩⟩,if bg s l=0 then 4 else bg s l):=by
 rw[aD];split
 .rw[show al (-1) 0 ((s.kinds.length:Int)-1)=false by simp[al]];rfl
 .rfl
set_option maxHeartbeats 2000000 in
theorem RU(s)(l)(boxes):af TP 27 [s.pv,.slice 3 (l.map HrTest.pv) false,.slice 2 (boxes.map HrBox.pv) false] (.tuple [mo (bG s l boxes).1,.int .i64 (bG s l boxes).2]):=by
 refine eB (ah Tryz.func27 rfl (by kernel_rfl)) rfl ?_;simp only[go_sem,simprocAttr];refine ae (rZ s l (-1)) rfl ?_;simp only[zK,go_sem,simprocAttr];cases h0:decide (bg s l=0)
 .have h0':¬bg s l=0:=by simpa using h0
  have hsp:bG s l boxes=([],bg s l):=by rw[bG,if_neg h0']
  rw[hsp,if_neg h0'];have hch:(hrCheck s).2.2=0->bg s l=4->l.length<1000000000:=by
   intro hc h4;unfold bg at h4;rw[if_pos hc]at h4;split at h4
   .cases h4
   .omega
  cases h4:(bg s l != 4)
  .have h4':bg s l=4:=by simpa using h4
   simp only[go_sem,simprocAttr];refine ae (kq s l false (λhc=>hch hc h4')) rfl ?_;have hop:(bn s l != 0)=true:=by
    unfold bg at h4';unfold bn;split at h4'
    .rename_i hc;split at h4'
     .cases h4'
     .rw[if_pos hc,h4'];rfl
    .rename_i hc;rw[if_neg hc,h4'];rfl
   simp only[hop,mo,bj,go_sem,simprocAttr];exact⟨_,_,rfl,rfl,.inr ⟨rfl,1,rfl⟩,.inl rfl,trivial⟩
  .simp only[mo,bj,go_sem,simprocAttr];exact⟨_,_,rfl,rfl,.inr ⟨rfl,1,rfl⟩,.inl rfl,trivial⟩
 have h0':bg s l=0:=by simpa using h0
 have hok:=j0 h0';have hkk:=gU hok.1;have hop:bn s l=0:=by rw[bn,if_pos hok.1,hok.2.2]
 rw[if_pos h0'];simp only[go_sem,simprocAttr];refine ae (kq s l false (λ_=>by omega)) rfl ?_;simp only[hop,go_sem,simprocAttr];cases h20:decide ((20:Int)<(boxes.length:Int));rotate_left
 .have h20':20<boxes.length:=by simp at h20;omega
  have hsp:bG s l boxes=([],3):=by rw[bG,if_pos h0',if_pos h20']
  rw[hsp];simp only[mo,bj,go_sem,simprocAttr];exact⟨_,_,rfl,rfl,.inr ⟨rfl,1,rfl⟩,.inl rfl,trivial⟩
 have h20':¬20<boxes.length:=by simp at h20;omega
 have hsp:bG s l boxes=bR s l 0 boxes:=by rw[bG,if_pos h0',if_neg h20']
 rw[hsp];have hj:bR s l 0 boxes=fS [] (bR s l 0 boxes):=by
  have key:∀q:List Int×Int,(q.2≠0->q.1=[])->q=fS [] q:=by
   rintro⟨a,b⟩ h
   simp only[fS,gR];split
   .rename_i h1;rw[show b=0 from h1]
   .rename_i h1;rw[show a=[] from h h1]
  refine key _ ?_;generalize (0:Nat)=i
  cases boxes with
  |nil=>intro h;exact absurd rfl h
  |cons b r=>
   intro h;rw[bR]at h |-;split
   .split
    .rename_i h1 h2;rw[if_pos h1,if_pos h2]at h;exact absurd rfl h
    .rfl
   .rfl
 rw[hj];simp only[go_sem,simprocAttr];refine ck 6 1 (by simp only[go_sem,simprocAttr]) ?_;simp only[go_sem,simprocAttr]
 refine eO [1,3,8,36,37] (σ:=List HrBox×List HrBox×List Int×List (Int×Int)×Heap)
  (λq=>boxes=q.1++q.2.1/\fS [] (bR s l 0 boxes)=fS q.2.2.1 (bR s l q.1.length q.2.1)/\q.2.2.1.length<=q.1.length /\
   ∀k v,hG k q.2.2.2.1=some v->(aD s l k).2=0/\v=(aD s l k).1.promise) (λq=>q.2.1.length)
  (λq=>[(6,.slice 2 q.2.2.1.length 0 q.2.2.1.length),(38,.p (.int .i64 q.1.length))])
  (λq=>[.row 3 [.p s.pv],.mp (q.2.2.2.1.map EN),.row 1 (q.2.2.1.map λn=>.p (aG n))]++q.2.2.2.2) ([],boxes,[],[],[]) ⟨rfl,rfl,bi _,λk v h=>by cases h⟩ (by simp only[bj,bw,go_sem,simprocAttr]) ?_ ?_
 .simp only[go_sem,simprocAttr]
 rintro⟨done,rest,out,es,g⟩ ⟨e1,e2,e3,e4⟩
 dsimp only at e1 e2 e3 e4
 cases rest with
 |nil=>
  have hlt:¬((done.length:Int)<(boxes.length:Int)):=by rw[e1];simp
  have e5:fS out (bR s l done.length [])=(out,0):=by rw[bR,fS,if_pos rfl,bw]
  rw[e2,e5];simp only[hlt,decide_false,mo,go_sem,simprocAttr]
  exact .inl rfl
 |cons b r=>
  obtain⟨hx,hltt⟩:=dZ e1;have hlen1:=congrArg List.length e1;simp only[aK,cc]at hlen1;have hnx:IntKind.i64.wrap ((done.length:Int)+1)=(((done++[b]).length:Nat):Int):=be (by omega) (by simp[ar];omega) (by simp);have g0:=kg (lo:=g) rfl;have s0:=lQ (lo:=g) rfl;have gg:=kf (lo:=g) rfl;have ss:=lP (lo:=g) rfl;have hw:IntKind.i64.wrap ((s.kinds.length:Int)-1)=(s.kinds.length:Int)-1:=am (by omega) (by omega);simp only[hltt,decide_true,hx,g0,s0,hw,go_sem,simprocAttr];refine ae (fI 0 _ [_] true (by simp)) rfl ?_;simp only[bF,bp,cl,go_sem,simprocAttr];cases h2:al b.kind 0 ((s.kinds.length:Int)-1)
  .rw[e2,nX (e:=4) (by rw[kj,h2];rfl) (by decide)];simp only[mo,bj,go_sem,simprocAttr];exact⟨_,_,rfl,rfl,.inr ⟨rfl,1,rfl⟩,.inl rfl,trivial⟩
  simp only[g0,go_sem,simprocAttr];refine ae (fI 0 1000000 [_] true (by simp)) rfl ?_;simp only[bF,bp,cl,go_sem,simprocAttr];cases h3:al b.hours 0 1000000
  .rw[e2,nX (e:=7) (by rw[kj,h2,h3];rfl) (by decide)];simp only[mo,bj,go_sem,simprocAttr];exact⟨_,_,rfl,rfl,.inr ⟨rfl,1,rfl⟩,.inl rfl,trivial⟩
  have hbe:kj s l b=(aD s l b.kind).2:=by rw[kj,h2,h3];rfl
  have hgi:=t6 b.kind es;simp only[g0,hgi,go_sem,simprocAttr];have hrm:out.length+1<=ar:=by simp[ar];omega
  cases hm:hG b.kind es with
  |some v=>
   obtain⟨hl0,rfl⟩:=e4 _ _ hm;have hj2:=wR (out:=out) (i:=done.length) (r:=r) (hbe.trans hl0);simp only[g0,go_sem,simprocAttr];cases h9:decide ((aD s l b.kind).1.promise<b.hours)
   .have h9':¬(aD s l b.kind).1.promise<b.hours:=by simpa using h9
    rw[if_neg h9',bw]at hj2;simp only[go_sem,simprocAttr];refine br (done++[b],r,out,es,g++[.row 2 [.p b.pv]]) ⟨by rw[e1];simp,by rw[e2,hj2];simp,by simp;omega,e4⟩ (gh _) (by simp only[go_sem,simprocAttr]) ?_;simp only[hnx,go_sem,simprocAttr]
   .have h9':(aD s l b.kind).1.promise<b.hours:=by simpa using h9
    rw[if_pos h9']at hj2;simp only[hrm,go_sem,simprocAttr];refine br (done++[b],r,out++[((done.length:Nat):Int)],es,g++[.row 2 [.p b.pv]]) ⟨by rw[e1];simp,by rw[e2,hj2];simp,by simp;omega,e4⟩ (gh _) (by simp only[ca,go_sem,simprocAttr]) ?_
    simp only[hnx,aK,bt,go_sem,simprocAttr]
  |none=>
   simp only[g0,go_sem,simprocAttr];refine ae (rZ s l b.kind) rfl ?_;simp only[gg,ss,dq,aK,bt,go_sem,simprocAttr];cases hl:((aD s l b.kind).2 != 0)
   rotate_left
   .have hl':(aD s l b.kind).2≠0:=by simpa using hl
    rw[e2,nX hbe hl'];simp only[mo,bj,go_sem,simprocAttr];exact⟨_,_,rfl,rfl,.inr ⟨rfl,1,rfl⟩,.inl rfl,trivial⟩
   have hl0:(aD s l b.kind).2=0:=by simpa using hl
   have hj2:=wR (out:=out) (i:=done.length) (r:=r) (hbe.trans hl0);have hmp:=tZ b.kind (aD s l b.kind).1.promise es hm;have hes:∀k v,hG k (es++[(b.kind,(aD s l b.kind).1.promise)])=some v->(aD s l k).2=0/\v=(aD s l k).1.promise:=by
    intro k v h;rw[qQ]at h
    cases hk:hG k es with
    |some u=>rw[hk]at h;cases h;exact e4 k _ hk
    |none=>
     rw[hk]at h;dsimp only[Option.or]at h;split at h
     .rename_i hkk;cases h;rw[hkk];exact⟨hl0,rfl⟩
     .cases h
   simp only[gg,go_sem,simprocAttr];refine ae (vY _ (mI hl0).1) rfl ?_;simp only[g0,hmp,go_sem,simprocAttr];cases h9:decide ((aD s l b.kind).1.promise<b.hours)
   .have h9':¬(aD s l b.kind).1.promise<b.hours:=by simpa using h9
    rw[if_neg h9',bw]at hj2;simp only[go_sem,simprocAttr];refine br (done++[b],r,out,es++[(b.kind,(aD s l b.kind).1.promise)],g++[.row 2 [.p b.pv],.row 6 [.p (aD s l b.kind).1.pv]]) ⟨by rw[e1];simp,by rw[e2,hj2];simp,by simp;omega,hes⟩ (gh _) (by simp only[go_sem,simprocAttr]) ?_;simp only[hnx,go_sem,simprocAttr]
   .have h9':(aD s l b.kind).1.promise<b.hours:=by simpa using h9
    rw[if_pos h9']at hj2;simp only[hrm,go_sem,simprocAttr];refine br (done++[b],r,out++[((done.length:Nat):Int)],es++[(b.kind,(aD s l b.kind).1.promise)],g++[.row 2 [.p b.pv],.row 6 [.p (aD s l b.kind).1.pv]]) ⟨by rw[e1];simp,by rw[e2,hj2];simp,by simp;omega,hes⟩ (gh _) (by simp only[ca,go_sem,simprocAttr]) ?_;simp only[hnx,aK,bt,go_sem,simprocAttr]
end Abs
end Go.Proofs.YtnjiadikeacfaaaGreatDoor
