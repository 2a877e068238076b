/- CONTRACTS of the program's functions, and laws on what they return. No conditions but those in the theorems' heads. -/
import Derived.Test.YtmndpldajflenaaGreatDoorStrBldX
import Derived.Lib.AtoiTie
set_option linter.all false
set_option maxHeartbeats 2000000
open Go.Proofs.Tryz renaming prog->TP
open Go.Proofs.Tryz
namespace Go.Proofs.YtmndpldajflenaaGreatDoor
namespace Abs
set_option maxRecDepth 4000
structure HrKOk (x:HrK):Prop where
 k:HrKindOk x.k
 lo:0<=x.rates.lo
 le:x.rates.lo<=x.rates.hi
 pos:1<=x.rates.hi
 hi:x.rates.hi<=901800000
def vk (r:Span):Prop:=(r=⟨-1,0⟩)\/(0<=r.lo/\r.lo<=r.hi/\r.hi<=601200000)
theorem IF{r q}(a:vk r)(e:0<=q.lo/\q.lo<=q.hi/\q.hi<=601200000):vk (jS r q):=by
 unfold jS;rcases a with rfl|a
 .rw[if_pos (by decide)];exact .inr e
 .rw[if_neg (by omega)];refine .inr ⟨?_,?_,?_⟩<;>dsimp only<;>split<;>(try split)<;>omega
theorem D5{e a}:∀{l} {r},cL e l=0->vk r->vk (qu a r l)
 |[],_,_,h=>h
 |t::l,r,h,i=>by
  have q:=qi h;have o:cL e l=0:=by rw[cL]at h;split at h<;>(first|exact h|contradiction)
  rw[qu];refine D5 o ?_;split
  .rename_i j;have hok:=(gn (q t (by simp))).1;have:=uP hok;exact IF i ⟨this.1,Ao hok j.2,this.2.2.2⟩
  .exact i
theorem Mr{m}{r}(i:0<=m/\m<=500)(e:0<=r.lo/\r.lo<=r.hi/\r.hi<=601200000):0<=(fq m r).lo/\(fq m r).lo<=(fq m r).hi/\(fq m r).hi<=901800000:=by
 have q:0<=(fq m r).lo:=by
  refine(Frac.down_le (f:=⟨r.lo*(1000-m),1000⟩) (by show (0:Int)<1000;decide) 0).2 ?_;have:0<=r.lo*(1000-m):=wP (by omega) (by omega);simpa using this
 have o:(fq m r).lo<=r.lo:=by
  have:=(Frac.down_le (f:=⟨r.lo*(1000-m),1000⟩) (by show (0:Int)<1000;decide) (fq m r).lo).1 (o9 _);dsimp only at this;have a:r.lo*(1000-m)<=r.lo*1000:=sA (by omega) (by omega);omega
 have l:r.hi<=(fq m r).hi:=by
  have:=(Frac.up_le (f:=⟨r.hi*(1000+m),1000⟩) (by show (0:Int)<1000;decide) (fq m r).hi).1 (o9 _);dsimp only at this;have a:r.hi*1000<=r.hi*(1000+m):=sA (by omega) (by omega);omega
 have j:(fq m r).hi<=901800000:=by
  refine(Frac.up_le (f:=⟨r.hi*(1000+m),1000⟩) (by show (0:Int)<1000;decide) _).2 ?_;dsimp only;have a:r.hi*(1000+m)<=r.hi*1500:=sA (by omega) (by omega);omega
 omega
theorem uQ{s}{l}{a}(h:(bf s l a).2=0):HrKOk (bf s l a).1/\cU s l=0/\ak a 0 ((s.kinds.length:Int)-1)=true /\
  s.kinds[a.toNat]?=some (bf s l a).1.k/\(bf s l a).1.rates=fq s.margin (eP s l a)/\0<=(eP s l a).lo:=by
 unfold bf at h |-;split at h
 .rename_i u;have o:=yS u;rw[if_pos u];split at h
  .cases h
  .rename_i k i;split at h
   .cases h
   .rename_i q;split at h
    .cases h
    .rename_i A;have j:ak a 0 ((s.kinds.length:Int)-1)=true:=by
      cases j:ak a 0 ((s.kinds.length:Int)-1) with
      |true=>rfl
      |false=>rw[j]at i;cases i
     rw[if_pos j]at i;simp only[j,i,if_neg q,if_neg A];have y:=l2 o.1;have z:vk (eP s l a):=D5 o.2.2 (.inl rfl);have v:=z.resolve_left (by intro e;rw[e]at q;exact q (by decide));have hw:=Mr y.2.2 v;refine⟨⟨ro o.1 (aG i),hw.1,hw.2.1,?_,hw.2.2⟩,u,trivial,trivial,trivial,by omega⟩;dsimp only;omega
 .contradiction
def HrK.least (x:HrK):Frac:=⟨60*(x.k.weight.lo-x.k.rest),x.rates.hi⟩
def HrK.most (x:HrK):Frac:=if 0<x.rates.lo then⟨60*(x.k.weight.hi-x.k.rest),x.rates.lo⟩ else⟨-1,1⟩
theorem QH(x)(hx:HrKOk x):af TP 389 [x.pv] (.tuple [x.least.pv,x.most.pv]):=by
 have e:=hx.k;have A:=e.lo;have z:=e.le;have y:=e.hi;have v:=e.rest;have u:=e.less
 refine aa (eI (by kernel_rfl) rfl TY) rfl ?_;have q:IntKind.i64.wrap (x.k.weight.lo-x.k.rest)=x.k.weight.lo-x.k.rest:=am (by omega) (by omega);have o:IntKind.i64.wrap (60*(x.k.weight.lo-x.k.rest))=60*(x.k.weight.lo-x.k.rest):=am (by omega) (by omega);have l:IntKind.i64.wrap (x.k.weight.hi-x.k.rest)=x.k.weight.hi-x.k.rest:=am (by omega) (by omega);have j:IntKind.i64.wrap (60*(x.k.weight.hi-x.k.rest))=60*(x.k.weight.hi-x.k.rest):=am (by omega) (by omega);simp only[q,o,go_sem,simprocAttr];cases i:decide (0<x.rates.lo)
 .have a:¬0<x.rates.lo:=by simpa using i
  simp only[Oy,aO,HrK.least,HrK.most,if_neg a,go_sem,simprocAttr]
 .have a:0<x.rates.lo:=by simpa using i
  simp only[l,j,Oy,aO,HrK.least,HrK.most,if_pos a,go_sem,simprocAttr]
def HrK.promise (x:HrK):Int:=if Frac.down ⟨x.least.top,x.least.below*60⟩<16666 then Frac.down ⟨x.least.top,x.least.below*60⟩ else 16666
theorem HrKOk.leastB{x}(hx:HrKOk x):60<=x.least.top/\x.least.top<=600000000/\1<=x.least.below/\x.least.below<=901800000:=by
 have a:=hx.k;have u:=a.lo;have q:=a.le;have o:=a.hi;have l:=a.rest;have j:=a.less;have i:=hx.pos;have e:=hx.hi
 simp only[HrK.least];omega
theorem HrKOk.mostB{x}(hx:HrKOk x):-1<=x.most.top/\x.most.top<=600000000/\1<=x.most.below/\x.most.below<=901800000:=by
 have a:=hx.k;have u:=a.lo;have q:=a.le;have o:=a.hi;have l:=a.rest;have j:=a.less;have i:=hx.le;have e:=hx.hi
 simp only[HrK.most];split<;>dsimp only<;>omega
theorem BU(x)(hx:HrKOk x):af TP 358 [x.pv] (.int .i64 x.promise):=by
 have e:=hx.leastB;refine aa (ag func358 rfl) rfl ?_;simp only[go_sem,simprocAttr];refine ae (QH x hx) rfl ?_;have a:IntKind.i64.wrap (x.least.below*60)=x.least.below*60:=am (by omega) (by omega);simp only[a,go_sem,simprocAttr];refine ae (lz ⟨x.least.top,x.least.below*60⟩ (by show 0<x.least.below*60;omega) (by show _<=x.least.top;omega) (by show x.least.top<=_;omega)) rfl ?_;simp only[HrK.promise,go_sem,simprocAttr]
def HrK.short (x:HrK) (r:HrRule):Bool:=x.least.lt ⟨r.minutes.lo,1⟩
def HrK.long (x:HrK) (r:HrRule):Bool:=decide (x.most.top<0)||Frac.lt ⟨r.minutes.hi,1⟩ x.most
def HrK.size (x:HrK) (r:HrRule):Bool:=!ak x.k.weight.lo r.weight.lo r.weight.hi||!ak x.k.weight.hi r.weight.lo r.weight.hi
def eh (s:HrShop) (l:List HrTest) (at':Int):Int×Int:=if(bf s l at').2=0 then((bf s l at').1.promise,0) else(0,(bf s l at').2)
theorem NP(s)(l)(a):af TP 292 [s.pv,.slice 3 (l.map HrTest.pv) false,.int .i64 a] (.tuple [.int .i64 (eh s l a).1,.int .i64 (eh s l a).2]):=by
 refine aa (ag func292 rfl) rfl ?_;simp only[go_sem,simprocAttr];refine ae (Jh s l a) rfl ?_;simp only[go_sem,simprocAttr];cases i:((bf s l a).2 != 0)
 .have e:(bf s l a).2=0:=by simpa using i
  simp only[go_sem,simprocAttr];refine ae (BU _ (uQ e).1) rfl ?_;simp only[eh,if_pos e,go_sem,simprocAttr]
 .have e:¬(bf s l a).2=0:=by simpa using i
  simp only[eh,if_neg e,go_sem,simprocAttr]
def HrK.minutes (x:HrK):Span:=⟨if x.least.down<1000000 then x.least.down else 1000000,if ak x.most.up 0 1000000=true then x.most.up else 1000000⟩
def HrK.fits (x:HrK) (r:HrRule):Int:=if x.short r=true then 1 else if x.long r=true then 2 else if x.size r=true then 3 else 0
def G2 (p:Int×Int):PV×PV:=(.int .i64 p.1,.int .i64 p.2)
def jR (k:Int):List (Int×Int)->Option Int
 |[]=>none
 |(q,v)::r=>if k=q then some v else jR k r
theorem yC(k):∀es,kR (.int .i64 k) (es.map G2)=some ((jR k es).map λv=>.int .i64 v)
 |[]=>rfl
 |(q,v)::r=>by
  rw[bK,kR.eq_def];simp only[G2,jn,if_true];cases h:(k==q)
  .rw[jR,if_neg (by simpa using h)];exact yC k r
  .rw[jR,if_pos (by simpa using h)];rfl
theorem yB(k v):∀es,jR k es=none->mU (.int .i64 k) (.int .i64 v) (es.map G2)=some ((es++[(k,v)]).map G2)
 |[],_=>rfl
 |(q,u)::r,h=>by
  rw[jR]at h;split at h
  .cases h
  .rename_i a;rw[bK,mU.eq_def];simp only[G2,jn,if_true];rw[show (k==q)=false by simpa using a];dsimp only;rw[yB k v r h];rfl
theorem uC(k)(a):∀es,jR k (es++[a])=(jR k es).or (if k=a.1 then some a.2 else none)
 |[]=>by simp[jR]
 |(q,u)::r=>by
  rw[hZ,jR,jR];split
  .rfl
  .exact uC k a r
def o4 (s:HrShop) (l:List HrTest) (b:HrBox):Int:=
 if ak b.kind 0 ((s.kinds.length:Int)-1)=true then(if ak b.hours 0 1000000=true then(bf s l b.kind).2 else 7) else 4
def cE (s:HrShop) (l:List HrTest):Nat->List HrBox->List Int×Int
 |_,[]=>([],0)
 |i,b::r=>
  if o4 s l b=0 then
   (if(cE s l (i+1) r).2=0 then((if(bf s l b.kind).1.promise<b.hours then [(i:Int)] else [])++(cE s l (i+1) r).1,0) else([],(cE s l (i+1) r).2))
  else([],o4 s l b)
def ct (s:HrShop) (l:List HrTest) (boxes:List HrBox):List Int×Int:=
 if cU s l=0 then(if 20<boxes.length then([],3) else cE s l 0 boxes) else([],cU s l)
def jV (out:List Int) (q:List Int×Int):List Int×Int:=if q.2=0 then(out++q.1,0) else([],q.2)
theorem xq{s}{l}{out}{i}{b}{r}{e}(h:o4 s l b=e)(a:e≠0):jV out (cE s l i (b::r))=([],e):=by
 rw[cE,h,if_neg a,jV,if_neg a]
theorem He{s}{l}{out}{i}{b}{r}(h:o4 s l b=0) :
  jV out (cE s l i (b::r))=jV (out++(if(bf s l b.kind).1.promise<b.hours then [(i:Int)] else [])) (cE s l (i+1) r):=by
 rw[cE,if_pos h];by_cases a:(cE s l (i+1) r).2=0
 .rw[if_pos a,jV,jV,if_pos rfl,if_pos a,dJ]
 .rw[if_neg a,jV,jV,if_neg a,if_neg a]
theorem IE(s)(l):bf s l (-1)=(⟨k7,⟨0,0⟩⟩,if cU s l=0 then 4 else cU s l):=by
 rw[bf];split
 .rw[show ak (-1) 0 ((s.kinds.length:Int)-1)=false by simp[ak]];rfl
 .rfl
theorem HL{P:Program}{H:Hints}{ops:Array Oper}{rest:List Oper}{Q:Cont}{o:Oper}{A:AAct}{f:FuncId}{args:List AV}{v:AV}{h':Heap}(e:ar P f args A.h (λr h=>r=.ret v/\h=h'))
  (i:@WD ⟨P,H,ops,rest,Q⟩ (A.put o.dst v h').h (A.put o.dst v h')):@Md ⟨P,H,ops,rest,Q,o⟩ A (.call f args):=
 e.mono λr h a=>by
  obtain⟨rfl,rfl⟩:=a;exact i
def bH (n:Int):List UInt8:=Lib.decDigits n.toNat
theorem tE:∀(k n:Nat),n<10^(k+1)->(Lib.decDigits n).length<=k+1
 |0,n,h=>by rw[Lib.decDigits,dif_pos (by simpa using h)];simp
 |k+1,n,h=>by
  rw[Lib.decDigits];split
  .simp
  .have:=tE k (n / 10) (by rw[Nat.pow_succ]at h;omega);simp;omega
theorem nS{n:Int}(_:0<=n)(a:n<=10000000):(bH n).length<=8:=tE 7 _ (by omega)
theorem md{n:Int}(a:0<=n):yM n=bs (bH n):=by
 have:Lib.itoa n=bH n:=by rw[Lib.itoa,if_neg (by omega)];rfl
 rw[yM,this];rfl
def sa:List UInt8:=[116,101,115,116,32]
def sp:List UInt8:=[32]
def nl:List UInt8:=[10]
def mW (nm:List UInt8) (e:Int):List UInt8:=sa++nm++sp++bH e++nl
def jT (m:HrMark):List UInt8:=bH m.minute++sp++bH m.weight++nl
def jk (s:HrShop) (t:HrTest):List UInt8:=mW (((s.kinds[t.kind.toNat]?).map λk=>k.name.data.toList).getD []) t.error++(t.marks.map jT).flatten
theorem pI{b:ByteArray}(h:nameOk b=true):b.size<=20:=by
 unfold nameOk at h;simp at h;omega
theorem ka(a b:ByteArray):gA a++gA b=gA (a++b):=by
 have:(a++b).data.toList=a.data.toList++b.data.toList:=by simp
 unfold gA;rw[this,bD]
theorem wt{h:Heap}{i:Nat}{s:ByteArray}(hi:h[i]?=some (.bld 221 5 (.p .nilslice)))(q:s.size<=1000000)(o:s.size≠0) :
  ar TP 102 [.ref .bl i,.p (.str s)] h (λr h'=>r=.ret (.p (.tuple [.int .i64 s.size,.niliface])) /\
   h'=(h++[AObj.row 1 (gA s)]).set i (.bld 221 5 (.slice h.length s.size 0 s.size))):=by
 have j:=(aB.1 hi).1;refine BH (x':=.slice h.length s.size 0 s.size) hi (by simp[ao];omega) (.inl rfl) ?_ (by rw[bp j];exact hi) (.inr ⟨_,_,rfl⟩);have e:¬(List.map (λb:UInt8=>AV.p (PV.int .u8 (b.toNat:Int))) s.data.toList=[]):=λh=>o (by have:=congrArg List.length h;simpa using this);have a:s.size<=ao:=by simp[ao];omega
 have l:s.data.size=s.size:=rfl;simp only[e,a,wS,l,gA,go_sem,simprocAttr];rw[if_neg (by simp)]
theorem m6{h:Heap}{i j n:Nat}{xs:List AV}{s:ByteArray}(hi:h[i]?=some (.bld 221 5 (.slice j n 0 n)))(o:h[j]?=some (.row 1 xs))(l:xs.length=n)(e:i≠j)(u:n+s.size<=1000000) :
  ar TP 102 [.ref .bl i,.p (.str s)] h (λr h'=>r=.ret (.p (.tuple [.int .i64 s.size,.niliface])) /\
   h'=(h.set j (.row 1 (xs++gA s))).set i (.bld 221 5 (.slice j (n+s.size) 0 (n+s.size)))):=by
 refine BH (x':=.slice j (n+s.size) 0 (n+s.size)) hi (by simp[ao];omega) (.inr ⟨j,n,xs,rfl,o,l,by simp[ao];omega⟩) ?_ (by rw[db e.symm];exact hi) (.inr ⟨_,_,rfl⟩);have a:n+s.size<=ao:=by simp[ao];omega
 have q:s.data.size=s.size:=rfl;simp only[o,l,a,wS,q,gA,go_sem,simprocAttr];rw[if_neg (by simp)]
theorem UB(s:HrShop)(t:HrTest)(hc:(hrCheck s).2.2=0)(ht:bQ s.kinds.length t=0):af TP 341 [s.pv,t.pv] (.str (bs (jk s t))):=by
 obtain⟨hok,k0,k1⟩:=gn ht;obtain⟨n,L⟩:=sB k0;have O:n<s.kinds.length:=by omega
 obtain⟨k,M⟩:∃k,s.kinds[n]?=some k:=⟨_,bO O⟩
 have U:=ro hc (aG M);have T:=pI U.name;obtain⟨e,v⟩:∃e,k.name=bs e:=⟨_,(sl _).symm⟩
 have E:jk s t=mW e t.error++(t.marks.map jT).flatten:=by rw[jk,L,kn,M,jI,fT,v,gh]
 rw[v,aj]at T;have S:(n:Int)<(s.kinds.length:Int):=by omega
 have X:=hok.err;have a0:=nS X.1 (by omega);have V:=md X.1;have C:sa.length=5:=rfl;have l:sp.length=1:=rfl;have J:nl.length=1:=rfl;have r1:(bs sa).size+(bs e).size<=bj:=by simp[aj,bj,C];omega
 have r2:(bs (sa++e)).size+(bs sp).size<=bj:=by simp[aj,bj,C,l];omega
 have r3:(bs (sa++e++sp)).size+(bs (bH t.error)).size<=bj:=by simp[aj,bj,C,l];omega
 have r4:(bs (sa++e++sp++bH t.error)).size+(bs nl).size<=bj:=by simp[aj,bj,C,l,J];omega
 have c1:(⟨#[116,101,115,116,32]⟩:ByteArray)=bs sa:=rfl;have c2:(⟨#[32]⟩:ByteArray)=bs sp:=rfl;have c3:(⟨#[10]⟩:ByteArray)=bs nl:=rfl;have Y:sa++e++sp++bH t.error++nl=mW e t.error:=rfl;have F:(mW e t.error).length<=40:=by simp[mW,C,l,J];omega
 have z:(mW e t.error).length≠0:=by simp[mW,C]
 generalize mW e t.error=A at E Y F z;refine aa (eI (by kernel_rfl) rfl T1) rfl ?_;simp only[Tz,aO,L,S,M,v,c1,c2,c3,r1,r2,dF,go_sem,simprocAttr];refine ax (vW t.error (by omega) (by omega)) rfl ?_;simp only[V,r3,r4,dF,Y,go_sem,simprocAttr];refine HL (wt (s:=bs A) rfl (by rw[aj];omega) (by rw[aj];exact z)) ?_;simp only[aj,go_sem,simprocAttr]
 refine fo [5,24,25] (σ:=List HrMark×List HrMark×List UInt8×Heap)
  (λq=>t.marks=q.1++q.2.1/\jk s t=q.2.2.1++(q.2.1.map jT).flatten/\q.2.2.1.length<=40+18*q.1.length/\q.2.2.1.length≠0) (λq=>q.2.1.length)
  (λq=>[(26,.p (.int .i64 q.1.length))])
  (λq=>[.row 3 [.p s.pv],.row 3 [.p t.pv],.bld 221 5 (.slice 3 q.2.2.1.length 0 q.2.2.1.length),.row 1 (gA (bs q.2.2.1))]++q.2.2.2) ([],t.marks,A,[]) ⟨rfl,E,F,z⟩ (by simp only[L,bt,go_sem,simprocAttr]) ?_ ?_
 .simp only[go_sem,simprocAttr]
 rintro⟨a,rest,i,g⟩ ⟨o,D,e3,e4⟩
 dsimp only at o D e3 e4
 cases rest with
 |nil=>
  have I:¬((a.length:Int)<(t.marks.length:Int)):=by rw[o];simp
  rw[cf,List.flatten_nil,bt]at D;have R:=hok.len;have y:=congrArg List.length o;simp only[aL,dL]at y;simp only[I,decide_false,go_sem,simprocAttr];have u:=aj i;refine cq (tr (j:=3) (s:=bs i) (by rw[u];rfl) rfl (by rw[u];exact e4) (by rw[u];omega)) ?_;simp only[go_sem,simprocAttr]
  rw[D]
 |cons m rest=>
  obtain⟨hx,G⟩:=eT o;have R:=hok.len;have y:=congrArg List.length o;simp only[aL,dB]at y;have N:IntKind.i64.wrap ((a.length:Int)+1)=(((a++[m]).length:Nat):Int):=bk (by omega) (by simp[ao];omega) (by simp);have K:=hok.all m (by rw[o];simp);have a2:=nS K.1 (by omega);have a1:=nS K.2.2.1 (by omega);have i1:=md K.1;have i2:=md K.2.2.1;have q1:(bs (bH m.minute)).size+(bs sp).size<=bj:=by simp[aj,bj,l];omega
  have q2:(bs (bH m.minute++sp)).size+(bs (bH m.weight)).size<=bj:=by simp[aj,bj,l];omega
  have q3:(bs (bH m.minute++sp++bH m.weight)).size+(bs nl).size<=bj:=by simp[aj,bj,l,J];omega
  have hB:bH m.minute++sp++bH m.weight++nl=jT m:=rfl;have a3:(jT m).length<=18:=by simp[jT,l,J];omega
  rw[bK,Mk]at D;have Z:=kU (lo:=g) rfl;have s0:=m5 (lo:=g) rfl;simp only[G,decide_true,hx,Z,s0,aO,bt,go_sem,simprocAttr];refine ax (vW m.minute (by omega) (by omega)) rfl ?_;simp only[i1,q1,dF,Z,bt,go_sem,simprocAttr];refine ax (vW m.weight (by omega) (by omega)) rfl ?_;simp only[i2,q2,q3,dF,hB,bt,go_sem,simprocAttr];refine HL (m6 (s:=bs (jT m)) (j:=3) rfl rfl (by rw[jY,aj]) (by decide) (by rw[aj];omega)) ?_;simp only[aj,ka,dF,go_sem,simprocAttr];refine br (a++[m],rest,i++jT m,g++[.row 2 [.p m.pv]]) ⟨by rw[o];simp,by rw[D];simp,by show (i++jT m).length<=40+18*(a++[m]).length;simp only[aL,aV];omega,by show (i++jT m).length≠0;simp only[aL];omega⟩ (jJ _) (by simp only[aL,go_sem,simprocAttr]) ?_;simp only[N,go_sem,simprocAttr]
theorem IX(l)(c)(h):ar TP 377 [.p (.str (bs l)),.p (.str (bs [c])),.p (.int .i64 0)] h
  (λr h'=>r=.ret (.func (.func 399) [] [.ptr (h.length+1) 1 0 0,.ptr h.length 1 0 0,.ptr (h.length+2) 1 0 0]) /\
   h'=h++[.row 1 [.p (.str (bs l))],.row 1 [.p (.str (bs [c]))],.row 1 [.p (.int .i64 0)]]):=by
 refine au (ag func377 rfl) rfl ?_;simp only[dJ,aL,aV,go_sem,simprocAttr]
theorem La(l)(c)(h):ar TP 338 [.p (.str (bs l)),.p (.str (bs [c]))] h
  (λr h'=>r=.ret (.func (.func 399) [] [.ptr (h.length+1) 1 0 0,.ptr h.length 1 0 0,.ptr (h.length+2) 1 0 0]) /\
   h'=h++[.row 1 [.p (.str (bs l))],.row 1 [.p (.str (bs [c]))],.row 1 [.p (.int .i64 0)]]):=by
 refine au (ag func338 rfl) rfl ?_;simp only[go_sem,simprocAttr];refine cq (IX l c h) ?_;simp only[go_sem,simprocAttr]
def HM (c:UInt8) (ns nsep nz:Nat) (x:List UInt8) (h:Heap):Prop:=
 h[ns]?=some (.row 1 [.p (.str (bs x))])/\h[nsep]?=some (.row 1 [.p (.str (bs [c]))])/\h[nz]?=some (.row 1 [.p (.int .i64 0)])
theorem Se(l)(c)(hl:l.length<1000000000)(id ns o O)(T)(j i:List (List UInt8)->List UInt8->Heap->Prop)(I:PV->Heap->Prop)
  (u:∀a x h,j a x h->HM c ns o O x h) (C:∀a x h,i a x h->HM c ns o O x h)
  (hy:∀a x h,aM c l=a++aM c x->j a x h->rT TP id [.p (.str (bs (aH c x).1))] h (λr h'=>(r=.ret (.p (.bool true))/\i (a++[(aH c x).1]) x h')\/∃v,r=.panic v/\I v h'))
  (A:∀a x y h,i a x h->(aH c x).2=some y->j a y (h.set ns (.row 1 [.p (.str (bs y))]))) (hi:j [] l T) :
  ar TP 399 [.ref .yl id,.ptr o 1 0 0,.ptr ns 1 0 0,.ptr O 1 0 0] T
   (λr h'=>(r=.ret (.p (.tuple []))/\∃x,(aH c x).2=none/\i (aM c l) x h')\/∃v,r=.panic v/\I v h'):=by
 refine au (ag func399 rfl) rfl ?_;obtain⟨E,K,N⟩:=u _ _ _ hi;have hz:(((bs [c]).size:Int)==0)=false:=rfl;simp only[K,hz,go_sem,simprocAttr]
 refine fo [0,1,2,3] (σ:=List (List UInt8)×List UInt8×Heap)
  (λq=>aM c l=q.1++aM c q.2.1/\j q.1 q.2.1 q.2.2/\q.2.1.length<1000000000) (λq=>q.2.1.length)
  (λ_=>[]) (λq=>q.2.2) ([],l,T) ⟨rfl,hi,hl⟩ rfl ?_ ?_
 .simp only[go_sem,simprocAttr]
 clear E K N
 rintro⟨a,x,h⟩ ⟨M,U,e3⟩
 dsimp only at M U e3;obtain⟨E,K,N⟩:=u _ _ _ U;have z:=hy a x h M U;simp only[E,K,go_sem,simprocAttr];refine ae (EO (bs x) c) rfl ?_;rw[gh];rcases ll c x with⟨G,S,F⟩|⟨r,G,S,F⟩
 .simp only[F,E,go_sem,simprocAttr];have J:aM c l=a++[x]:=by rw[M,lI G]
  rw[S]at z;refine o6 z (λv h' e=>?_) (λv h' e=>?_)
  .rcases e with⟨e,L⟩|⟨v',e,_⟩
   .cases e;simp only[go_sem,simprocAttr];refine .inl ?_;rw[J];exact⟨x,G,L⟩
   .cases e
  .rcases e with⟨e,_⟩|⟨v',e,R⟩
   .cases e
   .cases e;simp only[go_sem,simprocAttr];exact⟨_,rfl,R⟩
 .have D:=congrArg List.length F;simp only[aL,dB]at D;have q1:decide (((aH c x).1.length:Int)<0)=false:=by simp
  have q2:IntKind.i64.wrap (((aH c x).1.length:Int)+0)=(((aH c x).1.length:Nat):Int):=by rw[ud];exact am (by omega) (by omega)
  have q3:(((aH c x).1.length:Int)<=((bs x).size:Int)):=by rw[aj];omega
  have q4:(bs x).extract 0 (aH c x).1.length=bs (aH c x).1:=by
   rw[eD,qd]
   congr 1
   have:=congrArg (List.take (aH c x).1.length) F;rw[fa]at this
   .exact this
   .rfl
  have q5:IntKind.i64.wrap (((aH c x).1.length:Int)+(((bs [c]).size:Nat):Int))=(((aH c x).1.length+1:Nat):Int):=by
   rw[aj];exact bk (by omega) (by simp[ao];omega) (by simp)
  have Z:((((aH c x).1.length+1:Nat):Int)<=((bs x).size:Int)):=by rw[aj];omega
  have Y:(bs x).extract ((aH c x).1.length+1) (bs x).size=bs r:=by
   rw[eD,aj,pw]
   congr 1
   have:=congrArg (List.drop ((aH c x).1.length+1)) F;rw[this];simp
  simp only[S,q1,E,N,q2,q3,q4,go_sem,simprocAttr];refine o6 z (λv h' e=>?_) (λv h' e=>?_);rotate_left
  .rcases e with⟨e,_⟩|⟨v',e,R⟩
   .cases e
   .cases e;simp only[go_sem,simprocAttr];exact⟨_,rfl,R⟩
  rcases e with⟨e,L⟩|⟨v',e,_⟩
  rotate_left
  .cases e
  cases e;obtain⟨X,V,s3⟩:=C _ _ _ L;simp only[X,V,q5,Z,Y,go_sem,simprocAttr];refine br (a++[(aH c x).1],r,h'.set ns (.row 1 [.p (.str (bs r))])) ⟨by rw[M,lH G];simp,A _ _ _ _ L G,by show r.length<1000000000;omega⟩ (by show r.length<x.length;omega) rfl ?_;simp only[go_sem,simprocAttr]
theorem Aw(a b):∀e,Lib.decFrom e (a++b)=(Lib.decFrom e a).bind λx=>Lib.decFrom x b:=by
 induction a with
 |nil=>intro e;rfl
 |cons x r i=>
  intro e;rw[hZ,Lib.decFrom,Lib.decFrom]
  cases Lib.digitVal x with
  |none=>rfl
  |some d=>exact i _
theorem BP{d}(h:d<10):Lib.digitVal (UInt8.ofNat (48+d))=some d:=by
 have e:(UInt8.ofNat (48+d)).toNat=48+d:=by simp;omega
 rw[Lib.digitVal,e,if_pos (by omega)]
 congr 1;omega
theorem wA(n):Lib.decFrom 0 (Lib.decDigits n)=some n:=by
 induction n using Nat.strongRecOn with
 |ind n a=>
  rw[Lib.decDigits];split
  .rename_i h;simp only[Lib.decFrom,BP h,CD,gV]
  .rename_i h;rw[Aw,a (n / 10) (by omega)];simp only[n9,Lib.decFrom,BP (vr n (by omega:0<10))]
   congr 1;omega
theorem zf(n):∀b,b∈Lib.decDigits n->48<=b.toNat/\b.toNat<=57:=by
 induction n using Nat.strongRecOn with
 |ind n i=>
  intro b a;rw[Lib.decDigits]at a;split at a
  .rename_i h;rw[dT]at a;subst a;have e:(UInt8.ofNat (48+n)).toNat=48+n:=by simp;omega
   omega
  .rename_i h;rw[ck,dT]at a;rcases a with a|rfl
   .exact i (n / 10) (by omega) b a
   .have e:(UInt8.ofNat (48+n%10)).toNat=48+n%10:=by simp;omega
    omega
theorem qH(n):Lib.decDigits n≠[]:=by rw[Lib.decDigits];split<;>simp
def jf (l:List UInt8):Option Int:=match Lib.atoiAll l with|.ok v=>some v|_=>none
theorem xg{n}(o:0<=n)(q:n<=10000000):jf (bH n)=some n:=by
 obtain⟨m,rfl⟩:=sB o;have y:=nS o q;have a:Lib.atoi (bH (m:Int))=some (m:Int):=by
  unfold bH;rw[kn];have i:=zf m;have e:=wA m
  cases j:Lib.decDigits m with
  |nil=>exact absurd j (qH m)
  |cons b r=>
   rw[j]at i e;have l:=i b (by simp);have v:(b==45)=false:=by
    rw[beq_eq_false_iff_ne];rintro rfl;simp at l
   have u:(b==43)=false:=by
    rw[beq_eq_false_iff_ne];rintro rfl;simp at l
   simp only[Lib.atoi,v,u,eG,if_false,Lib.decNat,List.isEmpty_cons,e,jI]
 rw[jf,Lib.atoiAll_short _ (by omega),a];rfl
def gJ:PV:=.iface 32 (.int .i64 6)
theorem Si(b)(h):ar TP 334 [.p (.bool b)] h (λr h'=>h'=h/\r=if b=true then .ret (.p (.tuple [])) else .panic gJ):=by
 refine au (ag func334 rfl) rfl ?_;simp only[go_sem,simprocAttr];cases b
 .simp only[gJ,go_sem,simprocAttr]
 .simp only[go_sem,simprocAttr]
theorem n7{H}{Q}{ops}{rest}{dst}{A}{b}(i:b=true->@WO ⟨TP,H,ops,rest,Q⟩ (A.put dst (.p (.tuple [])) A.h))
  (e:b=false->@WQ ⟨Q⟩ (.panic gJ) A):@WF ⟨TP,H,ops,rest,Q,dst⟩ A 334 [.p (.bool b)]:=by
 refine cj (Si b A.h) (λv h a=>?_) (λv h a=>?_)
 .obtain⟨rfl,a⟩:=a;cases b
  .cases a
  .cases a;exact i rfl
 .obtain⟨rfl,a⟩:=a;cases b
  .cases a;exact e rfl
  .cases a
theorem SP:af TP 334 [.bool true] (.tuple []):=by
 refine aa (ag func334 rfl) rfl ?_;simp only[go_sem,simprocAttr]
theorem sk{l}{n}(i:l.length<=1000000)(h:jf l=some n):af TP 337 [.str (bs l)] (.int .i64 n):=by
 refine aa (ag func337 rfl) rfl ?_;have a:kb (bs l)=.tuple [.int .i64 n,.niliface]:=by
  unfold jf at h;rw[kb,gh];cases e:Lib.atoiAll l<;>rw[e]at h<;>first|cases h;done|skip
  cases h;rfl
 simp only[go_sem,simprocAttr];refine ae (CU (bs l) (by rw[aj];omega)) rfl ?_;simp only[a,go_sem,simprocAttr];refine ae SP rfl ?_;simp only[go_sem,simprocAttr]
theorem m7{l}(i:l.length<=1000000)(h:jf l=none)(a):ar TP 337 [.p (.str (bs l))] a (λr h'=>r=.panic gJ/\h'=a):=by
 refine au (ag func337 rfl) rfl ?_;have hx:∃v,kb (bs l)=.tuple [.int .i64 v,.iface 351 .any]:=by
  unfold jf at h;rw[kb,gh];cases e:Lib.atoiAll l<;>rw[e]at h<;>first|cases h;done|exact⟨_,rfl⟩
 obtain⟨v,hx⟩:=hx;simp only[go_sem,simprocAttr];refine ae (CU (bs l) (by rw[aj];omega)) rfl ?_;simp only[hx,go_sem,simprocAttr];refine n7 (λh=>by cases h) (λ_=>?_);simp only[go_sem,simprocAttr]
theorem n8{P}{H}{ops}{rest}{Q}{o}{e}{A}{f}{args}{a}{v}(i:af P f a v)(j:args=a.map .p)
  (h:@WD ⟨P,H,ops,rest,Q⟩ e (A.put o.dst (.p v) A.h)):@L' ⟨P,H,ops,rest,Q,o⟩ e A (.call f args):=by
 subst j;exact .inl ⟨.p v,λ_ _=>pP i,h⟩
theorem rA{P}{H}{ops}{rest}{Q}{o}{a}{A}{f}{args}{v}(e:ar P f args A.h (λr h'=>r=.panic v/\h'=A.h))
  (h:∀T,@WQ ⟨Q⟩ (.panic v) { A with tmps:=T }):@L' ⟨P,H,ops,rest,Q,o⟩ a A (.call f args):=.inr ⟨v,e,h⟩
end Abs
end Go.Proofs.YtmndpldajflenaaGreatDoor
