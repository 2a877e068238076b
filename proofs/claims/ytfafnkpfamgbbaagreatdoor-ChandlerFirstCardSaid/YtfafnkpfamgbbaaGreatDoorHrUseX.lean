/-
  CONTRACTS: what follows from the rates of a kind: minutes, a promise, rules, boxes. No con
  CONTRACTS: boxes whose promise can be broken. No conditions but those in the theorems' hea
  CONTRACTS: the text of a test, in the program and in the reference. No conditions but thos
  CONTRACTS: strings.SplitSeq at one byte: the function that it returns, and what a call of 
  CONTRACTS: numbers read out of texts; panics of the reader. No conditions but those in the
-/
import Derived.Test.YtfafnkpfamgbbaaGreatDoorAbsCutX
import Derived.Test.YtfafnkpfamgbbaaGreatDoorStrBldX
import Derived.Test.YtfafnkpfamgbbaaGreatDoorHrShelfX
import Derived.Lib.AtoiTie
set_option linter.unusedSimpArgs false
set_option linter.unusedVariables false
open Go.Proofs.Tryz renaming prog->TP
namespace Go.Proofs.YtfafnkpfamgbbaaGreatDoor
namespace Abs
set_option maxRecDepth 4000
structure HrKOk (x:HrK):Prop where
 k:HrKindOk x.k
 lo:0<=x.rates.lo
 le:x.rates.lo<=x.rates.hi
 pos:1<=x.rates.hi
 hi:x.rates.hi<=901800000
def uS (r:Span):Prop:=(r=⟨-1,0⟩)\/(0<=r.lo/\r.lo<=r.hi/\r.hi<=601200000)
theorem HC {r q} (hr:uS r) (hq:0<=q.lo/\q.lo<=q.hi/\q.hi<=601200000):uS (jo r q):=by
 unfold jo;rcases hr with rfl | hr
 .rw [if_pos (by decide)];exact .inr hq
 .rw [if_neg (by omega)];refine .inr ⟨?_,?_,?_⟩<;>dsimp only<;>split<;>(try split)<;>omega
theorem Da {nk at'}:∀ {l} {r},cu nk l=0->uS r->uS (pR at' r l)
 |[],_,_,h=>h
 |t::l,r,h,hr=>by
  have h1:=pE h;have h2:cu nk l=0:=by rw [cu] at h;split at h<;>(first | exact h | contradiction)
  rw [pR];refine Da h2 ?_;split
  .rename_i hc;have hok:=(fz (h1 t (by simp))).1;have:=uo hok;exact HC hr ⟨this.1,zD hok hc.2,this.2.2.2⟩
  .exact hr
theorem K8 {m} {r} (hm:0<=m/\m<=500) (hr:0<=r.lo/\r.lo<=r.hi/\r.hi<=601200000):0<=(eH m r).lo/\(eH m r).lo<=(eH m r).hi/\(eH m r).hi<=901800000:=by
 have e1:0<=(eH m r).lo:=by
  refine (Frac.down_le (f:=⟨r.lo*(1000-m),1000⟩) (by show (0:Int)<1000;decide) 0).2 ?_;have:0<=r.lo*(1000-m):=wv (by omega) (by omega);simpa using this
 have e2:(eH m r).lo<=r.lo:=by
  have:=(Frac.down_le (f:=⟨r.lo*(1000-m),1000⟩) (by show (0:Int)<1000;decide) (eH m r).lo).1 (tm _);dsimp only at this;have h2:r.lo*(1000-m)<=r.lo*1000:=xn (by omega) (by omega);omega
 have e3:r.hi<=(eH m r).hi:=by
  have:=(Frac.up_le (f:=⟨r.hi*(1000+m),1000⟩) (by show (0:Int)<1000;decide) (eH m r).hi).1 (tm _);dsimp only at this;have h2:r.hi*1000<=r.hi*(1000+m):=xn (by omega) (by omega);omega
 have e4:(eH m r).hi<=901800000:=by
  refine (Frac.up_le (f:=⟨r.hi*(1000+m),1000⟩) (by show (0:Int)<1000;decide) _).2 ?_;dsimp only;have h2:r.hi*(1000+m)<=r.hi*1500:=xn (by omega) (by omega);omega
 omega
theorem uq {s} {l} {at'} (h:(be s l at').2=0):HrKOk (be s l at').1/\cB s l=0/\az at' 0 ((s.kinds.length:Int)-1)=true /\
  s.kinds[at'.toNat]?=some (be s l at').1.k/\(be s l at').1.rates=eH s.margin (dV s l at')/\0<=(dV s l at').lo:=by
 unfold be at h |-;split at h
 .rename_i h0;have ht:=yr h0;rw [if_pos h0];split at h
  .cases h
  .rename_i k hk;split at h
   .cases h
   .rename_i h1;split at h
    .cases h
    .rename_i h2;have hg:az at' 0 ((s.kinds.length:Int)-1)=true:=by
      cases hg:az at' 0 ((s.kinds.length:Int)-1) with
      |true=>rfl
      |false=>rw [hg] at hk;cases hk
     rw [if_pos hg] at hk;simp only [hg,hk,if_neg h1,if_neg h2];have hm:=lq ht.1;have hO:uS (dV s l at'):=Da ht.2.2 (.inl rfl);have hr:=hO.resolve_left (by intro e;rw [e] at h1;exact h1 (by decide));have hw:=K8 hm.2.2 hr;refine ⟨⟨qy ht.1 (aI hk),hw.1,hw.2.1,?_,hw.2.2⟩,h0,trivial,trivial,trivial,by omega⟩;dsimp only;omega
 .contradiction
def HrK.least (x:HrK):Frac:=⟨60*(x.k.weight.lo-x.k.rest),x.rates.hi⟩
def HrK.most (x:HrK):Frac:=if 0<x.rates.lo then ⟨60*(x.k.weight.hi-x.k.rest),x.rates.lo⟩ else ⟨-1,1⟩
theorem PA (x) (hx:HrKOk x):ah TP 292 [x.pv] (.tuple [x.least.pv,x.most.pv]):=by
 have hk:=hx.k;have h1:=hk.lo;have h2:=hk.le;have h3:=hk.hi;have h4:=hk.rest;have h5:=hk.less
 refine aa (ai (by kernel_rfl) rfl TN) rfl ?_;have w1:IntKind.i64.wrap (x.k.weight.lo-x.k.rest)=x.k.weight.lo-x.k.rest:=an (by omega) (by omega);have w2:IntKind.i64.wrap (60*(x.k.weight.lo-x.k.rest))=60*(x.k.weight.lo-x.k.rest):=an (by omega) (by omega);have w3:IntKind.i64.wrap (x.k.weight.hi-x.k.rest)=x.k.weight.hi-x.k.rest:=an (by omega) (by omega);have w4:IntKind.i64.wrap (60*(x.k.weight.hi-x.k.rest))=60*(x.k.weight.hi-x.k.rest):=an (by omega) (by omega);simp only [w1,w2,go_sem,simprocAttr];cases hp:decide (0<x.rates.lo)
 .have hp':¬ 0<x.rates.lo:=by simpa using hp
  simp only [M6,bf,HrK.least,HrK.most,if_neg hp',go_sem,simprocAttr]
 .have hp':0<x.rates.lo:=by simpa using hp
  simp only [w3,w4,M6,bf,HrK.least,HrK.most,if_pos hp',go_sem,simprocAttr]
def HrK.promise (x:HrK):Int:=if Frac.down ⟨x.least.top,x.least.below*60⟩<16666 then Frac.down ⟨x.least.top,x.least.below*60⟩ else 16666
theorem HrKOk.leastB {x} (hx:HrKOk x):60<=x.least.top/\x.least.top<=600000000/\1<=x.least.below/\x.least.below<=901800000:=by
 have hk:=hx.k;have h1:=hk.lo;have h2:=hk.le;have h3:=hk.hi;have h4:=hk.rest;have h5:=hk.less;have h6:=hx.pos;have h7:=hx.hi
 simp only [HrK.least];omega
theorem HrKOk.mostB {x} (hx:HrKOk x):-1<=x.most.top/\x.most.top<=600000000/\1<=x.most.below/\x.most.below<=901800000:=by
 have hk:=hx.k;have h1:=hk.lo;have h2:=hk.le;have h3:=hk.hi;have h4:=hk.rest;have h5:=hk.less;have h6:=hx.le;have h7:=hx.hi
 simp only [HrK.most];split<;>dsimp only<;>omega
theorem A2 (x) (hx:HrKOk x):ah TP 259 [x.pv] (.int .i64 x.promise):=by
 have hb:=hx.leastB;refine aa (ai (by kernel_rfl) rfl Uh) rfl ?_;simp only [go_sem,simprocAttr];refine ae (PA x hx) rfl ?_;have w1:IntKind.i64.wrap (x.least.below*60)=x.least.below*60:=an (by omega) (by omega);simp only [w1,go_sem,simprocAttr];refine ae (kO ⟨x.least.top,x.least.below*60⟩ (by show 0<x.least.below*60;omega) (by show _<=x.least.top;omega) (by show x.least.top<=_;omega)) rfl ?_;simp only [HrK.promise,go_sem,simprocAttr]
def HrK.short (x:HrK) (r:HrRule):Bool:=x.least.lt ⟨r.minutes.lo,1⟩
def HrK.long (x:HrK) (r:HrRule):Bool:=decide (x.most.top<0)||Frac.lt ⟨r.minutes.hi,1⟩ x.most
def HrK.size (x:HrK) (r:HrRule):Bool:=!az x.k.weight.lo r.weight.lo r.weight.hi||!az x.k.weight.hi r.weight.lo r.weight.hi
def dH (s:HrShop) (l:List HrTest) (at':Int):Int×Int:=if (be s l at').2=0 then ((be s l at').1.promise,0) else (0,(be s l at').2)
theorem Mq (s) (l) (at'):ah TP 189 [s.pv,.slice 3 (l.map HrTest.pv) false,.int .i64 at'] (.tuple [.int .i64 (dH s l at').1,.int .i64 (dH s l at').2]):=by
 refine aa (ai (by kernel_rfl) rfl U4) rfl ?_;simp only [go_sem,simprocAttr];refine ae (Ia s l at') rfl ?_;simp only [go_sem,simprocAttr];cases h0:((be s l at').2 != 0)
 .have h0':(be s l at').2=0:=by simpa using h0
  simp only [go_sem,simprocAttr];refine ae (A2 _ (uq h0').1) rfl ?_;simp only [dH,if_pos h0',go_sem,simprocAttr]
 .have h0':¬ (be s l at').2=0:=by simpa using h0
  simp only [dH,if_neg h0',go_sem,simprocAttr]
def HrK.minutes (x:HrK):Span:=⟨if x.least.down<1000000 then x.least.down else 1000000,if az x.most.up 0 1000000=true then x.most.up else 1000000⟩
def HrK.fits (x:HrK) (r:HrRule):Int:=if x.short r=true then 1 else if x.long r=true then 2 else if x.size r=true then 3 else 0
def F1 (p:Int×Int):PV×PV:=(.int .i64 p.1,.int .i64 p.2)
def jn (k:Int):List (Int×Int)->Option Int
 |[]=>none
 |(q,v)::r=>if k=q then some v else jn k r
theorem ya (k):∀ es,ki (.int .i64 k) (es.map F1)=some ((jn k es).map λv=>.int .i64 v)
 |[]=>rfl
 |(q,v)::r=>by
  rw [bQ,ki.eq_def];simp only [F1,iQ,if_true];cases h:(k==q)
  .rw [jn,if_neg (by simpa using h)];exact ya k r
  .rw [jn,if_pos (by simpa using h)];rfl
theorem x9 (k v):∀ es,jn k es=none->mq (.int .i64 k) (.int .i64 v) (es.map F1)=some ((es++[(k,v)]).map F1)
 |[],_=>rfl
 |(q,u)::r,h=>by
  rw [jn] at h;split at h
  .cases h
  .rename_i hne;rw [bQ,mq.eq_def];simp only [F1,iQ,if_true];rw [show (k==q)=false by simpa using hne];dsimp only;rw [x9 k v r h];rfl
theorem uc (k) (a):∀ es,jn k (es++[a])=(jn k es).or (if k=a.1 then some a.2 else none)
 |[]=>by simp [jn]
 |(q,u)::r=>by
  rw [gQ,jn,jn];split
  .rfl
  .exact uc k a r
def oc (s:HrShop) (l:List HrTest) (b:HrBox):Int :=
 if az b.kind 0 ((s.kinds.length:Int)-1)=true then (if az b.hours 0 1000000=true then (be s l b.kind).2 else 7) else 4
def cm (s:HrShop) (l:List HrTest):Nat->List HrBox->List Int×Int
 |_,[]=>([],0)
 |i,b::r =>
  if oc s l b=0 then
   (if (cm s l (i+1) r).2=0 then ((if (be s l b.kind).1.promise<b.hours then [(i:Int)] else [])++(cm s l (i+1) r).1,0) else ([],(cm s l (i+1) r).2))
  else ([],oc s l b)
def cb (s:HrShop) (l:List HrTest) (boxes:List HrBox):List Int×Int :=
 if cB s l=0 then (if 20<boxes.length then ([],3) else cm s l 0 boxes) else ([],cB s l)
def js (out:List Int) (q:List Int×Int):List Int×Int:=if q.2=0 then (out++q.1,0) else ([],q.2)
theorem wW {s} {l} {out} {i} {b} {r} {e} (h:oc s l b=e) (he:e≠0):js out (cm s l i (b::r))=([],e):=by
 rw [cm,h,if_neg he,js,if_neg he]
theorem Gb {s} {l} {out} {i} {b} {r} (h:oc s l b=0) :
  js out (cm s l i (b::r))=js (out++(if (be s l b.kind).1.promise<b.hours then [(i:Int)] else [])) (cm s l (i+1) r):=by
 rw [cm,if_pos h];by_cases h2:(cm s l (i+1) r).2=0
 .rw [if_pos h2,js,js,if_pos rfl,if_pos h2,di]
 .rw [if_neg h2,js,js,if_neg h2,if_neg h2]
theorem HB (s) (l):be s l (-1)=(⟨kr,⟨0,0⟩⟩,if cB s l=0 then 4 else cB s l):=by
 rw [be];split
 .rw [show az (-1) 0 ((s.kinds.length:Int)-1)=false by simp [az]];rfl
 .rfl
theorem GG {P} {H} {ops} {rest} {Q} {o} {A} {f} {args} {v} {h'} (hc:ay P f args A.h (λr h=>r=.ret v/\h=h'))
  (h1:@WD ⟨P,H,ops,rest,Q⟩ (A.put o.dst v h').h (A.put o.dst v h')):@KN ⟨P,H,ops,rest,Q,o⟩ A (.call f args) :=
 hc.mono λr h hr=>by
  obtain ⟨rfl,rfl⟩:=hr;exact h1
def bO (n:Int):List UInt8:=Lib.decDigits n.toNat
theorem sZ:∀ (k n),n<10^(k+1)->(Lib.decDigits n).length<=k+1
 |0,n,h=>by rw [Lib.decDigits,dif_pos (by simpa using h)];simp
 |k+1,n,h=>by
  rw [Lib.decDigits];split
  .simp
  .have:=sZ k (n / 10) (by rw [Nat.pow_succ] at h;omega);simp;omega
theorem nh {n} (_:0<=n) (h1:n<=10000000):(bO n).length<=8:=sZ 7 _ (by omega)
theorem lH {n} (h0:0<=n):yj n=bs (bO n):=by
 have:Lib.itoa n=bO n:=by rw [Lib.itoa,if_neg (by omega)];rfl
 rw [yj,this];rfl
def rv:List UInt8:=[116,101,115,116,32]
def sp:List UInt8:=[32]
def nl:List UInt8:=[10]
def mr (nm:List UInt8) (e:Int):List UInt8:=rv++nm++sp++bO e++nl
def jp (m:HrMark):List UInt8:=bO m.minute++sp++bO m.weight++nl
def iO (s:HrShop) (t:HrTest):List UInt8:=mr (((s.kinds[t.kind.toNat]?).map λk=>k.name.data.toList).getD []) t.error++(t.marks.map jp).flatten
theorem Hw {b} (h:nameOk b=true):b.size<=20:=by
 unfold nameOk at h;simp at h;omega
theorem jH (a b):fJ a++fJ b=fJ (a++b):=by
 have:(a++b).data.toList=a.data.toList++b.data.toList:=by simp
 unfold fJ;rw [this,cp]
theorem vZ {h} {i} {s} (hi:h[i]?=some (.bld 84 5 (.p .nilslice))) (hs:s.size<=1000000) (h0:s.size≠0) :
  ay TP 24 [.ref .bl i,.p (.str s)] h (λr h'=>r=.ret (.p (.tuple [.int .i64 s.size,.niliface])) /\
   h'=(h++[AObj.row 1 (fJ s)]).set i (.bld 84 5 (.slice h.length s.size 0 s.size))):=by
 have hil:=(ar.1 hi).1;refine AO (x':=.slice h.length s.size 0 s.size) hi (by simp [aB];omega) (.inl rfl) ?_ (by rw [aS hil];exact hi) (.inr ⟨_,_,rfl⟩);have hne:¬ (List.map (λb:UInt8=>AV.p (PV.int .u8 (b.toNat:Int))) s.data.toList=[]):=λh=>h0 (by have:=congrArg List.length h;simpa using this);have hrm:s.size<=aB:=by simp [aB];omega
 have hl:s.data.size=s.size:=rfl;simp only [hne,hrm,r6,hl,fJ,go_sem,simprocAttr];rw [if_neg (by simp)]
theorem mD {h} {i j n} {xs} {s} (hi:h[i]?=some (.bld 84 5 (.slice j n 0 n))) (hj:h[j]?=some (.row 1 xs)) (hn:xs.length=n) (hij:i≠j) (hs:n+s.size<=1000000) :
  ay TP 24 [.ref .bl i,.p (.str s)] h (λr h'=>r=.ret (.p (.tuple [.int .i64 s.size,.niliface])) /\
   h'=(h.set j (.row 1 (xs++fJ s))).set i (.bld 84 5 (.slice j (n+s.size) 0 (n+s.size)))):=by
 refine AO (x':=.slice j (n+s.size) 0 (n+s.size)) hi (by simp [aB];omega) (.inr ⟨j,n,xs,rfl,hj,hn,by simp [aB];omega⟩) ?_ (by rw [cw hij.symm];exact hi) (.inr ⟨_,_,rfl⟩);have hrm:n+s.size<=aB:=by simp [aB];omega
 have hl:s.data.size=s.size:=rfl;simp only [hj,hn,hrm,r6,hl,fJ,go_sem,simprocAttr];rw [if_neg (by simp)]
set_option maxHeartbeats 2000000 in
theorem Wu (s) (t) (hc:(hrCheck s).2.2=0) (ht:bL s.kinds.length t=0):ah TP 236 [s.pv,t.pv] (.str (bs (iO s t))):=by
 obtain ⟨hok,k0,k1⟩:=fz ht;obtain ⟨n,hn⟩:=qL k0;have hnl:n<s.kinds.length:=by omega
 obtain ⟨k,hk⟩:∃ k,s.kinds[n]?=some k:=⟨_,b6 hnl⟩
 have hko:=qy hc (aI hk);have hks:=Hw hko.name;obtain ⟨nm,hnm⟩:∃ nm,k.name=bs nm:=⟨_,(uH _).symm⟩
 have hsp:iO s t=mr nm t.error++(t.marks.map jp).flatten:=by rw [iO,hn,hH,hk,mT,gY,hnm,fp]
 rw [hnm,aw] at hks;have hlt:(n:Int)<(s.kinds.length:Int):=by omega
 have he:=hok.err;have hel:=nh he.1 (by omega);have hit:=lH he.1;have l1:rv.length=5:=rfl;have l2:sp.length=1:=rfl;have l3:nl.length=1:=rfl;have r1:(bs rv).size+(bs nm).size<=de:=by simp [aw,de,l1];omega
 have r2:(bs (rv++nm)).size+(bs sp).size<=de:=by simp [aw,de,l1,l2];omega
 have r3:(bs (rv++nm++sp)).size+(bs (bO t.error)).size<=de:=by simp [aw,de,l1,l2];omega
 have r4:(bs (rv++nm++sp++bO t.error)).size+(bs nl).size<=de:=by simp [aw,de,l1,l2,l3];omega
 have c1:(⟨#[116,101,115,116,32]⟩:ByteArray)=bs rv:=rfl;have c2:(⟨#[32]⟩:ByteArray)=bs sp:=rfl;have c3:(⟨#[10]⟩:ByteArray)=bs nl:=rfl;have hA:rv++nm++sp++bO t.error++nl=mr nm t.error:=rfl;have hAl:(mr nm t.error).length<=40:=by simp [mr,l1,l2,l3];omega
 have hA0:(mr nm t.error).length≠0:=by simp [mr,l1]
 generalize mr nm t.error=A at hsp hA hAl hA0;refine aa (ai (by kernel_rfl) rfl Uw) rfl ?_;simp only [Ss,bf,hn,hlt,hk,hnm,c1,c2,c3,r1,r2,fK,go_sem,simprocAttr];refine aC (vH t.error (by omega) (by omega)) rfl ?_;simp only [hit,r3,r4,fK,hA,go_sem,simprocAttr];refine GG (vZ (s:=bs A) rfl (by rw [aw];omega) (by rw [aw];exact hA0)) ?_;simp only [aw,go_sem,simprocAttr]
 refine eF [5,24,25] (σ:=List HrMark×List HrMark×List UInt8×Heap)
  (λq=>t.marks=q.1++q.2.1/\iO s t=q.2.2.1++(q.2.1.map jp).flatten/\q.2.2.1.length<=40+18*q.1.length/\q.2.2.1.length≠0) (λq=>q.2.1.length)
  (λq=>[(26,.p (.int .i64 q.1.length))])
  (λq=>[.row 3 [.p s.pv],.row 3 [.p t.pv],.bld 84 5 (.slice 3 q.2.2.1.length 0 q.2.2.1.length),.row 1 (fJ (bs q.2.2.1))]++q.2.2.2) ([],t.marks,A,[]) ⟨rfl,hsp,hAl,hA0⟩ (by simp only [hn,bF,go_sem,simprocAttr]) ?_ ?_
 .simp only [go_sem,simprocAttr]
 rintro ⟨done,rest,acc,g⟩ ⟨e1,e2,e3,e4⟩
 dsimp only at e1 e2 e3 e4
 cases rest with
 |nil =>
  have hlt2:¬ ((done.length:Int)<(t.marks.length:Int)):=by rw [e1];simp
  rw [cO,List.flatten_nil,bF] at e2;have hml:=hok.len;have hdl:=congrArg List.length e1;simp only [aP,eG] at hdl;simp only [hlt2,decide_false,go_sem,simprocAttr];have hsz:=aw acc;refine b9 (sQ (j:=3) (s:=bs acc) (by rw [hsz];rfl) rfl (by rw [hsz];exact e4) (by rw [hsz];omega)) ?_;simp only [go_sem,simprocAttr]
  rw [e2]
 |cons m rest =>
  obtain ⟨hx,hltt⟩:=gC e1;have hml:=hok.len;have hdl:=congrArg List.length e1;simp only [aP,e9] at hdl;have hnx:IntKind.i64.wrap ((done.length:Int)+1)=(((done++[m]).length:Nat):Int):=bI (by omega) (by simp [aB];omega) (by simp);have hm:=hok.all m (by rw [e1];simp);have hd1:=nh hm.1 (by omega);have hd2:=nh hm.2.2.1 (by omega);have i1:=lH hm.1;have i2:=lH hm.2.2.1;have q1:(bs (bO m.minute)).size+(bs sp).size<=de:=by simp [aw,de,l2];omega
  have q2:(bs (bO m.minute++sp)).size+(bs (bO m.weight)).size<=de:=by simp [aw,de,l2];omega
  have q3:(bs (bO m.minute++sp++bO m.weight)).size+(bs nl).size<=de:=by simp [aw,de,l2,l3];omega
  have hB:bO m.minute++sp++bO m.weight++nl=jp m:=rfl;have hBl:(jp m).length<=18:=by simp [jp,l2,l3];omega
  rw [bQ,G8] at e2;have g0:=kn (lo:=g) rfl;have s0:=mC (lo:=g) rfl;simp only [hltt,decide_true,hx,g0,s0,bf,bF,go_sem,simprocAttr];refine aC (vH m.minute (by omega) (by omega)) rfl ?_;simp only [i1,q1,fK,g0,bF,go_sem,simprocAttr];refine aC (vH m.weight (by omega) (by omega)) rfl ?_;simp only [i2,q2,q3,fK,hB,bF,go_sem,simprocAttr];refine GG (mD (s:=bs (jp m)) (j:=3) rfl rfl (by rw [jw,aw]) (by decide) (by rw [aw];omega)) ?_;simp only [aw,jH,fK,go_sem,simprocAttr];refine bq (done++[m],rest,acc++jp m,g++[.row 2 [.p m.pv]]) ⟨by rw [e1];simp,by rw [e2];simp,by show (acc++jp m).length<=40+18*(done++[m]).length;simp only [aP,bu];omega,by show (acc++jp m).length≠0;simp only [aP];omega⟩ (lz _) (by simp only [aP,go_sem,simprocAttr]) ?_;simp only [hnx,go_sem,simprocAttr]
theorem HS (l) (c) (h):ay TP 277 [.p (.str (bs l)),.p (.str (bs [c])),.p (.int .i64 0)] h
  (λr h'=>r=.ret (.func (.func 302) [] [.ptr (h.length+1) 1 0 0,.ptr h.length 1 0 0,.ptr (h.length+2) 1 0 0]) /\
   h'=h++[.row 1 [.p (.str (bs l))],.row 1 [.p (.str (bs [c]))],.row 1 [.p (.int .i64 0)]]):=by
 refine ax (ai (by kernel_rfl) rfl T1) rfl ?_;simp only [di,aP,bu,go_sem,simprocAttr]
theorem JV (l) (c) (h):ay TP 233 [.p (.str (bs l)),.p (.str (bs [c]))] h
  (λr h'=>r=.ret (.func (.func 302) [] [.ptr (h.length+1) 1 0 0,.ptr h.length 1 0 0,.ptr (h.length+2) 1 0 0]) /\
   h'=h++[.row 1 [.p (.str (bs l))],.row 1 [.p (.str (bs [c]))],.row 1 [.p (.int .i64 0)]]):=by
 refine ax (ai (by kernel_rfl) rfl Uz) rfl ?_;simp only [go_sem,simprocAttr];refine b9 (HS l c h) ?_;simp only [go_sem,simprocAttr]
def GH (c:UInt8) (ns nsep nz:Nat) (x:List UInt8) (h:Heap):Prop :=
 h[ns]?=some (.row 1 [.p (.str (bs x))])/\h[nsep]?=some (.row 1 [.p (.str (bs [c]))])/\h[nz]?=some (.row 1 [.p (.int .i64 0)])
set_option maxHeartbeats 1000000 in
theorem Q7 (l) (c) (hl:l.length<1000000000) (id ns nsep nz) (h0) (Inv Inv':List (List UInt8)->List UInt8->Heap->Prop) (Pan:PV->Heap->Prop)
  (hrow:∀ done x h,Inv done x h->GH c ns nsep nz x h) (hrow':∀ done x h,Inv' done x h->GH c ns nsep nz x h)
  (hy:∀ done x h,aN c l=done++aN c x->Inv done x h->rg TP id [.p (.str (bs (aF c x).1))] h (λr h'=>(r=.ret (.p (.bool true))/\Inv' (done++[(aF c x).1]) x h')\/∃ v,r=.panic v/\Pan v h'))
  (hstep:∀ done x y h,Inv' done x h->(aF c x).2=some y->Inv done y (h.set ns (.row 1 [.p (.str (bs y))]))) (hi:Inv [] l h0) :
  ay TP 302 [.ref .yl id,.ptr nsep 1 0 0,.ptr ns 1 0 0,.ptr nz 1 0 0] h0
   (λr h'=>(r=.ret (.p (.tuple []))/\∃ x,(aF c x).2=none/\Inv' (aN c l) x h')\/∃ v,r=.panic v/\Pan v h'):=by
 refine ax (ai (by kernel_rfl) rfl TF) rfl ?_;obtain ⟨r1,r2,r3⟩:=hrow _ _ _ hi;have hz:(((bs [c]).size:Int)==0)=false:=rfl;simp only [r2,hz,go_sem,simprocAttr]
 refine eF [0,1,2,3] (σ:=List (List UInt8)×List UInt8×Heap)
  (λq=>aN c l=q.1++aN c q.2.1/\Inv q.1 q.2.1 q.2.2/\q.2.1.length<1000000000) (λq=>q.2.1.length)
  (λ_=>[]) (λq=>q.2.2) ([],l,h0) ⟨rfl,hi,hl⟩ rfl ?_ ?_
 .simp only [go_sem,simprocAttr]
 clear r1 r2 r3
 rintro ⟨done,x,h⟩ ⟨e1,e2,e3⟩
 dsimp only at e1 e2 e3;obtain ⟨r1,r2,r3⟩:=hrow _ _ _ e2;have hyy:=hy done x h e1 e2;simp only [r1,r2,go_sem,simprocAttr];refine ae (DQ (bs x) c) rfl ?_;rw [fp];rcases kH c x with ⟨h1,h2,h3⟩ | ⟨r,h1,h2,h3⟩
 .simp only [h3,r1,go_sem,simprocAttr];have hall:aN c l=done++[x]:=by rw [e1,kV h1]
  rw [h2] at hyy;refine oe hyy (λv h' hr=>?_) (λv h' hr=>?_)
  .rcases hr with ⟨hr,hI⟩ | ⟨v',hr,_⟩
   .cases hr;simp only [go_sem,simprocAttr];refine .inl ?_;rw [hall];exact ⟨x,h1,hI⟩
   .cases hr
  .rcases hr with ⟨hr,_⟩ | ⟨v',hr,hP⟩
   .cases hr
   .cases hr;simp only [go_sem,simprocAttr];exact ⟨_,rfl,hP⟩
 .have hlen3:=congrArg List.length h3;simp only [aP,e9] at hlen3;have q1:decide (((aF c x).1.length:Int)<0)=false:=by simp
  have q2:IntKind.i64.wrap (((aF c x).1.length:Int)+0)=(((aF c x).1.length:Nat):Int):=by rw [qk];exact an (by omega) (by omega)
  have q3:(((aF c x).1.length:Int)<=((bs x).size:Int)):=by rw [aw];omega
  have q4:(bs x).extract 0 (aF c x).1.length=bs (aF c x).1:=by
   rw [eo,qM]
   congr 1
   have:=congrArg (List.take (aF c x).1.length) h3;rw [fD] at this
   .exact this
   .rfl
  have q5:IntKind.i64.wrap (((aF c x).1.length:Int)+(((bs [c]).size:Nat):Int))=(((aF c x).1.length+1:Nat):Int):=by
   rw [aw];exact bI (by omega) (by simp [aB];omega) (by simp)
  have q6:((((aF c x).1.length+1:Nat):Int)<=((bs x).size:Int)):=by rw [aw];omega
  have q7:(bs x).extract ((aF c x).1.length+1) (bs x).size=bs r:=by
   rw [eo,aw,oN]
   congr 1
   have:=congrArg (List.drop ((aF c x).1.length+1)) h3;rw [this];simp
  simp only [h2,q1,r1,r3,q2,q3,q4,go_sem,simprocAttr];refine oe hyy (λv h' hr=>?_) (λv h' hr=>?_);rotate_left
  .rcases hr with ⟨hr,_⟩ | ⟨v',hr,hP⟩
   .cases hr
   .cases hr;simp only [go_sem,simprocAttr];exact ⟨_,rfl,hP⟩
  rcases hr with ⟨hr,hI⟩ | ⟨v',hr,_⟩
  rotate_left
  .cases hr
  cases hr;obtain ⟨s1,s2,s3⟩:=hrow' _ _ _ hI;simp only [s1,s2,q5,q6,q7,go_sem,simprocAttr];refine bq (done++[(aF c x).1],r,h'.set ns (.row 1 [.p (.str (bs r))])) ⟨by rw [e1,kU h1];simp,hstep _ _ _ _ hI h1,by show r.length<1000000000;omega⟩ (by show r.length<x.length;omega) rfl ?_;simp only [go_sem,simprocAttr]
theorem zL (a b):∀ acc,Lib.decFrom acc (a++b)=(Lib.decFrom acc a).bind λx=>Lib.decFrom x b:=by
 induction a with
 |nil=>intro acc;rfl
 |cons x r ih =>
  intro acc;rw [gQ,Lib.decFrom,Lib.decFrom]
  cases Lib.digitVal x with
  |none=>rfl
  |some d=>exact ih _
theorem AY {d} (h:d<10):Lib.digitVal (UInt8.ofNat (48+d))=some d:=by
 have e:(UInt8.ofNat (48+d)).toNat=48+d:=by simp;omega
 rw [Lib.digitVal,e,if_pos (by omega)]
 congr 1;omega
theorem wg (n):Lib.decFrom 0 (Lib.decDigits n)=some n:=by
 induction n using Nat.strongRecOn with
 |ind n ih =>
  rw [Lib.decDigits];split
  .rename_i h;simp only [Lib.decFrom,AY h,BL,j3]
  .rename_i h;rw [zL,ih (n / 10) (by omega)];simp only [oK,Lib.decFrom,AY (rZ n (by omega:0<10))]
   congr 1;omega
theorem yH (n):∀ b,b∈Lib.decDigits n->48<=b.toNat/\b.toNat<=57:=by
 induction n using Nat.strongRecOn with
 |ind n ih =>
  intro b hb;rw [Lib.decDigits] at hb;split at hb
  .rename_i h;rw [dR] at hb;subst hb;have e:(UInt8.ofNat (48+n)).toNat=48+n:=by simp;omega
   omega
  .rename_i h;rw [bX,dR] at hb;rcases hb with hb | rfl
   .exact ih (n / 10) (by omega) b hb
   .have e:(UInt8.ofNat (48+n%10)).toNat=48+n%10:=by simp;omega
    omega
theorem uA (n):Lib.decDigits n≠[]:=by rw [Lib.decDigits];split<;>simp
def iK (l:List UInt8):Option Int:=match Lib.atoiAll l with | .ok v=>some v | _=>none
theorem wQ {n} (h0:0<=n) (h1:n<=10000000):iK (bO n)=some n:=by
 obtain ⟨m,rfl⟩:=qL h0;have hl:=nh h0 h1;have hat:Lib.atoi (bO (m:Int))=some (m:Int):=by
  unfold bO;rw [hH];have hd:=yH m;have hf:=wg m
  cases hc:Lib.decDigits m with
  |nil=>exact absurd hc (uA m)
  |cons b r =>
   rw [hc] at hd hf;have hb:=hd b (by simp);have b1:(b==45)=false:=by
    rw [beq_eq_false_iff_ne];rintro rfl;simp at hb
   have b2:(b==43)=false:=by
    rw [beq_eq_false_iff_ne];rintro rfl;simp at hb
   simp only [Lib.atoi,b1,b2,fa,if_false,Lib.decNat,List.isEmpty_cons,hf,mT]
 rw [iK,Lib.atoiAll_short _ (by omega),hat];rfl
def fW:PV:=.iface 43 (.int .i64 6)
theorem Rb (b) (h):ay TP 229 [.p (.bool b)] h (λr h'=>h'=h/\r=if b=true then .ret (.p (.tuple [])) else .panic fW):=by
 refine ax (ai (by kernel_rfl) rfl Nt) rfl ?_;simp only [go_sem,simprocAttr];cases b
 .simp only [fW,go_sem,simprocAttr]
 .simp only [go_sem,simprocAttr]
theorem nw {H} {Q} {ops} {rest} {dst} {A} {b} (h1:b=true->@WO ⟨TP,H,ops,rest,Q⟩ (A.put dst (.p (.tuple [])) A.h))
  (h2:b=false->@WQ ⟨Q⟩ (.panic fW) A):@WF ⟨TP,H,ops,rest,Q,dst⟩ A 229 [.p (.bool b)]:=by
 refine bW (Rb b A.h) (λv h hr=>?_) (λv h hr=>?_)
 .obtain ⟨rfl,hr⟩:=hr;cases b
  .cases hr
  .cases hr;exact h1 rfl
 .obtain ⟨rfl,hr⟩:=hr;cases b
  .cases hr;exact h2 rfl
  .cases hr
theorem RJ:ah TP 229 [.bool true] (.tuple []):=by
 refine aa (ai (by kernel_rfl) rfl Nt) rfl ?_;simp only [go_sem,simprocAttr]
theorem rI {l} {n} (hl:l.length<=1000000) (h:iK l=some n):ah TP 232 [.str (bs l)] (.int .i64 n):=by
 refine aa (ai (by kernel_rfl) rfl Ns) rfl ?_;have hp:jI (bs l)=.tuple [.int .i64 n,.niliface]:=by
  unfold iK at h;rw [jI,fp];cases ha:Lib.atoiAll l<;>rw [ha] at h<;>first | cases h;done | skip
  cases h;rfl
 simp only [go_sem,simprocAttr];refine ae (B0 (bs l) (by rw [aw];omega)) rfl ?_;simp only [hp,go_sem,simprocAttr];refine ae RJ rfl ?_;simp only [go_sem,simprocAttr]
theorem mE {l} (hl:l.length<=1000000) (h:iK l=none) (hp):ay TP 232 [.p (.str (bs l))] hp (λr h'=>r=.panic fW/\h'=hp):=by
 refine ax (ai (by kernel_rfl) rfl Ns) rfl ?_;have hx:∃ v,jI (bs l)=.tuple [.int .i64 v,.iface 309 .any]:=by
  unfold iK at h;rw [jI,fp];cases ha:Lib.atoiAll l<;>rw [ha] at h<;>first | cases h;done | exact ⟨_,rfl⟩
 obtain ⟨v,hx⟩:=hx;simp only [go_sem,simprocAttr];refine ae (B0 (bs l) (by rw [aw];omega)) rfl ?_;simp only [hx,go_sem,simprocAttr];refine nw (λh=>by cases h) (λ_=>?_);simp only [go_sem,simprocAttr]
theorem nx {P} {H} {ops} {rest} {Q} {o} {hs} {A} {f} {args} {pargs} {v} (hc:ah P f pargs v) (ha:args=pargs.map .p)
  (h:@WD ⟨P,H,ops,rest,Q⟩ hs (A.put o.dst (.p v) A.h)):@KI ⟨P,H,ops,rest,Q,o⟩ hs A (.call f args):=by
 subst ha;exact .inl ⟨.p v,λ_ _=>pb hc,h⟩
theorem qI {P} {H} {ops} {rest} {Q} {o} {hs} {A} {f} {args} {v} (hc:ay P f args A.h (λr h'=>r=.panic v/\h'=A.h))
  (h:∀ T,@WQ ⟨Q⟩ (.panic v) { A with tmps:=T }):@KI ⟨P,H,ops,rest,Q,o⟩ hs A (.call f args):=.inr ⟨v,hc,h⟩
end Abs
end Go.Proofs.YtfafnkpfamgbbaaGreatDoor
