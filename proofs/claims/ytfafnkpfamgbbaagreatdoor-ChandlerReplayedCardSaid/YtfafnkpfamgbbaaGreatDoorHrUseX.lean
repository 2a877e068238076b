/-
  CONTRACTS: what follows from the rates of a kind: minutes, a promise, rules, boxes. No con
  CONTRACTS: boxes whose promise can be broken. No conditions but those in the theorems' hea
  CONTRACTS: the text of a test, in the program and in the reference. No conditions but thos
  CONTRACTS: strings.SplitSeq at one byte: the function that it returns, and what a call of 
  CONTRACTS: numbers read out of texts; panics of the reader. No conditions but those in the
-/
import Derived.Test.YtfafnkpfamgbbaaGreatDoorAbsCutX
import Derived.Test.YtfafnkpfamgbbaaGreatDoorStrBldX
import Derived.Test.YtfafnkpfamgbbaaGreatDoorStrLibX
import Derived.Lib.AtoiTie
set_option linter.unusedSimpArgs false
set_option linter.unusedVariables false
open Go.Proofs.Tryz renaming prog->TP
namespace Go.Proofs.YtfafnkpfamgbbaaGreatDoor
namespace Abs
set_option maxRecDepth 4000
structure HrKOk (x:HrK):Prop where
 k:HrKindOk x.k
 lo:0<=x.rates.lo
 le:x.rates.lo<=x.rates.hi
 pos:1<=x.rates.hi
 hi:x.rates.hi<=901800000
def wO (r:Span):Prop:=(r=⟨-1,0⟩)\/(0<=r.lo/\r.lo<=r.hi/\r.hi<=601200000)
theorem J0 {r q} (hr:wO r) (hq:0<=q.lo/\q.lo<=q.hi/\q.hi<=601200000):wO (ki r q):=by
 unfold ki;rcases hr with rfl | hr
 .rw [if_pos (by decide)];exact .inr hq
 .rw [if_neg (by omega)];refine .inr ⟨?_,?_,?_⟩<;>dsimp only<;>split<;>(try split)<;>omega
theorem Fs {nk at'}:∀ {l} {r},cV nk l=0->wO r->wO (rz at' r l)
 |[],_,_,h=>h
 |t::l,r,h,hr=>by
  have h1:=rd h;have h2:cV nk l=0:=by rw [cV] at h;split at h<;>(first | exact h | contradiction)
  rw [rz];refine Fs h2 ?_;split
  .rename_i hc;have hok:=(gz (h1 t (by simp))).1;have:=wi hok;exact J0 hr ⟨this.1,BB hok hc.2,this.2.2.2⟩
  .exact hr
theorem NE {m} {r} (hm:0<=m/\m<=500) (hr:0<=r.lo/\r.lo<=r.hi/\r.hi<=601200000):0<=(fw m r).lo/\(fw m r).lo<=(fw m r).hi/\(fw m r).hi<=901800000:=by
 have e1:0<=(fw m r).lo:=by
  refine (Frac.down_le (f:=⟨r.lo*(1000-m),1000⟩) (by show (0:Int)<1000;decide) 0).2 ?_;have:0<=r.lo*(1000-m):=yk (by omega) (by omega);simpa using this
 have e2:(fw m r).lo<=r.lo:=by
  have:=(Frac.down_le (f:=⟨r.lo*(1000-m),1000⟩) (by show (0:Int)<1000;decide) (fw m r).lo).1 (pZ _);dsimp only at this;have h2:r.lo*(1000-m)<=r.lo*1000:=tJ (by omega) (by omega);omega
 have e3:r.hi<=(fw m r).hi:=by
  have:=(Frac.up_le (f:=⟨r.hi*(1000+m),1000⟩) (by show (0:Int)<1000;decide) (fw m r).hi).1 (pZ _);dsimp only at this;have h2:r.hi*1000<=r.hi*(1000+m):=tJ (by omega) (by omega);omega
 have e4:(fw m r).hi<=901800000:=by
  refine (Frac.up_le (f:=⟨r.hi*(1000+m),1000⟩) (by show (0:Int)<1000;decide) _).2 ?_;dsimp only;have h2:r.hi*(1000+m)<=r.hi*1500:=tJ (by omega) (by omega);omega
 omega
theorem wj {s} {l} {at'} (h:(bv s l at').2=0):HrKOk (bv s l at').1/\dg s l=0/\ar at' 0 ((s.kinds.length:Int)-1)=true /\
  s.kinds[at'.toNat]?=some (bv s l at').1.k/\(bv s l at').1.rates=fw s.margin (eP s l at')/\0<=(eP s l at').lo:=by
 unfold bv at h |-;split at h
 .rename_i h0;have ht:=At h0;rw [if_pos h0];split at h
  .cases h
  .rename_i k hk;split at h
   .cases h
   .rename_i h1;split at h
    .cases h
    .rename_i h2;have hg:ar at' 0 ((s.kinds.length:Int)-1)=true:=by
      cases hg:ar at' 0 ((s.kinds.length:Int)-1) with
      |true=>rfl
      |false=>rw [hg] at hk;cases hk
     rw [if_pos hg] at hk;simp only [hg,hk,if_neg h1,if_neg h2];have hm:=mH ht.1;have hO:wO (eP s l at'):=Fs ht.2.2 (.inl rfl);have hr:=hO.resolve_left (by intro e;rw [e] at h1;exact h1 (by decide));have hw:=NE hm.2.2 hr;refine ⟨⟨pI ht.1 (aL hk),hw.1,hw.2.1,?_,hw.2.2⟩,h0,trivial,trivial,trivial,by omega⟩;dsimp only;omega
 .contradiction
def HrK.least (x:HrK):Frac:=⟨60*(x.k.weight.lo-x.k.rest),x.rates.hi⟩
def HrK.most (x:HrK):Frac:=if 0<x.rates.lo then ⟨60*(x.k.weight.hi-x.k.rest),x.rates.lo⟩ else ⟨-1,1⟩
theorem So (x) (hx:HrKOk x):ah TP 292 [x.pv] (.tuple [x.least.pv,x.most.pv]):=by
 have hk:=hx.k;have h1:=hk.lo;have h2:=hk.le;have h3:=hk.hi;have h4:=hk.rest;have h5:=hk.less
 refine aa (ai (by kernel_rfl) rfl WI) rfl ?_;have w1:IntKind.i64.wrap (x.k.weight.lo-x.k.rest)=x.k.weight.lo-x.k.rest:=ax (by omega) (by omega);have w2:IntKind.i64.wrap (60*(x.k.weight.lo-x.k.rest))=60*(x.k.weight.lo-x.k.rest):=ax (by omega) (by omega);have w3:IntKind.i64.wrap (x.k.weight.hi-x.k.rest)=x.k.weight.hi-x.k.rest:=ax (by omega) (by omega);have w4:IntKind.i64.wrap (60*(x.k.weight.hi-x.k.rest))=60*(x.k.weight.hi-x.k.rest):=ax (by omega) (by omega);simp only [w1,w2,go_sem,simprocAttr];cases hp:decide (0<x.rates.lo)
 .have hp':¬ 0<x.rates.lo:=by simpa using hp
  simp only [PJ,bj,HrK.least,HrK.most,if_neg hp',go_sem,simprocAttr]
 .have hp':0<x.rates.lo:=by simpa using hp
  simp only [w3,w4,PJ,bj,HrK.least,HrK.most,if_pos hp',go_sem,simprocAttr]
def HrK.promise (x:HrK):Int:=if Frac.down ⟨x.least.top,x.least.below*60⟩<16666 then Frac.down ⟨x.least.top,x.least.below*60⟩ else 16666
theorem HrKOk.leastB {x} (hx:HrKOk x):60<=x.least.top/\x.least.top<=600000000/\1<=x.least.below/\x.least.below<=901800000:=by
 have hk:=hx.k;have h1:=hk.lo;have h2:=hk.le;have h3:=hk.hi;have h4:=hk.rest;have h5:=hk.less;have h6:=hx.pos;have h7:=hx.hi
 simp only [HrK.least];omega
theorem HrKOk.mostB {x} (hx:HrKOk x):-1<=x.most.top/\x.most.top<=600000000/\1<=x.most.below/\x.most.below<=901800000:=by
 have hk:=hx.k;have h1:=hk.lo;have h2:=hk.le;have h3:=hk.hi;have h4:=hk.rest;have h5:=hk.less;have h6:=hx.le;have h7:=hx.hi
 simp only [HrK.most];split<;>dsimp only<;>omega
theorem Db (x) (hx:HrKOk x):ah TP 259 [x.pv] (.int .i64 x.promise):=by
 have hb:=hx.leastB;refine aa (ai (by kernel_rfl) rfl Xe) rfl ?_;simp only [go_sem,simprocAttr];refine ae (So x hx) rfl ?_;have w1:IntKind.i64.wrap (x.least.below*60)=x.least.below*60:=ax (by omega) (by omega);simp only [w1,go_sem,simprocAttr];refine ae (lV ⟨x.least.top,x.least.below*60⟩ (by show 0<x.least.below*60;omega) (by show _<=x.least.top;omega) (by show x.least.top<=_;omega)) rfl ?_;simp only [HrK.promise,go_sem,simprocAttr]
def HrK.short (x:HrK) (r:HrRule):Bool:=x.least.lt ⟨r.minutes.lo,1⟩
def HrK.long (x:HrK) (r:HrRule):Bool:=decide (x.most.top<0)||Frac.lt ⟨r.minutes.hi,1⟩ x.most
def HrK.size (x:HrK) (r:HrRule):Bool:=!ar x.k.weight.lo r.weight.lo r.weight.hi||!ar x.k.weight.hi r.weight.lo r.weight.hi
def ep (s:HrShop) (l:List HrTest) (at':Int):Int×Int:=if (bv s l at').2=0 then ((bv s l at').1.promise,0) else (0,(bv s l at').2)
theorem O4 (s) (l) (at'):ah TP 189 [s.pv,.slice 3 (l.map HrTest.pv) false,.int .i64 at'] (.tuple [.int .i64 (ep s l at').1,.int .i64 (ep s l at').2]):=by
 refine aa (ai (by kernel_rfl) rfl X1) rfl ?_;simp only [go_sem,simprocAttr];refine ae (Kz s l at') rfl ?_;simp only [go_sem,simprocAttr];cases h0:((bv s l at').2 != 0)
 .have h0':(bv s l at').2=0:=by simpa using h0
  simp only [go_sem,simprocAttr];refine ae (Db _ (wj h0').1) rfl ?_;simp only [ep,if_pos h0',go_sem,simprocAttr]
 .have h0':¬ (bv s l at').2=0:=by simpa using h0
  simp only [ep,if_neg h0',go_sem,simprocAttr]
def HrK.minutes (x:HrK):Span:=⟨if x.least.down<1000000 then x.least.down else 1000000,if ar x.most.up 0 1000000=true then x.most.up else 1000000⟩
def HrK.fits (x:HrK) (r:HrRule):Int:=if x.short r=true then 1 else if x.long r=true then 2 else if x.size r=true then 3 else 0
def Im (p:Int×Int):PV×PV:=(.int .i64 p.1,.int .i64 p.2)
def kh (k:Int):List (Int×Int)->Option Int
 |[]=>none
 |(q,v)::r=>if k=q then some v else kh k r
theorem Ab (k):∀ es,lk (.int .i64 k) (es.map Im)=some ((kh k es).map λv=>.int .i64 v)
 |[]=>rfl
 |(q,v)::r=>by
  rw [bB,lk.eq_def];simp only [Im,jI,if_true];cases h:(k==q)
  .rw [kh,if_neg (by simpa using h)];exact Ab k r
  .rw [kh,if_pos (by simpa using h)];rfl
theorem Aa (k v):∀ es,kh k es=none->nP (.int .i64 k) (.int .i64 v) (es.map Im)=some ((es++[(k,v)]).map Im)
 |[],_=>rfl
 |(q,u)::r,h=>by
  rw [kh] at h;split at h
  .cases h
  .rename_i hne;rw [bB,nP.eq_def];simp only [Im,jI,if_true];rw [show (k==q)=false by simpa using hne];dsimp only;rw [Aa k v r h];rfl
theorem vT (k) (a):∀ es,kh k (es++[a])=(kh k es).or (if k=a.1 then some a.2 else none)
 |[]=>by simp [kh]
 |(q,u)::r=>by
  rw [hG,kh,kh];split
  .rfl
  .exact vT k a r
def pV (s:HrShop) (l:List HrTest) (b:HrBox):Int :=
 if ar b.kind 0 ((s.kinds.length:Int)-1)=true then (if ar b.hours 0 1000000=true then (bv s l b.kind).2 else 7) else 4
def cO (s:HrShop) (l:List HrTest):Nat->List HrBox->List Int×Int
 |_,[]=>([],0)
 |i,b::r =>
  if pV s l b=0 then
   (if (cO s l (i+1) r).2=0 then ((if (bv s l b.kind).1.promise<b.hours then [(i:Int)] else [])++(cO s l (i+1) r).1,0) else ([],(cO s l (i+1) r).2))
  else ([],pV s l b)
def cz (s:HrShop) (l:List HrTest) (boxes:List HrBox):List Int×Int :=
 if dg s l=0 then (if 20<boxes.length then ([],3) else cO s l 0 boxes) else ([],dg s l)
def kl (out:List Int) (q:List Int×Int):List Int×Int:=if q.2=0 then (out++q.1,0) else ([],q.2)
theorem yR {s} {l} {out} {i} {b} {r} {e} (h:pV s l b=e) (he:e≠0):kl out (cO s l i (b::r))=([],e):=by
 rw [cO,h,if_neg he,kl,if_neg he]
theorem Iy {s} {l} {out} {i} {b} {r} (h:pV s l b=0) :
  kl out (cO s l i (b::r))=kl (out++(if (bv s l b.kind).1.promise<b.hours then [(i:Int)] else [])) (cO s l (i+1) r):=by
 rw [cO,if_pos h];by_cases h2:(cO s l (i+1) r).2=0
 .rw [if_pos h2,kl,kl,if_pos rfl,if_pos h2,cE]
 .rw [if_neg h2,kl,kl,if_neg h2,if_neg h2]
theorem JZ (s) (l):bv s l (-1)=(⟨ly,⟨0,0⟩⟩,if dg s l=0 then 4 else dg s l):=by
 rw [bv];split
 .rw [show ar (-1) 0 ((s.kinds.length:Int)-1)=false by simp [ar]];rfl
 .rfl
theorem I5 {P} {H} {ops} {rest} {Q} {o} {A} {f} {args} {v} {h'} (hc:aC P f args A.h (λr h=>r=.ret v/\h=h'))
  (h1:@WD ⟨P,H,ops,rest,Q⟩ (A.put o.dst v h').h (A.put o.dst v h')):@No ⟨P,H,ops,rest,Q,o⟩ A (.call f args) :=
 hc.mono λr h hr=>by
  obtain ⟨rfl,rfl⟩:=hr;exact h1
def bH (n:Int):List UInt8:=Lib.decDigits n.toNat
theorem uH:∀ (k n),n<10^(k+1)->(Lib.decDigits n).length<=k+1
 |0,n,h=>by rw [Lib.decDigits,dif_pos (by simpa using h)];simp
 |k+1,n,h=>by
  rw [Lib.decDigits];split
  .simp
  .have:=uH k (n / 10) (by rw [Nat.pow_succ] at h;omega);simp;omega
theorem nn {n} (_:0<=n) (h1:n<=10000000):(bH n).length<=8:=uH 7 _ (by omega)
theorem mW {n} (h0:0<=n):An n=bs (bH n):=by
 have:Lib.itoa n=bH n:=by rw [Lib.itoa,if_neg (by omega)];rfl
 rw [An,this];rfl
def sk:List UInt8:=[116,101,115,116,32]
def sp:List UInt8:=[32]
def nl:List UInt8:=[10]
def mb (nm:List UInt8) (e:Int):List UInt8:=sk++nm++sp++bH e++nl
def jh (m:HrMark):List UInt8:=bH m.minute++sp++bH m.weight++nl
def iK (s:HrShop) (t:HrTest):List UInt8:=mb (((s.kinds[t.kind.toNat]?).map λk=>k.name.data.toList).getD []) t.error++(t.marks.map jh).flatten
theorem JU {b} (h:nameOk b=true):b.size<=20:=by
 unfold nameOk at h;simp at h;omega
theorem kD (a b):gH a++gH b=gH (a++b):=by
 have:(a++b).data.toList=a.data.toList++b.data.toList:=by simp
 unfold gH;rw [this,bA]
theorem xT {h} {i} {s} (hi:h[i]?=some (.bld 84 5 (.p .nilslice))) (hs:s.size<=1000000) (h0:s.size≠0) :
  aC TP 24 [.ref .bl i,.p (.str s)] h (λr h'=>r=.ret (.p (.tuple [.int .i64 s.size,.niliface])) /\
   h'=(h++[AObj.row 1 (gH s)]).set i (.bld 84 5 (.slice h.length s.size 0 s.size))):=by
 have hil:=(aE.1 hi).1;refine CU (x':=.slice h.length s.size 0 s.size) hi (by simp [aw];omega) (.inl rfl) ?_ (by rw [be hil];exact hi) (.inr ⟨_,_,rfl⟩);have hne:¬ (List.map (λb:UInt8=>AV.p (PV.int .u8 (b.toNat:Int))) s.data.toList=[]):=λh=>h0 (by have:=congrArg List.length h;simpa using this);have hrm:s.size<=aw:=by simp [aw];omega
 have hl:s.data.size=s.size:=rfl;simp only [hne,hrm,yj,hl,gH,go_sem,simprocAttr];rw [if_neg (by simp)]
theorem nW {h} {i j n} {xs} {s} (hi:h[i]?=some (.bld 84 5 (.slice j n 0 n))) (hj:h[j]?=some (.row 1 xs)) (hn:xs.length=n) (hij:i≠j) (hs:n+s.size<=1000000) :
  aC TP 24 [.ref .bl i,.p (.str s)] h (λr h'=>r=.ret (.p (.tuple [.int .i64 s.size,.niliface])) /\
   h'=(h.set j (.row 1 (xs++gH s))).set i (.bld 84 5 (.slice j (n+s.size) 0 (n+s.size)))):=by
 refine CU (x':=.slice j (n+s.size) 0 (n+s.size)) hi (by simp [aw];omega) (.inr ⟨j,n,xs,rfl,hj,hn,by simp [aw];omega⟩) ?_ (by rw [d5 hij.symm];exact hi) (.inr ⟨_,_,rfl⟩);have hrm:n+s.size<=aw:=by simp [aw];omega
 have hl:s.data.size=s.size:=rfl;simp only [hj,hn,hrm,yj,hl,gH,go_sem,simprocAttr];rw [if_neg (by simp)]
set_option maxHeartbeats 2000000 in
theorem Zs (s) (t) (hc:(hrCheck s).2.2=0) (ht:b9 s.kinds.length t=0):ah TP 236 [s.pv,t.pv] (.str (bs (iK s t))):=by
 obtain ⟨hok,k0,k1⟩:=gz ht;obtain ⟨n,hn⟩:=p4 k0;have hnl:n<s.kinds.length:=by omega
 obtain ⟨k,hk⟩:∃ k,s.kinds[n]?=some k:=⟨_,bE hnl⟩
 have hko:=pI hc (aL hk);have hks:=JU hko.name;obtain ⟨nm,hnm⟩:∃ nm,k.name=bs nm:=⟨_,(tr _).symm⟩
 have hsp:iK s t=mb nm t.error++(t.marks.map jh).flatten:=by rw [iK,hn,iH,hk,lD,fX,hnm,gq]
 rw [hnm,aq] at hks;have hlt:(n:Int)<(s.kinds.length:Int):=by omega
 have he:=hok.err;have hel:=nn he.1 (by omega);have hit:=mW he.1;have l1:sk.length=5:=rfl;have l2:sp.length=1:=rfl;have l3:nl.length=1:=rfl;have r1:(bs sk).size+(bs nm).size<=dP:=by simp [aq,dP,l1];omega
 have r2:(bs (sk++nm)).size+(bs sp).size<=dP:=by simp [aq,dP,l1,l2];omega
 have r3:(bs (sk++nm++sp)).size+(bs (bH t.error)).size<=dP:=by simp [aq,dP,l1,l2];omega
 have r4:(bs (sk++nm++sp++bH t.error)).size+(bs nl).size<=dP:=by simp [aq,dP,l1,l2,l3];omega
 have c1:(⟨#[116,101,115,116,32]⟩:ByteArray)=bs sk:=rfl;have c2:(⟨#[32]⟩:ByteArray)=bs sp:=rfl;have c3:(⟨#[10]⟩:ByteArray)=bs nl:=rfl;have hA:sk++nm++sp++bH t.error++nl=mb nm t.error:=rfl;have hAl:(mb nm t.error).length<=40:=by simp [mb,l1,l2,l3];omega
 have hA0:(mb nm t.error).length≠0:=by simp [mb,l1]
 generalize mb nm t.error=A at hsp hA hAl hA0;refine aa (ai (by kernel_rfl) rfl Xt) rfl ?_;simp only [Vq,bj,hn,hlt,hk,hnm,c1,c2,c3,r1,r2,gI,go_sem,simprocAttr];refine aD (xy t.error (by omega) (by omega)) rfl ?_;simp only [hit,r3,r4,gI,hA,go_sem,simprocAttr];refine I5 (xT (s:=bs A) rfl (by rw [aq];omega) (by rw [aq];exact hA0)) ?_;simp only [aq,go_sem,simprocAttr]
 refine dZ [5,24,25] (σ:=List HrMark×List HrMark×List UInt8×Heap)
  (λq=>t.marks=q.1++q.2.1/\iK s t=q.2.2.1++(q.2.1.map jh).flatten/\q.2.2.1.length<=40+18*q.1.length/\q.2.2.1.length≠0) (λq=>q.2.1.length)
  (λq=>[(26,.p (.int .i64 q.1.length))])
  (λq=>[.row 3 [.p s.pv],.row 3 [.p t.pv],.bld 84 5 (.slice 3 q.2.2.1.length 0 q.2.2.1.length),.row 1 (gH (bs q.2.2.1))]++q.2.2.2) ([],t.marks,A,[]) ⟨rfl,hsp,hAl,hA0⟩ (by simp only [hn,aW,go_sem,simprocAttr]) ?_ ?_
 .simp only [go_sem,simprocAttr]
 rintro ⟨done,rest,acc,g⟩ ⟨e1,e2,e3,e4⟩
 dsimp only at e1 e2 e3 e4
 cases rest with
 |nil =>
  have hlt2:¬ ((done.length:Int)<(t.marks.length:Int)):=by rw [e1];simp
  rw [cm,List.flatten_nil,aW] at e2;have hml:=hok.len;have hdl:=congrArg List.length e1;simp only [aI,ei] at hdl;simp only [hlt2,decide_false,go_sem,simprocAttr];have hsz:=aq acc;refine cy (uz (j:=3) (s:=bs acc) (by rw [hsz];rfl) rfl (by rw [hsz];exact e4) (by rw [hsz];omega)) ?_;simp only [go_sem,simprocAttr]
  rw [e2]
 |cons m rest =>
  obtain ⟨hx,hltt⟩:=de e1;have hml:=hok.len;have hdl:=congrArg List.length e1;simp only [aI,ct] at hdl;have hnx:IntKind.i64.wrap ((done.length:Int)+1)=(((done++[m]).length:Nat):Int):=ba (by omega) (by simp [aw];omega) (by simp);have hm:=hok.all m (by rw [e1];simp);have hd1:=nn hm.1 (by omega);have hd2:=nn hm.2.2.1 (by omega);have i1:=mW hm.1;have i2:=mW hm.2.2.1;have q1:(bs (bH m.minute)).size+(bs sp).size<=dP:=by simp [aq,dP,l2];omega
  have q2:(bs (bH m.minute++sp)).size+(bs (bH m.weight)).size<=dP:=by simp [aq,dP,l2];omega
  have q3:(bs (bH m.minute++sp++bH m.weight)).size+(bs nl).size<=dP:=by simp [aq,dP,l2,l3];omega
  have hB:bH m.minute++sp++bH m.weight++nl=jh m:=rfl;have hBl:(jh m).length<=18:=by simp [jh,l2,l3];omega
  rw [bB,Ek] at e2;have g0:=lq (lo:=g) rfl;have s0:=nV (lo:=g) rfl;simp only [hltt,decide_true,hx,g0,s0,bj,aW,go_sem,simprocAttr];refine aD (xy m.minute (by omega) (by omega)) rfl ?_;simp only [i1,q1,gI,g0,aW,go_sem,simprocAttr];refine aD (xy m.weight (by omega) (by omega)) rfl ?_;simp only [i2,q2,q3,gI,hB,aW,go_sem,simprocAttr];refine I5 (nW (s:=bs (jh m)) (j:=3) rfl rfl (by rw [kn,aq]) (by decide) (by rw [aq];omega)) ?_;simp only [aq,kD,gI,go_sem,simprocAttr];refine aZ (done++[m],rest,acc++jh m,g++[.row 2 [.p m.pv]]) ⟨by rw [e1];simp,by rw [e2];simp,by show (acc++jh m).length<=40+18*(done++[m]).length;simp only [aI,bh];omega,by show (acc++jh m).length≠0;simp only [aI];omega⟩ (j3 _) (by simp only [aI,go_sem,simprocAttr]) ?_;simp only [hnx,go_sem,simprocAttr]
theorem Kf (l) (c) (h):aC TP 277 [.p (.str (bs l)),.p (.str (bs [c])),.p (.int .i64 0)] h
  (λr h'=>r=.ret (.func (.func 302) [] [.ptr (h.length+1) 1 0 0,.ptr h.length 1 0 0,.ptr (h.length+2) 1 0 0]) /\
   h'=h++[.row 1 [.p (.str (bs l))],.row 1 [.p (.str (bs [c]))],.row 1 [.p (.int .i64 0)]]):=by
 refine aB (ai (by kernel_rfl) rfl WZ) rfl ?_;simp only [cE,aI,bh,go_sem,simprocAttr]
theorem Mn (l) (c) (h):aC TP 233 [.p (.str (bs l)),.p (.str (bs [c]))] h
  (λr h'=>r=.ret (.func (.func 302) [] [.ptr (h.length+1) 1 0 0,.ptr h.length 1 0 0,.ptr (h.length+2) 1 0 0]) /\
   h'=h++[.row 1 [.p (.str (bs l))],.row 1 [.p (.str (bs [c]))],.row 1 [.p (.int .i64 0)]]):=by
 refine aB (ai (by kernel_rfl) rfl Xw) rfl ?_;simp only [go_sem,simprocAttr];refine cy (Kf l c h) ?_;simp only [go_sem,simprocAttr]
def I6 (c:UInt8) (ns nsep nz:Nat) (x:List UInt8) (h:Heap):Prop :=
 h[ns]?=some (.row 1 [.p (.str (bs x))])/\h[nsep]?=some (.row 1 [.p (.str (bs [c]))])/\h[nz]?=some (.row 1 [.p (.int .i64 0)])
set_option maxHeartbeats 1000000 in
theorem T5 (l) (c) (hl:l.length<1000000000) (id ns nsep nz) (h0) (Inv Inv':List (List UInt8)->List UInt8->Heap->Prop) (Pan:PV->Heap->Prop)
  (hrow:∀ done x h,Inv done x h->I6 c ns nsep nz x h) (hrow':∀ done x h,Inv' done x h->I6 c ns nsep nz x h)
  (hy:∀ done x h,aJ c l=done++aJ c x->Inv done x h->sT TP id [.p (.str (bs (aH c x).1))] h (λr h'=>(r=.ret (.p (.bool true))/\Inv' (done++[(aH c x).1]) x h')\/∃ v,r=.panic v/\Pan v h'))
  (hstep:∀ done x y h,Inv' done x h->(aH c x).2=some y->Inv done y (h.set ns (.row 1 [.p (.str (bs y))]))) (hi:Inv [] l h0) :
  aC TP 302 [.ref .yl id,.ptr nsep 1 0 0,.ptr ns 1 0 0,.ptr nz 1 0 0] h0
   (λr h'=>(r=.ret (.p (.tuple []))/\∃ x,(aH c x).2=none/\Inv' (aJ c l) x h')\/∃ v,r=.panic v/\Pan v h'):=by
 refine aB (ai (by kernel_rfl) rfl Ww) rfl ?_;obtain ⟨r1,r2,r3⟩:=hrow _ _ _ hi;have hz:(((bs [c]).size:Int)==0)=false:=rfl;simp only [r2,hz,go_sem,simprocAttr]
 refine dZ [0,1,2,3] (σ:=List (List UInt8)×List UInt8×Heap)
  (λq=>aJ c l=q.1++aJ c q.2.1/\Inv q.1 q.2.1 q.2.2/\q.2.1.length<1000000000) (λq=>q.2.1.length)
  (λ_=>[]) (λq=>q.2.2) ([],l,h0) ⟨rfl,hi,hl⟩ rfl ?_ ?_
 .simp only [go_sem,simprocAttr]
 clear r1 r2 r3
 rintro ⟨done,x,h⟩ ⟨e1,e2,e3⟩
 dsimp only at e1 e2 e3;obtain ⟨r1,r2,r3⟩:=hrow _ _ _ e2;have hyy:=hy done x h e1 e2;simp only [r1,r2,go_sem,simprocAttr];refine ae (F8 (bs x) c) rfl ?_;rw [gq];rcases jV c x with ⟨h1,h2,h3⟩ | ⟨r,h1,h2,h3⟩
 .simp only [h3,r1,go_sem,simprocAttr];have hall:aJ c l=done++[x]:=by rw [e1,l6 h1]
  rw [h2] at hyy;refine pX hyy (λv h' hr=>?_) (λv h' hr=>?_)
  .rcases hr with ⟨hr,hI⟩ | ⟨v',hr,_⟩
   .cases hr;simp only [go_sem,simprocAttr];refine .inl ?_;rw [hall];exact ⟨x,h1,hI⟩
   .cases hr
  .rcases hr with ⟨hr,_⟩ | ⟨v',hr,hP⟩
   .cases hr
   .cases hr;simp only [go_sem,simprocAttr];exact ⟨_,rfl,hP⟩
 .have hlen3:=congrArg List.length h3;simp only [aI,ct] at hlen3;have q1:decide (((aH c x).1.length:Int)<0)=false:=by simp
  have q2:IntKind.i64.wrap (((aH c x).1.length:Int)+0)=(((aH c x).1.length:Nat):Int):=by rw [vb];exact ax (by omega) (by omega)
  have q3:(((aH c x).1.length:Int)<=((bs x).size:Int)):=by rw [aq];omega
  have q4:(bs x).extract 0 (aH c x).1.length=bs (aH c x).1:=by
   rw [cZ,nq]
   congr 1
   have:=congrArg (List.take (aH c x).1.length) h3;rw [d9] at this
   .exact this
   .rfl
  have q5:IntKind.i64.wrap (((aH c x).1.length:Int)+(((bs [c]).size:Nat):Int))=(((aH c x).1.length+1:Nat):Int):=by
   rw [aq];exact ba (by omega) (by simp [aw];omega) (by simp)
  have q6:((((aH c x).1.length+1:Nat):Int)<=((bs x).size:Int)):=by rw [aq];omega
  have q7:(bs x).extract ((aH c x).1.length+1) (bs x).size=bs r:=by
   rw [cZ,aq,qW]
   congr 1
   have:=congrArg (List.drop ((aH c x).1.length+1)) h3;rw [this];simp
  simp only [h2,q1,r1,r3,q2,q3,q4,go_sem,simprocAttr];refine pX hyy (λv h' hr=>?_) (λv h' hr=>?_);rotate_left
  .rcases hr with ⟨hr,_⟩ | ⟨v',hr,hP⟩
   .cases hr
   .cases hr;simp only [go_sem,simprocAttr];exact ⟨_,rfl,hP⟩
  rcases hr with ⟨hr,hI⟩ | ⟨v',hr,_⟩
  rotate_left
  .cases hr
  cases hr;obtain ⟨s1,s2,s3⟩:=hrow' _ _ _ hI;simp only [s1,s2,q5,q6,q7,go_sem,simprocAttr];refine aZ (done++[(aH c x).1],r,h'.set ns (.row 1 [.p (.str (bs r))])) ⟨by rw [e1,l5 h1];simp,hstep _ _ _ _ hI h1,by show r.length<1000000000;omega⟩ (by show r.length<x.length;omega) rfl ?_;simp only [go_sem,simprocAttr]
theorem th (a b):∀ acc,Lib.decFrom acc (a++b)=(Lib.decFrom acc a).bind λx=>Lib.decFrom x b:=by
 induction a with
 |nil=>intro acc;rfl
 |cons x r ih =>
  intro acc;rw [hG,Lib.decFrom,Lib.decFrom]
  cases Lib.digitVal x with
  |none=>rfl
  |some d=>exact ih _
theorem C4 {d} (h:d<10):Lib.digitVal (UInt8.ofNat (48+d))=some d:=by
 have e:(UInt8.ofNat (48+d)).toNat=48+d:=by simp;omega
 rw [Lib.digitVal,e,if_pos (by omega)]
 congr 1;omega
theorem sN (n):Lib.decFrom 0 (Lib.decDigits n)=some n:=by
 induction n using Nat.strongRecOn with
 |ind n ih =>
  rw [Lib.decDigits];split
  .rename_i h;simp only [Lib.decFrom,C4 h,Ji,jv]
  .rename_i h;rw [th,ih (n / 10) (by omega)];simp only [iO,Lib.decFrom,C4 (ym n (by omega:0<10))]
   congr 1;omega
theorem qG (n):∀ b,b∈Lib.decDigits n->48<=b.toNat/\b.toNat<=57:=by
 induction n using Nat.strongRecOn with
 |ind n ih =>
  intro b hb;rw [Lib.decDigits] at hb;split at hb
  .rename_i h;rw [fT] at hb;subst hb;have e:(UInt8.ofNat (48+n)).toNat=48+n:=by simp;omega
   omega
  .rename_i h;rw [ea,fT] at hb;rcases hb with hb | rfl
   .exact ih (n / 10) (by omega) b hb
   .have e:(UInt8.ofNat (48+n%10)).toNat=48+n%10:=by simp;omega
    omega
theorem lz (n):Lib.decDigits n≠[]:=by rw [Lib.decDigits];split<;>simp
def jB (l:List UInt8):Option Int:=match Lib.atoiAll l with | .ok v=>some v | _=>none
theorem uk {n} (h0:0<=n) (h1:n<=10000000):jB (bH n)=some n:=by
 obtain ⟨m,rfl⟩:=p4 h0;have hl:=nn h0 h1;have hat:Lib.atoi (bH (m:Int))=some (m:Int):=by
  unfold bH;rw [iH];have hd:=qG m;have hf:=sN m
  cases hc:Lib.decDigits m with
  |nil=>exact absurd hc (lz m)
  |cons b r =>
   rw [hc] at hd hf;have hb:=hd b (by simp);have b1:(b==45)=false:=by
    rw [beq_eq_false_iff_ne];rintro rfl;simp at hb
   have b2:(b==43)=false:=by
    rw [beq_eq_false_iff_ne];rintro rfl;simp at hb
   simp only [Lib.atoi,b1,b2,fA,if_false,Lib.decNat,List.isEmpty_cons,hf,lD]
 rw [jB,Lib.atoiAll_short _ (by omega),hat];rfl
def gT:PV:=.iface 43 (.int .i64 6)
theorem T9 (b) (h):aC TP 229 [.p (.bool b)] h (λr h'=>h'=h/\r=if b=true then .ret (.p (.tuple [])) else .panic gT):=by
 refine aB (ai (by kernel_rfl) rfl P8) rfl ?_;simp only [go_sem,simprocAttr];cases b
 .simp only [gT,go_sem,simprocAttr]
 .simp only [go_sem,simprocAttr]
theorem oS {H} {Q} {ops} {rest} {dst} {A} {b} (h1:b=true->@WO ⟨TP,H,ops,rest,Q⟩ (A.put dst (.p (.tuple [])) A.h))
  (h2:b=false->@WQ ⟨Q⟩ (.panic gT) A):@WF ⟨TP,H,ops,rest,Q,dst⟩ A 229 [.p (.bool b)]:=by
 refine cq (T9 b A.h) (λv h hr=>?_) (λv h hr=>?_)
 .obtain ⟨rfl,hr⟩:=hr;cases b
  .cases hr
  .cases hr;exact h1 rfl
 .obtain ⟨rfl,hr⟩:=hr;cases b
  .cases hr;exact h2 rfl
  .cases hr
theorem UI:ah TP 229 [.bool true] (.tuple []):=by
 refine aa (ai (by kernel_rfl) rfl P8) rfl ?_;simp only [go_sem,simprocAttr]
theorem tq {l} {n} (hl:l.length<=1000000) (h:jB l=some n):ah TP 232 [.str (bs l)] (.int .i64 n):=by
 refine aa (ai (by kernel_rfl) rfl P7) rfl ?_;have hp:kE (bs l)=.tuple [.int .i64 n,.niliface]:=by
  unfold jB at h;rw [kE,gq];cases ha:Lib.atoiAll l<;>rw [ha] at h<;>first | cases h;done | skip
  cases h;rfl
 simp only [go_sem,simprocAttr];refine ae (Ed (bs l) (by rw [aq];omega)) rfl ?_;simp only [hp,go_sem,simprocAttr];refine ae UI rfl ?_;simp only [go_sem,simprocAttr]
theorem nX {l} (hl:l.length<=1000000) (h:jB l=none) (hp):aC TP 232 [.p (.str (bs l))] hp (λr h'=>r=.panic gT/\h'=hp):=by
 refine aB (ai (by kernel_rfl) rfl P7) rfl ?_;have hx:∃ v,kE (bs l)=.tuple [.int .i64 v,.iface 309 .any]:=by
  unfold jB at h;rw [kE,gq];cases ha:Lib.atoiAll l<;>rw [ha] at h<;>first | cases h;done | exact ⟨_,rfl⟩
 obtain ⟨v,hx⟩:=hx;simp only [go_sem,simprocAttr];refine ae (Ed (bs l) (by rw [aq];omega)) rfl ?_;simp only [hx,go_sem,simprocAttr];refine oS (λh=>by cases h) (λ_=>?_);simp only [go_sem,simprocAttr]
theorem oT {P} {H} {ops} {rest} {Q} {o} {hs} {A} {f} {args} {pargs} {v} (hc:ah P f pargs v) (ha:args=pargs.map .p)
  (h:@WD ⟨P,H,ops,rest,Q⟩ hs (A.put o.dst (.p v) A.h)):@Nk ⟨P,H,ops,rest,Q,o⟩ hs A (.call f args):=by
 subst ha;exact .inl ⟨.p v,λ_ _=>qE hc,h⟩
theorem sw {P} {H} {ops} {rest} {Q} {o} {hs} {A} {f} {args} {v} (hc:aC P f args A.h (λr h'=>r=.panic v/\h'=A.h))
  (h:∀ T,@WQ ⟨Q⟩ (.panic v) { A with tmps:=T }):@Nk ⟨P,H,ops,rest,Q,o⟩ hs A (.call f args):=.inr ⟨v,hc,h⟩
end Abs
end Go.Proofs.YtfafnkpfamgbbaaGreatDoor
