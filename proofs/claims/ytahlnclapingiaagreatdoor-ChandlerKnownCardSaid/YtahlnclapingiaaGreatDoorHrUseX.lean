/-
  CONTRACTS: what follows from the rates of a kind: minutes, a promise, rules, boxes. No con
  CONTRACTS: boxes whose promise can be broken. No conditions but those in the theorems' hea
  CONTRACTS: the text of a test, in the program and in the reference. No conditions but thos
  CONTRACTS: strings.SplitSeq at one byte: the function that it returns, and what a call of 
  CONTRACTS: numbers read out of texts; panics of the reader. No conditions but those in the
-/
import Derived.Test.YtahlnclapingiaaGreatDoorStrBldX
import Derived.Test.YtahlnclapingiaaGreatDoorHrShelfX
import Derived.Lib.AtoiTie
set_option linter.unusedSimpArgs false
set_option linter.unusedVariables false
namespace Go.Proofs.YtahlnclapingiaaGreatDoor
namespace Abs
set_option maxRecDepth 4000
structure HrKOk (x:HrK):Prop where
 k:HrKindOk x.k
 lo:0≤x.rates.lo
 le:x.rates.lo≤x.rates.hi
 pos:1≤x.rates.hi
 hi:x.rates.hi≤901800000
def znn (r:Span):Prop:=(r=⟨-1,0⟩)∨(0≤r.lo∧r.lo≤r.hi∧r.hi≤601200000)
theorem zxm {r q:Span} (hr:znn r) (hq:0≤q.lo∧q.lo≤q.hi∧q.hi≤601200000):znn (zfp r q):=by
 unfold zfp
 rcases hr with rfl | hr
 ·rw [if_pos (by decide)];exact .inr hq
 ·rw [if_neg (by omega)]
  refine .inr ⟨?_,?_,?_⟩<;>dsimp only<;>split<;>(try split)<;>omega
theorem ztv {nk at':Int}:∀ {l:List HrTest} {r:Span},zby nk l=0→znn r→znn (zjS at' r l)
 |[],_,_,h=>h
 |t::l,r,h,hr=>by
  have h1:=zjE h
  have h2:zby nk l=0:=by rw [zby] at h;split at h<;>(first | exact h | contradiction)
  rw [zjS]
  refine ztv h2 ?_
  split
  ·rename_i hc
   have hok:=(zdv (h1 t (by simp))).1
   have:=zmX hok
   exact zxm hr ⟨this.1,zqC hok hc.2,this.2.2.2⟩
  ·exact hr
theorem zAr {m:Int} {r:Span} (hm:0≤m∧m≤500) (hr:0≤r.lo∧r.lo≤r.hi∧r.hi≤601200000):0≤(zc0 m r).lo∧(zc0 m r).lo≤(zc0 m r).hi∧(zc0 m r).hi≤901800000:=by
 have e1:0≤(zc0 m r).lo:=by
  refine (Frac.down_le (f:=⟨r.lo*(1000-m),1000⟩) (by show (0:Int)<1000;decide) 0).2 ?_
  have:0≤r.lo*(1000-m):=Int.mul_nonneg (by omega) (by omega)
  simpa using this
 have e2:(zc0 m r).lo≤r.lo:=by
  have:=(Frac.down_le (f:=⟨r.lo*(1000-m),1000⟩) (by show (0:Int)<1000;decide) (zc0 m r).lo).1 (Int.le_refl _)
  dsimp only at this
  have h2:r.lo*(1000-m)≤r.lo*1000:=Int.mul_le_mul_of_nonneg_left (by omega) (by omega)
  omega
 have e3:r.hi≤(zc0 m r).hi:=by
  have:=(Frac.up_le (f:=⟨r.hi*(1000+m),1000⟩) (by show (0:Int)<1000;decide) (zc0 m r).hi).1 (Int.le_refl _)
  dsimp only at this
  have h2:r.hi*1000≤r.hi*(1000+m):=Int.mul_le_mul_of_nonneg_left (by omega) (by omega)
  omega
 have e4:(zc0 m r).hi≤901800000:=by
  refine (Frac.up_le (f:=⟨r.hi*(1000+m),1000⟩) (by show (0:Int)<1000;decide) _).2 ?_
  dsimp only
  have h2:r.hi*(1000+m)≤r.hi*1500:=Int.mul_le_mul_of_nonneg_left (by omega) (by omega)
  omega
 omega
theorem zmY {s:HrShop} {l:List HrTest} {at':Int} (h:(zaN s l at').2=0):HrKOk (zaN s l at').1∧zbC s l=0∧gIn at' 0 ((s.kinds.length:Int)-1)=true ∧
  s.kinds[at'.toNat]?=some (zaN s l at').1.k∧(zaN s l at').1.rates=zc0 s.margin (zcv s l at')∧0≤(zcv s l at').lo:=by
 unfold zaN at h ⊢
 split at h
 ·rename_i h0
  have ht:=zpH h0
  rw [if_pos h0]
  split at h
  ·cases h
  ·rename_i k hk
   split at h
   ·cases h
   ·rename_i h1
    split at h
    ·cases h
    ·rename_i h2
     have hg:gIn at' 0 ((s.kinds.length:Int)-1)=true:=by
      cases hg:gIn at' 0 ((s.kinds.length:Int)-1) with
      |true=>rfl
      |false=>rw [hg] at hk;cases hk
     rw [if_pos hg] at hk
     simp only [hg,if_true,hk,if_neg h1,if_neg h2]
     have hm:=zg1 ht.1
     have hO:znn (zcv s l at'):=ztv ht.2.2 (.inl rfl)
     have hr:=hO.resolve_left (by intro e;rw [e] at h1;exact h1 (by decide))
     have hw:=zAr hm.2.2 hr
     refine ⟨⟨zkm ht.1 (List.mem_of_getElem? hk),hw.1,hw.2.1,?_,hw.2.2⟩,h0,trivial,trivial,trivial,by omega⟩
     dsimp only
     omega
 ·contradiction
def HrK.least (x:HrK):Frac:=⟨60*(x.k.weight.lo-x.k.rest),x.rates.hi⟩
def HrK.most (x:HrK):Frac:=if 0<x.rates.lo then ⟨60*(x.k.weight.hi-x.k.rest),x.rates.lo⟩ else ⟨-1,1⟩
theorem zEA (x:HrK) (hx:HrKOk x):zae Tryz.prog 351 [x.pv] (.tuple [x.least.pv,x.most.pv]):=by
 have hk:=hx.k
 have h1:=hk.lo;have h2:=hk.le;have h3:=hk.hi;have h4:=hk.rest;have h5:=hk.less
 refine zaa zad (fn:=Tryz.f351) (n:=37) (rs:=[.cell 2 397,.cell 3 397]) (by kernel_rfl) rfl rfl rfl zIo (Nat.le_of_ble_eq_true rfl) ?_
 have w1:IntKind.i64.wrap (x.k.weight.lo-x.k.rest)=x.k.weight.lo-x.k.rest:=zaj (by omega) (by omega)
 have w2:IntKind.i64.wrap (60*(x.k.weight.lo-x.k.rest))=60*(x.k.weight.lo-x.k.rest):=zaj (by omega) (by omega)
 have w3:IntKind.i64.wrap (x.k.weight.hi-x.k.rest)=x.k.weight.hi-x.k.rest:=zaj (by omega) (by omega)
 have w4:IntKind.i64.wrap (60*(x.k.weight.hi-x.k.rest))=60*(x.k.weight.hi-x.k.rest):=zaj (by omega) (by omega)
 simp only [w1,w2,go_sem,simprocAttr]
 cases hp:decide (0<x.rates.lo)
 ·have hp':¬ 0<x.rates.lo:=by simpa using hp
  simp only [w3,w4,zCk,zal,HrK.least,HrK.most,if_neg hp',go_sem,simprocAttr]
 ·have hp':0<x.rates.lo:=by simpa using hp
  simp only [w3,w4,zCk,zal,HrK.least,HrK.most,if_pos hp',go_sem,simprocAttr]
def HrK.promise (x:HrK):Int:=if Frac.down ⟨x.least.top,x.least.below*60⟩<16666 then Frac.down ⟨x.least.top,x.least.below*60⟩ else 16666
theorem HrKOk.leastB {x:HrK} (hx:HrKOk x):60≤x.least.top∧x.least.top≤600000000∧1≤x.least.below∧x.least.below≤901800000:=by
 have hk:=hx.k
 have h1:=hk.lo;have h2:=hk.le;have h3:=hk.hi;have h4:=hk.rest;have h5:=hk.less;have h6:=hx.pos;have h7:=hx.hi
 simp only [HrK.least]
 omega
theorem HrKOk.mostB {x:HrK} (hx:HrKOk x):-1≤x.most.top∧x.most.top≤600000000∧1≤x.most.below∧x.most.below≤901800000:=by
 have hk:=hx.k
 have h1:=hk.lo;have h2:=hk.le;have h3:=hk.hi;have h4:=hk.rest;have h5:=hk.less;have h6:=hx.le;have h7:=hx.hi
 simp only [HrK.most]
 split<;>dsimp only<;>omega
theorem zrN (x:HrK) (hx:HrKOk x):zae Tryz.prog 306 [x.pv] (.int .i64 x.promise):=by
 have hb:=hx.leastB
 refine zaa zad (fn:=Tryz.f306) (n:=17) (rs:=[.tmp 2]) (by kernel_rfl) rfl rfl rfl zIP (Nat.le_of_ble_eq_true rfl) ?_
 simp only [go_sem,simprocAttr]
 refine zab (zEA x hx) rfl ?_
 have w1:IntKind.i64.wrap (x.least.below*60)=x.least.below*60:=zaj (by omega) (by omega)
 simp only [w1,go_sem,simprocAttr]
 refine zab (zgB ⟨x.least.top,x.least.below*60⟩ (by show 0<x.least.below*60;omega) (by show _≤x.least.top;omega) (by show x.least.top≤_;omega)) rfl ?_
 simp only [HrK.promise,go_sem,simprocAttr]
def HrK.short (x:HrK) (r:HrRule):Bool:=x.least.lt ⟨r.minutes.lo,1⟩
def HrK.long (x:HrK) (r:HrRule):Bool:=decide (x.most.top<0)||Frac.lt ⟨r.minutes.hi,1⟩ x.most
def HrK.size (x:HrK) (r:HrRule):Bool:=!gIn x.k.weight.lo r.weight.lo r.weight.hi||!gIn x.k.weight.hi r.weight.lo r.weight.hi
def zcj (s:HrShop) (l:List HrTest) (at':Int):Int×Int:=if (zaN s l at').2=0 then ((zaN s l at').1.promise,0) else (0,(zaN s l at').2)
theorem zBE (s:HrShop) (l:List HrTest) (at':Int):zae Tryz.prog 217 [s.pv,.slice 3 (l.map HrTest.pv) false,.int .i64 at'] (.tuple [.int .i64 (zcj s l at').1,.int .i64 (zcj s l at').2]):=by
 refine zaa zad (fn:=Tryz.f217) (n:=22) (rs:=[.tmp 6,.tmp 7]) (by kernel_rfl) rfl rfl rfl zJC (Nat.le_of_ble_eq_true rfl) ?_
 simp only [go_sem,simprocAttr]
 refine zab (zxQ s l at') rfl ?_
 simp only [go_sem,simprocAttr]
 cases h0:((zaN s l at').2 != 0)
 ·have h0':(zaN s l at').2=0:=by simpa using h0
  simp only [go_sem,simprocAttr]
  refine zab (zrN _ (zmY h0').1) rfl ?_
  simp only [zcj,if_pos h0',go_sem,simprocAttr]
 ·have h0':¬ (zaN s l at').2=0:=by simpa using h0
  simp only [zcj,if_neg h0',go_sem,simprocAttr]
def HrK.minutes (x:HrK):Span:=⟨if x.least.down<1000000 then x.least.down else 1000000,if gIn x.most.up 0 1000000=true then x.most.up else 1000000⟩
def HrK.fits (x:HrK) (r:HrRule):Int:=if x.short r=true then 1 else if x.long r=true then 2 else if x.size r=true then 3 else 0
end Abs
end Go.Proofs.YtahlnclapingiaaGreatDoor
namespace Go.Proofs.YtahlnclapingiaaGreatDoor
namespace Abs
set_option maxRecDepth 4000
def mpE (p:Int×Int):PV×PV:=(.int .i64 p.1,.int .i64 p.2)
def zfo (k:Int):List (Int×Int)→Option Int
 |[]=>none
 |(q,v)::r=>if k=q then some v else zfo k r
theorem zpt (k:Int):∀ es:List (Int×Int),zgc (.int .i64 k) (es.map mpE)=some ((zfo k es).map fun v=>.int .i64 v)
 |[]=>rfl
 |(q,v)::r=>by
  rw [List.map_cons,zgc.eq_def]
  simp only [mpE,ze3,if_true]
  cases h:(k==q)
  ·rw [zfo,if_neg (by simpa using h)]
   exact zpt k r
  ·rw [zfo,if_pos (by simpa using h)]
   rfl
theorem zps (k v:Int):∀ es:List (Int×Int),zfo k es=none→zhE (.int .i64 k) (.int .i64 v) (es.map mpE)=some ((es++[(k,v)]).map mpE)
 |[],_=>rfl
 |(q,u)::r,h=>by
  rw [zfo] at h
  split at h
  ·cases h
  ·rename_i hne
   rw [List.map_cons,zhE.eq_def]
   simp only [mpE,ze3,if_true]
   rw [show (k==q)=false by simpa using hne]
   dsimp only
   rw [zps k v r h]
   rfl
theorem zmM (k:Int) (a:Int×Int):∀ es:List (Int×Int),zfo k (es++[a])=(zfo k es).or (if k=a.1 then some a.2 else none)
 |[]=>by simp [zfo]
 |(q,u)::r=>by
  rw [List.cons_append,zfo,zfo]
  split
  ·rfl
  ·exact zmM k a r
def ziT (s:HrShop) (l:List HrTest) (b:HrBox):Int :=
 if gIn b.kind 0 ((s.kinds.length:Int)-1)=true then (if gIn b.hours 0 1000000=true then (zaN s l b.kind).2 else 7) else 4
def zbs (s:HrShop) (l:List HrTest):Nat→List HrBox→List Int×Int
 |_,[]=>([],0)
 |i,b::r =>
  if ziT s l b=0 then
   (if (zbs s l (i+1) r).2=0 then ((if (zaN s l b.kind).1.promise<b.hours then [(i:Int)] else [])++(zbs s l (i+1) r).1,0) else ([],(zbs s l (i+1) r).2))
  else ([],ziT s l b)
def zbl (s:HrShop) (l:List HrTest) (boxes:List HrBox):List Int×Int :=
 if zbC s l=0 then (if 20<boxes.length then ([],3) else zbs s l 0 boxes) else ([],zbC s l)
def zft (out:List Int) (q:List Int×Int):List Int×Int:=if q.2=0 then (out++q.1,0) else ([],q.2)
theorem zoG {s:HrShop} {l:List HrTest} {out:List Int} {i:Nat} {b:HrBox} {r:List HrBox} {e:Int} (h:ziT s l b=e) (he:e≠0):zft out (zbs s l i (b::r))=([],e):=by
 rw [zbs,h,if_neg he,zft,if_neg he]
theorem zwk {s:HrShop} {l:List HrTest} {out:List Int} {i:Nat} {b:HrBox} {r:List HrBox} (h:ziT s l b=0) :
  zft out (zbs s l i (b::r))=zft (out++(if (zaN s l b.kind).1.promise<b.hours then [(i:Int)] else [])) (zbs s l (i+1) r):=by
 rw [zbs,if_pos h]
 by_cases h2:(zbs s l (i+1) r).2=0
 ·rw [if_pos h2,zft,zft,if_pos rfl,if_pos h2,List.append_assoc]
 ·rw [if_neg h2,zft,zft,if_neg h2,if_neg h2]
theorem zxl (s:HrShop) (l:List HrTest):zaN s l (-1)=(⟨zgk,⟨0,0⟩⟩,if zbC s l=0 then 4 else zbC s l):=by
 rw [zaN]
 split
 ·rw [show gIn (-1) 0 ((s.kinds.length:Int)-1)=false by simp [gIn]];rfl
 ·rfl
end Abs
end Go.Proofs.YtahlnclapingiaaGreatDoor
namespace Go.Proofs.YtahlnclapingiaaGreatDoor
namespace Abs
set_option maxRecDepth 4000
theorem zwN {P:Program} {H:Hints} {ops:Array Oper} {rest:List Oper} {Q:Cont} {o:Oper} {A:AAct} {f:FuncId} {args:List AV} {v:AV} {h':Heap} (hc:zap P f args A.h (fun r h=>r=.ret v∧h=h'))
  (h1:@WD ⟨P,H,ops,rest,Q⟩ (A.put o.dst v h').h (A.put o.dst v h')):@WDB ⟨P,H,ops,rest,Q,o⟩ A (.call f args) :=
 hc.mono fun r h hr=>by
  obtain ⟨rfl,rfl⟩:=hr
  exact h1
def dec (n:Int):List UInt8:=Lib.decDigits n.toNat
theorem zl4:∀ (k n:Nat),n<10^(k+1)→(Lib.decDigits n).length≤k+1
 |0,n,h=>by rw [Lib.decDigits,dif_pos (by simpa using h)];simp
 |k+1,n,h=>by
  rw [Lib.decDigits]
  split
  ·simp
  ·have:=zl4 k (n / 10) (by rw [Nat.pow_succ] at h;omega)
   simp;omega
theorem zie {n:Int} (_:0≤n) (h1:n≤10000000):(dec n).length≤8:=zl4 7 _ (by omega)
theorem zha {n:Int} (h0:0≤n):zpC n=bs (dec n):=by
 have:Lib.itoa n=dec n:=by rw [Lib.itoa,if_neg (by omega)];rfl
 rw [zpC,this];rfl
def hdr:List UInt8:=[116,101,115,116,32]
def sp:List UInt8:=[32]
def nl:List UInt8:=[10]
def zhF (nm:List UInt8) (e:Int):List UInt8:=hdr++nm++sp++dec e++nl
def zfq (m:HrMark):List UInt8:=dec m.minute++sp++dec m.weight++nl
def ze1 (s:HrShop) (t:HrTest):List UInt8:=zhF (((s.kinds[t.kind.toNat]?).map fun k=>k.name.data.toList).getD []) t.error++(t.marks.map zfq).flatten
theorem zxg {b:ByteArray} (h:nameOk b=true):b.size≤20:=by
 unfold nameOk at h
 simp at h
 omega
theorem zfI (a b:ByteArray):zdH a++zdH b=zdH (a++b):=by
 have:(a++b).data.toList=a.data.toList++b.data.toList:=by simp
 unfold zdH
 rw [this,List.map_append]
theorem zn5 {h:Heap} {i:Nat} {s:ByteArray} (hi:h[i]?=some (.bld 69 5 (.p .nilslice))) (hs:s.size≤1000000) (h0:s.size≠0) :
  zap Tryz.prog 20 [.ref .bl i,.p (.str s)] h (fun r h'=>r=.ret (.p (.tuple [.int .i64 s.size,.niliface])) ∧
   h'=(h++[AObj.row 1 (zdH s)]).set i (.bld 69 5 (.slice h.length s.size 0 s.size))):=by
 have hil:=(List.getElem?_eq_some_iff.1 hi).1
 refine zrC (x':=.slice h.length s.size 0 s.size) hi (by simp [zar];omega) (.inl rfl) ?_ (by rw [List.getElem?_append_left hil];exact hi) (.inr ⟨_,_,rfl⟩)
 have hne:¬ (List.map (fun b:UInt8=>AV.p (PV.int .u8 (b.toNat:Int))) s.data.toList=[]):=fun h=>h0 (by have:=congrArg List.length h;simpa using this)
 have hrm:s.size≤zar:=by simp [zar];omega
 have hl:s.data.size=s.size:=rfl
 simp only [hne,hrm,Array.length_toList,hl,zdH,go_sem,simprocAttr]
 rw [if_neg (by simp)]
theorem zhM {h:Heap} {i j n:Nat} {xs:List AV} {s:ByteArray} (hi:h[i]?=some (.bld 69 5 (.slice j n 0 n))) (hj:h[j]?=some (.row 1 xs)) (hn:xs.length=n) (hij:i≠j) (hs:n+s.size≤1000000) :
  zap Tryz.prog 20 [.ref .bl i,.p (.str s)] h (fun r h'=>r=.ret (.p (.tuple [.int .i64 s.size,.niliface])) ∧
   h'=(h.set j (.row 1 (xs++zdH s))).set i (.bld 69 5 (.slice j (n+s.size) 0 (n+s.size)))):=by
 refine zrC (x':=.slice j (n+s.size) 0 (n+s.size)) hi (by simp [zar];omega) (.inr ⟨j,n,xs,rfl,hj,hn,by simp [zar];omega⟩) ?_ (by rw [List.getElem?_set_ne hij.symm];exact hi) (.inr ⟨_,_,rfl⟩)
 have hrm:n+s.size≤zar:=by simp [zar];omega
 have hl:s.data.size=s.size:=rfl
 simp only [hj,hn,hrm,Array.length_toList,hl,zdH,go_sem,simprocAttr]
 rw [if_neg (by simp)]
set_option maxHeartbeats 2000000 in
theorem zK4 (s:HrShop) (t:HrTest) (hc:(hrCheck s).2.2=0) (ht:za6 s.kinds.length t=0):zae Tryz.prog 283 [s.pv,t.pv] (.str (bs (ze1 s t))):=by
 obtain ⟨hok,k0,k1⟩:=zdv ht
 obtain ⟨n,hn⟩:=Int.eq_ofNat_of_zero_le k0
 have hnl:n<s.kinds.length:=by omega
 obtain ⟨k,hk⟩:∃ k,s.kinds[n]?=some k:=⟨_,List.getElem?_eq_getElem hnl⟩
 have hko:=zkm hc (List.mem_of_getElem? hk)
 have hks:=zxg hko.name
 obtain ⟨nm,hnm⟩:∃ nm,k.name=bs nm:=⟨_,(zp5 _).symm⟩
 have hsp:ze1 s t=zhF nm t.error++(t.marks.map zfq).flatten:=by rw [ze1,hn,Int.toNat_natCast,hk,Option.map_some,Option.getD_some,hnm,zdr]
 rw [hnm,zao] at hks
 have hlt:(n:Int)<(s.kinds.length:Int):=by omega
 have he:=hok.err
 have hel:=zie he.1 (by omega)
 have hit:=zha he.1
 have l1:hdr.length=5:=rfl
 have l2:sp.length=1:=rfl
 have l3:nl.length=1:=rfl
 have r1:(bs hdr).size+(bs nm).size≤zb0:=by simp [zao,zb0,l1];omega
 have r2:(bs (hdr++nm)).size+(bs sp).size≤zb0:=by simp [zao,zb0,l1,l2];omega
 have r3:(bs (hdr++nm++sp)).size+(bs (dec t.error)).size≤zb0:=by simp [zao,zb0,l1,l2];omega
 have r4:(bs (hdr++nm++sp++dec t.error)).size+(bs nl).size≤zb0:=by simp [zao,zb0,l1,l2,l3];omega
 have c1:(⟨#[116,101,115,116,32]⟩:ByteArray)=bs hdr:=rfl
 have c2:(⟨#[32]⟩:ByteArray)=bs sp:=rfl
 have c3:(⟨#[10]⟩:ByteArray)=bs nl:=rfl
 have hA:hdr++nm++sp++dec t.error++nl=zhF nm t.error:=rfl
 have hAl:(zhF nm t.error).length≤40:=by simp [zhF,l1,l2,l3];omega
 have hA0:(zhF nm t.error).length≠0:=by simp [zhF,l1]
 generalize zhF nm t.error=A at hsp hA hAl hA0
 refine zaa zad (fn:=Tryz.f283) (n:=42) (rs:=[.tmp 4]) (by kernel_rfl) rfl rfl rfl zI4 (Nat.le_of_ble_eq_true rfl) ?_
 simp only [zmh,zal,hn,hlt,hk,hnm,c1,c2,c3,r1,r2,zdI,go_sem,simprocAttr]
 refine zau (znP t.error (by omega) (by omega)) rfl ?_
 simp only [zmh,zal,hit,r3,r4,c3,zdI,hA,go_sem,simprocAttr]
 refine zwN (zn5 (s:=bs A) rfl (by rw [zao];omega) (by rw [zao];exact hA0)) ?_
 simp only [zmh,zal,zao,go_sem,simprocAttr]
 refine zcZ [5,24,25] (σ:=List HrMark×List HrMark×List UInt8×Heap)
  (fun q=>t.marks=q.1++q.2.1∧ze1 s t=q.2.2.1++(q.2.1.map zfq).flatten∧q.2.2.1.length≤40+18*q.1.length∧q.2.2.1.length≠0) (fun q=>q.2.1.length)
  (fun q=>[(26,.p (.int .i64 q.1.length))])
  (fun q=>[.row 3 [.p s.pv],.row 3 [.p t.pv],.bld 69 5 (.slice 3 q.2.2.1.length 0 q.2.2.1.length),.row 1 (zdH (bs q.2.2.1))]++q.2.2.2) ([],t.marks,A,[]) ⟨rfl,hsp,hAl,hA0⟩ (by simp only [hn,List.append_nil,go_sem,simprocAttr]) ?_ ?_
 ·simp only [go_sem,simprocAttr]
 rintro ⟨done,rest,acc,g⟩ ⟨e1,e2,e3,e4⟩
 dsimp only at e1 e2 e3 e4
 cases rest with
 |nil =>
  have hlt2:¬ ((done.length:Int)<(t.marks.length:Int)):=by rw [e1];simp
  rw [List.map_nil,List.flatten_nil,List.append_nil] at e2
  have hml:=hok.len
  have hdl:=congrArg List.length e1
  simp only [List.length_append,List.length_nil] at hdl
  simp only [hlt2,decide_false,e2,zmh,zal,go_sem,simprocAttr]
  have hsz:=zao acc
  refine zbk (zlU (j:=3) (s:=bs acc) (by rw [hsz];rfl) rfl (by rw [hsz];exact e4) (by rw [hsz];omega)) ?_
  simp only [go_sem,simprocAttr]
  rw [e2]
 |cons m rest =>
  obtain ⟨hx,hltt⟩:=zeb e1
  have hml:=hok.len
  have hdl:=congrArg List.length e1
  simp only [List.length_append,List.length_cons] at hdl
  have hnx:IntKind.i64.wrap ((done.length:Int)+1)=(((done++[m]).length:Nat):Int):=za9 (by omega) (by simp [zar];omega) (by simp)
  have hm:=hok.all m (by rw [e1];simp)
  have hd1:=zie hm.1 (by omega)
  have hd2:=zie hm.2.2.1 (by omega)
  have i1:=zha hm.1
  have i2:=zha hm.2.2.1
  have q1:(bs (dec m.minute)).size+(bs sp).size≤zb0:=by simp [zao,zb0,l2];omega
  have q2:(bs (dec m.minute++sp)).size+(bs (dec m.weight)).size≤zb0:=by simp [zao,zb0,l2];omega
  have q3:(bs (dec m.minute++sp++dec m.weight)).size+(bs nl).size≤zb0:=by simp [zao,zb0,l2,l3];omega
  have hB:dec m.minute++sp++dec m.weight++nl=zfq m:=rfl
  have hBl:(zfq m).length≤18:=by simp [zfq,l2,l3];omega
  rw [List.map_cons,List.flatten_cons] at e2
  have g0:=zgg (lo:=g) rfl
  have s0:=zhL (lo:=g) rfl
  simp only [hltt,decide_true,hx,g0,s0,zmh,zal,List.append_nil,go_sem,simprocAttr]
  refine zau (znP m.minute (by omega) (by omega)) rfl ?_
  simp only [zmh,zal,i1,c2,q1,zdI,g0,List.append_nil,go_sem,simprocAttr]
  refine zau (znP m.weight (by omega) (by omega)) rfl ?_
  simp only [zmh,zal,i2,c3,q2,q3,zdI,hB,List.append_nil,go_sem,simprocAttr]
  refine zwN (zhM (s:=bs (zfq m)) (j:=3) rfl rfl (by rw [zfw,zao]) (by decide) (by rw [zao];omega)) ?_
  simp only [zmh,zal,zao,zfI,zdI,go_sem,simprocAttr]
  refine zaS (done++[m],rest,acc++zfq m,g++[.row 2 [.p m.pv]]) ⟨by rw [e1];simp,by rw [e2];simp,by show (acc++zfq m).length≤40+18*(done++[m]).length;simp only [List.length_append,List.length_singleton];omega,by show (acc++zfq m).length≠0;simp only [List.length_append];omega⟩ (Nat.lt_succ_self _) (by simp only [List.length_append,go_sem,simprocAttr]) ?_
  simp only [hnx,go_sem,simprocAttr]
end Abs
end Go.Proofs.YtahlnclapingiaaGreatDoor
namespace Go.Proofs.YtahlnclapingiaaGreatDoor
namespace Abs
set_option maxRecDepth 4000
theorem zxz (l:List UInt8) (c:UInt8) (h:Heap):zap Tryz.prog 336 [.p (.str (bs l)),.p (.str (bs [c])),.p (.int .i64 0)] h
  (fun r h'=>r=.ret (.func (.func 369) [] [.ptr (h.length+1) 1 0 0,.ptr h.length 1 0 0,.ptr (h.length+2) 1 0 0]) ∧
   h'=h++[.row 1 [.p (.str (bs l))],.row 1 [.p (.str (bs [c]))],.row 1 [.p (.int .i64 0)]]):=by
 refine zan zad (fn:=Tryz.f336) (n:=8) (rs:=[.tmp 6]) (by kernel_rfl) rfl rfl rfl zIA (Nat.le_of_ble_eq_true rfl) ?_
 simp only [List.append_assoc,List.length_append,List.length_singleton,go_sem,simprocAttr]
theorem zzu (l:List UInt8) (c:UInt8) (h:Heap):zap Tryz.prog 280 [.p (.str (bs l)),.p (.str (bs [c]))] h
  (fun r h'=>r=.ret (.func (.func 369) [] [.ptr (h.length+1) 1 0 0,.ptr h.length 1 0 0,.ptr (h.length+2) 1 0 0]) ∧
   h'=h++[.row 1 [.p (.str (bs l))],.row 1 [.p (.str (bs [c]))],.row 1 [.p (.int .i64 0)]]):=by
 refine zan zad (fn:=Tryz.f280) (n:=8) (rs:=[.tmp 4]) (by kernel_rfl) rfl rfl rfl zI7 (Nat.le_of_ble_eq_true rfl) ?_
 simp only [go_sem,simprocAttr]
 refine zbk (zxz l c h) ?_
 simp only [go_sem,simprocAttr]
def zwO (c:UInt8) (ns nsep nz:Nat) (x:List UInt8) (h:Heap):Prop :=
 h[ns]?=some (.row 1 [.p (.str (bs x))])∧h[nsep]?=some (.row 1 [.p (.str (bs [c]))])∧h[nz]?=some (.row 1 [.p (.int .i64 0)])
set_option maxHeartbeats 1000000 in
theorem zF2 (l:List UInt8) (c:UInt8) (hl:l.length<1000000000) (id ns nsep nz:Nat) (h0:Heap) (Inv Inv':List (List UInt8)→List UInt8→Heap→Prop) (Pan:PV→Heap→Prop)
  (hrow:∀ done x h,Inv done x h→zwO c ns nsep nz x h) (hrow':∀ done x h,Inv' done x h→zwO c ns nsep nz x h)
  (hy:∀ done x h,zaC c l=done++zaC c x→Inv done x h→zkM Tryz.prog id [.p (.str (bs (zav c x).1))] h (fun r h'=>(r=.ret (.p (.bool true))∧Inv' (done++[(zav c x).1]) x h')∨∃ v,r=.panic v∧Pan v h'))
  (hstep:∀ done x y h,Inv' done x h→(zav c x).2=some y→Inv done y (h.set ns (.row 1 [.p (.str (bs y))]))) (hi:Inv [] l h0) :
  zap Tryz.prog 369 [.ref .yl id,.ptr nsep 1 0 0,.ptr ns 1 0 0,.ptr nz 1 0 0] h0
   (fun r h'=>(r=.ret (.p (.tuple []))∧∃ x,(zav c x).2=none∧Inv' (zaC c l) x h')∨∃ v,r=.panic v∧Pan v h'):=by
 refine zan zad (fn:=Tryz.f369) (n:=52) (rs:=[]) (by kernel_rfl) rfl rfl rfl zIh (Nat.le_of_ble_eq_true rfl) ?_
 obtain ⟨r1,r2,r3⟩:=hrow _ _ _ hi
 have hz:(((bs [c]).size:Int)==0)=false:=rfl
 simp only [r1,r2,r3,hz,go_sem,simprocAttr]
 refine zcZ [0,1,2,3] (σ:=List (List UInt8)×List UInt8×Heap)
  (fun q=>zaC c l=q.1++zaC c q.2.1∧Inv q.1 q.2.1 q.2.2∧q.2.1.length<1000000000) (fun q=>q.2.1.length)
  (fun _=>[]) (fun q=>q.2.2) ([],l,h0) ⟨rfl,hi,hl⟩ rfl ?_ ?_
 ·simp only [go_sem,simprocAttr]
 clear r1 r2 r3
 rintro ⟨done,x,h⟩ ⟨e1,e2,e3⟩
 dsimp only at e1 e2 e3
 obtain ⟨r1,r2,r3⟩:=hrow _ _ _ e2
 have hyy:=hy done x h e1 e2
 simp only [r1,r2,r3,go_sem,simprocAttr]
 refine zab (zt8 (bs x) c) rfl ?_
 rw [zdr]
 rcases zgu c x with ⟨h1,h2,h3⟩ | ⟨r,h1,h2,h3⟩
 ·simp only [h3,r1,go_sem,simprocAttr]
  have hall:zaC c l=done++[x]:=by rw [e1,zgI h1]
  rw [h2] at hyy
  refine ziV hyy (fun v h' hr=>?_) (fun v h' hr=>?_)
  ·rcases hr with ⟨hr,hI⟩ | ⟨v',hr,_⟩
   ·cases hr
    simp only [go_sem,simprocAttr]
    refine .inl ?_
    rw [hall]
    exact ⟨x,h1,hI⟩
   ·cases hr
  ·rcases hr with ⟨hr,_⟩ | ⟨v',hr,hP⟩
   ·cases hr
   ·cases hr
    simp only [go_sem,simprocAttr]
    exact ⟨_,rfl,hP⟩
 ·have hlen3:=congrArg List.length h3
  simp only [List.length_append,List.length_cons] at hlen3
  have q1:decide (((zav c x).1.length:Int)<0)=false:=by simp
  have q2:IntKind.i64.wrap (((zav c x).1.length:Int)+0)=(((zav c x).1.length:Nat):Int):=by rw [Int.add_zero];exact zaj (by omega) (by omega)
  have q3:(((zav c x).1.length:Int)≤((bs x).size:Int)):=by rw [zao];omega
  have q4:(bs x).extract 0 (zav c x).1.length=bs (zav c x).1:=by
   rw [zcN,List.drop_zero]
   congr 1
   have:=congrArg (List.take (zav c x).1.length) h3
   rw [List.take_left'] at this
   ·exact this
   ·rfl
  have q5:IntKind.i64.wrap (((zav c x).1.length:Int)+(((bs [c]).size:Nat):Int))=(((zav c x).1.length+1:Nat):Int):=by
   rw [zao]
   exact za9 (by omega) (by simp [zar];omega) (by simp)
  have q6:((((zav c x).1.length+1:Nat):Int)≤((bs x).size:Int)):=by rw [zao];omega
  have q7:(bs x).extract ((zav c x).1.length+1) (bs x).size=bs r:=by
   rw [zcN,zao,List.take_length]
   congr 1
   have:=congrArg (List.drop ((zav c x).1.length+1)) h3
   rw [this]
   simp
  simp only [h2,q1,r1,r2,r3,q2,q3,q4,go_sem,simprocAttr]
  refine ziV hyy (fun v h' hr=>?_) (fun v h' hr=>?_)
  rotate_left
  ·rcases hr with ⟨hr,_⟩ | ⟨v',hr,hP⟩
   ·cases hr
   ·cases hr
    simp only [go_sem,simprocAttr]
    exact ⟨_,rfl,hP⟩
  rcases hr with ⟨hr,hI⟩ | ⟨v',hr,_⟩
  rotate_left
  ·cases hr
  cases hr
  obtain ⟨s1,s2,s3⟩:=hrow' _ _ _ hI
  simp only [s1,s2,s3,q5,q6,q7,go_sem,simprocAttr]
  refine zaS (done++[(zav c x).1],r,h'.set ns (.row 1 [.p (.str (bs r))])) ⟨by rw [e1,zgH h1];simp,hstep _ _ _ _ hI h1,by show r.length<1000000000;omega⟩ (by show r.length<x.length;omega) rfl ?_
  simp only [go_sem,simprocAttr]
end Abs
end Go.Proofs.YtahlnclapingiaaGreatDoor
namespace Go.Proofs.YtahlnclapingiaaGreatDoor
namespace Abs
set_option maxRecDepth 4000
theorem zqK (a b:List UInt8):∀ acc,Lib.decFrom acc (a++b)=(Lib.decFrom acc a).bind fun x=>Lib.decFrom x b:=by
 induction a with
 |nil=>intro acc;rfl
 |cons x r ih =>
  intro acc
  rw [List.cons_append,Lib.decFrom,Lib.decFrom]
  cases Lib.digitVal x with
  |none=>rfl
  |some d=>exact ih _
theorem zrK {d:Nat} (h:d<10):Lib.digitVal (UInt8.ofNat (48+d))=some d:=by
 have e:(UInt8.ofNat (48+d)).toNat=48+d:=by simp;omega
 rw [Lib.digitVal,e,if_pos (by omega)]
 congr 1;omega
theorem zoc (n:Nat):Lib.decFrom 0 (Lib.decDigits n)=some n:=by
 induction n using Nat.strongRecOn with
 |ind n ih =>
  rw [Lib.decDigits]
  split
  ·rename_i h
   simp only [Lib.decFrom,zrK h,Nat.zero_mul,Nat.zero_add]
  ·rename_i h
   rw [zqK,ih (n / 10) (by omega)]
   simp only [Option.bind_some,Lib.decFrom,zrK (Nat.mod_lt n (by omega:0<10))]
   congr 1;omega
theorem zpS (n:Nat):∀ b,b∈Lib.decDigits n→48≤b.toNat∧b.toNat≤57:=by
 induction n using Nat.strongRecOn with
 |ind n ih =>
  intro b hb
  rw [Lib.decDigits] at hb
  split at hb
  ·rename_i h
   rw [List.mem_singleton] at hb
   subst hb
   have e:(UInt8.ofNat (48+n)).toNat=48+n:=by simp;omega
   omega
  ·rename_i h
   rw [List.mem_append,List.mem_singleton] at hb
   rcases hb with hb | rfl
   ·exact ih (n / 10) (by omega) b hb
   ·have e:(UInt8.ofNat (48+n%10)).toNat=48+n%10:=by simp;omega
    omega
theorem zm8 (n:Nat):Lib.decDigits n≠[]:=by rw [Lib.decDigits];split<;>simp
def zeZ (l:List UInt8):Option Int:=match Lib.atoiAll l with | .ok v=>some v | _=>none
theorem zoA {n:Int} (h0:0≤n) (h1:n≤10000000):zeZ (dec n)=some n:=by
 obtain ⟨m,rfl⟩:=Int.eq_ofNat_of_zero_le h0
 have hl:=zie h0 h1
 have hat:Lib.atoi (dec (m:Int))=some (m:Int):=by
  unfold dec
  rw [Int.toNat_natCast]
  have hd:=zpS m
  have hf:=zoc m
  cases hc:Lib.decDigits m with
  |nil=>exact absurd hc (zm8 m)
  |cons b r =>
   rw [hc] at hd hf
   have hb:=hd b (by simp)
   have b1:(b==45)=false:=by
    rw [beq_eq_false_iff_ne];rintro rfl;simp at hb
   have b2:(b==43)=false:=by
    rw [beq_eq_false_iff_ne];rintro rfl;simp at hb
   simp only [Lib.atoi,b1,b2,Bool.false_eq_true,if_false,Lib.decNat,List.isEmpty_cons,hf,Option.map_some]
 rw [zeZ,Lib.atoiAll_short _ (by omega),hat]
 rfl
def zdS:PV:=.iface 43 (.int .i64 6)
theorem zF6 (b:Bool) (h:Heap):zap Tryz.prog 276 [.p (.bool b)] h (fun r h'=>h'=h∧r=if b=true then .ret (.p (.tuple [])) else .panic zdS):=by
 refine zan zad (fn:=Tryz.f276) (n:=5) (rs:=[]) (by kernel_rfl) rfl rfl rfl zCx (Nat.le_of_ble_eq_true rfl) ?_
 simp only [go_sem,simprocAttr]
 cases b
 ·simp only [zdS,go_sem,simprocAttr]
 ·simp only [go_sem,simprocAttr]
theorem zio {H:Hints} {Q:Cont} {ops:Array Oper} {rest:List Oper} {dst:Option Tmp} {A:AAct} {b:Bool} (h1:b=true→@WO ⟨Tryz.prog,H,ops,rest,Q⟩ (A.put dst (.p (.tuple [])) A.h))
  (h2:b=false→@WQ ⟨Q⟩ (.panic zdS) A):@WF ⟨Tryz.prog,H,ops,rest,Q,dst⟩ A 276 [.p (.bool b)]:=by
 refine zbf (zF6 b A.h) (fun v h hr=>?_) (fun v h hr=>?_)
 ·obtain ⟨rfl,hr⟩:=hr
  cases b
  ·cases hr
  ·cases hr;exact h1 rfl
 ·obtain ⟨rfl,hr⟩:=hr
  cases b
  ·cases hr;exact h2 rfl
  ·cases hr
theorem zGB:zae Tryz.prog 276 [.bool true] (.tuple []):=by
 refine zaa zad (fn:=Tryz.f276) (n:=5) (rs:=[]) (by kernel_rfl) rfl rfl rfl zCx (Nat.le_of_ble_eq_true rfl) ?_
 simp only [go_sem,simprocAttr]
theorem zla {l:List UInt8} {n:Int} (hl:l.length≤1000000) (h:zeZ l=some n):zae Tryz.prog 279 [.str (bs l)] (.int .i64 n):=by
 refine zaa zad (fn:=Tryz.f279) (n:=14) (rs:=[.tmp 2]) (by kernel_rfl) rfl rfl rfl zCw (Nat.le_of_ble_eq_true rfl) ?_
 have hp:zfJ (bs l)=.tuple [.int .i64 n,.niliface]:=by
  unfold zeZ at h
  rw [zfJ,zdr]
  cases ha:Lib.atoiAll l<;>rw [ha] at h<;>first | cases h;done | skip
  cases h;rfl
 simp only [go_sem,simprocAttr]
 refine zab (zsz (bs l) (by rw [zao];omega)) rfl ?_
 simp only [hp,go_sem,simprocAttr]
 refine zab zGB rfl ?_
 simp only [go_sem,simprocAttr]
theorem zhN {l:List UInt8} (hl:l.length≤1000000) (h:zeZ l=none) (hp:Heap):zap Tryz.prog 279 [.p (.str (bs l))] hp (fun r h'=>r=.panic zdS∧h'=hp):=by
 refine zan zad (fn:=Tryz.f279) (n:=14) (rs:=[.tmp 2]) (by kernel_rfl) rfl rfl rfl zCw (Nat.le_of_ble_eq_true rfl) ?_
 have hx:∃ v,zfJ (bs l)=.tuple [.int .i64 v,.iface 338 .any]:=by
  unfold zeZ at h
  rw [zfJ,zdr]
  cases ha:Lib.atoiAll l<;>rw [ha] at h<;>first | cases h;done | exact ⟨_,rfl⟩
 obtain ⟨v,hx⟩:=hx
 simp only [go_sem,simprocAttr]
 refine zab (zsz (bs l) (by rw [zao];omega)) rfl ?_
 simp only [hx,go_sem,simprocAttr]
 refine zio (fun h=>by cases h) (fun _=>?_)
 simp only [go_sem,simprocAttr]
theorem ziq {P:Program} {H:Hints} {ops:Array Oper} {rest:List Oper} {Q:Cont} {o:Oper} {hs:Heap} {A:AAct} {f:FuncId} {args:List AV} {pargs:List PV} {v:PV} (hc:zae P f pargs v) (ha:args=pargs.map .p)
  (h:@WD ⟨P,H,ops,rest,Q⟩ hs (A.put o.dst (.p v) A.h)):@WDR ⟨P,H,ops,rest,Q,o⟩ hs A (.call f args):=by
 subst ha
 exact .inl ⟨.p v,fun _ _=>zjk hc,h⟩
theorem zku {P:Program} {H:Hints} {ops:Array Oper} {rest:List Oper} {Q:Cont} {o:Oper} {hs:Heap} {A:AAct} {f:FuncId} {args:List AV} {v:PV} (hc:zap P f args A.h (fun r h'=>r=.panic v∧h'=A.h))
  (h:∀ T,@WQ ⟨Q⟩ (.panic v) { A with tmps:=T }):@WDR ⟨P,H,ops,rest,Q,o⟩ hs A (.call f args):=.inr ⟨v,hc,h⟩
end Abs
end Go.Proofs.YtahlnclapingiaaGreatDoor
