/-
  CONTRACTS: a shop that is looked at with a candle; how it burns.
  CONTRACTS: how a candle burns in a truth; the ends.
  CONTRACTS: At, Burn, Minutes, in the program and in the reference.
  CONTRACTS: what is wrong with a candle, in the program and in the reference.
  CONTRACTS: 
  CONTRACTS: the wicks that suit.
  CONTRACTS: the thinnest wick that suits.
-/
import Derived.Test.YtahlnclapingiaaGreatDoorWkChk
set_option linter.unusedSimpArgs false
set_option linter.unusedVariables false
namespace Go.Proofs.YtahlnclapingiaaGreatDoor
namespace Abs
namespace Wk
set_option maxRecDepth 4000
structure WickOk (w:Wick):Prop where
 t:1≤w.threads∧w.threads≤100
 p:1≤w.pull.lo∧w.pull.lo≤w.pull.hi∧w.pull.hi≤1000
structure WaxOk (x:Wax):Prop where
 f:1≤x.flow.lo∧x.flow.lo≤x.flow.hi∧x.flow.hi≤300
 r:1≤x.rise.lo∧x.rise.lo≤x.rise.hi∧x.rise.hi≤1000
 s:1≤x.spread.lo∧x.spread.lo≤x.spread.hi∧x.spread.hi≤2000
 c:0≤x.chill∧x.chill≤50
structure ShopOk (s:Shop):Prop where
 lw:1≤s.wicks.length∧s.wicks.length≤12
 lx:1≤s.waxes.length∧s.waxes.length≤6
 fl:0≤s.flame.lo∧s.flame.lo≤s.flame.hi∧s.flame.hi≤2000
 po:0≤s.pool.lo∧s.pool.lo≤s.pool.hi∧s.pool.hi≤2000
 w:∀ w,w∈s.wicks→WickOk w
 x:∀ x,x∈s.waxes→WaxOk x
def shopErr (s:Shop):Int:=(zcl s).2.2
theorem zk2 {n lo hi:Int}:gIn n lo hi=true↔lo≤n∧n≤hi:=by simp [gIn]
theorem znH {s:Span} {lo hi:Int}:inS s lo hi=true↔(lo≤s.lo∧s.lo≤hi)∧lo≤s.hi∧s.hi≤hi:=by simp [inS,gIn]
theorem zi8 {s:Span}:zaJ s=false↔s.lo≤s.hi:=by simp [zaJ]
theorem zwT {b:List ByteArray} {w:Wick} (h:zcA b w=0):WickOk w:=by
 unfold zcA at h
 split at h
 ·split at h
  ·rename_i h1
   split at h
   ·cases h
   ·rename_i h2
    simp only [Bool.and_eq_true,zk2,znH] at h1
    rw [Bool.not_eq_true,zi8] at h2
    exact ⟨h1.1,h1.2.1.1,h2,h1.2.2.2⟩
  ·cases h
 ·rename_i h0;exact absurd h h0
theorem zys {b:List ByteArray} {x:Wax} (h:zdA b x=0):WaxOk x:=by
 unfold zdA at h
 split at h
 ·split at h
  ·rename_i h1
   split at h
   ·cases h
   ·rename_i h2
    simp only [Bool.and_eq_true,zk2,znH] at h1
    rw [Bool.not_eq_true] at h2
    simp only [Bool.or_eq_false_iff,zi8] at h2
    exact ⟨⟨h1.1.2.1.1,h2.1,h1.1.2.2.2⟩,⟨h1.2.1.1.1,h2.2.1,h1.2.1.2.2⟩,⟨h1.2.2.1.1,h2.2.2,h1.2.2.2.2⟩,h1.1.1⟩
  ·cases h
 ·rename_i h0;exact absurd h h0
theorem zex {α:Type} {f:List ByteArray→α→Int} {nm:α→ByteArray}:∀ {l:List α} {b:List ByteArray},firstErr f nm l b=none→∀ x,x∈l→∃ b,f b x=0
 |[],_,_,x,hx=>by cases hx
 |y::r,b,h,x,hx=>by
  unfold firstErr at h
  split at h
  ·rename_i h0
   rcases List.mem_cons.1 hx with rfl | hx
   ·exact ⟨b,h0⟩
   ·exact zex h x hx
  ·cases h
theorem zi3 {α:Type} {f:List ByteArray→α→Int} {nm:α→ByteArray}:∀ {l:List α} {b:List ByteArray} {i e:Int},firstErr f nm l b=some (i,e)→e≠0
 |[],_,_,_,h=>by cases h
 |y::r,b,i,e,h=>by
  unfold firstErr at h
  split at h
  ·exact zi3 h
  ·rename_i h0
   cases h;exact h0
theorem zmy {s:Shop} (h:shopErr s=0):ShopOk s:=by
 unfold shopErr zcl at h
 split at h
 ·rename_i h1
  split at h
  ·rename_i h2
   split at h
   ·cases h
   ·rename_i h3
    simp only [Bool.and_eq_true,zk2,znH] at h1 h2
    rw [Bool.not_eq_true] at h3
    simp only [Bool.or_eq_false_iff,zi8] at h3
    unfold zd7 at h
    split at h
    ·rename_i i e hf
     exact absurd h (zi3 hf)
    ·rename_i hf
     split at h
     ·rename_i i e hg
      exact absurd h (zi3 hg)
     ·rename_i hg
      refine ⟨by omega,by omega,⟨h2.1.1.1,h3.1,h2.1.2.2⟩,⟨h2.2.1.1,h3.2,h2.2.2.2⟩,fun w hw=>?_,fun x hx=>?_⟩
      ·obtain ⟨b,hb⟩:=zex hf w hw;exact zwT hb
      ·obtain ⟨b,hb⟩:=zex hg x hx;exact zys hb
  ·cases h
 ·cases h
def zcz (s:Shop) (c:Candle):Int :=
 if gIn c.wax 0 ((s.waxes.length:Int)-1)=true then (if (gIn c.diameter 1 2000&&(gIn c.draught 0 90&&inS c.cold 0 300))=true then (if zaJ c.cold=true then 2 else 0) else 7) else 4
def zdY (s:Shop) (ks:List Int) (c:Candle):Int :=
 if shopErr s=0 then (if (ks.all fun k=>gIn k 0 ((s.wicks.length:Int)-1))=true then zcz s c else 4) else shopErr s
structure CandleOk (c:Candle):Prop where
 d:1≤c.diameter∧c.diameter≤2000
 g:0≤c.draught∧c.draught≤90
 c:0≤c.cold.lo∧c.cold.lo≤c.cold.hi∧c.cold.hi≤300
theorem zog {s:Shop} {c:Candle} (h:zcz s c=0):CandleOk c∧0≤c.wax∧c.wax<s.waxes.length:=by
 unfold zcz at h
 split at h
 ·rename_i h1
  split at h
  ·rename_i h2
   split at h
   ·cases h
   ·rename_i h3
    simp only [Bool.and_eq_true,zk2,znH] at h1 h2
    rw [Bool.not_eq_true,zi8] at h3
    exact ⟨⟨h2.1,h2.2.1,h2.2.2.1.1,h3,h2.2.2.2.2⟩,h1.1,by omega⟩
  ·cases h
 ·cases h
theorem zGX {s:Shop} {ks:List Int} {c:Candle} (h:zdY s ks c=0):shopErr s=0∧zcz s c=0∧∀ k,k∈ks→0≤k∧k<s.wicks.length:=by
 unfold zdY at h
 split at h
 ·rename_i h1
  split at h
  ·rename_i h2
   refine ⟨h1,h,fun k hk=>?_⟩
   have:=List.all_eq_true.1 h2 k hk
   rw [zk2] at this
   omega
  ·cases h
 ·rename_i h0;exact absurd h h0
def zek (s:Shop) (c:Candle) (x:Wax):PV:=.ptr 19 [.agg (s.pv.cells++c.pv.cells++x.pv.cells)] 0 0
attribute [go_sem] zek
theorem zvJ (l:List Int) (lo hi:Int):(l.any fun n=>!gIn n lo hi)=!(l.all fun n=>gIn n lo hi):=by rw [←List.not_all_eq_any_not]
theorem zxP (s:Shop) (c:Candle) (ks:List Int) (b:Bool) (xs:List PV) (hxs:xs=ks.map zay) (hks:ks.length<1000000) (x:Wax) (hx:zdY s ks c=0→s.waxes[c.wax.toNat]?=some x) :
  zae Tryz.prog 309 [s.pv,c.pv,.slice 1 xs b] (.tuple [if zdY s ks c=0 then zek s c x else .nilptr,.int .i64 (zdY s ks c)]):=by
 subst hxs
 refine zbT zad (fn:=Tryz.f309) (n:=74) (rs:=[.tmp 6,.tmp 7]) (by kernel_rfl) rfl rfl rfl zIM (Nat.le_of_ble_eq_true rfl) ?_
 simp only [go_sem,simprocAttr]
 refine zab (ziS s) rfl ?_
 simp only [zat,go_sem,simprocAttr]
 have hE:(zcl s).2.2=shopErr s:=rfl
 rw [hE]
 cases h0:(shopErr s != 0)
 rotate_left
 ·have h0':¬ shopErr s=0:=by simpa using h0
  simp only [zdY,if_neg h0',go_sem,simprocAttr]
 have h0':shopErr s=0:=by simpa using h0
 have ok:=zmy h0'
 have hw1:IntKind.i64.wrap ((s.wicks.length:Int)-1)=(s.wicks.length:Int)-1:=zaj (by omega) (by have:=ok.lw;omega)
 have hw2:IntKind.i64.wrap ((s.waxes.length:Int)-1)=(s.waxes.length:Int)-1:=zaj (by omega) (by have:=ok.lx;omega)
 have hA:zdY s ks c=if (ks.all fun k=>gIn k 0 ((s.wicks.length:Int)-1))=true then zcz s c else 4:=by simp only [zdY,if_pos h0']
 rw [hA] at hx ⊢
 simp only [hw1,go_sem,simprocAttr]
 refine zab (zcF 0 ((s.wicks.length:Int)-1) ks b (by omega)) rfl ?_
 simp only [go_sem,simprocAttr]
 rw [zvJ]
 cases h1:(ks.all fun k=>gIn k 0 ((s.wicks.length:Int)-1))
 ·simp only [go_sem,simprocAttr]
 rw [h1,if_pos rfl] at hx
 simp only [hw2,go_sem,simprocAttr]
 refine zab (zcF 0 ((s.waxes.length:Int)-1) [_] true (by simp)) rfl ?_
 simp only [List.any_cons,List.any_nil,go_sem,simprocAttr]
 cases h2:gIn c.wax 0 ((s.waxes.length:Int)-1)
 ·simp only [zcz,h2,go_sem,simprocAttr]
 simp only [go_sem,simprocAttr]
 refine zab (zcF 1 2000 [_] true (by simp)) rfl ?_
 simp only [List.any_cons,List.any_nil,go_sem,simprocAttr]
 cases h3:gIn c.diameter 1 2000
 ·simp only [zcz,h2,h3,go_sem,simprocAttr]
 simp only [go_sem,simprocAttr]
 refine zab (zcF 0 90 [_] true (by simp)) rfl ?_
 simp only [List.any_cons,List.any_nil,go_sem,simprocAttr]
 cases h4:gIn c.draught 0 90
 ·simp only [zcz,h2,h3,h4,go_sem,simprocAttr]
 simp only [go_sem,simprocAttr]
 refine zab (zcF 0 300 [_,_] true (by simp)) rfl ?_
 simp only [List.any_cons,List.any_nil,←Bool.not_and,go_sem,simprocAttr]
 cases h5:(gIn c.cold.lo 0 300&&gIn c.cold.hi 0 300)
 ·simp only [zcz,h2,h3,h4,inS,h5,go_sem,simprocAttr]
 simp only [go_sem,simprocAttr]
 refine zab (znM [c.cold] true (by simp)) rfl ?_
 simp only [List.any_cons,List.any_nil,go_sem,simprocAttr]
 cases h6:decide (c.cold.hi<c.cold.lo)
 rotate_left
 ·simp only [zcz,h2,h3,h4,inS,h5,zaJ,h6,go_sem,simprocAttr]
 have hc:zcz s c=0:=by simp only [zcz,h2,h3,h4,inS,h5,zaJ,h6];rfl
 have hxx:=hx hc
 obtain ⟨_,hc0,hc1⟩:=zog hc
 simp only [hc,hc0,hc1,hxx,go_sem,simprocAttr]
end Wk
end Abs
end Go.Proofs.YtahlnclapingiaaGreatDoor
namespace Go.Proofs.YtahlnclapingiaaGreatDoor
namespace Abs
namespace Wk
set_option maxRecDepth 4000
structure Site (s:Shop) (c:Candle) (x:Wax):Prop where
 so:ShopOk s
 co:CandleOk c
 c0:0≤c.wax
 c1:c.wax<(s.waxes.length:Int)
 hx:s.waxes[c.wax.toNat]?=some x
 xo:WaxOk x
structure SiteK (s:Shop) (k:Int) (w:Wick):Prop where
 k0:0≤k
 k1:k<(s.wicks.length:Int)
 hw:s.wicks[k.toNat]?=some w
 wo:WickOk w
theorem zCT {α:Type} {l:List α} {k:Int} (h0:0≤k) (h1:k<(l.length:Int)):∃ w,l[k.toNat]?=some w:=⟨_,List.getElem?_eq_getElem (by omega)⟩
theorem zAE {s:Shop} {ks:List Int} {c:Candle} (h:zdY s ks c=0):∃ x,Site s c x:=by
 obtain ⟨h1,h2,_⟩:=zGX h
 obtain ⟨co,c0,c1⟩:=zog h2
 obtain ⟨x,hx⟩:=zCT c0 c1
 have so:=zmy h1
 exact ⟨x,so,co,c0,c1,hx,so.x x (List.mem_of_getElem? hx)⟩
structure TOk (t:Truth):Prop where
 p:0≤t.pull∧t.pull≤1000
 f:0≤t.flow∧t.flow≤300
 r:0≤t.rise∧t.rise≤1000
 s:0≤t.spread∧t.spread≤2000
 d:-90≤t.draught∧t.draught≤90
 c:0≤t.cold∧t.cold≤300
def zcX (t:Truth):Int:=t.pull*t.flow*(100+t.draught)
def zp4 (chill:Int) (t:Truth):Burn:=⟨zcX t*100,zcX t*t.rise,zcX t*t.spread-t.cold*chill*100000⟩
theorem TOk.b {t:Truth} (h:TOk t):(0≤t.pull*t.flow∧t.pull*t.flow≤1000*300)∧(0≤zcX t∧zcX t≤1000*300*190)∧(0≤zcX t*t.rise∧zcX t*t.rise≤1000*300*190*1000) ∧
  (0≤zcX t*t.spread∧zcX t*t.spread≤1000*300*190*2000):=by
 have h1:=zfF h.p.1 h.p.2 h.f.1 h.f.2
 have h2:=zfF h1.1 h1.2 (b:=100+t.draught) (B:=190) (by have:=h.d;omega) (by have:=h.d;omega)
 exact ⟨h1,h2,zfF h2.1 h2.2 h.r.1 h.r.2,zfF h2.1 h2.2 h.s.1 h.s.2⟩
def zlD (a b c d:Int):Int:=IntKind.i64.wrap (IntKind.i64.wrap (IntKind.i64.wrap (IntKind.i64.wrap (1*a)*b)*c)*d)
theorem zoP (a b c d:Int):zae Tryz.prog 407 [.agg [.int .i64 a,.int .i64 b,.int .i64 c,.int .i64 d]] (.int .i64 (zlD a b c d)):=by
 refine zaa zad (fn:=Tryz.f407) (n:=15) (rs:=[.tmp 2]) (by kernel_rfl) rfl rfl rfl zHN (Nat.le_of_ble_eq_true rfl) ?_
 simp only [go_sem,simprocAttr]
 refine zaR ?_
 simp only [go_sem,simprocAttr]
 refine zaR ?_
 simp only [go_sem,simprocAttr]
 refine zaR ?_
 simp only [go_sem,simprocAttr]
 refine zaR ?_
 simp only [go_sem,simprocAttr]
 refine zaR ?_
 simp only [go_sem,simprocAttr]
 rfl
theorem zCQ (s:Shop) (c:Candle) (x:Wax) (t:Truth) (h:TOk t) (hc:0≤x.chill∧x.chill≤50):zae Tryz.prog 397 [zek s c x,t.pv] (zp4 x.chill t).pv:=by
 obtain ⟨b1,b2,b3,b4⟩:=h.b
 have w1:IntKind.i64.wrap (100+t.draught)=100+t.draught:=zaj (by have:=h.d;omega) (by have:=h.d;omega)
 have w2:IntKind.i64.wrap (1*t.pull)=t.pull:=by rw [Int.one_mul];exact zaj (by have:=h.p;omega) (by have:=h.p;omega)
 have w3:IntKind.i64.wrap (t.pull*t.flow)=t.pull*t.flow:=zaj (by omega) (by omega)
 have w4:IntKind.i64.wrap (t.pull*t.flow*(100+t.draught))=zcX t:=zaj (by unfold zcX at b2;omega) (by unfold zcX at b2;omega)
 have p0:zlD t.pull t.flow (100+t.draught) 100=zcX t*100:=by unfold zlD;rw [w2,w3,w4];exact zaj (by omega) (by omega)
 have p1:zlD t.pull t.flow (100+t.draught) t.rise=zcX t*t.rise:=by unfold zlD;rw [w2,w3,w4];exact zaj (by omega) (by omega)
 have p2:zlD t.pull t.flow (100+t.draught) t.spread=zcX t*t.spread:=by unfold zlD;rw [w2,w3,w4];exact zaj (by omega) (by omega)
 have bc:=zfF h.c.1 h.c.2 hc.1 hc.2
 have q1:IntKind.i64.wrap (t.cold*x.chill)=t.cold*x.chill:=zaj (by omega) (by omega)
 have q2:IntKind.i64.wrap (t.cold*x.chill*1000000)=t.cold*x.chill*1000000:=zaj (by omega) (by omega)
 have q3:IntKind.i64.wrap ((t.cold*x.chill*1000000).tdiv 10)=t.cold*x.chill*100000:=by
  have:(t.cold*x.chill*1000000).tdiv 10=t.cold*x.chill*100000:=by
   rw [show t.cold*x.chill*1000000=(t.cold*x.chill*100000)*10 by omega,Int.mul_tdiv_cancel _ (by decide)]
  rw [this];exact zaj (by omega) (by omega)
 have q4:IntKind.i64.wrap (zcX t*t.spread-t.cold*x.chill*100000)=zcX t*t.spread-t.cold*x.chill*100000:=zaj (by omega) (by omega)
 refine zaa zad (fn:=Tryz.f397) (n:=59) (rs:=[.cell 4 438]) (by kernel_rfl) rfl rfl rfl zHV (Nat.le_of_ble_eq_true rfl) ?_
 simp only [go_sem,simprocAttr]
 refine zaR ?_
 simp only [w1,go_sem,simprocAttr]
 refine zab (zoP _ _ _ _) rfl ?_
 simp only [p0,go_sem,simprocAttr]
 refine zaR ?_
 simp only [w1,go_sem,simprocAttr]
 refine zab (zoP _ _ _ _) rfl ?_
 simp only [p1,go_sem,simprocAttr]
 refine zaR ?_
 simp only [w1,go_sem,simprocAttr]
 refine zau (zoP _ _ _ _) rfl ?_
 simp only [p2,q1,q2,q3,q4,go_sem,simprocAttr]
 refine zaR ?_
 simp only [zp4,go_sem,simprocAttr]
def ziK (w:Wick) (x:Wax) (c:Candle):Truth:=⟨w.pull.lo,x.flow.lo,x.rise.lo,x.spread.lo,-c.draught,c.cold.hi⟩
def zkk (w:Wick) (x:Wax) (c:Candle):Truth:=⟨w.pull.hi,x.flow.hi,x.rise.hi,x.spread.hi,c.draught,c.cold.lo⟩
theorem zDE {w:Wick} {x:Wax} {c:Candle} (hw:WickOk w) (hx:WaxOk x) (hc:CandleOk c):TOk (ziK w x c):=by
 have:=hw.p;have:=hx.f;have:=hx.r;have:=hx.s;have:=hc.g;have:=hc.c
 constructor<;>(simp only [ziK];omega)
theorem zFS {w:Wick} {x:Wax} {c:Candle} (hw:WickOk w) (hx:WaxOk x) (hc:CandleOk c):TOk (zkk w x c):=by
 have:=hw.p;have:=hx.f;have:=hx.r;have:=hx.s;have:=hc.g;have:=hc.c
 constructor<;>(simp only [zkk];omega)
theorem zEf (s:Shop) (c:Candle) (x:Wax) (k:Int) (w:Wick) (hs:Site s c x) (hk:SiteK s k w):zae Tryz.prog 396 [zek s c x,.int .i64 k] (.tuple [(ziK w x c).pv,(zkk w x c).pv]):=by
 have k0:=hk.k0
 have k1:=hk.k1
 have hw:=hk.hw
 have hn:IntKind.i64.wrap (-c.draught)=-c.draught:=zaj (by have:=hs.co.g;omega) (by have:=hs.co.g;omega)
 refine zaa zad (fn:=Tryz.f396) (n:=68) (rs:=[.cell 4 433,.cell 5 433]) (by kernel_rfl) rfl rfl rfl zHW (Nat.le_of_ble_eq_true rfl) ?_
 simp only [zHc,zal,k0,k1,hw,hn,ziK,zkk,go_sem,simprocAttr]
def leastB (w:Wick) (x:Wax) (c:Candle):Burn:=zp4 x.chill (ziK w x c)
def mostB (w:Wick) (x:Wax) (c:Candle):Burn:=zp4 x.chill (zkk w x c)
theorem znQ (s:Shop) (c:Candle) (x:Wax) (k:Int) (w:Wick) (hs:Site s c x) (hk:SiteK s k w):zae Tryz.prog 389 [zek s c x,.int .i64 k] (.tuple [(leastB w x c).pv,(mostB w x c).pv]):=by
 refine zaa zad (fn:=Tryz.f389) (n:=26) (rs:=[.cell 4 438,.cell 5 438]) (by kernel_rfl) rfl rfl rfl zH1 (Nat.le_of_ble_eq_true rfl) ?_
 simp only [go_sem,simprocAttr]
 refine zab (zEf s c x k w hs hk) rfl ?_
 simp only [go_sem,simprocAttr]
 refine zab (zCQ s c x (ziK w x c) (zDE hk.wo hs.xo hs.co) hs.xo.c) rfl ?_
 simp only [go_sem,simprocAttr]
 refine zaH (fun hb=>?_) (fun hb=>?_)
 ·have he:ziK w x c=zkk w x c:=by
   simp only [Bool.and_eq_true,beq_iff_eq] at hb
   simp only [ziK,zkk] at hb ⊢
   simp [hb]
  simp only [leastB,mostB,he,go_sem,simprocAttr]
 ·simp only [go_sem,simprocAttr]
  refine zau (zCQ s c x (zkk w x c) (zFS hk.wo hs.xo hs.co) hs.xo.c) rfl ?_
  simp only [leastB,mostB,go_sem,simprocAttr]
end Wk
end Abs
end Go.Proofs.YtahlnclapingiaaGreatDoor
namespace Go.Proofs.YtahlnclapingiaaGreatDoor
namespace Abs
namespace Wk
set_option maxRecDepth 4000
def zez:Burn:=⟨0,0,0⟩
attribute [go_sem] zez
end Wk
end Abs
end Go.Proofs.YtahlnclapingiaaGreatDoor
namespace Go.Proofs.YtahlnclapingiaaGreatDoor
namespace Abs
namespace Wk
set_option maxRecDepth 4000
def ziD (s:Shop) (b:Burn):Bool:=decide (s.flame.hi*1000000<b.flame)
def zhl (s:Shop) (b:Burn):Bool:=decide (b.flame<s.flame.lo*1000000)
def zhe (s:Shop) (d:Int) (b:Burn):Bool:=decide (b.pool<s.pool.lo*d*1000)
def zf5 (s:Shop) (d:Int) (b:Burn):Bool:=decide (s.pool.hi*d*1000<b.pool)
def zc4 (b:Bool) (n:Int):List Int:=if b=true then [n] else []
def zid (s:Shop) (d:Int) (l m:Burn):List Int:=zc4 (ziD s m) 1++(zc4 (zhl s l) 2++(zc4 (zhe s d l) 3++zc4 (zf5 s d m) 4))
def ztF (l:List Int):PV:=.slice 1 (l.map zay) false
theorem zv6 {s:Shop} (so:ShopOk s) {d:Int} (hd:1≤d∧d≤2000):(0≤s.pool.lo*d∧s.pool.lo*d≤2000*2000)∧(0≤s.pool.hi*d∧s.pool.hi*d≤2000*2000) :=
 ⟨zfF (by have:=so.po;omega) (by have:=so.po;omega) (by omega) hd.2,zfF (by have:=so.po;omega) (by have:=so.po;omega) (by omega) hd.2⟩
theorem zCN (s:Shop) (c:Candle) (x:Wax) (n:Int) (hn:0≤n*c.diameter∧n*c.diameter≤2000*2000):zae Tryz.prog 384 [.int .i64 n,.ptr 1 [zek s c x] 0 0] (.int .i64 (n*c.diameter*1000)):=by
 have w1:IntKind.i64.wrap (n*c.diameter)=n*c.diameter:=zaj (by omega) (by omega)
 have w2:IntKind.i64.wrap (n*c.diameter*1000)=n*c.diameter*1000:=zaj (by omega) (by omega)
 refine zaa zad (fn:=Tryz.f384) (n:=12) (rs:=[.tmp 3]) (by kernel_rfl) rfl rfl rfl zH6 (Nat.le_of_ble_eq_true rfl) ?_
 simp only [w1,w2,go_sem,simprocAttr]
theorem zEm (s:Shop) (c:Candle) (x:Wax) (so:ShopOk s) (l m:Burn):zae Tryz.prog 385 [l.pv,m.pv,.ptr 1 [zek s c x] 0 0] (.bool (ziD s m)):=by
 have w1:IntKind.i64.wrap (s.flame.hi*1000000)=s.flame.hi*1000000:=zaj (by have:=so.fl;omega) (by have:=so.fl;omega)
 refine zaa zad (fn:=Tryz.f385) (n:=16) (rs:=[.tmp 5]) (by kernel_rfl) rfl rfl rfl zH5 (Nat.le_of_ble_eq_true rfl) ?_
 simp only [w1,ziD,go_sem,simprocAttr]
theorem zBJ (s:Shop) (c:Candle) (x:Wax) (so:ShopOk s) (l m:Burn):zae Tryz.prog 386 [l.pv,m.pv,.ptr 1 [zek s c x] 0 0] (.bool (zhl s l)):=by
 have w1:IntKind.i64.wrap (s.flame.lo*1000000)=s.flame.lo*1000000:=zaj (by have:=so.fl;omega) (by have:=so.fl;omega)
 refine zaa zad (fn:=Tryz.f386) (n:=16) (rs:=[.tmp 5]) (by kernel_rfl) rfl rfl rfl zH4 (Nat.le_of_ble_eq_true rfl) ?_
 simp only [w1,zhl,go_sem,simprocAttr]
def zs8 (s:Shop) (c:Candle) (x:Wax):PV:=.ptr 1 [.func (.func 384) [] [.ptr 1 [zek s c x] 0 0]] 0 0
attribute [go_sem] zs8
theorem zBA (s:Shop) (c:Candle) (x:Wax) (so:ShopOk s) (co:CandleOk c) (l m:Burn):zae Tryz.prog 387 [l.pv,m.pv,zs8 s c x,.ptr 1 [zek s c x] 0 0] (.bool (zhe s c.diameter l)):=by
 refine zaa zad (fn:=Tryz.f387) (n:=18) (rs:=[.tmp 6]) (by kernel_rfl) rfl rfl rfl zH3 (Nat.le_of_ble_eq_true rfl) ?_
 simp only [go_sem,simprocAttr]
 refine zau (zCN s c x s.pool.lo (zv6 so co.d).1) rfl ?_
 simp only [zhe,go_sem,simprocAttr]
theorem zK9 (s:Shop) (c:Candle) (x:Wax) (so:ShopOk s) (co:CandleOk c) (l m:Burn):zae Tryz.prog 388 [l.pv,m.pv,zs8 s c x,.ptr 1 [zek s c x] 0 0] (.bool (zf5 s c.diameter m)):=by
 refine zaa zad (fn:=Tryz.f388) (n:=18) (rs:=[.tmp 6]) (by kernel_rfl) rfl rfl rfl zH2 (Nat.le_of_ble_eq_true rfl) ?_
 simp only [go_sem,simprocAttr]
 refine zau (zCN s c x s.pool.hi (zv6 so co.d).2) rfl ?_
 simp only [zf5,go_sem,simprocAttr]
def zh8 (a b c d:Bool):Nat→List Int
 |0=>[]
 |1=>zc4 a 1
 |2=>zc4 a 1++zc4 b 2
 |3=>zc4 a 1++zc4 b 2++zc4 c 3
 |_=>zc4 a 1++zc4 b 2++zc4 c 3++zc4 d 4
theorem zkp (b:Bool) (n:Int):(zc4 b n).length≤1:=by cases b<;>simp [zc4]
theorem zAS (a b c d:Bool) (i:Nat):(zh8 a b c d i).length≤4:=by
 have h1:=zkp a 1;have h2:=zkp b 2;have h3:=zkp c 3;have h4:=zkp d 4
 match i with
 |0=>simp [zh8]
 |1=>simp [zh8];omega
 |2=>simp [zh8];omega
 |3=>simp [zh8];omega
 |_+4=>simp [zh8];omega
theorem zAT (s:Shop) (d:Int) (l m:Burn):zh8 (ziD s m) (zhl s l) (zhe s d l) (zf5 s d m) 4=zid s d l m:=by simp [zh8,zid]
theorem zzU (s:Shop) (c:Candle) (x:Wax) (k:Int) (w:Wick) (hs:Site s c x) (hk:SiteK s k w):zae Tryz.prog 353 [zek s c x,.int .i64 k] (ztF (zid s c.diameter (leastB w x c) (mostB w x c))):=by
 refine zei zad (fn:=Tryz.f353) (n:=45) (rs:=[.tmp 4]) (by kernel_rfl) rfl rfl rfl zIm (Nat.le_of_ble_eq_true rfl) ?_
 simp only [go_sem,simprocAttr]
 refine zab (znQ s c x k w hs hk) rfl ?_
 simp only [go_sem,simprocAttr]
 refine zcQ 4 1 (by simp only [go_sem,simprocAttr]) ?_
 simp only [go_sem,simprocAttr]
 generalize ho:zh8 (ziD s (mostB w x c)) (zhl s (leastB w x c)) (zhe s c.diameter (leastB w x c)) (zf5 s c.diameter (mostB w x c))=o
 have hlen:∀ i,(o i).length+1≤zar:=fun i=>by
  have:=zAS (ziD s (mostB w x c)) (zhl s (leastB w x c)) (zhe s c.diameter (leastB w x c)) (zf5 s c.diameter (mostB w x c)) i
  rw [ho] at this
  simp only [zar];omega
 refine zEP [7,8,27,28] (σ:=Nat) (fun i=>i≤4) (fun i=>4-i) (fun i=>[(4,.slice 5 (o i).length 0 (o i).length),(29,.p (.int .i64 i))]) (fun i h=>h.set 5 (.row 1 ((o i).map fun n=>.p (.int .i64 n)))) 0 (by omega) ?_ ?_
 ·have h0:o 0=[]:=by rw [←ho];rfl
  simp only [h0,go_sem,simprocAttr]
 intro i hi
 have hcase:i=0∨i=1∨i=2∨i=3∨i=4:=by omega
 rcases hcase with rfl | rfl | rfl | rfl | rfl
 ·have hl:=hlen 0
  have h1:o 1=o 0++zc4 (ziD s (mostB w x c)) 1:=by rw [←ho];simp [zh8]
  simp only [go_sem,simprocAttr]
  refine zaO (zEm s c x hs.so (leastB w x c) (mostB w x c)) ?_ (.bool _) ?_
  ·simp only [go_sem,simprocAttr]
  simp only [go_sem,simprocAttr]
  cases hb:ziD s (mostB w x c)
  ·have h1':o 1=o 0:=by rw [h1,hb];simp [zc4]
   simp only [go_sem,simprocAttr]
   refine zb5 1 (by omega) (by omega) ?_
   simp only [h1',go_sem,simprocAttr]
  ·have h1':o 1=o 0++[1]:=by rw [h1,hb];rfl
   simp only [hl,go_sem,simprocAttr]
   refine zb5 1 (by omega) (by omega) ?_
   simp only [h1',List.length_append,List.map_append,go_sem,simprocAttr]
 ·have hl:=hlen 1
  have h1:o 2=o 1++zc4 (zhl s (leastB w x c)) 2:=by rw [←ho];simp [zh8]
  simp only [go_sem,simprocAttr]
  refine zaO (zBJ s c x hs.so (leastB w x c) (mostB w x c)) ?_ (.bool _) ?_
  ·simp only [go_sem,simprocAttr]
  simp only [go_sem,simprocAttr]
  cases hb:zhl s (leastB w x c)
  ·have h1':o 2=o 1:=by rw [h1,hb];simp [zc4]
   simp only [go_sem,simprocAttr]
   refine zb5 2 (by omega) (by omega) ?_
   simp only [h1',go_sem,simprocAttr]
  ·have h1':o 2=o 1++[2]:=by rw [h1,hb];rfl
   simp only [hl,go_sem,simprocAttr]
   refine zb5 2 (by omega) (by omega) ?_
   simp only [h1',List.length_append,List.map_append,go_sem,simprocAttr]
 ·have hl:=hlen 2
  have h1:o 3=o 2++zc4 (zhe s c.diameter (leastB w x c)) 3:=by rw [←ho];simp [zh8]
  simp only [go_sem,simprocAttr]
  refine zaO (zBA s c x hs.so hs.co (leastB w x c) (mostB w x c)) ?_ (.bool _) ?_
  ·simp only [go_sem,simprocAttr]
  simp only [go_sem,simprocAttr]
  cases hb:zhe s c.diameter (leastB w x c)
  ·have h1':o 3=o 2:=by rw [h1,hb];simp [zc4]
   simp only [go_sem,simprocAttr]
   refine zb5 3 (by omega) (by omega) ?_
   simp only [h1',go_sem,simprocAttr]
  ·have h1':o 3=o 2++[3]:=by rw [h1,hb];rfl
   simp only [hl,go_sem,simprocAttr]
   refine zb5 3 (by omega) (by omega) ?_
   simp only [h1',List.length_append,List.map_append,go_sem,simprocAttr]
 ·have hl:=hlen 3
  have h1:o 4=o 3++zc4 (zf5 s c.diameter (mostB w x c)) 4:=by rw [←ho];simp [zh8]
  simp only [go_sem,simprocAttr]
  refine zaO (zK9 s c x hs.so hs.co (leastB w x c) (mostB w x c)) ?_ (.bool _) ?_
  ·simp only [go_sem,simprocAttr]
  simp only [go_sem,simprocAttr]
  cases hb:zf5 s c.diameter (mostB w x c)
  ·have h1':o 4=o 3:=by rw [h1,hb];simp [zc4]
   simp only [go_sem,simprocAttr]
   refine zb5 4 (by omega) (by omega) ?_
   simp only [h1',go_sem,simprocAttr]
  ·have h1':o 4=o 3++[4]:=by rw [h1,hb];rfl
   simp only [hl,go_sem,simprocAttr]
   refine zb5 4 (by omega) (by omega) ?_
   simp only [h1',List.length_append,List.map_append,go_sem,simprocAttr]
 ·have h4:o 4=zid s c.diameter (leastB w x c) (mostB w x c):=by rw [←ho];exact zAT _ _ _ _
  simp only [h4,ztF,go_sem,simprocAttr]
  first | rfl | exact .inl rfl | exact ⟨_,_,rfl,rfl,.inr ⟨rfl,1,rfl⟩,.inl rfl,.inl rfl,trivial⟩ | exact ⟨_,_,rfl,rfl,.inr ⟨rfl,1,rfl⟩,.inl rfl,trivial⟩ | exact ⟨_,_,rfl,rfl,.inl rfl,.inl rfl,trivial⟩ | exact .inl (.inl rfl) | exact .inl (.inr ⟨rfl,1,rfl⟩) | exact .inr ⟨_,_,rfl,rfl,.inl rfl,.inl rfl,trivial⟩ | exact .inr ⟨_,_,rfl,rfl,.inr ⟨rfl,1,rfl⟩,.inl rfl,trivial⟩ | exact ⟨1,rfl⟩ | (simp;done) | (refine .inr ⟨_,_,rfl,rfl,?_⟩;repeat' (first | exact trivial | exact .inl rfl | exact .inr ⟨rfl,1,rfl⟩ | refine ⟨?_,?_⟩))
end Wk
end Abs
end Go.Proofs.YtahlnclapingiaaGreatDoor
namespace Go.Proofs.YtahlnclapingiaaGreatDoor
namespace Abs
namespace Wk
set_option maxRecDepth 4000
def okW (s:Shop) (c:Candle) (x:Wax) (w:Wick):Bool:=(zid s c.diameter (leastB w x c) (mostB w x c)).length==0
def zdO (s:Shop) (c:Candle) (x:Wax):List Wick→Nat→List Int
 |[],_=>[]
 |w::r,i=>if okW s c x w=true then (i:Int)::zdO s c x r (i+1) else zdO s c x r (i+1)
theorem zDh {s:Shop} {c:Candle} {x:Wax} (hs:Site s c x) {done r:List Wick} {w:Wick} (e:s.wicks=done++w::r):SiteK s (done.length:Int) w :=
 ⟨by omega,by rw [e];simp<;>omega,by rw [e];simp,hs.so.w w (by rw [e];simp)⟩
def zo3 (s:Shop) (c:Candle) (x:Wax):PV:=.func (.func 352) [] [.ptr 1 [zek s c x] 0 0]
theorem zA8 (s:Shop) (c:Candle) (x:Wax) (hs:Site s c x):zHb Tryz.prog (zo3 s c x) ((zdO s c x s.wicks 0).map zay):=by
 refine ⟨_,_,_,rfl,fun id Inv Fin h0 hlen hy hi=>?_⟩
 have lw:=hs.so.lw
 refine zan zad (fn:=Tryz.f352) (n:=25) (rs:=[]) (by kernel_rfl) rfl rfl rfl zIn (Nat.le_of_ble_eq_true rfl) ?_
 simp only [go_sem,simprocAttr]
 refine zcZ [0,1,9] (σ:=List Wick×List Wick×List Int×Heap) (fun q=>s.wicks=q.1++q.2.1∧zdO s c x s.wicks 0=q.2.2.1++zdO s c x q.2.1 q.1.length∧Inv q.2.2.1.length q.2.2.2) (fun q=>q.2.1.length)
  (fun q=>[(10,.p (.int .i64 q.1.length))]) (fun q=>q.2.2.2) ([],s.wicks,[],h0) ⟨rfl,rfl,hi⟩ rfl ?_ ?_
 ·simp only [go_sem,simprocAttr]
 rintro ⟨done,rest,pre,h⟩ ⟨e1,e2,hI⟩
 dsimp only at e1 e2 hI
 cases rest with
 |nil =>
  have hlt:¬ ((done.length:Int)<(s.wicks.length:Int)):=by rw [e1];simp
  simp only [hlt,go_sem,simprocAttr]
  refine .inl ?_
  rw [e2,zdO,List.append_nil]
  exact hI
 |cons w r =>
  obtain ⟨hx,hlt⟩:=zeb e1
  have hnx:IntKind.i64.wrap ((done.length:Int)+1)=(((done++[w]).length:Nat):Int):=za9 (by omega) (by simp [zar];omega) (by simp)
  have hk:=zDh hs e1
  rw [zdO] at e2
  simp only [hlt,go_sem,simprocAttr]
  refine zab (zzU s c x _ w hs hk) rfl ?_
  simp only [ztF,go_sem,simprocAttr]
  have hok:((((zid s c.diameter (leastB w x c) (mostB w x c)).length:Nat):Int)==0)=okW s c x w:=by
   unfold okW
   rw [Bool.eq_iff_iff];simp
  rw [hok]
  cases hb:okW s c x w
  ·simp only [go_sem,simprocAttr]
   refine zaS (done++[w],r,pre,h) ⟨by simp [e1],by rw [e2,hb];simp,hI⟩ (by simp) rfl ?_
   simp only [hnx,go_sem,simprocAttr]
  ·rw [hb,if_pos rfl] at e2
   have hget:((zdO s c x s.wicks 0).map zay)[pre.length]?=some (.int .i64 done.length):=by rw [e2];simp [zay]
   simp only [go_sem,simprocAttr]
   refine ziV (hy pre.length _ h hget hI) (fun v h' hr=>?_) (fun v h' hr=>?_)
   rotate_left
   ·rcases hr with ⟨hr,_⟩ | ⟨hr,_⟩<;>cases hr
   rcases hr with ⟨hr,hI'⟩ | ⟨hr,hF,_⟩
   ·cases hr
    simp only [go_sem,simprocAttr]
    refine zaS (done++[w],r,pre++[(done.length:Int)],h') ⟨by simp [e1],by rw [e2];simp,by simpa using hI'⟩ (by simp) rfl ?_
    simp only [hnx,go_sem,simprocAttr]
   ·cases hr
    simp only [go_sem,simprocAttr]
    exact .inr hF
theorem zBB (s:Shop) (c:Candle) (x:Wax):zae Tryz.prog 310 [zek s c x] (zo3 s c x):=by
 refine zbT zad (fn:=Tryz.f310) (n:=4) (rs:=[.tmp 2]) (by kernel_rfl) rfl rfl rfl zIL (Nat.le_of_ble_eq_true rfl) ?_
 simp only [zo3,go_sem,simprocAttr]
theorem zmp {α:Type} {l:List α} {k:Nat} {x:α} (h:l[k]?=some x):l.take (k+1)=l.take k++[x]:=by
 rw [List.take_add_one,h];rfl
def thr (s:Shop) (n:Int):Int:=match s.wicks[n.toNat]? with | some w=>w.threads | none=>0
def zdJ (s:Shop):List Int→Int→Int
 |[],b=>b
 |n::r,b=>zdJ s r (if (decide (b<0)||decide (thr s n<thr s b))=true then n else b)
def valid (s:Shop) (n:Int):Prop:=0≤n∧n<(s.wicks.length:Int)
theorem zit (s:Shop) (c:Candle) (x:Wax):∀ (l:List Wick) (i:Nat),i+l.length=s.wicks.length→∀ n,n∈zdO s c x l i→valid s n
 |[],_,_,n,hn=>by cases hn
 |w::r,i,hi,n,hn=>by
  unfold zdO at hn
  simp only [List.length_cons] at hi
  split at hn
  ·rcases List.mem_cons.1 hn with rfl | hn
   ·exact ⟨by omega,by omega⟩
   ·exact zit s c x r (i+1) (by omega) n hn
  ·exact zit s c x r (i+1) (by omega) n hn
theorem zsJ {s:Shop} {n:Int} (h:valid s n):∃ w,s.wicks[n.toNat]?=some w∧thr s n=w.threads:=by
 obtain ⟨w,hw⟩:=zCT h.1 h.2
 exact ⟨w,hw,by simp [thr,hw]⟩
theorem zl9 (s:Shop):∀ (l:List Int) (b:Int),(∀ n,n∈l→valid s n)→(b=-1∨valid s b)→zdJ s l b=-1∨valid s (zdJ s l b)
 |[],b,_,hb=>hb
 |n::r,b,hl,hb=>by
  unfold zdJ
  refine zl9 s r _ (fun m hm=>hl m (by simp [hm])) ?_
  split
  ·exact .inr (hl n (by simp))
  ·exact hb
theorem zoj (s:Shop):∀ (l:List Int) (n b:Int),zdJ s (l++[n]) b=if (decide (zdJ s l b<0)||decide (thr s n<thr s (zdJ s l b)))=true then n else zdJ s l b
 |[],n,b=>rfl
 |m::r,n,b=>by
  rw [List.cons_append,zdJ,zoj s r n,zdJ]
def zch (s:Shop) (c:Candle) (x:Wax):Int×Int :=
 if zdY s [] c=0 then (if zdJ s (zdO s c x s.wicks 0) (-1)<0 then (0,9) else (zdJ s (zdO s c x s.wicks 0) (-1),0)) else (0,zdY s [] c)
theorem zsi (s:Shop) (c:Candle) (x:Wax) (h:zdY s [] c=0→Site s c x):zae Tryz.prog 221 [s.pv,c.pv] (.tuple [.int .i64 (zch s c x).1,.int .i64 (zch s c x).2]):=by
 refine zaa zad (fn:=Tryz.f221) (n:=49) (rs:=[.tmp 4,.tmp 5]) (by kernel_rfl) rfl rfl rfl zJz (Nat.le_of_ble_eq_true rfl) ?_
 simp only [go_sem,simprocAttr]
 refine zab ((zxP s c [] false _ rfl (by simp) x (fun h0=>(h h0).hx)).argless (args':=[s.pv,c.pv,.nilslice]) ⟨.inl rfl,.inl rfl,.inr ⟨rfl,1,rfl⟩,trivial⟩) rfl ?_
 by_cases h0':zdY s [] c=0
 rotate_left
 ·have h0:(zdY s [] c != 0)=true:=by simpa using h0'
  simp only [h0,zch,if_neg h0',go_sem,simprocAttr]
 have h0:(zdY s [] c != 0)=false:=by simpa using h0'
 have hs:=h h0'
 simp only [h0,if_pos h0',go_sem,simprocAttr]
 refine zab (zBB s c x) rfl ?_
 simp only [go_sem,simprocAttr]
 generalize hl:zdO s c x s.wicks 0=l
 have hval:∀ n,n∈l→valid s n:=by
  intro n hn
  rw [←hl] at hn
  exact zit s c x s.wicks 0 (by simp) n hn
 have hit:=zA8 s c x hs
 rw [hl] at hit
 refine zG1 (l:=l.map zay) (fun o k h=>k≤l.length∧h=[.row 6 [.p s.pv],.row 5 [.p c.pv],.row 1 [.p (zek s c x)],.row 1 [.p (.int .i64 (zdJ s (l.take k) (-1)))],.dblock,o]) (fun _ _=>False)
  rfl (by simp only [zo3,go_sem,simprocAttr]) hit zad (by kernel_rfl) rfl (by kernel_rfl) (by kernel_rfl) ?_ ?_ ?_ ?_ ?_ (fun _ _ h=>h.elim)
 ·rintro o k h ⟨_,rfl⟩;simp
 ·rintro o k h ⟨_,rfl⟩;simp
 ·intro o
  refine ⟨by omega,?_⟩
  simp only [go_sem,simprocAttr]
  rfl
 ·rintro oR oB oD k v h hv ⟨hk,rfl⟩
  have hv':∃ n,l[k]?=some n∧v=.int .i64 n:=by
   rw [List.getElem?_map,Option.map_eq_some_iff] at hv
   obtain ⟨n,h1,rfl⟩:=hv
   exact ⟨n,h1,rfl⟩
  obtain ⟨n,hn,rfl⟩:=hv'
  have hlt:k<l.length:=(List.getElem?_eq_some_iff.1 hn).1
  have hnv:=hval n (List.mem_of_getElem? hn)
  obtain ⟨w,hw,ht⟩:=zsJ hnv
  have hb:=zoj s (l.take k) n (-1)
  rw [←zmp hn] at hb
  have hbv:=zl9 s (l.take k) (-1) (fun m hm=>hval m (List.mem_of_mem_take hm)) (.inl rfl)
  generalize zdJ s (l.take k) (-1)=b at hb hbv
  have n0:=hnv.1
  have n1:=hnv.2
  simp only [go_sem,simprocAttr]
  cases hneg:decide (b<0)
  ·have hbv':valid s b:=by
    rcases hbv with h | h
    ·rw [h] at hneg;simp at hneg
    ·exact h
   obtain ⟨w2,hw2,ht2⟩:=zsJ hbv'
   have b0:=hbv'.1
   have b1:=hbv'.2
   rw [hneg,ht,ht2] at hb
   simp only [n0,n1,b0,b1,hw,hw2,go_sem,simprocAttr]
   cases hlt2:decide (w.threads<w2.threads)
   ·rw [hlt2] at hb
    simp only [hb,go_sem,simprocAttr]
    exact hlt
   ·rw [hlt2] at hb
    simp only [hb,go_sem,simprocAttr]
    exact hlt
  ·rw [hneg] at hb
   simp only [hb,go_sem,simprocAttr]
   exact hlt
 ·rintro o h ⟨_,rfl⟩
  have h1:l.take (l.map zay).length=l:=by simp
  rw [h1]
  simp only [zaX,go_sem,simprocAttr]
  cases hneg:decide (zdJ s l (-1)<0)
  ·have:¬ zdJ s l (-1)<0:=by simpa using hneg
   simp only [zch,if_pos h0',hl,if_neg this,zaX,go_sem,simprocAttr]
  ·have:zdJ s l (-1)<0:=by simpa using hneg
   simp only [zch,if_pos h0',hl,if_pos this,zaX,go_sem,simprocAttr]
end Wk
end Abs
end Go.Proofs.YtahlnclapingiaaGreatDoor
