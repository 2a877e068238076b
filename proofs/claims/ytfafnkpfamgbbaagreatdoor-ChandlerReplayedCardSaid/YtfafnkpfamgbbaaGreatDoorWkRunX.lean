/-
  CONTRACTS: a shop that is looked at with a candle; how it burns.
  CONTRACTS: how a candle burns in a truth; the ends.
  CONTRACTS: At, Burn, Minutes, in the program and in the reference.
  CONTRACTS: what is wrong with a candle, in the program and in the reference.
  CONTRACTS: 
  CONTRACTS: the wicks that suit.
  CONTRACTS: the thinnest wick that suits.
-/
import Derived.Test.YtfafnkpfamgbbaaGreatDoorAbsCutX
import Derived.Test.YtfafnkpfamgbbaaGreatDoorWkChk
set_option linter.unusedSimpArgs false
set_option linter.unusedVariables false
open Go.Proofs.Tryz renaming prog->TP
namespace Go.Proofs.YtfafnkpfamgbbaaGreatDoor
namespace Abs
namespace Wk
set_option maxRecDepth 4000
structure WickOk (w:Wick):Prop where
 t:1<=w.threads/\w.threads<=100
 p:1<=w.pull.lo/\w.pull.lo<=w.pull.hi/\w.pull.hi<=1000
structure WaxOk (x:Wax):Prop where
 f:1<=x.flow.lo/\x.flow.lo<=x.flow.hi/\x.flow.hi<=300
 r:1<=x.rise.lo/\x.rise.lo<=x.rise.hi/\x.rise.hi<=1000
 s:1<=x.spread.lo/\x.spread.lo<=x.spread.hi/\x.spread.hi<=2000
 c:0<=x.chill/\x.chill<=50
structure ShopOk (s:Shop):Prop where
 lw:1<=s.wicks.length/\s.wicks.length<=12
 lx:1<=s.waxes.length/\s.waxes.length<=6
 fl:0<=s.flame.lo/\s.flame.lo<=s.flame.hi/\s.flame.hi<=2000
 po:0<=s.pool.lo/\s.pool.lo<=s.pool.hi/\s.pool.hi<=2000
 w:∀ w,w∈s.wicks->WickOk w
 x:∀ x,x∈s.waxes->WaxOk x
def shopErr (s:Shop):Int:=(cj s).2.2
theorem tf {n lo hi}:ar n lo hi=true↔lo<=n/\n<=hi:=by simp [ar]
theorem xp {s} {lo hi}:cp s lo hi=true↔(lo<=s.lo/\s.lo<=hi)/\lo<=s.hi/\s.hi<=hi:=by simp [cp,ar]
theorem qn {s}:aO s=false↔s.lo<=s.hi:=by simp [aO]
theorem Jv {b} {w} (h:cl b w=0):WickOk w:=by
 unfold cl at h;split at h
 .split at h
  .rename_i h1;split at h
   .cases h
   .rename_i h2;simp only [cK,tf,xp] at h1;rw [Jh,qn] at h2;exact ⟨h1.1,h1.2.1.1,h2,h1.2.2.2⟩
  .cases h
 .rename_i h0;exact absurd h h0
theorem Lf {b} {x} (h:dx b x=0):WaxOk x:=by
 unfold dx at h;split at h
 .split at h
  .rename_i h1;split at h
   .cases h
   .rename_i h2;simp only [cK,tf,xp] at h1;rw [Jh] at h2;simp only [Nu,qn] at h2;exact ⟨⟨h1.1.2.1.1,h2.1,h1.1.2.2.2⟩,⟨h1.2.1.1.1,h2.2.1,h1.2.1.2.2⟩,⟨h1.2.2.1.1,h2.2.2,h1.2.2.2.2⟩,h1.1.1⟩
  .cases h
 .rename_i h0;exact absurd h h0
theorem iT {α} {f:List ByteArray->α->Int} {nm}:∀ {l} {b},firstErr f nm l b=none->∀ x,x∈l->∃ b,f b x=0
 |[],_,_,x,hx=>by cases hx
 |y::r,b,h,x,hx=>by
  unfold firstErr at h;split at h
  .rename_i h0;rcases bw.1 hx with rfl | hx
   .exact ⟨b,h0⟩
   .exact iT h x hx
  .cases h
theorem qd {α} {f:List ByteArray->α->Int} {nm}:∀ {l} {b} {i e},firstErr f nm l b=some (i,e)->e≠0
 |[],_,_,_,h=>by cases h
 |y::r,b,i,e,h=>by
  unfold firstErr at h;split at h
  .exact qd h
  .rename_i h0;cases h;exact h0
theorem vE {s} (h:shopErr s=0):ShopOk s:=by
 unfold shopErr cj at h;split at h
 .rename_i h1;split at h
  .rename_i h2;split at h
   .cases h
   .rename_i h3;simp only [cK,tf,xp] at h1 h2;rw [Jh] at h3;simp only [Nu,qn] at h3;unfold dB at h;split at h
    .rename_i i e hf;exact absurd h (qd hf)
    .rename_i hf;split at h
     .rename_i i e hg;exact absurd h (qd hg)
     .rename_i hg;refine ⟨by omega,by omega,⟨h2.1.1.1,h3.1,h2.1.2.2⟩,⟨h2.2.1.1,h3.2,h2.2.2.2⟩,λw hw=>?_,λx hx=>?_⟩
      .obtain ⟨b,hb⟩:=iT hf w hw;exact Jv hb
      .obtain ⟨b,hb⟩:=iT hg x hx;exact Lf hb
  .cases h
 .cases h
def eS (s:Shop) (c:Candle):Int :=
 if ar c.wax 0 ((s.waxes.length:Int)-1)=true then (if (ar c.diameter 1 2000&&(ar c.draught 0 90&&cp c.cold 0 300))=true then (if aO c.cold=true then 2 else 0) else 7) else 4
def g8 (s:Shop) (ks:List Int) (c:Candle):Int :=
 if shopErr s=0 then (if (ks.all λk=>ar k 0 ((s.wicks.length:Int)-1))=true then eS s c else 4) else shopErr s
structure CandleOk (c:Candle):Prop where
 d:1<=c.diameter/\c.diameter<=2000
 g:0<=c.draught/\c.draught<=90
 c:0<=c.cold.lo/\c.cold.lo<=c.cold.hi/\c.cold.hi<=300
theorem yb {s} {c} (h:eS s c=0):CandleOk c/\0<=c.wax/\c.wax<s.waxes.length:=by
 unfold eS at h;split at h
 .rename_i h1;split at h
  .rename_i h2;split at h
   .cases h
   .rename_i h3;simp only [cK,tf,xp] at h1 h2;rw [Jh,qn] at h3;exact ⟨⟨h2.1,h2.2.1,h2.2.2.1.1,h3,h2.2.2.2.2⟩,h1.1,by omega⟩
  .cases h
 .cases h
theorem U4 {s} {ks} {c} (h:g8 s ks c=0):shopErr s=0/\eS s c=0/\∀ k,k∈ks->0<=k/\k<s.wicks.length:=by
 unfold g8 at h;split at h
 .rename_i h1;split at h
  .rename_i h2;refine ⟨h1,h,λk hk=>?_⟩;have:=iV.1 h2 k hk;rw [tf] at this;omega
  .cases h
 .rename_i h0;exact absurd h h0
def iA (s:Shop) (c:Candle) (x:Wax):PV:=.ptr 19 [.agg (s.pv.cells++c.pv.cells++x.pv.cells)] 0 0
attribute [go_sem] iA
theorem HQ (l:List Int) (lo hi):(l.any λn=>!ar n lo hi)=!(l.all λn=>ar n lo hi):=by rw [<-List.not_all_eq_any_not]
theorem Kx (s) (c) (ks) (b) (xs) (hxs:xs=ks.map aK) (hks:ks.length<1000000) (x) (hx:g8 s ks c=0->s.waxes[c.wax.toNat]?=some x) :
  ah TP 262 [s.pv,c.pv,.slice 1 xs b] (.tuple [if g8 s ks c=0 then iA s c x else .nilptr,.int .i64 (g8 s ks c)]):=by
 subst hxs;refine cW (ai (by kernel_rfl) rfl Xb) rfl ?_;simp only [go_sem,simprocAttr];refine ae (pU s) rfl ?_;simp only [al,go_sem,simprocAttr];have hE:(cj s).2.2=shopErr s:=rfl;rw [hE];cases h0:(shopErr s != 0)
 rotate_left
 .have h0':¬ shopErr s=0:=by simpa using h0
  simp only [g8,if_neg h0',go_sem,simprocAttr]
 have h0':shopErr s=0:=by simpa using h0
 have ok:=vE h0';have hw1:IntKind.i64.wrap ((s.wicks.length:Int)-1)=(s.wicks.length:Int)-1:=ax (by omega) (by have:=ok.lw;omega);have hw2:IntKind.i64.wrap ((s.waxes.length:Int)-1)=(s.waxes.length:Int)-1:=ax (by omega) (by have:=ok.lx;omega);have hA:g8 s ks c=if (ks.all λk=>ar k 0 ((s.wicks.length:Int)-1))=true then eS s c else 4:=by simp only [g8,if_pos h0']
 rw [hA] at hx |-;simp only [hw1,go_sem,simprocAttr];refine ae (e8 0 ((s.wicks.length:Int)-1) ks b (by omega)) rfl ?_;simp only [go_sem,simprocAttr];rw [HQ];cases h1:(ks.all λk=>ar k 0 ((s.wicks.length:Int)-1))
 .simp only [go_sem,simprocAttr]
 rw [h1,if_pos rfl] at hx;simp only [hw2,go_sem,simprocAttr];refine ae (e8 0 ((s.waxes.length:Int)-1) [_] true (by simp)) rfl ?_;simp only [bp,bF,go_sem,simprocAttr];cases h2:ar c.wax 0 ((s.waxes.length:Int)-1)
 .simp only [eS,h2,go_sem,simprocAttr]
 simp only [go_sem,simprocAttr];refine ae (e8 1 2000 [_] true (by simp)) rfl ?_;simp only [bp,bF,go_sem,simprocAttr];cases h3:ar c.diameter 1 2000
 .simp only [eS,h2,h3,go_sem,simprocAttr]
 simp only [go_sem,simprocAttr];refine ae (e8 0 90 [_] true (by simp)) rfl ?_;simp only [bp,bF,go_sem,simprocAttr];cases h4:ar c.draught 0 90
 .simp only [eS,h2,h3,h4,go_sem,simprocAttr]
 simp only [go_sem,simprocAttr];refine ae (e8 0 300 [_,_] true (by simp)) rfl ?_;simp only [bp,bF,<-kO,go_sem,simprocAttr];cases h5:(ar c.cold.lo 0 300&&ar c.cold.hi 0 300)
 .simp only [eS,h2,h3,h4,cp,h5,go_sem,simprocAttr]
 simp only [go_sem,simprocAttr];refine ae (xw [c.cold] true (by simp)) rfl ?_;simp only [bp,bF,go_sem,simprocAttr];cases h6:decide (c.cold.hi<c.cold.lo);rotate_left
 .simp only [eS,h2,h3,h4,cp,h5,aO,h6,go_sem,simprocAttr]
 have hc:eS s c=0:=by simp only [eS,h2,h3,h4,cp,h5,aO,h6];rfl
 have hxx:=hx hc;obtain ⟨_,hc0,hc1⟩:=yb hc;simp only [hc,hc0,hc1,hxx,go_sem,simprocAttr]
structure Site (s:Shop) (c:Candle) (x:Wax):Prop where
 so:ShopOk s
 co:CandleOk c
 c0:0<=c.wax
 c1:c.wax<(s.waxes.length:Int)
 hx:s.waxes[c.wax.toNat]?=some x
 xo:WaxOk x
structure SiteK (s:Shop) (k:Int) (w:Wick):Prop where
 k0:0<=k
 k1:k<(s.wicks.length:Int)
 hw:s.wicks[k.toNat]?=some w
 wo:WickOk w
theorem Qy {α:Type} {l:List α} {k} (h0:0<=k) (h1:k<(l.length:Int)):∃ w,l[k.toNat]?=some w:=⟨_,bE (by omega)⟩
theorem NT {s} {ks} {c} (h:g8 s ks c=0):∃ x,Site s c x:=by
 obtain ⟨h1,h2,_⟩:=U4 h;obtain ⟨co,c0,c1⟩:=yb h2;obtain ⟨x,hx⟩:=Qy c0 c1;have so:=vE h1;exact ⟨x,so,co,c0,c1,hx,so.x x (aL hx)⟩
structure TOk (t:Truth):Prop where
 p:0<=t.pull/\t.pull<=1000
 f:0<=t.flow/\t.flow<=300
 r:0<=t.rise/\t.rise<=1000
 s:0<=t.spread/\t.spread<=2000
 d:-90<=t.draught/\t.draught<=90
 c:0<=t.cold/\t.cold<=300
def fu (t:Truth):Int:=t.pull*t.flow*(100+t.draught)
def AR (chill:Int) (t:Truth):Burn:=⟨fu t*100,fu t*t.rise,fu t*t.spread-t.cold*chill*100000⟩
theorem TOk.b {t} (h:TOk t):(0<=t.pull*t.flow/\t.pull*t.flow<=1000*300)/\(0<=fu t/\fu t<=1000*300*190)/\(0<=fu t*t.rise/\fu t*t.rise<=1000*300*190*1000) /\
  (0<=fu t*t.spread/\fu t*t.spread<=1000*300*190*2000):=by
 have h1:=kA h.p.1 h.p.2 h.f.1 h.f.2;have h2:=kA h1.1 h1.2 (b:=100+t.draught) (B:=190) (by have:=h.d;omega) (by have:=h.d;omega);exact ⟨h1,h2,kA h2.1 h2.2 h.r.1 h.r.2,kA h2.1 h2.2 h.s.1 h.s.2⟩
def uf (a b c d:Int):Int:=IntKind.i64.wrap (IntKind.i64.wrap (IntKind.i64.wrap (IntKind.i64.wrap (1*a)*b)*c)*d)
theorem y8 (a b c d):ah TP 336 [.agg [.int .i64 a,.int .i64 b,.int .i64 c,.int .i64 d]] (.int .i64 (uf a b c d)):=by
 refine aa (ai (by kernel_rfl) rfl V2) rfl ?_;simp only [go_sem,simprocAttr];refine bn ?_;simp only [go_sem,simprocAttr];refine bn ?_;simp only [go_sem,simprocAttr];refine bn ?_;simp only [go_sem,simprocAttr];refine bn ?_;simp only [go_sem,simprocAttr];refine bn ?_;simp only [go_sem,simprocAttr];rfl
theorem Qw (s) (c) (x) (t) (h:TOk t) (hc:0<=x.chill/\x.chill<=50):ah TP 328 [iA s c x,t.pv] (AR x.chill t).pv:=by
 obtain ⟨b1,b2,b3,b4⟩:=h.b;have w1:IntKind.i64.wrap (100+t.draught)=100+t.draught:=ax (by have:=h.d;omega) (by have:=h.d;omega);have w2:IntKind.i64.wrap (1*t.pull)=t.pull:=by rw [A8];exact ax (by have:=h.p;omega) (by have:=h.p;omega)
 have w3:IntKind.i64.wrap (t.pull*t.flow)=t.pull*t.flow:=ax (by omega) (by omega);have w4:IntKind.i64.wrap (t.pull*t.flow*(100+t.draught))=fu t:=ax (by unfold fu at b2;omega) (by unfold fu at b2;omega);have p0:uf t.pull t.flow (100+t.draught) 100=fu t*100:=by unfold uf;rw [w2,w3,w4];exact ax (by omega) (by omega)
 have p1:uf t.pull t.flow (100+t.draught) t.rise=fu t*t.rise:=by unfold uf;rw [w2,w3,w4];exact ax (by omega) (by omega)
 have p2:uf t.pull t.flow (100+t.draught) t.spread=fu t*t.spread:=by unfold uf;rw [w2,w3,w4];exact ax (by omega) (by omega)
 have bc:=kA h.c.1 h.c.2 hc.1 hc.2;have q1:IntKind.i64.wrap (t.cold*x.chill)=t.cold*x.chill:=ax (by omega) (by omega);have q2:IntKind.i64.wrap (t.cold*x.chill*1000000)=t.cold*x.chill*1000000:=ax (by omega) (by omega);have q3:IntKind.i64.wrap ((t.cold*x.chill*1000000).tdiv 10)=t.cold*x.chill*100000:=by
  have:(t.cold*x.chill*1000000).tdiv 10=t.cold*x.chill*100000:=by
   rw [show t.cold*x.chill*1000000=(t.cold*x.chill*100000)*10 by omega,Int.mul_tdiv_cancel _ (by decide)]
  rw [this];exact ax (by omega) (by omega)
 have q4:IntKind.i64.wrap (fu t*t.spread-t.cold*x.chill*100000)=fu t*t.spread-t.cold*x.chill*100000:=ax (by omega) (by omega);refine aa (ai (by kernel_rfl) rfl V') rfl ?_;simp only [go_sem,simprocAttr];refine bn ?_;simp only [w1,go_sem,simprocAttr];refine ae (y8 _ _ _ _) rfl ?_;simp only [p0,go_sem,simprocAttr];refine bn ?_;simp only [w1,go_sem,simprocAttr];refine ae (y8 _ _ _ _) rfl ?_;simp only [p1,go_sem,simprocAttr];refine bn ?_;simp only [w1,go_sem,simprocAttr];refine aD (y8 _ _ _ _) rfl ?_;simp only [p2,q1,q2,q3,q4,go_sem,simprocAttr];refine bn ?_;simp only [AR,go_sem,simprocAttr]
def pH (w:Wick) (x:Wax) (c:Candle):Truth:=⟨w.pull.lo,x.flow.lo,x.rise.lo,x.spread.lo,-c.draught,c.cold.hi⟩
def sf (w:Wick) (x:Wax) (c:Candle):Truth:=⟨w.pull.hi,x.flow.hi,x.rise.hi,x.spread.hi,c.draught,c.cold.lo⟩
theorem Rp {w} {x} {c} (hw:WickOk w) (hx:WaxOk x) (hc:CandleOk c):TOk (pH w x c):=by
 have:=hw.p;have:=hx.f;have:=hx.r;have:=hx.s;have:=hc.g;have:=hc.c
 constructor<;>(simp only [pH];omega)
theorem TW {w} {x} {c} (hw:WickOk w) (hx:WaxOk x) (hc:CandleOk c):TOk (sf w x c):=by
 have:=hw.p;have:=hx.f;have:=hx.r;have:=hx.s;have:=hc.g;have:=hc.c
 constructor<;>(simp only [sf];omega)
theorem R2 (s) (c) (x) (k) (w) (hs:Site s c x) (hk:SiteK s k w):ah TP 327 [iA s c x,.int .i64 k] (.tuple [(pH w x c).pv,(sf w x c).pv]):=by
 have k0:=hk.k0;have k1:=hk.k1;have hw:=hk.hw;have hn:IntKind.i64.wrap (-c.draught)=-c.draught:=ax (by have:=hs.co.g;omega) (by have:=hs.co.g;omega);refine aa (ai (by kernel_rfl) rfl Wa) rfl ?_;simp only [Vk,bj,k0,k1,hw,hn,pH,sf,go_sem,simprocAttr]
def leastB (w:Wick) (x:Wax) (c:Candle):Burn:=AR x.chill (pH w x c)
def mostB (w:Wick) (x:Wax) (c:Candle):Burn:=AR x.chill (sf w x c)
theorem xz (s) (c) (x) (k) (w) (hs:Site s c x) (hk:SiteK s k w):ah TP 322 [iA s c x,.int .i64 k] (.tuple [(leastB w x c).pv,(mostB w x c).pv]):=by
 refine aa (ai (by kernel_rfl) rfl Wf) rfl ?_;simp only [go_sem,simprocAttr];refine ae (R2 s c x k w hs hk) rfl ?_;simp only [go_sem,simprocAttr];refine ae (Qw s c x (pH w x c) (Rp hk.wo hs.xo hs.co) hs.xo.c) rfl ?_;simp only [go_sem,simprocAttr];refine aT (λhb=>?_) (λhb=>?_)
 .have he:pH w x c=sf w x c:=by
   simp only [cK,beq_iff_eq] at hb;simp only [pH,sf] at hb |-;simp [hb]
  simp only [leastB,mostB,he,go_sem,simprocAttr]
 .simp only [go_sem,simprocAttr];refine aD (Qw s c x (sf w x c) (TW hk.wo hs.xo hs.co) hs.xo.c) rfl ?_;simp only [leastB,mostB,go_sem,simprocAttr]
def iW:Burn:=⟨0,0,0⟩
attribute [go_sem] iW
def pA (s:Shop) (b:Burn):Bool:=decide (s.flame.hi*1000000<b.flame)
def ni (s:Shop) (b:Burn):Bool:=decide (b.flame<s.flame.lo*1000000)
def mZ (s:Shop) (d:Int) (b:Burn):Bool:=decide (b.pool<s.pool.lo*d*1000)
def la (s:Shop) (d:Int) (b:Burn):Bool:=decide (s.pool.hi*d*1000<b.pool)
def fz (b:Bool) (n:Int):List Int:=if b=true then [n] else []
def oH (s:Shop) (d:Int) (l m:Burn):List Int:=fz (pA s m) 1++(fz (ni s l) 2++(fz (mZ s d l) 3++fz (la s d m) 4))
def FD (l:List Int):PV:=.slice 1 (l.map aK) false
theorem Ii {s} (so:ShopOk s) {d} (hd:1<=d/\d<=2000):(0<=s.pool.lo*d/\s.pool.lo*d<=2000*2000)/\(0<=s.pool.hi*d/\s.pool.hi*d<=2000*2000) :=
 ⟨kA (by have:=so.po;omega) (by have:=so.po;omega) (by omega) hd.2,kA (by have:=so.po;omega) (by have:=so.po;omega) (by omega) hd.2⟩
theorem Qr (s) (c) (x) (n) (hn:0<=n*c.diameter/\n*c.diameter<=2000*2000):ah TP 317 [.int .i64 n,.ptr 1 [iA s c x] 0 0] (.int .i64 (n*c.diameter*1000)):=by
 have w1:IntKind.i64.wrap (n*c.diameter)=n*c.diameter:=ax (by omega) (by omega);have w2:IntKind.i64.wrap (n*c.diameter*1000)=n*c.diameter*1000:=ax (by omega) (by omega);refine aa (ai (by kernel_rfl) rfl Wl) rfl ?_;simp only [w1,w2,go_sem,simprocAttr]
theorem R9 (s) (c) (x) (so:ShopOk s) (l m:Burn):ah TP 318 [l.pv,m.pv,.ptr 1 [iA s c x] 0 0] (.bool (pA s m)):=by
 have w1:IntKind.i64.wrap (s.flame.hi*1000000)=s.flame.hi*1000000:=ax (by have:=so.fl;omega) (by have:=so.fl;omega);refine aa (ai (by kernel_rfl) rfl Wj) rfl ?_;simp only [w1,pA,go_sem,simprocAttr]
theorem O' (s) (c) (x) (so:ShopOk s) (l m:Burn):ah TP 319 [l.pv,m.pv,.ptr 1 [iA s c x] 0 0] (.bool (ni s l)):=by
 have w1:IntKind.i64.wrap (s.flame.lo*1000000)=s.flame.lo*1000000:=ax (by have:=so.fl;omega) (by have:=so.fl;omega);refine aa (ai (by kernel_rfl) rfl Wi) rfl ?_;simp only [w1,ni,go_sem,simprocAttr]
def EZ (s:Shop) (c:Candle) (x:Wax):PV:=.ptr 1 [.func (.func 317) [] [.ptr 1 [iA s c x] 0 0]] 0 0
attribute [go_sem] EZ
theorem O0 (s) (c) (x) (so:ShopOk s) (co:CandleOk c) (l m:Burn):ah TP 320 [l.pv,m.pv,EZ s c x,.ptr 1 [iA s c x] 0 0] (.bool (mZ s c.diameter l)):=by
 refine aa (ai (by kernel_rfl) rfl Wh) rfl ?_;simp only [go_sem,simprocAttr];refine aD (Qr s c x s.pool.lo (Ii so co.d).1) rfl ?_;simp only [mZ,go_sem,simprocAttr]
theorem Zz (s) (c) (x) (so:ShopOk s) (co:CandleOk c) (l m:Burn):ah TP 321 [l.pv,m.pv,EZ s c x,.ptr 1 [iA s c x] 0 0] (.bool (la s c.diameter m)):=by
 refine aa (ai (by kernel_rfl) rfl Wg) rfl ?_;simp only [go_sem,simprocAttr];refine aD (Qr s c x s.pool.hi (Ii so co.d).2) rfl ?_;simp only [la,go_sem,simprocAttr]
def iy (a b c d:Bool):Nat->List Int
 |0=>[]
 |1=>fz a 1
 |2=>fz a 1++fz b 2
 |3=>fz a 1++fz b 2++fz c 3
 |_=>fz a 1++fz b 2++fz c 3++fz d 4
theorem sn (b) (n):(fz b n).length<=1:=by cases b<;>simp [fz]
theorem N9 (a b c d) (i):(iy a b c d i).length<=4:=by
 have h1:=sn a 1;have h2:=sn b 2;have h3:=sn c 3;have h4:=sn d 4
 match i with
 |0=>simp [iy]
 |1=>simp [iy];omega
 |2=>simp [iy];omega
 |3=>simp [iy];omega
 |_+4=>simp [iy];omega
theorem Oa (s) (d) (l m):iy (pA s m) (ni s l) (mZ s d l) (la s d m) 4=oH s d l m:=by simp [iy,oH]
theorem MV (s) (c) (x) (k) (w) (hs:Site s c x) (hk:SiteK s k w):ah TP 294 [iA s c x,.int .i64 k] (FD (oH s c.diameter (leastB w x c) (mostB w x c))):=by
 refine dC (ai (by kernel_rfl) rfl WG) rfl ?_;simp only [go_sem,simprocAttr];refine ae (xz s c x k w hs hk) rfl ?_;simp only [go_sem,simprocAttr];refine cg 4 1 (by simp only [go_sem,simprocAttr]) ?_;simp only [go_sem,simprocAttr];generalize ho:iy (pA s (mostB w x c)) (ni s (leastB w x c)) (mZ s c.diameter (leastB w x c)) (la s c.diameter (mostB w x c))=o;have hlen:∀ i,(o i).length+1<=aw:=λi=>by
  have:=N9 (pA s (mostB w x c)) (ni s (leastB w x c)) (mZ s c.diameter (leastB w x c)) (la s c.diameter (mostB w x c)) i;rw [ho] at this;simp only [aw];omega
 refine SF [7,8,27,28] (σ:=Nat) (λi=>i<=4) (λi=>4-i) (λi=>[(4,.slice 5 (o i).length 0 (o i).length),(29,.p (.int .i64 i))]) (λi h=>h.set 5 (.row 1 ((o i).map λn=>.p (.int .i64 n)))) 0 (by omega) ?_ ?_
 .have h0:o 0=[]:=by rw [<-ho];rfl
  simp only [h0,go_sem,simprocAttr]
 intro i hi;have hcase:i=0\/i=1\/i=2\/i=3\/i=4:=by omega
 rcases hcase with rfl | rfl | rfl | rfl | rfl
 .have hl:=hlen 0;have h1:o 1=o 0++fz (pA s (mostB w x c)) 1:=by rw [<-ho];simp [iy]
  simp only [go_sem,simprocAttr];refine bf (R9 s c x hs.so (leastB w x c) (mostB w x c)) ?_ (.bool _) ?_
  .simp only [go_sem,simprocAttr]
  simp only [go_sem,simprocAttr];cases hb:pA s (mostB w x c)
  .have h1':o 1=o 0:=by rw [h1,hb];simp [fz]
   simp only [go_sem,simprocAttr];refine bW 1 (by omega) (by omega) ?_;simp only [h1',go_sem,simprocAttr]
  .have h1':o 1=o 0++[1]:=by rw [h1,hb];rfl
   simp only [hl,go_sem,simprocAttr];refine bW 1 (by omega) (by omega) ?_;simp only [h1',aI,bA,go_sem,simprocAttr]
 .have hl:=hlen 1;have h1:o 2=o 1++fz (ni s (leastB w x c)) 2:=by rw [<-ho];simp [iy]
  simp only [go_sem,simprocAttr];refine bf (O' s c x hs.so (leastB w x c) (mostB w x c)) ?_ (.bool _) ?_
  .simp only [go_sem,simprocAttr]
  simp only [go_sem,simprocAttr];cases hb:ni s (leastB w x c)
  .have h1':o 2=o 1:=by rw [h1,hb];simp [fz]
   simp only [go_sem,simprocAttr];refine bW 2 (by omega) (by omega) ?_;simp only [h1',go_sem,simprocAttr]
  .have h1':o 2=o 1++[2]:=by rw [h1,hb];rfl
   simp only [hl,go_sem,simprocAttr];refine bW 2 (by omega) (by omega) ?_;simp only [h1',aI,bA,go_sem,simprocAttr]
 .have hl:=hlen 2;have h1:o 3=o 2++fz (mZ s c.diameter (leastB w x c)) 3:=by rw [<-ho];simp [iy]
  simp only [go_sem,simprocAttr];refine bf (O0 s c x hs.so hs.co (leastB w x c) (mostB w x c)) ?_ (.bool _) ?_
  .simp only [go_sem,simprocAttr]
  simp only [go_sem,simprocAttr];cases hb:mZ s c.diameter (leastB w x c)
  .have h1':o 3=o 2:=by rw [h1,hb];simp [fz]
   simp only [go_sem,simprocAttr];refine bW 3 (by omega) (by omega) ?_;simp only [h1',go_sem,simprocAttr]
  .have h1':o 3=o 2++[3]:=by rw [h1,hb];rfl
   simp only [hl,go_sem,simprocAttr];refine bW 3 (by omega) (by omega) ?_;simp only [h1',aI,bA,go_sem,simprocAttr]
 .have hl:=hlen 3;have h1:o 4=o 3++fz (la s c.diameter (mostB w x c)) 4:=by rw [<-ho];simp [iy]
  simp only [go_sem,simprocAttr];refine bf (Zz s c x hs.so hs.co (leastB w x c) (mostB w x c)) ?_ (.bool _) ?_
  .simp only [go_sem,simprocAttr]
  simp only [go_sem,simprocAttr];cases hb:la s c.diameter (mostB w x c)
  .have h1':o 4=o 3:=by rw [h1,hb];simp [fz]
   simp only [go_sem,simprocAttr];refine bW 4 (by omega) (by omega) ?_;simp only [h1',go_sem,simprocAttr]
  .have h1':o 4=o 3++[4]:=by rw [h1,hb];rfl
   simp only [hl,go_sem,simprocAttr];refine bW 4 (by omega) (by omega) ?_;simp only [h1',aI,bA,go_sem,simprocAttr]
 .have h4:o 4=oH s c.diameter (leastB w x c) (mostB w x c):=by rw [<-ho];exact Oa _ _ _ _
  simp only [h4,FD,go_sem,simprocAttr];first | rfl | exact .inl rfl | exact ⟨_,_,rfl,rfl,.inr ⟨rfl,1,rfl⟩,.inl rfl,.inl rfl,trivial⟩ | exact ⟨_,_,rfl,rfl,.inr ⟨rfl,1,rfl⟩,.inl rfl,trivial⟩ | exact ⟨_,_,rfl,rfl,.inl rfl,.inl rfl,trivial⟩ | exact .inl (.inl rfl) | exact .inl (.inr ⟨rfl,1,rfl⟩) | exact .inr ⟨_,_,rfl,rfl,.inl rfl,.inl rfl,trivial⟩ | exact .inr ⟨_,_,rfl,rfl,.inr ⟨rfl,1,rfl⟩,.inl rfl,trivial⟩ | exact ⟨1,rfl⟩ | (simp;done) | (refine .inr ⟨_,_,rfl,rfl,?_⟩;repeat' (first | exact trivial | exact .inl rfl | exact .inr ⟨rfl,1,rfl⟩ | refine ⟨?_,?_⟩))
def P1 (s:Shop) (c:Candle) (x:Wax) (w:Wick):Bool:=(oH s c.diameter (leastB w x c) (mostB w x c)).length==0
def gN (s:Shop) (c:Candle) (x:Wax):List Wick->Nat->List Int
 |[],_=>[]
 |w::r,i=>if P1 s c x w=true then (i:Int)::gN s c x r (i+1) else gN s c x r (i+1)
theorem QZ {s} {c} {x} (hs:Site s c x) {done r} {w} (e:s.wicks=done++w::r):SiteK s (done.length:Int) w :=
 ⟨by omega,by rw [e];simp<;>omega,by rw [e];simp,hs.so.w w (by rw [e];simp)⟩
def zy (s:Shop) (c:Candle) (x:Wax):PV:=.func (.func 293) [] [.ptr 1 [iA s c x] 0 0]
theorem Ow (s) (c) (x) (hs:Site s c x):Vi TP (zy s c x) ((gN s c x s.wicks 0).map aK):=by
 refine ⟨_,_,_,rfl,λid Inv Fin h0 hlen hy hi=>?_⟩;have lw:=hs.so.lw;refine aB (ai (by kernel_rfl) rfl WH) rfl ?_;simp only [go_sem,simprocAttr]
 refine dZ [0,1,9] (σ:=List Wick×List Wick×List Int×Heap) (λq=>s.wicks=q.1++q.2.1/\gN s c x s.wicks 0=q.2.2.1++gN s c x q.2.1 q.1.length/\Inv q.2.2.1.length q.2.2.2) (λq=>q.2.1.length)
  (λq=>[(10,.p (.int .i64 q.1.length))]) (λq=>q.2.2.2) ([],s.wicks,[],h0) ⟨rfl,rfl,hi⟩ rfl ?_ ?_
 .simp only [go_sem,simprocAttr]
 rintro ⟨done,rest,pre,h⟩ ⟨e1,e2,hI⟩
 dsimp only at e1 e2 hI
 cases rest with
 |nil =>
  have hlt:¬ ((done.length:Int)<(s.wicks.length:Int)):=by rw [e1];simp
  simp only [hlt,go_sem,simprocAttr];refine .inl ?_;rw [e2,gN,aW]
  exact hI
 |cons w r =>
  obtain ⟨hx,hlt⟩:=de e1;have hnx:IntKind.i64.wrap ((done.length:Int)+1)=(((done++[w]).length:Nat):Int):=ba (by omega) (by simp [aw];omega) (by simp);have hk:=QZ hs e1;rw [gN] at e2;simp only [hlt,go_sem,simprocAttr];refine ae (MV s c x _ w hs hk) rfl ?_;simp only [FD,go_sem,simprocAttr];have hok:((((oH s c.diameter (leastB w x c) (mostB w x c)).length:Nat):Int)==0)=P1 s c x w:=by
   unfold P1;rw [qX];simp
  rw [hok];cases hb:P1 s c x w
  .simp only [go_sem,simprocAttr];refine aZ (done++[w],r,pre,h) ⟨by simp [e1],by rw [e2,hb];simp,hI⟩ (by simp) rfl ?_;simp only [hnx,go_sem,simprocAttr]
  .rw [hb,if_pos rfl] at e2;have hget:((gN s c x s.wicks 0).map aK)[pre.length]?=some (.int .i64 done.length):=by rw [e2];simp [aK]
   simp only [go_sem,simprocAttr];refine pX (hy pre.length _ h hget hI) (λv h' hr=>?_) (λv h' hr=>?_);rotate_left
   .rcases hr with ⟨hr,_⟩ | ⟨hr,_⟩<;>cases hr
   rcases hr with ⟨hr,hI'⟩ | ⟨hr,hF,_⟩
   .cases hr;simp only [go_sem,simprocAttr];refine aZ (done++[w],r,pre++[(done.length:Int)],h') ⟨by simp [e1],by rw [e2];simp,by simpa using hI'⟩ (by simp) rfl ?_;simp only [hnx,go_sem,simprocAttr]
   .cases hr;simp only [go_sem,simprocAttr];exact .inr hF
theorem O1 (s) (c) (x):ah TP 263 [iA s c x] (zy s c x):=by
 refine cW (ai (by kernel_rfl) rfl Xa) rfl ?_;simp only [zy,go_sem,simprocAttr]
theorem vq {α:Type} {l:List α} {k} {x} (h:l[k]?=some x):l.take (k+1)=l.take k++[x]:=by
 rw [yp,h];rfl
def thr (s:Shop) (n:Int):Int:=match s.wicks[n.toNat]? with | some w=>w.threads | none=>0
def gJ (s:Shop):List Int->Int->Int
 |[],b=>b
 |n::r,b=>gJ s r (if (decide (b<0)||decide (thr s n<thr s b))=true then n else b)
def r8 (s:Shop) (n:Int):Prop:=0<=n/\n<(s.wicks.length:Int)
theorem oY (s) (c) (x):∀ (l) (i),i+l.length=s.wicks.length->∀ n,n∈gN s c x l i->r8 s n
 |[],_,_,n,hn=>by cases hn
 |w::r,i,hi,n,hn=>by
  unfold gN at hn;simp only [ct] at hi;split at hn
  .rcases bw.1 hn with rfl | hn
   .exact ⟨by omega,by omega⟩
   .exact oY s c x r (i+1) (by omega) n hn
  .exact oY s c x r (i+1) (by omega) n hn
theorem EA {s} {n} (h:r8 s n):∃ w,s.wicks[n.toNat]?=some w/\thr s n=w.threads:=by
 obtain ⟨w,hw⟩:=Qy h.1 h.2;exact ⟨w,hw,by simp [thr,hw]⟩
theorem uN (s):∀ (l) (b),(∀ n,n∈l->r8 s n)->(b=-1\/r8 s b)->gJ s l b=-1\/r8 s (gJ s l b)
 |[],b,_,hb=>hb
 |n::r,b,hl,hb=>by
  unfold gJ;refine uN s r _ (λm hm=>hl m (by simp [hm])) ?_;split
  .exact .inr (hl n (by simp))
  .exact hb
theorem ye (s):∀ (l) (n b),gJ s (l++[n]) b=if (decide (gJ s l b<0)||decide (thr s n<thr s (gJ s l b)))=true then n else gJ s l b
 |[],n,b=>rfl
 |m::r,n,b=>by
  rw [hG,gJ,ye s r n,gJ]
def ej (s:Shop) (c:Candle) (x:Wax):Int×Int :=
 if g8 s [] c=0 then (if gJ s (gN s c x s.wicks 0) (-1)<0 then (0,9) else (gJ s (gN s c x s.wicks 0) (-1),0)) else (0,g8 s [] c)
theorem DL (s) (c) (x) (h:g8 s [] c=0->Site s c x):ah TP 193 [s.pv,c.pv] (.tuple [.int .i64 (ej s c x).1,.int .i64 (ej s c x).2]):=by
 refine aa (ai (by kernel_rfl) rfl XY) rfl ?_;simp only [go_sem,simprocAttr];refine ae ((Kx s c [] false _ rfl (by simp) x (λh0=>(h h0).hx)).argless (args':=[s.pv,c.pv,.nilslice]) ⟨.inl rfl,.inl rfl,.inr ⟨rfl,1,rfl⟩,trivial⟩) rfl ?_;by_cases h0':g8 s [] c=0;rotate_left
 .have h0:(g8 s [] c != 0)=true:=by simpa using h0'
  simp only [h0,ej,if_neg h0',go_sem,simprocAttr]
 have h0:(g8 s [] c != 0)=false:=by simpa using h0'
 have hs:=h h0';simp only [h0,if_pos h0',go_sem,simprocAttr];refine ae (O1 s c x) rfl ?_;simp only [go_sem,simprocAttr];generalize hl:gN s c x s.wicks 0=l;have hval:∀ n,n∈l->r8 s n:=by
  intro n hn;rw [<-hl] at hn;exact oY s c x s.wicks 0 (by simp) n hn
 have hit:=Ow s c x hs;rw [hl] at hit
 refine U8 (l:=l.map aK) (λo k h=>k<=l.length/\h=[.row 6 [.p s.pv],.row 5 [.p c.pv],.row 1 [.p (iA s c x)],.row 1 [.p (.int .i64 (gJ s (l.take k) (-1)))],.dblock,o]) (λ_ _=>False)
  rfl (by simp only [zy,go_sem,simprocAttr]) hit dU (by kernel_rfl) rfl (by kernel_rfl) (by kernel_rfl) ?_ ?_ ?_ ?_ ?_ (λ_ _ h=>h.elim)
 .rintro o k h ⟨_,rfl⟩;simp
 .rintro o k h ⟨_,rfl⟩;simp
 .intro o;refine ⟨by omega,?_⟩;simp only [go_sem,simprocAttr];rfl
 .rintro oR oB oD k v h hv ⟨hk,rfl⟩
  have hv':∃ n,l[k]?=some n/\v=.int .i64 n:=by
   rw [cv,bT] at hv;obtain ⟨n,h1,rfl⟩:=hv;exact ⟨n,h1,rfl⟩
  obtain ⟨n,hn,rfl⟩:=hv';have hlt:k<l.length:=(aE.1 hn).1;have hnv:=hval n (aL hn);obtain ⟨w,hw,ht⟩:=EA hnv;have hb:=ye s (l.take k) n (-1);rw [<-vq hn] at hb;have hbv:=uN s (l.take k) (-1) (λm hm=>hval m (sy hm)) (.inl rfl);generalize gJ s (l.take k) (-1)=b at hb hbv;have n0:=hnv.1;have n1:=hnv.2;simp only [go_sem,simprocAttr];cases hneg:decide (b<0)
  .have hbv':r8 s b:=by
    rcases hbv with h | h
    .rw [h] at hneg;simp at hneg
    .exact h
   obtain ⟨w2,hw2,ht2⟩:=EA hbv';have b0:=hbv'.1;have b1:=hbv'.2;rw [hneg,ht,ht2] at hb;simp only [n0,n1,b0,b1,hw,hw2,go_sem,simprocAttr];cases hlt2:decide (w.threads<w2.threads)
   .rw [hlt2] at hb;simp only [hb,go_sem,simprocAttr];exact hlt
   .rw [hlt2] at hb;simp only [hb,go_sem,simprocAttr];exact hlt
  .rw [hneg] at hb;simp only [hb,go_sem,simprocAttr];exact hlt
 .rintro o h ⟨_,rfl⟩
  have h1:l.take (l.map aK).length=l:=by simp
  rw [h1];simp only [go_sem,simprocAttr];cases hneg:decide (gJ s l (-1)<0)
  .have:¬ gJ s l (-1)<0:=by simpa using hneg
   simp only [ej,if_pos h0',hl,if_neg this,b7,go_sem,simprocAttr]
  .have:gJ s l (-1)<0:=by simpa using hneg
   simp only [ej,if_pos h0',hl,if_pos this,b7,go_sem,simprocAttr]
end Wk
end Abs
end Go.Proofs.YtfafnkpfamgbbaaGreatDoor
