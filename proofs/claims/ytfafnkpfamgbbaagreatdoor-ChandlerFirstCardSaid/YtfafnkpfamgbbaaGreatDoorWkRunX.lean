/-
  CONTRACTS: a shop that is looked at with a candle; how it burns.
  CONTRACTS: how a candle burns in a truth; the ends.
  CONTRACTS: At, Burn, Minutes, in the program and in the reference.
  CONTRACTS: what is wrong with a candle, in the program and in the reference.
  CONTRACTS: 
  CONTRACTS: the wicks that suit.
  CONTRACTS: the thinnest wick that suits.
-/
import Derived.Test.YtfafnkpfamgbbaaGreatDoorAbsCutX
import Derived.Test.YtfafnkpfamgbbaaGreatDoorWkChk
set_option linter.unusedSimpArgs false
set_option linter.unusedVariables false
open Go.Proofs.Tryz renaming prog->TP
namespace Go.Proofs.YtfafnkpfamgbbaaGreatDoor
namespace Abs
namespace Wk
set_option maxRecDepth 4000
structure WickOk (w:Wick):Prop where
 t:1<=w.threads/\w.threads<=100
 p:1<=w.pull.lo/\w.pull.lo<=w.pull.hi/\w.pull.hi<=1000
structure WaxOk (x:Wax):Prop where
 f:1<=x.flow.lo/\x.flow.lo<=x.flow.hi/\x.flow.hi<=300
 r:1<=x.rise.lo/\x.rise.lo<=x.rise.hi/\x.rise.hi<=1000
 s:1<=x.spread.lo/\x.spread.lo<=x.spread.hi/\x.spread.hi<=2000
 c:0<=x.chill/\x.chill<=50
structure ShopOk (s:Shop):Prop where
 lw:1<=s.wicks.length/\s.wicks.length<=12
 lx:1<=s.waxes.length/\s.waxes.length<=6
 fl:0<=s.flame.lo/\s.flame.lo<=s.flame.hi/\s.flame.hi<=2000
 po:0<=s.pool.lo/\s.pool.lo<=s.pool.hi/\s.pool.hi<=2000
 w:∀ w,w∈s.wicks->WickOk w
 x:∀ x,x∈s.waxes->WaxOk x
def shopErr (s:Shop):Int:=(dJ s).2.2
theorem rC {n lo hi}:az n lo hi=true↔lo<=n/\n<=hi:=by simp [az]
theorem vv {s} {lo hi}:dq s lo hi=true↔(lo<=s.lo/\s.lo<=hi)/\lo<=s.hi/\s.hi<=hi:=by simp [dq,az]
theorem oP {s}:aZ s=false↔s.lo<=s.hi:=by simp [aZ]
theorem Ha {b} {w} (h:d6 b w=0):WickOk w:=by
 unfold d6 at h;split at h
 .split at h
  .rename_i h1;split at h
   .cases h
   .rename_i h2;simp only [dA,rC,vv] at h1;rw [BM,oP] at h2;exact ⟨h1.1,h1.2.1.1,h2,h1.2.2.2⟩
  .cases h
 .rename_i h0;exact absurd h h0
theorem IM {b} {x} (h:fE b x=0):WaxOk x:=by
 unfold fE at h;split at h
 .split at h
  .rename_i h1;split at h
   .cases h
   .rename_i h2;simp only [dA,rC,vv] at h1;rw [BM] at h2;simp only [K2,oP] at h2;exact ⟨⟨h1.1.2.1.1,h2.1,h1.1.2.2.2⟩,⟨h1.2.1.1.1,h2.2.1,h1.2.1.2.2⟩,⟨h1.2.2.1.1,h2.2.2,h1.2.2.2.2⟩,h1.1.1⟩
  .cases h
 .rename_i h0;exact absurd h h0
theorem g9 {α} {f:List ByteArray->α->Int} {nm}:∀ {l} {b},firstErr f nm l b=none->∀ x,x∈l->∃ b,f b x=0
 |[],_,_,x,hx=>by cases hx
 |y::r,b,h,x,hx=>by
  unfold firstErr at h;split at h
  .rename_i h0;rcases cz.1 hx with rfl | hx
   .exact ⟨b,h0⟩
   .exact g9 h x hx
  .cases h
theorem oC {α} {f:List ByteArray->α->Int} {nm}:∀ {l} {b} {i e},firstErr f nm l b=some (i,e)->e≠0
 |[],_,_,_,h=>by cases h
 |y::r,b,i,e,h=>by
  unfold firstErr at h;split at h
  .exact oC h
  .rename_i h0;cases h;exact h0
theorem tR {s} (h:shopErr s=0):ShopOk s:=by
 unfold shopErr dJ at h;split at h
 .rename_i h1;split at h
  .rename_i h2;split at h
   .cases h
   .rename_i h3;simp only [dA,rC,vv] at h1 h2;rw [BM] at h3;simp only [K2,oP] at h3;unfold gx at h;split at h
    .rename_i i e hf;exact absurd h (oC hf)
    .rename_i hf;split at h
     .rename_i i e hg;exact absurd h (oC hg)
     .rename_i hg;refine ⟨by omega,by omega,⟨h2.1.1.1,h3.1,h2.1.2.2⟩,⟨h2.2.1.1,h3.2,h2.2.2.2⟩,λw hw=>?_,λx hx=>?_⟩
      .obtain ⟨b,hb⟩:=g9 hf w hw;exact Ha hb
      .obtain ⟨b,hb⟩:=g9 hg x hx;exact IM hb
  .cases h
 .cases h
def dZ (s:Shop) (c:Candle):Int :=
 if az c.wax 0 ((s.waxes.length:Int)-1)=true then (if (az c.diameter 1 2000&&(az c.draught 0 90&&dq c.cold 0 300))=true then (if aZ c.cold=true then 2 else 0) else 7) else 4
def gh (s:Shop) (ks:List Int) (c:Candle):Int :=
 if shopErr s=0 then (if (ks.all λk=>az k 0 ((s.wicks.length:Int)-1))=true then dZ s c else 4) else shopErr s
structure CandleOk (c:Candle):Prop where
 d:1<=c.diameter/\c.diameter<=2000
 g:0<=c.draught/\c.draught<=90
 c:0<=c.cold.lo/\c.cold.lo<=c.cold.hi/\c.cold.hi<=300
theorem wk {s} {c} (h:dZ s c=0):CandleOk c/\0<=c.wax/\c.wax<s.waxes.length:=by
 unfold dZ at h;split at h
 .rename_i h1;split at h
  .rename_i h2;split at h
   .cases h
   .rename_i h3;simp only [dA,rC,vv] at h1 h2;rw [BM,oP] at h3;exact ⟨⟨h2.1,h2.2.1,h2.2.2.1.1,h3,h2.2.2.2.2⟩,h1.1,by omega⟩
  .cases h
 .cases h
theorem R6 {s} {ks} {c} (h:gh s ks c=0):shopErr s=0/\dZ s c=0/\∀ k,k∈ks->0<=k/\k<s.wicks.length:=by
 unfold gh at h;split at h
 .rename_i h1;split at h
  .rename_i h2;refine ⟨h1,h,λk hk=>?_⟩;have:=j2.1 h2 k hk;rw [rC] at this;omega
  .cases h
 .rename_i h0;exact absurd h h0
def gK (s:Shop) (c:Candle) (x:Wax):PV:=.ptr 19 [.agg (s.pv.cells++c.pv.cells++x.pv.cells)] 0 0
attribute [go_sem] gK
theorem FB (l:List Int) (lo hi):(l.any λn=>!az n lo hi)=!(l.all λn=>az n lo hi):=by rw [<-List.not_all_eq_any_not]
theorem H' (s) (c) (ks) (b) (xs) (hxs:xs=ks.map aJ) (hks:ks.length<1000000) (x) (hx:gh s ks c=0->s.waxes[c.wax.toNat]?=some x) :
  ah TP 262 [s.pv,c.pv,.slice 1 xs b] (.tuple [if gh s ks c=0 then gK s c x else .nilptr,.int .i64 (gh s ks c)]):=by
 subst hxs;refine cI (ai (by kernel_rfl) rfl Ue) rfl ?_;simp only [go_sem,simprocAttr];refine ae (oa s) rfl ?_;simp only [aE,go_sem,simprocAttr];have hE:(dJ s).2.2=shopErr s:=rfl;rw [hE];cases h0:(shopErr s != 0)
 rotate_left
 .have h0':¬ shopErr s=0:=by simpa using h0
  simp only [gh,if_neg h0',go_sem,simprocAttr]
 have h0':shopErr s=0:=by simpa using h0
 have ok:=tR h0';have hw1:IntKind.i64.wrap ((s.wicks.length:Int)-1)=(s.wicks.length:Int)-1:=an (by omega) (by have:=ok.lw;omega);have hw2:IntKind.i64.wrap ((s.waxes.length:Int)-1)=(s.waxes.length:Int)-1:=an (by omega) (by have:=ok.lx;omega);have hA:gh s ks c=if (ks.all λk=>az k 0 ((s.wicks.length:Int)-1))=true then dZ s c else 4:=by simp only [gh,if_pos h0']
 rw [hA] at hx |-;simp only [hw1,go_sem,simprocAttr];refine ae (eb 0 ((s.wicks.length:Int)-1) ks b (by omega)) rfl ?_;simp only [go_sem,simprocAttr];rw [FB];cases h1:(ks.all λk=>az k 0 ((s.wicks.length:Int)-1))
 .simp only [go_sem,simprocAttr]
 rw [h1,if_pos rfl] at hx;simp only [hw2,go_sem,simprocAttr];refine ae (eb 0 ((s.waxes.length:Int)-1) [_] true (by simp)) rfl ?_;simp only [bg,bj,go_sem,simprocAttr];cases h2:az c.wax 0 ((s.waxes.length:Int)-1)
 .simp only [dZ,h2,go_sem,simprocAttr]
 simp only [go_sem,simprocAttr];refine ae (eb 1 2000 [_] true (by simp)) rfl ?_;simp only [bg,bj,go_sem,simprocAttr];cases h3:az c.diameter 1 2000
 .simp only [dZ,h2,h3,go_sem,simprocAttr]
 simp only [go_sem,simprocAttr];refine ae (eb 0 90 [_] true (by simp)) rfl ?_;simp only [bg,bj,go_sem,simprocAttr];cases h4:az c.draught 0 90
 .simp only [dZ,h2,h3,h4,go_sem,simprocAttr]
 simp only [go_sem,simprocAttr];refine ae (eb 0 300 [_,_] true (by simp)) rfl ?_;simp only [bg,bj,<-j4,go_sem,simprocAttr];cases h5:(az c.cold.lo 0 300&&az c.cold.hi 0 300)
 .simp only [dZ,h2,h3,h4,dq,h5,go_sem,simprocAttr]
 simp only [go_sem,simprocAttr];refine ae (vF [c.cold] true (by simp)) rfl ?_;simp only [bg,bj,go_sem,simprocAttr];cases h6:decide (c.cold.hi<c.cold.lo);rotate_left
 .simp only [dZ,h2,h3,h4,dq,h5,aZ,h6,go_sem,simprocAttr]
 have hc:dZ s c=0:=by simp only [dZ,h2,h3,h4,dq,h5,aZ,h6];rfl
 have hxx:=hx hc;obtain ⟨_,hc0,hc1⟩:=wk hc;simp only [hc,hc0,hc1,hxx,go_sem,simprocAttr]
structure Site (s:Shop) (c:Candle) (x:Wax):Prop where
 so:ShopOk s
 co:CandleOk c
 c0:0<=c.wax
 c1:c.wax<(s.waxes.length:Int)
 hx:s.waxes[c.wax.toNat]?=some x
 xo:WaxOk x
structure SiteK (s:Shop) (k:Int) (w:Wick):Prop where
 k0:0<=k
 k1:k<(s.wicks.length:Int)
 hw:s.wicks[k.toNat]?=some w
 wo:WickOk w
theorem NQ {α:Type} {l:List α} {k} (h0:0<=k) (h1:k<(l.length:Int)):∃ w,l[k.toNat]?=some w:=⟨_,b6 (by omega)⟩
theorem Lm {s} {ks} {c} (h:gh s ks c=0):∃ x,Site s c x:=by
 obtain ⟨h1,h2,_⟩:=R6 h;obtain ⟨co,c0,c1⟩:=wk h2;obtain ⟨x,hx⟩:=NQ c0 c1;have so:=tR h1;exact ⟨x,so,co,c0,c1,hx,so.x x (aI hx)⟩
structure TOk (t:Truth):Prop where
 p:0<=t.pull/\t.pull<=1000
 f:0<=t.flow/\t.flow<=300
 r:0<=t.rise/\t.rise<=1000
 s:0<=t.spread/\t.spread<=2000
 d:-90<=t.draught/\t.draught<=90
 c:0<=t.cold/\t.cold<=300
def eE (t:Truth):Int:=t.pull*t.flow*(100+t.draught)
def yU (chill:Int) (t:Truth):Burn:=⟨eE t*100,eE t*t.rise,eE t*t.spread-t.cold*chill*100000⟩
theorem TOk.b {t} (h:TOk t):(0<=t.pull*t.flow/\t.pull*t.flow<=1000*300)/\(0<=eE t/\eE t<=1000*300*190)/\(0<=eE t*t.rise/\eE t*t.rise<=1000*300*190*1000) /\
  (0<=eE t*t.spread/\eE t*t.spread<=1000*300*190*2000):=by
 have h1:=jE h.p.1 h.p.2 h.f.1 h.f.2;have h2:=jE h1.1 h1.2 (b:=100+t.draught) (B:=190) (by have:=h.d;omega) (by have:=h.d;omega);exact ⟨h1,h2,jE h2.1 h2.2 h.r.1 h.r.2,jE h2.1 h2.2 h.s.1 h.s.2⟩
def sy (a b c d:Int):Int:=IntKind.i64.wrap (IntKind.i64.wrap (IntKind.i64.wrap (IntKind.i64.wrap (1*a)*b)*c)*d)
theorem xd (a b c d):ah TP 336 [.agg [.int .i64 a,.int .i64 b,.int .i64 c,.int .i64 d]] (.int .i64 (sy a b c d)):=by
 refine aa (ai (by kernel_rfl) rfl Tb) rfl ?_;simp only [go_sem,simprocAttr];refine bp ?_;simp only [go_sem,simprocAttr];refine bp ?_;simp only [go_sem,simprocAttr];refine bp ?_;simp only [go_sem,simprocAttr];refine bp ?_;simp only [go_sem,simprocAttr];refine bp ?_;simp only [go_sem,simprocAttr];rfl
theorem NO (s) (c) (x) (t) (h:TOk t) (hc:0<=x.chill/\x.chill<=50):ah TP 328 [gK s c x,t.pv] (yU x.chill t).pv:=by
 obtain ⟨b1,b2,b3,b4⟩:=h.b;have w1:IntKind.i64.wrap (100+t.draught)=100+t.draught:=an (by have:=h.d;omega) (by have:=h.d;omega);have w2:IntKind.i64.wrap (1*t.pull)=t.pull:=by rw [zc];exact an (by have:=h.p;omega) (by have:=h.p;omega)
 have w3:IntKind.i64.wrap (t.pull*t.flow)=t.pull*t.flow:=an (by omega) (by omega);have w4:IntKind.i64.wrap (t.pull*t.flow*(100+t.draught))=eE t:=an (by unfold eE at b2;omega) (by unfold eE at b2;omega);have p0:sy t.pull t.flow (100+t.draught) 100=eE t*100:=by unfold sy;rw [w2,w3,w4];exact an (by omega) (by omega)
 have p1:sy t.pull t.flow (100+t.draught) t.rise=eE t*t.rise:=by unfold sy;rw [w2,w3,w4];exact an (by omega) (by omega)
 have p2:sy t.pull t.flow (100+t.draught) t.spread=eE t*t.spread:=by unfold sy;rw [w2,w3,w4];exact an (by omega) (by omega)
 have bc:=jE h.c.1 h.c.2 hc.1 hc.2;have q1:IntKind.i64.wrap (t.cold*x.chill)=t.cold*x.chill:=an (by omega) (by omega);have q2:IntKind.i64.wrap (t.cold*x.chill*1000000)=t.cold*x.chill*1000000:=an (by omega) (by omega);have q3:IntKind.i64.wrap ((t.cold*x.chill*1000000).tdiv 10)=t.cold*x.chill*100000:=by
  have:(t.cold*x.chill*1000000).tdiv 10=t.cold*x.chill*100000:=by
   rw [show t.cold*x.chill*1000000=(t.cold*x.chill*100000)*10 by omega,Int.mul_tdiv_cancel _ (by decide)]
  rw [this];exact an (by omega) (by omega)
 have q4:IntKind.i64.wrap (eE t*t.spread-t.cold*x.chill*100000)=eE t*t.spread-t.cold*x.chill*100000:=an (by omega) (by omega);refine aa (ai (by kernel_rfl) rfl Tj) rfl ?_;simp only [go_sem,simprocAttr];refine bp ?_;simp only [w1,go_sem,simprocAttr];refine ae (xd _ _ _ _) rfl ?_;simp only [p0,go_sem,simprocAttr];refine bp ?_;simp only [w1,go_sem,simprocAttr];refine ae (xd _ _ _ _) rfl ?_;simp only [p1,go_sem,simprocAttr];refine bp ?_;simp only [w1,go_sem,simprocAttr];refine aC (xd _ _ _ _) rfl ?_;simp only [p2,q1,q2,q3,q4,go_sem,simprocAttr];refine bp ?_;simp only [yU,go_sem,simprocAttr]
def nU (w:Wick) (x:Wax) (c:Candle):Truth:=⟨w.pull.lo,x.flow.lo,x.rise.lo,x.spread.lo,-c.draught,c.cold.hi⟩
def qw (w:Wick) (x:Wax) (c:Candle):Truth:=⟨w.pull.hi,x.flow.hi,x.rise.hi,x.spread.hi,c.draught,c.cold.lo⟩
theorem OC {w} {x} {c} (hw:WickOk w) (hx:WaxOk x) (hc:CandleOk c):TOk (nU w x c):=by
 have:=hw.p;have:=hx.f;have:=hx.r;have:=hx.s;have:=hc.g;have:=hc.c
 constructor<;>(simp only [nU];omega)
theorem QX {w} {x} {c} (hw:WickOk w) (hx:WaxOk x) (hc:CandleOk c):TOk (qw w x c):=by
 have:=hw.p;have:=hx.f;have:=hx.r;have:=hx.s;have:=hc.g;have:=hc.c
 constructor<;>(simp only [qw];omega)
theorem Pe (s) (c) (x) (k) (w) (hs:Site s c x) (hk:SiteK s k w):ah TP 327 [gK s c x,.int .i64 k] (.tuple [(nU w x c).pv,(qw w x c).pv]):=by
 have k0:=hk.k0;have k1:=hk.k1;have hw:=hk.hw;have hn:IntKind.i64.wrap (-c.draught)=-c.draught:=an (by have:=hs.co.g;omega) (by have:=hs.co.g;omega);refine aa (ai (by kernel_rfl) rfl Tk) rfl ?_;simp only [Sm,bf,k0,k1,hw,hn,nU,qw,go_sem,simprocAttr]
def leastB (w:Wick) (x:Wax) (c:Candle):Burn:=yU x.chill (nU w x c)
def mostB (w:Wick) (x:Wax) (c:Candle):Burn:=yU x.chill (qw w x c)
theorem vI (s) (c) (x) (k) (w) (hs:Site s c x) (hk:SiteK s k w):ah TP 322 [gK s c x,.int .i64 k] (.tuple [(leastB w x c).pv,(mostB w x c).pv]):=by
 refine aa (ai (by kernel_rfl) rfl Tp) rfl ?_;simp only [go_sem,simprocAttr];refine ae (Pe s c x k w hs hk) rfl ?_;simp only [go_sem,simprocAttr];refine ae (NO s c x (nU w x c) (OC hk.wo hs.xo hs.co) hs.xo.c) rfl ?_;simp only [go_sem,simprocAttr];refine aW (λhb=>?_) (λhb=>?_)
 .have he:nU w x c=qw w x c:=by
   simp only [dA,beq_iff_eq] at hb;simp only [nU,qw] at hb |-;simp [hb]
  simp only [leastB,mostB,he,go_sem,simprocAttr]
 .simp only [go_sem,simprocAttr];refine aC (NO s c x (qw w x c) (QX hk.wo hs.xo hs.co) hs.xo.c) rfl ?_;simp only [leastB,mostB,go_sem,simprocAttr]
def hJ:Burn:=⟨0,0,0⟩
attribute [go_sem] hJ
def nN (s:Shop) (b:Burn):Bool:=decide (s.flame.hi*1000000<b.flame)
def lT (s:Shop) (b:Burn):Bool:=decide (b.flame<s.flame.lo*1000000)
def lM (s:Shop) (d:Int) (b:Burn):Bool:=decide (b.pool<s.pool.lo*d*1000)
def j8 (s:Shop) (d:Int) (b:Burn):Bool:=decide (s.pool.hi*d*1000<b.pool)
def eK (b:Bool) (n:Int):List Int:=if b=true then [n] else []
def ng (s:Shop) (d:Int) (l m:Burn):List Int:=eK (nN s m) 1++(eK (lT s l) 2++(eK (lM s d l) 3++eK (j8 s d m) 4))
def Dl (l:List Int):PV:=.slice 1 (l.map aJ) false
theorem FX {s} (so:ShopOk s) {d} (hd:1<=d/\d<=2000):(0<=s.pool.lo*d/\s.pool.lo*d<=2000*2000)/\(0<=s.pool.hi*d/\s.pool.hi*d<=2000*2000) :=
 ⟨jE (by have:=so.po;omega) (by have:=so.po;omega) (by omega) hd.2,jE (by have:=so.po;omega) (by have:=so.po;omega) (by omega) hd.2⟩
theorem NL (s) (c) (x) (n) (hn:0<=n*c.diameter/\n*c.diameter<=2000*2000):ah TP 317 [.int .i64 n,.ptr 1 [gK s c x] 0 0] (.int .i64 (n*c.diameter*1000)):=by
 have w1:IntKind.i64.wrap (n*c.diameter)=n*c.diameter:=an (by omega) (by omega);have w2:IntKind.i64.wrap (n*c.diameter*1000)=n*c.diameter*1000:=an (by omega) (by omega);refine aa (ai (by kernel_rfl) rfl Tu) rfl ?_;simp only [w1,w2,go_sem,simprocAttr]
theorem Pl (s) (c) (x) (so:ShopOk s) (l m:Burn):ah TP 318 [l.pv,m.pv,.ptr 1 [gK s c x] 0 0] (.bool (nN s m)):=by
 have w1:IntKind.i64.wrap (s.flame.hi*1000000)=s.flame.hi*1000000:=an (by have:=so.fl;omega) (by have:=so.fl;omega);refine aa (ai (by kernel_rfl) rfl Tt) rfl ?_;simp only [w1,nN,go_sem,simprocAttr]
theorem Mv (s) (c) (x) (so:ShopOk s) (l m:Burn):ah TP 319 [l.pv,m.pv,.ptr 1 [gK s c x] 0 0] (.bool (lT s l)):=by
 have w1:IntKind.i64.wrap (s.flame.lo*1000000)=s.flame.lo*1000000:=an (by have:=so.fl;omega) (by have:=so.fl;omega);refine aa (ai (by kernel_rfl) rfl Ts) rfl ?_;simp only [w1,lT,go_sem,simprocAttr]
def CI (s:Shop) (c:Candle) (x:Wax):PV:=.ptr 1 [.func (.func 317) [] [.ptr 1 [gK s c x] 0 0]] 0 0
attribute [go_sem] CI
theorem Mm (s) (c) (x) (so:ShopOk s) (co:CandleOk c) (l m:Burn):ah TP 320 [l.pv,m.pv,CI s c x,.ptr 1 [gK s c x] 0 0] (.bool (lM s c.diameter l)):=by
 refine aa (ai (by kernel_rfl) rfl Tr) rfl ?_;simp only [go_sem,simprocAttr];refine aC (NL s c x s.pool.lo (FX so co.d).1) rfl ?_;simp only [lM,go_sem,simprocAttr]
theorem WA (s) (c) (x) (so:ShopOk s) (co:CandleOk c) (l m:Burn):ah TP 321 [l.pv,m.pv,CI s c x,.ptr 1 [gK s c x] 0 0] (.bool (j8 s c.diameter m)):=by
 refine aa (ai (by kernel_rfl) rfl Tq) rfl ?_;simp only [go_sem,simprocAttr];refine aC (NL s c x s.pool.hi (FX so co.d).2) rfl ?_;simp only [j8,go_sem,simprocAttr]
def mZ (a b c d:Bool):Nat->List Int
 |0=>[]
 |1=>eK a 1
 |2=>eK a 1++eK b 2
 |3=>eK a 1++eK b 2++eK c 3
 |_=>eK a 1++eK b 2++eK c 3++eK d 4
theorem qD (b) (n):(eK b n).length<=1:=by cases b<;>simp [eK]
theorem LB (a b c d) (i):(mZ a b c d i).length<=4:=by
 have h1:=qD a 1;have h2:=qD b 2;have h3:=qD c 3;have h4:=qD d 4
 match i with
 |0=>simp [mZ]
 |1=>simp [mZ];omega
 |2=>simp [mZ];omega
 |3=>simp [mZ];omega
 |_+4=>simp [mZ];omega
theorem LC (s) (d) (l m):mZ (nN s m) (lT s l) (lM s d l) (j8 s d m) 4=ng s d l m:=by simp [mZ,ng]
theorem Km (s) (c) (x) (k) (w) (hs:Site s c x) (hk:SiteK s k w):ah TP 294 [gK s c x,.int .i64 k] (Dl (ng s c.diameter (leastB w x c) (mostB w x c))):=by
 refine gb (ai (by kernel_rfl) rfl TL) rfl ?_;simp only [go_sem,simprocAttr];refine ae (vI s c x k w hs hk) rfl ?_;simp only [go_sem,simprocAttr];refine et 4 1 (by simp only [go_sem,simprocAttr]) ?_;simp only [go_sem,simprocAttr];generalize ho:mZ (nN s (mostB w x c)) (lT s (leastB w x c)) (lM s c.diameter (leastB w x c)) (j8 s c.diameter (mostB w x c))=o;have hlen:∀ i,(o i).length+1<=aB:=λi=>by
  have:=LB (nN s (mostB w x c)) (lT s (leastB w x c)) (lM s c.diameter (leastB w x c)) (j8 s c.diameter (mostB w x c)) i;rw [ho] at this;simp only [aB];omega
 refine PR [7,8,27,28] (σ:=Nat) (λi=>i<=4) (λi=>4-i) (λi=>[(4,.slice 5 (o i).length 0 (o i).length),(29,.p (.int .i64 i))]) (λi h=>h.set 5 (.row 1 ((o i).map λn=>.p (.int .i64 n)))) 0 (by omega) ?_ ?_
 .have h0:o 0=[]:=by rw [<-ho];rfl
  simp only [h0,go_sem,simprocAttr]
 intro i hi;have hcase:i=0\/i=1\/i=2\/i=3\/i=4:=by omega
 rcases hcase with rfl | rfl | rfl | rfl | rfl
 .have hl:=hlen 0;have h1:o 1=o 0++eK (nN s (mostB w x c)) 1:=by rw [<-ho];simp [mZ]
  simp only [go_sem,simprocAttr];refine bh (Pl s c x hs.so (leastB w x c) (mostB w x c)) ?_ (.bool _) ?_
  .simp only [go_sem,simprocAttr]
  simp only [go_sem,simprocAttr];cases hb:nN s (mostB w x c)
  .have h1':o 1=o 0:=by rw [h1,hb];simp [eK]
   simp only [go_sem,simprocAttr];refine dp 1 (by omega) (by omega) ?_;simp only [h1',go_sem,simprocAttr]
  .have h1':o 1=o 0++[1]:=by rw [h1,hb];rfl
   simp only [hl,go_sem,simprocAttr];refine dp 1 (by omega) (by omega) ?_;simp only [h1',aP,cp,go_sem,simprocAttr]
 .have hl:=hlen 1;have h1:o 2=o 1++eK (lT s (leastB w x c)) 2:=by rw [<-ho];simp [mZ]
  simp only [go_sem,simprocAttr];refine bh (Mv s c x hs.so (leastB w x c) (mostB w x c)) ?_ (.bool _) ?_
  .simp only [go_sem,simprocAttr]
  simp only [go_sem,simprocAttr];cases hb:lT s (leastB w x c)
  .have h1':o 2=o 1:=by rw [h1,hb];simp [eK]
   simp only [go_sem,simprocAttr];refine dp 2 (by omega) (by omega) ?_;simp only [h1',go_sem,simprocAttr]
  .have h1':o 2=o 1++[2]:=by rw [h1,hb];rfl
   simp only [hl,go_sem,simprocAttr];refine dp 2 (by omega) (by omega) ?_;simp only [h1',aP,cp,go_sem,simprocAttr]
 .have hl:=hlen 2;have h1:o 3=o 2++eK (lM s c.diameter (leastB w x c)) 3:=by rw [<-ho];simp [mZ]
  simp only [go_sem,simprocAttr];refine bh (Mm s c x hs.so hs.co (leastB w x c) (mostB w x c)) ?_ (.bool _) ?_
  .simp only [go_sem,simprocAttr]
  simp only [go_sem,simprocAttr];cases hb:lM s c.diameter (leastB w x c)
  .have h1':o 3=o 2:=by rw [h1,hb];simp [eK]
   simp only [go_sem,simprocAttr];refine dp 3 (by omega) (by omega) ?_;simp only [h1',go_sem,simprocAttr]
  .have h1':o 3=o 2++[3]:=by rw [h1,hb];rfl
   simp only [hl,go_sem,simprocAttr];refine dp 3 (by omega) (by omega) ?_;simp only [h1',aP,cp,go_sem,simprocAttr]
 .have hl:=hlen 3;have h1:o 4=o 3++eK (j8 s c.diameter (mostB w x c)) 4:=by rw [<-ho];simp [mZ]
  simp only [go_sem,simprocAttr];refine bh (WA s c x hs.so hs.co (leastB w x c) (mostB w x c)) ?_ (.bool _) ?_
  .simp only [go_sem,simprocAttr]
  simp only [go_sem,simprocAttr];cases hb:j8 s c.diameter (mostB w x c)
  .have h1':o 4=o 3:=by rw [h1,hb];simp [eK]
   simp only [go_sem,simprocAttr];refine dp 4 (by omega) (by omega) ?_;simp only [h1',go_sem,simprocAttr]
  .have h1':o 4=o 3++[4]:=by rw [h1,hb];rfl
   simp only [hl,go_sem,simprocAttr];refine dp 4 (by omega) (by omega) ?_;simp only [h1',aP,cp,go_sem,simprocAttr]
 .have h4:o 4=ng s c.diameter (leastB w x c) (mostB w x c):=by rw [<-ho];exact LC _ _ _ _
  simp only [h4,Dl,go_sem,simprocAttr];first | rfl | exact .inl rfl | exact ⟨_,_,rfl,rfl,.inr ⟨rfl,1,rfl⟩,.inl rfl,.inl rfl,trivial⟩ | exact ⟨_,_,rfl,rfl,.inr ⟨rfl,1,rfl⟩,.inl rfl,trivial⟩ | exact ⟨_,_,rfl,rfl,.inl rfl,.inl rfl,trivial⟩ | exact .inl (.inl rfl) | exact .inl (.inr ⟨rfl,1,rfl⟩) | exact .inr ⟨_,_,rfl,rfl,.inl rfl,.inl rfl,trivial⟩ | exact .inr ⟨_,_,rfl,rfl,.inr ⟨rfl,1,rfl⟩,.inl rfl,trivial⟩ | exact ⟨1,rfl⟩ | (simp;done) | (refine .inr ⟨_,_,rfl,rfl,?_⟩;repeat' (first | exact trivial | exact .inl rfl | exact .inr ⟨rfl,1,rfl⟩ | refine ⟨?_,?_⟩))
def Nm (s:Shop) (c:Candle) (x:Wax) (w:Wick):Bool:=(ng s c.diameter (leastB w x c) (mostB w x c)).length==0
def fR (s:Shop) (c:Candle) (x:Wax):List Wick->Nat->List Int
 |[],_=>[]
 |w::r,i=>if Nm s c x w=true then (i:Int)::fR s c x r (i+1) else fR s c x r (i+1)
theorem Oc {s} {c} {x} (hs:Site s c x) {done r} {w} (e:s.wicks=done++w::r):SiteK s (done.length:Int) w :=
 ⟨by omega,by rw [e];simp<;>omega,by rw [e];simp,hs.so.w w (by rw [e];simp)⟩
def xA (s:Shop) (c:Candle) (x:Wax):PV:=.func (.func 293) [] [.ptr 1 [gK s c x] 0 0]
theorem LV (s) (c) (x) (hs:Site s c x):Sk TP (xA s c x) ((fR s c x s.wicks 0).map aJ):=by
 refine ⟨_,_,_,rfl,λid Inv Fin h0 hlen hy hi=>?_⟩;have lw:=hs.so.lw;refine ax (ai (by kernel_rfl) rfl TM) rfl ?_;simp only [go_sem,simprocAttr]
 refine eF [0,1,9] (σ:=List Wick×List Wick×List Int×Heap) (λq=>s.wicks=q.1++q.2.1/\fR s c x s.wicks 0=q.2.2.1++fR s c x q.2.1 q.1.length/\Inv q.2.2.1.length q.2.2.2) (λq=>q.2.1.length)
  (λq=>[(10,.p (.int .i64 q.1.length))]) (λq=>q.2.2.2) ([],s.wicks,[],h0) ⟨rfl,rfl,hi⟩ rfl ?_ ?_
 .simp only [go_sem,simprocAttr]
 rintro ⟨done,rest,pre,h⟩ ⟨e1,e2,hI⟩
 dsimp only at e1 e2 hI
 cases rest with
 |nil =>
  have hlt:¬ ((done.length:Int)<(s.wicks.length:Int)):=by rw [e1];simp
  simp only [hlt,go_sem,simprocAttr];refine .inl ?_;rw [e2,fR,bF]
  exact hI
 |cons w r =>
  obtain ⟨hx,hlt⟩:=gC e1;have hnx:IntKind.i64.wrap ((done.length:Int)+1)=(((done++[w]).length:Nat):Int):=bI (by omega) (by simp [aB];omega) (by simp);have hk:=Oc hs e1;rw [fR] at e2;simp only [hlt,go_sem,simprocAttr];refine ae (Km s c x _ w hs hk) rfl ?_;simp only [Dl,go_sem,simprocAttr];have hok:((((ng s c.diameter (leastB w x c) (mostB w x c)).length:Nat):Int)==0)=Nm s c x w:=by
   unfold Nm;rw [rW];simp
  rw [hok];cases hb:Nm s c x w
  .simp only [go_sem,simprocAttr];refine bq (done++[w],r,pre,h) ⟨by simp [e1],by rw [e2,hb];simp,hI⟩ (by simp) rfl ?_;simp only [hnx,go_sem,simprocAttr]
  .rw [hb,if_pos rfl] at e2;have hget:((fR s c x s.wicks 0).map aJ)[pre.length]?=some (.int .i64 done.length):=by rw [e2];simp [aJ]
   simp only [go_sem,simprocAttr];refine oe (hy pre.length _ h hget hI) (λv h' hr=>?_) (λv h' hr=>?_);rotate_left
   .rcases hr with ⟨hr,_⟩ | ⟨hr,_⟩<;>cases hr
   rcases hr with ⟨hr,hI'⟩ | ⟨hr,hF,_⟩
   .cases hr;simp only [go_sem,simprocAttr];refine bq (done++[w],r,pre++[(done.length:Int)],h') ⟨by simp [e1],by rw [e2];simp,by simpa using hI'⟩ (by simp) rfl ?_;simp only [hnx,go_sem,simprocAttr]
   .cases hr;simp only [go_sem,simprocAttr];exact .inr hF
theorem Mn (s) (c) (x):ah TP 263 [gK s c x] (xA s c x):=by
 refine cI (ai (by kernel_rfl) rfl Ud) rfl ?_;simp only [xA,go_sem,simprocAttr]
theorem tI {α:Type} {l:List α} {k} {x} (h:l[k]?=some x):l.take (k+1)=l.take k++[x]:=by
 rw [wz,h];rfl
def thr (s:Shop) (n:Int):Int:=match s.wicks[n.toNat]? with | some w=>w.threads | none=>0
def fL (s:Shop):List Int->Int->Int
 |[],b=>b
 |n::r,b=>fL s r (if (decide (b<0)||decide (thr s n<thr s b))=true then n else b)
def qo (s:Shop) (n:Int):Prop:=0<=n/\n<(s.wicks.length:Int)
theorem nD (s) (c) (x):∀ (l) (i),i+l.length=s.wicks.length->∀ n,n∈fR s c x l i->qo s n
 |[],_,_,n,hn=>by cases hn
 |w::r,i,hi,n,hn=>by
  unfold fR at hn;simp only [e9] at hi;split at hn
  .rcases cz.1 hn with rfl | hn
   .exact ⟨by omega,by omega⟩
   .exact nD s c x r (i+1) (by omega) n hn
  .exact nD s c x r (i+1) (by omega) n hn
theorem Cj {s} {n} (h:qo s n):∃ w,s.wicks[n.toNat]?=some w/\thr s n=w.threads:=by
 obtain ⟨w,hw⟩:=NQ h.1 h.2;exact ⟨w,hw,by simp [thr,hw]⟩
theorem s9 (s):∀ (l) (b),(∀ n,n∈l->qo s n)->(b=-1\/qo s b)->fL s l b=-1\/qo s (fL s l b)
 |[],b,_,hb=>hb
 |n::r,b,hl,hb=>by
  unfold fL;refine s9 s r _ (λm hm=>hl m (by simp [hm])) ?_;split
  .exact .inr (hl n (by simp))
  .exact hb
theorem wn (s):∀ (l) (n b),fL s (l++[n]) b=if (decide (fL s l b<0)||decide (thr s n<thr s (fL s l b)))=true then n else fL s l b
 |[],n,b=>rfl
 |m::r,n,b=>by
  rw [gQ,fL,wn s r n,fL]
def dE (s:Shop) (c:Candle) (x:Wax):Int×Int :=
 if gh s [] c=0 then (if fL s (fR s c x s.wicks 0) (-1)<0 then (0,9) else (fL s (fR s c x s.wicks 0) (-1),0)) else (0,gh s [] c)
theorem BA (s) (c) (x) (h:gh s [] c=0->Site s c x):ah TP 193 [s.pv,c.pv] (.tuple [.int .i64 (dE s c x).1,.int .i64 (dE s c x).2]):=by
 refine aa (ai (by kernel_rfl) rfl U1) rfl ?_;simp only [go_sem,simprocAttr];refine ae ((H' s c [] false _ rfl (by simp) x (λh0=>(h h0).hx)).argless (args':=[s.pv,c.pv,.nilslice]) ⟨.inl rfl,.inl rfl,.inr ⟨rfl,1,rfl⟩,trivial⟩) rfl ?_;by_cases h0':gh s [] c=0;rotate_left
 .have h0:(gh s [] c != 0)=true:=by simpa using h0'
  simp only [h0,dE,if_neg h0',go_sem,simprocAttr]
 have h0:(gh s [] c != 0)=false:=by simpa using h0'
 have hs:=h h0';simp only [h0,if_pos h0',go_sem,simprocAttr];refine ae (Mn s c x) rfl ?_;simp only [go_sem,simprocAttr];generalize hl:fR s c x s.wicks 0=l;have hval:∀ n,n∈l->qo s n:=by
  intro n hn;rw [<-hl] at hn;exact nD s c x s.wicks 0 (by simp) n hn
 have hit:=LV s c x hs;rw [hl] at hit
 refine Sa (l:=l.map aJ) (λo k h=>k<=l.length/\h=[.row 6 [.p s.pv],.row 5 [.p c.pv],.row 1 [.p (gK s c x)],.row 1 [.p (.int .i64 (fL s (l.take k) (-1)))],.dblock,o]) (λ_ _=>False)
  rfl (by simp only [xA,go_sem,simprocAttr]) hit jv (by kernel_rfl) rfl (by kernel_rfl) (by kernel_rfl) ?_ ?_ ?_ ?_ ?_ (λ_ _ h=>h.elim)
 .rintro o k h ⟨_,rfl⟩;simp
 .rintro o k h ⟨_,rfl⟩;simp
 .intro o;refine ⟨by omega,?_⟩;simp only [go_sem,simprocAttr];rfl
 .rintro oR oB oD k v h hv ⟨hk,rfl⟩
  have hv':∃ n,l[k]?=some n/\v=.int .i64 n:=by
   rw [cg,bz] at hv;obtain ⟨n,h1,rfl⟩:=hv;exact ⟨n,h1,rfl⟩
  obtain ⟨n,hn,rfl⟩:=hv';have hlt:k<l.length:=(ar.1 hn).1;have hnv:=hval n (aI hn);obtain ⟨w,hw,ht⟩:=Cj hnv;have hb:=wn s (l.take k) n (-1);rw [<-tI hn] at hb;have hbv:=s9 s (l.take k) (-1) (λm hm=>hval m (nA hm)) (.inl rfl);generalize fL s (l.take k) (-1)=b at hb hbv;have n0:=hnv.1;have n1:=hnv.2;simp only [go_sem,simprocAttr];cases hneg:decide (b<0)
  .have hbv':qo s b:=by
    rcases hbv with h | h
    .rw [h] at hneg;simp at hneg
    .exact h
   obtain ⟨w2,hw2,ht2⟩:=Cj hbv';have b0:=hbv'.1;have b1:=hbv'.2;rw [hneg,ht,ht2] at hb;simp only [n0,n1,b0,b1,hw,hw2,go_sem,simprocAttr];cases hlt2:decide (w.threads<w2.threads)
   .rw [hlt2] at hb;simp only [hb,go_sem,simprocAttr];exact hlt
   .rw [hlt2] at hb;simp only [hb,go_sem,simprocAttr];exact hlt
  .rw [hneg] at hb;simp only [hb,go_sem,simprocAttr];exact hlt
 .rintro o h ⟨_,rfl⟩
  have h1:l.take (l.map aJ).length=l:=by simp
  rw [h1];simp only [go_sem,simprocAttr];cases hneg:decide (fL s l (-1)<0)
  .have:¬ fL s l (-1)<0:=by simpa using hneg
   simp only [dE,if_pos h0',hl,if_neg this,bJ,go_sem,simprocAttr]
  .have:fL s l (-1)<0:=by simpa using hneg
   simp only [dE,if_pos h0',hl,if_pos this,bJ,go_sem,simprocAttr]
end Wk
end Abs
end Go.Proofs.YtfafnkpfamgbbaaGreatDoor
