/- CONTRACTS of the program's functions, and laws on what they return. No conditions but those in the theorems' heads. -/
import Derived.Test.YtoapoaoelpcniaaGreatDoorHrReadX
set_option linter.all false
open Go.Proofs.Tryz renaming prog->TP
namespace Go.Proofs.YtoapoaoelpcniaaGreatDoor
namespace Abs
namespace Wk
set_option maxRecDepth 4000
structure WickOk (w:Wick):Prop where
 t:1<=w.threads/\w.threads<=100
 p:1<=w.pull.lo/\w.pull.lo<=w.pull.hi/\w.pull.hi<=1000
structure WaxOk (x:Wax):Prop where
 f:1<=x.flow.lo/\x.flow.lo<=x.flow.hi/\x.flow.hi<=300
 r:1<=x.rise.lo/\x.rise.lo<=x.rise.hi/\x.rise.hi<=1000
 s:1<=x.spread.lo/\x.spread.lo<=x.spread.hi/\x.spread.hi<=2000
 c:0<=x.chill/\x.chill<=50
structure ShopOk (s:Shop):Prop where
 lw:1<=s.wicks.length/\s.wicks.length<=12
 lx:1<=s.waxes.length/\s.waxes.length<=6
 fl:0<=s.flame.lo/\s.flame.lo<=s.flame.hi/\s.flame.hi<=2000
 po:0<=s.pool.lo/\s.pool.lo<=s.pool.hi/\s.pool.hi<=2000
 w:∀w,w∈s.wicks->WickOk w
 x:∀x,x∈s.waxes->WaxOk x
def shopErr (s:Shop):Int:=(cp s).2.2
theorem uw{n lo hi}:ar n lo hi=true↔lo<=n/\n<=hi:=by simp[ar]
theorem yy{s}{lo hi}:cv s lo hi=true↔(lo<=s.lo/\s.lo<=hi)/\lo<=s.hi/\s.hi<=hi:=by simp[cv,ar]
theorem ro{s}:aR s=false↔s.lo<=s.hi:=by simp[aR]
theorem KS{b}{w}(h:ct b w=0):WickOk w:=by
 unfold ct at h;split at h
 .split at h
  .rename_i h1;split at h
   .cases h
   .rename_i h2;simp only[cG,uw,yy]at h1;rw[KC,ro]at h2;exact⟨h1.1,h1.2.1.1,h2,h1.2.2.2⟩
  .cases h
 .rename_i h0;exact absurd h h0
theorem MD{b}{x}(h:dK b x=0):WaxOk x:=by
 unfold dK at h;split at h
 .split at h
  .rename_i h1;split at h
   .cases h
   .rename_i h2;simp only[cG,uw,yy]at h1;rw[KC]at h2;simp only[KJ,ro]at h2;exact⟨⟨h1.1.2.1.1,h2.1,h1.1.2.2.2⟩,⟨h1.2.1.1.1,h2.2.1,h1.2.1.2.2⟩,⟨h1.2.2.1.1,h2.2.2,h1.2.2.2.2⟩,h1.1.1⟩
  .cases h
 .rename_i h0;exact absurd h h0
theorem jk{α}{f:List ByteArray->α->Int}{nm}:∀{l} {b},firstErr f nm l b=none->∀x,x∈l->∃b,f b x=0
 |[],_,_,x,hx=>by cases hx
 |y::r,b,h,x,hx=>by
  unfold firstErr at h;split at h
  .rename_i h0;rcases ci.1 hx with rfl|hx
   .exact⟨b,h0⟩
   .exact jk h x hx
  .cases h
theorem qY{α}{f:List ByteArray->α->Int}{nm}:∀{l} {b} {i e},firstErr f nm l b=some (i,e)->e≠0
 |[],_,_,_,h=>by cases h
 |y::r,b,i,e,h=>by
  unfold firstErr at h;split at h
  .exact qY h
  .rename_i h0;cases h;exact h0
theorem wT{s}(h:shopErr s=0):ShopOk s:=by
 unfold shopErr cp at h;split at h
 .rename_i h1;split at h
  .rename_i h2;split at h
   .cases h
   .rename_i h3;simp only[cG,uw,yy]at h1 h2;rw[KC]at h3;simp only[KJ,ro]at h3;unfold dP at h;split at h
    .rename_i i e hf;exact absurd h (qY hf)
    .rename_i hf;split at h
     .rename_i i e hg;exact absurd h (qY hg)
     .rename_i hg;refine⟨by omega,by omega,⟨h2.1.1.1,h3.1,h2.1.2.2⟩,⟨h2.2.1.1,h3.2,h2.2.2.2⟩,λw hw=>?_,λx hx=>?_⟩
      .obtain⟨b,hb⟩:=jk hf w hw;exact KS hb
      .obtain⟨b,hb⟩:=jk hg x hx;exact MD hb
  .cases h
 .cases h
def fb (s:Shop) (c:Candle):Int:=
 if ar c.wax 0 ((s.waxes.length:Int)-1)=true then(if(ar c.diameter 1 2000&&(ar c.draught 0 90&&cv c.cold 0 300))=true then(if aR c.cold=true then 2 else 0) else 7) else 4
def io (s:Shop) (ks:List Int) (c:Candle):Int:=
 if shopErr s=0 then(if(ks.all λk=>ar k 0 ((s.wicks.length:Int)-1))=true then fb s c else 4) else shopErr s
structure CandleOk (c:Candle):Prop where
 d:1<=c.diameter/\c.diameter<=2000
 g:0<=c.draught/\c.draught<=90
 c:0<=c.cold.lo/\c.cold.lo<=c.cold.hi/\c.cold.hi<=300
theorem zp{s}{c}(h:fb s c=0):CandleOk c/\0<=c.wax/\c.wax<s.waxes.length:=by
 unfold fb at h;split at h
 .rename_i h1;split at h
  .rename_i h2;split at h
   .cases h
   .rename_i h3;simp only[cG,uw,yy]at h1 h2;rw[KC,ro]at h3;exact⟨⟨h2.1,h2.2.1,h2.2.2.1.1,h3,h2.2.2.2.2⟩,h1.1,by omega⟩
  .cases h
 .cases h
theorem Wr{s}{ks}{c}(h:io s ks c=0):shopErr s=0/\fb s c=0/\∀k,k∈ks->0<=k/\k<s.wicks.length:=by
 unfold io at h;split at h
 .rename_i h1;split at h
  .rename_i h2;refine⟨h1,h,λk hk=>?_⟩;have:=lm.1 h2 k hk;rw[uw]at this;omega
  .cases h
 .rename_i h0;exact absurd h h0
def iR (s:Shop) (c:Candle) (x:Wax):PV:=.ptr 19 [.agg (s.pv.cells++c.pv.cells++x.pv.cells)] 0 0
attribute [go_sem] iR
theorem Jf(l:List Int)(lo hi):(l.any λn=>!ar n lo hi)=!(l.all λn=>ar n lo hi):=by rw[<-List.not_all_eq_any_not]
theorem L0(s)(c)(ks)(b)(xs)(hxs:xs=ks.map aI)(hks:ks.length<1000000)(x)(hx:io s ks c=0->s.waxes[c.wax.toNat]?=some x) :
  af TP 283 [s.pv,c.pv,.slice 1 xs b] (.tuple [if io s ks c=0 then iR s c x else .nilptr,.int .i64 (io s ks c)]):=by
 subst hxs;refine dg (ah Tryz.func283 rfl (by kernel_rfl)) rfl ?_;simp only[go_sem,simprocAttr];refine ae (qJ s) rfl ?_;simp only[al,go_sem,simprocAttr];have hE:(cp s).2.2=shopErr s:=rfl;rw[hE];cases h0:(shopErr s != 0)
 rotate_left
 .have h0':¬shopErr s=0:=by simpa using h0
  simp only[io,if_neg h0',go_sem,simprocAttr]
 have h0':shopErr s=0:=by simpa using h0
 have ok:=wT h0';have hw1:IntKind.i64.wrap ((s.wicks.length:Int)-1)=(s.wicks.length:Int)-1:=aj (by omega) (by have:=ok.lw;omega);have hw2:IntKind.i64.wrap ((s.waxes.length:Int)-1)=(s.waxes.length:Int)-1:=aj (by omega) (by have:=ok.lx;omega);have hA:io s ks c=if(ks.all λk=>ar k 0 ((s.wicks.length:Int)-1))=true then fb s c else 4:=by simp only[io,if_pos h0']
 rw[hA]at hx |-;simp only[hw1,go_sem,simprocAttr];refine ae (fi 0 ((s.wicks.length:Int)-1) ks b (by omega)) rfl ?_;simp only[go_sem,simprocAttr];rw[Jf];cases h1:(ks.all λk=>ar k 0 ((s.wicks.length:Int)-1))
 .simp only[go_sem,simprocAttr]
 rw[h1,if_pos rfl]at hx;simp only[hw2,go_sem,simprocAttr];refine ae (fi 0 ((s.waxes.length:Int)-1) [_] true (by simp)) rfl ?_;simp only[cV,bw,go_sem,simprocAttr];cases h2:ar c.wax 0 ((s.waxes.length:Int)-1)
 .simp only[fb,h2,go_sem,simprocAttr]
 simp only[go_sem,simprocAttr];refine ae (fi 1 2000 [_] true (by simp)) rfl ?_;simp only[cV,bw,go_sem,simprocAttr];cases h3:ar c.diameter 1 2000
 .simp only[fb,h2,h3,go_sem,simprocAttr]
 simp only[go_sem,simprocAttr];refine ae (fi 0 90 [_] true (by simp)) rfl ?_;simp only[cV,bw,go_sem,simprocAttr];cases h4:ar c.draught 0 90
 .simp only[fb,h2,h3,h4,go_sem,simprocAttr]
 simp only[go_sem,simprocAttr];refine ae (fi 0 300 [_,_] true (by simp)) rfl ?_;simp only[cV,bw,<-iZ,go_sem,simprocAttr];cases h5:(ar c.cold.lo 0 300&&ar c.cold.hi 0 300)
 .simp only[fb,h2,h3,h4,cv,h5,go_sem,simprocAttr]
 simp only[go_sem,simprocAttr];refine ae (yI [c.cold] true (by simp)) rfl ?_;simp only[cV,bw,go_sem,simprocAttr];cases h6:decide (c.cold.hi<c.cold.lo);rotate_left
 .simp only[fb,h2,h3,h4,cv,h5,aR,h6,go_sem,simprocAttr]
 have hc:fb s c=0:=by simp only[fb,h2,h3,h4,cv,h5,aR,h6];rfl
 have hxx:=hx hc;obtain⟨_,hc0,hc1⟩:=zp hc;simp only[hc,hc0,hc1,hxx,go_sem,simprocAttr]
structure Site (s:Shop) (c:Candle) (x:Wax):Prop where
 so:ShopOk s
 co:CandleOk c
 c0:0<=c.wax
 c1:c.wax<(s.waxes.length:Int)
 hx:s.waxes[c.wax.toNat]?=some x
 xo:WaxOk x
structure SiteK (s:Shop) (k:Int) (w:Wick):Prop where
 k0:0<=k
 k1:k<(s.wicks.length:Int)
 hw:s.wicks[k.toNat]?=some w
 wo:WickOk w
theorem R4{α:Type}{l:List α}{k}(h0:0<=k)(h1:k<(l.length:Int)):∃w,l[k.toNat]?=some w:=⟨_,dc (by omega)⟩
theorem PB{s}{ks}{c}(h:io s ks c=0):∃x,Site s c x:=by
 obtain⟨h1,h2,_⟩:=Wr h;obtain⟨co,c0,c1⟩:=zp h2;obtain⟨x,hx⟩:=R4 c0 c1;have so:=wT h1;exact⟨x,so,co,c0,c1,hx,so.x x (aG hx)⟩
structure TOk (t:Truth):Prop where
 p:0<=t.pull/\t.pull<=1000
 f:0<=t.flow/\t.flow<=300
 r:0<=t.rise/\t.rise<=1000
 s:0<=t.spread/\t.spread<=2000
 d:-90<=t.draught/\t.draught<=90
 c:0<=t.cold/\t.cold<=300
def fI (t:Truth):Int:=t.pull*t.flow*(100+t.draught)
def BO (chill:Int) (t:Truth):Burn:=⟨fI t*100,fI t*t.rise,fI t*t.spread-t.cold*chill*100000⟩
theorem TOk.b{t}(h:TOk t):(0<=t.pull*t.flow/\t.pull*t.flow<=1000*300)/\(0<=fI t/\fI t<=1000*300*190)/\(0<=fI t*t.rise/\fI t*t.rise<=1000*300*190*1000) /\
  (0<=fI t*t.spread/\fI t*t.spread<=1000*300*190*2000):=by
 have h1:=kV h.p.1 h.p.2 h.f.1 h.f.2;have h2:=kV h1.1 h1.2 (b:=100+t.draught) (B:=190) (by have:=h.d;omega) (by have:=h.d;omega);exact⟨h1,h2,kV h2.1 h2.2 h.r.1 h.r.2,kV h2.1 h2.2 h.s.1 h.s.2⟩
def vp (a b c d:Int):Int:=IntKind.i64.wrap (IntKind.i64.wrap (IntKind.i64.wrap (IntKind.i64.wrap (1*a)*b)*c)*d)
theorem Ag(a b c d):af TP 342 [.agg [.int .i64 a,.int .i64 b,.int .i64 c,.int .i64 d]] (.int .i64 (vp a b c d)):=by
 refine aa (ah Tryz.func342 rfl (by kernel_rfl)) rfl ?_;simp only[go_sem,simprocAttr];refine br ?_;simp only[go_sem,simprocAttr];refine br ?_;simp only[go_sem,simprocAttr];refine br ?_;simp only[go_sem,simprocAttr];refine br ?_;simp only[go_sem,simprocAttr];refine br ?_;simp only[go_sem,simprocAttr];rfl
theorem R1(s)(c)(x)(t)(h:TOk t)(hc:0<=x.chill/\x.chill<=50):af TP 336 [iR s c x,t.pv] (BO x.chill t).pv:=by
 obtain⟨b1,b2,b3,b4⟩:=h.b;have w1:IntKind.i64.wrap (100+t.draught)=100+t.draught:=aj (by have:=h.d;omega) (by have:=h.d;omega);have w2:IntKind.i64.wrap (1*t.pull)=t.pull:=by rw[B4];exact aj (by have:=h.p;omega) (by have:=h.p;omega)
 have w3:IntKind.i64.wrap (t.pull*t.flow)=t.pull*t.flow:=aj (by omega) (by omega);have w4:IntKind.i64.wrap (t.pull*t.flow*(100+t.draught))=fI t:=aj (by unfold fI at b2;omega) (by unfold fI at b2;omega);have p0:vp t.pull t.flow (100+t.draught) 100=fI t*100:=by unfold vp;rw[w2,w3,w4];exact aj (by omega) (by omega)
 have p1:vp t.pull t.flow (100+t.draught) t.rise=fI t*t.rise:=by unfold vp;rw[w2,w3,w4];exact aj (by omega) (by omega)
 have p2:vp t.pull t.flow (100+t.draught) t.spread=fI t*t.spread:=by unfold vp;rw[w2,w3,w4];exact aj (by omega) (by omega)
 have bc:=kV h.c.1 h.c.2 hc.1 hc.2;have q1:IntKind.i64.wrap (t.cold*x.chill)=t.cold*x.chill:=aj (by omega) (by omega);have q2:IntKind.i64.wrap (t.cold*x.chill*1000000)=t.cold*x.chill*1000000:=aj (by omega) (by omega);have q3:IntKind.i64.wrap ((t.cold*x.chill*1000000).tdiv 10)=t.cold*x.chill*100000:=by
  have:(t.cold*x.chill*1000000).tdiv 10=t.cold*x.chill*100000:=by
   rw[show t.cold*x.chill*1000000=(t.cold*x.chill*100000)*10 by omega,Int.mul_tdiv_cancel _ (by decide)]
  rw[this];exact aj (by omega) (by omega)
 have q4:IntKind.i64.wrap (fI t*t.spread-t.cold*x.chill*100000)=fI t*t.spread-t.cold*x.chill*100000:=aj (by omega) (by omega);refine aa (ah Tryz.func336 rfl (by kernel_rfl)) rfl ?_;simp only[go_sem,simprocAttr];refine br ?_;simp only[w1,go_sem,simprocAttr];refine ae (Ag _ _ _ _) rfl ?_;simp only[p0,go_sem,simprocAttr];refine br ?_;simp only[w1,go_sem,simprocAttr];refine ae (Ag _ _ _ _) rfl ?_;simp only[p1,go_sem,simprocAttr];refine br ?_;simp only[w1,go_sem,simprocAttr];refine ax (Ag _ _ _ _) rfl ?_;simp only[p2,q1,q2,q3,q4,go_sem,simprocAttr];refine br ?_;simp only[BO,go_sem,simprocAttr]
def qw (w:Wick) (x:Wax) (c:Candle):Truth:=⟨w.pull.lo,x.flow.lo,x.rise.lo,x.spread.lo,-c.draught,c.cold.hi⟩
def tu (w:Wick) (x:Wax) (c:Candle):Truth:=⟨w.pull.hi,x.flow.hi,x.rise.hi,x.spread.hi,c.draught,c.cold.lo⟩
theorem ST{w}{x}{c}(hw:WickOk w)(hx:WaxOk x)(hc:CandleOk c):TOk (qw w x c):=by
 have:=hw.p;have:=hx.f;have:=hx.r;have:=hx.s;have:=hc.g;have:=hc.c
 constructor<;>(simp only[qw];omega)
theorem Vi{w}{x}{c}(hw:WickOk w)(hx:WaxOk x)(hc:CandleOk c):TOk (tu w x c):=by
 have:=hw.p;have:=hx.f;have:=hx.r;have:=hx.s;have:=hc.g;have:=hc.c
 constructor<;>(simp only[tu];omega)
theorem Ty(s)(c)(x)(k)(w)(hs:Site s c x)(hk:SiteK s k w):af TP 335 [iR s c x,.int .i64 k] (.tuple [(qw w x c).pv,(tu w x c).pv]):=by
 have k0:=hk.k0;have k1:=hk.k1;have hw:=hk.hw;have hn:IntKind.i64.wrap (-c.draught)=-c.draught:=aj (by have:=hs.co.g;omega) (by have:=hs.co.g;omega);refine aa (eg (by kernel_rfl) rfl Xk) rfl ?_;simp only[WU,aL,k0,k1,hw,hn,qw,tu,go_sem,simprocAttr]
def leastB (w:Wick) (x:Wax) (c:Candle):Burn:=BO x.chill (qw w x c)
def mostB (w:Wick) (x:Wax) (c:Candle):Burn:=BO x.chill (tu w x c)
theorem yM(s)(c)(x)(k)(w)(hs:Site s c x)(hk:SiteK s k w):af TP 332 [iR s c x,.int .i64 k] (.tuple [(leastB w x c).pv,(mostB w x c).pv]):=by
 refine aa (ah Tryz.func332 rfl (by kernel_rfl)) rfl ?_;simp only[go_sem,simprocAttr];refine ae (Ty s c x k w hs hk) rfl ?_;simp only[go_sem,simprocAttr];refine ae (R1 s c x (qw w x c) (ST hk.wo hs.xo hs.co) hs.xo.c) rfl ?_;simp only[go_sem,simprocAttr];refine aT (λhb=>?_) (λhb=>?_)
 .have he:qw w x c=tu w x c:=by
   simp only[cG,beq_iff_eq]at hb;simp only[qw,tu]at hb |-;simp[hb]
  simp only[leastB,mostB,he,go_sem,simprocAttr]
 .simp only[go_sem,simprocAttr];refine ax (R1 s c x (tu w x c) (Vi hk.wo hs.xo hs.co) hs.xo.c) rfl ?_;simp only[leastB,mostB,go_sem,simprocAttr]
def iu:Burn:=⟨0,0,0⟩
attribute [go_sem] iu
def ql (s:Shop) (b:Burn):Bool:=decide (s.flame.hi*1000000<b.flame)
def nS (s:Shop) (b:Burn):Bool:=decide (b.flame<s.flame.lo*1000000)
def nK (s:Shop) (d:Int) (b:Burn):Bool:=decide (b.pool<s.pool.lo*d*1000)
def lK (s:Shop) (d:Int) (b:Burn):Bool:=decide (s.pool.hi*d*1000<b.pool)
def fL (b:Bool) (n:Int):List Int:=if b=true then [n] else []
def pI (s:Shop) (d:Int) (l m:Burn):List Int:=fL (ql s m) 1++(fL (nS s l) 2++(fL (nK s d l) 3++fL (lK s d m) 4))
def GO (l:List Int):PV:=.slice 1 (l.map aI) false
theorem JD{s}(so:ShopOk s){d}(hd:1<=d/\d<=2000):(0<=s.pool.lo*d/\s.pool.lo*d<=2000*2000)/\(0<=s.pool.hi*d/\s.pool.hi*d<=2000*2000):=
 ⟨kV (by have:=so.po;omega) (by have:=so.po;omega) (by omega) hd.2,kV (by have:=so.po;omega) (by have:=so.po;omega) (by omega) hd.2⟩
theorem RX(s)(c)(x)(n)(hn:0<=n*c.diameter/\n*c.diameter<=2000*2000):af TP 327 [.int .i64 n,.ptr 1 [iR s c x] 0 0] (.int .i64 (n*c.diameter*1000)):=by
 have w1:IntKind.i64.wrap (n*c.diameter)=n*c.diameter:=aj (by omega) (by omega);have w2:IntKind.i64.wrap (n*c.diameter*1000)=n*c.diameter*1000:=aj (by omega) (by omega);refine aa (ah Tryz.func327 rfl (by kernel_rfl)) rfl ?_;simp only[w1,w2,go_sem,simprocAttr]
theorem TF(s)(c)(x)(so:ShopOk s)(l m:Burn):af TP 328 [l.pv,m.pv,.ptr 1 [iR s c x] 0 0] (.bool (ql s m)):=by
 have w1:IntKind.i64.wrap (s.flame.hi*1000000)=s.flame.hi*1000000:=aj (by have:=so.fl;omega) (by have:=so.fl;omega);refine aa (ah Tryz.func328 rfl (by kernel_rfl)) rfl ?_;simp only[w1,ql,go_sem,simprocAttr]
theorem Q1(s)(c)(x)(so:ShopOk s)(l m:Burn):af TP 329 [l.pv,m.pv,.ptr 1 [iR s c x] 0 0] (.bool (nS s l)):=by
 have w1:IntKind.i64.wrap (s.flame.lo*1000000)=s.flame.lo*1000000:=aj (by have:=so.fl;omega) (by have:=so.fl;omega);refine aa (ah Tryz.func329 rfl (by kernel_rfl)) rfl ?_;simp only[w1,nS,go_sem,simprocAttr]
def Gd (s:Shop) (c:Candle) (x:Wax):PV:=.ptr 1 [.func (.func 327) [] [.ptr 1 [iR s c x] 0 0]] 0 0
attribute [go_sem] Gd
theorem QP(s)(c)(x)(so:ShopOk s)(co:CandleOk c)(l m:Burn):af TP 330 [l.pv,m.pv,Gd s c x,.ptr 1 [iR s c x] 0 0] (.bool (nK s c.diameter l)):=by
 refine aa (ah Tryz.func330 rfl (by kernel_rfl)) rfl ?_;simp only[go_sem,simprocAttr];refine ax (RX s c x s.pool.lo (JD so co.d).1) rfl ?_;simp only[nK,go_sem,simprocAttr]
theorem X0(s)(c)(x)(so:ShopOk s)(co:CandleOk c)(l m:Burn):af TP 331 [l.pv,m.pv,Gd s c x,.ptr 1 [iR s c x] 0 0] (.bool (lK s c.diameter m)):=by
 refine aa (ah Tryz.func331 rfl (by kernel_rfl)) rfl ?_;simp only[go_sem,simprocAttr];refine ax (RX s c x s.pool.hi (JD so co.d).2) rfl ?_;simp only[lK,go_sem,simprocAttr]
def iP (a b c d:Bool):Nat->List Int
 |0=>[]
 |1=>fL a 1
 |2=>fL a 1++fL b 2
 |3=>fL a 1++fL b 2++fL c 3
 |_=>fL a 1++fL b 2++fL c 3++fL d 4
theorem tC(b)(n):(fL b n).length<=1:=by cases b<;>simp[fL]
theorem PS(a b c d)(i):(iP a b c d i).length<=4:=by
 have h1:=tC a 1;have h2:=tC b 2;have h3:=tC c 3;have h4:=tC d 4
 match i with
 |0=>simp[iP]
 |1=>simp[iP];omega
 |2=>simp[iP];omega
 |3=>simp[iP];omega
 |_+4=>simp[iP];omega
theorem PT(s)(d)(l m):iP (ql s m) (nS s l) (nK s d l) (lK s d m) 4=pI s d l m:=by simp[iP,pI]
theorem Ov(s)(c)(x)(k)(w)(hs:Site s c x)(hk:SiteK s k w):af TP 310 [iR s c x,.int .i64 k] (GO (pI s c.diameter (leastB w x c) (mostB w x c))):=by
 refine dj (ah Tryz.func310 rfl (by kernel_rfl)) rfl ?_;simp only[go_sem,simprocAttr];refine ae (yM s c x k w hs hk) rfl ?_;simp only[go_sem,simprocAttr];refine cl 4 1 (by simp only[go_sem,simprocAttr]) ?_;simp only[go_sem,simprocAttr];generalize ho:iP (ql s (mostB w x c)) (nS s (leastB w x c)) (nK s c.diameter (leastB w x c)) (lK s c.diameter (mostB w x c))=o;have hlen:∀i,(o i).length+1<=aw:=λi=>by
  have:=PS (ql s (mostB w x c)) (nS s (leastB w x c)) (nK s c.diameter (leastB w x c)) (lK s c.diameter (mostB w x c)) i;rw[ho]at this;simp only[aw];omega
 refine Uf [7,8,27,28] (σ:=Nat) (λi=>i<=4) (λi=>4-i) (λi=>[(4,.slice 5 (o i).length 0 (o i).length),(29,.p (.int .i64 i))]) (λi h=>h.set 5 (.row 1 ((o i).map λn=>.p (.int .i64 n)))) 0 (by omega) ?_ ?_
 .have h0:o 0=[]:=by rw[<-ho];rfl
  simp only[h0,go_sem,simprocAttr]
 intro i hi;have hcase:i=0\/i=1\/i=2\/i=3\/i=4:=by omega
 rcases hcase with rfl|rfl|rfl|rfl|rfl
 .have hl:=hlen 0;have h1:o 1=o 0++fL (ql s (mostB w x c)) 1:=by rw[<-ho];simp[iP]
  simp only[go_sem,simprocAttr];refine bf (TF s c x hs.so (leastB w x c) (mostB w x c)) ?_ (.bool _) ?_
  .simp only[go_sem,simprocAttr]
  simp only[go_sem,simprocAttr];cases hb:ql s (mostB w x c)
  .have h1':o 1=o 0:=by rw[h1,hb];simp[fL]
   simp only[go_sem,simprocAttr];refine bU 1 (by omega) (by omega) ?_;simp only[h1',go_sem,simprocAttr]
  .have h1':o 1=o 0++[1]:=by rw[h1,hb];rfl
   simp only[hl,go_sem,simprocAttr];refine bU 1 (by omega) (by omega) ?_;simp only[h1',aB,cj,go_sem,simprocAttr]
 .have hl:=hlen 1;have h1:o 2=o 1++fL (nS s (leastB w x c)) 2:=by rw[<-ho];simp[iP]
  simp only[go_sem,simprocAttr];refine bf (Q1 s c x hs.so (leastB w x c) (mostB w x c)) ?_ (.bool _) ?_
  .simp only[go_sem,simprocAttr]
  simp only[go_sem,simprocAttr];cases hb:nS s (leastB w x c)
  .have h1':o 2=o 1:=by rw[h1,hb];simp[fL]
   simp only[go_sem,simprocAttr];refine bU 2 (by omega) (by omega) ?_;simp only[h1',go_sem,simprocAttr]
  .have h1':o 2=o 1++[2]:=by rw[h1,hb];rfl
   simp only[hl,go_sem,simprocAttr];refine bU 2 (by omega) (by omega) ?_;simp only[h1',aB,cj,go_sem,simprocAttr]
 .have hl:=hlen 2;have h1:o 3=o 2++fL (nK s c.diameter (leastB w x c)) 3:=by rw[<-ho];simp[iP]
  simp only[go_sem,simprocAttr];refine bf (QP s c x hs.so hs.co (leastB w x c) (mostB w x c)) ?_ (.bool _) ?_
  .simp only[go_sem,simprocAttr]
  simp only[go_sem,simprocAttr];cases hb:nK s c.diameter (leastB w x c)
  .have h1':o 3=o 2:=by rw[h1,hb];simp[fL]
   simp only[go_sem,simprocAttr];refine bU 3 (by omega) (by omega) ?_;simp only[h1',go_sem,simprocAttr]
  .have h1':o 3=o 2++[3]:=by rw[h1,hb];rfl
   simp only[hl,go_sem,simprocAttr];refine bU 3 (by omega) (by omega) ?_;simp only[h1',aB,cj,go_sem,simprocAttr]
 .have hl:=hlen 3;have h1:o 4=o 3++fL (lK s c.diameter (mostB w x c)) 4:=by rw[<-ho];simp[iP]
  simp only[go_sem,simprocAttr];refine bf (X0 s c x hs.so hs.co (leastB w x c) (mostB w x c)) ?_ (.bool _) ?_
  .simp only[go_sem,simprocAttr]
  simp only[go_sem,simprocAttr];cases hb:lK s c.diameter (mostB w x c)
  .have h1':o 4=o 3:=by rw[h1,hb];simp[fL]
   simp only[go_sem,simprocAttr];refine bU 4 (by omega) (by omega) ?_;simp only[h1',go_sem,simprocAttr]
  .have h1':o 4=o 3++[4]:=by rw[h1,hb];rfl
   simp only[hl,go_sem,simprocAttr];refine bU 4 (by omega) (by omega) ?_;simp only[h1',aB,cj,go_sem,simprocAttr]
 .have h4:o 4=pI s c.diameter (leastB w x c) (mostB w x c):=by rw[<-ho];exact PT _ _ _ _
  simp only[h4,GO,go_sem,simprocAttr];first|rfl|exact .inl rfl|exact⟨_,_,rfl,rfl,.inr ⟨rfl,1,rfl⟩,.inl rfl,.inl rfl,trivial⟩|exact⟨_,_,rfl,rfl,.inr ⟨rfl,1,rfl⟩,.inl rfl,trivial⟩|exact⟨_,_,rfl,rfl,.inl rfl,.inl rfl,trivial⟩|exact .inl (.inl rfl)|exact .inl (.inr ⟨rfl,1,rfl⟩)|exact .inr ⟨_,_,rfl,rfl,.inl rfl,.inl rfl,trivial⟩|exact .inr ⟨_,_,rfl,rfl,.inr ⟨rfl,1,rfl⟩,.inl rfl,trivial⟩|exact⟨1,rfl⟩|(simp;done)|(refine .inr ⟨_,_,rfl,rfl,?_⟩;repeat' (first|exact trivial|exact .inl rfl|exact .inr ⟨rfl,1,rfl⟩|refine⟨?_,?_⟩))
def RN (s:Shop) (c:Candle) (x:Wax) (w:Wick):Bool:=(pI s c.diameter (leastB w x c) (mostB w x c)).length==0
def g8 (s:Shop) (c:Candle) (x:Wax):List Wick->Nat->List Int
 |[],_=>[]
 |w::r,i=>if RN s c x w=true then(i:Int)::g8 s c x r (i+1) else g8 s c x r (i+1)
theorem Su{s}{c}{x}(hs:Site s c x){done r}{w}(e:s.wicks=done++w::r):SiteK s (done.length:Int) w:=
 ⟨by omega,by rw[e];simp<;>omega,by rw[e];simp,hs.so.w w (by rw[e];simp)⟩
def AC (s:Shop) (c:Candle) (x:Wax):PV:=.func (.func 309) [] [.ptr 1 [iR s c x] 0 0]
theorem Qh(s)(c)(x)(hs:Site s c x):WP TP (AC s c x) ((g8 s c x s.wicks 0).map aI):=by
 refine⟨_,_,_,rfl,λid Inv Fin h0 hlen hy hi=>?_⟩;have lw:=hs.so.lw;refine aC (ah Tryz.func309 rfl (by kernel_rfl)) rfl ?_;simp only[go_sem,simprocAttr]
 refine eC [0,1,9] (σ:=List Wick×List Wick×List Int×Heap) (λq=>s.wicks=q.1++q.2.1/\g8 s c x s.wicks 0=q.2.2.1++g8 s c x q.2.1 q.1.length/\Inv q.2.2.1.length q.2.2.2) (λq=>q.2.1.length)
  (λq=>[(10,.p (.int .i64 q.1.length))]) (λq=>q.2.2.2) ([],s.wicks,[],h0) ⟨rfl,rfl,hi⟩ rfl ?_ ?_
 .simp only[go_sem,simprocAttr]
 rintro⟨done,rest,pre,h⟩ ⟨e1,e2,hI⟩
 dsimp only at e1 e2 hI
 cases rest with
 |nil=>
  have hlt:¬((done.length:Int)<(s.wicks.length:Int)):=by rw[e1];simp
  simp only[hlt,go_sem,simprocAttr];refine .inl ?_;rw[e2,g8,bC]
  exact hI
 |cons w r=>
  obtain⟨hx,hlt⟩:=d8 e1;have hnx:IntKind.i64.wrap ((done.length:Int)+1)=(((done++[w]).length:Nat):Int):=bj (by omega) (by simp[aw];omega) (by simp);have hk:=Su hs e1;rw[g8]at e2;simp only[hlt,go_sem,simprocAttr];refine ae (Ov s c x _ w hs hk) rfl ?_;simp only[GO,go_sem,simprocAttr];have hok:((((pI s c.diameter (leastB w x c) (mostB w x c)).length:Nat):Int)==0)=RN s c x w:=by
   unfold RN;rw[nh];simp
  rw[hok];cases hb:RN s c x w
  .simp only[go_sem,simprocAttr];refine bh (done++[w],r,pre,h) ⟨by simp[e1],by rw[e2,hb];simp,hI⟩ (by simp) rfl ?_;simp only[hnx,go_sem,simprocAttr]
  .rw[hb,if_pos rfl]at e2;have hget:((g8 s c x s.wicks 0).map aI)[pre.length]?=some (.int .i64 done.length):=by rw[e2];simp[aI]
   simp only[go_sem,simprocAttr];refine qL (hy pre.length _ h hget hI) (λv h' hr=>?_) (λv h' hr=>?_);rotate_left
   .rcases hr with⟨hr,_⟩|⟨hr,_⟩<;>cases hr
   rcases hr with⟨hr,hI'⟩|⟨hr,hF,_⟩
   .cases hr;simp only[go_sem,simprocAttr];refine bh (done++[w],r,pre++[(done.length:Int)],h') ⟨by simp[e1],by rw[e2];simp,by simpa using hI'⟩ (by simp) rfl ?_;simp only[hnx,go_sem,simprocAttr]
   .cases hr;simp only[go_sem,simprocAttr];exact .inr hF
theorem QQ(s)(c)(x):af TP 284 [iR s c x] (AC s c x):=by
 refine dg (ah Tryz.func284 rfl (by kernel_rfl)) rfl ?_;simp only[AC,go_sem,simprocAttr]
theorem wK{α:Type}{l:List α}{k}{x}(h:l[k]?=some x):l.take (k+1)=l.take k++[x]:=by
 rw[s6,h];rfl
def thr (s:Shop) (n:Int):Int:=match s.wicks[n.toNat]? with|some w=>w.threads|none=>0
def gW (s:Shop):List Int->Int->Int
 |[],b=>b
 |n::r,b=>gW s r (if(decide (b<0)||decide (thr s n<thr s b))=true then n else b)
def tg (s:Shop) (n:Int):Prop:=0<=n/\n<(s.wicks.length:Int)
theorem pX(s)(c)(x):∀(l) (i),i+l.length=s.wicks.length->∀n,n∈g8 s c x l i->tg s n
 |[],_,_,n,hn=>by cases hn
 |w::r,i,hi,n,hn=>by
  unfold g8 at hn;simp only[cu]at hi;split at hn
  .rcases ci.1 hn with rfl|hn
   .exact⟨by omega,by omega⟩
   .exact pX s c x r (i+1) (by omega) n hn
  .exact pX s c x r (i+1) (by omega) n hn
theorem FJ{s}{n}(h:tg s n):∃w,s.wicks[n.toNat]?=some w/\thr s n=w.threads:=by
 obtain⟨w,hw⟩:=R4 h.1 h.2;exact⟨w,hw,by simp[thr,hw]⟩
theorem wi(s):∀(l) (b),(∀n,n∈l->tg s n)->(b=-1\/tg s b)->gW s l b=-1\/tg s (gW s l b)
 |[],b,_,hb=>hb
 |n::r,b,hl,hb=>by
  unfold gW;refine wi s r _ (λm hm=>hl m (by simp[hm])) ?_;split
  .exact .inr (hl n (by simp))
  .exact hb
theorem zt(s):∀(l) (n b),gW s (l++[n]) b=if(decide (gW s l b<0)||decide (thr s n<thr s (gW s l b)))=true then n else gW s l b
 |[],n,b=>rfl
 |m::r,n,b=>by
  rw[eu,gW,zt s r n,gW]
def eG (s:Shop) (c:Candle) (x:Wax):Int×Int:=
 if io s [] c=0 then(if gW s (g8 s c x s.wicks 0) (-1)<0 then(0,9) else(gW s (g8 s c x s.wicks 0) (-1),0)) else(0,io s [] c)
theorem EN(s)(c)(x)(h:io s [] c=0->Site s c x):af TP 223 [s.pv,c.pv] (.tuple [.int .i64 (eG s c x).1,.int .i64 (eG s c x).2]):=by
 refine aa (ah Tryz.func223 rfl (by kernel_rfl)) rfl ?_;simp only[go_sem,simprocAttr];refine ae ((L0 s c [] false _ rfl (by simp) x (λh0=>(h h0).hx)).argless (args':=[s.pv,c.pv,.nilslice]) ⟨.inl rfl,.inl rfl,.inr ⟨rfl,1,rfl⟩,trivial⟩) rfl ?_;by_cases h0':io s [] c=0;rotate_left
 .have h0:(io s [] c != 0)=true:=by simpa using h0'
  simp only[h0,eG,if_neg h0',go_sem,simprocAttr]
 have h0:(io s [] c != 0)=false:=by simpa using h0'
 have hs:=h h0';simp only[h0,if_pos h0',go_sem,simprocAttr];refine ae (QQ s c x) rfl ?_;simp only[go_sem,simprocAttr];generalize hl:g8 s c x s.wicks 0=l;have hval:∀n,n∈l->tg s n:=by
  intro n hn;rw[<-hl]at hn;exact pX s c x s.wicks 0 (by simp) n hn
 have hit:=Qh s c x hs;rw[hl]at hit
 refine Wy (l:=l.map aI) (λo k h=>k<=l.length/\h=[.row 6 [.p s.pv],.row 5 [.p c.pv],.row 1 [.p (iR s c x)],.row 1 [.p (.int .i64 (gW s (l.take k) (-1)))],.dblock,o]) (λ_ _=>False)
  rfl (by simp only[AC,go_sem,simprocAttr]) hit bI (by kernel_rfl) rfl (by kernel_rfl) (by kernel_rfl) ?_ ?_ ?_ ?_ ?_ (λ_ _ h=>h.elim)
 .rintro o k h ⟨_,rfl⟩;simp
 .rintro o k h ⟨_,rfl⟩;simp
 .intro o;refine⟨by omega,?_⟩;simp only[go_sem,simprocAttr];rfl
 .rintro oR oB oD k v h hv ⟨hk,rfl⟩
  have hv':∃n,l[k]?=some n/\v=.int .i64 n:=by
   rw[cO,cg]at hv;obtain⟨n,h1,rfl⟩:=hv;exact⟨n,h1,rfl⟩
  obtain⟨n,hn,rfl⟩:=hv';have hlt:k<l.length:=(aF.1 hn).1;have hnv:=hval n (aG hn);obtain⟨w,hw,ht⟩:=FJ hnv;have hb:=zt s (l.take k) n (-1);rw[<-wK hn]at hb;have hbv:=wi s (l.take k) (-1) (λm hm=>hval m (tO hm)) (.inl rfl);generalize gW s (l.take k) (-1)=b at hb hbv;have n0:=hnv.1;have n1:=hnv.2;simp only[go_sem,simprocAttr];cases hneg:decide (b<0)
  .have hbv':tg s b:=by
    rcases hbv with h|h
    .rw[h]at hneg;simp at hneg
    .exact h
   obtain⟨w2,hw2,ht2⟩:=FJ hbv';have b0:=hbv'.1;have b1:=hbv'.2;rw[hneg,ht,ht2]at hb;simp only[n0,n1,b0,b1,hw,hw2,go_sem,simprocAttr];cases hlt2:decide (w.threads<w2.threads)
   .rw[hlt2]at hb;simp only[hb,go_sem,simprocAttr];exact hlt
   .rw[hlt2]at hb;simp only[hb,go_sem,simprocAttr];exact hlt
  .rw[hneg]at hb;simp only[hb,go_sem,simprocAttr];exact hlt
 .rintro o h ⟨_,rfl⟩
  have h1:l.take (l.map aI).length=l:=by simp
  rw[h1];simp only[go_sem,simprocAttr];cases hneg:decide (gW s l (-1)<0)
  .have:¬gW s l (-1)<0:=by simpa using hneg
   simp only[eG,if_pos h0',hl,if_neg this,cb,go_sem,simprocAttr]
  .have:gW s l (-1)<0:=by simpa using hneg
   simp only[eG,if_pos h0',hl,if_pos this,cb,go_sem,simprocAttr]
end Wk
end Abs
end Go.Proofs.YtoapoaoelpcniaaGreatDoor
