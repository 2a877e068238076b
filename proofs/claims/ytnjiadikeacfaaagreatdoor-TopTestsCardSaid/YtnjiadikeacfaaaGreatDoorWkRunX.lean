/- CONTRACTS of the program's functions, and laws on what they return. No conditions but those in the theorems' heads. -/
import Derived.Test.YtnjiadikeacfaaaGreatDoorWkChk
set_option linter.all false
open Go.Proofs.Tryz renaming prog->TP
namespace Go.Proofs.YtnjiadikeacfaaaGreatDoor
namespace Abs
namespace Wk
set_option maxRecDepth 4000
structure WickOk (w:Wick):Prop where
 t:1<=w.threads/\w.threads<=100
 p:1<=w.pull.lo/\w.pull.lo<=w.pull.hi/\w.pull.hi<=1000
structure WaxOk (x:Wax):Prop where
 f:1<=x.flow.lo/\x.flow.lo<=x.flow.hi/\x.flow.hi<=300
 r:1<=x.rise.lo/\x.rise.lo<=x.rise.hi/\x.rise.hi<=1000
 s:1<=x.spread.lo/\x.spread.lo<=x.spread.hi/\x.spread.hi<=2000
 c:0<=x.chill/\x.chill<=50
structure ShopOk (s:Shop):Prop where
 lw:1<=s.wicks.length/\s.wicks.length<=12
 lx:1<=s.waxes.length/\s.waxes.length<=6
 fl:0<=s.flame.lo/\s.flame.lo<=s.flame.hi/\s.flame.hi<=2000
 po:0<=s.pool.lo/\s.pool.lo<=s.pool.hi/\s.pool.hi<=2000
 w:∀w,w∈s.wicks->WickOk w
 x:∀x,x∈s.waxes->WaxOk x
def shopErr (s:Shop):Int:=(cf s).2.2
theorem sP{n lo hi}:al n lo hi=true↔lo<=n/\n<=hi:=by simp[al]
theorem wU{s}{lo hi}:cn s lo hi=true↔(lo<=s.lo/\s.lo<=hi)/\lo<=s.hi/\s.hi<=hi:=by simp[cn,al]
theorem pR{s}:aL s=false↔s.lo<=s.hi:=by simp[aL]
theorem IY{b}{w}(h:cj b w=0):WickOk w:=by
 unfold cj at h;split at h
 .split at h
  .rename_i h1;split at h
   .cases h
   .rename_i h2;simp only[dD,sP,wU]at h1;rw[Du,pR]at h2;exact⟨h1.1,h1.2.1.1,h2,h1.2.2.2⟩
  .cases h
 .rename_i h0;exact absurd h h0
theorem KE{b}{x}(h:dm b x=0):WaxOk x:=by
 unfold dm at h;split at h
 .split at h
  .rename_i h1;split at h
   .cases h
   .rename_i h2;simp only[dD,sP,wU]at h1;rw[Du]at h2;simp only[SH,pR]at h2;exact⟨⟨h1.1.2.1.1,h2.1,h1.1.2.2.2⟩,⟨h1.2.1.1.1,h2.2.1,h1.2.1.2.2⟩,⟨h1.2.2.1.1,h2.2.2,h1.2.2.2.2⟩,h1.1.1⟩
  .cases h
 .rename_i h0;exact absurd h h0
theorem iL{α}{f:List ByteArray->α->Int}{nm}:∀{l} {b},firstErr f nm l b=none->∀x,x∈l->∃b,f b x=0
 |[],_,_,x,hx=>by cases hx
 |y::r,b,h,x,hx=>by
  unfold firstErr at h;split at h
  .rename_i h0;rcases ce.1 hx with rfl|hx
   .exact⟨b,h0⟩
   .exact iL h x hx
  .cases h
theorem pG{α}{f:List ByteArray->α->Int}{nm}:∀{l} {b} {i e},firstErr f nm l b=some (i,e)->e≠0
 |[],_,_,_,h=>by cases h
 |y::r,b,i,e,h=>by
  unfold firstErr at h;split at h
  .exact pG h
  .rename_i h0;cases h;exact h0
theorem vd{s}(h:shopErr s=0):ShopOk s:=by
 unfold shopErr cf at h;split at h
 .rename_i h1;split at h
  .rename_i h2;split at h
   .cases h
   .rename_i h3;simp only[dD,sP,wU]at h1 h2;rw[Du]at h3;simp only[SH,pR]at h3;unfold dt at h;split at h
    .rename_i i e hf;exact absurd h (pG hf)
    .rename_i hf;split at h
     .rename_i i e hg;exact absurd h (pG hg)
     .rename_i hg;refine⟨by omega,by omega,⟨h2.1.1.1,h3.1,h2.1.2.2⟩,⟨h2.2.1.1,h3.2,h2.2.2.2⟩,λw hw=>?_,λx hx=>?_⟩
      .obtain⟨b,hb⟩:=iL hf w hw;exact IY hb
      .obtain⟨b,hb⟩:=iL hg x hx;exact KE hb
  .cases h
 .cases h
def eI (s:Shop) (c:Candle):Int:=
 if al c.wax 0 ((s.waxes.length:Int)-1)=true then(if(al c.diameter 1 2000&&(al c.draught 0 90&&cn c.cold 0 300))=true then(if aL c.cold=true then 2 else 0) else 7) else 4
def gY (s:Shop) (ks:List Int) (c:Candle):Int:=
 if shopErr s=0 then(if(ks.all λk=>al k 0 ((s.wicks.length:Int)-1))=true then eI s c else 4) else shopErr s
structure CandleOk (c:Candle):Prop where
 d:1<=c.diameter/\c.diameter<=2000
 g:0<=c.draught/\c.draught<=90
 c:0<=c.cold.lo/\c.cold.lo<=c.cold.hi/\c.cold.hi<=300
theorem xM{s}{c}(h:eI s c=0):CandleOk c/\0<=c.wax/\c.wax<s.waxes.length:=by
 unfold eI at h;split at h
 .rename_i h1;split at h
  .rename_i h2;split at h
   .cases h
   .rename_i h3;simp only[dD,sP,wU]at h1 h2;rw[Du,pR]at h3;exact⟨⟨h2.1,h2.2.1,h2.2.2.1.1,h3,h2.2.2.2.2⟩,h1.1,by omega⟩
  .cases h
 .cases h
theorem UC{s}{ks}{c}(h:gY s ks c=0):shopErr s=0/\eI s c=0/\∀k,k∈ks->0<=k/\k<s.wicks.length:=by
 unfold gY at h;split at h
 .rename_i h1;split at h
  .rename_i h2;refine⟨h1,h,λk hk=>?_⟩;have:=kK.1 h2 k hk;rw[sP]at this;omega
  .cases h
 .rename_i h0;exact absurd h h0
def iu (s:Shop) (c:Candle) (x:Wax):PV:=.ptr 19 [.agg (s.pv.cells++c.pv.cells++x.pv.cells)] 0 0
attribute [go_sem] iu
theorem Hl(l:List Int)(lo hi):(l.any λn=>!al n lo hi)=!(l.all λn=>al n lo hi):=by rw[<-List.not_all_eq_any_not]
theorem J1(s)(c)(ks)(b)(xs)(hxs:xs=ks.map aG)(hks:ks.length<1000000)(x)(hx:gY s ks c=0->s.waxes[c.wax.toNat]?=some x) :
  af TP 266 [s.pv,c.pv,.slice 1 xs b] (.tuple [if gY s ks c=0 then iu s c x else .nilptr,.int .i64 (gY s ks c)]):=by
 subst hxs;refine dd (ah Tryz.func266 rfl (by kernel_rfl)) rfl ?_;simp only[go_sem,simprocAttr];refine ae (pj s) rfl ?_;simp only[aj,go_sem,simprocAttr];have hE:(cf s).2.2=shopErr s:=rfl;rw[hE];cases h0:(shopErr s != 0)
 rotate_left
 .have h0':¬shopErr s=0:=by simpa using h0
  simp only[gY,if_neg h0',go_sem,simprocAttr]
 have h0':shopErr s=0:=by simpa using h0
 have ok:=vd h0';have hw1:IntKind.i64.wrap ((s.wicks.length:Int)-1)=(s.wicks.length:Int)-1:=am (by omega) (by have:=ok.lw;omega);have hw2:IntKind.i64.wrap ((s.waxes.length:Int)-1)=(s.waxes.length:Int)-1:=am (by omega) (by have:=ok.lx;omega);have hA:gY s ks c=if(ks.all λk=>al k 0 ((s.wicks.length:Int)-1))=true then eI s c else 4:=by simp only[gY,if_pos h0']
 rw[hA]at hx |-;simp only[hw1,go_sem,simprocAttr];refine ae (eS 0 ((s.wicks.length:Int)-1) ks b (by omega)) rfl ?_;simp only[go_sem,simprocAttr];rw[Hl];cases h1:(ks.all λk=>al k 0 ((s.wicks.length:Int)-1))
 .simp only[go_sem,simprocAttr]
 rw[h1,if_pos rfl]at hx;simp only[hw2,go_sem,simprocAttr];refine ae (eS 0 ((s.waxes.length:Int)-1) [_] true (by simp)) rfl ?_;simp only[bF,bp,go_sem,simprocAttr];cases h2:al c.wax 0 ((s.waxes.length:Int)-1)
 .simp only[eI,h2,go_sem,simprocAttr]
 simp only[go_sem,simprocAttr];refine ae (eS 1 2000 [_] true (by simp)) rfl ?_;simp only[bF,bp,go_sem,simprocAttr];cases h3:al c.diameter 1 2000
 .simp only[eI,h2,h3,go_sem,simprocAttr]
 simp only[go_sem,simprocAttr];refine ae (eS 0 90 [_] true (by simp)) rfl ?_;simp only[bF,bp,go_sem,simprocAttr];cases h4:al c.draught 0 90
 .simp only[eI,h2,h3,h4,go_sem,simprocAttr]
 simp only[go_sem,simprocAttr];refine ae (eS 0 300 [_,_] true (by simp)) rfl ?_;simp only[bF,bp,<-iD,go_sem,simprocAttr];cases h5:(al c.cold.lo 0 300&&al c.cold.hi 0 300)
 .simp only[eI,h2,h3,h4,cn,h5,go_sem,simprocAttr]
 simp only[go_sem,simprocAttr];refine ae (w9 [c.cold] true (by simp)) rfl ?_;simp only[bF,bp,go_sem,simprocAttr];cases h6:decide (c.cold.hi<c.cold.lo);rotate_left
 .simp only[eI,h2,h3,h4,cn,h5,aL,h6,go_sem,simprocAttr]
 have hc:eI s c=0:=by simp only[eI,h2,h3,h4,cn,h5,aL,h6];rfl
 have hxx:=hx hc;obtain⟨_,hc0,hc1⟩:=xM hc;simp only[hc,hc0,hc1,hxx,go_sem,simprocAttr]
structure Site (s:Shop) (c:Candle) (x:Wax):Prop where
 so:ShopOk s
 co:CandleOk c
 c0:0<=c.wax
 c1:c.wax<(s.waxes.length:Int)
 hx:s.waxes[c.wax.toNat]?=some x
 xo:WaxOk x
structure SiteK (s:Shop) (k:Int) (w:Wick):Prop where
 k0:0<=k
 k1:k<(s.wicks.length:Int)
 hw:s.wicks[k.toNat]?=some w
 wo:WickOk w
theorem P6{α:Type}{l:List α}{k}(h0:0<=k)(h1:k<(l.length:Int)):∃w,l[k.toNat]?=some w:=⟨_,bA (by omega)⟩
theorem NH{s}{ks}{c}(h:gY s ks c=0):∃x,Site s c x:=by
 obtain⟨h1,h2,_⟩:=UC h;obtain⟨co,c0,c1⟩:=xM h2;obtain⟨x,hx⟩:=P6 c0 c1;have so:=vd h1;exact⟨x,so,co,c0,c1,hx,so.x x (aT hx)⟩
structure TOk (t:Truth):Prop where
 p:0<=t.pull/\t.pull<=1000
 f:0<=t.flow/\t.flow<=300
 r:0<=t.rise/\t.rise<=1000
 s:0<=t.spread/\t.spread<=2000
 d:-90<=t.draught/\t.draught<=90
 c:0<=t.cold/\t.cold<=300
def fo (t:Truth):Int:=t.pull*t.flow*(100+t.draught)
def At (chill:Int) (t:Truth):Burn:=⟨fo t*100,fo t*t.rise,fo t*t.spread-t.cold*chill*100000⟩
theorem TOk.b{t}(h:TOk t):(0<=t.pull*t.flow/\t.pull*t.flow<=1000*300)/\(0<=fo t/\fo t<=1000*300*190)/\(0<=fo t*t.rise/\fo t*t.rise<=1000*300*190*1000) /\
  (0<=fo t*t.spread/\fo t*t.spread<=1000*300*190*2000):=by
 have h1:=j9 h.p.1 h.p.2 h.f.1 h.f.2;have h2:=j9 h1.1 h1.2 (b:=100+t.draught) (B:=190) (by have:=h.d;omega) (by have:=h.d;omega);exact⟨h1,h2,j9 h2.1 h2.2 h.r.1 h.r.2,j9 h2.1 h2.2 h.s.1 h.s.2⟩
def tP (a b c d:Int):Int:=IntKind.i64.wrap (IntKind.i64.wrap (IntKind.i64.wrap (IntKind.i64.wrap (1*a)*b)*c)*d)
theorem yL(a b c d):af TP 335 [.agg [.int .i64 a,.int .i64 b,.int .i64 c,.int .i64 d]] (.int .i64 (tP a b c d)):=by
 refine aa (ah Tryz.func335 rfl (by kernel_rfl)) rfl ?_;simp only[go_sem,simprocAttr];refine aU ?_;simp only[go_sem,simprocAttr];refine aU ?_;simp only[go_sem,simprocAttr];refine aU ?_;simp only[go_sem,simprocAttr];refine aU ?_;simp only[go_sem,simprocAttr];refine aU ?_;simp only[go_sem,simprocAttr];rfl
theorem P4(s)(c)(x)(t)(h:TOk t)(hc:0<=x.chill/\x.chill<=50):af TP 327 [iu s c x,t.pv] (At x.chill t).pv:=by
 obtain⟨b1,b2,b3,b4⟩:=h.b;have w1:IntKind.i64.wrap (100+t.draught)=100+t.draught:=am (by have:=h.d;omega) (by have:=h.d;omega);have w2:IntKind.i64.wrap (1*t.pull)=t.pull:=by rw[AJ];exact am (by have:=h.p;omega) (by have:=h.p;omega)
 have w3:IntKind.i64.wrap (t.pull*t.flow)=t.pull*t.flow:=am (by omega) (by omega);have w4:IntKind.i64.wrap (t.pull*t.flow*(100+t.draught))=fo t:=am (by unfold fo at b2;omega) (by unfold fo at b2;omega);have p0:tP t.pull t.flow (100+t.draught) 100=fo t*100:=by unfold tP;rw[w2,w3,w4];exact am (by omega) (by omega)
 have p1:tP t.pull t.flow (100+t.draught) t.rise=fo t*t.rise:=by unfold tP;rw[w2,w3,w4];exact am (by omega) (by omega)
 have p2:tP t.pull t.flow (100+t.draught) t.spread=fo t*t.spread:=by unfold tP;rw[w2,w3,w4];exact am (by omega) (by omega)
 have bc:=j9 h.c.1 h.c.2 hc.1 hc.2;have q1:IntKind.i64.wrap (t.cold*x.chill)=t.cold*x.chill:=am (by omega) (by omega);have q2:IntKind.i64.wrap (t.cold*x.chill*1000000)=t.cold*x.chill*1000000:=am (by omega) (by omega);have q3:IntKind.i64.wrap ((t.cold*x.chill*1000000).tdiv 10)=t.cold*x.chill*100000:=by
  have:(t.cold*x.chill*1000000).tdiv 10=t.cold*x.chill*100000:=by
   rw[show t.cold*x.chill*1000000=(t.cold*x.chill*100000)*10 by omega,Int.mul_tdiv_cancel _ (by decide)]
  rw[this];exact am (by omega) (by omega)
 have q4:IntKind.i64.wrap (fo t*t.spread-t.cold*x.chill*100000)=fo t*t.spread-t.cold*x.chill*100000:=am (by omega) (by omega);refine aa (ah Tryz.func327 rfl (by kernel_rfl)) rfl ?_;simp only[go_sem,simprocAttr];refine aU ?_;simp only[w1,go_sem,simprocAttr];refine ae (yL _ _ _ _) rfl ?_;simp only[p0,go_sem,simprocAttr];refine aU ?_;simp only[w1,go_sem,simprocAttr];refine ae (yL _ _ _ _) rfl ?_;simp only[p1,go_sem,simprocAttr];refine aU ?_;simp only[w1,go_sem,simprocAttr];refine ay (yL _ _ _ _) rfl ?_;simp only[p2,q1,q2,q3,q4,go_sem,simprocAttr];refine aU ?_;simp only[At,go_sem,simprocAttr]
def oU (w:Wick) (x:Wax) (c:Candle):Truth:=⟨w.pull.lo,x.flow.lo,x.rise.lo,x.spread.lo,-c.draught,c.cold.hi⟩
def rN (w:Wick) (x:Wax) (c:Candle):Truth:=⟨w.pull.hi,x.flow.hi,x.rise.hi,x.spread.hi,c.draught,c.cold.lo⟩
theorem QR{w}{x}{c}(hw:WickOk w)(hx:WaxOk x)(hc:CandleOk c):TOk (oU w x c):=by
 have:=hw.p;have:=hx.f;have:=hx.r;have:=hx.s;have:=hc.g;have:=hc.c
 constructor<;>(simp only[oU];omega)
theorem Tn{w}{x}{c}(hw:WickOk w)(hx:WaxOk x)(hc:CandleOk c):TOk (rN w x c):=by
 have:=hw.p;have:=hx.f;have:=hx.r;have:=hx.s;have:=hc.g;have:=hc.c
 constructor<;>(simp only[rN];omega)
theorem Rx(s)(c)(x)(k)(w)(hs:Site s c x)(hk:SiteK s k w):af TP 326 [iu s c x,.int .i64 k] (.tuple [(oU w x c).pv,(rN w x c).pv]):=by
 have k0:=hk.k0;have k1:=hk.k1;have hw:=hk.hw;have hn:IntKind.i64.wrap (-c.draught)=-c.draught:=am (by have:=hs.co.g;omega) (by have:=hs.co.g;omega);refine aa (eA (by kernel_rfl) rfl Vk) rfl ?_;simp only[UU,aV,k0,k1,hw,hn,oU,rN,go_sem,simprocAttr]
def leastB (w:Wick) (x:Wax) (c:Candle):Burn:=At x.chill (oU w x c)
def mostB (w:Wick) (x:Wax) (c:Candle):Burn:=At x.chill (rN w x c)
theorem xd(s)(c)(x)(k)(w)(hs:Site s c x)(hk:SiteK s k w):af TP 321 [iu s c x,.int .i64 k] (.tuple [(leastB w x c).pv,(mostB w x c).pv]):=by
 refine aa (ah Tryz.func321 rfl (by kernel_rfl)) rfl ?_;simp only[go_sem,simprocAttr];refine ae (Rx s c x k w hs hk) rfl ?_;simp only[go_sem,simprocAttr];refine ae (P4 s c x (oU w x c) (QR hk.wo hs.xo hs.co) hs.xo.c) rfl ?_;simp only[go_sem,simprocAttr];refine aR (λhb=>?_) (λhb=>?_)
 .have he:oU w x c=rN w x c:=by
   simp only[dD,beq_iff_eq]at hb;simp only[oU,rN]at hb |-;simp[hb]
  simp only[leastB,mostB,he,go_sem,simprocAttr]
 .simp only[go_sem,simprocAttr];refine ay (P4 s c x (rN w x c) (Tn hk.wo hs.xo hs.co) hs.xo.c) rfl ?_;simp only[leastB,mostB,go_sem,simprocAttr]
def iO:Burn:=⟨0,0,0⟩
attribute [go_sem] iO
def oM (s:Shop) (b:Burn):Bool:=decide (s.flame.hi*1000000<b.flame)
def mJ (s:Shop) (b:Burn):Bool:=decide (b.flame<s.flame.lo*1000000)
def my (s:Shop) (d:Int) (b:Burn):Bool:=decide (b.pool<s.pool.lo*d*1000)
def kO (s:Shop) (d:Int) (b:Burn):Bool:=decide (s.pool.hi*d*1000<b.pool)
def fw (b:Bool) (n:Int):List Int:=if b=true then [n] else []
def nZ (s:Shop) (d:Int) (l m:Burn):List Int:=fw (oM s m) 1++(fw (mJ s l) 2++(fw (my s d l) 3++fw (kO s d m) 4))
def E6 (l:List Int):PV:=.slice 1 (l.map aG) false
theorem HL{s}(so:ShopOk s){d}(hd:1<=d/\d<=2000):(0<=s.pool.lo*d/\s.pool.lo*d<=2000*2000)/\(0<=s.pool.hi*d/\s.pool.hi*d<=2000*2000):=
 ⟨j9 (by have:=so.po;omega) (by have:=so.po;omega) (by omega) hd.2,j9 (by have:=so.po;omega) (by have:=so.po;omega) (by omega) hd.2⟩
theorem P1(s)(c)(x)(n)(hn:0<=n*c.diameter/\n*c.diameter<=2000*2000):af TP 316 [.int .i64 n,.ptr 1 [iu s c x] 0 0] (.int .i64 (n*c.diameter*1000)):=by
 have w1:IntKind.i64.wrap (n*c.diameter)=n*c.diameter:=am (by omega) (by omega);have w2:IntKind.i64.wrap (n*c.diameter*1000)=n*c.diameter*1000:=am (by omega) (by omega);refine aa (ah Tryz.func316 rfl (by kernel_rfl)) rfl ?_;simp only[w1,w2,go_sem,simprocAttr]
theorem RD(s)(c)(x)(so:ShopOk s)(l m:Burn):af TP 317 [l.pv,m.pv,.ptr 1 [iu s c x] 0 0] (.bool (oM s m)):=by
 have w1:IntKind.i64.wrap (s.flame.hi*1000000)=s.flame.hi*1000000:=am (by have:=so.fl;omega) (by have:=so.fl;omega);refine aa (ah Tryz.func317 rfl (by kernel_rfl)) rfl ?_;simp only[w1,oM,go_sem,simprocAttr]
theorem O0(s)(c)(x)(so:ShopOk s)(l m:Burn):af TP 318 [l.pv,m.pv,.ptr 1 [iu s c x] 0 0] (.bool (mJ s l)):=by
 have w1:IntKind.i64.wrap (s.flame.lo*1000000)=s.flame.lo*1000000:=am (by have:=so.fl;omega) (by have:=so.fl;omega);refine aa (ah Tryz.func318 rfl (by kernel_rfl)) rfl ?_;simp only[w1,mJ,go_sem,simprocAttr]
def Es (s:Shop) (c:Candle) (x:Wax):PV:=.ptr 1 [.func (.func 316) [] [.ptr 1 [iu s c x] 0 0]] 0 0
attribute [go_sem] Es
theorem OO(s)(c)(x)(so:ShopOk s)(co:CandleOk c)(l m:Burn):af TP 319 [l.pv,m.pv,Es s c x,.ptr 1 [iu s c x] 0 0] (.bool (my s c.diameter l)):=by
 refine aa (ah Tryz.func319 rfl (by kernel_rfl)) rfl ?_;simp only[go_sem,simprocAttr];refine ay (P1 s c x s.pool.lo (HL so co.d).1) rfl ?_;simp only[my,go_sem,simprocAttr]
theorem V0(s)(c)(x)(so:ShopOk s)(co:CandleOk c)(l m:Burn):af TP 320 [l.pv,m.pv,Es s c x,.ptr 1 [iu s c x] 0 0] (.bool (kO s c.diameter m)):=by
 refine aa (ah Tryz.func320 rfl (by kernel_rfl)) rfl ?_;simp only[go_sem,simprocAttr];refine ay (P1 s c x s.pool.hi (HL so co.d).2) rfl ?_;simp only[kO,go_sem,simprocAttr]
def nU (a b c d:Bool):Nat->List Int
 |0=>[]
 |1=>fw a 1
 |2=>fw a 1++fw b 2
 |3=>fw a 1++fw b 2++fw c 3
 |_=>fw a 1++fw b 2++fw c 3++fw d 4
theorem rW(b)(n):(fw b n).length<=1:=by cases b<;>simp[fw]
theorem NX(a b c d)(i):(nU a b c d i).length<=4:=by
 have h1:=rW a 1;have h2:=rW b 2;have h3:=rW c 3;have h4:=rW d 4
 match i with
 |0=>simp[nU]
 |1=>simp[nU];omega
 |2=>simp[nU];omega
 |3=>simp[nU];omega
 |_+4=>simp[nU];omega
theorem NY(s)(d)(l m):nU (oM s m) (mJ s l) (my s d l) (kO s d m) 4=nZ s d l m:=by simp[nU,nZ]
theorem MB(s)(c)(x)(k)(w)(hs:Site s c x)(hk:SiteK s k w):af TP 294 [iu s c x,.int .i64 k] (E6 (nZ s c.diameter (leastB w x c) (mostB w x c))):=by
 refine eB (ah Tryz.func294 rfl (by kernel_rfl)) rfl ?_;simp only[go_sem,simprocAttr];refine ae (xd s c x k w hs hk) rfl ?_;simp only[go_sem,simprocAttr];refine ck 4 1 (by simp only[go_sem,simprocAttr]) ?_;simp only[go_sem,simprocAttr];generalize ho:nU (oM s (mostB w x c)) (mJ s (leastB w x c)) (my s c.diameter (leastB w x c)) (kO s c.diameter (mostB w x c))=o;have hlen:∀i,(o i).length+1<=ar:=λi=>by
  have:=NX (oM s (mostB w x c)) (mJ s (leastB w x c)) (my s c.diameter (leastB w x c)) (kO s c.diameter (mostB w x c)) i;rw[ho]at this;simp only[ar];omega
 refine R9 [7,8,27,28] (σ:=Nat) (λi=>i<=4) (λi=>4-i) (λi=>[(4,.slice 5 (o i).length 0 (o i).length),(29,.p (.int .i64 i))]) (λi h=>h.set 5 (.row 1 ((o i).map λn=>.p (.int .i64 n)))) 0 (by omega) ?_ ?_
 .have h0:o 0=[]:=by rw[<-ho];rfl
  simp only[h0,go_sem,simprocAttr]
 intro i hi;have hcase:i=0\/i=1\/i=2\/i=3\/i=4:=by omega
 rcases hcase with rfl|rfl|rfl|rfl|rfl
 .have hl:=hlen 0;have h1:o 1=o 0++fw (oM s (mostB w x c)) 1:=by rw[<-ho];simp[nU]
  simp only[go_sem,simprocAttr];refine aY (RD s c x hs.so (leastB w x c) (mostB w x c)) ?_ (.bool _) ?_
  .simp only[go_sem,simprocAttr]
  simp only[go_sem,simprocAttr];cases hb:oM s (mostB w x c)
  .have h1':o 1=o 0:=by rw[h1,hb];simp[fw]
   simp only[go_sem,simprocAttr];refine bY 1 (by omega) (by omega) ?_;simp only[h1',go_sem,simprocAttr]
  .have h1':o 1=o 0++[1]:=by rw[h1,hb];rfl
   simp only[hl,go_sem,simprocAttr];refine bY 1 (by omega) (by omega) ?_;simp only[h1',aK,ca,go_sem,simprocAttr]
 .have hl:=hlen 1;have h1:o 2=o 1++fw (mJ s (leastB w x c)) 2:=by rw[<-ho];simp[nU]
  simp only[go_sem,simprocAttr];refine aY (O0 s c x hs.so (leastB w x c) (mostB w x c)) ?_ (.bool _) ?_
  .simp only[go_sem,simprocAttr]
  simp only[go_sem,simprocAttr];cases hb:mJ s (leastB w x c)
  .have h1':o 2=o 1:=by rw[h1,hb];simp[fw]
   simp only[go_sem,simprocAttr];refine bY 2 (by omega) (by omega) ?_;simp only[h1',go_sem,simprocAttr]
  .have h1':o 2=o 1++[2]:=by rw[h1,hb];rfl
   simp only[hl,go_sem,simprocAttr];refine bY 2 (by omega) (by omega) ?_;simp only[h1',aK,ca,go_sem,simprocAttr]
 .have hl:=hlen 2;have h1:o 3=o 2++fw (my s c.diameter (leastB w x c)) 3:=by rw[<-ho];simp[nU]
  simp only[go_sem,simprocAttr];refine aY (OO s c x hs.so hs.co (leastB w x c) (mostB w x c)) ?_ (.bool _) ?_
  .simp only[go_sem,simprocAttr]
  simp only[go_sem,simprocAttr];cases hb:my s c.diameter (leastB w x c)
  .have h1':o 3=o 2:=by rw[h1,hb];simp[fw]
   simp only[go_sem,simprocAttr];refine bY 3 (by omega) (by omega) ?_;simp only[h1',go_sem,simprocAttr]
  .have h1':o 3=o 2++[3]:=by rw[h1,hb];rfl
   simp only[hl,go_sem,simprocAttr];refine bY 3 (by omega) (by omega) ?_;simp only[h1',aK,ca,go_sem,simprocAttr]
 .have hl:=hlen 3;have h1:o 4=o 3++fw (kO s c.diameter (mostB w x c)) 4:=by rw[<-ho];simp[nU]
  simp only[go_sem,simprocAttr];refine aY (V0 s c x hs.so hs.co (leastB w x c) (mostB w x c)) ?_ (.bool _) ?_
  .simp only[go_sem,simprocAttr]
  simp only[go_sem,simprocAttr];cases hb:kO s c.diameter (mostB w x c)
  .have h1':o 4=o 3:=by rw[h1,hb];simp[fw]
   simp only[go_sem,simprocAttr];refine bY 4 (by omega) (by omega) ?_;simp only[h1',go_sem,simprocAttr]
  .have h1':o 4=o 3++[4]:=by rw[h1,hb];rfl
   simp only[hl,go_sem,simprocAttr];refine bY 4 (by omega) (by omega) ?_;simp only[h1',aK,ca,go_sem,simprocAttr]
 .have h4:o 4=nZ s c.diameter (leastB w x c) (mostB w x c):=by rw[<-ho];exact NY _ _ _ _
  simp only[h4,E6,go_sem,simprocAttr];first|rfl|exact .inl rfl|exact⟨_,_,rfl,rfl,.inr ⟨rfl,1,rfl⟩,.inl rfl,.inl rfl,trivial⟩|exact⟨_,_,rfl,rfl,.inr ⟨rfl,1,rfl⟩,.inl rfl,trivial⟩|exact⟨_,_,rfl,rfl,.inl rfl,.inl rfl,trivial⟩|exact .inl (.inl rfl)|exact .inl (.inr ⟨rfl,1,rfl⟩)|exact .inr ⟨_,_,rfl,rfl,.inl rfl,.inl rfl,trivial⟩|exact .inr ⟨_,_,rfl,rfl,.inr ⟨rfl,1,rfl⟩,.inl rfl,trivial⟩|exact⟨1,rfl⟩|(simp;done)|(refine .inr ⟨_,_,rfl,rfl,?_⟩;repeat' (first|exact trivial|exact .inl rfl|exact .inr ⟨rfl,1,rfl⟩|refine⟨?_,?_⟩))
def PM (s:Shop) (c:Candle) (x:Wax) (w:Wick):Bool:=(nZ s c.diameter (leastB w x c) (mostB w x c)).length==0
def gH (s:Shop) (c:Candle) (x:Wax):List Wick->Nat->List Int
 |[],_=>[]
 |w::r,i=>if PM s c x w=true then(i:Int)::gH s c x r (i+1) else gH s c x r (i+1)
theorem Qu{s}{c}{x}(hs:Site s c x){done r}{w}(e:s.wicks=done++w::r):SiteK s (done.length:Int) w:=
 ⟨by omega,by rw[e];simp<;>omega,by rw[e];simp,hs.so.w w (by rw[e];simp)⟩
def zf (s:Shop) (c:Candle) (x:Wax):PV:=.func (.func 293) [] [.ptr 1 [iu s c x] 0 0]
theorem Oj(s)(c)(x)(hs:Site s c x):UQ TP (zf s c x) ((gH s c x s.wicks 0).map aG):=by
 refine⟨_,_,_,rfl,λid Inv Fin h0 hlen hy hi=>?_⟩;have lw:=hs.so.lw;refine aA (ah Tryz.func293 rfl (by kernel_rfl)) rfl ?_;simp only[go_sem,simprocAttr]
 refine eO [0,1,9] (σ:=List Wick×List Wick×List Int×Heap) (λq=>s.wicks=q.1++q.2.1/\gH s c x s.wicks 0=q.2.2.1++gH s c x q.2.1 q.1.length/\Inv q.2.2.1.length q.2.2.2) (λq=>q.2.1.length)
  (λq=>[(10,.p (.int .i64 q.1.length))]) (λq=>q.2.2.2) ([],s.wicks,[],h0) ⟨rfl,rfl,hi⟩ rfl ?_ ?_
 .simp only[go_sem,simprocAttr]
 rintro⟨done,rest,pre,h⟩ ⟨e1,e2,hI⟩
 dsimp only at e1 e2 hI
 cases rest with
 |nil=>
  have hlt:¬((done.length:Int)<(s.wicks.length:Int)):=by rw[e1];simp
  simp only[hlt,go_sem,simprocAttr];refine .inl ?_;rw[e2,gH,bw]
  exact hI
 |cons w r=>
  obtain⟨hx,hlt⟩:=dZ e1;have hnx:IntKind.i64.wrap ((done.length:Int)+1)=(((done++[w]).length:Nat):Int):=be (by omega) (by simp[ar];omega) (by simp);have hk:=Qu hs e1;rw[gH]at e2;simp only[hlt,go_sem,simprocAttr];refine ae (MB s c x _ w hs hk) rfl ?_;simp only[E6,go_sem,simprocAttr];have hok:((((nZ s c.diameter (leastB w x c) (mostB w x c)).length:Nat):Int)==0)=PM s c x w:=by
   unfold PM;rw[tj];simp
  rw[hok];cases hb:PM s c x w
  .simp only[go_sem,simprocAttr];refine br (done++[w],r,pre,h) ⟨by simp[e1],by rw[e2,hb];simp,hI⟩ (by simp) rfl ?_;simp only[hnx,go_sem,simprocAttr]
  .rw[hb,if_pos rfl]at e2;have hget:((gH s c x s.wicks 0).map aG)[pre.length]?=some (.int .i64 done.length):=by rw[e2];simp[aG]
   simp only[go_sem,simprocAttr];refine pm (hy pre.length _ h hget hI) (λv h' hr=>?_) (λv h' hr=>?_);rotate_left
   .rcases hr with⟨hr,_⟩|⟨hr,_⟩<;>cases hr
   rcases hr with⟨hr,hI'⟩|⟨hr,hF,_⟩
   .cases hr;simp only[go_sem,simprocAttr];refine br (done++[w],r,pre++[(done.length:Int)],h') ⟨by simp[e1],by rw[e2];simp,by simpa using hI'⟩ (by simp) rfl ?_;simp only[hnx,go_sem,simprocAttr]
   .cases hr;simp only[go_sem,simprocAttr];exact .inr hF
theorem OP(s)(c)(x):af TP 267 [iu s c x] (zf s c x):=by
 refine dd (ah Tryz.func267 rfl (by kernel_rfl)) rfl ?_;simp only[zf,go_sem,simprocAttr]
theorem u0{α:Type}{l:List α}{k}{x}(h:l[k]?=some x):l.take (k+1)=l.take k++[x]:=by
 rw[xW,h];rfl
def thr (s:Shop) (n:Int):Int:=match s.wicks[n.toNat]? with|some w=>w.threads|none=>0
def gD (s:Shop):List Int->Int->Int
 |[],b=>b
 |n::r,b=>gD s r (if(decide (b<0)||decide (thr s n<thr s b))=true then n else b)
def rH (s:Shop) (n:Int):Prop:=0<=n/\n<(s.wicks.length:Int)
theorem ox(s)(c)(x):∀(l) (i),i+l.length=s.wicks.length->∀n,n∈gH s c x l i->rH s n
 |[],_,_,n,hn=>by cases hn
 |w::r,i,hi,n,hn=>by
  unfold gH at hn;simp only[cc]at hi;split at hn
  .rcases ce.1 hn with rfl|hn
   .exact⟨by omega,by omega⟩
   .exact ox s c x r (i+1) (by omega) n hn
  .exact ox s c x r (i+1) (by omega) n hn
theorem D1{s}{n}(h:rH s n):∃w,s.wicks[n.toNat]?=some w/\thr s n=w.threads:=by
 obtain⟨w,hw⟩:=P6 h.1 h.2;exact⟨w,hw,by simp[thr,hw]⟩
theorem uA(s):∀(l) (b),(∀n,n∈l->rH s n)->(b=-1\/rH s b)->gD s l b=-1\/rH s (gD s l b)
 |[],b,_,hb=>hb
 |n::r,b,hl,hb=>by
  unfold gD;refine uA s r _ (λm hm=>hl m (by simp[hm])) ?_;split
  .exact .inr (hl n (by simp))
  .exact hb
theorem xQ(s):∀(l) (n b),gD s (l++[n]) b=if(decide (gD s l b<0)||decide (thr s n<thr s (gD s l b)))=true then n else gD s l b
 |[],n,b=>rfl
 |m::r,n,b=>by
  rw[eW,gD,xQ s r n,gD]
def d9 (s:Shop) (c:Candle) (x:Wax):Int×Int:=
 if gY s [] c=0 then(if gD s (gH s c x s.wicks 0) (-1)<0 then(0,9) else(gD s (gH s c x s.wicks 0) (-1),0)) else(0,gY s [] c)
theorem Dg(s)(c)(x)(h:gY s [] c=0->Site s c x):af TP 214 [s.pv,c.pv] (.tuple [.int .i64 (d9 s c x).1,.int .i64 (d9 s c x).2]):=by
 refine aa (ah Tryz.func214 rfl (by kernel_rfl)) rfl ?_;simp only[go_sem,simprocAttr];refine ae ((J1 s c [] false _ rfl (by simp) x (λh0=>(h h0).hx)).argless (args':=[s.pv,c.pv,.nilslice]) ⟨.inl rfl,.inl rfl,.inr ⟨rfl,1,rfl⟩,trivial⟩) rfl ?_;by_cases h0':gY s [] c=0;rotate_left
 .have h0:(gY s [] c != 0)=true:=by simpa using h0'
  simp only[h0,d9,if_neg h0',go_sem,simprocAttr]
 have h0:(gY s [] c != 0)=false:=by simpa using h0'
 have hs:=h h0';simp only[h0,if_pos h0',go_sem,simprocAttr];refine ae (OP s c x) rfl ?_;simp only[go_sem,simprocAttr];generalize hl:gH s c x s.wicks 0=l;have hval:∀n,n∈l->rH s n:=by
  intro n hn;rw[<-hl]at hn;exact ox s c x s.wicks 0 (by simp) n hn
 have hit:=Oj s c x hs;rw[hl]at hit
 refine UG (l:=l.map aG) (λo k h=>k<=l.length/\h=[.row 6 [.p s.pv],.row 5 [.p c.pv],.row 1 [.p (iu s c x)],.row 1 [.p (.int .i64 (gD s (l.take k) (-1)))],.dblock,o]) (λ_ _=>False)
  rfl (by simp only[zf,go_sem,simprocAttr]) hit dC (by kernel_rfl) rfl (by kernel_rfl) (by kernel_rfl) ?_ ?_ ?_ ?_ ?_ (λ_ _ h=>h.elim)
 .rintro o k h ⟨_,rfl⟩;simp
 .rintro o k h ⟨_,rfl⟩;simp
 .intro o;refine⟨by omega,?_⟩;simp only[go_sem,simprocAttr];rfl
 .rintro oR oB oD k v h hv ⟨hk,rfl⟩
  have hv':∃n,l[k]?=some n/\v=.int .i64 n:=by
   rw[cz,cd]at hv;obtain⟨n,h1,rfl⟩:=hv;exact⟨n,h1,rfl⟩
  obtain⟨n,hn,rfl⟩:=hv';have hlt:k<l.length:=(ax.1 hn).1;have hnv:=hval n (aT hn);obtain⟨w,hw,ht⟩:=D1 hnv;have hb:=xQ s (l.take k) n (-1);rw[<-u0 hn]at hb;have hbv:=uA s (l.take k) (-1) (λm hm=>hval m (sb hm)) (.inl rfl);generalize gD s (l.take k) (-1)=b at hb hbv;have n0:=hnv.1;have n1:=hnv.2;simp only[go_sem,simprocAttr];cases hneg:decide (b<0)
  .have hbv':rH s b:=by
    rcases hbv with h|h
    .rw[h]at hneg;simp at hneg
    .exact h
   obtain⟨w2,hw2,ht2⟩:=D1 hbv';have b0:=hbv'.1;have b1:=hbv'.2;rw[hneg,ht,ht2]at hb;simp only[n0,n1,b0,b1,hw,hw2,go_sem,simprocAttr];cases hlt2:decide (w.threads<w2.threads)
   .rw[hlt2]at hb;simp only[hb,go_sem,simprocAttr];exact hlt
   .rw[hlt2]at hb;simp only[hb,go_sem,simprocAttr];exact hlt
  .rw[hneg]at hb;simp only[hb,go_sem,simprocAttr];exact hlt
 .rintro o h ⟨_,rfl⟩
  have h1:l.take (l.map aG).length=l:=by simp
  rw[h1];simp only[go_sem,simprocAttr];cases hneg:decide (gD s l (-1)<0)
  .have:¬gD s l (-1)<0:=by simpa using hneg
   simp only[d9,if_pos h0',hl,if_neg this,bZ,go_sem,simprocAttr]
  .have:gD s l (-1)<0:=by simpa using hneg
   simp only[d9,if_pos h0',hl,if_pos this,bZ,go_sem,simprocAttr]
end Wk
end Abs
end Go.Proofs.YtnjiadikeacfaaaGreatDoor
