/- CONTRACTS of the program's functions, and laws on what they return. No conditions but those in the theorems' heads. -/
import Derived.Test.YtmndpldajflenaaGreatDoorWkChk
set_option linter.all false
open Go.Proofs.Tryz renaming prog->TP
open Go.Proofs.Tryz
namespace Go.Proofs.YtmndpldajflenaaGreatDoor
namespace Abs
namespace Wk
set_option maxRecDepth 4000
structure WickOk (w:Wick):Prop where
 t:1<=w.threads/\w.threads<=100
 p:1<=w.pull.lo/\w.pull.lo<=w.pull.hi/\w.pull.hi<=1000
structure WaxOk (x:Wax):Prop where
 f:1<=x.flow.lo/\x.flow.lo<=x.flow.hi/\x.flow.hi<=300
 r:1<=x.rise.lo/\x.rise.lo<=x.rise.hi/\x.rise.hi<=1000
 s:1<=x.spread.lo/\x.spread.lo<=x.spread.hi/\x.spread.hi<=2000
 c:0<=x.chill/\x.chill<=50
structure ShopOk (s:Shop):Prop where
 lw:1<=s.wicks.length/\s.wicks.length<=12
 lx:1<=s.waxes.length/\s.waxes.length<=6
 fl:0<=s.flame.lo/\s.flame.lo<=s.flame.hi/\s.flame.hi<=2000
 po:0<=s.pool.lo/\s.pool.lo<=s.pool.hi/\s.pool.hi<=2000
 w:∀w,w∈s.wicks->WickOk w
 x:∀x,x∈s.waxes->WaxOk x
def shopErr (s:Shop):Int:=(bZ s).2.2
theorem se{n lo hi}:ak n lo hi=true↔lo<=n/\n<=hi:=by simp[ak]
theorem vL{s}{lo hi}:ci s lo hi=true↔(lo<=s.lo/\s.lo<=hi)/\lo<=s.hi/\s.hi<=hi:=by simp[ci,ak]
theorem pB{s}:aJ s=false↔s.lo<=s.hi:=by simp[aJ]
theorem Ic{b}{w}(h:cd b w=0):WickOk w:=by
 unfold cd at h;split at h
 .split at h
  .rename_i a;split at h
   .cases h
   .rename_i e;simp only[dQ,se,vL]at a;rw[HY,pB]at e;exact⟨a.1,a.2.1.1,e,a.2.2.2⟩
  .cases h
 .rename_i i;exact absurd h i
theorem JY{b}{x}(h:dj b x=0):WaxOk x:=by
 unfold dj at h;split at h
 .split at h
  .rename_i a;split at h
   .cases h
   .rename_i e;simp only[dQ,se,vL]at a;rw[HY]at e;simp only[Mo,pB]at e;exact⟨⟨a.1.2.1.1,e.1,a.1.2.2.2⟩,⟨a.2.1.1.1,e.2.1,a.2.1.2.2⟩,⟨a.2.2.1.1,e.2.2,a.2.2.2.2⟩,a.1.1⟩
  .cases h
 .rename_i i;exact absurd h i
theorem iF{α}{f:List ByteArray->α->Int}{a}:∀{l} {b},firstErr f a l b=none->∀x,x∈l->∃b,f b x=0
 |[],_,_,x,hx=>by cases hx
 |y::r,b,h,x,hx=>by
  unfold firstErr at h;split at h
  .rename_i e;rcases ce.1 hx with rfl|hx
   .exact⟨b,e⟩
   .exact iF h x hx
  .cases h
theorem ph{α}{f:List ByteArray->α->Int}{a}:∀{l} {b} {i e},firstErr f a l b=some (i,e)->e≠0
 |[],_,_,_,h=>by cases h
 |y::r,b,i,e,h=>by
  unfold firstErr at h;split at h
  .exact ph h
  .rename_i j;cases h;exact j
theorem ur{s}(h:shopErr s=0):ShopOk s:=by
 unfold shopErr bZ at h;split at h
 .rename_i u;split at h
  .rename_i a;split at h
   .cases h
   .rename_i j;simp only[dQ,se,vL]at u a;rw[HY]at j;simp only[Mo,pB]at j;unfold dn at h;split at h
    .rename_i i e o;exact absurd h (ph o)
    .rename_i o;split at h
     .rename_i i e l;exact absurd h (ph l)
     .rename_i l;refine⟨by omega,by omega,⟨a.1.1.1,j.1,a.1.2.2⟩,⟨a.2.1.1,j.2,a.2.2.2⟩,λw hw=>?_,λx hx=>?_⟩
      .obtain⟨b,q⟩:=iF o w hw;exact Ic q
      .obtain⟨b,q⟩:=iF l x hx;exact JY q
  .cases h
 .cases h
def eQ (s:Shop) (c:Candle):Int:=
 if ak c.wax 0 ((s.waxes.length:Int)-1)=true then(if(ak c.diameter 1 2000&&(ak c.draught 0 90&&ci c.cold 0 300))=true then(if aJ c.cold=true then 2 else 0) else 7) else 4
def gS (s:Shop) (ks:List Int) (c:Candle):Int:=
 if shopErr s=0 then(if(ks.all λk=>ak k 0 ((s.wicks.length:Int)-1))=true then eQ s c else 4) else shopErr s
structure CandleOk (c:Candle):Prop where
 d:1<=c.diameter/\c.diameter<=2000
 g:0<=c.draught/\c.draught<=90
 c:0<=c.cold.lo/\c.cold.lo<=c.cold.hi/\c.cold.hi<=300
theorem wF{s}{c}(h:eQ s c=0):CandleOk c/\0<=c.wax/\c.wax<s.waxes.length:=by
 unfold eQ at h;split at h
 .rename_i i;split at h
  .rename_i a;split at h
   .cases h
   .rename_i e;simp only[dQ,se,vL]at i a;rw[HY,pB]at e;exact⟨⟨a.1,a.2.1,a.2.2.1.1,e,a.2.2.2.2⟩,i.1,by omega⟩
  .cases h
 .cases h
theorem Td{s}{a}{c}(h:gS s a c=0):shopErr s=0/\eQ s c=0/\∀k,k∈a->0<=k/\k<s.wicks.length:=by
 unfold gS at h;split at h
 .rename_i j;split at h
  .rename_i i;refine⟨j,h,λk e=>?_⟩;have:=kC.1 i k e;rw[se]at this;omega
  .cases h
 .rename_i l;exact absurd h l
def ij (s:Shop) (c:Candle) (x:Wax):PV:=.ptr 19 [.agg (s.pv.cells++c.pv.cells++x.pv.cells)] 0 0
attribute [go_sem] ij
theorem GB(l:List Int)(lo hi):(l.any λn=>!ak n lo hi)=!(l.all λn=>ak n lo hi):=by rw[<-List.not_all_eq_any_not]
theorem Jg(s)(c)(a)(b)(xs)(v:xs=a.map aI)(J:a.length<1000000)(x)(hx:gS s a c=0->s.waxes[c.wax.toNat]?=some x) :
  af TP 361 [s.pv,c.pv,.slice 1 xs b] (.tuple [if gS s a c=0 then ij s c x else .nilptr,.int .i64 (gS s a c)]):=by
 subst v;refine dd (ag func361 rfl) rfl ?_;simp only[go_sem,simprocAttr];refine ae (o3 s) rfl ?_;simp only[ah,go_sem,simprocAttr];have F:(bZ s).2.2=shopErr s:=rfl;rw[F];cases E:(shopErr s != 0)
 rotate_left
 .have e:¬shopErr s=0:=by simpa using E
  simp only[gS,if_neg e,go_sem,simprocAttr]
 have e:shopErr s=0:=by simpa using E
 have ok:=ur e;have z:IntKind.i64.wrap ((s.wicks.length:Int)-1)=(s.wicks.length:Int)-1:=am (by omega) (by have:=ok.lw;omega);have y:IntKind.i64.wrap ((s.waxes.length:Int)-1)=(s.waxes.length:Int)-1:=am (by omega) (by have:=ok.lx;omega);have G:gS s a c=if(a.all λk=>ak k 0 ((s.wicks.length:Int)-1))=true then eQ s c else 4:=by simp only[gS,if_pos e]
 rw[G]at hx |-;simp only[z,go_sem,simprocAttr];refine ae (e6 0 ((s.wicks.length:Int)-1) a b (by omega)) rfl ?_;simp only[go_sem,simprocAttr];rw[GB];cases I:(a.all λk=>ak k 0 ((s.wicks.length:Int)-1))
 .simp only[go_sem,simprocAttr]
 rw[I,if_pos rfl]at hx;simp only[y,go_sem,simprocAttr];refine ae (e6 0 ((s.waxes.length:Int)-1) [_] true (by simp)) rfl ?_;simp only[bJ,cb,go_sem,simprocAttr];cases i:ak c.wax 0 ((s.waxes.length:Int)-1)
 .simp only[eQ,i,go_sem,simprocAttr]
 simp only[go_sem,simprocAttr];refine ae (e6 1 2000 [_] true (by simp)) rfl ?_;simp only[bJ,cb,go_sem,simprocAttr];cases j:ak c.diameter 1 2000
 .simp only[eQ,i,j,go_sem,simprocAttr]
 simp only[go_sem,simprocAttr];refine ae (e6 0 90 [_] true (by simp)) rfl ?_;simp only[bJ,cb,go_sem,simprocAttr];cases l:ak c.draught 0 90
 .simp only[eQ,i,j,l,go_sem,simprocAttr]
 simp only[go_sem,simprocAttr];refine ae (e6 0 300 [_,_] true (by simp)) rfl ?_;simp only[bJ,cb,<-ko,go_sem,simprocAttr];cases q:(ak c.cold.lo 0 300&&ak c.cold.hi 0 300)
 .simp only[eQ,i,j,l,ci,q,go_sem,simprocAttr]
 simp only[go_sem,simprocAttr];refine ae (vU [c.cold] true (by simp)) rfl ?_;simp only[bJ,cb,go_sem,simprocAttr];cases D:decide (c.cold.hi<c.cold.lo);rotate_left
 .simp only[eQ,i,j,l,ci,q,aJ,D,go_sem,simprocAttr]
 have o:eQ s c=0:=by simp only[eQ,i,j,l,ci,q,aJ,D];rfl
 have u:=hx o;obtain⟨_,C,A⟩:=wF o;simp only[o,C,A,u,go_sem,simprocAttr]
structure Site (s:Shop) (c:Candle) (x:Wax):Prop where
 so:ShopOk s
 co:CandleOk c
 c0:0<=c.wax
 c1:c.wax<(s.waxes.length:Int)
 hx:s.waxes[c.wax.toNat]?=some x
 xo:WaxOk x
structure SiteK (s:Shop) (k:Int) (w:Wick):Prop where
 k0:0<=k
 k1:k<(s.wicks.length:Int)
 hw:s.wicks[k.toNat]?=some w
 wo:WickOk w
theorem O0{α:Type}{l:List α}{k}(e:0<=k)(a:k<(l.length:Int)):∃w,l[k.toNat]?=some w:=⟨_,bO (by omega)⟩
theorem MG{s}{a}{c}(h:gS s a c=0):∃x,Site s c x:=by
 obtain⟨i,e,_⟩:=Td h;obtain⟨co,c0,c1⟩:=wF e;obtain⟨x,hx⟩:=O0 c0 c1;have so:=ur i;exact⟨x,so,co,c0,c1,hx,so.x x (aG hx)⟩
structure TOk (t:Truth):Prop where
 p:0<=t.pull/\t.pull<=1000
 f:0<=t.flow/\t.flow<=300
 r:0<=t.rise/\t.rise<=1000
 s:0<=t.spread/\t.spread<=2000
 d:-90<=t.draught/\t.draught<=90
 c:0<=t.cold/\t.cold<=300
def fm (t:Truth):Int:=t.pull*t.flow*(100+t.draught)
def zv (chill:Int) (t:Truth):Burn:=⟨fm t*100,fm t*t.rise,fm t*t.spread-t.cold*chill*100000⟩
theorem TOk.b{t}(h:TOk t):(0<=t.pull*t.flow/\t.pull*t.flow<=1000*300)/\(0<=fm t/\fm t<=1000*300*190)/\(0<=fm t*t.rise/\fm t*t.rise<=1000*300*190*1000) /\
  (0<=fm t*t.spread/\fm t*t.spread<=1000*300*190*2000):=by
 have e:=j6 h.p.1 h.p.2 h.f.1 h.f.2;have a:=j6 e.1 e.2 (b:=100+t.draught) (B:=190) (by have:=h.d;omega) (by have:=h.d;omega);exact⟨e,a,j6 a.1 a.2 h.r.1 h.r.2,j6 a.1 a.2 h.s.1 h.s.2⟩
def s4 (a b c d:Int):Int:=IntKind.i64.wrap (IntKind.i64.wrap (IntKind.i64.wrap (IntKind.i64.wrap (1*a)*b)*c)*d)
theorem xA(a b c d):af TP 431 [.agg [.int .i64 a,.int .i64 b,.int .i64 c,.int .i64 d]] (.int .i64 (s4 a b c d)):=by
 refine aa (ag func431 rfl) rfl ?_;simp only[go_sem,simprocAttr];refine aY ?_;simp only[go_sem,simprocAttr];refine aY ?_;simp only[go_sem,simprocAttr];refine aY ?_;simp only[go_sem,simprocAttr];refine aY ?_;simp only[go_sem,simprocAttr];refine aY ?_;simp only[go_sem,simprocAttr];rfl
theorem OY(s)(c)(x)(t)(h:TOk t)(l:0<=x.chill/\x.chill<=50):af TP 423 [ij s c x,t.pv] (zv x.chill t).pv:=by
 obtain⟨G,o,F,E⟩:=h.b;have j:IntKind.i64.wrap (100+t.draught)=100+t.draught:=am (by have:=h.d;omega) (by have:=h.d;omega);have i:IntKind.i64.wrap (1*t.pull)=t.pull:=by rw[zN];exact am (by have:=h.p;omega) (by have:=h.p;omega)
 have e:IntKind.i64.wrap (t.pull*t.flow)=t.pull*t.flow:=am (by omega) (by omega);have a:IntKind.i64.wrap (t.pull*t.flow*(100+t.draught))=fm t:=am (by unfold fm at o;omega) (by unfold fm at o;omega);have C:s4 t.pull t.flow (100+t.draught) 100=fm t*100:=by unfold s4;rw[i,e,a];exact am (by omega) (by omega)
 have A:s4 t.pull t.flow (100+t.draught) t.rise=fm t*t.rise:=by unfold s4;rw[i,e,a];exact am (by omega) (by omega)
 have z:s4 t.pull t.flow (100+t.draught) t.spread=fm t*t.spread:=by unfold s4;rw[i,e,a];exact am (by omega) (by omega)
 have D:=j6 h.c.1 h.c.2 l.1 l.2;have y:IntKind.i64.wrap (t.cold*x.chill)=t.cold*x.chill:=am (by omega) (by omega);have v:IntKind.i64.wrap (t.cold*x.chill*1000000)=t.cold*x.chill*1000000:=am (by omega) (by omega);have u:IntKind.i64.wrap ((t.cold*x.chill*1000000).tdiv 10)=t.cold*x.chill*100000:=by
  have:(t.cold*x.chill*1000000).tdiv 10=t.cold*x.chill*100000:=by
   rw[show t.cold*x.chill*1000000=(t.cold*x.chill*100000)*10 by omega,Int.mul_tdiv_cancel _ (by decide)]
  rw[this];exact am (by omega) (by omega)
 have q:IntKind.i64.wrap (fm t*t.spread-t.cold*x.chill*100000)=fm t*t.spread-t.cold*x.chill*100000:=am (by omega) (by omega);refine aa (ag func423 rfl) rfl ?_;simp only[go_sem,simprocAttr];refine aY ?_;simp only[j,go_sem,simprocAttr];refine ae (xA _ _ _ _) rfl ?_;simp only[C,go_sem,simprocAttr];refine aY ?_;simp only[j,go_sem,simprocAttr];refine ae (xA _ _ _ _) rfl ?_;simp only[A,go_sem,simprocAttr];refine aY ?_;simp only[j,go_sem,simprocAttr];refine ax (xA _ _ _ _) rfl ?_;simp only[z,y,v,u,q,go_sem,simprocAttr];refine aY ?_;simp only[zv,go_sem,simprocAttr]
def oQ (w:Wick) (x:Wax) (c:Candle):Truth:=⟨w.pull.lo,x.flow.lo,x.rise.lo,x.spread.lo,-c.draught,c.cold.hi⟩
def rl (w:Wick) (x:Wax) (c:Candle):Truth:=⟨w.pull.hi,x.flow.hi,x.rise.hi,x.spread.hi,c.draught,c.cold.lo⟩
theorem PG{w}{x}{c}(hw:WickOk w)(hx:WaxOk x)(a:CandleOk c):TOk (oQ w x c):=by
 have:=hw.p;have:=hx.f;have:=hx.r;have:=hx.s;have:=a.g;have:=a.c
 constructor<;>(simp only[oQ];omega)
theorem R5{w}{x}{c}(hw:WickOk w)(hx:WaxOk x)(a:CandleOk c):TOk (rl w x c):=by
 have:=hw.p;have:=hx.f;have:=hx.r;have:=hx.s;have:=a.g;have:=a.c
 constructor<;>(simp only[rl];omega)
theorem Ql(s)(c)(x)(k)(w)(e:Site s c x)(a:SiteK s k w):af TP 422 [ij s c x,.int .i64 k] (.tuple [(oQ w x c).pv,(rl w x c).pv]):=by
 have k0:=a.k0;have k1:=a.k1;have hw:=a.hw;have i:IntKind.i64.wrap (-c.draught)=-c.draught:=am (by have:=e.co.g;omega) (by have:=e.co.g;omega);refine aa (eI (by kernel_rfl) rfl TU) rfl ?_;simp only[Tt,aO,k0,k1,hw,i,oQ,rl,go_sem,simprocAttr]
def leastB (w:Wick) (x:Wax) (c:Candle):Burn:=zv x.chill (oQ w x c)
def mostB (w:Wick) (x:Wax) (c:Candle):Burn:=zv x.chill (rl w x c)
theorem vX(s)(c)(x)(k)(w)(a:Site s c x)(i:SiteK s k w):af TP 417 [ij s c x,.int .i64 k] (.tuple [(leastB w x c).pv,(mostB w x c).pv]):=by
 refine aa (ag func417 rfl) rfl ?_;simp only[go_sem,simprocAttr];refine ae (Ql s c x k w a i) rfl ?_;simp only[go_sem,simprocAttr];refine ae (OY s c x (oQ w x c) (PG i.wo a.xo a.co) a.xo.c) rfl ?_;simp only[go_sem,simprocAttr];refine aK (λe=>?_) (λe=>?_)
 .have j:oQ w x c=rl w x c:=by
   simp only[dQ,beq_iff_eq]at e;simp only[oQ,rl]at e |-;simp[e]
  simp only[leastB,mostB,j,go_sem,simprocAttr]
 .simp only[go_sem,simprocAttr];refine ax (OY s c x (rl w x c) (R5 i.wo a.xo a.co) a.xo.c) rfl ?_;simp only[leastB,mostB,go_sem,simprocAttr]
def gX:Burn:=⟨0,0,0⟩
attribute [go_sem] gX
def oJ (s:Shop) (b:Burn):Bool:=decide (s.flame.hi*1000000<b.flame)
def my (s:Shop) (b:Burn):Bool:=decide (b.flame<s.flame.lo*1000000)
def ml (s:Shop) (d:Int) (b:Burn):Bool:=decide (b.pool<s.pool.lo*d*1000)
def kH (s:Shop) (d:Int) (b:Burn):Bool:=decide (s.pool.hi*d*1000<b.pool)
def fx (b:Bool) (n:Int):List Int:=if b=true then [n] else []
def nR (s:Shop) (d:Int) (l m:Burn):List Int:=fx (oJ s m) 1++(fx (my s l) 2++(fx (ml s d l) 3++fx (kH s d m) 4))
def Ei (l:List Int):PV:=.slice 1 (l.map aI) false
theorem GX{s}(so:ShopOk s){d}(a:1<=d/\d<=2000):(0<=s.pool.lo*d/\s.pool.lo*d<=2000*2000)/\(0<=s.pool.hi*d/\s.pool.hi*d<=2000*2000):=
 ⟨j6 (by have:=so.po;omega) (by have:=so.po;omega) (by omega) a.2,j6 (by have:=so.po;omega) (by have:=so.po;omega) (by omega) a.2⟩
theorem OV(s)(c)(x)(n)(i:0<=n*c.diameter/\n*c.diameter<=2000*2000):af TP 412 [.int .i64 n,.ptr 1 [ij s c x] 0 0] (.int .i64 (n*c.diameter*1000)):=by
 have e:IntKind.i64.wrap (n*c.diameter)=n*c.diameter:=am (by omega) (by omega);have a:IntKind.i64.wrap (n*c.diameter*1000)=n*c.diameter*1000:=am (by omega) (by omega);refine aa (ag func412 rfl) rfl ?_;simp only[e,a,go_sem,simprocAttr]
theorem Qs(s)(c)(x)(so:ShopOk s)(l m:Burn):af TP 413 [l.pv,m.pv,.ptr 1 [ij s c x] 0 0] (.bool (oJ s m)):=by
 have a:IntKind.i64.wrap (s.flame.hi*1000000)=s.flame.hi*1000000:=am (by have:=so.fl;omega) (by have:=so.fl;omega);refine aa (ag func413 rfl) rfl ?_;simp only[a,oJ,go_sem,simprocAttr]
theorem NV(s)(c)(x)(so:ShopOk s)(l m:Burn):af TP 414 [l.pv,m.pv,.ptr 1 [ij s c x] 0 0] (.bool (my s l)):=by
 have a:IntKind.i64.wrap (s.flame.lo*1000000)=s.flame.lo*1000000:=am (by have:=so.fl;omega) (by have:=so.fl;omega);refine aa (ag func414 rfl) rfl ?_;simp only[a,my,go_sem,simprocAttr]
def DE (s:Shop) (c:Candle) (x:Wax):PV:=.ptr 1 [.func (.func 412) [] [.ptr 1 [ij s c x] 0 0]] 0 0
attribute [go_sem] DE
theorem NK(s)(c)(x)(so:ShopOk s)(co:CandleOk c)(l m:Burn):af TP 415 [l.pv,m.pv,DE s c x,.ptr 1 [ij s c x] 0 0] (.bool (ml s c.diameter l)):=by
 refine aa (ag func415 rfl) rfl ?_;simp only[go_sem,simprocAttr];refine ax (OV s c x s.pool.lo (GX so co.d).1) rfl ?_;simp only[ml,go_sem,simprocAttr]
theorem UG(s)(c)(x)(so:ShopOk s)(co:CandleOk c)(l m:Burn):af TP 416 [l.pv,m.pv,DE s c x,.ptr 1 [ij s c x] 0 0] (.bool (kH s c.diameter m)):=by
 refine aa (ag func416 rfl) rfl ?_;simp only[go_sem,simprocAttr];refine ax (OV s c x s.pool.hi (GX so co.d).2) rfl ?_;simp only[kH,go_sem,simprocAttr]
def nM (a b c d:Bool):Nat->List Int
 |0=>[]
 |1=>fx a 1
 |2=>fx a 1++fx b 2
 |3=>fx a 1++fx b 2++fx c 3
 |_=>fx a 1++fx b 2++fx c 3++fx d 4
theorem ru(b)(n):(fx b n).length<=1:=by cases b<;>simp[fx]
theorem MU(a b c d)(i):(nM a b c d i).length<=4:=by
 have o:=ru a 1;have l:=ru b 2;have j:=ru c 3;have e:=ru d 4
 match i with
 |0=>simp[nM]
 |1=>simp[nM];omega
 |2=>simp[nM];omega
 |3=>simp[nM];omega
 |_+4=>simp[nM];omega
theorem MV(s)(d)(l m):nM (oJ s m) (my s l) (ml s d l) (kH s d m) 4=nR s d l m:=by simp[nM,nR]
theorem LK(s)(c)(x)(k)(w)(q:Site s c x)(z:SiteK s k w):af TP 391 [ij s c x,.int .i64 k] (Ei (nR s c.diameter (leastB w x c) (mostB w x c))):=by
 refine gQ (ag func391 rfl) rfl ?_;simp only[go_sem,simprocAttr];refine ae (vX s c x k w q z) rfl ?_;simp only[go_sem,simprocAttr];refine cp 4 1 (by simp only[go_sem,simprocAttr]) ?_;simp only[go_sem,simprocAttr];generalize u:nM (oJ s (mostB w x c)) (my s (leastB w x c)) (ml s c.diameter (leastB w x c)) (kH s c.diameter (mostB w x c))=o;have e:∀i,(o i).length+1<=ao:=λi=>by
  have:=MU (oJ s (mostB w x c)) (my s (leastB w x c)) (ml s c.diameter (leastB w x c)) (kH s c.diameter (mostB w x c)) i;rw[u]at this;simp only[ao];omega
 refine QY [7,8,27,28] (σ:=Nat) (λi=>i<=4) (λi=>4-i) (λi=>[(4,.slice 5 (o i).length 0 (o i).length),(29,.p (.int .i64 i))]) (λi h=>h.set 5 (.row 1 ((o i).map λn=>.p (.int .i64 n)))) 0 (by omega) ?_ ?_
 .have C:o 0=[]:=by rw[<-u];rfl
  simp only[C,go_sem,simprocAttr]
 intro i hi;have y:i=0\/i=1\/i=2\/i=3\/i=4:=by omega
 rcases y with rfl|rfl|rfl|rfl|rfl
 .have v:=e 0;have l:o 1=o 0++fx (oJ s (mostB w x c)) 1:=by rw[<-u];simp[nM]
  simp only[go_sem,simprocAttr];refine aU (Qs s c x q.so (leastB w x c) (mostB w x c)) ?_ (.bool _) ?_
  .simp only[go_sem,simprocAttr]
  simp only[go_sem,simprocAttr];cases j:oJ s (mostB w x c)
  .have a:o 1=o 0:=by rw[l,j];simp[fx]
   simp only[go_sem,simprocAttr];refine cc 1 (by omega) (by omega) ?_;simp only[a,go_sem,simprocAttr]
  .have a:o 1=o 0++[1]:=by rw[l,j];rfl
   simp only[v,go_sem,simprocAttr];refine cc 1 (by omega) (by omega) ?_;simp only[a,aL,bD,go_sem,simprocAttr]
 .have v:=e 1;have l:o 2=o 1++fx (my s (leastB w x c)) 2:=by rw[<-u];simp[nM]
  simp only[go_sem,simprocAttr];refine aU (NV s c x q.so (leastB w x c) (mostB w x c)) ?_ (.bool _) ?_
  .simp only[go_sem,simprocAttr]
  simp only[go_sem,simprocAttr];cases j:my s (leastB w x c)
  .have a:o 2=o 1:=by rw[l,j];simp[fx]
   simp only[go_sem,simprocAttr];refine cc 2 (by omega) (by omega) ?_;simp only[a,go_sem,simprocAttr]
  .have a:o 2=o 1++[2]:=by rw[l,j];rfl
   simp only[v,go_sem,simprocAttr];refine cc 2 (by omega) (by omega) ?_;simp only[a,aL,bD,go_sem,simprocAttr]
 .have v:=e 2;have l:o 3=o 2++fx (ml s c.diameter (leastB w x c)) 3:=by rw[<-u];simp[nM]
  simp only[go_sem,simprocAttr];refine aU (NK s c x q.so q.co (leastB w x c) (mostB w x c)) ?_ (.bool _) ?_
  .simp only[go_sem,simprocAttr]
  simp only[go_sem,simprocAttr];cases j:ml s c.diameter (leastB w x c)
  .have a:o 3=o 2:=by rw[l,j];simp[fx]
   simp only[go_sem,simprocAttr];refine cc 3 (by omega) (by omega) ?_;simp only[a,go_sem,simprocAttr]
  .have a:o 3=o 2++[3]:=by rw[l,j];rfl
   simp only[v,go_sem,simprocAttr];refine cc 3 (by omega) (by omega) ?_;simp only[a,aL,bD,go_sem,simprocAttr]
 .have v:=e 3;have l:o 4=o 3++fx (kH s c.diameter (mostB w x c)) 4:=by rw[<-u];simp[nM]
  simp only[go_sem,simprocAttr];refine aU (UG s c x q.so q.co (leastB w x c) (mostB w x c)) ?_ (.bool _) ?_
  .simp only[go_sem,simprocAttr]
  simp only[go_sem,simprocAttr];cases j:kH s c.diameter (mostB w x c)
  .have a:o 4=o 3:=by rw[l,j];simp[fx]
   simp only[go_sem,simprocAttr];refine cc 4 (by omega) (by omega) ?_;simp only[a,go_sem,simprocAttr]
  .have a:o 4=o 3++[4]:=by rw[l,j];rfl
   simp only[v,go_sem,simprocAttr];refine cc 4 (by omega) (by omega) ?_;simp only[a,aL,bD,go_sem,simprocAttr]
 .have A:o 4=nR s c.diameter (leastB w x c) (mostB w x c):=by rw[<-u];exact MV _ _ _ _
  simp only[A,Ei,go_sem,simprocAttr];first|rfl|exact .inl rfl|exact⟨_,_,rfl,rfl,.inr ⟨rfl,1,rfl⟩,.inl rfl,.inl rfl,trivial⟩|exact⟨_,_,rfl,rfl,.inr ⟨rfl,1,rfl⟩,.inl rfl,trivial⟩|exact⟨_,_,rfl,rfl,.inl rfl,.inl rfl,trivial⟩|exact .inl (.inl rfl)|exact .inl (.inr ⟨rfl,1,rfl⟩)|exact .inr ⟨_,_,rfl,rfl,.inl rfl,.inl rfl,trivial⟩|exact .inr ⟨_,_,rfl,rfl,.inr ⟨rfl,1,rfl⟩,.inl rfl,trivial⟩|exact⟨1,rfl⟩|(simp;done)|(refine .inr ⟨_,_,rfl,rfl,?_⟩;repeat' (first|exact trivial|exact .inl rfl|exact .inr ⟨rfl,1,rfl⟩|refine⟨?_,?_⟩))
def OI (s:Shop) (c:Candle) (x:Wax) (w:Wick):Bool:=(nR s c.diameter (leastB w x c) (mostB w x c)).length==0
def gF (s:Shop) (c:Candle) (x:Wax):List Wick->Nat->List Int
 |[],_=>[]
 |w::r,i=>if OI s c x w=true then(i:Int)::gF s c x r (i+1) else gF s c x r (i+1)
theorem Pk{s}{c}{x}(i:Site s c x){a r}{w}(e:s.wicks=a++w::r):SiteK s (a.length:Int) w:=
 ⟨by omega,by rw[e];simp<;>omega,by rw[e];simp,i.so.w w (by rw[e];simp)⟩
def x2 (s:Shop) (c:Candle) (x:Wax):PV:=.func (.func 390) [] [.ptr 1 [ij s c x] 0 0]
theorem Nh(s)(c)(x)(A:Site s c x):Tr TP (x2 s c x) ((gF s c x s.wicks 0).map aI):=by
 refine⟨_,_,_,rfl,λid D Fin K F G hi=>?_⟩;have lw:=A.so.lw;refine au (ag func390 rfl) rfl ?_;simp only[go_sem,simprocAttr]
 refine fo [0,1,9] (σ:=List Wick×List Wick×List Int×Heap) (λq=>s.wicks=q.1++q.2.1/\gF s c x s.wicks 0=q.2.2.1++gF s c x q.2.1 q.1.length/\D q.2.2.1.length q.2.2.2) (λq=>q.2.1.length)
  (λq=>[(10,.p (.int .i64 q.1.length))]) (λq=>q.2.2.2) ([],s.wicks,[],K) ⟨rfl,rfl,hi⟩ rfl ?_ ?_
 .simp only[go_sem,simprocAttr]
 rintro⟨a,rest,i,h⟩ ⟨o,j,z⟩
 dsimp only at o j z
 cases rest with
 |nil=>
  have l:¬((a.length:Int)<(s.wicks.length:Int)):=by rw[o];simp
  simp only[l,go_sem,simprocAttr];refine .inl ?_;rw[j,gF,bt]
  exact z
 |cons w r=>
  obtain⟨hx,l⟩:=eT o;have u:IntKind.i64.wrap ((a.length:Int)+1)=(((a++[w]).length:Nat):Int):=bk (by omega) (by simp[ao];omega) (by simp);have I:=Pk A o;rw[gF]at j;simp only[l,go_sem,simprocAttr];refine ae (LK s c x _ w A I) rfl ?_;simp only[Ei,go_sem,simprocAttr];have hok:((((nR s c.diameter (leastB w x c) (mostB w x c)).length:Nat):Int)==0)=OI s c x w:=by
   unfold OI;rw[sD];simp
  rw[hok];cases E:OI s c x w
  .simp only[go_sem,simprocAttr];refine br (a++[w],r,i,h) ⟨by simp[o],by rw[j,E];simp,z⟩ (by simp) rfl ?_;simp only[u,go_sem,simprocAttr]
  .rw[E,if_pos rfl]at j;have y:((gF s c x s.wicks 0).map aI)[i.length]?=some (.int .i64 a.length):=by rw[j];simp[aI]
   simp only[go_sem,simprocAttr];refine o6 (G i.length _ h y z) (λv h' e=>?_) (λv h' e=>?_);rotate_left
   .rcases e with⟨e,_⟩|⟨e,_⟩<;>cases e
   rcases e with⟨e,C⟩|⟨e,J,_⟩
   .cases e;simp only[go_sem,simprocAttr];refine br (a++[w],r,i++[(a.length:Int)],h') ⟨by simp[o],by rw[j];simp,by simpa using C⟩ (by simp) rfl ?_;simp only[u,go_sem,simprocAttr]
   .cases e;simp only[go_sem,simprocAttr];exact .inr J
theorem NL(s)(c)(x):af TP 362 [ij s c x] (x2 s c x):=by
 refine dd (ag func362 rfl) rfl ?_;simp only[x2,go_sem,simprocAttr]
theorem uh{α:Type}{l:List α}{k}{x}(h:l[k]?=some x):l.take (k+1)=l.take k++[x]:=by
 rw[sG,h];rfl
def thr (s:Shop) (n:Int):Int:=match s.wicks[n.toNat]? with|some w=>w.threads|none=>0
def gB (s:Shop):List Int->Int->Int
 |[],b=>b
 |n::r,b=>gB s r (if(decide (b<0)||decide (thr s n<thr s b))=true then n else b)
def rb (s:Shop) (n:Int):Prop:=0<=n/\n<(s.wicks.length:Int)
theorem ol(s)(c)(x):∀(l) (i),i+l.length=s.wicks.length->∀n,n∈gF s c x l i->rb s n
 |[],_,_,n,a=>by cases a
 |w::r,i,hi,n,a=>by
  unfold gF at a;simp only[dB]at hi;split at a
  .rcases ce.1 a with rfl|a
   .exact⟨by omega,by omega⟩
   .exact ol s c x r (i+1) (by omega) n a
  .exact ol s c x r (i+1) (by omega) n a
theorem Df{s}{n}(h:rb s n):∃w,s.wicks[n.toNat]?=some w/\thr s n=w.threads:=by
 obtain⟨w,hw⟩:=O0 h.1 h.2;exact⟨w,hw,by simp[thr,hw]⟩
theorem tJ(s):∀(l) (b),(∀n,n∈l->rb s n)->(b=-1\/rb s b)->gB s l b=-1\/rb s (gB s l b)
 |[],b,_,a=>a
 |n::r,b,e,a=>by
  unfold gB;refine tJ s r _ (λm i=>e m (by simp[i])) ?_;split
  .exact .inr (e n (by simp))
  .exact a
theorem wI(s):∀(l) (n b),gB s (l++[n]) b=if(decide (gB s l b<0)||decide (thr s n<thr s (gB s l b)))=true then n else gB s l b
 |[],n,b=>rfl
 |m::r,n,b=>by
  rw[hZ,gB,wI s r n,gB]
def eb (s:Shop) (c:Candle) (x:Wax):Int×Int:=
 if gS s [] c=0 then(if gB s (gF s c x s.wicks 0) (-1)<0 then(0,9) else(gB s (gF s c x s.wicks 0) (-1),0)) else(0,gS s [] c)
theorem Cs(s)(c)(x)(h:gS s [] c=0->Site s c x):af TP 296 [s.pv,c.pv] (.tuple [.int .i64 (eb s c x).1,.int .i64 (eb s c x).2]):=by
 refine aa (ag func296 rfl) rfl ?_;simp only[go_sem,simprocAttr];refine ae ((Jg s c [] false _ rfl (by simp) x (λC=>(h C).hx)).argless (args':=[s.pv,c.pv,.nilslice]) ⟨.inl rfl,.inl rfl,.inr ⟨rfl,1,rfl⟩,trivial⟩) rfl ?_;by_cases e:gS s [] c=0;rotate_left
 .have C:(gS s [] c != 0)=true:=by simpa using e
  simp only[C,eb,if_neg e,go_sem,simprocAttr]
 have C:(gS s [] c != 0)=false:=by simpa using e
 have R:=h e;simp only[C,if_pos e,go_sem,simprocAttr];refine ae (NL s c x) rfl ?_;simp only[go_sem,simprocAttr];generalize F:gF s c x s.wicks 0=l;have q:∀n,n∈l->rb s n:=by
  intro n A;rw[<-F]at A;exact ol s c x s.wicks 0 (by simp) n A
 have D:=Nh s c x R;rw[F]at D
 refine Th (l:=l.map aI) (λo k h=>k<=l.length/\h=[.row 6 [.p s.pv],.row 5 [.p c.pv],.row 1 [.p (ij s c x)],.row 1 [.p (.int .i64 (gB s (l.take k) (-1)))],.dblock,o]) (λ_ _=>False)
  rfl (by simp only[x2,go_sem,simprocAttr]) D dh (by kernel_rfl) rfl (by kernel_rfl) (by kernel_rfl) ?_ ?_ ?_ ?_ ?_ (λ_ _ h=>h.elim)
 .rintro o k h ⟨_,rfl⟩;simp
 .rintro o k h ⟨_,rfl⟩;simp
 .intro o;refine⟨by omega,?_⟩;simp only[go_sem,simprocAttr];rfl
 .rintro V Y X k v h L ⟨Z,rfl⟩
  have J:∃n,l[k]?=some n/\v=.int .i64 n:=by
   rw[cW,bC]at L;obtain⟨n,G,rfl⟩:=L;exact⟨n,G,rfl⟩
  obtain⟨n,A,rfl⟩:=J;have z:k<l.length:=(aB.1 A).1;have y:=q n (aG A);obtain⟨w,hw,O⟩:=Df y;have j:=wI s (l.take k) n (-1);rw[<-uh A]at j;have E:=tJ s (l.take k) (-1) (λm S=>q m (od S)) (.inl rfl);generalize gB s (l.take k) (-1)=b at j E;have N:=y.1;have n1:=y.2;simp only[go_sem,simprocAttr];cases a:decide (b<0)
  .have i:rb s b:=by
    rcases E with h|h
    .rw[h]at a;simp at a
    .exact h
   obtain⟨M,I,K⟩:=Df i;have U:=i.1;have T:=i.2;rw[a,O,K]at j;simp only[N,n1,U,T,hw,I,go_sem,simprocAttr];cases u:decide (w.threads<M.threads)
   .rw[u]at j;simp only[j,go_sem,simprocAttr];exact z
   .rw[u]at j;simp only[j,go_sem,simprocAttr];exact z
  .rw[a]at j;simp only[j,go_sem,simprocAttr];exact z
 .rintro o h ⟨_,rfl⟩
  have G:l.take (l.map aI).length=l:=by simp
  rw[G];simp only[go_sem,simprocAttr];cases a:decide (gB s l (-1)<0)
  .have:¬gB s l (-1)<0:=by simpa using a
   simp only[eb,if_pos e,F,if_neg this,bN,go_sem,simprocAttr]
  .have:gB s l (-1)<0:=by simpa using a
   simp only[eb,if_pos e,F,if_pos this,bN,go_sem,simprocAttr]
end Wk
end Abs
end Go.Proofs.YtmndpldajflenaaGreatDoor
