/- CONTRACTS of functions and laws. No conditions but those in the heads. -/
import Derived.Test.YtgafommgcfhkkaaGreatDoorWxRefX
set_option linter.all false
set_option maxHeartbeats 1000000
open Go.Proofs.Tryz renaming prog->TP
open Go.Proofs.Tryz
open Go.IntKind (i64)
namespace Go.Proofs.YtgafommgcfhkkaaGreatDoor
namespace Abs
namespace Wk
set_option maxRecDepth 4000
structure WickOk (w:Wick):Prop where
 t:1<=w.threads/\w.threads<=100
 p:1<=w.pull.lo/\w.pull.lo<=w.pull.hi/\w.pull.hi<=1000
structure WaxOk (x:Wax):Prop where
 f:1<=x.flow.lo/\x.flow.lo<=x.flow.hi/\x.flow.hi<=300
 r:1<=x.rise.lo/\x.rise.lo<=x.rise.hi/\x.rise.hi<=1000
 s:1<=x.spread.lo/\x.spread.lo<=x.spread.hi/\x.spread.hi<=2000
 c:0<=x.chill/\x.chill<=50
structure ShopOk (s:Shop):Prop where
 lw:1<=s.wicks.length/\s.wicks.length<=12
 lx:1<=s.waxes.length/\s.waxes.length<=6
 fl:0<=s.flame.lo/\s.flame.lo<=s.flame.hi/\s.flame.hi<=2000
 po:0<=s.pool.lo/\s.pool.lo<=s.pool.hi/\s.pool.hi<=2000
 w:∀w,w∈s.wicks->WickOk w
 x:∀x,x∈s.waxes->WaxOk x
def shopErr (s:Shop):Int:=(cN s).2.2
def vB{n lo hi}:aq n lo hi=true↔lo<=n/\n<=hi:=by simp[aq]
def zW{s}{lo hi}:cm s lo hi=true↔(lo<=s.lo/\s.lo<=hi)/\lo<=s.hi/\s.hi<=hi:=by simp[cm,aq]
def sv{s}:aL s=false↔s.lo<=s.hi:=by simp[aL]
def ME{b}{w}(h:cY b w=0):WickOk w:=by
 unfold cY at h;split at h
 .split at h
  .rename_i e;split at h
   .cases h
   .rename_i i;simp only[eI,vB,zW]at e;rw[Mx,sv]at i;exact⟨e.1,e.2.1.1,i,e.2.2.2⟩
  .cases h
 .rename_i j;exact absurd h j
def OS{b}{x}(h:eA b x=0):WaxOk x:=by
 unfold eA at h;split at h
 .split at h
  .rename_i e;split at h
   .cases h
   .rename_i i;simp only[eI,vB,zW]at e;rw[Mx]at i;simp only[RD,sv]at i;exact⟨⟨e.1.2.1.1,i.1,e.1.2.2.2⟩,⟨e.2.1.1.1,i.2.1,e.2.1.2.2⟩,⟨e.2.2.1.1,i.2.2,e.2.2.2.2⟩,e.1.1⟩
  .cases h
 .rename_i j;exact absurd h j
def kq{α}{f:List ByteArray->α->Int}{e}:∀{l} {b},firstErr f e l b=none->∀x,x∈l->∃b,f b x=0
 |[],_,_,x,hx=>by cases hx
 |y::r,b,h,x,hx=>by
  unfold firstErr at h;split at h
  .rename_i i;rcases br.1 hx with rfl|hx
   .exact⟨b,i⟩
   .exact kq h x hx
  .cases h
def sh{α}{f:List ByteArray->α->Int}{j}:∀{l} {b} {i e},firstErr f j l b=some (i,e)->e≠0
 |[],_,_,_,h=>by cases h
 |y::r,b,i,e,h=>by
  unfold firstErr at h;split at h
  .exact sh h
  .rename_i q;cases h;exact q
def rD{s}(h:shopErr s=0):ShopOk s:=by
 unfold shopErr cN at h;split at h
 .rename_i y;split at h
  .rename_i j;split at h
   .cases h
   .rename_i l;simp only[eI,vB,zW]at y j;rw[Mx]at l;simp only[RD,sv]at l;unfold eG at h;split at h
    .rename_i i e u;exact absurd h (sh u)
    .rename_i u;split at h
     .rename_i i e q;exact absurd h (sh q)
     .rename_i q;refine⟨by omega,by omega,⟨j.1.1.1,l.1,j.1.2.2⟩,⟨j.2.1.1,l.2,j.2.2.2⟩,λw hw=>?_,λx hx=>?_⟩
      .obtain⟨b,v⟩:=kq u w hw;exact ME v
      .obtain⟨b,v⟩:=kq q x hx;exact OS v
  .cases h
 .cases h
def ef (s:Shop) (c:Candle):Int:=
 if aq c.wax 0 ((s.waxes.length:Int)-1)=true then(if(aq c.diameter 1 2000&&(aq c.draught 0 90&&cm c.cold 0 300))=true then(if aL c.cold=true then 2 else 0) else 7) else 4
def dN (s:Shop) (ks:List Int) (c:Candle):Int:=
 if shopErr s=0 then(if(ks.all λk=>aq k 0 ((s.wicks.length:Int)-1))=true then ef s c else 4) else shopErr s
structure CandleOk (c:Candle):Prop where
 d:1<=c.diameter/\c.diameter<=2000
 g:0<=c.draught/\c.draught<=90
 c:0<=c.cold.lo/\c.cold.lo<=c.cold.hi/\c.cold.hi<=300
def AJ{s}{c}(h:ef s c=0):CandleOk c/\0<=c.wax/\c.wax<s.waxes.length:=by
 unfold ef at h;split at h
 .rename_i j;split at h
  .rename_i e;split at h
   .cases h
   .rename_i i;simp only[eI,vB,zW]at j e;rw[Mx,sv]at i;exact⟨⟨e.1,e.2.1,e.2.2.1.1,i,e.2.2.2.2⟩,j.1,by omega⟩
  .cases h
 .cases h
def Y2{s}{e}{c}(h:dN s e c=0):shopErr s=0/\ef s c=0/\∀k,k∈e->0<=k/\k<s.wicks.length:=by
 unfold dN at h;split at h
 .rename_i l;split at h
  .rename_i j;refine⟨l,h,λk i=>?_⟩;have:=kl.1 j k i;rw[vB]at this;omega
  .cases h
 .rename_i q;exact absurd h q
def NX(s:Shop)(c:Candle):af TP 332 [s.pv,c.pv] (.int .i64 (dN s [] c)):=by
 refine ae (ag func332 rfl) rfl (zm ?_);refine aa (lN s) rfl ?_;simp only[ao,go_sem,simprocAttr];have u:(cN s).2.2=shopErr s:=rfl;rw[u];cases q:(shopErr s != 0)
 rotate_left
 .have e:¬shopErr s=0:=by simpa using q
  simp[dN,if_neg e,go_sem]
 have e:shopErr s=0:=by simpa using q
 have ok:=rD e;have hw:i64.wrap ((s.waxes.length:Int)-1)=(s.waxes.length:Int)-1:=ah (by omega) (by have:=ok.lx;omega);have v:dN s [] c=ef s c:=by simp[dN,e]
 rw[v];refine zn hw ?_;refine aa (BG _ _ _) rfl (zm ?_);cases i:aq c.wax 0 ((s.waxes.length:Int)-1)
 .simp[ef,i,go_sem]
 refine zm ?_;refine aa (BG _ _ _) rfl (zm ?_);cases j:aq c.diameter 1 2000
 .simp[ef,i,j,go_sem]
 refine zm ?_;refine aa (BG _ _ _) rfl (zm ?_);cases l:aq c.draught 0 90
 .simp[ef,i,j,l,go_sem]
 refine zm ?_;refine aa (oc _ _ _ _) rfl ?_;simp[nI,ef,i,j,l,go_sem]
def jZ (s:Shop) (c:Candle) (x:Wax):PV:=.ptr 19 [.agg (s.pv.cells++c.pv.cells++x.pv.cells)] 0 0
attribute [go_sem] jZ
def K9(l:List Int)(lo hi):(l.any λn=>!aq n lo hi)=!(l.all λn=>aq n lo hi):=by rw[<-List.not_all_eq_any_not]
def N1(s)(c)(e)(b)(xs)(z:xs=e.map ay)(L:e.length<1000000)(x)(hx:dN s e c=0->s.waxes[c.wax.toNat]?=some x) :
  af TP 315 [s.pv,c.pv,.slice 1 xs b] (.tuple [if dN s e c=0 then jZ s c x else .nilptr,.int .i64 (dN s e c)]):=by
 subst z;refine bX (ag func315 rfl) rfl ?_;simp only[go_sem,simprocAttr];refine aa (rY s) rfl ?_;simp only[ao,go_sem,simprocAttr];have I:(cN s).2.2=shopErr s:=rfl;rw[I];cases G:(shopErr s != 0)
 rotate_left
 .have i:¬shopErr s=0:=by simpa using G
  simp only[dN,if_neg i,go_sem,simprocAttr]
 have i:shopErr s=0:=by simpa using G
 have ok:=rD i;have C:i64.wrap ((s.wicks.length:Int)-1)=(s.wicks.length:Int)-1:=ah (by omega) (by have:=ok.lw;omega);have A:i64.wrap ((s.waxes.length:Int)-1)=(s.waxes.length:Int)-1:=ah (by omega) (by have:=ok.lx;omega);have J:dN s e c=if(e.all λk=>aq k 0 ((s.wicks.length:Int)-1))=true then ef s c else 4:=by simp only[dN,if_pos i]
 rw[J]at hx |-;simp only[C,go_sem,simprocAttr];refine aa (gk 0 ((s.wicks.length:Int)-1) e b (by omega)) rfl ?_;simp only[go_sem,simprocAttr];rw[K9];cases K:(e.all λk=>aq k 0 ((s.wicks.length:Int)-1))
 .simp only[go_sem,simprocAttr]
 rw[K,if_pos rfl]at hx;simp only[A,go_sem,simprocAttr];refine aa (gk 0 ((s.waxes.length:Int)-1) [_] true (by simp)) rfl ?_;simp only[bZ,cO,go_sem,simprocAttr];cases j:aq c.wax 0 ((s.waxes.length:Int)-1)
 .simp only[ef,j,go_sem,simprocAttr]
 simp only[go_sem,simprocAttr];refine aa (gk 1 2000 [_] true (by simp)) rfl ?_;simp only[bZ,cO,go_sem,simprocAttr];cases l:aq c.diameter 1 2000
 .simp only[ef,j,l,go_sem,simprocAttr]
 simp only[go_sem,simprocAttr];refine aa (gk 0 90 [_] true (by simp)) rfl ?_;simp only[bZ,cO,go_sem,simprocAttr];cases q:aq c.draught 0 90
 .simp only[ef,j,l,q,go_sem,simprocAttr]
 simp only[go_sem,simprocAttr];refine aa (gk 0 300 [_,_] true (by simp)) rfl ?_;simp only[bZ,cO,<-mT,go_sem,simprocAttr];cases v:(aq c.cold.lo 0 300&&aq c.cold.hi 0 300)
 .simp only[ef,j,l,q,cm,v,go_sem,simprocAttr]
 simp only[go_sem,simprocAttr];refine aa (z7 [c.cold] true (by simp)) rfl ?_;simp only[bZ,cO,go_sem,simprocAttr];cases F:decide (c.cold.hi<c.cold.lo);rotate_left
 .simp only[ef,j,l,q,cm,v,aL,F,go_sem,simprocAttr]
 have u:ef s c=0:=by simp only[ef,j,l,q,cm,v,aL,F];rfl
 have y:=hx u;obtain⟨_,E,D⟩:=AJ u;simp only[u,E,D,y,go_sem,simprocAttr]
structure Site (s:Shop) (c:Candle) (x:Wax):Prop where
 so:ShopOk s
 co:CandleOk c
 c0:0<=c.wax
 c1:c.wax<(s.waxes.length:Int)
 hx:s.waxes[c.wax.toNat]?=some x
 xo:WaxOk x
structure SiteK (s:Shop) (k:Int) (w:Wick):Prop where
 k0:0<=k
 k1:k<(s.wicks.length:Int)
 hw:s.wicks[k.toNat]?=some w
 wo:WickOk w
def Uv{α:Type}{l:List α}{k}(i:0<=k)(e:k<(l.length:Int)):∃w,l[k.toNat]?=some w:=⟨_,bL (by omega)⟩
def Hv{s}{e}{c}(h:dN s e c=0):∃x,Site s c x:=by
 obtain⟨j,i,_⟩:=Y2 h;obtain⟨co,c0,c1⟩:=AJ i;obtain⟨x,hx⟩:=Uv c0 c1;have so:=rD j;exact⟨x,so,co,c0,c1,hx,so.x x (aB hx)⟩
structure TOk (t:Truth):Prop where
 p:0<=t.pull/\t.pull<=1000
 f:0<=t.flow/\t.flow<=300
 r:0<=t.rise/\t.rise<=1000
 s:0<=t.spread/\t.spread<=2000
 d:-90<=t.draught/\t.draught<=90
 c:0<=t.cold/\t.cold<=300
def cD (t:Truth):Int:=t.pull*t.flow*(100+t.draught)
def ka (chill:Int) (t:Truth):Burn:=⟨cD t*100,cD t*t.rise,cD t*t.spread-t.cold*chill*100000⟩
def TOk.b{t}(h:TOk t):(0<=t.pull*t.flow/\t.pull*t.flow<=1000*300)/\(0<=cD t/\cD t<=1000*300*190)/\(0<=cD t*t.rise/\cD t*t.rise<=1000*300*190*1000) /\
  (0<=cD t*t.spread/\cD t*t.spread<=1000*300*190*2000):=by
 have i:=kI h.p.1 h.p.2 h.f.1 h.f.2;have e:=kI i.1 i.2 (b:=100+t.draught) (B:=190) (by have:=h.d;omega) (by have:=h.d;omega);exact⟨i,e,kI e.1 e.2 h.r.1 h.r.2,kI e.1 e.2 h.s.1 h.s.2⟩
def wF (a b c d:Int):Int:=i64.wrap (i64.wrap (i64.wrap (i64.wrap (1*a)*b)*c)*d)
def BF(a b c d):af TP 409 [.agg [.int .i64 a,.int .i64 b,.int .i64 c,.int .i64 d]] (.int .i64 (wF a b c d)):=by
 refine ae (ag func409 rfl) rfl (zm ?_);refine bw (zm ?_);refine bw (zm ?_);refine bw (zm ?_);refine bw (zm ?_);refine bw (zm ?_);rfl
def Ut(s)(c)(x)(t)(h:TOk t)(q:0<=x.chill/\x.chill<=50):af TP 399 [jZ s c x,t.pv] (ka x.chill t).pv:=by
 obtain⟨J,u,I,G⟩:=h.b;have l:i64.wrap (100+t.draught)=100+t.draught:=ah (by have:=h.d;omega) (by have:=h.d;omega);have j:i64.wrap (1*t.pull)=t.pull:=by rw[DE];exact ah (by have:=h.p;omega) (by have:=h.p;omega)
 have i:i64.wrap (t.pull*t.flow)=t.pull*t.flow:=ah;have e:i64.wrap (t.pull*t.flow*(100+t.draught))=cD t:=ah (by unfold cD at u;omega) (by unfold cD at u;omega);have E:wF t.pull t.flow (100+t.draught) 100=cD t*100:=by unfold wF;rw[j,i,e];exact ah
 have D:wF t.pull t.flow (100+t.draught) t.rise=cD t*t.rise:=by unfold wF;rw[j,i,e];exact ah
 have C:wF t.pull t.flow (100+t.draught) t.spread=cD t*t.spread:=by unfold wF;rw[j,i,e];exact ah
 have F:=kI h.c.1 h.c.2 q.1 q.2;have A:i64.wrap (t.cold*x.chill)=t.cold*x.chill:=ah;have z:i64.wrap (t.cold*x.chill*1000000)=t.cold*x.chill*1000000:=ah;have y:i64.wrap ((t.cold*x.chill*1000000).tdiv 10)=t.cold*x.chill*100000:=by
  have:(t.cold*x.chill*1000000).tdiv 10=t.cold*x.chill*100000:=by
   rw[show t.cold*x.chill*1000000=(t.cold*x.chill*100000)*10 by omega,Int.mul_tdiv_cancel _ (by decide)]
  rw[this];exact ah
 have v:i64.wrap (cD t*t.spread-t.cold*x.chill*100000)=cD t*t.spread-t.cold*x.chill*100000:=ah;refine ae (ag func399 rfl) rfl (zm ?_);refine bw (zn l ?_);refine aa (BF _ _ _ _) rfl (zn E ?_);refine bw (zn l ?_);refine aa (BF _ _ _ _) rfl (zn D ?_);refine bw (zn l ?_);refine aj (BF _ _ _ _) rfl (t_ C A z y v ?_);refine bw ?_;simp[ka,go_sem]
def Q3(s:Shop)(c:Candle)(x:Wax)(t:Truth)(e:Site s c x)(h:TOk t):af TP 368 [s.pv,c.pv,t.pv] (ka x.chill t).pv:=by
 obtain⟨I,j,G,F⟩:=h.b;have i:=e.xo.c;have u:i64.wrap (100+t.draught)=100+t.draught:=ah (by have:=h.d;omega) (by have:=h.d;omega);have q:i64.wrap (t.pull*t.flow)=t.pull*t.flow:=ah;have l:i64.wrap (t.pull*t.flow*(100+t.draught))=cD t:=ah (by unfold cD at j;omega) (by unfold cD at j;omega);have D:i64.wrap (cD t*100)=cD t*100:=ah;have C:i64.wrap (cD t*t.rise)=cD t*t.rise:=ah;have A:i64.wrap (cD t*t.spread)=cD t*t.spread:=ah;have E:=kI h.c.1 h.c.2 i.1 i.2;have z:i64.wrap (t.cold*x.chill)=t.cold*x.chill:=ah;have y:i64.wrap (t.cold*x.chill*100000)=t.cold*x.chill*100000:=ah;have v:i64.wrap (cD t*t.spread-t.cold*x.chill*100000)=cD t*t.spread-t.cold*x.chill*100000:=ah;have c0:=e.c0;have c1:=e.c1;have hx:=e.hx;refine ae (ag func368 rfl) rfl ?_;simp only[u,q,l,D,C,A,z,y,v,c0,c1,hx,ka,go_sem,simprocAttr]
def nF (w:Wick) (x:Wax) (c:Candle):Truth:=⟨w.pull.lo,x.flow.lo,x.rise.lo,x.spread.lo,-c.draught,c.cold.hi⟩
def pX (w:Wick) (x:Wax) (c:Candle):Truth:=⟨w.pull.hi,x.flow.hi,x.rise.hi,x.spread.hi,c.draught,c.cold.lo⟩
def LF{w}{x}{c}(hw:WickOk w)(hx:WaxOk x)(e:CandleOk c):TOk (nF w x c):=by
 have:=hw.p;have:=hx.f;have:=hx.r;have:=hx.s;have:=e.g;have:=e.c
 constructor<;>(simp only[nF];omega)
def PF{w}{x}{c}(hw:WickOk w)(hx:WaxOk x)(e:CandleOk c):TOk (pX w x c):=by
 have:=hw.p;have:=hx.f;have:=hx.r;have:=hx.s;have:=e.g;have:=e.c
 constructor<;>(simp only[pX];omega)
def V2(s)(c)(x)(k)(w)(i:Site s c x)(e:SiteK s k w):af TP 398 [jZ s c x,.int .i64 k] (.tuple [(nF w x c).pv,(pX w x c).pv]):=by
 have k0:=e.k0;have k1:=e.k1;have hw:=e.hw;have j:i64.wrap (-c.draught)=-c.draught:=ah (by have:=i.co.g;omega) (by have:=i.co.g;omega);refine ae (dv (by kernel_rfl) rfl ZI) rfl ?_;simp only[Zk,aD,k0,k1,hw,j,nF,pX,go_sem,simprocAttr]
def BD(s:Shop)(c:Candle)(x:Wax)(k:Int)(w:Wick)(e:Site s c x)(i:SiteK s k w):af TP 366 [s.pv,.int .i64 k,c.pv] (.tuple [(nF w x c).pv,(pX w x c).pv]):=by
 have k0:=i.k0;have k1:=i.k1;have hw:=i.hw;have c0:=e.c0;have c1:=e.c1;have hx:=e.hx;have j:i64.wrap (-c.draught)=-c.draught:=ah (by have:=e.co.g;omega) (by have:=e.co.g;omega);refine ae (dv (by kernel_rfl) rfl ZN) rfl ?_;simp only[Zo,aD,k0,k1,hw,c0,c1,hx,j,nF,pX,go_sem,simprocAttr]
def leastB (w:Wick) (x:Wax) (c:Candle):Burn:=ka x.chill (nF w x c)
def mostB (w:Wick) (x:Wax) (c:Candle):Burn:=ka x.chill (pX w x c)
def uB(s)(c)(x)(k)(w)(e:Site s c x)(j:SiteK s k w):af TP 391 [jZ s c x,.int .i64 k] (.tuple [(leastB w x c).pv,(mostB w x c).pv]):=by
 refine ae (ag func391 rfl) rfl (zm ?_);refine aa (V2 s c x k w e j) rfl (zm ?_);refine aa (Ut s c x (nF w x c) (LF j.wo e.xo e.co) e.xo.c) rfl (zm ?_);refine aT (λi=>?_) (λi=>?_)
 .have l:nF w x c=pX w x c:=by
   simp only[eI,beq_iff_eq]at i;simp only[nF,pX]at i |-;simp[i]
  simp[leastB,mostB,l,go_sem]
 .refine zm ?_;refine aj (Ut s c x (pX w x c) (PF j.wo e.xo e.co) e.xo.c) rfl ?_;simp[leastB,mostB,go_sem]
def jz:Burn:=⟨0,0,0⟩
attribute [go_sem] jz
structure BOk (b:Burn):Prop where
 f:0<=b.flame/\b.flame<=100000000000
 p:-2000000000<=b.pool/\b.pool<=200000000000
def Q8{t}{chill}(h:TOk t)(e:0<=chill/\chill<=50):BOk (ka chill t):=by
 obtain⟨u,q,l,j⟩:=h.b;have i:=kI h.c.1 h.c.2 e.1 e.2;constructor<;>(simp only[ka];omega)
def e7 (s:Shop) (b:Burn):Bool:=decide (s.flame.hi*1000000<b.flame)
def dX (s:Shop) (b:Burn):Bool:=decide (b.flame<s.flame.lo*1000000)
def dS (s:Shop) (d:Int) (b:Burn):Bool:=decide (b.pool<s.pool.lo*d*1000)
def dm (s:Shop) (d:Int) (b:Burn):Bool:=decide (s.pool.hi*d*1000<b.pool)
def dE (b:Bool) (n:Int):List Int:=if b=true then [n] else []
def nT (s:Shop) (d:Int) (b:Burn):List Int:=dE (e7 s b) 1++(dE (dX s b) 2++(dE (dS s d b) 3++dE (dm s d b) 4))
def ma (s:Shop) (d:Int) (l m:Burn):List Int:=dE (e7 s m) 1++(dE (dX s l) 2++(dE (dS s d l) 3++dE (dm s d m) 4))
def lz (l:List Int):PV:=.slice 1 (l.map ay) false
def DY{s}(so:ShopOk s){d}(e:1<=d/\d<=2000):(0<=s.pool.lo*d/\s.pool.lo*d<=2000*2000)/\(0<=s.pool.hi*d/\s.pool.hi*d<=2000*2000):=
 ⟨kI (by have:=so.po;omega) (by have:=so.po;omega) (by omega) e.2,kI (by have:=so.po;omega) (by have:=so.po;omega) (by omega) e.2⟩
def Up(s)(c)(x)(n)(j:0<=n*c.diameter/\n*c.diameter<=2000*2000):af TP 386 [.int .i64 n,.ptr 1 [jZ s c x] 0 0] (.int .i64 (n*c.diameter*1000)):=by
 have i:i64.wrap (n*c.diameter)=n*c.diameter:=ah;have e:i64.wrap (n*c.diameter*1000)=n*c.diameter*1000:=ah;refine ae (ag func386 rfl) rfl ?_;simp[i,e,go_sem]
def V9(s)(c)(x)(so:ShopOk s)(l m:Burn):af TP 387 [l.pv,m.pv,.ptr 1 [jZ s c x] 0 0] (.bool (e7 s m)):=by
 have e:i64.wrap (s.flame.hi*1000000)=s.flame.hi*1000000:=ah (by have:=so.fl;omega) (by have:=so.fl;omega);refine ae (ag func387 rfl) rfl ?_;simp[e,e7,go_sem]
def Th(s)(c)(x)(so:ShopOk s)(l m:Burn):af TP 388 [l.pv,m.pv,.ptr 1 [jZ s c x] 0 0] (.bool (dX s l)):=by
 have e:i64.wrap (s.flame.lo*1000000)=s.flame.lo*1000000:=ah (by have:=so.fl;omega) (by have:=so.fl;omega);refine ae (ag func388 rfl) rfl ?_;simp[e,dX,go_sem]
def HT (s:Shop) (c:Candle) (x:Wax):PV:=.ptr 1 [.func (.func 386) [] [.ptr 1 [jZ s c x] 0 0]] 0 0
attribute [go_sem] HT
def S1(s)(c)(x)(so:ShopOk s)(co:CandleOk c)(l m:Burn):af TP 389 [l.pv,m.pv,HT s c x,.ptr 1 [jZ s c x] 0 0] (.bool (dS s c.diameter l)):=by
 refine ae (ag func389 rfl) rfl (zm ?_);refine aj (Up s c x s.pool.lo (DY so co.d).1) rfl ?_;simp[dS,go_sem]
def zaA(s)(c)(x)(so:ShopOk s)(co:CandleOk c)(l m:Burn):af TP 390 [l.pv,m.pv,HT s c x,.ptr 1 [jZ s c x] 0 0] (.bool (dm s c.diameter m)):=by
 refine ae (ag func390 rfl) rfl (zm ?_);refine aj (Up s c x s.pool.hi (DY so co.d).2) rfl ?_;simp[dm,go_sem]
def db (a b c d:Bool):Nat->List Int
 |0=>[]
 |1=>dE a 1
 |2=>dE a 1++dE b 2
 |3=>dE a 1++dE b 2++dE c 3
 |_=>dE a 1++dE b 2++dE c 3++dE d 4
def ux(b)(n):(dE b n).length<=1:=by cases b<;>simp[dE]
def HZ(a b c d)(i):(db a b c d i).length<=4:=by
 have q:=ux a 1;have l:=ux b 2;have j:=ux c 3;have e:=ux d 4
 match i with
 |0=>simp[db]
 |1=>simp[db];omega
 |2=>simp[db];omega
 |3=>simp[db];omega
 |_+4=>simp[db];omega
def H1(s)(d)(l m):db (e7 s m) (dX s l) (dS s d l) (dm s d m) 4=ma s d l m:=by simp[db,ma]
def Q0(s)(c)(x)(k)(w)(u:Site s c x)(A:SiteK s k w):af TP 355 [jZ s c x,.int .i64 k] (lz (ma s c.diameter (leastB w x c) (mostB w x c))):=by
 refine bF (ag func355 rfl) rfl (zm ?_);refine aa (uB s c x k w u A) rfl (zm ?_);refine bt 4 1 (by simp only[go_sem,simprocAttr]) (zm ?_);generalize v:db (e7 s (mostB w x c)) (dX s (leastB w x c)) (dS s c.diameter (leastB w x c)) (dm s c.diameter (mostB w x c))=o;have j:∀i,(o i).length+1<=ai:=λi=>by
  have:=HZ (e7 s (mostB w x c)) (dX s (leastB w x c)) (dS s c.diameter (leastB w x c)) (dm s c.diameter (mostB w x c)) i;rw[v]at this;simp only[ai];omega
 refine EN [7,8,27,28] (σ:=Nat) (λi=>i<=4) (λi=>4-i) (λi=>[(4,.slice 5 (o i).length 0 (o i).length),(29,.p (.int .i64 i))]) (λi h=>h.set 5 (.row 1 ((o i).map λn=>.p (.int .i64 n)))) 0 (by omega) ?_ ?_
 .have D:o 0=[]:=by rw[<-v];rfl
  simp[D,go_sem]
 intro i hi;have z:i=0\/i=1\/i=2\/i=3\/i=4:=by omega
 rcases z with rfl|rfl|rfl|rfl|rfl
 .have y:=j 0;have q:o 1=o 0++dE (e7 s (mostB w x c)) 1:=by rw[<-v];simp[db]
  refine zm ?_;refine bq (V9 s c x u.so (leastB w x c) (mostB w x c)) ?_ (.bool _) ?_
  .simp[go_sem]
  simp only[go_sem,simprocAttr];cases l:e7 s (mostB w x c)
  .have e:o 1=o 0:=by rw[q,l];simp[dE]
   simp only[go_sem,simprocAttr];refine aF 1 (by omega) (by omega) ?_;simp only[e,go_sem,simprocAttr]
  .have e:o 1=o 0++[1]:=by rw[q,l];rfl
   simp only[y,go_sem,simprocAttr];refine aF 1 (by omega) (by omega) ?_;simp only[e,ak,aS,go_sem,simprocAttr]
 .have y:=j 1;have q:o 2=o 1++dE (dX s (leastB w x c)) 2:=by rw[<-v];simp[db]
  refine zm ?_;refine bq (Th s c x u.so (leastB w x c) (mostB w x c)) ?_ (.bool _) ?_
  .simp[go_sem]
  simp only[go_sem,simprocAttr];cases l:dX s (leastB w x c)
  .have e:o 2=o 1:=by rw[q,l];simp[dE]
   simp only[go_sem,simprocAttr];refine aF 2 (by omega) (by omega) ?_;simp only[e,go_sem,simprocAttr]
  .have e:o 2=o 1++[2]:=by rw[q,l];rfl
   simp only[y,go_sem,simprocAttr];refine aF 2 (by omega) (by omega) ?_;simp only[e,ak,aS,go_sem,simprocAttr]
 .have y:=j 2;have q:o 3=o 2++dE (dS s c.diameter (leastB w x c)) 3:=by rw[<-v];simp[db]
  refine zm ?_;refine bq (S1 s c x u.so u.co (leastB w x c) (mostB w x c)) ?_ (.bool _) ?_
  .simp[go_sem]
  simp only[go_sem,simprocAttr];cases l:dS s c.diameter (leastB w x c)
  .have e:o 3=o 2:=by rw[q,l];simp[dE]
   simp only[go_sem,simprocAttr];refine aF 3 (by omega) (by omega) ?_;simp only[e,go_sem,simprocAttr]
  .have e:o 3=o 2++[3]:=by rw[q,l];rfl
   simp only[y,go_sem,simprocAttr];refine aF 3 (by omega) (by omega) ?_;simp only[e,ak,aS,go_sem,simprocAttr]
 .have y:=j 3;have q:o 4=o 3++dE (dm s c.diameter (mostB w x c)) 4:=by rw[<-v];simp[db]
  refine zm ?_;refine bq (zaA s c x u.so u.co (leastB w x c) (mostB w x c)) ?_ (.bool _) ?_
  .simp[go_sem]
  simp only[go_sem,simprocAttr];cases l:dm s c.diameter (mostB w x c)
  .have e:o 4=o 3:=by rw[q,l];simp[dE]
   simp only[go_sem,simprocAttr];refine aF 4 (by omega) (by omega) ?_;simp only[e,go_sem,simprocAttr]
  .have e:o 4=o 3++[4]:=by rw[q,l];rfl
   simp only[y,go_sem,simprocAttr];refine aF 4 (by omega) (by omega) ?_;simp only[e,ak,aS,go_sem,simprocAttr]
 .have C:o 4=ma s c.diameter (leastB w x c) (mostB w x c):=by rw[<-v];exact H1 _ _ _ _
  simp only[C,lz,go_sem,simprocAttr];exact w_
def zi(l:List Int)(n:Int)(b:Bool)(y:l.length<1000000):af TP 369 [.slice 1 (l.map ay) b,.int .i64 n] (.bool (l.any λm=>m==n)):=by
 refine ae (ag func369 rfl) rfl (zm ?_);refine mR [0,1] (σ:=List Int×List Int) (λq=>l=q.1++q.2/\(l.any λm=>m==n)=(q.2.any λm=>m==n)) (λq=>q.2.length) (λq=>[(5,.p (.int .i64 q.1.length))]) ([],l) ⟨rfl,rfl⟩ ?_ ?_
 .simp[go_sem]
 rintro⟨d_,rest⟩ ⟨j,i⟩
 dsimp only at j i
 cases rest with
 |nil=>
  have e:¬((d_.length:Int)<(l.length:Int)):=by rw[j];simp
  refine zn e ?_
  rw[i];rfl
 |cons x r=>
  obtain⟨hx,e⟩:=ca j;have u:i64.wrap ((d_.length:Int)+1)=(((d_++[x]).length:Nat):Int):=aO (by omega) (by simp[ai];omega) (by simp);refine zo e hx ?_;rw[bZ]at i;cases v:(x==n)
  .refine zm ?_;refine aF (d_++[x],r) ⟨by simp[j],by rw[i,v];rfl⟩ (by simp) ?_;simp[u,go_sem]
  .refine zm ?_;rw[i,v];rfl
def QE(s:Shop)(c:Candle)(b:Burn)(so:ShopOk s)(co:CandleOk c)(q:BOk b):af TP 367 [s.pv,c.pv,b.pv] (lz (nT s c.diameter b)):=by
 have O:=DY so co.d;have R:=so.fl;have S:=q.p;have T:=q.f;have C:i64.wrap (s.flame.hi*1000000)=s.flame.hi*1000000:=ah;have A:i64.wrap (s.flame.lo*1000000)=s.flame.lo*1000000:=ah;have j:i64.wrap (1000*b.pool)=1000*b.pool:=ah;have z:i64.wrap (s.pool.lo*c.diameter)=s.pool.lo*c.diameter:=ah;have y:i64.wrap (s.pool.hi*c.diameter)=s.pool.hi*c.diameter:=ah;have v:i64.wrap (s.pool.lo*c.diameter*1000000)=s.pool.lo*c.diameter*1000000:=ah;have u:i64.wrap (s.pool.hi*c.diameter*1000000)=s.pool.hi*c.diameter*1000000:=ah;have G:decide (1000*b.pool<s.pool.lo*c.diameter*1000000)=dS s c.diameter b:=by unfold dS;congr 1;apply propext;constructor<;>intro h<;>omega
 have F:decide (s.pool.hi*c.diameter*1000000<1000*b.pool)=dm s c.diameter b:=by unfold dm;congr 1;apply propext;constructor<;>intro h<;>omega
 have E:decide (s.flame.hi*1000000<b.flame)=e7 s b:=rfl;have D:decide (b.flame<s.flame.lo*1000000)=dX s b:=rfl;have J:(1:Nat)<=ai/\(2:Nat)<=ai/\(3:Nat)<=ai/\(4:Nat)<=ai:=by simp[ai]
 obtain⟨e,i,l,I⟩:=J;refine bF (ag func367 rfl) rfl (zo C E ?_)
 cases N:e7 s b<;>refine zp A D e ?_<;>cases M:dX s b<;>simp only[j,z,v,G,e,i,go_sem,simprocAttr]<;>cases L:dS s c.diameter b<;>simp only[j,y,u,F,e,i,l,go_sem,simprocAttr]<;>cases K:dm s c.diameter b <;>
  simp[lz,nT,dE,N,M,L,K,e,i,l,I,fD,bI,jb,ga,bf,bx,go_sem]
 all_goals first|rfl|exact⟨1,rfl⟩|exact .inl ⟨1,rfl⟩|exact .inl (.inl rfl)|exact .inl (.inr ⟨rfl,1,rfl⟩)
def NE{a b}(u:0<=a.pull)(q:a.pull<=b.pull)(e:0<=a.flow)(l:a.flow<=b.flow)(y:-100<=a.draught)(v:a.draught<=b.draught):0<=cD a/\cD a<=cD b:=by
 have j:0<=a.pull*a.flow:=pF u e;have i:a.pull*a.flow<=b.pull*b.flow:=pG q l e (by omega);exact⟨pF j (by omega),pG i (by omega) (by omega) (by omega)⟩
def Q5{a b}{chill}(j:0<=chill)(E:0<=a.pull)(D:a.pull<=b.pull)(C:0<=a.flow)(A:a.flow<=b.flow)(z:-100<=a.draught)(y:a.draught<=b.draught)(v:0<=a.rise)(u:a.rise<=b.rise)
  (q:0<=a.spread) (l:a.spread<=b.spread) (e:b.cold<=a.cold):(ka chill a).rate<=(ka chill b).rate/\(ka chill a).flame<=(ka chill b).flame/\(ka chill a).pool<=(ka chill b).pool:=by
 obtain⟨J,i⟩:=NE E D C A z y;have I:cD a*a.rise<=cD b*b.rise:=pG i u v (by omega);have G:cD a*a.spread<=cD b*b.spread:=pG i l q (by omega);have F:b.cold*chill<=a.cold*chill:=xQ e j;simp only[ka];omega
def Qq{w}{x}{c}(hw:WickOk w)(hx:WaxOk x)(e:CandleOk c):(leastB w x c).rate<=(mostB w x c).rate/\(leastB w x c).flame<=(mostB w x c).flame/\(leastB w x c).pool<=(mostB w x c).pool:=by
 have:=hw.p;have:=hx.f;have:=hx.r;have:=hx.s;have:=hx.c;have:=e.g;have:=e.c
 refine Q5 ?_ ?_ ?_ ?_ ?_ ?_ ?_ ?_ ?_ ?_ ?_ ?_<;>first|omega|(simp only[nF,pX];omega)
def FC(s)(d)(b):((nT s d b).any λm=>m==1)=e7 s b/\((nT s d b).any λm=>m==2)=dX s b/\((nT s d b).any λm=>m==3)=dS s d b/\((nT s d b).any λm=>m==4)=dm s d b:=by
 unfold nT dE;cases e7 s b<;>cases dX s b<;>cases dS s d b<;>cases dm s d b<;>decide
def ET(s)(d)(b):(nT s d b).length<1000000:=by
 unfold nT dE;cases e7 s b<;>cases dX s b<;>cases dS s d b<;>cases dm s d b<;>decide
def Wp(s:Shop)(c:Candle)(x:Wax)(k:Int)(w:Wick)(u:Site s c x)(I:SiteK s k w):af TP 333 [s.pv,.int .i64 k,c.pv] (lz (ma s c.diameter (leastB w x c) (mostB w x c))):=by
 have E:=LF I.wo u.xo u.co;have D:=PF I.wo u.xo u.co;have em:=Qq I.wo u.xo u.co;have M:(e7 s (leastB w x c)||e7 s (mostB w x c))=e7 s (mostB w x c):=by
  unfold e7;rw[km];simp;omega
 have L:(dX s (leastB w x c)||dX s (mostB w x c))=dX s (leastB w x c):=by
  unfold dX;rw[km];simp;omega
 have K:(dS s c.diameter (leastB w x c)||dS s c.diameter (mostB w x c))=dS s c.diameter (leastB w x c):=by
  unfold dS;rw[km];simp;omega
 have J:(dm s c.diameter (leastB w x c)||dm s c.diameter (mostB w x c))=dm s c.diameter (mostB w x c):=by
  unfold dm;rw[km];simp;omega
 obtain⟨X,V,U,T⟩:=FC s c.diameter (leastB w x c);obtain⟨S,R,O,N⟩:=FC s c.diameter (mostB w x c);have G:=ET s c.diameter (leastB w x c);have F:=ET s c.diameter (mostB w x c);refine bF (ag func333 rfl) rfl (zm ?_);refine aa (BD s c x k w u I) rfl (zm ?_);refine aj (Q3 s c x _ u E) rfl (zm ?_);refine aj (QE s c (leastB w x c) u.so u.co (Q8 E u.xo.c)) rfl (zm ?_);refine aj (Q3 s c x _ u D) rfl (zm ?_);refine aj (QE s c (mostB w x c) u.so u.co (Q8 D u.xo.c)) rfl ?_;simp only[lz,go_sem,simprocAttr];refine bt 11 1 (by simp only[go_sem,simprocAttr]) (zm ?_);generalize A:db (e7 s (mostB w x c)) (dX s (leastB w x c)) (dS s c.diameter (leastB w x c)) (dm s c.diameter (mostB w x c))=o;have v:∀i,(o i).length+1<=ai:=λi=>by
  have:=HZ (e7 s (mostB w x c)) (dX s (leastB w x c)) (dS s c.diameter (leastB w x c)) (dm s c.diameter (mostB w x c)) i;rw[A]at this;simp only[ai];omega
 refine EN [9,10] (σ:=Nat) (λi=>i<=4) (λi=>4-i) (λi=>[(11,.slice 4 (o i).length 0 (o i).length),(12,.p (.int .i64 ((i+1:Nat):Int)))]) (λi h=>h.set 4 (.row 1 ((o i).map λn=>.p (.int .i64 n)))) 0 (by omega) ?_ ?_
 .have Z:o 0=[]:=by rw[<-A];rfl
  simp[Z,go_sem]
 intro i hi;have C:i=0\/i=1\/i=2\/i=3\/i=4:=by omega
 rcases C with rfl|rfl|rfl|rfl|rfl
 .have y:=v 0;have z:o 1=o 0++dE (e7 s (mostB w x c)) 1:=by rw[<-A];simp[db]
  refine zm ?_;refine aa (zi _ 1 false G) rfl (zn X ?_);have q:e7 s (mostB w x c)=false->o 1=o 0:=λj=>by rw[z,j];simp[dE]
  have e:e7 s (mostB w x c)=true->o 1=o 0++[1]:=λj=>by rw[z,j];rfl
  cases j:e7 s (leastB w x c)
  .refine zm ?_;refine aa (zi _ 1 false F) rfl (zn S ?_);cases l:e7 s (mostB w x c)
   .refine zm ?_;refine aF 1 (by omega) (by omega) ?_;simp only[q (by rw[<-M,j,l];rfl),go_sem,simprocAttr]
   .refine zn y ?_;refine aF 1 (by omega) (by omega) ?_;simp only[e (by rw[<-M,j,l];rfl),ak,aS,go_sem,simprocAttr]
  .refine zn y ?_;refine aF 1 (by omega) (by omega) ?_;simp only[e (by rw[<-M,j];rfl),ak,aS,go_sem,simprocAttr]
 .have y:=v 1;have z:o 2=o 1++dE (dX s (leastB w x c)) 2:=by rw[<-A];simp[db]
  refine zm ?_;refine aa (zi _ 2 false G) rfl (zn V ?_);have q:dX s (leastB w x c)=false->o 2=o 1:=λj=>by rw[z,j];simp[dE]
  have e:dX s (leastB w x c)=true->o 2=o 1++[2]:=λj=>by rw[z,j];rfl
  cases j:dX s (leastB w x c)
  .refine zm ?_;refine aa (zi _ 2 false F) rfl (zn R ?_);cases l:dX s (mostB w x c)
   .refine zm ?_;refine aF 2 (by omega) (by omega) ?_;simp only[q (by rw[<-L,j,l];rfl),go_sem,simprocAttr]
   .refine zn y ?_;refine aF 2 (by omega) (by omega) ?_;simp only[e (by rw[<-L,j,l];rfl),ak,aS,go_sem,simprocAttr]
  .refine zn y ?_;refine aF 2 (by omega) (by omega) ?_;simp only[e (by rw[<-L,j];rfl),ak,aS,go_sem,simprocAttr]
 .have y:=v 2;have z:o 3=o 2++dE (dS s c.diameter (leastB w x c)) 3:=by rw[<-A];simp[db]
  refine zm ?_;refine aa (zi _ 3 false G) rfl (zn U ?_);have q:dS s c.diameter (leastB w x c)=false->o 3=o 2:=λj=>by rw[z,j];simp[dE]
  have e:dS s c.diameter (leastB w x c)=true->o 3=o 2++[3]:=λj=>by rw[z,j];rfl
  cases j:dS s c.diameter (leastB w x c)
  .refine zm ?_;refine aa (zi _ 3 false F) rfl (zn O ?_);cases l:dS s c.diameter (mostB w x c)
   .refine zm ?_;refine aF 3 (by omega) (by omega) ?_;simp only[q (by rw[<-K,j,l];rfl),go_sem,simprocAttr]
   .refine zn y ?_;refine aF 3 (by omega) (by omega) ?_;simp only[e (by rw[<-K,j,l];rfl),ak,aS,go_sem,simprocAttr]
  .refine zn y ?_;refine aF 3 (by omega) (by omega) ?_;simp only[e (by rw[<-K,j];rfl),ak,aS,go_sem,simprocAttr]
 .have y:=v 3;have z:o 4=o 3++dE (dm s c.diameter (mostB w x c)) 4:=by rw[<-A];simp[db]
  refine zm ?_;refine aa (zi _ 4 false G) rfl (zn T ?_);have q:dm s c.diameter (mostB w x c)=false->o 4=o 3:=λj=>by rw[z,j];simp[dE]
  have e:dm s c.diameter (mostB w x c)=true->o 4=o 3++[4]:=λj=>by rw[z,j];rfl
  cases j:dm s c.diameter (leastB w x c)
  .refine zm ?_;refine aa (zi _ 4 false F) rfl (zn N ?_);cases l:dm s c.diameter (mostB w x c)
   .refine zm ?_;refine aF 4 (by omega) (by omega) ?_;simp only[q (by rw[<-J,j,l];rfl),go_sem,simprocAttr]
   .refine zn y ?_;refine aF 4 (by omega) (by omega) ?_;simp only[e (by rw[<-J,j,l];rfl),ak,aS,go_sem,simprocAttr]
  .refine zn y ?_;refine aF 4 (by omega) (by omega) ?_;simp only[e (by rw[<-J,j];rfl),ak,aS,go_sem,simprocAttr]
 .have Y:o 4=ma s c.diameter (leastB w x c) (mostB w x c):=by rw[<-A];exact H1 _ _ _ _
  simp only[Y,lz,go_sem,simprocAttr];exact w_
end Wk
open Go.IntKind (i64)
namespace Wk
set_option maxRecDepth 4000
def H5 (s:Shop) (c:Candle) (x:Wax) (w:Wick):Bool:=(ma s c.diameter (leastB w x c) (mostB w x c)).length==0
def et (s:Shop) (c:Candle) (x:Wax):List Wick->Nat->List Int
 |[],_=>[]
 |w::r,i=>if H5 s c x w=true then(i:Int)::et s c x r (i+1) else et s c x r (i+1)
def Lp{s}{c}{x}(i:Site s c x){d_ r}{w}(e:s.wicks=d_++w::r):SiteK s (d_.length:Int) w:=
 ⟨by omega,by rw[e];simp<;>omega,by rw[e];simp,i.so.w w (by rw[e];simp)⟩
def B9 (s:Shop) (c:Candle) (x:Wax):PV:=.func (.func 354) [] [.ptr 1 [jZ s c x] 0 0]
def Sz(s)(c)(x)(C:Site s c x):Zi TP (B9 s c x) ((et s c x s.wicks 0).map ay):=by
 refine⟨_,_,_,rfl,λid Inv L K F G hi=>?_⟩;have lw:=C.so.lw;refine au (ag func354 rfl) rfl (zm ?_)
 refine dY [0,1,9] (σ:=List Wick×List Wick×List Int×Heap) (λq=>s.wicks=q.1++q.2.1/\et s c x s.wicks 0=q.2.2.1++et s c x q.2.1 q.1.length/\Inv q.2.2.1.length q.2.2.2) (λq=>q.2.1.length)
  (λq=>[(10,.p (.int .i64 q.1.length))]) (λq=>q.2.2.2) ([],s.wicks,[],K) ⟨rfl,rfl,hi⟩ rfl ?_ ?_
 .simp[go_sem]
 rintro⟨d_,rest,i,h⟩ ⟨u,j,A⟩
 dsimp only at u j A
 cases rest with
 |nil=>
  have l:¬((d_.length:Int)<(s.wicks.length:Int)):=by rw[u];simp
  refine zn l ?_;refine .inl ?_;rw[j,et,bI]
  exact A
 |cons w r=>
  obtain⟨hx,l⟩:=ca u;have y:i64.wrap ((d_.length:Int)+1)=(((d_++[w]).length:Nat):Int):=aO (by omega) (by simp[ai];omega) (by simp);have I:=Lp C u;rw[et]at j;refine zn l ?_;refine aa (Q0 s c x _ w C I) rfl ?_;simp only[lz,go_sem,simprocAttr];have hok:((((ma s c.diameter (leastB w x c) (mostB w x c)).length:Nat):Int)==0)=H5 s c x w:=by
   unfold H5;rw[km];simp
  rw[hok];cases E:H5 s c x w
  .refine zm ?_;refine aZ (d_++[w],r,i,h) ⟨by simp[u],by rw[j,E];simp,A⟩ (by simp) rfl ?_;simp[y,go_sem]
  .rw[E,if_pos rfl]at j;have z:((et s c x s.wicks 0).map ay)[i.length]?=some (.int .i64 d_.length):=by rw[j];simp[ay]
   refine zm ?_;refine r9 (G i.length _ h z A) (λv h' e=>?_) (λv h' e=>?_);rotate_left
   .rcases e with⟨e,_⟩|⟨e,_⟩<;>cases e
   rcases e with⟨e,D⟩|⟨e,J,_⟩
   .cases e;refine zm ?_;refine aZ (d_++[w],r,i++[(d_.length:Int)],h') ⟨by simp[u],by rw[j];simp,by simpa using D⟩ (by simp) rfl ?_;simp[y,go_sem]
   .cases e;refine zm ?_;exact .inr J
def S3(s)(c)(x):af TP 316 [jZ s c x] (B9 s c x):=by
 refine bX (ag func316 rfl) rfl ?_;simp[B9,go_sem]
def xY{α:Type}{l:List α}{k}{x}(h:l[k]?=some x):l.take (k+1)=l.take k++[x]:=by
 rw[wb,h];rfl
def EZ(s)(c)(x):∀(l) (i),(et s c x l i).length<=l.length
 |[],_=>ba _
 |w::r,i=>by
  have:=EZ s c x r (i+1);unfold et;split<;>simp<;>omega
def pb (s:Shop) (c:Candle) (x:Wax):List Int×Int:=if dN s [] c=0 then(et s c x s.wicks 0,0) else([],dN s [] c)
def QK(s:Shop)(c:Candle)(x:Wax)(h:dN s [] c=0->Site s c x):af TP 270 [s.pv,c.pv] (.tuple [lz (pb s c x).1,.int .i64 (pb s c x).2]):=by
 refine bF (ag func270 rfl) rfl (zm ?_);refine aa (NX s c) rfl (zm ?_);cases C:(dN s [] c != 0)
 rotate_left
 .have e:¬dN s [] c=0:=by simpa using C
  simp only[pb,if_neg e,lz,go_sem,simprocAttr];exact w_
 have e:dN s [] c=0:=by simpa using C
 have y:=h e;have lw:=y.so.lw;refine zm ?_;refine bt 7 1 (by simp only[go_sem,simprocAttr]) (zm ?_)
 refine EN [2,3] (σ:=List Wick×List Wick×List Int) (λq=>s.wicks=q.1++q.2.1/\et s c x s.wicks 0=q.2.2++et s c x q.2.1 q.1.length/\q.2.2.length<=q.1.length) (λq=>q.2.1.length)
  (λq=>[(7,.slice 2 q.2.2.length 0 q.2.2.length),(8,.p (.int .i64 q.1.length))]) (λq h=>h.set 2 (.row 1 (q.2.2.map λn=>.p (.int .i64 n)))) ([],s.wicks,[]) ⟨rfl,rfl,ba _⟩ ?_ ?_
 .simp[go_sem]
 rintro⟨d_,rest,j⟩ ⟨u,i,E⟩
 dsimp only at u i E
 cases rest with
 |nil=>
  have l:¬((d_.length:Int)<(s.wicks.length:Int)):=by rw[u];simp
  rw[et,bI]at i;simp only[l,pb,if_pos e,lz,i,go_sem,simprocAttr]
  exact w_
 |cons w r=>
  obtain⟨hx,l⟩:=ca u;have v:i64.wrap ((d_.length:Int)+1)=(((d_++[w]).length:Nat):Int):=aO (by omega) (by simp[ai];omega) (by simp);have D:=Lp y u;have z:j.length+1<=ai:=by simp[ai];omega
  rw[et]at i;simp only[l,go_sem,simprocAttr];refine aa (Wp s c x _ w y D) rfl ?_;simp only[lz,go_sem,simprocAttr];have hok:((((ma s c.diameter (leastB w x c) (mostB w x c)).length:Nat):Int)==0)=H5 s c x w:=by
   unfold H5;rw[km];simp
  rw[hok];cases A:H5 s c x w
  .simp only[go_sem,simprocAttr];refine aF (d_++[w],r,j) ⟨by simp[u],by rw[i,A];simp,by simp;omega⟩ (by simp) ?_;simp only[v,go_sem,simprocAttr]
  .rw[A,if_pos rfl]at i;simp only[z,go_sem,simprocAttr];refine aF (d_++[w],r,j++[(d_.length:Int)]) ⟨by simp[u],by rw[i];simp,by simp;omega⟩ (by simp) ?_;simp only[v,ak,aS,go_sem,simprocAttr]
def thr (s:Shop) (n:Int):Int:=match s.wicks[n.toNat]? with|some w=>w.threads|none=>0
def eg (s:Shop):List Int->Int->Int
 |[],b=>b
 |n::r,b=>eg s r (if(decide (b<0)||decide (thr s n<thr s b))=true then n else b)
def rd (s:Shop) (n:Int):Prop:=0<=n/\n<(s.wicks.length:Int)
def ot(s)(c)(x):∀(l) (i),i+l.length=s.wicks.length->∀n,n∈et s c x l i->rd s n
 |[],_,_,n,e=>by cases e
 |w::r,i,hi,n,e=>by
  unfold et at e;simp only[bc]at hi;split at e
  .rcases br.1 e with rfl|e
   .exact⟨by omega,by omega⟩
   .exact ot s c x r (i+1) (by omega) n e
  .exact ot s c x r (i+1) (by omega) n e
def wm{s}{n}(h:rd s n):∃w,s.wicks[n.toNat]?=some w/\thr s n=w.threads:=by
 obtain⟨w,hw⟩:=Uv h.1 h.2;exact⟨w,hw,by simp[thr,hw]⟩
def xt(s):∀(l) (b),(∀n,n∈l->rd s n)->(b=-1\/rd s b)->eg s l b=-1\/rd s (eg s l b)
 |[],b,_,e=>e
 |n::r,b,i,e=>by
  unfold eg;refine xt s r _ (λm j=>i m (by simp[j])) ?_;split
  .exact .inr (i n (by simp))
  .exact e
def AP(s):∀(l) (n b),eg s (l++[n]) b=if(decide (eg s l b<0)||decide (thr s n<thr s (eg s l b)))=true then n else eg s l b
 |[],n,b=>rfl
 |m::r,n,b=>by
  rw[ga,eg,AP s r n,eg]
def AO(s):∀(l) (b),(∀n,n∈l->rd s n)->(l≠[]\/0<=b)->0<=eg s l b
 |[],b,_,j=>by rcases j with h|h;exact absurd rfl h;exact h
 |n::r,b,e,_=>by
  unfold eg;refine AO s r _ (λm i=>e m (by simp[i])) (.inr ?_);split
  .exact(e n (by simp)).1
  .rename_i h;simp at h;exact h.1
def de (s:Shop) (c:Candle) (x:Wax):Int×Int:=
 if dN s [] c=0 then(if eg s (et s c x s.wicks 0) (-1)<0 then(0,9) else(eg s (et s c x s.wicks 0) (-1),0)) else(0,dN s [] c)
def GC(s)(c)(x)(h:dN s [] c=0->Site s c x):af TP 252 [s.pv,c.pv] (.tuple [.int .i64 (de s c x).1,.int .i64 (de s c x).2]):=by
 refine ae (ag func252 rfl) rfl (zm ?_);refine aa ((N1 s c [] false _ rfl (by simp) x (λD=>(h D).hx)).argless (args':=[s.pv,c.pv,.nilslice]) ⟨.inl rfl,.inl rfl,.inr ⟨rfl,1,rfl⟩,trivial⟩) rfl ?_;by_cases i:dN s [] c=0;rotate_left
 .have D:(dN s [] c != 0)=true:=by simpa using i
  simp[D,de,if_neg i,go_sem]
 have D:(dN s [] c != 0)=false:=by simpa using i
 have S:=h i;simp only[D,if_pos i,go_sem,simprocAttr];refine aa (S3 s c x) rfl (zm ?_);generalize G:et s c x s.wicks 0=l;have u:∀n,n∈l->rd s n:=by
  intro n C;rw[<-G]at C;exact ot s c x s.wicks 0 (by simp) n C
 have E:=Sz s c x S;rw[G]at E
 refine Y6 (l:=l.map ay) (λo k h=>k<=l.length/\h=[.row 6 [.p s.pv],.row 5 [.p c.pv],.row 1 [.p (jZ s c x)],.row 1 [.p (.int .i64 (eg s (l.take k) (-1)))],.dblock,o]) (λ_ _=>False)
  rfl (by simp[B9,go_sem]) E cH (by kernel_rfl) rfl (by kernel_rfl) (by kernel_rfl) ?_ ?_ ?_ ?_ ?_ (λ_ _ h=>h.elim)
 .rintro o k h ⟨_,rfl⟩;simp
 .rintro o k h ⟨_,rfl⟩;simp
 .intro o;refine⟨by omega,?_⟩;refine zm ?_;rfl
 .rintro X Z Y k v h M ⟨hk,rfl⟩
  have K:∃n,l[k]?=some n/\v=.int .i64 n:=by
   rw[cX,bg]at M;obtain⟨n,I,rfl⟩:=M;exact⟨n,I,rfl⟩
  obtain⟨n,C,rfl⟩:=K;have A:k<l.length:=(aC.1 C).1;have z:=u n (aB C);obtain⟨w,hw,R⟩:=wm z;have q:=AP s (l.take k) n (-1);rw[<-xY C]at q;have F:=xt s (l.take k) (-1) (λm T=>u m (rb T)) (.inl rfl);generalize eg s (l.take k) (-1)=b at q F;have O:=z.1;have n1:=z.2;refine zm ?_;cases e:decide (b<0)
  .have j:rd s b:=by
    rcases F with h|h
    .rw[h]at e;simp at e
    .exact h
   obtain⟨N,J,L⟩:=wm j;have V:=j.1;have U:=j.2;rw[e,R,L]at q;simp only[O,n1,V,U,hw,J,go_sem,simprocAttr];cases y:decide (w.threads<N.threads)
   .rw[y]at q;refine zn q ?_;exact A
   .rw[y]at q;refine zn q ?_;exact A
  .rw[e]at q;refine zn q ?_;exact A
 .rintro o h ⟨_,rfl⟩
  have I:l.take (l.map ay).length=l:=by simp
  rw[I];refine zm ?_;cases e:decide (eg s l (-1)<0)
  .have:¬eg s l (-1)<0:=by simpa using e
   simp[de,if_pos i,G,if_neg this,cB,go_sem]
  .have:eg s l (-1)<0:=by simpa using e
   simp[de,if_pos i,G,if_pos this,cB,go_sem]
def Jc(s)(c)(x)(h:dN s [] c=0->Site s c x):af TP 202 [s.pv,c.pv] (.tuple [.int .i64 (de s c x).1,.int .i64 (de s c x).2]):=by
 refine ae (ag func202 rfl) rfl (zm ?_);refine aa (QK s c x h) rfl ?_;simp only[lz,go_sem,simprocAttr];cases J:(dN s [] c==0)
 .have i:¬dN s [] c=0:=by simpa using J
  have O:(dN s [] c != 0)=true:=by simp[bne,J]
  simp[pb,if_neg i,J,O,de,go_sem]
 have i:dN s [] c=0:=by simpa using J
 have V:=h i;simp only[pb,if_pos i,go_sem,simprocAttr];have z:=EZ s c x s.wicks 0;have lw:=V.so.lw;have e:=ot s c x s.wicks 0 (by simp);have M:de s c x=if eg s (et s c x s.wicks 0) (-1)<0 then(0,9) else(eg s (et s c x s.wicks 0) (-1),0):=by rw[de,if_pos i]
 rw[M];generalize et s c x s.wicks 0=l at z e
 cases l with
 |nil=>simp only[eg,go_sem,simprocAttr]
 |cons a t=>
  have N:¬eg s (a::t) (-1)<0:=by have:=AO s (a::t) (-1) e (.inl (by simp));omega
  rw[if_neg N];obtain⟨l,A⟩:∃l,l=a::t:=⟨_,rfl⟩
  rw[<-A]at e z |-;have Z:(((l.length:Nat):Int)==0)=false:=by rw[A];simp<;>omega
  have Y:(0:Int)<((l.length:Nat):Int):=by rw[A];simp<;>omega
  have X:l[0]?=some a:=by rw[A];rfl
  refine zp Z Y X ?_;have v:eg s l (-1)=eg s t a:=by rw[A];simp[eg]
  rw[v];refine mR [2,6] (σ:=List Int×List Int×Int) (λq=>l=q.1++q.2.1/\eg s t a=eg s q.2.1 q.2.2/\rd s q.2.2) (λq=>q.2.1.length) (λq=>[(8,.p (.int .i64 q.2.2)),(9,.p (.int .i64 q.1.length))]) ([a],t,a) ⟨A,rfl,e a (by rw[A];simp)⟩ ?_ ?_
  .simp[go_sem]
  rintro⟨d_,rest,b⟩ ⟨D,C,E⟩
  dsimp only at D C E
  cases rest with
  |nil=>
   have u:¬((d_.length:Int)<((l.length:Nat):Int)):=by rw[D];simp
   refine zn u ?_
   rw[C];rfl
  |cons n r=>
   obtain⟨hx,u⟩:=ca D;have G:i64.wrap ((d_.length:Int)+1)=(((d_++[n]).length:Nat):Int):=aO (by omega) (by simp[ai];omega) (by simp);have j:=e n (by rw[D];simp);obtain⟨w,hw,U⟩:=wm j;obtain⟨T,F,L⟩:=wm E;have R:=j.1;have n1:=j.2;have K:=E.1;have S:=E.2;have I:decide (b<0)=false:=by simp;exact K
   rw[eg,I,U,L]at C;simp only[u,hx,R,n1,K,S,hw,F,go_sem,simprocAttr];cases y:decide (w.threads<T.threads)
   .rw[y]at C;refine zm ?_;refine aF (d_++[n],r,b) ⟨by simp[D],by rw[C];rfl,E⟩ (by simp) ?_;simp[G,go_sem]
   .rw[y]at C;simp only[u,hx,R,n1,K,S,hw,F,go_sem,simprocAttr];refine aF (d_++[n],r,n) ⟨by simp[D],by rw[C];rfl,j⟩ (by simp) ?_;simp[G,go_sem]
end Wk
set_option maxRecDepth 4000
def Wz(lo hi n):af TP 131 [.int .i64 n,.ptr 1 [.int .i64 lo] 0 0,.ptr 1 [.int .i64 hi] 0 0] (.bool (!aq n lo hi)):=by
 refine ae (ag func131 rfl) rfl (zm ?_);refine aT (λe=>?_) (λe=>?_)<;>refine zn e ?_<;>simp_all [aq];rw[<-decide_not];congr 1;simp
def jy(lo hi)(l:List Int)(b)(e:l.length<1000000000):af TP 61 [.int .i64 lo,.int .i64 hi,.slice 1 (l.map ay) b] (.bool (l.any λn=>!aq n lo hi)):=by
 refine ae (ag func61 rfl) rfl (zm ?_);refine bq (lD (fv:=.func (.func 131) [] [.ptr 1 [.int .i64 lo] 0 0,.ptr 1 [.int .i64 hi] 0 0]) l (λn=>!aq n lo hi) b 1 rfl e λn _=>⟨_,_,_,rfl,Wz lo hi n⟩) ?_ (.bool _) ?_
 .simp[go_sem]
 .simp[go_sem]
def jE (last:Int):List BdPoint->Int
 |[]=>0
 |p::r=>if(aq p.parts 0 20&&aq p.add (-300) 300)=true then(if p.parts<=last then 2 else jE p.parts r) else 7
def fk (c:List BdPoint):Int:=if 6<c.length then 3 else jE (-1) c
def Tj(c)(b)(n):af TP 65 [.agg [.slice 2 (c.map BdPoint.pv) b,.int .i64 n]] (.int .i64 (fk c)):=by
 refine ae (ag func65 rfl) rfl (zm ?_);refine aT (λi=>?_) (λi=>?_)<;>refine zn i ?_
 .have:6<c.length:=by simp at i;omega
  simp[fk,this]
 .have y:¬6<c.length:=by simp at i;omega
  rw[show fk c=jE (-1) c by simp[fk,y]];refine aG [11,12] c (by omega) (τ:=Int) (λd_ rest e=>jE (-1) c=jE e rest) (λd_ e=>[(13,.p (.int .i64 d_.length)),(3,.p (.int .i64 e))]) (λ_ _=>[.row 2 [.p (.agg [.slice 2 (c.map BdPoint.pv) b,.int .i64 n])]]) (-1) rfl ?_ ?_ ?_
  .simp only[go_sem,simprocAttr]<;>simp
  .intro e j;refine zm ?_;rw[j];rfl
  .intro d_ x r e z j hx v u;refine zo v hx ?_;refine aa (jy 0 20 [_] true (by simp)) rfl ?_;simp only[bZ,cO,dd,go_sem,simprocAttr];cases l:aq x.parts 0 20
   .refine zm ?_;rw[j,jE,l];rfl
   refine zm ?_;refine aa (jy (-300) 300 [_] true (by simp)) rfl ?_;simp only[bZ,cO,dd,go_sem,simprocAttr];cases q:aq x.add (-300) 300
   .refine zm ?_;rw[j,jE,l,q];rfl
   refine zm ?_;refine aT (λi=>?_) (λi=>?_)<;>refine zn i ?_
   .rw[j,jE,l,q,tj,if_pos rfl,if_pos (by simpa using i)]
   .refine am z x.parts (by rw[j,jE,l,q,tj,if_pos rfl,if_neg (by simpa using i)]) ?_;simp[u,go_sem]
def yx (d_:List BdPoint):Int:=match d_.getLast? with|some p=>p.parts|none=>-1
def QP(c)(b):af TP 87 [.slice 2 (c.map BdPoint.pv) b] (.int .i64 (fk c)):=by
 refine ae (ag func87 rfl) rfl (zm ?_);refine aT (λj=>?_) (λj=>?_)<;>refine zn j ?_
 .have:6<c.length:=by simp at j;omega
  simp[fk,this]
 .have G:¬6<c.length:=by simp at j;omega
  rw[show fk c=jE (-1) c by simp[fk,G]];refine eZ [0] c (by omega) (τ:=Unit) (λd_ rest _=>jE (-1) c=jE (yx d_) rest) (λd_ _=>[(3,.p (.int .i64 d_.length))]) () rfl ?_ ?_ ?_
  .simp only[go_sem,simprocAttr]<;>simp
  .intro _ l;refine zm ?_;rw[l];rfl
  .intro d_ x r _ z l hx i C;refine zo i hx ?_;refine aa (zh _ _ _) rfl (zm ?_);cases q:aq x.parts 0 20
   .refine zm ?_;rw[l,jE,q];rfl
   refine zo hx i ?_;refine aa (zh _ _ _) rfl (zm ?_);cases y:aq x.add (-300) 300
   .refine zm ?_;rw[l,jE,q,y];rfl
   have I:0<=x.parts:=by simp[aq]at q;omega
   rcases AW d_ with rfl|⟨e,d,u⟩
   .simp only[go_sem,simprocAttr];refine am z () (by rw[l,jE,q,y,tj,if_pos rfl,if_neg (by simp[yx];omega)];rfl) ?_;simp only[go_sem,simprocAttr]
   .rw[AX]at u;subst u;have D:decide ((0:Int)<(((e++[d]).length:Nat):Int))=true:=by simp<;>omega
    have A:i64.wrap ((((e++[d]).length:Nat):Int)-1)=((e.length:Nat):Int):=by
     rw[ct (by simp<;>omega) (by simp[ai]at i |-;omega)];simp
    have F:c[e.length]?=some d:=by rw[z];simp
    have v:((e.length:Nat):Int)<(c.length:Int):=by simp at i;omega
    have E:yx (e++[d])=d.parts:=by simp[yx]
    rw[E]at l;simp only[D,hx,A,F,i,v,go_sem,simprocAttr];refine aT (λj=>?_) (λj=>?_)<;>simp only[j,go_sem,simprocAttr]
    .rw[l,jE,q,y,tj,if_pos rfl,if_pos (by simpa using j)]
    .refine am z () (by rw[l,jE,q,y,tj,if_pos rfl,if_neg (by simpa using j)];simp[yx]) ?_;simp only[C,go_sem,simprocAttr]
def cm (s:Span) (a b:Int):Bool:=aq s.lo a b&&aq s.hi a b
def aL (s:Span):Bool:=decide (s.hi<s.lo)
def cz (before:List ByteArray) (x:BdWax):Int:=
 if ar before x.name=0 then
  if(aq x.price 0 100000&&(cm x.melt 0 2000&&cm x.shrink 0 1000))=true then
   if(aL x.melt||aL x.shrink)=true then 2 else fk x.curve
  else 7
 else ar before x.name
def zq:Option (Int×Int)->Int×Int×Int
 |none=>(0,0,0)
 |some (i,e)=>(2,i,e)
def bdCheck (l:List BdWax):Int×Int×Int:=
 if aq l.length 1 5=true then zq (firstErr cz (·.name) l []) else(1,0,3)
def Q4(x y:BdWax):af TP 64 [y.pv,.ptr 7 [x.pv] 0 0] (.bool (y.name==x.name)):=by
 refine ae (ag func64 rfl) rfl ?_;simp[go_sem]
def mM{e}{x}{a b c}(l:nameOk x.name=a)(j:e.any (λt=>t==x.name)=b)(i:(aq x.price 0 100000&&(cm x.melt 0 2000&&cm x.shrink 0 1000))=c) :
  cz e x=if a=true then(if b=true then 5 else if c=true then(if(aL x.melt||aL x.shrink)=true then 2 else fk x.curve) else 7) else 6:=by
 unfold cz ar;rw[l,j,i];cases a<;>cases b<;>rfl
def BI(l):af TP 21 [dg l] (ao (bdCheck l)):=by
 refine ae (ag func21 rfl) rfl (zm ?_);refine aa (jy 1 5 [_] true (by simp)) rfl ?_;simp only[bZ,cO,dd,go_sem,simprocAttr];cases E:aq l.length 1 5
 .simp[ao,bdCheck,E,go_sem]
 have Y:l.length<=5:=by simp[aq]at E;omega
 have u:bdCheck l=zq (firstErr cz (·.name) l []):=by simp[bdCheck,E]
 rw[u];refine zm ?_;refine eZ [0,11,12] l (by omega) (τ:=Unit) (λd_ rest _=>firstErr cz (·.name) l []=firstErr cz (·.name) rest (d_.map (·.name))) (λd_ _=>[(13,.p (.int .i64 d_.length)),(4,.p (.int .i64 0))]) () rfl ?_ ?_ ?_
 .simp only[go_sem,simprocAttr]<;>simp
 .intro _ F;refine zm ?_;rw[F];rfl
 .intro d_ x r _ V F hx K I;have M:((d_.length:Nat):Int)<=(l.length:Int):=by omega
  have G:(l.map BdWax.pv).take d_.length=d_.map BdWax.pv:=by
   rw[V,aS,eX (by simp)]
  have L:(d_.length==l.length)=false:=by simp;omega
  have N:firstErr cz (·.name) l []=if cz (d_.map (·.name)) x=0 then firstErr cz (·.name) r ((d_++[x]).map (·.name)) else some ((d_.length:Int),cz (d_.map (·.name)) x):=by
   rw[F,firstErr];simp
  have i:∀e,cz (d_.map (·.name)) x=e->e≠0->zq (firstErr cz (·.name) l [])=(2,(d_.length:Int),e):=by
   intro e X J;rw[N,X,if_neg J];rfl
  refine zo K hx ?_;refine aa (kY x.name) rfl (zm ?_);cases v:nameOk x.name
  .simp only[ao,i 6 (by rw[mM v rfl rfl];rfl) (by decide),go_sem,simprocAttr]
  simp only[M,zE,gY,G,L,go_sem,simprocAttr];refine bq (EE (fv:=.func (.func 64) [] [.ptr 7 [x.pv] 0 0]) d_ (λy=>y.name==x.name) false 7 rfl (by omega) λy _=>⟨_,_,_,rfl,Q4 x y⟩) ?_ (.bool _) ?_
  .simp[go_sem]
  refine zm ?_;have j:(d_.map (·.name)).any (λt=>t==x.name)=d_.any (λy=>y.name==x.name):=by simp only[oY,gS]
  cases z:d_.any (λy=>y.name==x.name);rotate_left
  .simp only[ao,i 5 (by rw[mM v (j.trans z) rfl];rfl) (by decide),go_sem,simprocAttr]
  refine zm ?_;refine aa (jy 0 100000 [_] true (by simp)) rfl ?_;simp only[bZ,cO,dd,go_sem,simprocAttr];have q:(aq x.price 0 100000&&(cm x.melt 0 2000&&cm x.shrink 0 1000))=false->cz (d_.map (·.name)) x=7:=λh=>by rw[mM v (j.trans z) h];rfl
  cases U:aq x.price 0 100000
  .simp only[ao,i 7 (q (by rw[U];rfl)) (by decide),go_sem,simprocAttr]
  refine zm ?_;refine aa (jy 0 2000 [_,_] true (by simp)) rfl ?_;simp only[bZ,cO,dd,<-mT,go_sem,simprocAttr];cases T:(aq x.melt.lo 0 2000&&aq x.melt.hi 0 2000)
  .simp only[ao,i 7 (q (by rw[cm,T];simp)) (by decide),go_sem,simprocAttr]
  refine zm ?_;refine aa (jy 0 1000 [_,_] true (by simp)) rfl ?_;simp only[bZ,cO,dd,<-mT,go_sem,simprocAttr];cases S:(aq x.shrink.lo 0 1000&&aq x.shrink.hi 0 1000)
  .simp only[ao,i 7 (q (by rw[cm,cm,S];simp)) (by decide),go_sem,simprocAttr]
  have C:(aq x.price 0 100000&&(cm x.melt 0 2000&&cm x.shrink 0 1000))=true:=by rw[cm,cm,U,T,S];rfl
  refine zm ?_;cases D:decide (x.melt.hi<x.melt.lo);rotate_left
  .simp only[ao,i 2 (by rw[mM v (j.trans z) C,aL,D];rfl) (by decide),go_sem,simprocAttr]
  refine zm ?_;cases R:decide (x.shrink.hi<x.shrink.lo);rotate_left
  .simp only[ao,i 2 (by rw[mM v (j.trans z) C,aL,aL,D,R];rfl) (by decide),go_sem,simprocAttr]
  refine zm ?_;refine aa (Tj x.curve false 0) rfl (zm ?_);have hw:cz (d_.map (·.name)) x=fk x.curve:=by rw[mM v (j.trans z) C,aL,aL,D,R];rfl
  cases O:(fk x.curve != 0)
  .have A:fk x.curve=0:=by simpa using O
   refine zm ?_;refine am V () (by rw[N,if_pos (hw.trans A)]) ?_;simp[I,A,go_sem]
  .simp[ao,i _ hw (by simpa using O),go_sem]
open Go.IntKind (i64)
set_option maxRecDepth 4000
def nI(s)(a b):ec s.lo s.hi a b=if cm s a b=true then(if aL s=true then 2 else 0) else 7:=by
 unfold ec cm aL;cases aq s.lo a b<;>cases aq s.hi a b<;>simp
def jU (m s:Span):Int:=if(cm m 0 2000&&cm s 0 1000)=true then(if(aL m||aL s)=true then 2 else 0) else 7
def u6(m s):af TP 86 [m.pv,s.pv] (.int .i64 (jU m s)):=by
 refine ae (ag func86 rfl) rfl (zm ?_);refine aj (oc _ _ _ _) rfl (zm ?_);refine aj (oc _ _ _ _) rfl (zn @nI ?_);unfold jU;cases cm m 0 2000<;>cases cm s 0 1000<;>cases aL m<;>cases aL s<;>simp[go_sem]
def u7(l):af TP 26 [dg l] (ao (bdCheck l)):=by
 refine ae (ag func26 rfl) rfl (zm ?_);refine aa (zh _ _ _) rfl (zm ?_);cases A:aq l.length 1 5
 .simp[ao,bdCheck,A,go_sem]
 have R:l.length<=5:=by simp[aq]at A;omega
 have v:bdCheck l=zq (firstErr cz (·.name) l []):=by simp[bdCheck,A]
 rw[v];refine zm ?_;refine bt 5 1 (by simp only[go_sem,simprocAttr]) (zm ?_)
 refine aG [0] l (by omega) (τ:=Unit) (λd_ rest _=>firstErr cz (·.name) l []=firstErr cz (·.name) rest (d_.map (·.name)))
  (λd_ _=>[(5,.slice 0 d_.length 0 d_.length),(6,.p (.int .i64 d_.length))]) (λd_ _=>[.row 1 (d_.map λx=>.p (.str x.name))]) () rfl ?_ ?_ ?_
 .simp only[go_sem,simprocAttr]<;>simp
 .intro _ C;refine zm ?_;rw[C];rfl
 .intro d_ x r _ O C hx i E;have D:d_.length+1<=ai:=by simp[ai];omega
  have K:firstErr cz (·.name) l []=if cz (d_.map (·.name)) x=0 then firstErr cz (·.name) r ((d_++[x]).map (·.name)) else some ((d_.length:Int),cz (d_.map (·.name)) x):=by
   rw[C,firstErr];simp
  have u:∀e,cz (d_.map (·.name)) x=e->e≠0->zq (firstErr cz (·.name) l [])=(2,(d_.length:Int),e):=by
   intro e N F;rw[K,N,if_neg F];rfl
  refine zo i hx ?_;refine bq (kQ x.name (d_.map (·.name)) false (d_.map λx=>.str x.name) (by simp) (by simp;omega)) ?_ (.int _ _) ?_
  .simp[go_sem]
  refine zp D i hx ?_;cases y:(ar (d_.map (·.name)) x.name==0)
  .have j:ar (d_.map (·.name)) x.name≠0:=by simpa using y
   have J:(ar (d_.map (·.name)) x.name != 0)=true:=by simp[bne,y]
   simp only[y,J,ao,u _ (by rw[cz,if_neg j]) j,go_sem,simprocAttr]
  have j:ar (d_.map (·.name)) x.name=0:=by simpa using y
  refine zo hx i ?_;refine aa (zh _ _ _) rfl (zm ?_);cases M:aq x.price 0 100000
  .simp only[ao,u 7 (by simp[cz,j,M]) (by decide),go_sem,simprocAttr]
  refine zp y hx i ?_;refine aj (u6 x.melt x.shrink) rfl ?_;simp only[go_sem,simprocAttr];have hw:cz (d_.map (·.name)) x=if jU x.melt x.shrink=0 then fk x.curve else jU x.melt x.shrink:=by
   unfold cz jU;rw[if_pos j,M];cases (cm x.melt 0 2000&&cm x.shrink 0 1000)<;>cases (aL x.melt||aL x.shrink)<;>rfl
  cases z:(jU x.melt x.shrink==0)
  .have q:jU x.melt x.shrink≠0:=by simpa using z
   have I:(jU x.melt x.shrink != 0)=true:=by simp[bne,z]
   simp only[I,ao,u _ (by rw[hw,if_neg q]) q,go_sem,simprocAttr]
  have q:jU x.melt x.shrink=0:=by simpa using z
  rw[if_pos q]at hw;simp only[hx,i,go_sem,simprocAttr];refine aa (QP x.curve false) rfl ?_;simp only[go_sem,simprocAttr];cases L:(fk x.curve != 0)
  .have G:fk x.curve=0:=by simpa using L
   simp only[go_sem,simprocAttr];refine am O () (by rw[K,if_pos (hw.trans G)]) ?_;simp only[E,ak,aS,go_sem,simprocAttr]
  .simp[ao,u _ hw (by simpa using L),go_sem]
structure CurveOk (c:List BdPoint):Prop where
 len:c.length<=6
 pt:∀p,p∈c->0<=p.parts/\p.parts<=20/\-300<=p.add/\p.add<=300
 up:c.Pairwise λa b=>a.parts<b.parts
def HO:∀(c) (e),jE e c=0->(∀p,p∈c->0<=p.parts/\p.parts<=20/\-300<=p.add/\p.add<=300)/\c.Pairwise (λa b=>a.parts<b.parts)/\∀p,p∈c->e<p.parts
 |[],_,_=>⟨by simp,.nil,by simp⟩
 |q::r,e,h=>by
  rw[jE]at h;split at h
  .rename_i u;split at h
   .cases h
   .rename_i z;obtain⟨y,v,j⟩:=HO r _ h;have l:0<=q.parts/\q.parts<=20/\-300<=q.add/\q.add<=300:=by simp[aq]at u;omega
    refine⟨?_,.cons (λp i=>j p i) v,?_⟩
    .intro p i;rcases br.1 i with rfl|i
     .exact l
     .exact y p i
    .intro p i;rcases br.1 i with rfl|i
     .omega
     .have:=j p i;omega
  .cases h
def NH{c}(h:fk c=0):CurveOk c:=by
 unfold fk at h;split at h
 .cases h
 .obtain⟨i,e,_⟩:=HO c _ h;exact⟨by omega,i,e⟩
def oz (a b:BdPoint) (n:Int):Int:=a.add+(b.add-a.add)*(n-a.parts) / (b.parts-a.parts)
def kj (a:BdPoint):List BdPoint->Int->Int
 |[],_=>a.add
 |b::r,n=>if n<=b.parts then oz a b n else kj b r n
def nP:List BdPoint->Int->Int
 |[],_=>0
 |a::r,n=>if n<=a.parts then a.add else kj a r n
def LW(a b:Int)(e:0<b):(if a.tmod b<0 then a.tdiv b-1 else a.tdiv b)=a / b:=by
 have h:=Int.mul_tdiv_add_tmod a b;rcases Hf 0 a with i|i
 .have l:=Int.tmod_nonneg b i;rw[if_neg (by omega),Int.tdiv_eq_ediv_of_nonneg i]
 .have l:-b<a.tmod b:=Int.lt_tmod_of_pos a e;have q:a.tmod b<=0:=by
   have:=Int.tmod_nonneg b (a:=-a) (by omega);rw[Int.neg_tmod]at this;omega
  split
  .rename_i j;symm;rw[Int.ediv_eq_iff_of_pos e];have:b*(a.tdiv b-1)=b*a.tdiv b-b:=by rw[Int.mul_sub,Int.mul_one]
   rw[xR];constructor<;>omega
  .rename_i j;symm;rw[Int.ediv_eq_iff_of_pos e];rw[xR];constructor<;>omega
def YS(a b)(v:-1000000000000000<=a/\a<=1000000000000000)(q:0<b):af TP 414 [.int .i64 a,.int .i64 b] (.int .i64 (a / b)):=by
 refine ae (ag func414 rfl) rfl ?_;have l:b≠0:=by omega
 have u:-1000000000000000<=a.tdiv b/\a.tdiv b<=1000000000000000:=by
  have y:=Int.natAbs_tdiv_le_natAbs a b;omega
 have hw:i64.wrap (a.tdiv b)=a.tdiv b:=ah;have j:i64.wrap (a.tdiv b-1)=a.tdiv b-1:=ah;have e:=LW a b q;refine zo l hw ?_;refine aT (λi=>?_) (λi=>?_)<;>refine zo i j ?_
 .rw[if_pos (by simpa using i)]at e;exact e
 .rw[if_neg (by simpa using i)]at e;exact e
def YR(a b)(v:-1000000000000000<=a/\a<=1000000000000000)(q:0<b):af TP 411 [.int .i64 a,.int .i64 b] (.int .i64 (a / b)):=by
 refine ae (ag func411 rfl) rfl ?_;have l:b≠0:=by omega
 have u:-1000000000000000<=a.tdiv b/\a.tdiv b<=1000000000000000:=by
  have y:=Int.natAbs_tdiv_le_natAbs a b;omega
 have hw:i64.wrap (a.tdiv b)=a.tdiv b:=ah;have j:i64.wrap (a.tdiv b-1)=a.tdiv b-1:=ah;have e:=LW a b q;refine zo l hw ?_;refine aT (λi=>?_) (λi=>?_)<;>refine zo i j ?_
 .rw[if_pos (by simpa using i)]at e;exact e
 .rw[if_neg (by simpa using i)]at e;exact e
def Tb(c:List BdPoint)(b)(n)(i:Nat)(p)(hi:c[i]?=some p):af TP 413 [.agg [.slice 2 (c.map BdPoint.pv) b,.int .i64 n],.int .i64 i] (.bool (decide (n<=p.parts))):=by
 refine ae (ag func413 rfl) rfl ?_;have e:((i:Nat):Int)<(c.length:Int):=by have:=(aC.1 hi).1;omega
 simp[e,hi,go_sem]
def AF:∀{c:List BdPoint} (n),c.Pairwise (λa b=>a.parts<b.parts)->∃j i,c=j++i/\(∀p,p∈j->p.parts<n)/\∀p,p∈i->n<=p.parts
 |[],_,_=>⟨[],[],rfl,by simp,by simp⟩
 |a::r,n,h=>by
  cases h with
  |cons v u=>
   by_cases q:a.parts<n
   .obtain⟨j,i,e,z,y⟩:=AF n u;refine⟨a::j,i,by rw[e];rfl,λp l=>?_,y⟩;rcases br.1 l with rfl|l
    .exact q
    .exact z p l
   .refine⟨[],a::r,rfl,by simp,λp l=>?_⟩;rcases br.1 l with rfl|l
    .omega
    .have:=v p l;omega
def Ge(n):∀(i) (x a) (e),(∀p,p∈i++[a]->p.parts<n)->kj x (i++a::e) n=kj a e n
 |[],x,a,e,h=>by
  have:=h a (by simp)
  rw[jb,kj,if_neg (by omega)]
 |y::i,x,a,e,h=>by
  have:=h y (by simp);rw[ga,kj,if_neg (by omega)];exact Ge n i y a e λp j=>h p (by simp at j |-;exact .inr j)
def Ty{n}(e)(a)(i)(h:∀p,p∈e++[a]->p.parts<n):nP (e++a::i) n=kj a i n:=by
 cases e with
 |nil=>
  have:=h a (by simp)
  rw[jb,nP,if_neg (by omega)]
 |cons y e=>
  have:=h y (by simp);rw[ga,nP,if_neg (by omega)];exact Ge n e y a i λp j=>h p (by simp at j |-;exact .inr j)
def D5{a b}{n}(A:0<=a.parts/\a.parts<=20/\-300<=a.add/\a.add<=300)(z:0<=b.parts/\b.parts<=20/\-300<=b.add/\b.add<=300)(E:a.parts<=n)(D:n<=b.parts)(C:a.parts<b.parts) :
  -20000<=(b.add-a.add)*(n-a.parts)/\(b.add-a.add)*(n-a.parts)<=20000 /\
  ((a.add<=b.add->a.add<=oz a b n/\oz a b n<=b.add)/\(b.add<=a.add->b.add<=oz a b n/\oz a b n<=a.add)):=by
 unfold oz;generalize v:n-a.parts=k;generalize u:b.parts-a.parts=m;generalize y:b.add-a.add=d;have k0:0<=k:=by omega
 have k1:k<=20:=by omega
 have j:k<=m:=by omega
 have m0:0<m:=by omega
 have G:(-600)*k<=d*k:=xQ (by omega) k0;have F:d*k<=600*k:=xQ (by omega) k0;refine⟨by omega,by omega,λh=>?_,λh=>?_⟩
 .have i:0<=d:=by omega
  have q:0<=d*k / m:=Int.ediv_nonneg (pF i k0) (by omega);have l:d*k / m<=d:=by
   have:=Hg m0 (v6 j i);rwa [Int.mul_ediv_cancel _ (by omega)]at this
  omega
 .have i:d<=0:=by omega
  have q:d*k / m<=0:=by
   have:=Hg m0 (show d*k<=0 from Int.mul_nonpos_of_nonpos_of_nonneg i k0);simpa using this
  have l:d<=d*k / m:=by
   have e:d*m<=d*k:=Int.mul_le_mul_of_nonpos_left i j;have:=Hg m0 e;rwa [Int.mul_ediv_cancel _ (by omega)]at this
  omega
def YW(c)(b)(n)(C:CurveOk c):af TP 410 [.agg [.slice 2 (c.map BdPoint.pv) b,.int .i64 n]] (.int .i64 (nP c n)):=by
 refine ae (dv (by kernel_rfl) rfl ZG) rfl ?_;obtain⟨q,j,e,F,E⟩:=AF n C.up;have R:=C.len;have v:q.length<=c.length:=by rw[e];simp
 simp only[Zj,go_sem,simprocAttr];refine aT (λD=>?_) (λD=>?_)
 .have:c=[]:=by simpa using D
  simp only[this,nP,go_sem,simprocAttr]
 simp only[go_sem,simprocAttr];refine aa (V' (fv:=.func (.func 413) [.agg [.slice 2 (c.map BdPoint.pv) b,.int .i64 n]] []) c.length (λi=>match c[i]? with|some p=>decide (n<=p.parts)|none=>true) (by omega) (λi hi=>?_) q.length v (λi hi=>?_) λi Z O=>?_) rfl ?_
 .have M:c[i]?=some c[i]:=bL hi;rw[M];exact⟨_,_,_,rfl,Tb c b n i _ M⟩
 .rw[e,bJ hi,bL hi];have:=F _ (G9 hi);simp;omega
 .have hh:i-q.length<j.length:=by rw[e]at O;simp at O;omega
  rw[e,dB Z,bL hh];have:=E _ (G9 hh);simp;omega
 simp only[go_sem,simprocAttr];rcases AW q with rfl|⟨l,a,L⟩
 .cases j with
  |nil=>subst e;simp at D
  |cons x j=>
   have hx:=E x (by simp);rw[jb]at e;have h0:c[0]?=some x:=by rw[e];rfl
   have J:(0:Int)<(c.length:Int):=by rw[e];simp<;>omega
   simp only[J,h0,bS,go_sem,simprocAttr];rw[e,nP,if_pos hx]
 .rw[AX]at L;subst L;have K:((((l++[a]).length:Nat):Int)==0)=false:=by simp<;>omega
  have z:i64.wrap ((((l++[a]).length:Nat):Int)-1)=((l.length:Nat):Int):=by
   rw[ct (by simp<;>omega) (by simp[ai]at v |-;omega)];simp
  have N:c[l.length]?=some a:=by rw[e];simp
  have A:((l.length:Nat):Int)<(c.length:Int):=by simp at v;omega
  have u:nP c n=kj a j n:=by rw[e];simpa using Ty l a j F
  cases j with
  |nil=>
   have y:((((l++[a]).length:Nat):Int)==(c.length:Int))=true:=by rw[e];simp
   simp only[K,y,z,N,A,u,kj,go_sem,simprocAttr]
  |cons x j=>
   have hx:=E x (by simp);have a0:=F a (by simp);have G:c[(l++[a]).length]?=some x:=by rw[e];simp
   have I:(((l++[a]).length:Nat):Int)<(c.length:Int):=by rw[e];simp<;>omega
   have y:((((l++[a]).length:Nat):Int)==(c.length:Int))=false:=by simp only[beq_eq_false_iff_ne];omega
   have pa:=C.pt a (by rw[e];simp);have Y:=C.pt x (by rw[e];simp);obtain⟨b1,b2,b3⟩:=D5 pa Y (by omega) hx (by omega);have X:i64.wrap (x.add-a.add)=x.add-a.add:=ah;have V:i64.wrap (n-a.parts)=n-a.parts:=ah;have U:i64.wrap ((x.add-a.add)*(n-a.parts))=(x.add-a.add)*(n-a.parts):=ah;have T:i64.wrap (x.parts-a.parts)=x.parts-a.parts:=ah;have S:i64.wrap (oz a x n)=oz a x n:=ah;simp only[K,y,z,N,A,G,I,X,V,U,T,aD,go_sem,simprocAttr];refine aj (YS _ _ (by omega) (by omega)) rfl (zm ?_);rw[u,kj,if_pos hx];exact S
def L8(c:List BdPoint)(b:Bool)(n:Int)(D:CurveOk c):af TP 406 [.slice 2 (c.map BdPoint.pv) b,.int .i64 n] (.int .i64 (nP c n)):=by
 refine ae (dv (by kernel_rfl) rfl ZH) rfl ?_;have N:=D.len;simp only[OF,aD,go_sem,simprocAttr];refine aT (λj=>?_) (λj=>?_)
 .have:c=[]:=by simpa using j
  simp[this,nP,go_sem]
 cases i:c with
 |nil=>subst i;simp at j
 |cons x C=>
  rw[<-i];have M:c[0]?=some x:=by rw[i];rfl
  have A:(0:Int)<(c.length:Int):=by rw[i];simp<;>omega
  refine zo M A ?_;refine aT (λj=>?_) (λj=>?_)
  .refine zo M A ?_;rw[i,nP,if_pos (by simpa using j)]
  refine zm ?_;have J:¬n<=x.parts:=by simpa using j
  refine mR [0,1] (σ:=List BdPoint×BdPoint×List BdPoint) (λq=>c=q.1++q.2.1::q.2.2/\q.2.1.parts<n/\nP c n=kj q.2.1 q.2.2 n) (λq=>q.2.2.length) (λq=>[(5,.p (.int .i64 ((q.1.length+1:Nat):Int)))]) ([],x,C) ⟨i,by simp;omega,by rw[i,nP,if_neg J]⟩ ?_ ?_
  .simp only[go_sem,simprocAttr]<;>simp
  rintro⟨e,a,rest⟩ ⟨l,Y,E⟩
  dsimp only at l E Y;have L:c[e.length]?=some a:=by rw[l];simp
  have z:((e.length:Nat):Int)<(c.length:Int):=by rw[l];simp<;>omega
  have G:i64.wrap (((e.length+1:Nat):Int)-1)=((e.length:Nat):Int):=by
   rw[ct (by omega) (by simp[ai];omega)];omega
  cases rest with
  |nil=>
   have v:¬(((e.length+1:Nat):Int)<(c.length:Int)):=by rw[l];simp
   have F:i64.wrap ((c.length:Int)-1)=((e.length:Nat):Int):=by
    rw[ct (by omega) (by simp[ai];omega),l];simp
   refine s_ v F L z ?_
   rw[E,kj]
  |cons y r=>
   have v:((e.length+1:Nat):Int)<(c.length:Int):=by rw[l];simp<;>omega
   have X:c[e.length+1]?=some y:=by rw[l];simp
   have K:=(List.pairwise_append.1 (l▸D.up)).2.1;have Z:a.parts<y.parts:=by cases K with|cons h _=>exact h y (by simp)
   have I:i64.wrap (((e.length+1:Nat):Int)+1)=((e.length+1+1:Nat):Int):=aO (by omega) (by simp[ai];omega) (by omega);simp only[v,G,L,z,X,OF,aD,go_sem,simprocAttr];refine aT (λj=>?_) (λj=>?_)
   .have u:n<=y.parts:=by simpa using j
    have pa:=D.pt a (by rw[l];simp);have V:=D.pt y (by rw[l];simp);obtain⟨b1,b2,b3⟩:=D5 pa V (by omega) u (by omega);have U:i64.wrap (y.add-a.add)=y.add-a.add:=ah;have T:i64.wrap (n-a.parts)=n-a.parts:=ah;have S:i64.wrap ((y.add-a.add)*(n-a.parts))=(y.add-a.add)*(n-a.parts):=ah;have R:i64.wrap (y.parts-a.parts)=y.parts-a.parts:=ah;have O:i64.wrap (oz a y n)=oz a y n:=ah;simp only[U,T,S,R,OF,aD,go_sem,simprocAttr];refine aj (YR _ _ (by omega) (by omega)) rfl (zm ?_);rw[E,kj,if_pos u];exact O
   .have u:¬n<=y.parts:=by simpa using j
    refine zm ?_;refine aF (e++[a],y,r) ⟨by simp[l],by dsimp only;omega,by rw[E,kj,if_neg u]⟩ (by simp) ?_;refine zn I ?_;simp
structure BdWaxOk (x:BdWax):Prop where
 price:0<=x.price/\x.price<=100000
 melt:0<=x.melt.lo/\x.melt.lo<=x.melt.hi/\x.melt.hi<=2000
 shrink:0<=x.shrink.lo/\x.shrink.lo<=x.shrink.hi/\x.shrink.hi<=1000
 curve:CurveOk x.curve
structure BdWaxesOk (l:List BdWax):Prop where
 len:1<=l.length/\l.length<=5
 wax:∀x,x∈l->BdWaxOk x
def uC (l:List BdWax):Int:=(bdCheck l).2.2
def Oj{e}{x}(h:cz e x=0):BdWaxOk x/\ar e x.name=0:=by
 unfold cz at h;split at h
 .rename_i i;split at h
  .rename_i l;split at h
   .cases h
   .rename_i j;simp[aq,cm,aL]at l j;exact⟨⟨by omega,by omega,by omega,NH h⟩,i⟩
  .cases h
 .rename_i i;exact absurd h i
def kq{α}{f:List ByteArray->α->Int}{i}:∀{l} {e},firstErr f i l e=none->∀x,x∈l->∃b,f b x=0
 |[],_,_,_,hx=>by cases hx
 |y::r,e,h,x,hx=>by
  rw[firstErr]at h;split at h
  .rename_i j;rcases br.1 hx with rfl|hx
   .exact⟨_,j⟩
   .exact kq h x hx
  .cases h
def AB{α}{f:List ByteArray->α->Int}{q}:∀{l} {j} {i e},firstErr f q l j=some (i,e)->e≠0
 |[],_,_,_,h=>by cases h
 |y::r,j,i,e,h=>by
  rw[firstErr]at h;split at h
  .exact AB h
  .rename_i u;cases h;exact u
def Rj{l}(h:uC l=0):(1<=l.length/\l.length<=5)/\firstErr cz (·.name) l []=none:=by
 unfold uC bdCheck at h;split at h
 .rename_i u;refine⟨by simp[aq]at u;omega,?_⟩
  cases j:firstErr cz (·.name) l [] with
  |none=>rfl
  |some q=>
   obtain⟨i,e⟩:=q;rw[j]at h;exact absurd h (AB j)
 .cases h
def tV{l}(h:uC l=0):BdWaxesOk l:=by
 obtain⟨j,i⟩:=Rj h;exact⟨j,λx hx=>let ⟨b,e⟩:=kq i x hx;(Oj e).1⟩
structure RecOk (m:Nat) (r:List Int):Prop where
 len:r.length=m
 rng:∀n,n∈r->0<=n/\n<=20
 sum:r.sum=20
def x1 {α:Type} (f:Nat->α->Int):List α->Nat->Int
 |[],_=>0
 |x::r,i=>f i x+x1 f r (i+1)
def Lm{α}(f:α->Int):∀(l) (i),x1 (λ_ x=>f x) l i=(l.map f).sum
 |[],_=>rfl
 |x::r,i=>by rw[x1,Lm f r,bf,List.sum_cons]
def dG (p:BdWax×Int):PV:=.agg [.str p.1.name,.int .i64 p.1.price,.int .i64 p.1.melt.lo,.int .i64 p.1.melt.hi,.int .i64 p.1.shrink.lo,.int .i64 p.1.shrink.hi,.slice 2 (p.1.curve.map BdPoint.pv) false,.int .i64 p.2]
attribute [go_sem] dG
def Wy{fv}(l)(f)(b)(sz)(j:sz=8)(A:l.length<=1000)(v:∀(i:Nat) x,l[i]?=some x->la TP fv [.int .i64 i,dG x] (.int .i64 (f i x))/\-1000000000<=f i x/\f i x<=1000000000) :
  af TP 361 [.slice sz (l.map dG) b,fv] (.int .i64 (x1 f l 0)):=by
 subst j;refine ae (ag func361 rfl) rfl (zm ?_);refine eZ [1,7,8] l (by omega) (τ:=Int) (λd_ rest n=>x1 f l 0=n+x1 f rest d_.length/\-1000000000*(d_.length:Int)<=n/\n<=1000000000*(d_.length:Int)) (λd_ n=>[(9,.p (.int .i64 d_.length)),(4,.p (.int .i64 n))]) 0 ⟨by simp,by simp,by simp⟩ ?_ ?_ ?_
 .simp only[go_sem,simprocAttr]<;>simp
 .rintro n ⟨e,_⟩
  refine zm ?_;rw[e];simp[x1]
 .rintro d_ x r n z ⟨e,F,E⟩ hx u q
  obtain⟨⟨g,first,cap,rfl,y⟩,D,C⟩:=v _ _ hx;simp only[u,decide_true,hx,dG,go_sem,simprocAttr];refine aa y (by simp[dG]) ?_;have hw:i64.wrap (n+f d_.length x)=n+f d_.length x:=ah;refine zn hw ?_;refine am z (n+f d_.length x) ⟨by rw[e,x1];simp;omega,by simp;omega,by simp;omega⟩ ?_;simp[q,go_sem]
abbrev Ps:=List (BdWax×Int)
structure PsOk (ps:Ps):Prop where
 len:ps.length<=5
 wax:∀p,p∈ps->BdWaxOk p.1/\0<=p.2/\p.2<=20
def bv (f:BdWax×Int->Int) (ps:Ps):Int:=(ps.map f).sum
def gy (p:BdWax×Int):Int:=p.2*p.1.melt.lo
def gz (p:BdWax×Int):Int:=p.2*p.1.melt.hi
def fw (p:BdWax×Int):Int:=p.2*p.1.shrink.lo
def ic (p:BdWax×Int):Int:=p.2*p.1.shrink.hi
def dh (p:BdWax×Int):Int:=p.2*p.1.price
def cq (p:BdWax×Int):Int:=20*nP p.1.curve p.2
def JJ(n):∀(r) (a),(0<=a.parts/\a.parts<=20/\-300<=a.add/\a.add<=300)->(∀p,p∈r->0<=p.parts/\p.parts<=20/\-300<=p.add/\p.add<=300)->a.parts<=n->(a::r).Pairwise (λa b=>a.parts<b.parts)->-300<=kj a r n/\kj a r n<=300
 |[],a,q,_,_,_=>by rw[kj];omega
 |b::r,a,q,e,u,i=>by
  rw[kj];have l:a.parts<b.parts:=by cases i with|cons h _=>exact h b (by simp)
  split
  .rename_i h;obtain⟨_,_,y,v⟩:=D5 q (e b (by simp)) u h l;have z:=e b (by simp);rcases Hf a.add b.add with j|j
   .have:=y j;omega
   .have:=v j;omega
  .rename_i h;exact JJ n r b (e b (by simp)) (λp i=>e p (by simp[i])) (by omega) (by cases i with|cons _ h=>exact h)
def WM{c}(h:CurveOk c)(n):-300<=nP c n/\nP c n<=300:=by
 cases c with
 |nil=>simp[nP]
 |cons a r=>
  have i:=h.pt a (by simp);rw[nP];split
  .omega
  .exact JJ n r a i (λp e=>h.pt p (by simp[e])) (by omega) h.up
def eo{p}(h:BdWaxOk p.1/\0<=p.2/\p.2<=20):(0<=gy p/\gy p<=40000)/\(0<=gz p/\gz p<=40000)/\(0<=fw p/\fw p<=20000)/\(0<=ic p/\ic p<=20000)/\(0<=dh p/\dh p<=2000000)/\-6000<=cq p/\cq p<=6000:=by
 obtain⟨hw,i,e⟩:=h;have u:=hw.melt;have q:=hw.shrink;have l:=hw.price;have j:=WM hw.curve p.2;refine⟨kI (B:=2000) i e (by omega) (by omega),kI (B:=2000) i e (by omega) (by omega),kI (B:=1000) i e (by omega) (by omega),kI (B:=1000) i e (by omega) (by omega),kI (B:=100000) i e (by omega) (by omega),?_⟩;unfold cq;omega
def DO{f}{a b}:∀{ps},(∀p,p∈ps->a<=f p/\f p<=b)->a*(ps.length:Int)<=bv f ps/\bv f ps<=b*(ps.length:Int)
 |[],_=>by simp[bv]
 |p::ps,h=>by
  have i:=DO (f:=f) (ps:=ps) λq e=>h q (by simp[e]);have j:=h p (by simp);simp only[bv,bf,List.sum_cons,bc]at i |-;have u:a*((ps.length+1:Nat):Int)=a*(ps.length:Int)+a:=by rw[Int.natCast_add,Int.mul_add];simp
  have l:b*((ps.length+1:Nat):Int)=b*(ps.length:Int)+b:=by rw[Int.natCast_add,Int.mul_add];simp
  omega
def EY{f}{b}{ps}(j:ps.length<=5)(i:0<=b)(h:∀p,p∈ps->-b<=f p/\f p<=b):-(5*b)<=bv f ps/\bv f ps<=5*b:=by
 obtain⟨q,l⟩:=DO h;have:b*(ps.length:Int)<=b*5:=v6 (by omega) i;have e:(-b)*(ps.length:Int)=-(b*(ps.length:Int)):=He _ _;omega
def GD(p)(h:BdWaxOk p.1/\0<=p.2/\p.2<=20):af TP 400 [dG p] (.int .i64 (gy p)):=by
 refine ae (ag func400 rfl) rfl ?_;have e:=eo h;have hw:i64.wrap (gy p)=gy p:=ah;unfold gy at hw |-;simp[hw,go_sem]
def GE(p)(h:BdWaxOk p.1/\0<=p.2/\p.2<=20):af TP 401 [dG p] (.int .i64 (gz p)):=by
 refine ae (ag func401 rfl) rfl ?_;have e:=eo h;have hw:i64.wrap (gz p)=gz p:=ah;unfold gz at hw |-;simp[hw,go_sem]
def KU(p)(h:BdWaxOk p.1/\0<=p.2/\p.2<=20):af TP 402 [dG p] (.int .i64 (fw p)):=by
 refine ae (ag func402 rfl) rfl ?_;have e:=eo h;have hw:i64.wrap (fw p)=fw p:=ah;unfold fw at hw |-;simp[hw,go_sem]
def N0(p)(h:BdWaxOk p.1/\0<=p.2/\p.2<=20):af TP 403 [dG p] (.int .i64 (ic p)):=by
 refine ae (ag func403 rfl) rfl ?_;have e:=eo h;have hw:i64.wrap (ic p)=ic p:=ah;unfold ic at hw |-;simp[hw,go_sem]
def KT(p)(h:BdWaxOk p.1/\0<=p.2/\p.2<=20):af TP 322 [dG p] (.int .i64 (dh p)):=by
 refine ae (ag func322 rfl) rfl ?_;have e:=eo h;have hw:i64.wrap (dh p)=dh p:=ah;unfold dh at hw |-;simp[hw,go_sem]
def KS(p)(h:BdWaxOk p.1/\0<=p.2/\p.2<=20):af TP 404 [dG p] (.int .i64 (cq p)):=by
 refine ae (ag func404 rfl) rfl ?_;have e:=eo h;have hw:i64.wrap (cq p)=cq p:=ah;unfold cq at hw |-;refine zm ?_;refine aa (YW p.1.curve false p.2 h.1.curve) rfl ?_;simp[hw,go_sem]
def ur:AV:=.p (.agg [.str ⟨#[]⟩,.int .i64 0,.int .i64 0,.int .i64 0,.int .i64 0,.int .i64 0,.nilslice,.int .i64 0])
def ki (ps d_:Ps):List AV:=(d_.map λp=>.p (dG p))++List.replicate (ps.length-d_.length) ur
def F4{ps d_ r}{x}(h:ps=d_++x::r):(ki ps d_).length=ps.length:=by subst h;simp[ki]
def F5{ps d_ r}{x}(h:ps=d_++x::r):(ki ps d_)[d_.length]?=some ur:=by
 subst h;unfold ki;rw[dB (by simp)];simp
def F3{ps d_ r}{x}(h:ps=d_++x::r):(ki ps d_).set d_.length (.p (dG x))=ki ps (d_++[x]):=by
 subst h;have e:(d_++x::r).length-d_.length=((d_++x::r).length-(d_++[x]).length)+1:=by simp<;>omega
 unfold ki;rw[ra _ _ (by simp),e,GR];simp
def AN(n)(ps d_):(∀x,x∈ki ps d_->below n x)=True:=by
 refine eq_true λx hx=>?_;rcases cn.1 hx with h|h
 .obtain⟨p,_,rfl⟩:=cA.1 h;trivial
 .rw[List.eq_of_mem_replicate h];trivial
def s9 (ps:Ps):PV:=.slice 8 (ps.map dG) false
attribute [go_sem] s9
def YV(ps)(C A)(D:ps.length<=5):af TP 321 [.slice 7 (ps.map λp=>p.1.pv) C,.slice 1 (ps.map λp=>ay p.2) A] (s9 ps):=by
 refine bX (ag func321 rfl) rfl ?_;have j:((ps.length:Nat):Int)<=(ai:Int):=by simp[ai];omega
 have e:List.replicate ps.length ur=ki ps []:=by simp[ki]
 simp only[ur]at e;simp only[j,lP,e,go_sem,simprocAttr];refine aG [1,5,11,12] ps (by omega) (τ:=Unit) (λ_ _ _=>True) (λd_ _=>[(13,.p (.int .i64 d_.length))]) (λd_ _=>[.row 8 (ki ps d_)]) () trivial ?_ ?_ ?_
 .simp[AN,go_sem]
 .intro _ _;have u:(ki ps ps)=ps.map λp=>.p (dG p):=by simp[ki]
  simp only[dG]at u;refine zn u ?_;rfl
 .intro d_ x r _ i _ hx q l;have z:=F4 i;have y:=F5 i;have v:=F3 i;simp only[ur]at y;simp only[dG]at v;refine t_ q hx z y v ?_;refine am i () trivial ?_;simp[l,AN,go_sem]
def V0{e}(i)(p)(v)(h:la TP e [dG p] (.int .i64 v)):af TP 362 [.int .i64 i,dG p,.ptr 1 [e] 0 0] (.int .i64 v):=by
 refine ae (ag func362 rfl) rfl ?_;obtain⟨g,first,cap,rfl,j⟩:=h;refine zm ?_;refine aa j (by simp[dG]) ?_;simp[go_sem]
def vG{j}(ps)(f)(b)(q:ps.length<=5)(e:∀p,p∈ps->la TP j [dG p] (.int .i64 (f p))/\-1000000000<=f p/\f p<=1000000000)(l:∃g first cap,j=.func (.func g) first cap) :
  af TP 320 [.slice 8 (ps.map dG) b,j] (.int .i64 (bv f ps)):=by
 refine ae (ag func320 rfl) rfl ?_;obtain⟨g,first,cap,rfl⟩:=l;refine zm ?_;refine bq (Wy (fv:=.func (.func 362) [] [.ptr 1 [.func (.func g) first cap] 0 0]) ps (λ_ p=>f p) b 8 rfl (by omega) λi p hi=>⟨⟨_,_,_,rfl,V0 i p _ (e p (aB hi)).1⟩,(e p (aB hi)).2⟩) ?_ (.int _ _) ?_
 .simp[go_sem]
 .refine zm ?_;rw[Lm];rfl
def En(ps)(b)(h:PsOk ps):af TP 320 [.slice 8 (ps.map dG) b,.func (.func 400) [] []] (.int .i64 (bv gy ps)):=
 vG ps gy b h.len (λp e=>⟨⟨_,_,_,rfl,GD p (h.wax p e)⟩,by have:=eo (h.wax p e);omega⟩) ⟨_,_,_,rfl⟩
def Eo(ps)(b)(h:PsOk ps):af TP 320 [.slice 8 (ps.map dG) b,.func (.func 401) [] []] (.int .i64 (bv gz ps)):=
 vG ps gz b h.len (λp e=>⟨⟨_,_,_,rfl,GE p (h.wax p e)⟩,by have:=eo (h.wax p e);omega⟩) ⟨_,_,_,rfl⟩
def I7(ps)(b)(h:PsOk ps):af TP 320 [.slice 8 (ps.map dG) b,.func (.func 402) [] []] (.int .i64 (bv fw ps)):=
 vG ps fw b h.len (λp e=>⟨⟨_,_,_,rfl,KU p (h.wax p e)⟩,by have:=eo (h.wax p e);omega⟩) ⟨_,_,_,rfl⟩
def KO(ps)(b)(h:PsOk ps):af TP 320 [.slice 8 (ps.map dG) b,.func (.func 403) [] []] (.int .i64 (bv ic ps)):=
 vG ps ic b h.len (λp e=>⟨⟨_,_,_,rfl,N0 p (h.wax p e)⟩,by have:=eo (h.wax p e);omega⟩) ⟨_,_,_,rfl⟩
def zb(ps)(b)(h:PsOk ps):af TP 320 [.slice 8 (ps.map dG) b,.func (.func 322) [] []] (.int .i64 (bv dh ps)):=
 vG ps dh b h.len (λp e=>⟨⟨_,_,_,rfl,KT p (h.wax p e)⟩,by have:=eo (h.wax p e);omega⟩) ⟨_,_,_,rfl⟩
def I6(ps)(b)(h:PsOk ps):af TP 320 [.slice 8 (ps.map dG) b,.func (.func 404) [] []] (.int .i64 (bv cq ps)):=
 vG ps cq b h.len (λp e=>⟨⟨_,_,_,rfl,KS p (h.wax p e)⟩,by have:=eo (h.wax p e);omega⟩) ⟨_,_,_,rfl⟩
def DN{ps}(h:PsOk ps):(0<=bv gy ps/\bv gy ps<=200000)/\(0<=bv gz ps/\bv gz ps<=200000)/\(0<=bv fw ps/\bv fw ps<=100000)/\(0<=bv ic ps/\bv ic ps<=100000)/\(0<=bv dh ps/\bv dh ps<=10000000)/\-30000<=bv cq ps/\bv cq ps<=30000:=by
 have j:=h.len;have i:∀(f:BdWax×Int->Int) (b:Int),0<=b->(∀p,p∈ps->0<=f p/\f p<=b)->0<=bv f ps/\bv f ps<=5*b:=λf b q l=>by
  have v:=DO l;have u:=(EY (f:=f) j q λp e=>by have:=l p e;omega).2;omega
 refine⟨i _ 40000 (by omega) λp e=>(eo (h.wax p e)).1,i _ 40000 (by omega) λp e=>(eo (h.wax p e)).2.1,i _ 20000 (by omega) λp e=>(eo (h.wax p e)).2.2.1,i _ 20000 (by omega) λp e=>(eo (h.wax p e)).2.2.2.1,i _ 2000000 (by omega) λp e=>(eo (h.wax p e)).2.2.2.2.1,?_⟩;exact EY (b:=6000) j (by omega) λp e=>(eo (h.wax p e)).2.2.2.2.2
def l6 (ps:Ps):Span:=⟨bv gy ps+bv cq ps,bv gz ps+bv cq ps⟩
def ff (ps:Ps):Span:=⟨bv fw ps,bv ic ps⟩
def uB(ps)(b)(h:PsOk ps):af TP 392 [.slice 8 (ps.map dG) b] (.tuple [(l6 ps).pv,(ff ps).pv]):=by
 refine ae (dv (by kernel_rfl) rfl ZJ) rfl ?_;have j:=DN h;have i:i64.wrap (bv gy ps+bv cq ps)=bv gy ps+bv cq ps:=ah;have e:i64.wrap (bv gz ps+bv cq ps)=bv gz ps+bv cq ps:=ah;simp only[Zl,go_sem,simprocAttr];refine bw (zm ?_);refine aa (En ps b h) rfl (zm ?_);refine bw (zm ?_);refine aa (Eo ps b h) rfl (zm ?_);refine bw (zm ?_);refine aa (I7 ps b h) rfl (zm ?_);refine bw (zm ?_);refine aa (KO ps b h) rfl (zm ?_);refine bw (zm ?_);refine aa (I6 ps b h) rfl (zm ?_);refine bw ?_;simp[aD,i,e,l6,ff,go_sem]
def NU(ps:Ps)(A z:Bool)(h:PsOk ps):af TP 394 [.slice 7 (ps.map λp=>p.1.pv) A,.slice 1 (ps.map λp=>ay p.2) z] (.int .i64 (bv cq ps)):=by
 refine ae (ag func394 rfl) rfl ?_;have C:=h.len;refine zm ?_;refine eZ [0,1] ps (by omega) (τ:=Int) (λd_ rest n=>bv cq ps=n+bv cq rest/\-10000000*(d_.length:Int)<=n/\n<=10000000*(d_.length:Int)) (λd_ n=>[(6,.p (.int .i64 d_.length)),(5,.p (.int .i64 n))]) 0 ⟨by simp,by simp,by simp⟩ ?_ ?_ ?_
 .simp only[go_sem,simprocAttr]<;>simp
 .rintro n ⟨u,_⟩
  refine zm ?_;rw[u];simp[bv]
 .rintro d_ x r n q ⟨u,F,E⟩ hx v j
  have l:=h.wax x (by rw[q];simp);have D:=eo l;have hw:i64.wrap (cq x)=cq x:=ah;have i:i64.wrap (n+cq x)=n+cq x:=ah;have y:bv cq (x::r)=cq x+bv cq r:=by simp[bv]
  have e:∀k,k=n+cq x->bv cq ps=k+bv cq r/\-10000000*((d_++[x]).length:Int)<=k/\k<=10000000*((d_++[x]).length:Int):=by
   rintro k rfl
   refine⟨by rw[u,y];omega,by simp;omega,by simp;omega⟩
  unfold cq at hw i;refine zo v hx ?_
  first
   |(refine aj (L8 x.1.curve false x.2 l.1.curve) rfl (zo hw i ?_);refine am q (n+cq x) (e _ rfl) ?_
     simp[j,cq,go_sem])
   |(refine zo hw i ?_
     refine am q (n+cq x) (e _ rfl) ?_
     simp[j,cq,go_sem])
   |(refine am q (n+cq x) (e _ rfl) ?_
     simp[j,hw,i,cq,go_sem])
def QN(ps:Ps)(A z:Bool)(h:PsOk ps):af TP 273 [.slice 7 (ps.map λp=>p.1.pv) A,.slice 1 (ps.map λp=>ay p.2) z] (.int .i64 (bv dh ps)):=by
 refine ae (ag func273 rfl) rfl ?_;have C:=h.len;refine zm ?_;refine eZ [0,1] ps (by omega) (τ:=Int) (λd_ rest n=>bv dh ps=n+bv dh rest/\-10000000*(d_.length:Int)<=n/\n<=10000000*(d_.length:Int)) (λd_ n=>[(6,.p (.int .i64 d_.length)),(5,.p (.int .i64 n))]) 0 ⟨by simp,by simp,by simp⟩ ?_ ?_ ?_
 .simp only[go_sem,simprocAttr]<;>simp
 .rintro n ⟨u,_⟩
  refine zm ?_;rw[u];simp[bv]
 .rintro d_ x r n q ⟨u,F,E⟩ hx v j
  have l:=h.wax x (by rw[q];simp);have D:=eo l;have hw:i64.wrap (dh x)=dh x:=ah;have i:i64.wrap (n+dh x)=n+dh x:=ah;have y:bv dh (x::r)=dh x+bv dh r:=by simp[bv]
  have e:∀k,k=n+dh x->bv dh ps=k+bv dh r/\-10000000*((d_++[x]).length:Int)<=k/\k<=10000000*((d_++[x]).length:Int):=by
   rintro k rfl
   refine⟨by rw[u,y];omega,by simp;omega,by simp;omega⟩
  unfold dh at hw i;refine zo v hx ?_
  first
   |(refine aj (L8 x.1.curve false x.2 l.1.curve) rfl (zo hw i ?_);refine am q (n+dh x) (e _ rfl) ?_
     simp[j,dh,go_sem])
   |(refine zo hw i ?_
     refine am q (n+dh x) (e _ rfl) ?_
     simp[j,dh,go_sem])
   |(refine am q (n+dh x) (e _ rfl) ?_
     simp[j,hw,i,dh,go_sem])
def BD(ps:Ps)(M L:Bool)(h:PsOk ps):af TP 370 [.slice 7 (ps.map λp=>p.1.pv) M,.slice 1 (ps.map λp=>ay p.2) L] (.tuple [(l6 ps).pv,(ff ps).pv]):=by
 refine ae (dv (by kernel_rfl) rfl ZM) rfl ?_;have V:=h.len;have X:=DN h;simp only[OG,aD,go_sem,simprocAttr];refine aa (NU ps M L h) rfl (zm ?_)
 refine aG [0,1,4,5,7,8] ps (by omega) (τ:=(Int×Int)×(Int×Int)) (λd_ rest q=>(bv gy ps+bv cq ps=q.1.1+bv gy rest/\bv gz ps+bv cq ps=q.1.2+bv gz rest/\bv fw ps=q.2.1+bv fw rest/\bv ic ps=q.2.2+bv ic rest) /\
   (-30000<=q.1.1/\q.1.1<=30000+40000*(d_.length:Int))/\(-30000<=q.1.2/\q.1.2<=30000+40000*(d_.length:Int))/\(0<=q.2.1/\q.2.1<=20000*(d_.length:Int))/\(0<=q.2.2/\q.2.2<=20000*(d_.length:Int)))
  (λd_ _=>[(9,.p (.int .i64 d_.length))])
  (λ_ q=>[.row 2 [.p (.agg [.int .i64 0,.int .i64 0])],.row 2 [.p (.agg [.int .i64 0,.int .i64 0])],.row 2 [.p (.agg [.int .i64 q.1.1,.int .i64 q.1.2])],.row 2 [.p (.agg [.int .i64 q.2.1,.int .i64 q.2.2])]])
  ((bv cq ps,bv cq ps),(0,0)) ⟨⟨by simp[Int.add_comm],by simp[Int.add_comm],by simp,by simp⟩,by simp;omega,by simp;omega,by simp,by simp⟩ ?_ ?_ ?_
 .simp only[go_sem,simprocAttr]<;>simp
 .rintro⟨⟨a,b⟩,c,d⟩ ⟨⟨i,K,J,I⟩,_⟩
  simp[bv]at i K J I;simp only[OG,aD,l6,ff,go_sem,simprocAttr];simp[bv,i,K,J,I]
 .rintro d_ x r ⟨⟨a,b⟩,c,d⟩ i ⟨⟨G,F,E,D⟩,S,R,O,N⟩ hx u l
  dsimp only at G F E D S R O N;have j:=h.wax x (by rw[i];simp);have U:=eo j;have T:∀f:BdWax×Int->Int,bv f (x::r)=f x+bv f r:=λf=>by simp[bv]
  rw[T]at G F E D;have A:i64.wrap (gy x)=gy x:=ah;have z:i64.wrap (gz x)=gz x:=ah;have y:i64.wrap (fw x)=fw x:=ah;have v:i64.wrap (ic x)=ic x:=ah;have v1:i64.wrap (a+gy x)=a+gy x:=ah;have v2:i64.wrap (b+gz x)=b+gz x:=ah;have C:i64.wrap (c+fw x)=c+fw x:=ah;have v4:i64.wrap (d+ic x)=d+ic x:=ah
  have e:∀q:(Int×Int)×(Int×Int),q=((a+gy x,b+gz x),(c+fw x,d+ic x))->(bv gy ps+bv cq ps=q.1.1+bv gy r/\bv gz ps+bv cq ps=q.1.2+bv gz r/\bv fw ps=q.2.1+bv fw r/\bv ic ps=q.2.2+bv ic r) /\
   (-30000<=q.1.1/\q.1.1<=30000+40000*((d_++[x]).length:Int))/\(-30000<=q.1.2/\q.1.2<=30000+40000*((d_++[x]).length:Int))/\(0<=q.2.1/\q.2.1<=20000*((d_++[x]).length:Int))/\(0<=q.2.2/\q.2.2<=20000*((d_++[x]).length:Int)):=by
   rintro q rfl
   dsimp only;refine⟨⟨by omega,by omega,by omega,by omega⟩,?_,?_,?_,?_⟩<;>simp<;>omega
  unfold gy at A v1;unfold gz at z v2;unfold fw at y C;unfold ic at v v4;simp only[OG,aD,u,hx,A,z,y,v,v1,v2,C,v4,go_sem,simprocAttr];refine am i ((a+gy x,b+gz x),(c+fw x,d+ic x)) (e _ rfl) ?_;simp[l,gy,gz,fw,ic,go_sem]
end Abs
end Go.Proofs.YtgafommgcfhkkaaGreatDoor
