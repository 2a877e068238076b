/- CONTRACTS of the program's functions, and laws on what they return. No conditions but those in the theorems' heads. -/
import Derived.Test.YtmndpldajflenaaGreatDoorSoEX
set_option linter.all false
set_option maxHeartbeats 8000000
open Go.Proofs.Tryz
namespace Go.Proofs.YtmndpldajflenaaGreatDoor
namespace Abs
namespace So
set_option maxRecDepth 4000
def jI (s:SoSeason) (warm:List Int) (b2:Bool) (o:AObj) (f g:Int) (mid:Heap) (v1 v2:AV) (t:Heap):Heap:=
 [.row 6 [.p s.pv],.row 1 [.p (.slice 1 (warm.map intPV) b2)],.row 2 [.p (.agg [.int .i64 f,.int .i64 g])],.row 1 [.p (.int .i64 0)],.row 6 [.p s.pv],.dblock,o]++(mid++[.row 1 [v1],.row 1 [v2],.row 1 [.iptr 150 (mid.length+7),.iptr 153 (mid.length+8)]]++t)
attribute [go_sem] jI
theorem Gu{c:SoCandle}{n w:Int}(h:0<=n):0<=b7 c n w:=by unfold b7;split<;>omega
theorem Em{c:SoCandle}{n w:Int}(h:0<=n):b7 c n w<=n+1:=by unfold b7;split<;>omega
theorem Cm{c:SoCandle}{n w:Int}{l:Option Int}(h:0<=n):0<=fx c n l w/\fx c n l w<=n+1:=by unfold fx;split<;>omega
theorem EN{c:SoCandle}{l:Option Int}{n d:Int}:cQ c [] l n d=-1:=by cases l<;>rfl
theorem Cw{c:SoCandle}{w:Int}{r:List Int}{l:Option Int}{n d:Int}:cQ c (w::r) l n d=if(nS c l w&&fx c n l w==c.times)=true then d else cQ c r (some w) (fx c n l w) (d+1):=by
 cases l with
 |none=>rfl
 |some b=>
  show (if fG c b w then(if n+1=c.times then d else cQ c r (some w) (n+1) (d+1)) else cQ c r (some w) n (d+1))=_;unfold fx nS;cases h:fG c b w
  .simp[h]
  .simp[h]
def fatePV (a b:Int):PV:=.agg [.int .i64 a,.int .i64 b]
attribute [go_sem] fatePV
theorem cFate(s:SoSeason)(way warm:List Int)(b b2:Bool)(hwl0:way.length<1000000000)(h0:bO s way=0)(hlen:warm.length=way.length)
  (hfit:∀(d:Nat) (i w:Int),way[d]?=some i->warm[d]?=some w->an w (aF s i.toNat (d:Nat)).lo (aF s i.toNat (d:Nat)).hi=true) :
  PCall Tryz.prog 12 [s.pv,.slice 1 (way.map intPV) b,.slice 1 (warm.map intPV) b2] (.tuple [fatePV (dW s.candle warm 0 0) (cQ s.candle warm none 0 0),.int .i64 0]):=by
 obtain⟨h,hw⟩:=wayOk_of h0;have hwl:=hw.len;have hdy:=h.day8;have hwB:∀x,x∈warm->0<=x/\x<=60:=λx hx=>by
  obtain⟨d,hd⟩:=eL hx;have hdl:=(aA.1 hd).1;obtain⟨i,hi⟩:∃i,way[d]?=some i:=⟨_,aT (by omega)⟩
  have hf:=hfit d i x hi hd;have hio:=hw.all i (aV hi);have hwo:=warmAt_ok h hio.2 (d:=(d:Int)) (by omega) (by omega);simp[an]at hf;omega
 refine ae (ku (by kernel_rfl) rfl Pe) rfl ?_;simp only[go_sem,simprocAttr];refine aa (yZ s way b hwl0) rfl ?_;have hne:((warm.length:Int) != (way.length:Int))=false:=by simp;omega
 simp only[om,af,h0,hne,go_sem,simprocAttr];refine aa (GX s way b) rfl ?_;simp only[lP,go_sem,simprocAttr]
 refine xq (l:=(fB s way 0).map oO) (λo n g=>g=[.row 6 [.p s.pv],.row 1 [.p (.slice 1 (warm.map intPV) b2)],.row 2 [.p (.agg [.int .i64 0,.int .i64 0])],.row 1 [.p (.int .i64 0)],.row 6 [.p s.pv],.dblock,o]) (λ_ _=>False)
  rfl (by simp only[lP,go_sem,simprocAttr]) (Gt s way b h hw) mT (by kernel_rfl) (by kernel_rfl) (by kernel_rfl) ?_ ?_ ?_ ?_ (λ_ _ _ h=>h.elim)
 .rintro o n h rfl;simp
 .intro o;simp only[go_sem,simprocAttr]
 .rintro oR oB oD n xs lo mid hk rfl _
  rw[bU,bx]at hk;obtain⟨q,hq,rfl⟩:=hk;have hnl:n<way.length:=by have:=(aA.1 hq).1;rw[gX]at this;exact this
  obtain⟨i,hi⟩:∃i,way[n]?=some i:=⟨_,aT hnl⟩
  obtain⟨w,hwn⟩:∃w,warm[n]?=some w:=⟨_,aT (by omega)⟩
  have hq2:=along_at s way 0 n i hi;rw[eN,hq]at hq2;cases hq2;have hf:=hfit n i w hi hwn;have hlt:(n:Int)<(warm.length:Int):=by omega
  have mg:=iM (lo:=mid) rfl;have mgg:=pW (lo:=mid) rfl;have ms:=mr (lo:=mid) rfl;have mss:=pV (lo:=mid) rfl;simp only[om,af,oO,bJ,ay,aC,mg,mgg,ms,mss,hlt,hwn,go_sem,simprocAttr];refine ao (iN _ _ [_] true (by simp)) rfl ?_;simp only[om,af,eV,fC,fM,hf,go_sem,simprocAttr];exact⟨_,[AObj.row 2 [AV.p (aF s i.toNat (n:Nat)).pv]],by simp[Span.pv],rfl,rfl⟩
 .rintro o lo mid rfl _
  have mg:=iM (lo:=mid) rfl;have mgg:=pW (lo:=mid) rfl;have ms:=mr (lo:=mid) rfl;have mss:=pV (lo:=mid) rfl;have e7:mid.length+1+1+1+1+1+1+1=mid.length+7:=rfl;have e8:mid.length+7+1=mid.length+8:=rfl;have e9:mid.length+7+1+1=mid.length+9:=rfl;simp only[om,af,bJ,ay,aC,mg,mgg,ms,mss,e7,e8,go_sem,simprocAttr]
  refine lU [5,6,7,8,55,56] (σ:=Nat×AV×AV×Heap) (λq=>q.1<=2/\(q.1=0->oV q.2.1 0)/\(q.1<=1->oV q.2.2.1 0)) (λq=>2-q.1) (λq=>[(57,.p (.int .i64 q.1))])
   (λq=>jI s warm b2 .dead (if q.1=0 then -1 else dW s.candle warm 0 0) (if q.1<=1 then -1 else cQ s.candle warm none 0 0) mid q.2.1 q.2.2.1 q.2.2.2) (0,.p (.agg [.int .i64 0]),.p (.agg [.int .i64 0]),[]) ⟨by omega,λ_=>.inr rfl,λ_=>.inr rfl⟩ ?_ ?_ ?_
  .simp[jI,SoSeason.pv,SoSeason.cells]
  .simp only[bJ,ay,aC,mg,mgg,ms,mss,e7,e8,go_sem,simprocAttr]
  .rintro⟨k,v1,v2,t⟩ ⟨hk,hv1,hv2⟩
   dsimp only at hk hv1 hv2;have k2:k=0\/k=1\/k=2:=by omega
   rcases k2 with rfl|rfl|rfl
   .have hv:=hv1 rfl;have hv':=hv2 (by omega);simp only[bJ,ay,aC,mg,mgg,ms,mss,e7,e8,go_sem,simprocAttr]
    refine uG [5,6,7,8,12,55,56,57,62] warm (by omega) (τ:=AV×Int×Heap) (λdone rest q=>oV q.1 q.2.1/\0<=q.2.1/\q.2.1<=done.length/\dW s.candle warm 0 0=dW s.candle rest q.2.1 done.length) (λdone _=>[(63,.p (.int .i64 done.length))])
     (λ_ q=>jI s warm b2 .dead (-1) (-1) mid q.1 v2 q.2.2) (v1,0,t) ⟨hv,dF _,dF _,rfl⟩ ?_ ?_ ?_ ?_
    .simp[jI,SoSeason.pv,SoSeason.cells]
    .simp only[go_sem,simprocAttr]
    .rintro⟨v,n,u⟩ ⟨ov,n0,n1,e2⟩
     dsimp only at ov n0 n1 e2;rw[show dW s.candle [] n warm.length=-1 from rfl]at e2;simp only[om,af,bJ,ay,aC,mg,mgg,ms,mss,e7,e8,go_sem,simprocAttr];refine g9 (1,v,v2,u) ⟨by omega,by simp,λ_=>hv'⟩ (by dsimp only;omega) ?_ ?_
     .simp[jI,SoSeason.pv,SoSeason.cells,e2]
     .simp only[go_sem,simprocAttr]
    .rintro done w r ⟨v,n,u⟩ e1 ⟨ov,n0,n1,e2⟩ hx hlt hnx
     dsimp only at ov n0 n1 e2;rw[show dW s.candle (w::r) n done.length=if b7 s.candle n w=s.candle.days then(done.length:Int) else dW s.candle r (b7 s.candle n w) (done.length+1) from rfl]at e2;have hdl:done.length<1000:=by have:=congrArg List.length e1;simp at this;omega
     have wd:IntKind.i64.wrap ((done.length:Int)+1)=((done.length+1:Nat):Int):=az (by omega) (by simp[ai];omega) (by omega);have hle:((done.length+1:Nat):Int)<=(warm.length:Int):=by omega
     have htk:(warm.map intPV).take (done.length+1)=(done++[w]).map intPV:=by rw[<-qh,e1,show done++w::r=(done++[w])++r by simp,i6 (by simp)]
     simp only[om,af,bJ,co,ay,aC,mg,mgg,ms,mss,e7,e8,hlt,hx,wd,hle,htk,qa,go_sem,simprocAttr];refine WDB_call (NA _ (mid.length+7) v n s.candle done w _ ?_ ov ⟨n0,by omega⟩ hdl) (λx g hr=>?_) (λx g hr=>by cases hr.1)
     .simp[mg]
     obtain⟨hr,rfl⟩:=hr;cases hr;cases hd:(b7 s.candle n w==s.candle.days)
     .have hd':¬b7 s.candle n w=s.candle.days:=by simpa using hd
      rw[if_neg hd']at e2;simp only[om,af,bJ,co,ay,aC,mg,mgg,ms,mss,e7,e8,go_sem,simprocAttr];refine lV e1 (.p (.int .i64 (b7 s.candle n w)),b7 s.candle n w,u++[.row 4 [.p s.candle.pv]]) ⟨.inl rfl,Gu n0,by have:=Em (c:=s.candle) (w:=w) n0;simp;omega,by rw[e2];simp⟩ ?_ ?_
      .simp[jI,SoSeason.pv,SoSeason.cells,SoCandle.pv,SoCandle.cells]
      .simp only[hnx,go_sem,simprocAttr]
     .have hd':b7 s.candle n w=s.candle.days:=by simpa using hd
      rw[if_pos hd']at e2;simp only[om,af,bJ,co,ay,aC,mg,mgg,ms,mss,e7,e8,go_sem,simprocAttr];refine g9 (1,.p (.int .i64 (b7 s.candle n w)),v2,u++[.row 4 [.p s.candle.pv]]) ⟨by omega,by simp,λ_=>hv'⟩ (by dsimp only;omega) ?_ ?_
      .simp[jI,SoSeason.pv,SoSeason.cells,SoCandle.pv,SoCandle.cells,e2]
      .simp only[go_sem,simprocAttr]
   .have hv':=hv2 (by omega);simp only[om,af,bJ,co,ay,aC,mg,mgg,ms,mss,e7,e8,go_sem,simprocAttr]
    refine uG [5,6,7,8,12,55,56,57,62] warm (by omega) (τ:=AV×Int×Heap) (λdone rest q=>oV q.1 q.2.1/\0<=q.2.1/\q.2.1<=done.length/\cQ s.candle warm none 0 0=cQ s.candle rest done.getLast? q.2.1 done.length) (λdone _=>[(63,.p (.int .i64 done.length))])
     (λ_ q=>jI s warm b2 .dead (dW s.candle warm 0 0) (-1) mid v1 q.1 q.2.2) (v2,0,t) ⟨hv',dF _,dF _,rfl⟩ ?_ ?_ ?_ ?_
    .simp[jI,SoSeason.pv,SoSeason.cells]
    .simp only[go_sem,simprocAttr]
    .rintro⟨v,n,u⟩ ⟨ov,n0,n1,e2⟩
     dsimp only at ov n0 n1 e2;rw[EN]at e2;simp only[om,af,bJ,co,ay,aC,mg,mgg,ms,mss,e7,e8,go_sem,simprocAttr];refine g9 (2,v1,v,u) ⟨by omega,by simp,by simp⟩ (by dsimp only;omega) ?_ ?_
     .simp[jI,SoSeason.pv,SoSeason.cells,e2]
     .simp only[go_sem,simprocAttr]
    .rintro done w r ⟨v,n,u⟩ e1 ⟨ov,n0,n1,e2⟩ hx hlt hnx
     dsimp only at ov n0 n1 e2;rw[Cw]at e2;have hdl:done.length<1000:=by have:=congrArg List.length e1;simp at this;omega
     have wd:IntKind.i64.wrap ((done.length:Int)+1)=((done.length+1:Nat):Int):=az (by omega) (by simp[ai];omega) (by omega);have hle:((done.length+1:Nat):Int)<=(warm.length:Int):=by omega
     have htk:(warm.map intPV).take (done.length+1)=(done++[w]).map intPV:=by rw[<-qh,e1,show done++w::r=(done++[w])++r by simp,i6 (by simp)]
     have hBx:∀x,x∈done++[w]->0<=x/\x<=1000:=λx hx=>by have:=hwB x (by rw[e1];rcases gu.1 hx with h|h<;>simp_all);omega
     simp only[om,af,bJ,co,ay,aC,mg,mgg,ms,mss,e7,e8,hlt,hx,wd,hle,htk,qa,go_sem,simprocAttr];refine WDB_call (L2 _ (mid.length+8) v n s.candle done w _ ?_ ov ⟨n0,by omega⟩ hdl hBx) (λx g hr=>?_) (λx g hr=>by cases hr.1)
     .simp[mgg]
     obtain⟨hr,v',ov',rfl⟩:=hr;cases hr;have hjB:=Cm (c:=s.candle) (l:=done.getLast?) (w:=w) n0;cases hd:(nS s.candle done.getLast? w&&fx s.candle n done.getLast? w==s.candle.times)
     .rw[hd,if_neg (by decide)]at e2;simp only[om,af,bJ,co,ay,aC,mg,mgg,ms,mss,e7,e8,go_sem,simprocAttr];refine lV e1 (v',fx s.candle n done.getLast? w,u++[.row 4 [.p s.candle.pv]]) ⟨ov',hjB.1,by simp;omega,by rw[e2];simp⟩ ?_ ?_
      .simp[jI,SoSeason.pv,SoSeason.cells,SoCandle.pv,SoCandle.cells,mgg,mss]
      .simp only[hnx,go_sem,simprocAttr]
     .rw[hd,if_pos rfl]at e2;simp only[om,af,bJ,co,ay,aC,mg,mgg,ms,mss,e7,e8,go_sem,simprocAttr];refine g9 (2,v1,v',u++[.row 4 [.p s.candle.pv]]) ⟨by omega,by simp,by simp⟩ (by dsimp only;omega) ?_ ?_
      .simp[jI,SoSeason.pv,SoSeason.cells,SoCandle.pv,SoCandle.cells,e2,mgg,mss]
      .simp only[go_sem,simprocAttr]
   .simp only[om,af,bJ,co,ay,aC,mg,mgg,ms,mss,e7,e8,go_sem,simprocAttr];rw[lf];simp only[go_sem,simprocAttr]
theorem Mj(a c:List Int)(b1 b2)(ha:a.length<1000000000)(hc:c.length<1000000000):PCall Tryz.prog 42 [.slice 1 (a.map intPV) b1,.slice 1 (c.map intPV) b2] (.bool (a==c)):=by
 refine ae (am func42 rfl) rfl ?_;simp only[go_sem,simprocAttr];refine dT (λhb=>?_) (λhb=>?_)<;>simp only[hb,go_sem,simprocAttr]
 .have:¬(a=c):=λh=>by subst h;simp at hb
  simp[this]
 have hlen:a.length=c.length:=by simp[bne]at hb;omega
 refine oe [0,1] a ha (τ:=Unit) (λdone rest _=>c.take done.length=done) (λdone _=>[(5,.p (.int .i64 done.length))]) () (by simp) ?_ ?_ ?_
 .simp only[go_sem,simprocAttr]<;>simp
 .intro _ e2;rw[dz (by omega)]at e2;subst e2;simp only[go_sem,simprocAttr];simp
 .intro done x rest _ e1 e2 hx hlt hnx;have hlt2:(done.length:Int)<(c.length:Int):=by omega
  obtain⟨y,hy⟩:∃y,c[done.length]?=some y:=⟨_,aT (by omega)⟩
  simp only[hlt,hlt2,hx,hy,go_sem,simprocAttr];refine dT (λhb=>?_) (λhb=>?_)<;>simp only[hb,go_sem,simprocAttr]
  .have:¬(a=c):=λh=>by
    subst h;rw[hx]at hy;cases hy;simp at hb
   simp[this]
  .have hxy:x=y:=by simpa using hb
   refine aq e1 () (by rw[ay,aC,yQ,e2,hy,hxy];rfl) ?_;simp only[hnx,go_sem,simprocAttr]
theorem cInts1(a c:List Int)(b1 b2)(ha:a.length<1000000000)(hc:c.length<1000000000):PCall Tryz.prog 49 [.slice 1 (a.map intPV) b1,.slice 1 (c.map intPV) b2] (.bool (a==c)):=by
 refine ae (am func49 rfl) rfl ?_;simp only[go_sem,simprocAttr];refine dT (λhb=>?_) (λhb=>?_)<;>simp only[hb,go_sem,simprocAttr]
 .have:¬(a=c):=λh=>by subst h;simp at hb
  simp[this]
 have hlen:a.length=c.length:=by simp[bne]at hb;omega
 refine oe [0,1] a ha (τ:=Unit) (λdone rest _=>c.take done.length=done) (λdone _=>[(5,.p (.int .i64 done.length))]) () (by simp) ?_ ?_ ?_
 .simp only[go_sem,simprocAttr]<;>simp
 .intro _ e2;rw[dz (by omega)]at e2;subst e2;simp only[go_sem,simprocAttr];simp
 .intro done x rest _ e1 e2 hx hlt hnx;have hlt2:(done.length:Int)<(c.length:Int):=by omega
  obtain⟨y,hy⟩:∃y,c[done.length]?=some y:=⟨_,aT (by omega)⟩
  simp only[hlt,hlt2,hx,hy,go_sem,simprocAttr];refine dT (λhb=>?_) (λhb=>?_)<;>simp only[hb,go_sem,simprocAttr]
  .have:¬(a=c):=λh=>by
    subst h;rw[hx]at hy;cases hy;simp at hb
   simp[this]
  .have hxy:x=y:=by simpa using hb
   refine aq e1 () (by rw[ay,aC,yQ,e2,hy,hxy];rfl) ?_;simp only[hnx,go_sem,simprocAttr]
def nG (c:SoCandle) (q:Int×Int×List Int) (w:Span):Int×Int×List Int:=(iF c q.1 w,max q.2.1 (iF c q.1 w),f' c w q.2.2)
def i8 (c:SoCandle) (l:List Span):Int×Int×List Int:=l.foldl (nG c) (0,0,b9)
structure RkOk (q:Int×Int×List Int) (k:Nat):Prop where
 hot:0<=q.1/\q.1<=k
 most:0<=q.2.1/\q.2.1<=k
 len:q.2.2.length=61
 num:∀n,n∈q.2.2->0<=n/\n<=k+1
theorem CX{c:SoCandle}{q:Int×Int×List Int}{k:Nat}(h:RkOk q k)(w:Span):RkOk (nG c q w) (k+1):=by
 have hh:0<=iF c q.1 w/\iF c q.1 w<=((k+1:Nat):Int):=by have:=h.hot;unfold iF;split<;>omega
 refine⟨hh,?_,eJ,λn hn=>?_⟩
 .have:=h.most;show 0<=max q.2.1 (iF c q.1 w)/\max q.2.1 (iF c q.1 w)<=((k+1:Nat):Int)
  omega
 .have:=wY (B:=(k:Int)+2) (by omega) (λn hn=>by have:=h.num n hn;omega) n hn;omega
theorem CW:RkOk (0,0,b9) 0:=⟨by decide,by decide,by decide,λn hn=>by have:n=0:=List.eq_of_mem_replicate hn;omega⟩
theorem z6{c:SoCandle}:∀(l:List Span) (q:Int×Int×List Int) (k:Nat),RkOk q k->RkOk (l.foldl (nG c) q) (k+l.length)
 |[],q,k,h=>h
 |w::l,q,k,h=>by
  have:=z6 (c:=c) l _ _ (CX (c:=c) h w);rw[np,du,show k+(l.length+1)=k+1+l.length by omega];exact this
theorem FB{c:SoCandle}{l:List Span}{w:Span}:i8 c (l++[w])=nG c (i8 c l) w:=by unfold i8;rw[oY];rfl
def pJ (s:SoSeason) (way:List Int):PV:=if bO s way=0 then .tuple [.int .i64 (i8 s.candle (cH s way)).2.1,.int .i64 (jE (i8 s.candle (cH s way)).2.2),.int .i64 0] else .tuple [.int .i64 0,.int .i64 0,.int .i64 (bO s way)]
theorem GQ(s:SoSeason)(way:List Int)(b:Bool)(hwl0:way.length<1000000000):PCall Tryz.prog 38 [s.pv,.slice 1 (way.map intPV) b] (pJ s way):=by
 refine ae (am func38 rfl) rfl ?_;simp only[go_sem,simprocAttr];refine aa (yZ s way b hwl0) rfl ?_;simp only[go_sem,simprocAttr];cases h0:(bO s way != 0)
 rotate_left
 .have h0':¬bO s way=0:=by simpa using h0
  simp only[pJ,if_neg h0',go_sem,simprocAttr]
 have h0':bO s way=0:=by simpa using h0
 obtain⟨h,hw⟩:=wayOk_of h0';have hwl:=hw.len;have hdy:=h.day8;simp only[go_sem,simprocAttr];refine aa (GX s way b) rfl ?_;simp only[lP,go_sem,simprocAttr]
 refine xq (l:=(fB s way 0).map oO) (λo n g=>g=[.row 6 [.p s.pv],.row 1 [.p (.int .i64 (i8 s.candle ((cH s way).take n)).2.1)],.row 6 [.p s.pv],.row 61 [.p (.agg ((i8 s.candle ((cH s way).take n)).2.2.map intPV))],.row 1 [.p (.int .i64 (i8 s.candle ((cH s way).take n)).1)],.dblock,o]) (λ_ _=>False)
  rfl (by simp only[lP,go_sem,simprocAttr]) (Gt s way b h hw) mT (by kernel_rfl) (by kernel_rfl) (by kernel_rfl) ?_ ?_ ?_ ?_ (λ_ _ _ h=>h.elim)
 .rintro o n h rfl;simp
 .intro o;have zl:b9.length=61:=by decide
  have hr0:i8 s.candle []=(0,0,b9):=rfl;simp only[List.take_zero,hr0,<-IZ,go_sem,simprocAttr]
 .rintro oR oB oD n xs lo mid hk rfl _
  rw[bU,bx]at hk;obtain⟨q,hq,rfl⟩:=hk;have hnl:n<way.length:=by have:=(aA.1 hq).1;rw[gX]at this;exact this
  obtain⟨i,hi⟩:∃i,way[n]?=some i:=⟨_,aT hnl⟩
  have hq2:=along_at s way 0 n i hi;rw[eN,hq]at hq2;cases hq2;have hio:=hw.all i (aV hi);have hwo:=warmAt_ok h hio.2 (d:=(n:Int)) (by omega) (by omega);have hwt:(cH s way).take (n+1)=(cH s way).take n++[aF s i.toNat (n:Nat)]:=by rw[yQ,CT hi];rfl
  have hro:=z6 (c:=s.candle) ((cH s way).take n) _ _ CW;have hln:((cH s way).take n).length<=8:=by simp[qq];omega
  have hrs:=FB (c:=s.candle) (l:=(cH s way).take n) (w:=aF s i.toNat (n:Nat));rw[<-hwt]at hrs;change RkOk (i8 s.candle ((cH s way).take n)) _ at hro;have hro2:=CX (c:=s.candle) hro (aF s i.toNat (n:Nat));generalize hW:aF s i.toNat (n:Nat)=W at hwo hrs hro2;generalize hG:i8 s.candle ((cH s way).take n)=G at hro hrs hro2;obtain⟨g1,g2,g3⟩:=G;have mg:=iM (lo:=mid) rfl;have mgg:=pW (lo:=mid) rfl;have ms:=mr (lo:=mid) rfl;have mss:=pV (lo:=mid) rfl;have hgl:=hro.len;have hgn:=hro.num;have hgh:=hro.hot;dsimp only at hgl hgn hgh;simp only[oO,hW,hG,bJ,ay,aC,mg,mgg,ms,mss,go_sem,simprocAttr];refine ao (Mn s.candle g1 W (by omega)) rfl ?_;simp only[hgl,bJ,ay,aC,mg,mgg,ms,mss,go_sem,simprocAttr];refine ao (EJ g3 s.candle W hgl (λm hm=>by have:=hgn m hm;omega) hwo) rfl ?_;simp only[hgl,eJ,bJ,ay,aC,mg,mgg,ms,mss,if_max,go_sem,simprocAttr];exact⟨[.row 6 [.p s.pv],.row 1 [.p (.int .i64 (max g2 (iF s.candle g1 W)))],.row 6 [.p s.pv],.row 61 [.p (.agg ((f' s.candle W g3).map intPV))],.row 1 [.p (.int .i64 (iF s.candle g1 W))],.dblock,oR],[AObj.row 2 [AV.p W.pv]],by simp[Span.pv,SoSeason.pv,SoSeason.cells],rfl,by simp[hrs,nG,SoSeason.pv,SoSeason.cells]⟩
 .rintro o lo mid rfl _
  have hro:=z6 (c:=s.candle) (cH s way) _ _ CW;change RkOk (i8 s.candle (cH s way)) _ at hro;have hwl2:=qq s way;have htk:(cH s way).take (List.length (List.map oO (fB s way 0)))=cH s way:=by rw[dz (by simp[qq,gX])]
  rw[htk];simp only[hro.len,go_sem,simprocAttr];refine ao (EK _ hro.len λn hn=>by have:=hro.num n hn;omega) rfl ?_;simp only[hro.len,pJ,if_pos h0',go_sem,simprocAttr];rw[lf];simp only[go_sem,simprocAttr]
def tf (s:SoSeason) (i:Int):Int:=((s.stores[i.toNat]?).map (·.rent)).getD 0
def vm (s:SoSeason) (p:Option Int) (i:Int):Int:=match p with|some q=>if i=q then 0 else s.move|none=>0
def oP (s:SoSeason):List Int->Option Int->Int->Int
 |[],_,c=>c
 |i::l,p,c=>oP s l (some i) (c+tf s i+vm s p i)
def vP (s:SoSeason) (way:List Int):PV:=if bO s way=0 then .tuple [.int .i64 (oP s way none 0),.int .i64 0] else .tuple [.int .i64 0,.int .i64 (bO s way)]
theorem NL(s:SoSeason)(way:List Int)(b:Bool)(hwl0:way.length<1000000000):PCall Tryz.prog 40 [s.pv,.slice 1 (way.map intPV) b] (vP s way):=by
 refine ae (am func40 rfl) rfl ?_;simp only[go_sem,simprocAttr];refine aa (yZ s way b hwl0) rfl ?_;simp only[go_sem,simprocAttr];cases h0:(bO s way != 0)
 rotate_left
 .have h0':¬bO s way=0:=by simpa using h0
  simp only[vP,if_neg h0',go_sem,simprocAttr]
 have h0':bO s way=0:=by simpa using h0
 obtain⟨h,hw⟩:=wayOk_of h0';have hwl:=hw.len;have hdy:=h.day8;have hmv:=h.move;simp only[go_sem,simprocAttr];refine bt [1,6,18,19] way (by omega) (τ:=Int) (λdone rest c=>oP s way none 0=oP s rest done.getLast? c/\0<=c/\c<=200000*done.length) (λdone c=>[(4,.p (.int .i64 c)),(20,.p (.int .i64 done.length))]) (λ_ _=>[.row 6 [.p s.pv],.row 6 [.p s.pv]]) 0 ⟨rfl,by decide,by decide⟩ ?_ ?_ ?_
 .simp only[go_sem,simprocAttr]<;>simp
 .rintro c ⟨e2,_⟩
  rw[show oP s [] way.getLast? c=c from rfl]at e2;simp only[vP,if_pos h0',e2,go_sem,simprocAttr]
 .rintro done i r c e1 ⟨e2,c0,c1⟩ hx hlt hnx
  have hi:=hw.all i (by rw[e1];simp);obtain⟨y,hy⟩:∃y,s.stores[i.toNat]?=some y:=⟨_,aT hi.2⟩
  have hyr:=h.rent y (aV hy);have hra:tf s i=y.rent:=by unfold tf;rw[hy];rfl
  have i1:i<(s.stores.length:Int):=by omega
  have hdl:done.length<way.length:=by omega
  have w1:IntKind.i64.wrap (c+y.rent)=c+y.rent:=aj (by omega) (by omega);have w2:IntKind.i64.wrap (c+y.rent+s.move)=c+y.rent+s.move:=aj (by omega) (by omega);rw[show oP s (i::r) done.getLast? c=oP s r (some i) (c+tf s i+vm s done.getLast? i) from rfl,hra]at e2;have hcc:done=[]\/∃vs x,done=vs++[x]:=by
   rcases zy done with h|⟨vs,x,h⟩
   .exact .inl h
   .exact .inr ⟨vs,x,by rw[h,DD]⟩
  rcases hcc with rfl|⟨vs,x,rfl⟩
  .have hpos:(0:Int)<(way.length:Int):=by omega
   have hx0:way[0]?=some i:=hx;have hm0:vm s ([]:List Int).getLast? i=0:=rfl;rw[hm0,mH]at e2;have c1':c<=0:=by simpa using c1
   simp only[hpos,hx0,hi.1,i1,hy,w1,go_sem,simprocAttr];refine aq e1 (c+y.rent) ⟨e2,by omega,by simp;omega⟩ ?_;simp only[go_sem,simprocAttr]
  .have hgl:(vs++[x]).getLast?=some x:=by simp
   have hvx:way[vs.length]?=some x:=by rw[e1];simp
   have hll:(vs++[x]).length=vs.length+1:=by simp
   have hmx:vm s (some x) i=if i=x then 0 else s.move:=rfl
   rw[hgl,hmx]at e2;rw[hll]at hlt hx hnx hdl c1;have hpos:decide ((0:Int)<((vs.length+1:Nat):Int))=true:=decide_eq_true (by omega);have w3:IntKind.i64.wrap (((vs.length+1:Nat):Int)-1)=(vs.length:Int):=(aj (by omega) (by omega)).trans (by omega);have i2:(vs.length:Int)<(way.length:Int):=by omega
   have hnx2:IntKind.i64.wrap (((vs.length+1:Nat):Int)+1)=((vs++[x]++[i]).length:Nat):=hnx;have hge:(vs++[x]++[i]).getLast?=some i:=by simp
   generalize hL:vs.length+1=L at hlt hx hpos w3 hll c1 hdl hnx2;have hT:((L:Nat):Int).toNat=L:=by omega
   simp only[hll,hlt,hx,hi.1,i1,hy,w1,hpos,w3,hvx,i2,hT,go_sem,simprocAttr];cases hne:(i != x)
   .have hne':i=x:=by simpa using hne
    rw[if_pos hne',mH]at e2;simp only[go_sem,simprocAttr];refine aq e1 (c+y.rent) ⟨by rw[hge];exact e2,by omega,by simp;omega⟩ ?_;simp only[hll,hnx2,go_sem,simprocAttr]
   .have hne':¬i=x:=by simpa using hne
    rw[if_neg hne']at e2;simp only[w2,go_sem,simprocAttr];refine aq e1 (c+y.rent+s.move) ⟨by rw[hge];exact e2,by omega,by simp;omega⟩ ?_;simp only[hll,hnx2,go_sem,simprocAttr]
def l5 (s:SoSeason) (store:Nat):Nat->State->Int->Int
 |0,_,n=>n
 |k+1,x,n=>if pP s (aO s x store)=true then l5 s store k (aO s x store) (n+1) else n
def pT (s:SoSeason) (store day:Int):PV:=
 if(aD s).2.2=0 then(if an store 0 ((s.stores.length:Int)-1)=true/\an day 0 ((days s:Int)-1)=true then .tuple [.int .i64 (l5 s store.toNat (days s-day.toNat) ⟨day-1,-1,0,b9⟩ 0),.int .i64 0] else .tuple [.int .i64 0,.int .i64 4])
 else .tuple [.int .i64 0,.int .i64 (aD s).2.2]
theorem IF{s:SoSeason}{d:Nat}(hd:d<=days s):StOk s ⟨(d:Int)-1,-1,0,b9⟩ d where
 day:=rfl
 le:=hd
 hot:=by dsimp only;omega
 len:=by show b9.length=61;decide
 num:=λn hn=>by
  have:n=0:=List.eq_of_mem_replicate hn;omega
theorem Mi(s:SoSeason)(store day:Int):PCall Tryz.prog 41 [s.pv,.int .i64 store,.int .i64 day] (pT s store day):=by
 refine ae (am func41 rfl) rfl ?_;simp only[go_sem,simprocAttr];refine aa (Bm s) rfl ?_;simp only[cd,go_sem,simprocAttr];cases h0:((aD s).2.2 != 0)
 rotate_left
 .have h0':¬(aD s).2.2=0:=by simpa using h0
  simp only[pT,if_neg h0',go_sem,simprocAttr]
 have h0':(aD s).2.2=0:=by simpa using h0
 have h:=soOk_of h0';have hdy:=h.day8;have hsl:=h.len;have hne:s.stores≠[]:=by intro e;have:=h.len;rw[e]at this;simp at this
 have w0:IntKind.i64.wrap ((s.stores.length:Int)-1)=s.stores.length-1:=aj (by omega) (by omega);have w1:IntKind.i64.wrap ((days s:Int)-1)=days s-1:=aj (by omega) (by omega);have hS:pT s store day=if an store 0 ((s.stores.length:Int)-1)=true/\an day 0 ((days s:Int)-1)=true then .tuple [.int .i64 (l5 s store.toNat (days s-day.toNat) ⟨day-1,-1,0,b9⟩ 0),.int .i64 0] else .tuple [.int .i64 0,.int .i64 4]:=by rw[pT,if_pos h0']
 simp only[w0,go_sem,simprocAttr];refine aa (iN 0 ((s.stores.length:Int)-1) [_] true (by simp)) rfl ?_;simp only[eV,fC,fM,go_sem,simprocAttr];cases h1:an store 0 ((s.stores.length:Int)-1)
 .rw[if_neg (by rw[h1];simp)]at hS;simp only[hS,go_sem,simprocAttr]
 simp only[go_sem,simprocAttr];refine aa (tB s hne) rfl ?_;simp only[w1,go_sem,simprocAttr];refine aa (iN 0 ((days s:Int)-1) [_] true (by simp)) rfl ?_;simp only[eV,fC,fM,go_sem,simprocAttr];cases h2:an day 0 ((days s:Int)-1)
 .rw[if_neg (by rw[h2];simp)]at hS;simp only[hS,go_sem,simprocAttr]
 rw[if_pos ⟨h1,h2⟩]at hS;simp only[an,bY,decide_eq_true_eq]at h1 h2;obtain⟨d,rfl⟩:∃d:Nat,day=d:=⟨day.toNat,by omega⟩
 obtain⟨i,rfl⟩:∃i:Nat,store=i:=⟨store.toNat,by omega⟩
 rw[uc,uc]at hS;rw[hS];have zl:b9.length=61:=by decide
 simp only[go_sem,simprocAttr];refine aa (vV d (by omega)) rfl ?_;simp only[zl,go_sem,simprocAttr]
 refine aS [1,8,9] (σ:=Nat×State×Int) (λq=>q.1<=days s/\StOk s q.2.1 (days s-q.1)/\0<=q.2.2/\q.2.2+q.1<=days s/\l5 s i (days s-d) ⟨(d:Int)-1,-1,0,b9⟩ 0=l5 s i q.1 q.2.1 q.2.2) (λq=>q.1)
  (λq=>[(6,.p (.int .i64 q.2.2))]) (λq=>[.row 6 [.p s.pv],.row 6 [.p s.pv],.row 64 [.p q.2.1.pv]]) (days s-d,⟨(d:Int)-1,-1,0,b9⟩,0) ⟨by omega,by rw[show days s-(days s-d)=d by omega];exact IF (by omega),dF _,by dsimp only;omega,rfl⟩ ?_ ?_
 .simp only[zl,go_sem,simprocAttr]
 rintro⟨n,x,m⟩ ⟨hn,hx,m0,m1,e2⟩
 dsimp only at hn hx m0 m1 e2;simp only[hx.len,go_sem,simprocAttr];refine ao (tB s hne) rfl ?_;simp only[w1,hx.len,go_sem,simprocAttr]
 cases n with
 |zero=>
  have hlt:¬x.day<(days s:Int)-1:=by rw[hx.day];omega
  simp only[hlt,decide_false,e2,l5,go_sem,simprocAttr]
 |succ n=>
  have hlt:x.day<(days s:Int)-1:=by rw[hx.day];omega
  have hk1:days s-n=days s-(n+1)+1:=by omega
  have haf:=rq h (i:=i) hx (by omega);rw[<-hk1]at haf;have wm:IntKind.i64.wrap (m+1)=m+1:=aj (by omega) (by omega);simp only[hlt,decide_true,hx.len,go_sem,simprocAttr];refine aa (Bn s h x (days s-(n+1)) i (by omega) hx (by omega)) rfl ?_;simp only[hx.len,haf.len,go_sem,simprocAttr];rw[show l5 s i (n+1) x m=if pP s (aO s x i)=true then l5 s i n (aO s x i) (m+1) else m from rfl]at e2;cases hok:pP s (aO s x i)
  .rw[hok,if_neg (by decide)]at e2;simp only[e2,go_sem,simprocAttr]
  .rw[hok,if_pos rfl]at e2;simp only[wm,go_sem,simprocAttr];refine ak (n,aO s x i,m+1) ⟨by dsimp only;omega,haf,by dsimp only;omega,by dsimp only;omega,e2⟩ (by dsimp only;omega) ?_;simp only[haf.len,go_sem,simprocAttr]
end So
end Abs
end Go.Proofs.YtmndpldajflenaaGreatDoor
