/- CONTRACTS of the program's functions, and laws on what they return. No conditions but those in the theorems' heads. -/
import Derived.Test.YtmndpldajflenaaGreatDoorSoHX
import Derived.Test.YtmndpldajflenaaGreatDoorTrWX
import Derived.Shelf.Strings.OnBuilder
set_option linter.all false
set_option maxHeartbeats 8000000
open Go.Proofs.Tryz renaming prog->TP
open Go.Proofs.Tryz
namespace Go.Proofs.YtmndpldajflenaaGreatDoor
namespace Abs
namespace So
set_option maxRecDepth 4000
theorem Ix:iP TP 108=some 488:=by kernel_rfl
attribute [go_sem] Ix
def dA (s:SoSeason) (way:List Int) (j:Nat):List Int:=rU s (way.drop j) j
theorem Lp{s:SoSeason}{way:List Int}{j:Nat}{i:Int}(h:way[j]?=some i):dA s way j=f' s.candle (aF s i.toNat (j:Nat)) (dA s way (j+1)):=by
 unfold dA;obtain⟨hl,he⟩:=aA.1 h;rw[rN hl,he,rU];rfl
theorem JD{s:SoSeason}{way:List Int}:dA s way way.length=b9:=by unfold dA;rw[List.drop_length];rfl
theorem wG{s:SoSeason}:∀(l:List Int) (d:Int),(rU s l d).length=61
 |[],_=>by show b9.length=61;decide
 |i::l,d=>eJ
theorem yS{s:SoSeason}:∀(l:List Int) (d:Int) (n:Int),n∈rU s l d->0<=n/\n<=l.length+1
 |[],_,n,h=>by have:n=0:=List.eq_of_mem_replicate h;simp;omega
 |i::l,d,n,h=>by
  have:=wY (B:=(l.length:Int)+2) (by omega) (λm hm=>by have:=yS l (d+1) m hm;omega) n h;simp;omega
def kj (s:SoSeason) (way:List Int) (k:Nat):List AV:=(List.range (way.length+1)).map λj=>.p (.agg ((if k<=j then dA s way j else b9).map intPV))
theorem HF(s:SoSeason)(way:List Int)(k:Nat):(kj s way k).length=way.length+1:=by simp[kj]
theorem dp(s:SoSeason)(way:List Int)(k n:Nat):∀x,x∈kj s way k->below n x:=λx hx=>by
 obtain⟨j,_,rfl⟩:=eK.1 hx;trivial
theorem DX(s:SoSeason)(way:List Int):List.replicate (way.length+1) (AV.p (.agg (cI 61 λ_=>0)))=kj s way way.length:=by
 unfold kj;rw[IZ];refine iv λj=>?_;rw[bU];by_cases h:j<way.length+1
 .rw[List.getElem?_range h,zu,if_pos h];by_cases h2:j=way.length
  .subst h2;simp[JD]
  .have:¬way.length<=j:=by omega
   simp[this]
 .rw[fq (by simp;omega),fq (by simp;omega)];rfl
theorem uk(s:SoSeason)(way:List Int)(k j:Nat)(hj:j<=way.length)(hk:k<=j):(kj s way k)[j]?=some (.p (.agg ((dA s way j).map intPV))):=by
 unfold kj;rw[bU,List.getElem?_range (by omega)];simp[hk]
theorem HD(s:SoSeason)(way:List Int)(k j:Nat)(hj:j<=way.length)(hk:j<k):(kj s way k)[j]?=some (.p (.agg (b9.map intPV))):=by
 unfold kj;rw[bU,List.getElem?_range (by omega)];simp[show ¬k<=j by omega]
theorem HC(s:SoSeason)(way:List Int)(d:Nat):(kj s way (d+1)).set d (.p (.agg ((dA s way d).map intPV)))=kj s way d:=by
 unfold kj;rw[jk];refine lv λj _=>?_;by_cases h:j=d
 .subst h;simp
 .rw[if_neg h];by_cases h2:d+1<=j
  .rw[if_pos h2,if_pos (by omega)]
  .rw[if_neg h2,if_neg (by omega)]
theorem Ni(s:SoSeason)(way ws:List Int)(b:Bool)(hwl0:way.length<1000000000)(h0:bO s way=0)(hs:uX s way 0 none (jE (dA s way 0)+1)=some ws) :
  eS TP 39 [s.pv,.slice 1 (way.map intPV) b] (.tuple [.slice 1 (ws.map intPV) false,.int .i64 0]):=by
 obtain⟨h,hw⟩:=wayOk_of h0;have hwl:=hw.len;have hdy:=h.day8;refine di (am func39 rfl) rfl ?_;simp only[go_sem,simprocAttr];refine aa (yZ s way b hwl0) rfl ?_;have w1:IntKind.i64.wrap ((way.length:Int)+1)=((way.length+1:Nat):Int):=az (by omega) (by simp[ai];omega) (by omega);have w2:IntKind.i64.wrap ((way.length:Int)-1)=(way.length:Int)-1:=aj (by omega) (by omega);have hrm:((way.length+1:Nat):Int)<=((ai:Nat):Int):=by unfold ai;omega
 have r0:=DX s way;simp only[h0,w1,w2,hrm,r0,go_sem,simprocAttr];refine aS [1,4,6,7] (σ:=Nat) (λk=>k<=way.length) (λk=>k) (λk=>[(8,.p (.int .i64 ((k:Int)-1)))]) (λk=>[.row 6 [.p s.pv],.row 6 [.p s.pv],.row 61 (kj s way k)]) way.length (aJ _) ?_ ?_
 .simp only[go_sem,simprocAttr];exact dp s way _ 3
 intro k hk;have hjl:=HF s way k;have j0:dA s way 0=rU s way 0:=rfl
 cases k with
 |succ d=>
  have hdl:d<way.length:=by omega
  obtain⟨i,hi⟩:∃i,way[d]?=some i:=⟨_,aT hdl⟩
  have hio:=hw.all i (aV hi);obtain⟨y,hy⟩:∃y,s.stores[i.toNat]?=some y:=⟨_,aT hio.2⟩
  have hyl:=h.same y (aV hy);have hwm:=oA hy (d:=(d:Int)) (by omega) (by omega);have hwo:=warmAt_ok h hio.2 (d:=(d:Int)) (by omega) (by omega);rw[uc]at hwm;have c1:((d+1:Nat):Int)-1=(d:Int):=by omega
  have c2:decide ((0:Int)<=(d:Int))=true:=decide_eq_true (by omega);have c3:IntKind.i64.wrap ((d:Int)+1)=((d+1:Nat):Int):=az (by omega) (by simp[ai];omega) (by omega);have c4:((d+1:Nat):Int)<((way.length+1:Nat):Int):=by omega
  have c5:(d:Int)<((way.length+1:Nat):Int):=by omega
  have c6:IntKind.i64.wrap ((d:Int)-1)=(d:Int)-1:=aj (by omega) (by omega);have c7:(d:Int)<(way.length:Int):=by omega
  have c8:i<(s.stores.length:Int):=by omega
  have c9:(d:Int)<(y.warm.length:Int):=by omega
  have g1:=uk s way (d+1) (d+1) (by omega) (aJ _);have g2:=HD s way (d+1) d (by omega) (by omega);have g3:=HC s way d;have gl:=wG (s:=s) (way.drop (d+1)) ((d+1:Nat):Int);have gB:=yS (s:=s) (way.drop (d+1)) ((d+1:Nat):Int);change (dA s way (d+1)).length=61 at gl;change ∀n,n∈dA s way (d+1)->0<=n/\n<=((way.drop (d+1)).length:Int)+1 at gB;have hn:=Lp (s:=s) hi;have zl:b9.length=61:=by decide
  have nl:=eJ (c:=s.candle) (w:=aF s i.toNat (d:Nat)) (j:=dA s way (d+1));rw[<-hn]at nl;generalize hL:d+1=L at c1 c3 c4 g1 g2 g3 gl gB hjl hn;simp only[c1,c2,c3,c4,c5,c7,hjl,g1,gl,hi,hio.1,c8,hy,c9,hwm,go_sem,simprocAttr];refine ao (EJ (dA s way L) s.candle _ gl (λn hm=>by have:=gB n hm;simp at this;omega) hwo) rfl ?_;simp only[c1,c2,c3,c4,c5,c6,c7,hjl,g1,gl,hi,hio.1,c8,hy,c9,hwm,<-hn,g2,zl,nl,g3,go_sem,simprocAttr];refine ak d (by omega) (by omega) ?_;simp only[go_sem,simprocAttr]
  exact dp s way _ 3
 |zero=>
  have c4:(0:Int)<((way.length+1:Nat):Int):=by omega
  have g1:=uk s way 0 0 (by omega) (aJ _);have gl:=wG (s:=s) (way.drop 0) ((0:Nat):Int);have gB:=yS (s:=s) (way.drop 0) ((0:Nat):Int);change (dA s way 0).length=61 at gl;change ∀n,n∈dA s way 0->0<=n/\n<=((way.drop 0).length:Int)+1 at gB;have gB2:∀n,n∈dA s way 0->0<=n/\n<=900:=λn hn=>by have:=gB n hn;simp at this;omega
  have hne:dA s way 0≠[]:=by intro e;rw[e]at gl;simp at gl
  have hmB:=D' _ hne gB2;have wl:IntKind.i64.wrap (jE (dA s way 0)+1)=jE (dA s way 0)+1:=aj (by unfold jE;omega) (by unfold jE;omega);simp only[hjl,c4,g1,gl,go_sem,simprocAttr];refine aa (EK _ gl λn hn=>by have:=gB2 n hn;omega) rfl ?_;simp only[wl,go_sem,simprocAttr];refine dq 4 1 (by simp only[go_sem,simprocAttr]) ?_;simp only[go_sem,simprocAttr]
  refine bt [6,7,65] way (by omega) (τ:=List Int×Int) (λdone rest q=>q.1.length=done.length/\(∀v,v∈q.1->0<=v/\v<=60)/\∃tl,uX s rest done.length q.1.getLast? q.2=some tl/\ws=q.1++tl)
   (λdone q=>[(4,.slice 3 q.1.length 0 q.1.length),(9,.p (.int .i64 q.2)),(66,.p (.int .i64 done.length))]) (λ_ q=>[.row 6 [.p s.pv],.row 6 [.p s.pv],.row 61 (kj s way 0),.row 1 (q.1.map λv=>.p (intPV v))])
   ([],jE (dA s way 0)+1) ⟨rfl,by simp,ws,hs,rfl⟩ ?_ ?_ ?_
  .simp only[go_sem,simprocAttr];exact dp s way _ 4
  .rintro⟨vs,left⟩ ⟨hvl,hvB,tl,ht,hws⟩
   dsimp only at hvl hvB ht hws;cases ht;rw[co]at hws;subst hws;simp only[go_sem,simprocAttr];rw[show (ws.map λ(v:Int)=>AV.p (PV.int .i64 v))=ws.map (λ(v:Int)=>AV.p (intPV v)) from rfl,fg 6 _ intPV (λ_=>rfl)];simp;exact dz (by simp)
  .rintro done i r ⟨vs,left⟩ e1 ⟨hvl,hvB,tl,ht,hws⟩ hx hlt hnx
   dsimp only at hvl hvB ht hws;have hdl:done.length<way.length:=by omega
   have hr:i::r=way.drop done.length:=by rw[e1];simp
   have hsu:rU s (i::r) (done.length:Nat)=dA s way done.length:=by rw[hr];rfl
   rw[uX,hsu]at ht;have sl:(dA s way done.length).length=61:=wG _ _;have sB:∀n,n∈dA s way done.length->0<=n/\n<=900:=λn hn=>by have:=yS (s:=s) (way.drop done.length) (done.length:Nat) n hn;simp at this;omega
   have h1:=uk s way 0 done.length (by omega) (bE _);have c5:(done.length:Int)<((way.length+1:Nat):Int):=by omega
   generalize hJ:dA s way done.length=J at ht sl sB h1;simp only[hjl,hlt,c5,h1,sl,go_sem,simprocAttr]
   refine bt [6,7,10,65,66,72] J (by omega) (τ:=Unit) (λdn rest _=>ib s.candle vs.getLast? left J 0=ib s.candle vs.getLast? left rest dn.length) (λdn _=>[(4,.slice 3 vs.length 0 vs.length),(9,.p (.int .i64 left)),(73,.p (.int .i64 dn.length))])
    (λ_ _=>[.row 6 [.p s.pv],.row 6 [.p s.pv],.row 61 (kj s way 0),.row 1 (vs.map λv=>.p (intPV v))]) () rfl ?_ ?_ ?_
   .simp only[go_sem,simprocAttr];exact dp s way _ 4
   .intro _ e2;rw[ib]at e2;rw[e2]at ht;cases ht
   .intro dn n rr _ f1 f2 hxn hltn hnxn;have hd61:(dn.length:Int)<61:=by omega
    have nB:=sB n (by rw[f1];simp);have wn:IntKind.i64.wrap (n+1)=n+1:=aj (by omega) (by omega);have hT:((dn.length:Nat):Int)=(dn.length:Int):=rfl;have hcc:vs=[]\/∃us x,vs=us++[x]:=by
     rcases zy vs with h|⟨us,x,h⟩
     .exact .inl h
     .exact .inr ⟨us,x,by rw[h,DD]⟩
    rcases hcc with rfl|⟨us,x,rfl⟩
    .have hz:done.length=0:=hvl.symm;have hrm1:1<=ai:=by decide
     have hdz:decide ((0:Int)<(done.length:Int))=false:=by rw[hz];rfl
     have SH:ib s.candle ([]:List Int).getLast? left (n::rr) dn.length=if 0<n/\n=left then some ((dn.length:Int),n) else ib s.candle ([]:List Int).getLast? left rr (dn.length+1):=rfl
     simp only[hd61,hxn,Nat.mul_one,hdz,go_sem,simprocAttr];rw[SH]at f2;cases g1:decide (0<n)
     .rw[if_neg (λh=>by have:¬0<n:=(by simpa using g1);exact this h.1)]at f2;simp only[hdz,go_sem,simprocAttr];refine aq f1 () (by rw[f2];simp) ?_;simp only[hnxn,go_sem,simprocAttr];exact dp s way _ 4
     .have g1':0<n:=by simpa using g1
      simp only[hdz,go_sem,simprocAttr];cases g2:(n==left)
      .rw[if_neg (λh=>by have:¬n=left:=(by simpa using g2);exact this h.2)]at f2;simp only[hdz,go_sem,simprocAttr];refine aq f1 () (by rw[f2];simp) ?_;simp only[hnxn,go_sem,simprocAttr];exact dp s way _ 4
      .have g2':n=left:=by simpa using g2
       rw[if_pos ⟨g1',g2'⟩]at f2;rw[f2]at ht;obtain⟨tl2,ht2,rfl⟩:=bx.1 ht;simp only[hdz,hrm1,go_sem,simprocAttr];refine aq e1 ([(dn.length:Int)],n) ⟨by simp[hz],by simp;omega,tl2,by simpa using ht2,by simpa using hws⟩ ?_;simp only[hnx,go_sem,simprocAttr];exact dp s way _ 4
    .have hgl:(us++[x]).getLast?=some x:=by simp
     have hul:us.length+1=done.length:=by simpa using hvl
     have hdz:decide ((0:Int)<(done.length:Int))=true:=decide_eq_true (by omega);have xB:=hvB x (by simp);have w5:IntKind.i64.wrap ((done.length:Int)-1)=(us.length:Int):=(aj (by omega) (by omega)).trans (by omega);have hux:(us++[x])[us.length]?=some x:=by simp
     have u1:us.length<us.length+1:=by omega
     have u2:(us.length:Int)<((us.length+1:Nat):Int):=by omega
     have hll:(us++[x]).length=us.length+1:=by simp
     have hllx:(((us++[x]).length:Nat):Int)=(us.length:Int)+1:=by simp
     rw[hgl]at f2 ht;simp only[hd61,hxn,Nat.mul_one,hdz,w5,hux,hll,u1,u2,go_sem,simprocAttr];have hrm2:us.length+1+1<=ai:=by simp[ai];omega
     refine ao (tA s.candle x dn.length (by omega) (by omega)) rfl ?_;simp only[go_sem,simprocAttr];cases hj:fG s.candle x dn.length
     .have SH:ib s.candle (some x) left (n::rr) dn.length=if 0<n/\n=left then some ((dn.length:Int),n) else ib s.candle (some x) left rr (dn.length+1):=by
       rw[ib];simp only[hj];rfl
      simp only[go_sem,simprocAttr];rw[SH]at f2;cases g1:decide (0<n)
      .rw[if_neg (λh=>by have:¬0<n:=(by simpa using g1);exact this h.1)]at f2;simp only[hdz,hll,hrm2,wn,go_sem,simprocAttr];refine aq f1 () (by rw[hgl,f2];simp) ?_;simp only[hnxn,hll,go_sem,simprocAttr];exact dp s way _ 4
      .have g1':0<n:=by simpa using g1
       simp only[hdz,hll,hrm2,wn,go_sem,simprocAttr];cases g2:(n==left)
       .rw[if_neg (λh=>by have:¬n=left:=(by simpa using g2);exact this h.2)]at f2;simp only[hdz,hll,hrm2,wn,go_sem,simprocAttr];refine aq f1 () (by rw[hgl,f2];simp) ?_;simp only[hnxn,hll,go_sem,simprocAttr];exact dp s way _ 4
       .have g2':n=left:=by simpa using g2
        rw[if_pos ⟨g1',g2'⟩]at f2;rw[f2]at ht;obtain⟨tl2,ht2,rfl⟩:=bx.1 ht;simp only[hdz,hll,hrm2,wn,go_sem,simprocAttr];refine aq e1 (us++[x]++[(dn.length:Int)],n) ⟨by simp;omega,λv hv=>?_,tl2,by simpa using ht2,by simpa using hws⟩ ?_
        .rcases gu.1 hv with h|h
         .exact hvB v h
         .simp at h;omega
        simp only[hnx,hll,go_sem,simprocAttr];and_intros<;>first|exact dp s way _ 4|simp
     .have SH:ib s.candle (some x) left (n::rr) dn.length=if 0<n/\n+1=left then some ((dn.length:Int),n) else ib s.candle (some x) left rr (dn.length+1):=by
       rw[ib];simp only[hj];rfl
      simp only[wn,go_sem,simprocAttr];rw[SH]at f2;cases g1:decide (0<n)
      .rw[if_neg (λh=>by have:¬0<n:=(by simpa using g1);exact this h.1)]at f2;simp only[hdz,hll,hrm2,wn,go_sem,simprocAttr];refine aq f1 () (by rw[hgl,f2];simp) ?_;simp only[hnxn,hll,go_sem,simprocAttr];exact dp s way _ 4
      .have g1':0<n:=by simpa using g1
       simp only[hdz,hll,hrm2,wn,go_sem,simprocAttr];cases g2:(n+1==left)
       .rw[if_neg (λh=>by have:¬n+1=left:=(by simpa using g2);exact this h.2)]at f2;simp only[hdz,hll,hrm2,wn,go_sem,simprocAttr];refine aq f1 () (by rw[hgl,f2];simp) ?_;simp only[hnxn,hll,go_sem,simprocAttr];exact dp s way _ 4
       .have g2':n+1=left:=by simpa using g2
        rw[if_pos ⟨g1',g2'⟩]at f2;rw[f2]at ht;obtain⟨tl2,ht2,rfl⟩:=bx.1 ht;simp only[hdz,hll,hrm2,wn,go_sem,simprocAttr];refine aq e1 (us++[x]++[(dn.length:Int)],n) ⟨by simp;omega,λv hv=>?_,tl2,by simpa using ht2,by simpa using hws⟩ ?_
        .rcases gu.1 hv with h|h
         .exact hvB v h
         .simp at h;omega
        simp only[hnx,hll,go_sem,simprocAttr];and_intros<;>first|exact dp s way _ 4|simp
set_option maxRecDepth 100000
def bu:SoSeason:=⟨⟨30,2,8,2⟩,3,[⟨⟨#[97,116,116,105,99]⟩,1,[⟨20,32⟩,⟨25,35⟩,⟨10,28⟩]⟩,⟨⟨#[99,101,108,108,97,114]⟩,5,[⟨12,15⟩,⟨12,15⟩,⟨12,15⟩]⟩]⟩
theorem Iv(lo hi:Int):PCall TP 96 [.int .i64 lo,.int .i64 hi] (.agg [.int .i64 lo,.int .i64 hi]):=by
 refine ae (am func96 rfl) rfl ?_;simp only[go_sem,simprocAttr]
theorem PCall.lss{P:Program}{f:FuncId}{args:List PV}{q v:PV}(hc:PCall P f args q)(h:Dz q v):PCall P f args v:=λM0 w cargs h0 hg ha=>
 ⟨(hc M0 w cargs h0 hg ha).1,(hc M0 w cargs h0 hg ha).2.mono λe w' ⟨u,h1,h2,h3⟩=>⟨u,h1,h _ _ _ h2,h3⟩⟩
def sp (a b:Int):PV:=.agg [.int .i64 a,.int .i64 b]
def wJ:PV:=.agg [.int .i64 30,.int .i64 2,.int .i64 8,.int .i64 2,.int .i64 3,.slice 3 [.agg [.str ⟨#[97,116,116,105,99]⟩,.int .i64 1,.slice 2 [sp 20 32,sp 25 35,sp 10 28] true],.agg [.str ⟨#[99,101,108,108,97,114]⟩,.int .i64 5,.slice 2 [sp 12 15,sp 12 15,sp 12 15] true]] true]
theorem Fy:PL wJ bu.pv:=
 (PL.aggL rfl ⟨.refl _,.refl _,.refl _,.refl _,.refl _,PL.sliceL rfl ⟨PL.aggL rfl ⟨.refl _,.refl _,PL.sliceL rfl ⟨.refl _,.refl _,.refl _,trivial⟩,trivial⟩,PL.aggL rfl ⟨.refl _,.refl _,PL.sliceL rfl ⟨.refl _,.refl _,.refl _,trivial⟩,trivial⟩,trivial⟩,trivial⟩)
theorem Fz:Dz wJ bu.pv:=λ_ _ _ hr=>PL.rep Fy hr
theorem Kz:PCall TP 37 [] bu.pv:=by
 refine PCall.lss (q:=wJ) ?_ Fz;refine cm (am func37 rfl) rfl ?_;simp only[go_sem,simprocAttr]
 repeat' first
  |(refine aa (Iv _ _) rfl ?_;simp only[go_sem,simprocAttr])
 rfl
theorem k1:bO bu [0,0,0]=0:=by kernel_rfl
theorem k2:bO bu [0,1,0]=0:=by kernel_rfl
theorem k3:bO bu [2]=4:=by kernel_rfl
theorem k4:dW bu.candle [20,29,10] 0 0=-1/\cQ bu.candle [20,29,10] none 0 0=2:=by constructor<;>kernel_rfl
theorem k5:(i8 bu.candle (cH bu [0,0,0])).2.1=2:=by kernel_rfl
theorem k6:jE (i8 bu.candle (cH bu [0,0,0])).2.2=2:=by kernel_rfl
theorem k7:uX bu [0,0,0] 0 none (jE (dA bu [0,0,0] 0)+1)=some [20,29,10]:=by kernel_rfl
theorem k8:oP bu [0,1,0] none 0=13:=by kernel_rfl
theorem k9:l5 bu 0 2 ⟨0,-1,0,b9⟩ 0=2:=by kernel_rfl
theorem Jd:cents bu=14:=by kernel_rfl
theorem P7:way bu=[0,1,1]:=by kernel_rfl
theorem NW:(aD bu).2.2=0:=by kernel_rfl
theorem d1:PCall TP 12 [bu.pv,.slice 1 ([0,0,0].map intPV) true,.slice 1 ([20,29,10].map intPV) true] (.tuple [fatePV (-1) 2,.int .i64 0]):=by
 have:=cFate bu [0,0,0] [20,29,10] true true (by decide) k1 rfl λd i w h1 h2=>by
  match d,h1,h2 with
  |0,h1,h2=>cases h1;cases h2;rfl
  |1,h1,h2=>cases h1;cases h2;rfl
  |2,h1,h2=>cases h1;cases h2;rfl
  |d+3,h1,h2=>simp at h1
 rwa [k4.1,k4.2]at this
theorem d2:PCall TP 38 [bu.pv,.slice 1 ([0,0,0].map intPV) true] (.tuple [.int .i64 2,.int .i64 2,.int .i64 0]):=by
 have:=GQ bu [0,0,0] true (by decide);rwa [pJ,if_pos k1,k5,k6]at this
theorem d3:PCall TP 38 [bu.pv,.slice 1 ([2].map intPV) true] (.tuple [.int .i64 0,.int .i64 0,.int .i64 4]):=by
 have:=GQ bu [2] true (by decide);rwa [pJ,k3,if_neg (by decide)]at this
theorem d4:PCall TP 39 [bu.pv,.slice 1 ([0,0,0].map intPV) true] (.tuple [.slice 1 ([20,29,10].map intPV) false,.int .i64 0]):=(Ni bu [0,0,0] [20,29,10] true (by decide) k1 k7).pure
theorem d5:PCall TP 40 [bu.pv,.slice 1 ([0,1,0].map intPV) true] (.tuple [.int .i64 13,.int .i64 0]):=by
 have:=NL bu [0,1,0] true (by decide);rwa [vP,if_pos k2,k8]at this
theorem d6:PCall TP 41 [bu.pv,.int .i64 0,.int .i64 1] (.tuple [.int .i64 2,.int .i64 0]):=by
 have:=Mi bu 0 1;rw[pT,if_pos NW,if_pos (by decide)]at this;rw[show l5 bu (0:Int).toNat (days bu-(1:Int).toNat) ⟨1-1,-1,0,b9⟩ 0=2 from k9]at this;exact this
theorem d7:PCall TP 6 [bu.pv] (.tuple [.slice 1 ([0,1,1].map idxPV) false,.int .i64 14,.int .i64 0]):=by
 have:=cCheapest bu;rwa [cheapPV,if_pos NW,Jd,if_pos (by decide),P7]at this
theorem vR(a:List Int)(b1 b2:Bool)(ha:a.length<1000000000):PCall TP 42 [.slice 1 (a.map intPV) b1,.slice 1 (a.map intPV) b2] (.bool true):=by
 have:=Mj a a b1 b2 ha ha;rwa [beq_self_eq_true]at this
theorem cAwake:PCall TP 8 [] (.bool true):=by
 refine ae (am func8 rfl) rfl ?_;simp only[go_sem,simprocAttr]
 repeat' first
  |(refine aa Kz rfl ?_;simp only[go_sem,simprocAttr])
  |(refine aa d1 rfl ?_;simp only[go_sem,simprocAttr])
  |(refine aa d2 rfl ?_;simp only[go_sem,simprocAttr])
  |(refine aa d3 rfl ?_;simp only[go_sem,simprocAttr])
  |(refine aa d4 rfl ?_;simp only[go_sem,simprocAttr])
  |(refine aa d5 rfl ?_;simp only[go_sem,simprocAttr])
  |(refine aa d6 rfl ?_;simp only[go_sem,simprocAttr])
  |(refine aa d7 rfl ?_;simp only[go_sem,simprocAttr])
  |(refine aa (vR [20,29,10] false true (by decide)) rfl ?_;simp only[kL,go_sem,simprocAttr])
  |(refine aa (vR [0,1,1] false true (by decide)) rfl ?_;simp only[kL,go_sem,simprocAttr])
  |(refine ao (vR [20,29,10] false true (by decide)) rfl ?_;simp only[kL,go_sem,simprocAttr])
  |(refine ao (vR [0,1,1] false true (by decide)) rfl ?_;simp only[kL,go_sem,simprocAttr])
 all_goals trace_state
end So
namespace Tr
set_option maxRecDepth 4000
def jb (b:List TrBatch) (a:Nat):Nat->Bool:=pq b.length (tk b) (ba b) (losts b) (supp b) a
def la (b:List TrBatch) (a:Nat):Nat->Bool:=mayGo b.length (tk b) a (losts b) (supp b) [] λ_=>false
theorem Al{n:Nat}{a:Nat}(h:a<n):(List.any [(a:Int)] λx=>!an x 0 ((n:Int)-1))=false:=by
 simp[an];omega
theorem Mu(b:List TrBatch)(f:Bool)(a:Nat)(h:(bM b).2.2=0)(hT:cZ b)(ha:a<b.length) :
  PCall TP 43 [.slice 5 (b.map TrBatch.pv) f,.int .i64 (a:Int)] (.tuple [.slice 1 ((vq (jb b a) a).map bQ) false,.slice 1 ((vq (la b a) a).map bQ) false,.int .i64 0]):=by
 have hk:=gW h;have hl:=hk.len;have he:=n7 b f true [(a:Int)] h hT (by simp);rw[Al ha]at he;have hm:=vQ b f a hk (by omega) hT;have hy:=Bj b f a hk (by omega) hT;simp only[bI,cD]at hm hy he;refine ae (am func43 rfl) rfl ?_;simp only[go_sem,simprocAttr];refine aa he rfl ?_;simp only[go_sem,simprocAttr];refine ao hm rfl ?_;simp only[go_sem,simprocAttr];refine ao (Ja (jb b a) a).pure rfl ?_;simp only[go_sem,simprocAttr];refine ao hy rfl ?_;simp only[go_sem,simprocAttr];refine ao (Ja (la b a) a).pure rfl ?_;simp only[go_sem,simprocAttr]
theorem Iw(b:List TrBatch)(f:Bool)(a:Int)(h:(bM b).2.2=0)(hT:cZ b)(ha:(b.length:Int)<=a) :
  PCall TP 43 [.slice 5 (b.map TrBatch.pv) f,.int .i64 a] (.tuple [.nilslice,.nilslice,.int .i64 4]):=by
 have he:=n7 b f true [a] h hT (by simp);have ho:(List.any [a] λx=>!an x 0 ((b.length:Int)-1))=true:=by simp[an];omega
 rw[ho]at he;refine ae (am func43 rfl) rfl ?_;simp only[go_sem,simprocAttr];refine aa he rfl ?_;simp only[cD,go_sem,simprocAttr]
def bC (p:Nat->Bool) (k:Nat):List Nat:=(List.range k).filter p
theorem l6(p:Nat->Bool)(k:Nat):bC p (k+1)=bC p k++(if p k=true then [k] else []):=by
 unfold bC;rw[List.range_succ,zx]
 congr 1
 cases h:p k<;>simp[h]
theorem jH(p:Nat->Bool)(k:Nat):(bC p k).length<=k:=by
 have:=List.length_filter_le p (List.range k);simpa[bC]using this
theorem Mo(b:List TrBatch)(f:Bool)(a:Nat)(h:(bM b).2.2=0)(hT:cZ b)(ha:a<b.length) :
  PCall TP 45 [.slice 5 (b.map TrBatch.pv) f,.int .i64 (a:Int)] (.tuple [.slice 1 ((bC (λi=>jb b i a) a).map bQ) false,.slice 1 ((bC (λi=>la b i a) a).map bQ) false,.int .i64 0]):=by
 have hk:=gW h;have hl:=hk.len;have he:=n7 b f true [(a:Int)] h hT (by simp);rw[Al ha]at he;simp only[bI,cD]at he;have a8i:(a:Int)<8:=by omega
 refine cm (am func45 rfl) rfl ?_;simp only[go_sem,simprocAttr];refine aa he rfl ?_;simp only[go_sem,simprocAttr];refine dq 4 1 (by simp only[go_sem,simprocAttr]) ?_;simp only[go_sem,simprocAttr];refine dq 5 1 (by simp only[go_sem,simprocAttr]) ?_;simp only[go_sem,simprocAttr]
 refine aS [1,7,19] (σ:=Nat) (λk=>k<=a) (λk=>a-k) (λk=>[(4,.slice 1 (bC (λi=>jb b i a) k).length 0 (bC (λi=>jb b i a) k).length),(5,.slice 2 (bC (λi=>la b i a) k).length 0 (bC (λi=>la b i a) k).length),(20,.p (.int .i64 (k:Int)))])
  (λk=>[.row 82 [.p (.agg (fA (supp b) (.slice 5 (b.map TrBatch.pv) f) (.slice 1 ((losts b).map bQ) false)))],.row 1 (rL (bC (λi=>jb b i a) k)),.row 1 (rL (bC (λi=>la b i a) k))]) 0 (bE _) ?_ ?_
 .simp only[go_sem,simprocAttr];exact⟨⟨rfl,rfl⟩,⟨rfl,rfl⟩,bg _ _,bg _ _⟩
 intro k hka;dsimp only;rcases aw k a with hkl|hkl
 .have hd:decide ((k:Int)<(a:Int))=true:=decide_eq_true (by omega);have wk:IntKind.i64.wrap ((k:Int)+1)=((k+1:Nat):Int):=az (by omega) (by simp[ai];omega) (by omega);have hm:=vQ b f k hk (by omega) hT;have hy:=Bj b f k hk (by omega) hT;rw[bI,cD]at hm hy;have gm:=cN (jb b k) (show a<8 by omega);have gy:=cN (la b k) (show a<8 by omega);have s1:=l6 (λi=>jb b i a) k;have s2:=l6 (λi=>la b i a) k;have l1:=jH (λi=>jb b i a) k;have l2:=jH (λi=>la b i a) k;have r1:(bC (λi=>jb b i a) k).length+1<=ai:=by simp[ai];omega
  have r2:(bC (λi=>la b i a) k).length+1<=ai:=by simp[ai];omega
  simp only[hd,go_sem,simprocAttr];refine aa hm rfl ?_;rw[show pq b.length (tk b) (ba b) (losts b) (supp b) k=jb b k from rfl];simp only[a8i,gm,Nat.mul_one,go_sem,simprocAttr];cases c1:jb b k a;case' false=>rw[c1,if_neg (by decide),co]at s1;simp only[go_sem,simprocAttr]
  case' true=>rw[c1,if_pos rfl]at s1;simp only[r1,go_sem,simprocAttr]
  all_goals
   refine aa hy rfl ?_;rw[show (mayGo b.length (tk b) k (losts b) (supp b) [] λ_=>false)=la b k from rfl];simp only[a8i,gy,Nat.mul_one,go_sem,simprocAttr];cases c2:la b k a
   .rw[c2,if_neg (by decide),co]at s2;simp only[go_sem,simprocAttr];refine ak (k+1) hkl (by omega) ?_;simp only[wk,s1,s2,kC,ay,aC,go_sem,simprocAttr];exact⟨bg _ _,bg _ _⟩
   .rw[c2,if_pos rfl]at s2;simp only[r2,go_sem,simprocAttr];refine ak (k+1) hkl (by omega) ?_;simp only[wk,s1,s2,kC,ay,aC,go_sem,simprocAttr];exact⟨bg _ _,bg _ _⟩
 .have hd:decide ((k:Int)<(a:Int))=false:=decide_eq_false (by omega);have:k=a:=by omega
  subst this;simp only[hd,lB,go_sem,simprocAttr]
def mn (b:List TrBatch) (a:Nat):Int:=sm (7-a) λj=>bF b (a+1+j)
def fa (b:List TrBatch) (a:Nat):Pb:=⟨λi=>if i=a then 0 else kept b i,bF b,λ_ _=>false⟩
def AI (b:List TrBatch) (a:Nat):PV:=.tuple [.agg [.int .i64 (max 0 (kept b a-mn b a)),.int .i64 (kept b a-short (fa b a).nv (fa b a).has (fa b a).needs)],.int .i64 0]
theorem NI(b:List TrBatch)(f:Bool)(a:Nat)(h:(bM b).2.2=0)(hT:cZ b)(ha:a<b.length)(hsB:-1000000<=short (fa b a).nv (fa b a).has (fa b a).needs/\short (fa b a).nv (fa b a).has (fa b a).needs<=1000000) :
  PCall TP 46 [.slice 5 (b.map TrBatch.pv) f,.int .i64 (a:Int)] (AI b a):=by
 have hk:=gW h;have hl:=hk.len;have he:=n7 b f true [(a:Int)] h hT (by simp);rw[Al ha]at he;simp only[bI,cD]at he;have a8:a<8:=by omega
 have a8i:(a:Int)<8:=by omega
 have a81:a<=81:=by omega
 have wa:IntKind.i64.wrap ((a:Int)+1)=((a+1:Nat):Int):=az (by omega) (by simp[ai];omega) (by omega);have a18:((a+1:Nat):Int)<=8:=by omega
 have gh:∀bs ls,(fA (supp b) bs ls)[a]?=some (.int .i64 (kept b a)):=λbs ls=>by
  unfold fA;rw[br (by rw[cf];omega),s9 _ a8];rfl
 refine ae (am func46 rfl) rfl ?_;simp only[go_sem,simprocAttr];refine aa he rfl ?_;simp only[a8i,Nat.mul_one,gh,wa,a18,go_sem,simprocAttr]
 refine aS [1,4,6,7,31,32] (σ:=Nat) (λk=>k<=7-a) (λk=>7-a-k) (λk=>[(8,.p (.int .i64 (sm k λj=>bF b (a+1+j)))),(33,.p (.int .i64 (k:Int)))])
  (λ_=>[.row 2 [.p (.agg [.int .i64 0,.int .i64 0])],.row 82 [.p (.agg (fA (supp b) (.slice 5 (b.map TrBatch.pv) f) (.slice 1 ((losts b).map bQ) false)))]]) 0 (bE _) ?_ ?_
 .simp only[go_sem,simprocAttr];exact⟨by simp[below,de,bS,bP],rfl⟩
 intro k hk8;dsimp only;rcases aw k (7-a) with hkl|hkl
 .have hd:decide ((k:Int)<((7-a:Nat):Int))=true:=decide_eq_true (by omega);have hki:(k:Int)<((7-a:Nat):Int):=by omega
  have wk:IntKind.i64.wrap ((k:Int)+1)=((k+1:Nat):Int):=az (by omega) (by simp[ai];omega) (by omega);have gn:∀bs ls,(fA (supp b) bs ls)[8+(a+1)+k]?=some (.int .i64 (bF b (a+1+k))):=λbs ls=>by
   unfold fA;rw[br (by rw[cf];omega),show 8+(a+1)+k=8+(a+1+k) by omega,zO _ (by omega)];rfl
  have hB:=ui (f:=λj=>bF b (a+1+j)) (B:=100000) (by decide) k λi _=>by have:=jD hk (a+1+i);omega
  have hn:=jD hk (a+1+k);have hs:(sm (k+1) λj=>bF b (a+1+j))=(sm k λj=>bF b (a+1+j))+bF b (a+1+k):=rfl;have w1:IntKind.i64.wrap ((sm k λj=>bF b (a+1+j))+bF b (a+1+k))=(sm k λj=>bF b (a+1+j))+bF b (a+1+k):=aj (by omega) (by omega);simp only[hd,hki,gn,w1,go_sem,simprocAttr];refine ak (k+1) hkl (by omega) ?_;simp only[wk,hs,go_sem,simprocAttr];simp[below,de,bS,bP]
 .have hd:decide ((k:Int)<((7-a:Nat):Int))=false:=decide_eq_false (by omega);have:k=7-a:=by omega
  subst this;have hna:(sm (7-a) λj=>bF b (a+1+j))=mn b a:=rfl;have hB:=ui (f:=λj=>bF b (a+1+j)) (B:=100000) (by decide) (7-a) λi _=>by have:=jD hk (a+1+i);omega
  rw[hna]at hB |-;have hkb:=m8 hk a;have hkb0:=pS hk a;have pl:bV (List.take a ((fA (supp b) (.slice 5 (b.map TrBatch.pv) f) (.slice 1 ((losts b).map bQ) false)).map AV.p)++[.p (.int .i64 0)]++List.drop (a+1) ((fA (supp b) (.slice 5 (b.map TrBatch.pv) f) (.slice 1 ((losts b).map bQ) false)).map AV.p))=some (fA (fa b a) (.slice 5 (b.map TrBatch.pv) f) (.slice 1 ((losts b).map bQ) false)):=by
   rw[zb,pD _ _ _ a8,G3];rfl
  have w2:IntKind.i64.wrap (kept b a-mn b a)=kept b a-mn b a:=aj (by omega) (by omega);have w3:IntKind.i64.wrap (kept b a-short (fa b a).nv (fa b a).has (fa b a).needs)=kept b a-short (fa b a).nv (fa b a).has (fa b a).needs:=aj (by omega) (by omega);have hpo:PbOk (fa b a):=⟨λx=>by
   have h1:=pS hk x;have h2:=m8 hk x;show 0<=(if x=a then 0 else kept b x)/\(if x=a then 0 else kept b x)<=1000000;split<;>omega,λt=>by
   have:=jD hk t;show 0<=bF b t/\bF b t<=1000000
   omega⟩
  simp only[hd,a8i,a81,Nat.mul_one,pl,w2,So.if_max,tC,eH,go_sem,simprocAttr];refine aa (GP (fa b a) hpo) rfl ?_;simp only[w3,AI,go_sem,simprocAttr]
end Tr
end Abs
open Go.Shelf
def lays156_ren:Go.Shelf.Ren:=⟨λ| 156=>103|165=>147|166=>102|169=>104|240=>146|241=>186|276=>185|277=>231|n=>n,λ| 0=>0|3=>3|4=>4|5=>5|9=>9|20=>20|31=>72|37=>205|70=>219|72=>221|75=>223|76=>224|80=>139|127=>281|164=>320|n=>n,λ| n=>n⟩
theorem lays156:Go.Proofs.Lays.n156 TP lays156_ren:={
 mixed:=by kernel_rfl
 f156:=func103.trans (congrArg some (by kernel_rfl))
 f165:=func147.trans (congrArg some (by kernel_rfl))
 f166:=func102.trans (congrArg some (by kernel_rfl))
 f169:=func104.trans (congrArg some (by kernel_rfl))
 f240:=func146.trans (congrArg some (by kernel_rfl))
 f241:=func186.trans (congrArg some (by kernel_rfl))
 f276:=func185.trans (congrArg some (by kernel_rfl))
 f277:=func231.trans (congrArg some (by kernel_rfl))
 t0:=underlying0
 a0:=isAgg0
 z0:=sizeOf0
 v0:=zeroValue0
 t3:=underlying3
 a3:=isAgg3
 z3:=sizeOf3
 v3:=zeroValue3
 t4:=underlying4
 a4:=isAgg4
 z4:=sizeOf4
 v4:=zeroValue4
 t9:=underlying9
 a9:=isAgg9
 z9:=sizeOf9
 v9:=zeroValue9
 t20:=underlying20
 a20:=isAgg20
 z20:=sizeOf20
 v20:=zeroValue20
 t31:=underlying72
 a31:=isAgg72
 z31:=sizeOf72
 v31:=zeroValue72
 t37:=underlying205
 a37:=isAgg205
 z37:=sizeOf205
 v37:=zeroValue205
 t70:=underlying219
 a70:=isAgg219
 z70:=sizeOf219
 v70:=zeroValue219
 t72:=underlying221
 a72:=isAgg221
 z72:=sizeOf221
 v72:=zeroValue221
 t75:=underlying223
 a75:=isAgg223
 z75:=sizeOf223
 v75:=zeroValue223
 t76:=underlying224
 a76:=isAgg224
 z76:=sizeOf224
 v76:=zeroValue224
 t127:=underlying281
 a127:=isAgg281
 z127:=sizeOf281
 v127:=zeroValue281
 t164:=underlying320
 a164:=isAgg320
 z164:=sizeOf320
 v164:=zeroValue320 }
theorem lays156X:Go.Proofs.Builder.Extra TP lays156_ren:={
 sizeBuilder:=by kernel_rfl
 liesBuilder:=by kernel_rfl
 t5:=by kernel_rfl
 a5:=isAgg5
 z5:=sizeOf5
 v5:=zeroValue5
 infoByte:=by kernel_rfl
 cellsByte:=by kernel_rfl
 sizeByte:=by kernel_rfl
 neB5:=Nat.ne_of_beq_eq_false (by kernel_rfl) }
end Go.Proofs.YtmndpldajflenaaGreatDoor
