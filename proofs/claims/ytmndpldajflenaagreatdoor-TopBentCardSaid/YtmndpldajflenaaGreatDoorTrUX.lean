/- CONTRACTS of the program's functions, and laws on what they return. No conditions but those in the theorems' heads. -/
import Derived.Test.YtmndpldajflenaaGreatDoorTrT
set_option linter.all false
set_option maxHeartbeats 16000000
open Go.Proofs.Tryz
namespace Go.Proofs.YtmndpldajflenaaGreatDoor
namespace Abs
namespace Tr
set_option maxRecDepth 4000
def rB (n:Nat) (f:Nat->Bool):List AV:=(List.range n).map λi=>.p (.bool (f i))
theorem LA(n:Nat)(f:Nat->Bool):(rB n f).length=n:=by simp[rB]
theorem Ac{n i:Nat}(f:Nat->Bool)(h:i<n):(rB n f)[i]?=some (.p (.bool (f i))):=by simp[rB,h]
theorem Ab(n o:Nat)(f:Nat->Bool)(v:Bool):(rB n f).set o (.p (.bool v))=rB n (ct f o v):=by
 unfold rB;rw[jk];exact lv λi _=>by rw[dm];split<;>rfl
theorem nI(n m:Nat)(f:Nat->Bool):∀x,x∈rB n f->below m x:=λx hx=>by
 obtain⟨j,_,rfl⟩:=eK.1 hx;trivial
theorem JO(k n:Nat)(h:Heap)(f:Nat->Bool):aM (bH k h) (rB n f)=some (cB n f):=by
 unfold rB cB;rw[show (List.range n).map (λi=>AV.p (PV.bool (f i)))=((List.range n).map λi=>PV.bool (f i)).map .p by rw[oX];rfl];exact gR k h _
theorem Lz(n:Nat):List.replicate n (AV.p (PV.bool false))=rB n λ_=>false:=by
 unfold rB;exact(iv λi=>by
  rw[zu,bU];by_cases h:i<n
  .rw[if_pos h,List.getElem?_range h];rfl
  .rw[if_neg h,fq (by simpa using h)];rfl)
attribute [go_sem] LA
def po (tk:Nat->List Nat) (a i:Nat):Nat->Bool:=dP (λis i=>is i||(tk i).any is) (List.range' (a+1) (i-(a+1))) (λi=>i==a)
theorem FA(tk:Nat->List Nat)(a i:Nat)(h:a+1<=i):po tk a (i+1)=ct (po tk a i) i (po tk a i i||(tk i).any (po tk a i)):=by
 unfold po;rw[show i+1-(a+1)=(i-(a+1))+1 by omega,List.range'_concat];unfold dP;rw[oY];show ct _ _ _=_;rw[show a+1+1*(i-(a+1))=i by omega]
structure SrcOk (B:List TrBatch):Prop where
 src:∀(i:Nat) (x:TrBatch),B[i]?=some x->∀t,t∈x.takes->0<=t.src/\t.src<i
 len:∀(i:Nat) (x:TrBatch),B[i]?=some x->x.takes.length<=1000
theorem GS(B:List TrBatch)(f:Bool)(a:Nat)(ha:a<B.length)(hl:B.length<=8)(hB:SrcOk B):PCall Tryz.prog 13 [.slice 5 (B.map TrBatch.pv) f,.int .i64 (a:Int),.nilslice] (.slice 1 (cB B.length (nH B.length (tk B) a)) false):=by
 have hal:(a:Int)<(B.length:Int):=by omega
 have hal2:a<B.length:=ha;have hrm:B.length<=ai:=by simp[ai];omega
 have hrmi:(B.length:Int)<=(ai:Int):=by omega
 have wa:IntKind.i64.wrap ((a:Int)+1)=((a+1:Nat):Int):=az (by omega) (by simp[ai];omega) (by omega);have z0:(λi=>ct (λ_=>false) a true i)=λi=>i==a:=by funext i;rw[dm];by_cases h:i=a<;>simp[h]
 refine cm (am func13 rfl) rfl ?_;have ga:=Ac (λ_=>false) ha;have z1:rB B.length (ct (λ_=>false) a true)=rB B.length (po (tk B) a (a+1)):=by
  have:ct (λ_=>false) a true=po (tk B) a (a+1):=by
   funext i;rw[dm,po,qk];by_cases h:i=a
   .rw[if_pos h,h];show true=(a==a);simp
   .rw[if_neg h];show false=(i==a);simp[h]
  rw[this]
 simp only[Lz,hal,hal2,hrm,hrmi,wa,Ab,ga,z1,go_sem,simprocAttr];refine aS [0,2,7] (σ:=Nat) (λi=>a+1<=i/\i<=B.length) (λi=>B.length-i) (λi=>[(8,.p (.int .i64 (i:Int)))]) (λi=>[.row 1 (rB B.length (po (tk B) a i))]) (a+1) ⟨aJ _,ha⟩ ?_ ?_
 .simp only[go_sem,simprocAttr];exact nI _ _ _
 rintro i ⟨hai,hi⟩
 dsimp only;rcases aw i B.length with hil|hil
 rotate_left
 .have hd:decide ((i:Int)<(B.length:Int))=false:=decide_eq_false (by omega);have:i=B.length:=by omega
  subst this;simp only[hd,JO,go_sem,simprocAttr];rw[dz (by rw[iO];exact aJ _)];rfl
 have hd:decide ((i:Int)<(B.length:Int))=true:=decide_eq_true (by omega);have hli:(i:Int)<(B.length:Int):=by omega
 obtain⟨x,hx⟩:∃x,B[i]?=some x:=⟨_,aT hil⟩
 have hsrc:=hB.src i x hx;have hxl:=hB.len i x hx;have wi:IntKind.i64.wrap ((i:Int)+1)=((i+1:Nat):Int):=az (by omega) (by simp[ai];omega) (by omega);have hss:=FA (tk B) a i hai;obtain⟨is,his⟩:∃is,is=po (tk B) a i:=⟨_,rfl⟩
 rw[<-his]at hss |-;have htk:tk B i=x.takes.map λt=>t.src.toNat:=by unfold tk;rw[cS hx]
 simp only[hd,go_sem,simprocAttr];refine aS [0,2,7,8] (σ:=Nat) (λk=>k<=x.takes.length) (λk=>x.takes.length-k) (λk=>[(9,.p (.int .i64 (k:Int)))]) (λk=>[.row 1 (rB B.length (ct is i (is i||((x.takes.take k).map λt=>t.src.toNat).any is)))]) 0 (bE _) ?_ ?_
 .have hz:ct is i (is i||([]:List Nat).any is)=is:=by
   rw[fC,fM,xF]
  simp only[hz,go_sem,simprocAttr];exact nI _ _ _
 intro k hk;dsimp only;rcases aw k x.takes.length with hkl|hkl
 .have hdk:decide ((k:Int)<(x.takes.length:Int))=true:=decide_eq_true (by omega);have hki:(k:Int)<(x.takes.length:Int):=by omega
  have wk:IntKind.i64.wrap ((k:Int)+1)=((k+1:Nat):Int):=az (by omega) (by simp[ai];omega) (by omega);obtain⟨t,ht⟩:∃t,x.takes[k]?=some t:=⟨_,aT hkl⟩
  obtain⟨t0,t1⟩:=hsrc t (aV ht);have tl:t.src<(B.length:Int):=by omega
  have tn:t.src.toNat<B.length:=by omega
  obtain⟨v,hv⟩:∃v,v=(is i||((x.takes.take k).map λt=>t.src.toNat).any is):=⟨_,rfl⟩
  have hv2:(is i||((x.takes.take (k+1)).map λt=>t.src.toNat).any is)=(v||is t.src.toNat):=by
   rw[hv,yQ,ht,kg,List.any_append];simp[Bool.or_assoc]
  rw[<-hv];have gi:(rB B.length (ct is i v))[i]?=some (.p (.bool v)):=by rw[Ac _ hil,dm,if_pos rfl]
  have gt:(rB B.length (ct is i v))[t.src.toNat]?=some (.p (.bool (is t.src.toNat))):=by rw[Ac _ tn,dm,if_neg (by omega)]
  have hso:∀w,rB B.length (ct (ct is i v) i w)=rB B.length (ct is i w):=λw=>by
   have:ct (ct is i v) i w=ct is i w:=by
    funext j;rw[dm,dm,dm];by_cases h:j=i
    .rw[if_pos h,if_pos h]
    .rw[if_neg h,if_neg h,if_neg h]
   rw[this]
  simp only[hli,hx,hdk,hki,ht,gi,hil,go_sem,simprocAttr];cases v
  .simp only[hli,hx,hki,ht,t0,tl,gt,gi,Ab,hso,go_sem,simprocAttr];refine ak (k+1) hkl (by omega) ?_;simp only[wk,hv2,go_sem,simprocAttr];exact nI _ _ _
  .simp only[hli,hx,hki,ht,gi,Ab,hso,go_sem,simprocAttr];refine ak (k+1) hkl (by omega) ?_;simp only[wk,hv2,go_sem,simprocAttr];exact nI _ _ _
 .have hdk:decide ((k:Int)<(x.takes.length:Int))=false:=decide_eq_false (by omega);have:k=x.takes.length:=by omega
  subst this;rw[yP,<-htk,<-hss];simp only[hli,hx,hdk,go_sem,simprocAttr];refine aE ?_;simp only[go_sem,simprocAttr];refine ak (i+1) ⟨by omega,hil⟩ (by omega) ?_;simp only[wi,go_sem,simprocAttr];exact nI _ _ _
def uf (n:Int):PV:=.int .u32 n
attribute [go_sem] uf
theorem Ks(l:List Int)(b:Bool)(n:Nat)(hn:n<1000000000)(hB:∀v,v∈l->0<=v/\v<=4294967295):PCall Tryz.prog 60 [.slice 1 (l.map uf) b,.int .i64 n] (.int .i64 (So.turnF l n)):=by
 refine ae (am func60 rfl) rfl ?_;simp only[go_sem,simprocAttr];by_cases h0:l=[]
 .subst h0;simp only[go_sem,simprocAttr];rfl
 have hlen:0<l.length:=wy.2 h0;have hz:((l.length:Int)==0)=false:=by simp;omega
 have hm:n%l.length<l.length:=kN _ hlen;have hr:Int.tmod (n:Int) (l.length:Int)=((n%l.length:Nat):Int):=by rw[Int.tmod_eq_emod_of_nonneg (by omega)];omega
 have hlt:((n%l.length:Nat):Int)<(l.length:Int):=by omega
 have hx:l[n%l.length]?=some l[n%l.length]:=aT hm;have hv:=hB _ (nk hm);have w1:IntKind.i64.wrap (l[n%l.length])=l[n%l.length]:=aj (by omega) (by omega);have ht:So.turnF l n=l[n%l.length]:=by rw[So.turnF,if_neg h0,bB,hx];rfl
 have hmn:n%l.length<=n:=Nat.mod_le _ _;have w2:IntKind.i64.wrap ((n%l.length:Nat):Int)=((n%l.length:Nat):Int):=aj (by omega) (by omega);rw[ht];have hz':¬((l.length:Int)=0):=by omega
 simp only[hz,hz',hr,hlt,hx,w1,w2,go_sem,simprocAttr]
def cj (n:Nat) (p:Pb) (es:List (Nat×Nat)) (g:Bool):PV:=gN n p (.slice 2 (es.map edgePV) g)
def pQ (es:List (Nat×Nat)) (i k:Nat):Bool:=es.any λe=>e==(i,k)
theorem Ka(e:Nat×Nat)(i k:Nat):(((e.1:Int)==(i:Int))&&((e.2:Int)==(k:Int)))=(e==(i,k)):=by
 rw[gC,bY,beq_iff_eq,beq_iff_eq,beq_iff_eq];obtain⟨x,y⟩:=e;simp only[Prod.mk.injEq];omega
theorem Mg(n:Nat)(p:Pb)(es:List (Nat×Nat))(g:Bool)(i k:Nat)(hl:es.length<1000000):PCall Tryz.prog 113 [cj n p es g,.int .i64 (i:Int),.int .i64 (k:Int)] (.bool (pQ es i k)):=by
 refine ae (am func113 rfl) rfl ?_;simp only[cj,go_sem,simprocAttr];refine aS [1,2,3] (σ:=Nat) (λj=>j<=es.length/\pQ es i k=pQ (es.drop j) i k) (λj=>es.length-j) (λj=>[(7,.p (.int .i64 (j:Int)))]) (λ_=>[.row 3 [.p (cj n p es g)]]) 0 ⟨bE _,rfl⟩ ?_ ?_
 .simp only[cj,go_sem,simprocAttr]
 rintro j ⟨hj,hE⟩
 dsimp only;rcases aw j es.length with hjl|hjl
 .have hd:decide ((j:Int)<(es.length:Int))=true:=decide_eq_true (by omega);have hji:(j:Int)<(es.length:Int):=by omega
  have wj:IntKind.i64.wrap ((j:Int)+1)=((j+1:Nat):Int):=az (by omega) (by simp[ai];omega) (by omega);obtain⟨e,he⟩:∃e,es[j]?=some e:=⟨_,aT hjl⟩
  have oJ:es.drop j=e::es.drop (j+1):=by
   rw[rN hjl];have:=aT hjl;rw[he]at this;rw[<-fW this]
  have hE2:pQ es i k=(e==(i,k)||pQ (es.drop (j+1)) i k):=by rw[hE,oJ];rfl
  clear hE;rename pQ es i k=_=>hE;have hq:=Ka e i k;simp only[cj,hd,hji,he,hq,go_sem,simprocAttr];cases hx:e==(i,k)
  .rw[hx,gA]at hE;simp only[go_sem,simprocAttr];refine ak (j+1) ⟨hjl,hE⟩ (by omega) ?_;simp only[wj,cj,go_sem,simprocAttr]
  .rw[hx,gY]at hE;simp only[hE,go_sem,simprocAttr]
 .have hd:decide ((j:Int)<(es.length:Int))=false:=decide_eq_false (by omega);rw[pf hjl]at hE;simp only[cj,hd,hE,go_sem,simprocAttr];rfl
def se (p:Pb) (s k:Nat):Int:=sm k λk=>if s.testBit k then p.needs k else 0
def ia (p:Pb) (a b s i k:Nat):Bool:=(List.range k).any λk=>s.testBit k&&decide (0<p.needs k)&&decide (i<k)&&!p.nv i k&&!(i==a&&k==b)
def sf (n:Nat) (p:Pb) (a b s i:Nat):Int:=sm i λi=>if mL n p a b s i then p.has i else 0
theorem vX(p:Pb)(a b s i k:Nat):ia p a b s i (k+1)=(ia p a b s i k||(s.testBit k&&decide (0<p.needs k)&&decide (i<k)&&!p.nv i k&&!(i==a&&k==b))):=by
 unfold ia;rw[List.range_succ,List.any_append,eV,fC,fM]
theorem yp{p:Pb}{a b s i:Nat}:∀k,k<=i+1->ia p a b s i k=false
 |0,_=>rfl
 |k+1,h=>by
  rw[vX,yp k (by omega),decide_eq_false (show ¬i<k by omega)];simp
theorem zU{s k:Nat}(hs:s<256)(hk:k<8):kr BinOp.shr IntKind.i64 (s:Int) (k:Int)=some (.int .i64 ((s / 2^k:Nat):Int)):=by
 show (if(k:Int)<0 then none else _)=_;rw[if_neg (by omega)];show some (PV.int .i64 (((s:Nat):Int).fdiv (2^(min ((k:Nat):Int).toNat 64))))=_;rw[uc,yM (by omega),Int.fdiv_eq_ediv_of_nonneg _ (by exact DE (Int.pow_pos (by decide)))]
 congr 2
theorem O7{n:Nat}(h:n<=8):kr BinOp.shl IntKind.i64 1 (n:Int)=some (.int .i64 ((2^n:Nat):Int)):=by
 have:n=0\/n=1\/n=2\/n=3\/n=4\/n=5\/n=6\/n=7\/n=8:=by omega
 rcases this with rfl|rfl|rfl|rfl|rfl|rfl|rfl|rfl|rfl<;>rfl
theorem Br{s k:Nat}:Int.tmod ((s / 2^k:Nat):Int) 2=((s / 2^k%2:Nat):Int)/\(((s / 2^k%2:Nat):Int)==1)=s.testBit k/\(((s / 2^k%2:Nat):Int)==0)=!s.testBit k:=by
 have h2:s / 2^k%2<2:=kN _ (by decide);have e3:s.testBit k=(s / 2^k%2==1):=by rw[<-bitD_eq];rfl
 rw[e3];generalize s / 2^k=D at h2;refine⟨by rw[Int.tmod_eq_emod_of_nonneg (by omega)];omega,?_,?_⟩
 .rw[gC,beq_iff_eq,beq_iff_eq];omega
 .rw[gC,beq_iff_eq,ud,beq_eq_false_iff_ne];omega
structure PbB (p:Pb):Prop where
 has:∀i,-1000000<=p.has i/\p.has i<=1000000
 needs:∀i,-1000000<=p.needs i/\p.needs i<=1000000
theorem LF{p:Pb}(h:PbB p)(s k:Nat):-(1000000*(k:Int))<=se p s k/\se p s k<=1000000*k:=ui (by decide) k λi _=>by
 have:=h.needs i;split<;>omega
theorem LG{n:Nat}{p:Pb}(h:PbB p)(a b s k:Nat):-(1000000*(k:Int))<=sf n p a b s k/\sf n p a b s k<=1000000*k:=ui (by decide) k λi _=>by
 have:=h.has i;split<;>omega
theorem KF(n:Nat)(p:Pb)(es:List (Nat×Nat))(g:Bool)(a b:Nat)(hn:n<=8)(hab:a<b)(hb:b<n)(hB:PbB p)(hnv:∀i k,p.nv i k=pQ es i k)(hl:es.length<1000000) :
  PCall Tryz.prog 59 [cj n p es g,.int .i64 (a:Int),.int .i64 (b:Int)] (.tuple [.int .i64 (eM n p a b).1,.int .i64 (eM n p a b).2]):=by
 have han:a<n:=by omega
 have hai:(a:Int)<(n:Int):=by omega
 have hbi:(b:Int)<(n:Int):=by omega
 have ga:=dd p.has han;have gb:=dd p.needs hb;have hsl:=O7 hn;have hpow:2^n<=256:=yL (n:=2) (by omega) hn;have hpow1:1<=2^n:=Nat.one_le_two_pow;obtain⟨N,hN⟩:∃N,N=2^n:=⟨_,rfl⟩
 have hbn:eM n p a b=(List.range' 1 (N-1)).foldl (bndStep n p a b) (0,min (p.has a) (p.needs b)):=by rw[hN];rfl
 rw[<-hN]at hsl hpow hpow1;have hB0:=hB.has a;have hB1:=hB.needs b;refine ae (am func59 rfl) rfl ?_;simp only[cj,hai,hbi,ga,gb,bm,vC,go_sem,simprocAttr]
 refine aS [1,2,3] (σ:=Nat×Int×Int) (λq=>1<=q.1/\q.1<=N/\-20000000<=q.2.1/\q.2.1<=20000000/\-20000000<=q.2.2/\q.2.2<=20000000/\eM n p a b=(List.range' q.1 (N-q.1)).foldl (bndStep n p a b) q.2) (λq=>N-q.1)
  (λq=>[(8,.p (.int .i64 q.2.1)),(9,.p (.int .i64 q.2.2)),(10,.p (.int .i64 (q.1:Int)))]) (λ_=>[.row 3 [.p (cj n p es g)]]) (1,0,min (p.has a) (p.needs b)) ⟨aJ _,hpow1,by dsimp only;omega,by dsimp only;omega,by dsimp only;omega,by dsimp only;omega,hbn⟩ ?_ ?_
 .simp only[cj,go_sem,simprocAttr]
 rintro⟨s,lo,hi⟩ ⟨s1,sN,l1,l2,h1,h2,hF⟩
 dsimp only at s1 sN l1 l2 h1 h2 hF;dsimp only;rcases aw s 256 with hs|hs
 rotate_left
 .have hd:decide ((s:Int)<256)=false:=decide_eq_false (by omega);have:s=N:=by omega
  subst this;rw[qk]at hF;rw[show (List.range' s 0).foldl (bndStep n p a b) (lo,hi)=(lo,hi) from rfl]at hF;simp only[hd,hF,go_sem,simprocAttr]
 have hd:decide ((s:Int)<256)=true:=decide_eq_true (by omega);simp only[hd,go_sem,simprocAttr];refine aS [1,2,3,8,9,10,12,13] (σ:=Nat) (λk=>k<=n) (λk=>n-k) (λk=>[(11,.p (.int .i64 (se p s k))),(14,.p (.int .i64 (k:Int)))]) (λ_=>[.row 3 [.p (cj n p es g)]]) 0 (bE _) ?_ ?_
 .simp only[cj,go_sem,simprocAttr];rfl
 intro k hk;dsimp only;rcases aw k n with hkn|hkn
 .have hdk:decide ((k:Int)<(n:Int))=true:=decide_eq_true (by omega);have hki:(k:Int)<(n:Int):=by omega
  have wk:IntKind.i64.wrap ((k:Int)+1)=((k+1:Nat):Int):=az (by omega) (by simp[ai];omega) (by omega);have hsr:=zU hs (show k<8 by omega);obtain⟨b1,b2,b3⟩:=Br (s:=s) (k:=k);have gk:=dd p.needs hkn;have hn1:=LF hB s k;have hn2:=hB.needs k;have hsum:se p s (k+1)=se p s k+(if s.testBit k then p.needs k else 0):=rfl;have w1:IntKind.i64.wrap (se p s k+p.needs k)=se p s k+p.needs k:=aj (by omega) (by omega);simp only[cj,bm,hdk,hsr,b1,b2,go_sem,simprocAttr];cases ht:s.testBit k
  .rw[ht,if_neg (by decide),mH]at hsum;simp only[go_sem,simprocAttr];refine ak (k+1) hkn (by omega) ?_;simp only[wk,cj,hsum,go_sem,simprocAttr]
  .rw[ht,if_pos rfl]at hsum;simp only[cj,bm,hki,gk,w1,go_sem,simprocAttr];refine ak (k+1) hkn (by omega) ?_;simp only[wk,cj,hsum,go_sem,simprocAttr]
 have hdk:decide ((k:Int)<(n:Int))=false:=decide_eq_false (by omega);have:k=n:=by omega
 subst this;have hnd:se p s k=ndF k p s:=rfl;rw[hnd];simp only[cj,bm,hdk,hsl,go_sem,simprocAttr];rcases yO sN with hsN|hsN
 .have hge:decide ((N:Int)<=(s:Int))=true:=decide_eq_true (by omega);rw[hsN,qk]at hF;rw[show (List.range' N 0).foldl (bndStep k p a b) (lo,hi)=(lo,hi) from rfl]at hF;simp only[hge,hF,go_sem,simprocAttr]
 have hge:decide ((N:Int)<=(s:Int))=false:=decide_eq_false (by omega);simp only[hge,go_sem,simprocAttr];obtain⟨ad,had⟩:∃ad,ad=mL k p a b s:=⟨_,rfl⟩
 refine aS [1,2,3,8,9,10,11] (σ:=Nat) (λi=>i<=k) (λi=>k-i) (λi=>[(12,.p (.int .i64 (sf k p a b s i))),(13,.p (.bool (decide (a<i)&&ad a))),(15,.p (.int .i64 (i:Int)))]) (λ_=>[.row 3 [.p (cj k p es g)]]) 0 (bE _) ?_ ?_
 .simp only[cj,decide_eq_false (Nat.not_lt_zero a),Bool.false_and,go_sem,simprocAttr];rfl
 intro i hi';dsimp only;rcases aw i k with hik|hik
 .have hdi:decide ((i:Int)<(k:Int))=true:=decide_eq_true (by omega);have hii:(i:Int)<(k:Int):=by omega
  have wi:IntKind.i64.wrap ((i:Int)+1)=((i+1:Nat):Int):=az (by omega) (by simp[ai];omega) (by omega);have gi:=dd p.has hik;have hb1:=LG (n:=k) hB a b s i;have hb2:=hB.has i;have hbs:sf k p a b s (i+1)=sf k p a b s i+(if mL k p a b s i then p.has i else 0):=rfl;have w1:IntKind.i64.wrap (sf k p a b s i+p.has i)=sf k p a b s i+p.has i:=aj (by omega) (by omega);simp only[cj,bm,hdi,wi,go_sem,simprocAttr];refine aS [1,2,3,8,9,10,11,12,13,15] (σ:=Nat) (λj=>i+1<=j/\j<=k) (λj=>k-j) (λj=>[(16,.p (.bool (ia p a b s i j))),(17,.p (.int .i64 (j:Int)))]) (λ_=>[.row 3 [.p (cj k p es g)]]) (i+1) ⟨aJ _,hik⟩ ?_ ?_
  .have hlow:=yp (p:=p) (a:=a) (b:=b) (s:=s) (i:=i) (i+1) (aJ _);simp only[cj,hlow,go_sem,simprocAttr]
  rintro j ⟨hij,hjk⟩
  dsimp only;rcases aw j k with hjl|hjl
  .have hdj:decide ((j:Int)<(k:Int))=true:=decide_eq_true (by omega);have hji:(j:Int)<(k:Int):=by omega
   have wj:IntKind.i64.wrap ((j:Int)+1)=((j+1:Nat):Int):=az (by omega) (by simp[ai];omega) (by omega);have hsr:=zU hs (show j<8 by omega);obtain⟨b1,b2,b3⟩:=Br (s:=s) (k:=j);have gj:=dd p.needs hjl;have hsu:=vX p a b s i j;rw[decide_eq_true (show i<j by omega),Bool.and_true,hnv]at hsu;have hia:((i:Int)==(a:Int))=(i==a):=by rw[gC,beq_iff_eq,beq_iff_eq];omega
   have hjb:((j:Int)==(b:Int))=(j==b):=by rw[gC,beq_iff_eq,beq_iff_eq];omega
   simp only[cj,bm,hdj,hsr,b1,b2,go_sem,simprocAttr];cases c1:s.testBit j
   .rw[c1]at hsu;have hsu:ia p a b s i (j+1)=ia p a b s i j:=by rw[hsu];simp
    simp only[go_sem,simprocAttr];refine ak (j+1) ⟨by omega,hjl⟩ (by omega) ?_;simp only[wj,cj,hsu,go_sem,simprocAttr]
   simp only[cj,bm,hji,gj,go_sem,simprocAttr];cases c2:decide (0<p.needs j)
   .rw[c1,c2]at hsu;have hsu:ia p a b s i (j+1)=ia p a b s i j:=by rw[hsu];simp
    simp only[go_sem,simprocAttr];refine ak (j+1) ⟨by omega,hjl⟩ (by omega) ?_;simp only[wj,cj,hsu,go_sem,simprocAttr]
   simp only[cj,bm,go_sem,simprocAttr];refine aa (Mg k p es g i j hl) ?_ ?_
   .rw[cj,gN];rfl
   simp only[go_sem,simprocAttr];cases c3:pQ es i j;rotate_left
   .rw[c1,c2,c3]at hsu;have hsu:ia p a b s i (j+1)=ia p a b s i j:=by rw[hsu];simp
    simp only[go_sem,simprocAttr];refine ak (j+1) ⟨by omega,hjl⟩ (by omega) ?_;simp only[wj,cj,hsu,go_sem,simprocAttr]
   simp only[hia,go_sem,simprocAttr];cases c4:i==a
   .rw[c1,c2,c3,c4]at hsu;have hsu:ia p a b s i (j+1)=true:=by rw[hsu];simp
    simp only[go_sem,simprocAttr];refine ak (j+1) ⟨by omega,hjl⟩ (by omega) ?_;simp only[wj,cj,hsu,go_sem,simprocAttr]
   simp only[hjb,go_sem,simprocAttr];cases c5:j==b
   .rw[c1,c2,c3,c4,c5]at hsu;have hsu:ia p a b s i (j+1)=true:=by rw[hsu];simp
    simp only[go_sem,simprocAttr];refine ak (j+1) ⟨by omega,hjl⟩ (by omega) ?_;simp only[wj,cj,hsu,go_sem,simprocAttr]
   .rw[c1,c2,c3,c4,c5]at hsu;have hsu:ia p a b s i (j+1)=ia p a b s i j:=by rw[hsu];simp
    simp only[go_sem,simprocAttr];refine ak (j+1) ⟨by omega,hjl⟩ (by omega) ?_;simp only[wj,cj,hsu,go_sem,simprocAttr]
  .have hdj:decide ((j:Int)<(k:Int))=false:=decide_eq_false (by omega);have:j=k:=by omega
   subst this;have hadj:ia p a b s i j=mL j p a b s i:=rfl;rw[hadj];simp only[cj,bm,hdj,go_sem,simprocAttr];have hia:((i:Int)==(a:Int))=(i==a):=by rw[gC,beq_iff_eq,beq_iff_eq];omega
   have hadi:mL j p a b s i=ad i:=by rw[had]
   cases c1:mL j p a b s i
   .rw[c1,if_neg (by decide),mH]at hbs;have hw:(decide (a<i+1)&&ad a)=(decide (a<i)&&ad a):=by
     by_cases h:a=i
     .subst h;rw[<-hadi,c1];simp
     .have:decide (a<i+1)=decide (a<i):=by rw[decide_eq_decide];omega
      rw[this]
    simp only[go_sem,simprocAttr];refine ak (i+1) hik (by omega) ?_;simp only[wi,cj,hbs,hw,go_sem,simprocAttr]
   .rw[c1,if_pos rfl]at hbs;have hw:((decide (a<i)&&ad a)||(i==a))=(decide (a<i+1)&&ad a):=by
     by_cases h:a=i
     .subst h;rw[<-hadi,c1];simp
     .have:decide (a<i+1)=decide (a<i):=by rw[decide_eq_decide];omega
      rw[this,beq_eq_false_iff_ne.2 (λe=>h e.symm),fM]
    simp only[cj,bm,hii,gi,w1,hia,go_sem,simprocAttr];cases c2:(decide (a<i)&&ad a)
    .rw[c2,gA]at hw;simp only[hia,go_sem,simprocAttr];refine ak (i+1) hik (by omega) ?_;simp only[wi,cj,hbs,<-hw,go_sem,simprocAttr]
    .rw[c2,gY]at hw;simp only[go_sem,simprocAttr];refine ak (i+1) hik (by omega) ?_;simp only[wi,cj,hbs,<-hw,go_sem,simprocAttr]
 have hdi:decide ((i:Int)<(k:Int))=false:=decide_eq_false (by omega);have:i=k:=by omega
 subst this;have hsr:=zU hs (show b<8 by omega);obtain⟨b1,b2,b3⟩:=Br (s:=s) (k:=b);have hnb:sf i p a b s i=nbF i p a b s:=rfl;have hn1:=LF hB s i;have hn2:=LG (n:=i) hB a b s i;rw[hnd]at hn1;rw[hnb]at hn2;have w1:IntKind.i64.wrap (ndF i p s-nbF i p a b s)=ndF i p s-nbF i p a b s:=aj (by omega) (by omega);have w2:IntKind.i64.wrap (nbF i p a b s-ndF i p s)=nbF i p a b s-ndF i p s:=aj (by omega) (by omega);have ws:IntKind.i64.wrap ((s:Int)+1)=((s+1:Nat):Int):=az (by omega) (by simp[ai];omega) (by omega);rw[show N-s=(N-(s+1))+1 by omega,List.range'_succ,np]at hF;have hst:bndStep i p a b (lo,hi) s=(if s.testBit b&&!ad a then max lo (ndF i p s-nbF i p a b s) else lo,if !s.testBit b&&ad a then min hi (nbF i p a b s-ndF i p s) else hi):=by rw[had];rfl
 rw[hst]at hF;have hwa:(decide (a<i)&&ad a)=ad a:=by rw[decide_eq_true han];rfl
 rw[hwa,hnb];simp only[cj,bm,hdi,hsr,b1,b2,go_sem,simprocAttr];cases c1:s.testBit b
 .cases c2:ad a
  .rw[c1,c2]at hF;simp only[hsr,b1,b3,c1,c2,go_sem,simprocAttr];refine ak (s+1,lo,hi) ⟨by dsimp only;omega,hsN,l1,l2,h1,h2,hF⟩ (by dsimp only;omega) ?_;simp only[ws,cj,go_sem,simprocAttr]
  .rw[c1,c2]at hF;simp only[hsr,b1,b3,c1,c2,w2,vC,go_sem,simprocAttr];refine ak (s+1,lo,min hi (nbF i p a b s-ndF i p s)) ⟨by dsimp only;omega,hsN,l1,l2,by dsimp only;omega,by dsimp only;omega,hF⟩ (by dsimp only;omega) ?_;simp only[ws,cj,go_sem,simprocAttr]
 .cases c2:ad a
  .rw[c1,c2]at hF;simp only[hsr,b1,b3,c1,c2,w1,So.if_max,go_sem,simprocAttr];refine ak (s+1,max lo (ndF i p s-nbF i p a b s),hi) ⟨by dsimp only;omega,hsN,by dsimp only;omega,by dsimp only;omega,h1,h2,hF⟩ (by dsimp only;omega) ?_;simp only[ws,cj,go_sem,simprocAttr]
  .rw[c1,c2]at hF;simp only[hsr,b1,b3,c1,c2,go_sem,simprocAttr];refine ak (s+1,lo,hi) ⟨by dsimp only;omega,hsN,l1,l2,h1,h2,hF⟩ (by dsimp only;omega) ?_;simp only[ws,cj,go_sem,simprocAttr]
end Tr
end Abs
end Go.Proofs.YtmndpldajflenaaGreatDoor
