/- CONTRACTS of the program's functions, and laws on what they return. No conditions but those in the theorems' heads. -/
import Derived.Test.YtmndpldajflenaaGreatDoorTrRd
set_option linter.all false
set_option maxHeartbeats 16000000
open Go.Proofs.Tryz renaming prog->TP
namespace Go.Proofs.YtmndpldajflenaaGreatDoor
namespace Abs
namespace Tr
set_option maxRecDepth 100000
theorem LV(f g:Bool):PCall TP 52 [.slice 5 (oa.map TrBatch.pv) f,.slice 5 (oa.map TrBatch.pv) g] (.bool true):=by
 refine ae (ku (by kernel_rfl) rfl Pc) rfl ?_;simp only[oa,go_sem,simprocAttr];refine aE ?_;simp only[sZ,af,cX,cW,cV,cU,go_sem,simprocAttr];refine aE ?_;simp only[sZ,af,cX,cW,cV,cU,go_sem,simprocAttr];refine aE ?_;simp only[sZ,af,cX,cW,cV,cU,go_sem,simprocAttr];refine aE ?_;simp only[sZ,af,cX,cW,cV,cU,go_sem,simprocAttr];refine aE ?_;simp only[sZ,af,cX,cW,cV,cU,go_sem,simprocAttr];refine aE ?_;simp only[sZ,af,cX,cW,cV,cU,go_sem,simprocAttr];refine aE ?_;simp only[sZ,af,cX,cW,cV,cU,go_sem,simprocAttr];refine aE ?_;simp only[sZ,af,cX,cW,cV,cU,go_sem,simprocAttr];refine aE ?_;simp only[sZ,af,cX,cW,cV,cU,go_sem,simprocAttr];refine aE ?_;simp only[sZ,af,cX,cW,cV,cU,go_sem,simprocAttr]
theorem Kx(lo hi:Int):PCall TP 50 [.int .i64 lo,.int .i64 hi] (.agg [.int .i64 lo,.int .i64 hi]):=by
 refine ae (am Tryz.func50 rfl) rfl ?_;simp only[go_sem,simprocAttr]
theorem O9:dv H0 Tryz.f51=true:=by kernel_rfl
theorem Kt:PCall TP 51 [] (.str ⟨#[97,32,49,48,48,32,49,48,48,10,98,32,56,48,32,56,48,10,99,32,54,48,32,50,48,32,97,32,52,48,10,100,32,53,48,32,49,48,32,108,111,115,116,10]⟩):=by
 refine ae (ku (by kernel_rfl) rfl O9) rfl ?_;simp only[go_sem,simprocAttr]
theorem n6(a:List Int)(b1 b2:Bool)(ha:a.length<1000000000):PCall TP 49 [.slice 1 (a.map intPV) b1,.slice 1 (a.map intPV) b2] (.bool true):=by
 have:=So.cInts1 a a b1 b2 ha ha;rwa [beq_self_eq_true]at this
theorem a1:PCall TP 43 [.slice 5 ((bk 50).map TrBatch.pv) false,.int .i64 0] (.tuple [.slice 1 ([2,4].map intPV) false,.slice 1 ([2,3,4].map intPV) false,.int .i64 0]):=by
 have:=Mu (bk 50) false 0 yY (zL 50) (by decide);rw[show ((0:Nat):Int)=0 from rfl,v1,v2]at this;exact this
theorem a2:PCall TP 45 [.slice 5 ((bk 50).map TrBatch.pv) false,.int .i64 4] (.tuple [.slice 1 ([0,2,3].map intPV) false,.slice 1 ([0,1,2,3].map intPV) false,.int .i64 0]):=by
 have:=Mo (bk 50) false 4 yY (zL 50) (by decide);rw[v3,v4]at this;exact this
theorem a3:PCall TP 46 [.slice 5 ((bk 140).map TrBatch.pv) false,.int .i64 1] (.tuple [.agg [.int .i64 0,.int .i64 40],.int .i64 0]):=by
 have:=NI (bk 140) false 1 Ma (zL 140) (by decide) (by rw[v5];decide);rw[AI,v7.1,v7.2,v5]at this;exact this
theorem a4:PCall TP 15 [.slice 5 ((bk 50).map TrBatch.pv) false,.slice 1 [.int .i64 3] true,.slice 1 [.int .i64 4] true] (.tuple [.slice 1 ([1].map intPV) false,.int .i64 0]):=by
 have:=KD (bk 50) false (.slice 1 ((ck [3]).map intPV) true) (.slice 1 ((ck [4]).map intPV) true) [3] [4] yY (zL 50) .mk .mk (by decide) (by decide) (by decide) (by decide);rw[v6]at this;exact this
theorem a5:PCall TP 43 [.slice 5 ((bk 50).map TrBatch.pv) false,.int .i64 5] (.tuple [.nilslice,.nilslice,.int .i64 4]):=Iw (bk 50) false 5 yY (zL 50) (by decide)
theorem kR:((⟨#[97,32,49,48,48,32,49,48,48,10,98,32,56,48,32,56,48,10,99,32,54,48,32,50,48,32,97,32,52,48,10,100,32,53,48,32,49,48,32,108,111,115,116,10]⟩:ByteArray)==⟨#[97,32,49,48,48,32,49,48,48,10,98,32,56,48,32,56,48,10,99,32,54,48,32,50,48,32,97,32,52,48,10,100,32,53,48,32,49,48,32,108,111,115,116,10]⟩)=true:=by kernel_rfl
theorem a6:List.take 4 ((bk 50).map TrBatch.pv)=oa.map TrBatch.pv:=rfl
theorem rj:PCall TP 9 [] (.bool true):=by
 refine ae (am Tryz.func9 rfl) rfl ?_;simp only[go_sem,simprocAttr];refine aa (ri 50) rfl ?_;simp only[go_sem,simprocAttr];refine aa a1 rfl ?_;simp only[go_sem,simprocAttr];refine aa (ri 50) rfl ?_;simp only[go_sem,simprocAttr];refine aa a2 rfl ?_;simp only[go_sem,simprocAttr];refine aa (ri 140) rfl ?_;simp only[go_sem,simprocAttr];refine aa a3 rfl ?_;simp only[go_sem,simprocAttr];refine aa (ri 50) rfl ?_;simp only[go_sem,simprocAttr];refine aa a4 rfl ?_;simp only[go_sem,simprocAttr];refine aa (ri 50) rfl ?_;have b5:(bk 50).length=5:=rfl;have b4:(4:Int)<=((5:Nat):Int):=by decide
 simp only[b5,b4,a6,go_sem,simprocAttr];refine aa (LL false) rfl ?_;simp only[go_sem,simprocAttr];refine aa Ns rfl ?_;simp only[go_sem,simprocAttr];refine aa (ri 50) rfl ?_;simp only[go_sem,simprocAttr];refine aa a5 rfl ?_;simp only[kL,kR,go_sem,simprocAttr]
 repeat' first
  |(refine ao (n6 [2,4] false true (by decide)) rfl ?_;simp only[kL,kR,go_sem,simprocAttr])
  |(refine ao (n6 [2,3,4] false true (by decide)) rfl ?_;simp only[kL,kR,go_sem,simprocAttr])
  |(refine ao (n6 [0,2,3] false true (by decide)) rfl ?_;simp only[kL,kR,go_sem,simprocAttr])
  |(refine ao (n6 [0,1,2,3] false true (by decide)) rfl ?_;simp only[kL,kR,go_sem,simprocAttr])
  |(refine ao (n6 [1] false true (by decide)) rfl ?_;simp only[kL,kR,go_sem,simprocAttr])
  |(refine ao (Kx 0 40) rfl ?_;simp only[kL,kR,go_sem,simprocAttr])
  |(refine ao Kt rfl ?_;simp only[kL,kR,go_sem,simprocAttr])
  |(refine ao (ri 50) rfl ?_;simp only[kL,b5,b4,a6,go_sem,simprocAttr])
  |(refine ao (LV false false) rfl ?_;simp only[kL,kR,go_sem,simprocAttr])
open So (aD bO jh fe dW cQ cy aF turnF)
set_option maxRecDepth 4000
def fu (s:SoSeason):List Int:=(So.way s).map λi:Nat=>(i:Int)
theorem Jz(s:SoSeason):(So.way s).map So.idxPV=(fu s).map intPV:=by simp[fu,So.idxPV,intPV,zA]
theorem ny(s:SoSeason):(fu s).length=So.days s:=by unfold fu So.way;rw[qj,So.way_len]
theorem JA{s:SoSeason}{d:Nat}{i:Int}(h:(fu s)[d]?=some i):∃k,(So.way s)[d]?=some k/\i=(k:Int):=by
 unfold fu at h;rw[bU,bx]at h;obtain⟨k,h1,h2⟩:=h;exact⟨k,h1,h2.symm⟩
theorem Ln{s:SoSeason}(hc:0<=So.cents s):∀i,i∈fu s->an i 0 ((s.stores.length:Int)-1)=true:=λi hi=>by
 obtain⟨k,hk,rfl⟩:=eK.1 hi;have:=So.sound_lt (So.way s) cy (So.way_sound (So.days s) cy hc) k hk;simp[an];omega
theorem BZ{s:SoSeason}(h:(aD s).2.2=0)(hc:0<=So.cents s):jh s (fu s)=0:=by
 have hd:=(So.soOk_of h).day8;have h1:an (fu s).length 1 (So.days s)=true:=by rw[ny];simp[an];omega
 have h2:((fu s).any λi=>!an i 0 ((s.stores.length:Int)-1))=false:=by
  rw[List.any_eq_false];intro i hi;rw[Ln hc i hi];decide
 unfold jh;rw[if_pos h1,h2];rfl
theorem tO{s:SoSeason}(way:List Int)(h:(aD s).2.2=0):bO s way=jh s way:=by unfold bO jh;rw[if_pos h]
def mh (s:SoSeason) (v:Int):SoSeason:=⟨⟨v,s.candle.days,s.candle.jump,s.candle.times⟩,s.move,s.stores⟩
theorem DS{s:SoSeason}{v:Int}(h:(aD s).2.2=0)(hv:0<=v/\v<=60):(aD (mh s v)).2.2=0:=by
 have e:(λi x=>So.storeErr (mh s v) i x)=λi x=>So.storeErr s i x:=rfl;have hc:So.candOk s=true:=by
  unfold aD at h;split at h
  .assumption
  .cases h
 have hc2:So.candOk (mh s v)=true:=by
  unfold So.candOk an at hc |-;simp only[bY,decide_eq_true_eq]at hc |-;exact⟨⟨⟨⟨hv,hc.1.1.1.2⟩,hc.1.1.2⟩,hc.1.2⟩,hc.2⟩
 unfold aD at h |-;rw[if_pos hc]at h;rw[if_pos hc2];exact h
theorem zK{s:SoSeason}{way y:List Int}{d:Nat}{i w:Int}(h1:way[d]?=some i)(h2:(fe s way y)[d]?=some w):w=(aF s i.toNat (d:Nat)).lo+(turnF y d).tmod ((aF s i.toNat (d:Nat)).hi-(aF s i.toNat (d:Nat)).lo+1):=by
 have:=So.along_at s way 0 d i h1;unfold fe at h2;rw[bU,this,eN]at h2;exact(fW h2).symm
theorem zJ{s:SoSeason}(h:So.SoOk s){y:List Int}(hy:∀v,v∈y->0<=v/\v<=65535){d:Nat}{k:Nat}(hk:k<s.stores.length)(hd:d<So.days s){w:Int}(hw:w=(aF s k (d:Nat)).lo+(turnF y d).tmod ((aF s k (d:Nat)).hi-(aF s k (d:Nat)).lo+1)) :
  (aF s k (d:Nat)).lo<=w/\w<=(aF s k (d:Nat)).hi/\0<=w/\w<=60:=by
 have h1:=So.warmAt_ok h hk (d:=(d:Int)) (by omega) (by omega);have h2:=(So.turnF_B (n:=d) (B:=65535) (by decide) hy).1;have h3:=Int.tmod_nonneg ((aF s k (d:Nat)).hi-(aF s k (d:Nat)).lo+1) h2;have h4:=Int.tmod_lt_of_pos (turnF y d) (show 0<(aF s k (d:Nat)).hi-(aF s k (d:Nat)).lo+1 by omega);omega
theorem Ht{s:SoSeason}(h:(aD s).2.2=0)(hc:0<=So.cents s){y:List Int}(hy:∀v,v∈y->0<=v/\v<=65535) :
  dW s.candle (fe s (fu s) y) 0 0=-1/\cQ s.candle (fe s (fu s) y) none 0 0=-1:=by
 have hk:=So.soOk_of h;refine So.cheapest_safe (k:=So.days s) hc hk.times.1 (So.inTruth_of _ _ _ ?_ λj i w h1 h2=>?_)
 .rw[So.truth_len,ny];exact(So.way_len (So.days s) cy).symm
 .have hj:(So.way s)[j]?=some i:=h1;have hwj:(fu s)[j]?=some (i:Int):=by unfold fu;rw[bU,hj];rfl
  have hjl:j<So.days s:=by have:=(aA.1 hwj).1;rw[ny]at this;exact this
  have hil:=So.sound_lt (So.way s) cy (So.way_sound (So.days s) cy hc) i (aV hj);have he:=zK hwj h2;rw[uc]at he;have:=zJ hk hy hil hjl he;have e:cy.day+1+(j:Int)=(j:Int):=by show (-1:Int)+1+(j:Int)=j;omega
  rw[e];exact this
theorem Hu{s:SoSeason}(h:(aD s).2.2=0)(hc:0<=So.cents s){y:List Int}(hy:∀v,v∈y->0<=v/\v<=65535)(d:Nat)(i w:Int)(h1:(fu s)[d]?=some i)(h2:(fe s (fu s) y)[d]?=some w) :
  an w (aF s i.toNat (d:Nat)).lo (aF s i.toNat (d:Nat)).hi=true:=by
 obtain⟨k,hk,rfl⟩:=JA h1;have hdl:d<So.days s:=by have:=(aA.1 h1).1;rw[ny]at this;exact this
 have hil:=So.sound_lt (So.way s) cy (So.way_sound (So.days s) cy hc) k (aV hk);have he:=zK h1 h2;rw[uc]at he |-;have:=zJ (So.soOk_of h) hy hil hdl he;simp[an];omega
theorem L5(f:Nat->Nat->Int)(c a:Nat):(fT f c a).length<=a:=by
 unfold fT;have:=List.length_filterMap_le (λi=>if 0<f i c then some (⟨(i:Int),f i c⟩:TrTake) else none) (List.range a);simpa using this
theorem JG{b:List TrBatch}(h:BookOk b)(f:Nat->Nat->Int):SrcOk (dR b f b.length):=by
 have each:∀(i:Nat) (x:TrBatch),(dR b f b.length)[i]?=some x->(∀t,t∈x.takes->0<=t.src/\t.src<i)/\x.takes.length<=1000:=λi x hx=>by
  rw[ko]at hx
  cases hi:b[i]? with
  |none=>rw[hi]at hx;cases hx
  |some z=>
   rw[hi,dy]at hx;have hil:=(aA.1 hi).1;have h8:=h.len;have hz:=h.bat i z hi;have hzl:=p7 hz;obtain rfl:=(fW hx).symm;unfold eQ;split
   .refine⟨λt ht=>?_,?_⟩
    .rcases gu.1 ht with ht|ht
     .exact hz.src t ht
     .rw[mA]at ht;obtain⟨a,ha,hh⟩:=List.mem_filterMap.1 ht;split at hh
      .cases hh;have:=bX.1 ha;dsimp only;omega
      .cases hh
    .have:=L5 f i i;rw[ay,mA];omega
   .exact⟨hz.src,by omega⟩
 exact⟨λi x hx=>(each i x hx).1,λi x hx=>(each i x hx).2⟩
open So (aD bO jh fe dW cQ cy aF turnF)
theorem Dg{p:Nat->Bool}{n:Nat}:∀c,c∈bC p n->c<n:=λc hc=>bX.1 (List.mem_filter.1 hc).1
theorem lTopBent(b:List TrBatch)(s:SoSeason)(bad sft:Int)(cards warm:List Int)(hT:cZ b)(hbad:0<=bad/\bad<=255)(hsft:0<=sft/\sft<=255)(hcards:∀v,v∈cards->0<=v/\v<=4294967295)(hwarm:∀v,v∈warm->0<=v/\v<=65535) :
  PCall TP 3 [.slice 5 (b.map TrBatch.pv) false,s.pv,.agg [.int .u8 bad,.int .u8 sft,.slice 1 (cards.map uf) false,.slice 1 (warm.map So.u16P) false]] (.bool true):=by
 refine ae (am Tryz.func3 rfl) rfl ?_;simp only[go_sem,simprocAttr];refine aa (cRefCheck b false hT) rfl ?_;simp only[cd,go_sem,simprocAttr];refine aa (So.cCheapest s) rfl ?_;by_cases hg:(aD s).2.2=0;rotate_left
 .have hgn:((aD s).2.2 != 0)=true:=by simpa using hg
  have hge:((aD s).2.2==0)=false:=by simpa using hg
  have hgs:((aD s).2.2==(aD s).2.2)=true:=beq_self_eq_true _;simp only[So.cheapPV,if_neg hg,go_sem,simprocAttr];refine aa (So.cRefCheck s) rfl ?_;simp only[cd,go_sem,simprocAttr];cases he:((bM b).2.2 != 0)
  all_goals
   simp only[hgn,hge,hgs,go_sem,simprocAttr];refine aa So.cAwake rfl ?_;simp only[go_sem,simprocAttr];refine aa rj rfl ?_;simp only[go_sem,simprocAttr]
 by_cases hc:0<=So.cents s;rotate_left
 .simp only[So.cheapPV,if_pos hg,if_neg hc,go_sem,simprocAttr];refine aa (So.cRefCheck s) rfl ?_;simp only[cd,hg,go_sem,simprocAttr];cases he:((bM b).2.2 != 0)
  all_goals
   simp only[hg,go_sem,simprocAttr];refine aa So.cAwake rfl ?_;simp only[go_sem,simprocAttr];refine aa rj rfl ?_;simp only[go_sem,simprocAttr]
 simp only[So.cheapPV,if_pos hg,if_pos hc,go_sem,simprocAttr];refine aa (So.cRefCheck s) rfl ?_;simp only[cd,hg,go_sem,simprocAttr];cases he:((bM b).2.2 != 0)
 rotate_left
 .simp only[hg,go_sem,simprocAttr];refine aa So.cAwake rfl ?_;simp only[go_sem,simprocAttr];refine aa rj rfl ?_;simp only[go_sem,simprocAttr]
 have he':(bM b).2.2=0:=by simpa using he
 have hk:=gW he';have hl8:=hk.len;have hso:=So.soOk_of hg;have hwy:=BZ hg hc;have hwl:(fu s).length<1000000000:=by rw[ny];have:=hso.day8;omega
 have hop:bO s (fu s)=0:=by rw[tO _ hg];exact hwy
 obtain⟨_,hwo⟩:=So.wayOk_of hop;simp only[hg,Jz,go_sem,simprocAttr];have cw:=So.cRefWay s (fu s) false hso hwl;rw[hwy]at cw;refine aa cw rfl ?_;simp only[go_sem,simprocAttr];refine ao (So.nTruth s (fu s) warm false false hso hwo hwarm).pure rfl ?_;have hlz:¬((b.length:Int)=0):=by omega
 have wb:IntKind.i64.wrap bad=bad:=aj (by omega) (by omega);have ws:IntKind.i64.wrap sft=sft:=aj (by omega) (by omega);obtain⟨a,ha⟩:∃a,a=bad.toNat%b.length:=⟨_,rfl⟩
 have hal:a<b.length:=by rw[ha];exact kN _ (by omega)
 have hr:bad.tmod (b.length:Int)=(a:Int):=by
  rw[ha,Int.tmod_eq_emod_of_nonneg hbad.1,Int.natCast_emod,Int.toNat_of_nonneg hbad.1]
 have hbe:=hso.bend;have w1:IntKind.i64.wrap (s.candle.bend-sft)=s.candle.bend-sft:=aj (by omega) (by omega);have w0:IntKind.i64.wrap (a:Int)=(a:Int):=aj (by omega) (by omega);obtain⟨v,hv⟩:∃v,v=max 0 (s.candle.bend-sft):=⟨_,rfl⟩
 have hvB:0<=v/\v<=60:=by omega
 obtain⟨tw,htw⟩:∃tw,tw=fe s (fu s) warm:=⟨_,rfl⟩
 have htl:tw.length=(fu s).length:=by rw[htw,So.truth_len]
 have hsafe:=Ht hg hc hwarm;have hfit:=Hu hg hc hwarm;rw[<-htw]at hsafe hfit;have hgs:=DS hg hvB;have hops:bO (mh s v) (fu s)=0:=by
  rw[tO _ hgs];exact hwy
 have f1:=So.cFate s (fu s) tw false false hwl hop htl hfit;rw[hsafe.1,hsafe.2]at f1;have f2:=So.cFate (mh s v) (fu s) tw false false hwl hops htl hfit;obtain⟨be,hbe2⟩:∃be,be=dW (mh s v).candle tw 0 0:=⟨_,rfl⟩
 obtain⟨bl,hbl2⟩:∃bl,bl=cQ (mh s v).candle tw none 0 0:=⟨_,rfl⟩
 rw[<-hbe2,<-hbl2]at f2;rw[<-htw];simp only[hlz,wb,ws,hr,w0,w1,So.if_max,<-hv,go_sem,simprocAttr];refine aa f1 rfl ?_;simp only[So.fatePV,go_sem,simprocAttr];refine aa f2 rfl ?_;simp only[So.fatePV,go_sem,simprocAttr];obtain⟨y,hy⟩:∃y:Nat->Int,y=λi=>turnF cards i:=⟨_,rfl⟩
 have hy0:∀i,0<=y i:=λi=>by rw[hy];exact(So.turnF_B (B:=4294967295) (by decide) hcards).1
 have cfd:=Mq b false false cards hk hcards;rw[<-hy]at cfd;have hBl:(dR b (pG b y) b.length).length=b.length:=nM;have crr:=GS (dR b (pG b y) b.length) false a (by rw[hBl];exact hal) (by rw[hBl];exact hl8.2) (JG hk _);rw[hBl]at crr;obtain⟨hit,hhit⟩:∃hit,hit=En b y a:=⟨_,rfl⟩
 have hh2:nH b.length (tk (dR b (pG b y) b.length)) a=hit:=by rw[hhit];rfl
 rw[hh2]at crr;obtain⟨l,p1,p2,p3⟩:=EP hk hy0 hal (decide (0<=be));rw[<-hhit]at p1 p3;refine aa cfd rfl ?_;simp only[go_sem,simprocAttr];refine aa crr rfl ?_;simp only[go_sem,simprocAttr];refine dq 22 1 (by simp only[go_sem,simprocAttr]) ?_;simp only[go_sem,simprocAttr];refine dq 23 1 (by simp only[go_sem,simprocAttr]) ?_;simp only[go_sem,simprocAttr];obtain⟨pc,hpc⟩:∃pc:Nat->Bool,pc=λi=>hit i&&decide (0<=be):=⟨_,rfl⟩
 obtain⟨pg,hpg⟩:∃pg:Nat->Bool,pg=λi=>!(hit i&&decide (0<=be)):=⟨_,rfl⟩
 refine aS [0,20,21] (σ:=Nat) (λk=>k<=b.length) (λk=>b.length-k) (λk=>[(22,.slice 5 (bC pc k).length 0 (bC pc k).length),(23,.slice 6 (bC pg k).length 0 (bC pg k).length),(24,.p (.int .i64 (k:Int)))])
  (λk=>[.row 6 [.p s.pv],.row 4 [.p (.agg [.int .u8 bad,.int .u8 sft,.slice 1 (cards.map uf) false,.slice 1 (warm.map So.u16P) false])],.row 6 [.p (mh s v).pv],.row 2 [.p (.agg [.int .i64 (-1),.int .i64 (-1)])],.row 2 [.p (.agg [.int .i64 be,.int .i64 bl])],.row 1 (rL (bC pc k)),.row 1 (rL (bC pg k))]) 0 (bE _) ?_ ?_
 .simp only[go_sem,simprocAttr];exact⟨⟨rfl,rfl,rfl⟩,⟨rfl,rfl⟩,bg _ _,bg _ _⟩
 intro k hkn;dsimp only;rcases aw k b.length with hkl|hkl
 .have hd:decide ((k:Int)<(b.length:Int))=true:=decide_eq_true (by omega);have hki:(k:Int)<(b.length:Int):=by omega
  have wk:IntKind.i64.wrap ((k:Int)+1)=((k+1:Nat):Int):=az (by omega) (by simp[ai];omega) (by omega);have gk:=cN hit hkl;have s1:=l6 pc k;have s2:=l6 pg k;have l1:=jH pc k;have l2:=jH pg k;have r1:(bC pc k).length+1<=ai:=by simp[ai];omega
  have r2:(bC pg k).length+1<=ai:=by simp[ai];omega
  have hck:pc k=(hit k&&decide (0<=be)):=by rw[hpc]
  have hgk:pg k=!(hit k&&decide (0<=be)):=by rw[hpg]
  simp only[hd,hki,gk,go_sem,simprocAttr];cases c1:hit k
  .rw[hck,c1,Bool.false_and,if_neg (by decide),co]at s1;rw[hgk,c1,Bool.false_and,lw,if_pos rfl]at s2;simp only[r2,go_sem,simprocAttr];refine ak (k+1) hkl (by omega) ?_;simp only[wk,s1,s2,kC,ay,aC,go_sem,simprocAttr];exact⟨bg _ _,bg _ _⟩
  .cases c2:decide (0<=be)
   .rw[hck,c1,c2,kM,if_neg (by decide),co]at s1;rw[hgk,c1,c2,kM,lw,if_pos rfl]at s2;simp only[c2,r2,go_sem,simprocAttr];refine ak (k+1) hkl (by omega) ?_;simp only[wk,s1,s2,kC,ay,aC,go_sem,simprocAttr];exact⟨bg _ _,bg _ _⟩
   .rw[hck,c1,c2,kM,if_pos rfl]at s1;rw[hgk,c1,c2,kM,Bool.not_true,if_neg (by decide),co]at s2;simp only[c2,r1,go_sem,simprocAttr];refine ak (k+1) hkl (by omega) ?_;simp only[wk,s1,s2,kC,ay,aC,go_sem,simprocAttr];exact⟨bg _ _,bg _ _⟩
 have hd:decide ((k:Int)<(b.length:Int))=false:=decide_eq_false (by omega);have:k=b.length:=by omega
 subst this;have hpo:1<=(bC pc b.length).length+(bC pg b.length).length:=by
  have h0:(0:Nat)∈List.range b.length:=bX.2 (by omega);cases hp0:pc 0
  .have:0∈bC pg b.length:=List.mem_filter.2 ⟨h0,by rw[hpg];rw[hpc]at hp0;dsimp only at hp0 |-;rw[hp0];rfl⟩;have:=List.length_pos_of_mem this;omega
  .have:0∈bC pc b.length:=List.mem_filter.2 ⟨h0,hp0⟩;have:=List.length_pos_of_mem this;omega
 have l1:=jH pc b.length;have l2:=jH pg b.length;have hFew:=C7 b false (.slice 1 ((bC pc b.length).map bQ) false) (.slice 1 ((bC pg b.length).map bQ) false) (bC pc b.length) (bC pg b.length) he' hT (by rw[<-wZ];exact .mk) (by rw[<-wZ];exact .mk) hpo (by omega) Dg Dg;have e1:(List.range b.length).filter (λi=>hit i&&decide (0<=be))=bC pc b.length:=by rw[hpc];rfl
 have e2:(List.range b.length).filter (λi=>!(hit i&&decide (0<=be)))=bC pg b.length:=by rw[hpg];rfl
 rw[e1,e2]at p1;rw[e1]at p3;rw[p1,ke]at hFew;generalize bC pc b.length=compl at *
 generalize bC pg b.length=good at *
 have q2:decide ((l.length:Int)<=1)=true:=decide_eq_true (by omega);have q3:(((l.length:Int)==1)==decide ((0:Int)<(compl.length:Int)))=true:=by
  rw[beq_iff_eq,gC,beq_iff_eq,decide_eq_true_eq];have h1:(l.length:Int)=1↔l.length=1:=by omega
  have h2:(0:Int)<(compl.length:Int)↔compl≠[]:=by
   rw[<-wy];omega
  rw[h1,h2];exact p3
 simp only[hd,go_sem,simprocAttr];refine ML hFew ?_ ?_
 .simp only[lB,dz,go_sem,simprocAttr]
 simp only[q2,q3,go_sem,simprocAttr];refine aa So.cAwake rfl ?_;simp only[go_sem,simprocAttr];refine aa rj rfl ?_;simp only[go_sem,simprocAttr]
set_option maxRecDepth 100000
theorem jN(cs:List PV):ij true cs=.agg cs:=by
 cases cs with
 |nil=>rfl
 |cons a l=>cases l<;>rfl
theorem mJ{n:Nat}{cs:List PV}(h:dx TP (n+1) 3 cs):∃m,cs=[.int .i64 m]:=by
 obtain⟨m,h,_⟩:=r9 (k:=.i64) (by kernel_rfl) h;exact⟨m,h⟩
theorem Nx{n:Nat}{cs:List PV}(h:dx TP (n+2) 60 cs):∃s:Span,.agg cs=s.pv:=by
 obtain⟨a,_,rfl,ha,b,_,rfl,hb,rfl⟩:=jl (ts:=[3,3]) (by kernel_rfl) h;obtain⟨x,rfl⟩:=mJ ha;obtain⟨y,rfl⟩:=mJ hb;exact⟨⟨x,y⟩,rfl⟩
theorem LW{n}{cs}(h:dx TP (n+3) 115 cs):∃l:List Span,cs=[.slice 2 (l.map Span.pv) false]:=by
 obtain⟨xs,rfl,_,hx⟩:=m5 (e:=60) (z:=2) (g:=true) (by kernel_rfl) h;obtain⟨l,rfl⟩:=tj Span.pv (xs:=xs) λx hm=>by
  obtain⟨es,rfl,h⟩:=hx x hm;rw[jN];exact Nx h
 exact⟨l,rfl⟩
theorem J4{n:Nat}{cs:List PV}(h:dx TP (n+2) 164 cs):∃s:TrTake,.agg cs=s.pv:=by
 obtain⟨a,_,rfl,ha,b,_,rfl,hb,rfl⟩:=jl (ts:=[3,3]) (by kernel_rfl) h;obtain⟨x,rfl⟩:=mJ ha;obtain⟨y,rfl⟩:=mJ hb;exact⟨⟨x,y⟩,rfl⟩
theorem H4{n:Nat}{cs:List PV}(h:dx TP (n+3) 160 cs):∃l:List TrTake,cs=[.slice 2 (l.map TrTake.pv) false]/\(l.length:Int)<=9223372036854775807:=by
 obtain⟨xs,rfl,hl,hx⟩:=m5 (e:=164) (z:=2) (g:=true) (by kernel_rfl) h;obtain⟨l,rfl⟩:=tj TrTake.pv (xs:=xs) λx hm=>by
  obtain⟨es,rfl,h⟩:=hx x hm;rw[jN];exact J4 h
 refine⟨l,rfl,?_⟩;simp[maxLen]at hl;omega
theorem H6{n:Nat}{cs:List PV}(h:dx TP (n+4) 162 cs):∃t:TrBatch,.agg cs=t.pv/\(t.takes.length:Int)<=9223372036854775807:=by
 obtain⟨a,_,rfl,ha,b,_,rfl,hb,c,_,rfl,hc,d,_,rfl,hd,e,_,rfl,he,rfl⟩:=jl (ts:=[9,3,3,4,160]) (by kernel_rfl) h;obtain⟨x,rfl,_⟩:=FJ (by kernel_rfl) ha;obtain⟨y,rfl⟩:=mJ hb;obtain⟨z,rfl⟩:=mJ hc;obtain⟨w,rfl⟩:=JP (by kernel_rfl) hd;obtain⟨l,rfl,hl⟩:=H4 he;exact⟨⟨x,y,z,w,l⟩,rfl,hl⟩
theorem qQ{α:Type}(f:α->PV)(q:α->Prop):∀{xs:List PV},(∀x,x∈xs->∃a,x=f a/\q a)->∃l:List α,xs=l.map f/\∀a,a∈l->q a
 |[],_=>⟨[],rfl,λa h=>by cases h⟩
 |x::xs,h=>by
  obtain⟨a,rfl,ha⟩:=h x List.mem_cons_self;obtain⟨l,rfl,hl⟩:=qQ f q λy hy=>h y (eU _ hy);exact⟨a::l,rfl,λb hb=>by
   rcases dQ.1 hb with rfl|hb
   .exact ha
   .exact hl b hb⟩
theorem book_of{v:PV}(h:uQ TP 8 22 v):∃b:List TrBatch,v=.slice 5 (b.map TrBatch.pv) false/\cZ b:=by
 obtain⟨cs,rfl,h⟩:=h;rw[show (aZ TP 22==some true)=false by kernel_rfl];obtain⟨xs,rfl,_,hx⟩:=m5 (e:=162) (z:=5) (g:=true) (by kernel_rfl) h;obtain⟨l,rfl,hl⟩:=qQ TrBatch.pv (λt=>(t.takes.length:Int)<=9223372036854775807) (xs:=xs) λx hm=>by
  obtain⟨es,rfl,h⟩:=hx x hm;rw[jN];exact H6 h
 exact⟨l,rfl,hl⟩
theorem H5{n:Nat}{cs:List PV}(h:dx TP (n+4) 117 cs):∃t:SoStore,.agg cs=t.pv:=by
 obtain⟨a,_,rfl,ha,b,_,rfl,hb,c,_,rfl,hc,rfl⟩:=jl (ts:=[9,3,115]) (by kernel_rfl) h;obtain⟨x,rfl,_⟩:=FJ (by kernel_rfl) ha;obtain⟨y,rfl⟩:=mJ hb;obtain⟨z,rfl⟩:=LW hc;exact⟨⟨x,y,z⟩,rfl⟩
theorem season_of{v:PV}(h:uQ TP 8 27 v):∃s:SoSeason,v=s.pv:=by
 obtain⟨cs,rfl,h⟩:=h;rw[show (aZ TP 27==some true)=true by kernel_rfl,jN];obtain⟨a,_,rfl,ha,b,_,rfl,hb,c,_,rfl,hc,rfl⟩:=jl (ts:=[24,3,25]) (by kernel_rfl) h;obtain⟨a1,_,rfl,ha1,a2,_,rfl,ha2,a3,_,rfl,ha3,a4,_,rfl,ha4,rfl⟩:=jl (ts:=[3,3,3,3]) (by kernel_rfl) ha;obtain⟨x1,rfl⟩:=mJ ha1;obtain⟨x2,rfl⟩:=mJ ha2;obtain⟨x3,rfl⟩:=mJ ha3;obtain⟨x4,rfl⟩:=mJ ha4;obtain⟨y,rfl⟩:=mJ hb;obtain⟨xs,rfl,_,hx⟩:=m5 (e:=117) (z:=3) (g:=true) (by kernel_rfl) hc;obtain⟨l,rfl⟩:=tj SoStore.pv (xs:=xs) λx hm=>by
  obtain⟨es,rfl,h⟩:=hx x hm;rw[jN];exact H5 h
 exact⟨⟨⟨x1,x2,x3,x4⟩,y,l⟩,rfl⟩
theorem bent_of{v:PV}(h:uQ TP 8 31 v):∃(bad sft:Int) (cards warm:List Int),v=.agg [.int .u8 bad,.int .u8 sft,.slice 1 (cards.map uf) false,.slice 1 (warm.map So.u16P) false]/\(0<=bad/\bad<=255)/\(0<=sft/\sft<=255)/\(∀v,v∈cards->0<=v/\v<=4294967295)/\∀v,v∈warm->0<=v/\v<=65535:=by
 obtain⟨cs,rfl,h⟩:=h;rw[show (aZ TP 31==some true)=true by kernel_rfl,jN];obtain⟨a,_,rfl,ha,b,_,rfl,hb,c,_,rfl,hc,d,_,rfl,hd,rfl⟩:=jl (ts:=[5,5,28,29]) (by kernel_rfl) h;obtain⟨k,rfl,k1,k2⟩:=r9 (k:=.u8) (by kernel_rfl) ha;obtain⟨w,rfl,w1,w2⟩:=r9 (k:=.u8) (by kernel_rfl) hb;obtain⟨xs,rfl,_,hx⟩:=m5 (e:=237) (z:=1) (g:=false) (by kernel_rfl) hc;obtain⟨cards,rfl,hcards⟩:=qQ uf (λv=>0<=v/\v<=4294967295) (xs:=xs) λx hm=>by
  obtain⟨es,rfl,h⟩:=hx x hm;obtain⟨m,rfl,m1,m2⟩:=r9 (k:=.u32) (by kernel_rfl) h;exact⟨m,rfl,m1,m2⟩
 obtain⟨ys,rfl,_,hy⟩:=m5 (e:=73) (z:=1) (g:=false) (by kernel_rfl) hd;obtain⟨warm,rfl,hwarm⟩:=qQ So.u16P (λv=>0<=v/\v<=65535) (xs:=ys) λx hm=>by
  obtain⟨es,rfl,h⟩:=hy x hm;obtain⟨m,rfl,m1,m2⟩:=r9 (k:=.u16) (by kernel_rfl) h;exact⟨m,rfl,m1,m2⟩
 exact⟨k,w,cards,warm,rfl,⟨k1,k2⟩,⟨w1,w2⟩,hcards,hwarm⟩
end Tr
end Abs
end Go.Proofs.YtmndpldajflenaaGreatDoor
