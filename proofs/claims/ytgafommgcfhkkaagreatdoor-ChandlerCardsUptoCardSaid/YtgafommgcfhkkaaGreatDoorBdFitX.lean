/- CONTRACTS of functions and laws. No conditions but those in the heads. -/
import Derived.Test.YtgafommgcfhkkaaGreatDoorWkRunX
import Derived.Shelf.Strings.OnBuilder
set_option linter.all false
set_option maxHeartbeats 2000000
open Go.Proofs.Tryz renaming prog->TP
open Go.Proofs.Tryz
open Go.IntKind (i64)
namespace Go.Proofs.YtgafommgcfhkkaaGreatDoor
namespace Abs
set_option maxRecDepth 4000
def sW{α β γ:Type}(f:α->γ){l:List α}{r:List β}(h:r.length=l.length):((l.zip r).map λp=>f p.1)=l.map f:=by
 rw[show (λp:α×β=>f p.1)=f∘Prod.fst from rfl,<-g8,List.map_fst_zip (by omega)]
def sV{α β γ:Type}(f:β->γ){l:List α}{r}(h:r.length=l.length):((l.zip r).map λp=>f p.2)=r.map f:=by
 rw[show (λp:α×β=>f p.2)=f∘Prod.snd from rfl,<-g8,List.map_snd_zip (by omega)]
def nq{l}{r}(e:BdWaxesOk l)(i:∀n,n∈r->0<=n/\n<=20):PsOk (l.zip r):=by
 refine⟨by have:=e.len;simp;omega,λp j=>?_⟩;obtain⟨x,n⟩:=p;obtain⟨u,q⟩:=List.of_mem_zip j;exact⟨e.wax x u,i n q⟩
def Ab{l}{r}(j i)(q:BdWaxesOk l)(e:r.length=l.length):af TP 321 [.slice 7 (l.map BdWax.pv) j,.slice 1 (r.map ay) i] (s9 (l.zip r)):=by
 have h:=YV (l.zip r) j i (by have:=q.len;simp;omega);rwa [sW BdWax.pv e,sV ay e]at h
def mh{l:List BdWax}{r:List Int}(j i:Bool)(u:BdWaxesOk l)(e:r.length=l.length)(q:∀n,n∈r->0<=n/\n<=20):af TP 273 [.slice 7 (l.map BdWax.pv) j,.slice 1 (r.map ay) i] (.int .i64 (bv dh (l.zip r))):=by
 have h:=QN (l.zip r) j i (nq u q);rwa [sW BdWax.pv e,sV ay e]at h
def FX{l:List BdWax}{r:List Int}(j i:Bool)(u:BdWaxesOk l)(e:r.length=l.length)(q:∀n,n∈r->0<=n/\n<=20):af TP 370 [.slice 7 (l.map BdWax.pv) j,.slice 1 (r.map ay) i] (.tuple [(l6 (l.zip r)).pv,(ff (l.zip r)).pv]):=by
 have h:=BD (l.zip r) j i (nq u q);rwa [sW BdWax.pv e,sV ay e]at h
def LE{l}(h:BdWaxesOk l):i64.wrap ((l.length:Int)-1)=(l.length:Int)-1:=ah (by omega) (by have:=h.len;omega)
def oh (a b:Bool):Int:=if a=true then 7 else if b=true then 2 else 0
def Qm(s)(a b):ec s.lo s.hi a b=oh (!cm s a b) (aL s):=by
 rw[nI];unfold oh;cases cm s a b<;>cases aL s<;>rfl
def lm (w:BdWish):Bool:=!(cm w.melt 0 2000&&cm w.shrink 0 1000)
def g9 (w:BdWish):Bool:=aL w.melt||aL w.shrink
def fe (l:List BdWax) (w:BdWish):Int:=
 if uC l=0 then
  if w.parts.length=l.length then oh (lm w||w.parts.any λs=>!cm s 0 20) (g9 w||w.parts.any aL)
  else 3
 else uC l
def Hr(w):jU w.melt w.shrink=oh (lm w) (g9 w):=by
 unfold jU oh lm g9;cases (cm w.melt 0 2000&&cm w.shrink 0 1000)<;>cases (aL w.melt||aL w.shrink)<;>rfl
structure WishOk (m:Nat) (w:BdWish):Prop where
 len:w.parts.length=m
 melt:0<=w.melt.lo/\w.melt.lo<=w.melt.hi/\w.melt.hi<=2000
 shrink:0<=w.shrink.lo/\w.shrink.lo<=w.shrink.hi/\w.shrink.hi<=1000
 parts:∀s,s∈w.parts->0<=s.lo/\s.lo<=s.hi/\s.hi<=20
def ug{l}{w}(h:fe l w=0):BdWaxesOk l/\WishOk l.length w:=by
 unfold fe at h;split at h
 .rename_i e;split at h
  .rename_i u;refine⟨tV e,?_⟩;unfold oh at h;split at h
   .cases h
   .rename_i q;split at h
    .cases h
    .rename_i i;simp[lm,g9,cm,aq,aL]at q i;refine⟨u,by omega,by omega,λs j=>?_⟩;have:=q.2 s j;have:=i.2 s j;omega
  .cases h
 .rename_i e;exact absurd h e
def YF(l)(w):af TP 318 [dg l,w.pv] (.int .i64 (fe l w)):=by
 refine ae (ag func318 rfl) rfl (zm ?_)
 (first|refine aa (BI l) rfl ?_|refine aj (BI l) rfl ?_)
 simp only[ao,go_sem,simprocAttr];refine aT (λD=>?_) (λD=>?_)
 .have e:¬uC l=0:=by simpa[uC]using D
  simp only[fe,if_neg e,go_sem,simprocAttr];rfl
 have e:uC l=0:=by simpa[uC]using D
 have hok:=(tV e).len;refine zm ?_;refine aT (λE=>?_) (λE=>?_)
 .have:¬(w.parts.length=l.length):=by simp[bne]at E;omega
  simp[fe,if_pos e,if_neg this,go_sem]
 have y:w.parts.length=l.length:=by simp[bne]at E;omega
 have v:fe l w=oh (lm w||w.parts.any λs=>!cm s 0 20) (g9 w||w.parts.any aL):=by rw[fe,if_pos e,if_pos y]
 rw[v];have z:lm w=!(aq w.melt.lo 0 2000&&aq w.melt.hi 0 2000&&(aq w.shrink.lo 0 1000&&aq w.shrink.hi 0 1000)):=rfl;have C:g9 w=(decide (w.melt.hi<w.melt.lo)||decide (w.shrink.hi<w.shrink.lo)):=rfl;refine zm ?_;cases F:decide (w.melt.hi<w.melt.lo)
 all_goals
  rw[F]at C;simp only[oZ,oo]at C;refine zm ?_
  (first|refine aa (jy 0 2000 [_,_] true (by simp)) rfl ?_|refine aj (jy 0 2000 [_,_] true (by simp)) rfl ?_)
  simp only[bZ,cO,dd,<-mT,go_sem,simprocAttr];cases G:(aq w.melt.lo 0 2000&&aq w.melt.hi 0 2000)
 all_goals
  rw[G]at z;simp only[o0,Bool.false_and,uK]at z;refine zm ?_
  try
   (first|refine aa (jy 0 1000 [_,_] true (by simp)) rfl ?_|refine aj (jy 0 1000 [_,_] true (by simp)) rfl ?_)
   simp[bZ,cO,dd,<-mT,<-z,go_sem]
  refine aG [62,63] w.parts (by omega) (τ:=Bool×Bool) (λd_ rest q=>(lm w||w.parts.any λs=>!cm s 0 20)=(q.1||rest.any λs=>!cm s 0 20)/\(g9 w||w.parts.any aL)=(q.2||rest.any aL))
   (λd_ q=>[(64,.p (.int .i64 d_.length)),(8,.p (.bool q.2)),(9,.p (.bool q.1))]) (λ_ _=>[.row 5 [.p w.pv]]) (lm w,g9 w) ⟨rfl,rfl⟩ ?_ ?_ ?_
  .simp only[z,C,go_sem,simprocAttr]<;>simp
  .rintro⟨a,b⟩ ⟨j,i⟩
   dsimp only at j i;rw[j,i];cases a<;>cases b<;>simp[cO,oh,go_sem]
  .rintro d_ x r ⟨a,b⟩ A ⟨j,i⟩ hx I u
   dsimp only at j i;rw[bZ]at j i;cases a<;>cases b<;>refine zo I hx ?_
   all_goals
    try
     (first|refine aa (jy 0 20 [_,_] true (by simp)) rfl ?_|refine aj (jy 0 20 [_,_] true (by simp)) rfl ?_)
     simp only[bZ,cO,dd,<-mT,go_sem,simprocAttr]
    first
     |(refine am A (!cm x 0 20,aL x) ⟨by simpa using j,by simpa using i⟩ ?_
       simp only[u,cm,aL,go_sem,simprocAttr];done)
     |(refine am A (!cm x 0 20,true) ⟨by simpa using j,by simpa using i⟩ ?_
       simp only[u,cm,go_sem,simprocAttr];done)
     |(refine am A (true,aL x) ⟨by simpa using j,by simpa using i⟩ ?_
       simp only[u,aL,go_sem,simprocAttr];done)
     |(refine am A (true,true) ⟨by simpa using j,by simpa using i⟩ ?_
       simp[u,go_sem])
def xm(l)(w):af TP 271 [dg l,w.pv] (.int .i64 (fe l w)):=by
 refine ae (ag func271 rfl) rfl (zm ?_)
 (first|refine aa (u7 l) rfl ?_|refine aj (u7 l) rfl ?_)
 simp only[ao,go_sem,simprocAttr];cases D:((bdCheck l).2.2==0)
 .have i:¬uC l=0:=by simpa[uC]using D
  have A:((bdCheck l).2.2 != 0)=true:=by simp[bne,D]
  simp only[D,A,fe,if_neg i,go_sem,simprocAttr];rfl
 have i:uC l=0:=by simpa[uC]using D
 have A:((bdCheck l).2.2 != 0)=false:=by simp[bne,D]
 have hok:=(tV i).len;refine zm ?_;refine aT (λG=>?_) (λG=>?_)
 .have:¬(w.parts.length=l.length):=by simp[bne]at G;omega
  simp[fe,if_pos i,if_neg this,go_sem]
 have E:w.parts.length=l.length:=by simp[bne]at G;omega
 have C:fe l w=oh (lm w||w.parts.any λs=>!cm s 0 20) (g9 w||w.parts.any aL):=by rw[fe,if_pos i,if_pos E]
 rw[C];refine zn A ?_
 (first|refine aa (u6 w.melt w.shrink) rfl ?_|refine aj (u6 w.melt w.shrink) rfl ?_)
 refine zn @Hr ?_
 refine aG [3] w.parts (by omega) (τ:=Bool×Bool) (λd_ rest q=>(lm w||w.parts.any λs=>!cm s 0 20)=(q.1||rest.any λs=>!cm s 0 20)/\(g9 w||w.parts.any aL)=(q.2||rest.any aL))
  (λd_ q=>[(9,.p (.int .i64 d_.length)),(8,.p (.int .i64 (oh q.1 q.2)))]) (λ_ _=>[.row 5 [.p w.pv]]) (lm w,g9 w) ⟨rfl,rfl⟩ ?_ ?_ ?_
 .simp only[go_sem,simprocAttr]<;>simp
 .rintro⟨a,b⟩ ⟨y,v⟩
  dsimp only at y v;refine zm ?_;rw[y,v];simp only[cO,dd]
 .rintro d_ x r ⟨a,b⟩ I ⟨y,v⟩ hx J z
  dsimp only at y v;rw[bZ,<-Bool.or_assoc]at y v;refine zo J hx ?_
  (first|refine aa (oc _ _ _ _) rfl ?_|refine aj (oc _ _ _ _) rfl ?_)
  refine zn @Qm ?_;have next:∀c d e f,(oh c d==7)=e->(oh a b==0)=f->(if e=true then oh c d else if f=true then oh c d else oh a b)=oh (a||c) (b||d):=by
   intro c d e f u j;subst u j;cases a<;>cases b<;>cases c<;>cases d<;>rfl
  have F:=next (!cm x 0 20) (aL x);cases u:(oh (!cm x 0 20) (aL x)==7)
  .refine zn u ?_;cases j:(oh a b==0)
   .have:=F _ _ u j;refine zn j ?_;refine am I (a||!cm x 0 20,b||aL x) ⟨y,v⟩ ?_;simp only[fD,if_false]at this;simp[z,this,go_sem]
   .have:=F _ _ u j;refine zn j ?_;refine am I (a||!cm x 0 20,b||aL x) ⟨y,v⟩ ?_;simp only[fD,if_false,if_true]at this;simp[z,this,go_sem]
  .have:=F _ false u;refine zn u ?_;refine am I (a||!cm x 0 20,b||aL x) ⟨y,v⟩ ?_;have K:oh (!cm x 0 20) (aL x)=oh (a||!cm x 0 20) (b||aL x):=by
    cases j:(oh a b==0)<;>(have:=F _ _ u j;simpa using this)
   simp[z,K,go_sem]
def l3 (w:BdWish) (r:List Int):Bool:=(r.zip w.parts).any λq=>!aq q.1 q.2.lo q.2.hi
def gb (l:List BdWax) (w:BdWish) (r:List Int):Int:=
 if l3 w r=true then 1
 else if(l6 (l.zip r)).lo<20*w.melt.lo then 2
 else if 20*w.melt.hi<(l6 (l.zip r)).hi then 3
 else if(ff (l.zip r)).lo<20*w.shrink.lo\/20*w.shrink.hi<(ff (l.zip r)).hi then 4
 else 0
def zar{l}{w}{r}(b)(y:BdWaxesOk l)(hw:WishOk l.length w)(i:r.length=l.length)(z:∀n,n∈r->0<=n/\n<=20) :
  af TP 360 [dg l,w.pv,.slice 1 (r.map ay) b] (.int .i64 (gb l w r)):=by
 refine ae (ag func360 rfl) rfl ?_;have a1:=y.len;have Z:=hw.len;have T:i64.wrap (20*w.melt.lo)=20*w.melt.lo:=ah (by have:=hw.melt;omega) (by have:=hw.melt;omega);have S:i64.wrap (20*w.melt.hi)=20*w.melt.hi:=ah (by have:=hw.melt;omega) (by have:=hw.melt;omega);have R:i64.wrap (20*w.shrink.lo)=20*w.shrink.lo:=ah (by have:=hw.shrink;omega) (by have:=hw.shrink;omega);have O:i64.wrap (20*w.shrink.hi)=20*w.shrink.hi:=ah (by have:=hw.shrink;omega) (by have:=hw.shrink;omega);have I:((r.zip w.parts).map λq=>q.1)=r:=by have:=sW (λx=>x) (l:=r) (r:=w.parts) (by omega);simpa using this
 have G:((r.zip w.parts).map λq=>q.2)=w.parts:=by have:=sV (λx=>x) (l:=r) (r:=w.parts) (by omega);simpa using this
 have Y:(r.zip w.parts).length=r.length:=by simp;omega
 refine zm ?_;refine aG [0,2,4,11,12] (r.zip w.parts) (by omega) (τ:=Unit) (λd_ rest _=>l3 w r=rest.any λq=>!aq q.1 q.2.lo q.2.hi) (λd_ _=>[(13,.p (.int .i64 d_.length))]) (λ_ _=>[.row 5 [.p w.pv]]) () rfl ?_ ?_ ?_
 .simp only[go_sem,simprocAttr]<;>simp
 .intro _ A;have e:l3 w r=false:=by rw[A];rfl
  have F:¬((r.zip w.parts).length:Int)<(r.length:Int):=by omega
  have V:¬((r.zip w.parts).length:Int)<(l.length:Int):=by omega
  refine zn F ?_
  first
   |(first|refine aa (Ab false b y i) rfl ?_|refine aj (Ab false b y i) rfl ?_)
    refine zm ?_
    (first|refine aa (uB (l.zip r) false (nq y z)) rfl ?_|refine aj (uB (l.zip r) false (nq y z)) rfl ?_)
   |(first|refine aa (uB false b y i z) rfl ?_|refine aj (uB false b y i z) rfl ?_)
  refine zn T ?_;refine aT (λE=>?_) (λE=>?_)
  .have j:(l6 (l.zip r)).lo<20*w.melt.lo:=by simpa using E
   simp[gb,e,if_pos j,go_sem]
  have j:¬(l6 (l.zip r)).lo<20*w.melt.lo:=by simpa using E
  refine zn S ?_;refine aT (λD=>?_) (λD=>?_)
  .have v:20*w.melt.hi<(l6 (l.zip r)).hi:=by simpa using D
   simp[gb,e,if_neg j,if_pos v,go_sem]
  have v:¬20*w.melt.hi<(l6 (l.zip r)).hi:=by simpa using D
  refine zn R ?_;cases L:decide ((ff (l.zip r)).lo<20*w.shrink.lo)
  .refine zn O ?_;refine aT (λC=>?_) (λC=>?_)
   .have u:(ff (l.zip r)).lo<20*w.shrink.lo\/20*w.shrink.hi<(ff (l.zip r)).hi:=.inr (by simpa using C);simp[gb,e,if_neg j,if_neg v,if_pos u,go_sem]
   .have u:¬((ff (l.zip r)).lo<20*w.shrink.lo\/20*w.shrink.hi<(ff (l.zip r)).hi):=by simp at L C;omega
    simp[gb,e,if_neg j,if_neg v,if_neg u,go_sem]
  .have u:(ff (l.zip r)).lo<20*w.shrink.lo\/20*w.shrink.hi<(ff (l.zip r)).hi:=.inl (by simpa using L);simp[gb,e,if_neg j,if_neg v,if_pos u,go_sem]
 .intro d_ x rest _ X A hx a0 J;have F:(d_.length:Int)<(r.length:Int):=by omega
  have V:(d_.length:Int)<(l.length:Int):=by omega
  have U:(d_.length:Int)<(w.parts.length:Int):=by omega
  have N:r[d_.length]?=some x.1:=by rw[<-I,cX,hx];rfl
  have M:w.parts[d_.length]?=some x.2:=by rw[<-G,cX,hx];rfl
  refine s_ F U N M ?_
  first
   |(first|refine aa (jy _ _ [_] true (by simp)) rfl ?_|refine aj (jy _ _ [_] true (by simp)) rfl ?_)
   |(first|refine aa (zh _ _ _) rfl ?_|refine aj (zh _ _ _) rfl ?_)
  simp only[bZ,cO,dd,go_sem,simprocAttr];cases K:aq x.1 x.2.lo x.2.hi
  .refine zm ?_;have e:l3 w r=true:=by rw[A,bZ,K];rfl
   simp[gb,e,go_sem]
  .refine zm ?_;refine am X () (by rw[A,bZ,K];rfl) ?_;simp[J,go_sem]
def NO{l}{w}{r}(b)(y:BdWaxesOk l)(hw:WishOk l.length w)(i:r.length=l.length)(E:∀n,n∈r->0<=n/\n<=20) :
  af TP 335 [dg l,w.pv,.slice 1 (r.map ay) b] (.int .i64 (gb l w r)):=by
 refine ae (ag func335 rfl) rfl ?_;have a1:=y.len;have Z:=hw.len;have D:i64.wrap (20*w.melt.lo)=20*w.melt.lo:=ah (by have:=hw.melt;omega) (by have:=hw.melt;omega);have C:i64.wrap (20*w.melt.hi)=20*w.melt.hi:=ah (by have:=hw.melt;omega) (by have:=hw.melt;omega);have A:i64.wrap (20*w.shrink.lo)=20*w.shrink.lo:=ah (by have:=hw.shrink;omega) (by have:=hw.shrink;omega);have z:i64.wrap (20*w.shrink.hi)=20*w.shrink.hi:=ah (by have:=hw.shrink;omega) (by have:=hw.shrink;omega);have O:((r.zip w.parts).map λq=>q.1)=r:=by have:=sW (λx=>x) (l:=r) (r:=w.parts) (by omega);simpa using this
 have N:((r.zip w.parts).map λq=>q.2)=w.parts:=by have:=sV (λx=>x) (l:=r) (r:=w.parts) (by omega);simpa using this
 have Y:(r.zip w.parts).length=r.length:=by simp;omega
 refine zm ?_;refine aG [0,2,4] (r.zip w.parts) (by omega) (τ:=Unit) (λd_ rest _=>l3 w r=rest.any λq=>!aq q.1 q.2.lo q.2.hi) (λd_ _=>[(7,.p (.int .i64 d_.length))]) (λ_ _=>[.row 5 [.p w.pv]]) () rfl ?_ ?_ ?_
 .simp only[go_sem,simprocAttr]<;>simp
 .intro _ G;have e:l3 w r=false:=by rw[G];rfl
  have M:¬((r.zip w.parts).length:Int)<(r.length:Int):=by omega
  have L:¬((r.zip w.parts).length:Int)<(l.length:Int):=by omega
  refine zo M L ?_
  first
   |(first|refine aa (Ab false b y i) rfl ?_|refine aj (Ab false b y i) rfl ?_)
    refine zm ?_
    (first|refine aa (uB (l.zip r) false (nq y E)) rfl ?_|refine aj (uB (l.zip r) false (nq y E)) rfl ?_)
   |(first|refine aa (FX false b y i E) rfl ?_|refine aj (FX false b y i E) rfl ?_)
  refine s_ D C A z ?_;refine aT (λK=>?_) (λK=>?_)
  .have j:(l6 (l.zip r)).lo<20*w.melt.lo:=by simpa using K
   simp[gb,e,if_pos j,go_sem]
  have j:¬(l6 (l.zip r)).lo<20*w.melt.lo:=by simpa using K
  refine s_ D C A z ?_;refine aT (λJ=>?_) (λJ=>?_)
  .have v:20*w.melt.hi<(l6 (l.zip r)).hi:=by simpa using J
   simp[gb,e,if_neg j,if_pos v,go_sem]
  have v:¬20*w.melt.hi<(l6 (l.zip r)).hi:=by simpa using J
  refine s_ D C A z ?_;cases F:decide ((ff (l.zip r)).lo<20*w.shrink.lo)
  .refine t_ D C A z F ?_;refine aT (λI=>?_) (λI=>?_)
   .have u:(ff (l.zip r)).lo<20*w.shrink.lo\/20*w.shrink.hi<(ff (l.zip r)).hi:=.inr (by simpa using I);simp[gb,e,if_neg j,if_neg v,if_pos u,go_sem]
   .have u:¬((ff (l.zip r)).lo<20*w.shrink.lo\/20*w.shrink.hi<(ff (l.zip r)).hi):=by simp at F I;omega
    simp[gb,e,if_neg j,if_neg v,if_neg u,go_sem]
  .have u:(ff (l.zip r)).lo<20*w.shrink.lo\/20*w.shrink.hi<(ff (l.zip r)).hi:=.inl (by simpa using F);simp[F,gb,e,if_neg j,if_neg v,if_pos u,go_sem]
 .intro d_ x rest _ X G hx a0 R;have M:(d_.length:Int)<(r.length:Int):=by omega
  have L:(d_.length:Int)<(l.length:Int):=by omega
  have V:(d_.length:Int)<(w.parts.length:Int):=by omega
  have U:r[d_.length]?=some x.1:=by rw[<-O,cX,hx];rfl
  have T:w.parts[d_.length]?=some x.2:=by rw[<-N,cX,hx];rfl
  refine t_ M L V U T ?_
  first
   |(first|refine aa (jy _ _ [_] true (by simp)) rfl ?_|refine aj (jy _ _ [_] true (by simp)) rfl ?_)
   |(first|refine aa (zh _ _ _) rfl ?_|refine aj (zh _ _ _) rfl ?_)
  simp only[bZ,cO,dd,go_sem,simprocAttr];cases S:aq x.1 x.2.lo x.2.hi
  .refine zm ?_;have e:l3 w r=true:=by rw[G,bZ,S];rfl
   simp[gb,e,go_sem]
  .refine zm ?_;refine am X () (by rw[G,bZ,S];rfl) ?_;simp[R,go_sem]
def iC (a b:Int):List Int:=(List.range (b+1-a).toNat).map λ(i:Nat)=>a+(i:Int)
def sY(a b):(iC a b).length=(b+1-a).toNat:=by simp[iC]
def DK{a b y}{i:Nat}(h:(iC a b)[i]?=some y):y=a+(i)/\y<=b:=by
 unfold iC at h;rw[cX,bg]at h;obtain⟨k,l,rfl⟩:=h;obtain⟨j,e⟩:=aC.1 l;simp at j e;subst e;exact⟨rfl,by omega⟩
def vq{a b y}:y∈iC a b↔a<=y/\y<=b:=by
 unfold iC;rw[cA];constructor
 .rintro⟨i,hi,rfl⟩
  rw[sq]at hi;omega
 .rintro⟨j,e⟩
  exact⟨(y-a).toNat,by rw[sq];omega,by omega⟩
def eK:Nat->Int->List (List Int)
 |0,left=>[[left]]
 |k+1,left=>(iC 0 left).flatMap λn=>(eK k (left-n)).map (n::·)
def wA:∀(k) (left),left<=20->(eK k left).length<=21^k
 |0,_,_=>by simp[eK]
 |k+1,left,h=>by
  have e:∀l:List Int,(∀n,n∈l->0<=n)->(l.flatMap λn=>(eK k (left-n)).map (n::·)).length<=l.length*21^k:=by
   intro l
   induction l with
   |nil=>intro _;simp
   |cons n l q=>
    intro i;have y:=q λm v=>i m (by simp[v]);have j:=wA k (left-n) (by have:=i n (by simp);omega);simp only[mS,ak,dQ,bc,eW,wa];omega
  have y:=e (iC 0 left) λn u=>(vq.1 u).1;have j:(iC 0 left).length<=21:=by rw[sY];omega
  have z:(iC 0 left).length*21^k<=21*21^k:=gp _ j;rw[eK,Nat.pow_succ];omega
def Lr:∀(k) (left) (r),0<=left->r∈eK k left->r.length=k+1/\(∀n,n∈r->0<=n/\n<=left)/\r.sum=left
 |0,left,r,v,h=>by
  simp[eK]at h;subst h;refine⟨rfl,λn e=>?_,by simp⟩;simp at e
  omega
 |k+1,left,r,v,h=>by
  rw[eK,wc]at h;obtain⟨n,e,h⟩:=h;rw[cA]at h;obtain⟨t,j,rfl⟩:=h;have y:=vq.1 e;obtain⟨u,q,l⟩:=Lr k (left-n) t (by omega) j;refine⟨by simp[u],λm i=>?_,by simp[l];omega⟩;rcases br.1 i with rfl|i
  .omega
  .have:=q m i;omega
def Ay(n)(h)(m):∀l,aE (bi n h) (l.map .p++m)=(aE (bi n h) m).map (l++·)
 |[]=>by cases e:aE (bi n h) m<;>simp[e]
 |x::r=>by
  rw[bf,ga,aE,Ay n h m r,bH];cases aE (bi n h) m<;>rfl
def O2{α β:Type}(f:α->β)(l:List α)(x):(l.map f++[x]).take (l.length+1)=l.map f++[x]:=dt (by simp)
attribute [go_sem] Ay O2
def Cn (ls:List (List Int)):PV:=.slice 1 (ls.map λr=>.slice 1 (r.map ay) false) false
attribute [go_sem] Cn
def BE:∀(k:Nat) (begin:List Int) (left:Int) (b:Bool),0<=left->left<=20->k<=4->begin.length+k<=100 ->
  af TP 334 [.int .i64 ((k+1:Nat):Int),.slice 1 (begin.map ay) b,.int .i64 left] (Cn ((eK k left).map (begin++·)))
 |0,begin,left,b,N,M,L,D=>by
  refine bX (ag func334 rfl) rfl ?_;have A:(0:Nat)<=ai:=cG _;have z:(1:Nat)<=ai:=by simp[ai]
  simp only[go_sem,simprocAttr]
  cases begin with
  |nil=>
   simp only[A,z,eK,Int.natCast_add,Int.natCast_zero,Mv,Int.natCast_one,go_sem,simprocAttr]
  |cons c cs=>
   simp only[bc]at D;have y1:cs.length+1<=ai:=by simp[ai];omega
   have y2:cs.length+1+1<=ai:=by simp[ai];omega
   simp only[y1,y2,eK,Int.natCast_add,Int.natCast_zero,Mv,Int.natCast_one,ak,aS,go_sem,simprocAttr]
 |k+1,begin,left,b,N,M,L,D=>by
  refine bF (ag func334 rfl) rfl ?_;have K:(((k+1+1:Nat):Int)==1)=false:=by simp<;>omega
  have A:(0:Nat)<=ai:=cG _;have z:(1:Nat)<=ai:=by simp[ai]
  have u:i64.wrap (((k+1+1:Nat):Int)-1)=((k+1:Nat):Int):=by rw[ct (by omega) (by simp[ai];omega)];omega
  have S:21^k<=194481:=by
   have:=mX (n:=21) (by omega) (show k<=4 by omega);simpa using this
  refine zn K ?_;refine bt 7 1 (by simp only[go_sem,simprocAttr]) (zm ?_)
  refine aG [0,1,2] (iC 0 left) (by rw[sY];omega) (τ:=List (List Int)) (λd_ rest e=>e=(d_.flatMap λn=>(eK k (left-n)).map (n::·))/\e.length<=d_.length*194481)
   (λd_ e=>[(8,.p (.int .i64 d_.length)),(7,.slice 0 e.length 0 e.length)]) (λ_ e=>[.row 1 (e.map λr=>.p (.slice 1 ((begin++r).map ay) false))]) [] ⟨rfl,by simp⟩ ?_ ?_ ?_
  .simp only[go_sem,simprocAttr]<;>simp
  .rintro e ⟨v,_⟩
   have l:¬(((iC 0 left).length:Nat):Int)<=left:=by rw[sY];omega
   simp only[l,go_sem,simprocAttr];have I:eK (k+1) left=e:=by rw[eK,v]
   rw[I];simp only[g8,gS];exact w_
  .rintro d_ y rest e J ⟨v,I⟩ hx l j
   obtain⟨C,O⟩:=DK hx;rw[Mv]at C;have q:((d_.length:Nat):Int)<=left:=by omega
   have hw:i64.wrap (left-((d_.length:Nat):Int))=left-((d_.length:Nat):Int):=ah;have R:=wA k (left-(d_.length:Int)) (by omega);have F:d_.length<=20:=by omega
   have i:e.length+(eK k (left-(d_.length:Int))).length<=ai:=by
    have:d_.length*194481<=20*194481:=gp _ F;simp[ai];omega
   have G:=BE k (begin++[(d_.length:Int)]) (left-(d_.length:Int)) false (by omega) (by omega) (by omega) (by simp;omega)
   cases begin with
   |nil=>
    refine t_ q A z u hw ?_;refine te G 1 1 [ay d_.length] ?_ ?_ ?_ ?_
    .simp[go_sem]
    .simp[go_sem]
    .simp only[go_sem,simprocAttr]
    simp only[i,go_sem,simprocAttr];have E:e++(eK k (left-(d_.length:Int))).map ((d_.length:Int)::·)=((d_++[y]).flatMap λn=>(eK k (left-n)).map (n::·)):=by rw[v,C];simp
    refine am J (e++(eK k (left-(d_.length:Int))).map ((d_.length:Int)::·)) ⟨E,by simp;omega⟩ ?_
    simp only[j,ak,aS,g8,gS,go_sem,simprocAttr]
   |cons c cs=>
    simp only[bc]at D;have y1:cs.length+1<=ai:=by simp[ai];omega
    have y2:cs.length+1+1<=ai:=by simp[ai];omega
    simp only[q,y1,y2,u,hw,go_sem,simprocAttr];refine te G 1 1 ((c::cs++[(d_.length:Int)]).map ay) ?_ ?_ ?_ ?_
    .simp[aS,go_sem]
    .simp[go_sem]
    .simp only[aS,ak,go_sem,simprocAttr]
    simp only[i,go_sem,simprocAttr];have E:e++(eK k (left-(d_.length:Int))).map ((d_.length:Int)::·)=((d_++[y]).flatMap λn=>(eK k (left-n)).map (n::·)):=by rw[v,C];simp
    refine am J (e++(eK k (left-(d_.length:Int))).map ((d_.length:Int)::·)) ⟨E,by simp;omega⟩ ?_;simp only[j,ak,aS,g8,gS,dD,go_sem,simprocAttr]
def fits (l:List BdWax) (w:BdWish):List (List Int):=(eK (l.length-1) 20).filter λr=>gb l w r==0
def Bc{l}(e:BdWaxesOk l){r}(h:r∈eK (l.length-1) 20):RecOk l.length r:=by
 obtain⟨q,j,i⟩:=Lr _ _ _ (by omega) h;have:=e.len;exact⟨by omega,j,i⟩
def tN{l}{w}(e:BdWaxesOk l){r}(h:r∈fits l w):RecOk l.length r/\gb l w r=0:=by
 obtain⟨j,i⟩:=List.mem_filter.1 h;exact⟨Bc e j,by simpa using i⟩
def wz{l}(e:BdWaxesOk l):(eK (l.length-1) 20).length<=194481:=by
 have q:=wA (l.length-1) 20 (by omega);have j:21^(l.length-1)<=21^4:=mX (by omega) (by have:=e.len;omega);have i:(21:Nat)^4=194481:=rfl;omega
def C7{l}(w)(e:BdWaxesOk l):(fits l w).length<=194481:=fP (List.length_filter_le _ _) (wz e)
def AM(l:List BdWax)(w:BdWish)(q:BdWaxesOk l)(hw:WishOk l.length w):af TP 272 [dg l,w.pv] (Cn (fits l w)):=by
 refine bF (ag func272 rfl) rfl ?_;have C:=q.len;have E:=wz q;have D:((l.length:Nat):Int)=((l.length-1+1:Nat):Int):=by omega
 refine zm ?_;refine aa (af.argless (args':=[.int .i64 l.length,.nilslice,.int .i64 20]) (BE (l.length-1) [] 20 false (by omega) (by omega) (by omega) (by simp;omega)) ⟨.inl (by rw[D]),.inr ⟨rfl,1,rfl⟩,.inl rfl,trivial⟩) rfl ?_;simp only[jb,List.map_id'];refine zm ?_;refine bt 6 1 (by simp only[go_sem,simprocAttr]) (zm ?_)
 refine aG [0,3,5] (eK (l.length-1) 20) (by omega) (τ:=List (List Int)) (λd_ rest e=>fits l w=e++rest.filter (λr=>gb l w r==0)/\e.length<=d_.length)
  (λd_ e=>[(7,.p (.int .i64 d_.length)),(6,.slice 1 e.length 0 e.length)]) (λ_ e=>[.row 5 [.p w.pv],.row 1 (e.map λr=>.p (.slice 1 (r.map ay) false))]) [] ⟨rfl,by simp⟩ ?_ ?_ ?_
 .simp only[go_sem,simprocAttr]<;>simp
 .rintro e ⟨j,_⟩
  simp only[List.filter_nil,bI]at j;refine zm ?_;rw[j];exact w_
 .rintro d_ r rest e y ⟨j,G⟩ hx v u
  have i:=Bc q (by rw[y];simp:r∈eK (l.length-1) 20);have F:d_.length<194481:=by omega
  have z:e.length+1<=ai:=by simp[ai];omega
  rw[List.filter_cons]at j;refine zo v hx ?_
  (first|refine aa (NO false q hw i.len i.rng) rfl ?_|refine aj (NO false q hw i.len i.rng) rfl ?_)
  refine zm ?_;cases A:(gb l w r==0)
  .simp only[go_sem,simprocAttr];refine am y e ⟨by rw[j,A];rfl,by simp;omega⟩ ?_;simp only[u,go_sem,simprocAttr]
  .simp only[v,hx,z,go_sem,simprocAttr];refine am y (e++[r]) ⟨by rw[j,A];simp,by simp;omega⟩ ?_;simp only[u,ak,aS,go_sem,simprocAttr]
def qc (l:List BdWax) (w:BdWish):Nat->List Int->Int->List (List Int)
 |0,pre,left=>if gb l w (pre++[left])=0 then [pre++[left]] else []
 |k+1,pre,left=>match w.parts[pre.length]? with
  |some s=>(iC s.lo (if s.hi<left then s.hi else left)).flatMap λn=>qc l w k (pre++[n]) (left-n)
  |none=>[]
def B6{a b c}(u:a<=b+1)(q:b<=c):iC a c=iC a b++iC (b+1) c:=by
 unfold iC;obtain⟨m,j⟩:∃m:Nat,(b+1-a).toNat=m:=⟨_,rfl⟩
 obtain⟨k,l⟩:∃k:Nat,(c+1-(b+1)).toNat=k:=⟨_,rfl⟩
 have e:(c+1-a).toNat=m+k:=by omega
 rw[e,j,l,List.range_add,aS,g8]
 congr 1
 apply MC;intro i _;simp only[Function.comp];omega
def OT{a b}(h:b<a):iC a b=[]:=by
 unfold iC;have:(b+1-a).toNat=0:=by omega
 rw[this];rfl
def xc{α β:Type}{f:α->List β}:∀{l:List α},(∀x,x∈l->f x=[])->l.flatMap f=[]
 |[],_=>rfl
 |x::l,h=>by rw[mS,h x (by simp),xc λy e=>h y (by simp[e])];rfl
def SH{β:Type}{f:Int->List β}{lo hi left}(D:0<=lo)(q:∀n,n<lo\/hi<n->f n=[]):(iC 0 left).flatMap f=(iC lo (if hi<left then hi else left)).flatMap f:=by
 obtain⟨m,j⟩:∃m,(if hi<left then hi else left)=m:=⟨_,rfl⟩
 have C:m<=hi:=by rw[<-j];split<;>omega
 have u:m<=left:=by rw[<-j];split<;>omega
 have i:∀n,n<=left->m<n->hi<n:=λn y v=>by rw[<-j]at v;split at v<;>omega
 rw[j];rcases Int.lt_or_le m lo with h|h
 .rw[OT h];exact xc λn e=>by
   have:=vq.1 e;by_cases y:n<lo
   .exact q n (.inl y)
   .exact q n (.inr (i n this.2 (by omega)))
 .have A:iC 0 left=iC 0 (lo-1)++iC lo left:=by have:=B6 (a:=0) (b:=lo-1) (c:=left) (by omega) (by omega);rwa [Int.sub_add_cancel]at this
  have z:iC lo left=iC lo m++iC (m+1) left:=B6 (by omega) u
  rw[A,z,vX,vX,xc (l:=iC 0 (lo-1)) λn e=>q n (.inl (by have:=vq.1 e;omega)),
   xc (l:=iC (m+1) left) λn e=>q n (.inr (by have:=vq.1 e;exact i n this.2 (by omega)))]
  simp
def Vd{l}{w}{e t}{n}{s}(j:w.parts[e.length]?=some s)(q:n<s.lo\/s.hi<n):gb l w (e++n::t)=1:=by
 have:l3 w (e++n::t)=true:=by
  unfold l3;rw[Mu];refine⟨(n,s),aB (i:=e.length) (List.getElem?_zip_eq_some.2 ⟨by simp,j⟩),?_⟩;simp[aq];omega
 rw[gb,if_pos this]
def LV{l}{w}(hw:WishOk l.length w):∀(k) (i) (left),i.length+k+1=l.length->qc l w k i left=((eK k left).map (i++·)).filter λr=>gb l w r==0
 |0,i,left,h=>by
  rw[qc,eK]
  simp[List.filter_cons]
 |k+1,i,left,h=>by
  have u:i.length<w.parts.length:=by have:=hw.len;omega
  obtain⟨s,j⟩:∃s,w.parts[i.length]?=some s:=⟨_,bL u⟩
  have q:=hw.parts s (aB j);rw[qc,j,eK];dsimp only;have e:∀n,qc l w k (i++[n]) (left-n)=(((eK k (left-n)).map (n::·)).map (i++·)).filter λr=>gb l w r==0:=λn=>by
   rw[LV hw k (i++[n]) (left-n) (by simp;omega)];simp[gS]
  simp only[e];have:((((iC 0 left).flatMap λn=>(eK k (left-n)).map (n::·)).map (i++·)).filter λr=>gb l w r==0)=(iC 0 left).flatMap λn=>(((eK k (left-n)).map (n::·)).map (i++·)).filter λr=>gb l w r==0:=by
   rw[List.map_flatMap,List.filter_flatMap]
  rw[this];symm;refine SH q.1 λn y=>?_;rw[List.filter_eq_nil_iff];intro r v;simp only[g8,cA,Function.comp]at v;obtain⟨t,_,rfl⟩:=v;rw[Vd j y];decide
def SJ{l}{w}(e:BdWaxesOk l)(hw:WishOk l.length w):qc l w (l.length-1) [] 20=fits l w:=by
 rw[LV hw _ _ _ (by have:=e.len;simp;omega)];simp[fits]
def zr (l:List BdWax):PV:=.ptr 1 [dg l] 0 0
def zl (w:BdWish):PV:=.ptr 5 [w.pv] 0 0
attribute [go_sem] zr zl
def oV (l:List BdWax) (w:BdWish) (n0 id:Nat) (lo:Heap) (cur:List Int) (ext:Heap):Heap:=
 lo++(.row 1 [.ref .yl id]::.row 1 (cur.map λx=>.p (ay x))::.row 1 [.slice (n0+1) l.length 0 l.length] ::
  .row 1 [.func (.func 359) [] [.p (zr l),.ptr (n0+2) 1 0 0,.p (zl w),.ptr n0 1 0 0,.ptr (n0+3) 1 0 0]]::ext)
def tX{lo:Heap}{e}(h:lo.length=e)(t)(j):(lo++t)[e+j]?=t[j]?:=by rw[dB (by omega)];congr 1;omega
def r8{lo:Heap}{e}(h:lo.length=e)(t):(lo++t)[e]?=t[0]?:=tX h t 0
def tW{lo:Heap}{e}(h:lo.length=e)(t)(j)(x):(lo++t).set (e+j) x=lo++t.set j x:=by
 rw[ra _ _ (by omega)];congr 2;omega
def Hm{i e:List Int}{v c}(h:i.take e.length=e)(l:i[e.length]?=some c):(i.set e.length v).take (e.length+1)=e++[v]:=by
 have j:=(aC.1 l).1;rw[wb,List.take_set_of_le (by omega),h];simp[j]
def Ur{l}{w}(hl:BdWaxesOk l)(hw:WishOk l.length w){id K}{Inv:Nat->Heap->Prop}{a9:Heap->Prop}{all:List (List Int)}
  (hy:∀(k) (xs) (lo a1) (j),(all.map λr=>r.map ay)[k]?=some xs->Inv k lo->lo.length=K->a1[j]?=some (.row 1 (xs.map .p)) ->
   ve TP id [.slice (j+K) xs.length 0 xs.length] (lo++a1) (λr h'=>∃u ext,h'=u++a1++ext/\u.length=K /\
    ((r=.ret (.p (.bool true))/\Inv (k+1) u)\/(r=.ret (.p (.bool false))/\a9 u)))) :
  ∀(k) (e) (left) (lo) (G) (ext) (i) (tl),e.length+k+1=l.length->0<=left->left<=20->(∀n,n∈e->0<=n/\n<=20) ->
   G.length=l.length->G.take e.length=e->i<=all.length->all.drop i=qc l w k e left++tl->lo.length=K->Inv i lo ->
   aw TP 359 [.p (.int .i64 e.length),.p (.int .i64 left),.p (zr l),.ptr (K+2) 1 0 0,.p (zl w),.ptr K 1 0 0,.ptr (K+3) 1 0 0] (oV l w K id lo G ext)
    (λr h'=>∃u z A,h'=oV l w K id u z A/\u.length=K/\((r=.ret (.p (.bool true))/\z.length=l.length/\z.take e.length=e/\∃O,O<=all.length/\all.drop O=tl/\Inv O u) \/
     (r=.ret (.p (.bool false))/\a9 u)))
 |0,e,left,lo,G,ext,i,tl,h1,h2,h3,h4,X,Y,V,J,I,E=>by
  refine au (ag func359 rfl) rfl ?_;have b8:=hl.len;have gg:=tX I;have g0:=r8 I;have ss:=tW I;have a4:i64.wrap ((l.length:Int)-1)=(l.length:Int)-1:=LE hl;have hc:(((e.length:Nat):Int)==(l.length:Int)-1)=true:=by simp;omega
  obtain⟨c,L⟩:∃c,G[e.length]?=some c:=⟨_,bL (by omega)⟩
  have a5:((e.length:Nat):Int)<(l.length:Int):=by omega
  have F:(G.map λx=>AV.p (ay x)).set e.length (.p (ay left))=(G.set e.length left).map λx=>AV.p (ay x):=by rw[we]
  have Z:G.set e.length left=e++[left]:=by
   have:=Hm (v:=left) Y L;rwa [dt (by simp;omega)]at this
  rw[Z]at F;simp only[ay]at F;have D:(e++[left]).length=l.length:=by simp;omega
  have b1:∀n,n∈e++[left]->0<=n/\n<=20:=λn N=>by
   rcases cn.1 N with N|N
   .exact h4 n N
   .simp at N;omega
  simp only[oV,gg,ss,a4,hc,L,a5,X,F,go_sem,simprocAttr];have b6:((e++[left]).map ay).take l.length=(e++[left]).map ay:=dt (by simp;omega);refine bq (zar false hl hw D b1) ?_ (.int _ _) ?_
  .refine zo gg D ?_;exact congrArg (λx=>PV.slice 1 x false) b6
  refine zm ?_;rw[qc]at J;cases hb:(gb l w (e++[left]) != 0)
  rotate_left
  .have a6:¬gb l w (e++[left])=0:=by simpa using hb
   rw[if_neg a6,jb]at J;refine zm ?_;first|exact⟨lo,e++[left],ext,rfl,I,.inl ⟨D,by simp,i,V,J,E⟩⟩|exact⟨lo,e++[left],ext,rfl,I,D,by simp,i,V,J,E⟩
  have a6:gb l w (e++[left])=0:=by simpa using hb
  rw[if_pos a6,BY]at J;have a0:all[i]?=some (e++[left]):=by rw[<-List.head?_drop,J];rfl
  have c3:i<all.length:=(aC.1 a0).1;have T:all.drop (i+1)=tl:=by rw[<-vZ,J];rfl
  have a3:=hy i ((e++[left]).map ay) lo (.row 1 [.ref .yl id]::.row 1 ((e++[left]).map λx=>.p (ay x))::.row 1 [.slice (K+1) l.length 0 l.length] ::
   .row 1 [.func (.func 359) [] [.p (zr l),.ptr (K+2) 1 0 0,.p (zl w),.ptr K 1 0 0,.ptr (K+3) 1 0 0]]::ext) 1 (by rw[cX,a0];rfl) E I (by simp)
  rw[dQ,D,Nat.add_comm 1 K]at a3;simp only[ay,zr,zl,dg,BdWish.pv]at a3;refine zo gg g0 ?_;refine r9 a3 (λv h' C=>?_) (λv h' C=>?_);rotate_left
  .obtain⟨_,_,_,_,C⟩:=C;rcases C with⟨C,_⟩|⟨C,_⟩<;>cases C
  obtain⟨u,A,rfl,k1,C⟩:=C;rcases C with⟨C,U⟩|⟨C,U⟩
  .cases C;refine zm ?_;first|exact⟨u,e++[left],ext++A,by simp[oV],k1,.inl ⟨D,by simp,i+1,by omega,T,U⟩⟩|exact⟨u,e++[left],ext++A,by simp[],k1,D,by simp,i+1,by omega,T,U⟩
  .cases C;refine zm ?_
   first|exact⟨u,e++[left],ext++A,by simp[oV],k1,.inr U⟩|exact⟨u,e++[left],ext++A,by simp[],k1,U⟩
 |k+1,e,left,lo,G,ext,i,tl,h1,h2,h3,h4,X,Y,V,J,I,E=>by
  refine au (ag func359 rfl) rfl ?_;have b8:=hl.len;have gg:=tX I;have g0:=r8 I;have ss:=tW I;have a4:i64.wrap ((l.length:Int)-1)=(l.length:Int)-1:=LE hl;have hc:(((e.length:Nat):Int)==(l.length:Int)-1)=false:=by simp;omega
  have b2:e.length<w.parts.length:=by have:=hw.len;omega
  have M:((e.length:Nat):Int)<(w.parts.length:Int):=by omega
  obtain⟨s,hs⟩:∃s,w.parts[e.length]?=some s:=⟨_,bL b2⟩
  have c5:=hw.parts s (aB hs);have b5:i64.wrap (((e.length:Nat):Int)+1)=((e.length+1:Nat):Int):=aO (by omega) (by simp[ai];omega) (by omega);rw[qc,hs]at J;dsimp only at J;obtain⟨m,hm⟩:∃m,(if s.hi<left then s.hi else left)=m:=⟨_,rfl⟩
  have c6:m<=left:=by rw[<-hm];split<;>omega
  have c2:(if s.hi<left then PV.int .i64 s.hi else PV.int .i64 left)=.int .i64 m:=by rw[<-hm];split<;>rfl
  rw[hm]at J;simp only[oV,a4,hc,hs,M,go_sem,simprocAttr]
  refine dY [0,1,3,4,6] (σ:=List Int×List Int×Heap×List Int×Heap×Nat)
   (λq=>iC s.lo m=q.1++q.2.1/\q.2.2.1.length=K/\q.2.2.2.1.length=l.length/\q.2.2.2.1.take e.length=e/\q.2.2.2.2.2<=all.length/\all.drop q.2.2.2.2.2=(q.2.1.flatMap λn=>qc l w k (e++[n]) (left-n))++tl/\Inv q.2.2.2.2.2 q.2.2.1)
   (λq=>q.2.1.length) (λq=>[(10,.p (.int .i64 (s.lo+(q.1.length:Int))))]) (λq=>oV l w K id q.2.2.1 q.2.2.2.1 q.2.2.2.2.1) ([],iC s.lo m,lo,G,ext,i) ⟨rfl,I,X,Y,V,J,E⟩ (by simp[oV,go_sem]) ?_ ?_
  .refine zm ?_<;>simp
  clear X Y V J I E gg g0 ss i
  rintro⟨d_,rest,u,z,A,i⟩ ⟨e1,I,X,Y,V,J,E⟩
  dsimp only at e1 I X Y V J E;have gg:=tX I;have g0:=r8 I;have ss:=tW I
  cases rest with
  |nil=>
   have D:=sY s.lo m;rw[e1,bI]at D;have b9:¬s.lo+(d_.length:Int)<=m:=by omega
   simp only[oV,hs,M,hm,b9,go_sem,simprocAttr]
   first|exact⟨u,z,A,rfl,I,.inl ⟨X,Y,i,V,by simpa using J,E⟩⟩|exact⟨u,z,A,rfl,I,X,Y,i,V,by simpa using J,E⟩
  |cons y r=>
   have b4:(iC s.lo m)[d_.length]?=some y:=by rw[e1];simp
   obtain⟨b3,c4⟩:=DK b4;have b7:s.lo+(d_.length:Int)<=m:=by omega
   obtain⟨c,L⟩:∃c,z[e.length]?=some c:=⟨_,bL (by omega)⟩
   have a5:((e.length:Nat):Int)<(l.length:Int):=by omega
   have F:(z.map λx=>AV.p (ay x)).set e.length (.p (ay y))=(z.set e.length y).map λx=>AV.p (ay x):=by rw[we]
   have Z:(z.set e.length y).take (e.length+1)=e++[y]:=Hm Y L;simp only[ay]at F;have a7:i64.wrap (left-y)=left-y:=ah;have a8:i64.wrap (y+1)=y+1:=ah;rw[mS,dD]at J
   have ih:=Ur hl hw hy k (e++[y]) (left-y) u (z.set e.length y) A i ((r.flatMap λn=>qc l w k (e++[n]) (left-n))++tl) (by simp;omega) (by omega) (by omega)
    (λn N=>by
     rcases cn.1 N with N|N
     .exact h4 n N
     .simp at N;omega) (by simpa using X) (by rw[ak];exact Z) V J I E
   rw[b3]at ih F a7 a8 Z;simp only[oV,gg,ss,hs,M,hm,b7,X,L,a5,F,b5,a7,go_sem,simprocAttr];simp only[oV,zr,zl,dg,BdWish.pv,ay,ak,aK]at ih;refine cZ ih (λv h' C=>?_) (λv h' C=>?_);rotate_left
   .obtain⟨_,_,_,_,_,C⟩:=C;rcases C with⟨C,_⟩|⟨C,_⟩<;>cases C
   obtain⟨a2,S,R,rfl,k1,C⟩:=C;rcases C with⟨C,U,k3,b0,k4,k5,k6⟩|⟨C,U⟩
   .cases C;refine zm ?_;refine aZ (d_++[y],r,a2,S,R,b0) ⟨by simp[e1],k1,U,?_,k4,k5,k6⟩ (by simp) rfl ?_
    .have:=congrArg (List.take e.length) k3;rw[List.take_take,eX rfl]at this;rwa [GN (by simp)]at this
    .simp only[a8,ak,aK,go_sem,simprocAttr];omega
   .cases C;refine zm ?_;first|exact⟨a2,S,R,rfl,k1,.inr U⟩|exact⟨a2,S,R,rfl,k1,U⟩
set_option maxRecDepth 4000
def C8 (l:List BdWax) (w:BdWish):PV:=.func (.func 358) [] [zr l,zl w]
def SA{l}{w}(y:BdWaxesOk l)(hw:WishOk l.length w):Uz TP (C8 l w) 1 ((fits l w).map λr=>r.map ay):=by
 refine⟨_,_,_,rfl,λid Inv R u O K hi=>?_⟩;have N:=y.len;have M:=tX (lo:=u) rfl;have U:=r8 (lo:=u) rfl;have F:=tW (lo:=u) rfl;have z:((l.length:Nat):Int)<=(ai:Int):=by simp[ai];omega
 refine au (ag func358 rfl) rfl ?_;simp only[z,lP,dD,ak,aK,M,F,go_sem,simprocAttr];have i:=Ur y hw K (l.length-1) [] 20 u (List.replicate l.length 0) [] 0 [] (by simp;omega) (by omega) (by omega) (by simp) (by simp) (by simp) (by omega) (by rw[SJ y hw];simp) rfl hi;simp only[oV,zr,zl,dg,BdWish.pv,ay,List.map_replicate,bS,Int.cast_ofNat_Int]at i;refine cZ i (λv h' e=>?_) (λv h' e=>?_);rotate_left
 .grind
 obtain⟨j,E,D,rfl,k1,e⟩:=e;have A:∀(k:Nat),k<=(fits l w).length->(fits l w).drop k=[]->k=(fits l w).length:=λk T L=>by
  simp_all;omega
 rcases e with⟨e,C,S,q,J,I,G⟩|⟨e,C⟩
 .cases e;refine zm ?_;grind
 .cases e;refine zm ?_;grind
def Jn(l)(w):af TP 319 [dg l,w.pv] (C8 l w):=by
 refine bX (ag func319 rfl) rfl ?_;simp[C8,go_sem]
def IF(ps)(L)(id)(h)(j:h[id]?=some (.row 1 (ps.map λp=>.p (ay p.2))))(M:ps.length<=5) :
  aw TP 321 [.p (.slice 7 (ps.map λp=>p.1.pv) L),.slice id ps.length 0 ps.length] h (λr h'=>r=.ret (.p (s9 ps))/\h'=h):=by
 refine rN (ag func321 rfl) rfl ?_;have l:id<h.length:=(aC.1 j).1;have e:∀t,(h++t)[id]?=some (.row 1 (ps.map λp=>.p (ay p.2))):=λt=>by grind
 simp only[ay]at e;have I:=tX (lo:=h) rfl;have K:=r8 (lo:=h) rfl;have z:=tW (lo:=h) rfl;have F:∀t x,(h++t).set h.length x=h++t.set 0 x:=λt x=>z t 0 x;have u:((ps.length:Nat):Int)<=(ai:Int):=by simp[ai];omega
 have i:List.replicate ps.length ur=ki ps []:=by simp[ki]
 simp only[ur]at i;simp only[u,lP,i,go_sem,simprocAttr];refine TC [1,5,11,12] ps (by omega) (τ:=Heap) (λ_ _ _=>True) (λd_ _=>[(13,.p (.int .i64 d_.length))]) (λd_ ext=>h++(.row 8 (ki ps d_)::ext)) [] trivial (by simp[go_sem]) ?_ ?_ ?_
 .simp[go_sem]
 .intro ext _;have A:(ki ps ps)=ps.map λp=>.p (dG p):=by simp[ki]
  simp only[dG]at A;refine zn A ?_;rfl
 .intro d_ x r ext q _ hx y v;have G:=F4 q;have D:=F5 q;have C:=F3 q;simp only[ur]at D;simp only[dG]at C;have J:=r8 (lo:=ext) rfl;have E:∀t x,(ext++t).set ext.length x=ext++t.set 0 x:=λt x=>tW (lo:=ext) rfl t 0 x;simp only[y,hx,G,D,C,e,I,K,z,F,J,E,dD,ak,go_sem,simprocAttr];refine TE q _ trivial rfl ?_;simp[v,go_sem]
def bo (l:List BdWax) (r:List Int):Int:=bv dh (l.zip r)
def cE (pr:List Int->Int):Option (List Int)->List (List Int)->Option (List Int)
 |b,[]=>b
 |none,r::t=>cE pr (some r) t
 |some b,r::t=>if pr r<pr b then cE pr (some r) t else cE pr (some b) t
def nM(e):∀(t) (b) (r),cE e b (t++[r])=cE e (cE e b t) [r]
 |[],b,r=>by cases b<;>rfl
 |x::t,none,r=>by rw[ga,cE,nM e t,cE]
 |x::t,some b,r=>by
  rw[ga,cE,cE];split
  .rw[nM e t]
  .rw[nM e t]
def mL(e):∀(t) (b) (r),cE e b t=some r->b=some r\/r∈t
 |[],b,r,h=>by cases b<;>simp_all [cE]
 |x::t,none,r,h=>by
  rw[cE]at h;rcases mL e t _ r h with h|h
  .grind
  grind
 |x::t,some b,r,h=>by
  rw[cE]at h;split at h
  .rcases mL e t _ r h with h|h
   .grind
   grind
  .rcases mL e t _ r h with h|h
   .exact .inl h
   grind
def xY{α:Type}{l:List α}{k}{x}(h:l[k]?=some x):l.take (k+1)=l.take k++[x]:=by
 rw[wb,h];rfl
def aJ (l:List BdWax) (w:BdWish):List Int×Int×Int:=
 if fe l w=0 then
  match cE (bo l) none (fits l w) with
  |none=>([],0,9)
  |some b=>(b,bo l b,0)
 else([],0,fe l w)
def nO (v:List Int×Int×Int):PV:=.tuple [.slice 1 (v.1.map ay) false,.int .i64 v.2.1,.int .i64 v.2.2]
def sF:Option (List Int)->PV
 |none=>.nilslice
 |some b=>.slice 1 (b.map ay) false
def o7 (l:List BdWax):Option (List Int)->Int
 |none=>0
 |some b=>bo l b
def Q2(l)(w):af TP 254 [dg l,w.pv] (nO (aJ l w)):=by
 refine bF (dv (by kernel_rfl) rfl ZV) rfl ?_;simp only[Zt,go_sem,simprocAttr]
 (first|refine aa (YF l w) rfl ?_|refine aj (YF l w) rfl ?_)
 refine zm ?_;refine aT (λY=>?_) (λY=>?_)
 .have v:¬fe l w=0:=by simpa using Y
  simp only[nO,aJ,if_neg v,go_sem,simprocAttr];exact w_
 have v:fe l w=0:=by simpa using Y
 obtain⟨G,hw⟩:=ug v;have b0:=G.len;refine zm ?_
 (first|refine aa (Jn l w) rfl ?_|refine aj (Jn l w) rfl ?_)
 simp only[C8,go_sem,simprocAttr];have F:aJ l w=match cE (bo l) none (fits l w) with|none=>([],0,9)|some b=>(b,bo l b,0):=by rw[aJ,if_pos v]
 rw[F];have A:∀k b,cE (bo l) none ((fits l w).take k)=some b->RecOk l.length b:=λk b h=>by
  rcases mL _ _ _ _ h with h|h
  .cases h
  .exact(tN G (rb h)).1
 refine WU (l:=(fits l w).map λr=>r.map ay) (λo k h=>h=[.row 1 [.p (dg l)],.row 5 [.p w.pv],.row 1 [.p (sF (cE (bo l) none ((fits l w).take k)))],.row 1 [.p (.int .i64 (o7 l (cE (bo l) none ((fits l w).take k))))],.dblock,o]) (λ_ _=>False)
  rfl (by simp[C8,go_sem]) (SA G hw) cH (by kernel_rfl) rfl (by kernel_rfl) (by kernel_rfl) ?_ ?_ ?_ ?_ (λ_ _ _ h=>h.elim)
 .rintro o k h rfl;simp
 .intro o;simp[cE,sF,o7,go_sem]
 .rintro oR oB oD k xs lo u j I rfl _ X
  rw[cX,bg]at I;obtain⟨r,I,rfl⟩:=I;have e:=(tN G (aB I)).1;have C:=nq G e.rng;have a9:¬(r.map ay=[]):=by
   intro h;have:=congrArg List.length h;have J:=e.len;simp at this;subst this;simp at J;omega
  have z:r≠[]:=λh=>a9 (by rw[h];rfl);rw[xY I,nM];have i:=A k;generalize cE (bo l) none ((fits l w).take k)=Z at i;have K:(r.map ay).take r.length=r.map ay:=dt (by simp);have a8:((l.zip r).map λp=>p.1.pv)=l.map BdWax.pv:=sW BdWax.pv e.len;have a7:((l.zip r).map λp=>AV.p (ay p.2))=r.map λn=>AV.p (ay n):=sV (λn=>AV.p (ay n)) e.len;have a6:(l.zip r).length=r.length:=by simp[e.len]
  have M:∀V U T S R O,aw TP 321 [.p (dg l),.slice (j+6) r.length 0 r.length] (V::U::T::S::R::O::u) (λr' h'=>r'=.ret (.p (s9 (l.zip r)))/\h'=V::U::T::S::R::O::u):=λV U T S R O=>by
   have:=IF (l.zip r) false (j+6) (V::U::T::S::R::O::u) (by simp_all) C.len;rwa [a8,a6]at this
  simp only[dg,s9]at M;refine zm ?_;refine cw (M _ _ _ _ _ _) (zm ?_)
  (first|refine aa (zb (l.zip r) false C) rfl ?_|refine aj (zb (l.zip r) false C) rfl ?_)
  refine zm ?_;have y:bv dh (l.zip r)=bo l r:=rfl;rw[y]
  cases Z with
  |none=>
   simp only[sF,go_sem,simprocAttr];refine zy (PD r false z (by grind)) ?_ ?_
   .simp only[X,K,go_sem,simprocAttr]
   refine zm ?_;first|refine⟨_,[],?_,rfl,.inl rfl⟩|refine⟨_,[],?_,rfl,rfl⟩
   simp[cE,sF,o7,bI,go_sem]
  |some b=>
   have D:=i b rfl;have E:¬(b.map ay=[]):=by
    intro h;have:=congrArg List.length h;have J:=D.len;simp at this;subst this;simp at J;omega
   simp only[sF,o7,E,go_sem,simprocAttr];cases L:decide (bo l r<bo l b)
   .have q:¬bo l r<bo l b:=by simpa using L
    refine zm ?_;first|refine⟨_,[],?_,rfl,.inl rfl⟩|refine⟨_,[],?_,rfl,rfl⟩
    simp[if_neg q,cE,sF,o7,bI,go_sem]
   .have q:bo l r<bo l b:=by simpa using L
    refine zm ?_;refine zy (PD r false z (by grind)) ?_ ?_
    .simp only[X,K,go_sem,simprocAttr]
    refine zm ?_;first|refine⟨_,[],?_,rfl,.inl rfl⟩|refine⟨_,[],?_,rfl,rfl⟩
    simp[if_pos q,cE,sF,o7,bI,go_sem]
 .rintro o lo u rfl _
  have N:(fits l w).take (((fits l w).map λr=>r.map ay).length)=fits l w:=by simp
  rw[N];have i:=A (fits l w).length;rw[nS]at i;generalize cE (bo l) none (fits l w)=Z at i;refine zm ?_
  cases Z with
  |none=>
   simp only[sF,nO,cB,go_sem,simprocAttr]
   exact w_
  |some b=>
   have D:=i b rfl;have E:¬(b.map ay=[]):=by
    intro h;have:=congrArg List.length h;have J:=D.len;simp at this;subst this;simp at J;omega
   simp[sF,o7,nO,E,cB,aD,go_sem]
def Jf(l)(w):af TP 203 [dg l,w.pv] (nO (aJ l w)):=by
 refine bF (ag func203 rfl) rfl (zm ?_)
 (first|refine aa (xm l w) rfl ?_|refine aj (xm l w) rfl ?_)
 refine zm ?_;refine aT (λI=>?_) (λI=>?_)
 .have y:¬fe l w=0:=by simpa using I
  simp only[nO,aJ,if_neg y,go_sem,simprocAttr];exact w_
 have y:fe l w=0:=by simpa using I
 obtain⟨i,hw⟩:=ug y;have R:=i.len;have C:aJ l w=match cE (bo l) none (fits l w) with|none=>([],0,9)|some b=>(b,bo l b,0):=by rw[aJ,if_pos y]
 rw[C];have J:=C7 w i;have j:∀r,r∈fits l w->RecOk l.length r:=λr D=>(tN i D).1;refine zm ?_
 (first|refine aa (AM l w i hw) rfl ?_|refine aj (AM l w i hw) rfl ?_)
 refine zm ?_;generalize fits l w=all at J j
 cases e:all with
 |nil=>
  simp only[cE,nO,go_sem,simprocAttr]
  exact w_
 |cons x t=>
  rw[<-e];have K:(((all.length:Nat):Int)==0)=false:=by rw[e];simp<;>omega
  have N:all[0]?=some x:=by rw[e];rfl
  have L:(0:Int)<(all.length:Int):=by rw[e];simp<;>omega
  refine zp K N L ?_
  refine mR [0,8] (σ:=List (List Int)×List (List Int)×List Int) (λq=>all=q.1++q.2.1/\cE (bo l) none q.1=some q.2.2/\q.1≠[]) (λq=>q.2.1.length)
   (λq=>[(10,.p (.int .i64 q.1.length)),(9,.p (.slice 1 (q.2.2.map ay) false))]) ([x],t,x) ⟨by rw[e];rfl,rfl,by simp⟩ ?_ ?_
  .simp[go_sem]
  rintro⟨d_,rest,b⟩ ⟨u,F,O⟩
  dsimp only at u F O;have z:RecOk l.length b:=by
   rcases mL _ _ _ _ F with h|h
   .cases h
   .grind
  cases rest with
  |nil=>
   rw[bI]at u;have v:¬(((d_.length:Nat):Int)<(all.length:Int)):=by rw[u];omega
   refine zn v ?_
   (first|refine aa (mh false false i z.len z.rng) rfl ?_|refine aj (mh false false i z.len z.rng) rfl ?_)
   rw[<-u]at F
   simp[F,nO,bo,go_sem]
  |cons r rest=>
   obtain⟨hx,v⟩:=ca u;have D:=j r (by rw[u];simp);have G:IntKind.i64.wrap ((d_.length:Int)+1)=(((d_++[r]).length:Nat):Int):=aO (by omega) (by simp[ai];omega) (by simp);refine zo v hx ?_
   (first|refine aa (mh false false i D.len D.rng) rfl ?_|refine aj (mh false false i D.len D.rng) rfl ?_)
   refine zm ?_
   (first|refine aa (mh false false i z.len z.rng) rfl ?_|refine aj (mh false false i z.len z.rng) rfl ?_)
   refine zm ?_;have E:=nM (bo l) d_ none r;rw[F,cE]at E;cases M:decide (bv dh (l.zip r)<bv dh (l.zip b))
   .have A:¬bo l r<bo l b:=by simpa[bo]using M
    rw[if_neg A,cE]at E;refine zm ?_;refine aF (d_++[r],rest,b) ⟨by simp[u],E,by simp⟩ (by simp) ?_;simp[G,go_sem]
   .have A:bo l r<bo l b:=by simpa[bo]using M
    rw[if_pos A,cE]at E;refine zo v hx ?_;refine aF (d_++[r],rest,r) ⟨by simp[u],E,by simp⟩ (by simp) ?_;simp[G,go_sem]
namespace Ch
def p7:List UInt8:=[108,111,116]
def j2:List UInt8:=[98,97,116,99,104]
def lg:List UInt8:=[100,114,111,112]
def l9:List UInt8:=[112,108,97,110]
def jF:List UInt8:=[112,111,117,114]
def fj:List UInt8:=[112,114,111,109,105,115,101]
def kn:List UInt8:=[98,111,120]
def jG:List UInt8:=[108,111,111,107]
def ji:List UInt8:=[119,105,99,107]
def gj:List UInt8:=[98,108,101,110,100]
def gi:List UInt8:=[115,116,111,99,107]
def jj:List UInt8:=[116,101,115,116,10]
def kX:List UInt8:=[120]
def vg:List UInt8:=[111,107]
def EV:List UInt8:=[110,111]
def A2:List UInt8:=[111,100,100]
def sX:List UInt8:=[98,114,111,107,101,110]
def MF:List UInt8:=[110,111,110,101]
def B3:List UInt8:=[112,117,114,101]
def vh:List UInt8:=[105,109,112,117,114,101]
def tm:List UInt8:=[112,101,114,104,97,112,115]
def joinL:List (List UInt8)->List UInt8
 |[]=>[]
 |[x]=>x
 |x::y::r=>x++32::joinL (y::r)
inductive Cmd where
 |lot (name kind:List UInt8) (grams:Int) (rs:List Int)
 |batch (name colour lot:List UInt8) (grams:Int)
 |drop (name:List UInt8)
 |plan (c:List UInt8)
 |pour (c:List UInt8)
 |test (text:List UInt8)
 |promise (kind:List UInt8)
 |box (kind:List UInt8) (hours:Int)
 |look
 |wick (kind:List UInt8) (a b c d:Int)
 |blend (a b c:Int)
 |stock
def Cmd.written:Cmd->Bool
 |.lot _ _ _ _=>true
 |.batch _ _ _ _=>true
 |.drop _=>true
 |.pour _=>true
 |.test _=>true
 |.box _ _=>true
 |_=>false
def bV (l:List UInt8):Option Int:=match kV l with|some v=>if 0<=v/\v<=10000000/\aX v=l then some v else none|none=>none
def bn (l:List UInt8):Option (List UInt8):=if nameOk (bs l)=true then some l else none
def cV:List (List UInt8)->Option (List Int)
 |[]=>some []
 |w::r=>if w=kX then(cV r).map (-1::·) else match bV w with|some n=>(cV r).map (n::·)|none=>none
def dL (v:List UInt8) (ws:List (List UInt8)):Option Cmd:=
 if v=p7 then(match ws with|n::k::g::r=>(match bn n,bn k,bV g,cV r with|some n,some k,some g,some r=>some (.lot n k g r)|_,_,_,_=>none)|_=>none)
 else if v=j2 then(match ws with|[n,c,l,g]=>(match bn n,bn c,bn l,bV g with|some n,some c,some l,some g=>some (.batch n c l g)|_,_,_,_=>none)|_=>none)
 else if v=lg then(match ws with|[n]=>(bn n).map .drop|_=>none)
 else if v=l9 then(match ws with|[n]=>(bn n).map .plan|_=>none)
 else if v=jF then(match ws with|[n]=>(bn n).map .pour|_=>none)
 else if v=fj then(match ws with|[n]=>(bn n).map .promise|_=>none)
 else if v=kn then(match ws with|[n,g]=>(match bn n,bV g with|some n,some g=>some (.box n g)|_,_=>none)|_=>none)
 else if v=jG then(match ws with|[]=>some .look|_=>none)
 else if v=ji then(match ws with|[n,a,b,c,d]=>(match bn n,bV a,bV b,bV c,bV d with|some n,some a,some b,some c,some d=>some (.wick n a b c d)|_,_,_,_,_=>none)|_=>none)
 else if v=gj then(match ws with|[a,b,c]=>(match bV a,bV b,bV c with|some a,some b,some c=>some (.blend a b c)|_,_,_=>none)|_=>none)
 else if v=gi then(match ws with|[]=>some .stock|_=>none)
 else none
def gc (l:List UInt8):Except Int Cmd:=
 if 400<l.length then .error 3
 else if l.take 5=jj then .ok (.test (l.drop 5))
 else match aA 32 l with
  |[]=>.error 6
  |v::ws=>match dL v ws with|some c=>.ok c|none=>.error 6
def bl (s:ByteArray):List UInt8:=s.data.toList
def cJ (b:ChBooks):List ClBatch:=b.batches.map λx=>⟨x.colour,x.grams⟩
def jc (n:Int):List UInt8:=if n=1 then B3 else if n=2 then tm else vh
def MJ (l:List ChBatch):Int:=(l.map (·.grams)).sum
def e6 (s:ChShop) (a b c:Int):BdWish:=⟨List.replicate s.blend.length ⟨0,20⟩,⟨a,b⟩,⟨0,c⟩⟩
def iU (s:ChShop) (b:ChBooks) (c:List UInt8):Except Int (List Nat×Int):=
 let k:=an (λx:ClColour=>x.name==bs c) s.colour.colours 0
 if k<0 then .error 4
 else if Cl.dj s.colour k (cJ b)≠0 then .error (Cl.dj s.colour k (cJ b))
 else match Cl.qj s.colour k (cJ b) with|none=>.error 9|some q=>.ok q
def ej (s:ChShop) (b:ChBooks) (kind:List UInt8):Except Int (Int×Int):=
 let k:=an (λx:HrKind=>x.name==bs kind) s.hour.kinds 0
 if k<0 then .error 4
 else if(aY s.hour b.tests k).2≠0 then .error (aY s.hour b.tests k).2
 else .ok (k,(aY s.hour b.tests k).1)
def kH (l:List ChBatch) (i:Nat):List UInt8:=match l[i]? with|some x=>bl x.name|none=>[]
def aH (s:ChShop) (b:ChBooks):Cmd->Except Int (ChBooks×List UInt8)
 |.lot name kind grams rs=>
  let k:=an (λx:WxKind=>x.name==bs kind) s.wax.kinds 0
  if b.lots.any (λx=>x.name==bs name)=true then .error 5
  else if k<0 then .error 4
  else if ¬(1<=grams/\grams<=100000) then .error 7
  else if(Wx.bj s.wax rs k).2.2≠0 then .error (Wx.bj s.wax rs k).2.2
  else if ¬b.lots.length<8 then .error 3
  else .ok ({ b with lots:=b.lots++[⟨bs name,k,grams,rs⟩] },joinL [jc (Wx.bj s.wax rs k).2.1,aX (Wx.bj s.wax rs k).1.lo,aX (Wx.bj s.wax rs k).1.hi])
 |.batch name colour lot grams=>
  let c:=an (λx:ClColour=>x.name==bs colour) s.colour.colours 0
  let i:=an (λx:ChLot=>x.name==bs lot) b.lots 0
  if b.batches.any (λx=>x.name==bs name)=true then .error 5
  else if c<0 then .error 4
  else if i<0 then .error 4
  else if ¬(1<=grams/\grams<=100000) then .error 7
  else match b.lots[i.toNat]? with
   |none=>.error 4
   |some x=>
    if ¬grams<=x.grams then .error 9
    else if ¬b.batches.length<7 then .error 3
    else .ok ({ b with lots:=b.lots.set i.toNat { x with grams:=x.grams-grams },batches:=b.batches++[⟨bs name,c,i,grams⟩] },vg)
 |.drop name=>
  let i:=an (λx:ChBatch=>x.name==bs name) b.batches 0
  if i<0 then .error 4
  else match b.batches[i.toNat]? with
   |none=>.error 4
   |some y=>match b.lots[y.lot.toNat]? with
    |none=>.error 4
    |some x=>.ok ({ b with lots:=b.lots.set y.lot.toNat { x with grams:=x.grams+y.grams },batches:=b.batches.eraseIdx i.toNat },vg)
 |.plan c=>match iU s b c with
  |.error e=>.error e
  |.ok (o,n)=>.ok (b,joinL (o.map (kH b.batches)++[aX n]))
 |.pour c=>match iU s b c with
  |.error e=>.error e
  |.ok (_,n)=>.ok ({ b with poured:=b.poured+MJ b.batches,batches:=[],lost:=b.lost+n },aX n)
 |.test text=>
  if(aI s.hour text).2≠0 then .error (aI s.hour text).2
  else if ¬b.tests.length<8 then .error 3
  else .ok ({ b with tests:=b.tests++[(aI s.hour text).1] },
   if(cf s.hour (aI s.hour text).1).2=0 then joinL [aX (cf s.hour (aI s.hour text).1).1.lo,aX (cf s.hour (aI s.hour text).1).1.hi]
   else joinL (A2::(ia s.hour (aI s.hour text).1).1.map aX))
 |.promise kind=>match ej s b kind with
  |.error e=>.error e
  |.ok (_,n)=>.ok (b,aX n)
 |.box kind hours=>match ej s b kind with
  |.error e=>.error e
  |.ok (k,n)=>if ¬hours<=n then .error 9 else if ¬b.boxes.length<20 then .error 3 else .ok ({ b with boxes:=b.boxes++[⟨k,hours⟩] },vg)
 |.look=>.ok (b,if(bQ s.hour b.tests b.boxes).1=[] then vg else joinL (sX::(bQ s.hour b.tests b.boxes).1.map aX))
 |.wick kind a b' c d=>
  let i:=an (λx:Wax=>x.name==bs kind) s.wick.waxes 0
  if i<0 then .error 4
  else match s.wick.waxes[i.toNat]? with
   |none=>.error 4
   |some x=>
    if(Wk.de s.wick ⟨i,a,b',⟨c,d⟩⟩ x).2≠0 then .error (Wk.de s.wick ⟨i,a,b',⟨c,d⟩⟩ x).2
    else match s.wick.wicks[(Wk.de s.wick ⟨i,a,b',⟨c,d⟩⟩ x).1.toNat]? with
     |none=>.error 4
     |some w=>.ok (b,bl w.name)
 |.blend a b' c=>
  if(aJ s.blend (e6 s a b' c)).2.2≠0 then .error (aJ s.blend (e6 s a b' c)).2.2
  else .ok (b,joinL ((aJ s.blend (e6 s a b' c)).1.map aX++[aX (aJ s.blend (e6 s a b' c)).2.1]))
 |.stock=>.ok (b,if b.lots=[] then MF else joinL (b.lots.flatMap λx=>[bl x.name,aX x.grams]))
def ey (s:ChShop) (b:ChBooks) (l:List UInt8):Except Int (ChBooks×List UInt8×Bool):=
 match gc l with
 |.error e=>.error e
 |.ok c=>match aH s b c with|.error e=>.error e|.ok (b',a)=>.ok (b',a,c.written)
end Ch
end Abs
open Go.Shelf
open Abs (l_)
def lays156_ren:Go.Shelf.Ren:=⟨λ| 156=>147|165=>157|166=>39|169=>40|240=>104|241=>222|276=>153|277=>281|n=>n,λ| 0=>0|3=>3|4=>4|5=>5|9=>9|20=>20|31=>42|37=>95|70=>94|72=>97|75=>102|76=>103|80=>93|127=>184|164=>222|n=>n,λ| n=>n⟩
def lays156:Go.Proofs.Lays.n156 TP lays156_ren:={
 mixed:=by kernel_rfl
 f156:=l_ func147
 f165:=l_ func157
 f166:=l_ func39
 f169:=l_ func40
 f240:=l_ func104
 f241:=l_ func222
 f276:=l_ func153
 f277:=l_ func281
 t0:=underlying0
 a0:=isAgg0
 z0:=sizeOf0
 v0:=zeroValue0
 t3:=underlying3
 a3:=isAgg3
 z3:=sizeOf3
 v3:=zeroValue3
 t4:=underlying4
 a4:=isAgg4
 z4:=sizeOf4
 v4:=zeroValue4
 t9:=underlying9
 a9:=isAgg9
 z9:=sizeOf9
 v9:=zeroValue9
 t20:=underlying20
 a20:=isAgg20
 z20:=sizeOf20
 v20:=zeroValue20
 t31:=underlying42
 a31:=isAgg42
 z31:=sizeOf42
 v31:=zeroValue42
 t37:=underlying95
 a37:=isAgg95
 z37:=sizeOf95
 v37:=zeroValue95
 t70:=underlying94
 a70:=isAgg94
 z70:=sizeOf94
 v70:=zeroValue94
 t72:=underlying97
 a72:=isAgg97
 z72:=sizeOf97
 v72:=zeroValue97
 t75:=underlying102
 a75:=isAgg102
 z75:=sizeOf102
 v75:=zeroValue102
 t76:=underlying103
 a76:=isAgg103
 z76:=sizeOf103
 v76:=zeroValue103
 t127:=underlying184
 a127:=isAgg184
 z127:=sizeOf184
 v127:=zeroValue184
 t164:=underlying222
 a164:=isAgg222
 z164:=sizeOf222
 v164:=zeroValue222 }
def lays156X:Go.Proofs.Builder.Extra TP lays156_ren:={
 sizeBuilder:=by kernel_rfl
 liesBuilder:=by kernel_rfl
 t5:=by kernel_rfl
 a5:=isAgg5
 z5:=sizeOf5
 v5:=zeroValue5
 infoByte:=by kernel_rfl
 cellsByte:=by kernel_rfl
 sizeByte:=by kernel_rfl
 neB5:=Nat.ne_of_beq_eq_false (by kernel_rfl) }
namespace Abs
open Go.RowKit Go.Sort
set_option maxRecDepth 100000
def VZ{w:World}{b k}{v}(h:w.cell? ⟨b,k,none⟩=some v):b<w.heap.size:=by
 unfold World.cell? at h;grind
def zaD(l)(i)(fl)(hl:l.length<=1000000)(hb:(Lib.join l i).length<=1000000000) :
  af TP 147 [.slice 1 (l.map λx=>.str (bs x)) fl,.str (bs i)] (.str (bs (Lib.join l i))):=by
 intro M0 w N hM hg Y;obtain⟨u,v,rfl,O,T⟩:=Ct Y;cases T;refine⟨(λw'=>kM func147 Z1 _ w'),?_⟩;have D:(l.map bs).map (λx:ByteArray=>x.data.toList)=l:=by rw[g8];simp[gS,io]
 have E:∀(e:Ending) (w':World),e=.returned (.string ⟨(Lib.join ((l.map bs).map (·.data.toList)) (bs i).data.toList).toArray⟩)/\Below w.heap.size w w'->∃v',e=Ending.returned v'/\RepP M0 w' v' (.str (bs (Lib.join l i)))/\Fr [] w w':=by
  rintro e w' ⟨rfl,h⟩
  refine⟨_,rfl,?_,oI h⟩;rw[D,io];exact .str _
 generalize z:l.map (λx=>PV.str (bs x))=xs at O
 cases O with
 |slice f J K F a0 a2 X U=>
  rename_i b off len cap;subst J;have C:xs.length=(l.map bs).length:=by rw[<-z];simp
  cases A:l with
  |nil=>
   subst A;simp only[bx]at z;subst z
   exact(Any.strings_Join_none lays156 lays156X (some ⟨b,off,none⟩) cap (bs i) w).mono λe w' h=>E e w' ⟨h.1,h.2▸Below.refl _ _⟩
  |cons S l0=>
   rw[<-A];have y:∀(j:Nat) x,(l.map bs)[j]?=some x->w.cell? ⟨b,off+j,none⟩=some (.string x):=by
    intro j x G;have I:xs[j]?=some (.str x):=by
     rw[<-z,cX];rw[cX]at G
     cases R:l[j]? with
     |none=>grind
     |some q=>grind
    have a1:=(aC.1 I).1;have L:=U j 0 _ _ I rfl;have h2:=X j (by omega);rw[h2];have Z:f (j*1+0)=f j:=by simp
    rw[Z]at L;cases V:f j<;>rw[V]at L<;>cases L;rfl
   have M:b<w.heap.size:=VZ (y 0 (bs S) (by rw[A];rfl));have:=Any.strings_Join lays156 lays156X b off cap (l.map bs) (bs i) w y M (by simp;omega) (by omega) (by rw[D,io];omega);rw[<-C]at this
   exact this.mono E
 |empty F=>
  rename_i a cap;have A:l=[]:=by cases l with|nil=>rfl|cons x r=>simp at z
  subst A;exact(Any.strings_Join_none lays156 lays156X a cap (bs i) w).mono λe w' h=>E e w' ⟨h.1,h.2▸Below.refl _ _⟩
end Abs
end Go.Proofs.YtgafommgcfhkkaaGreatDoor
