/- CONTRACTS of the program's functions, and laws on what they return. No conditions but those in the theorems' heads. -/
import Derived.Test.YtmndpldajflenaaGreatDoorAbsCutX
set_option linter.all false
namespace Go.Proofs.YtmndpldajflenaaGreatDoor
namespace Abs
set_option maxRecDepth 4000
def an (n lo hi:Int):Bool:=decide (lo<=n)&&decide (n<=hi)
theorem Ml(n lo hi):PCall Tryz.prog 72 [.int .i64 n,.int .i64 lo,.int .i64 hi] (.bool (an n lo hi)):=by
 refine ae (am Tryz.func72 rfl) rfl ?_;simp only[go_sem,simprocAttr];refine dT (λhb=>?_) (λhb=>?_)<;>simp only[hb,go_sem,simprocAttr]<;>simp[an,hb]
def oc (c last:Int):Bool:=(c != 45&&(decide (c<97)||decide (122<c)))||(c==45&&last==45)
def cE:List UInt8->Int->Bool
 |[],last=>last != 45
 |c::r,last=>if oc c.toNat last=true then false else cE r c.toNat
def nameOk (s:ByteArray):Bool:=cE s.data.toList 45&&decide ((s.size:Int)<=20)
theorem n9(s:ByteArray)(i:Nat):s[i]?=s.data.toList[i]?:=by
 by_cases h:i<s.size
 .have h':i<s.data.toList.length:=by simpa using h
  rw[getElem?_pos s i h,aT h'];simp[ByteArray.getElem_eq_getElem_data]
 .rw[getElem?_neg s i h,fq];simpa using Nat.le_of_not_lt h
attribute [go_sem] n9
theorem Bh(s):PCall Tryz.prog 87 [.str s] (.bool (nameOk s)):=by
 refine ae (am Tryz.func87 rfl) rfl ?_;simp only[go_sem,simprocAttr]
 refine aS [0,7] (σ:=List UInt8×List UInt8×Int) (λq=>s.data.toList=q.1++q.2.1/\cE s.data.toList 45=cE q.2.1 q.2.2) (λq=>q.2.1.length)
  (λq=>[(3,.p (.int .i32 q.2.2))]) (λq=>[.strIter s q.1.length]) ([],s.data.toList,45) ⟨rfl,rfl⟩ ?_ ?_
 .simp only[go_sem,simprocAttr]
 .rintro⟨done,rest,last⟩ ⟨e1,e2⟩
  dsimp only at e1 e2
  cases rest with
  |nil=>
   have hlt:¬(done.length<s.size):=by
    have:=congrArg List.length e1;simp at this |-;omega
   simp only[hlt,go_sem,simprocAttr];refine dT (λhb=>?_) (λhb=>?_)<;>simp only[hb,go_sem,simprocAttr]
   .simp[nameOk,e2,cE,hb]
   .simp[nameOk,e2,cE,hb]
  |cons c r=>
   obtain⟨hx,_⟩:=w8 e1;have hlt:done.length<s.size:=by
    have:=congrArg List.length e1;simp at this |-;omega
   have hc:(s[done.length]'hlt)=c:=by
    have:=n9 s done.length;rw[hx,getElem?_pos s done.length hlt]at this;exact fW this
   rcases aw c.toNat 128 with hlow|hhigh
   .have hd:Utf8.decode s done.length=(c.toNat,1):=by
     rw[decode_ascii s done.length hlt (by rw[hc];exact hlow),hc]
    simp only[hlt,hd,go_sem,simprocAttr]
    repeat' first
     |(refine dT (λhb=>?_) (λhb=>?_)<;>simp only[hb,go_sem,simprocAttr])
    all_goals first
     |(refine ak (done++[c],r,(c.toNat:Int)) ⟨by simp[e1],?_⟩ (by simp) ?_
       .rw[e2];simp_all [cE,oc]
       .simp only[go_sem,simprocAttr];simp)
     |(simp only[nameOk,e2];simp_all [cE,oc];done)
   .have hd:=decode_high s done.length hlt (by rw[hc];exact hhigh);have h1:(((Utf8.decode s done.length).1:Int) != 45)=true:=by simp;omega
    have h2:decide (((Utf8.decode s done.length).1:Int)<97)=false:=by simp;omega
    have h3:decide ((122:Int)<((Utf8.decode s done.length).1:Int))=true:=by simp;omega
    simp only[hlt,h1,h2,h3,go_sem,simprocAttr];have hbad:oc c.toNat last=true:=by
     have g1:((c.toNat:Int) != 45)=true:=by simp;omega
     have g3:decide ((122:Int)<(c.toNat:Int))=true:=by simp;omega
     simp[oc,g1,g3]
    simp[nameOk,e2,cE,hbad]
theorem xk(c last):oc c last=((c != 45&&!an c 97 122)||(c==45&&last==45)):=by
 have:(!an c 97 122)=(decide (c<97)||decide (122<c)):=by
  unfold an;rw[DG]
  congr 1
  .rw[<-decide_not];congr 1;simp
  .rw[<-decide_not];congr 1;simp
 rw[oc,this]
def l4 (l:List UInt8):Int:=match l.getLast? with|some c=>(c.toNat:Int)|none=>45
theorem vr(l)(c):l4 (l++[c])=(c.toNat:Int):=by simp[l4]
theorem Jy(c:UInt8):IntKind.i64.wrap (c.toNat:Int)=(c.toNat:Int):=iz (by omega) (by have:=c.toNat_lt;simp[ai];omega)
theorem Bi(s):PCall Tryz.prog 18 [.str s] (.bool (nameOk s)):=by
 refine ae (am Tryz.func18 rfl) rfl ?_;simp only[go_sem,simprocAttr];refine aa (Ml _ _ _) rfl ?_;cases hr:an s.size 1 20
 .simp only[go_sem,simprocAttr];have:nameOk s=false:=by
   unfold nameOk
   cases hb:s.data.toList with
   |nil=>simp[cE]
   |cons b bs=>
    have:1<=s.size:=by have:=congrArg List.length hb;simp at this;omega
    have h2:¬((s.size:Int)<=20):=by
     intro h;have h1:(1:Int)<=(s.size:Int):=by omega
     simp[an,h,h1]at hr
    simp[h2]
  rw[this]
 .have hr':(1:Int)<=(s.size:Int)/\(s.size:Int)<=20:=by simpa[an]using hr
  have hlen:s.data.toList.length=s.size:=by simp
  obtain⟨b0,h0⟩:∃b,s.data.toList[0]?=some b:=⟨_,aT (by omega)⟩
  obtain⟨bl,hl⟩:∃b,s.data.toList[s.size-1]?=some b:=⟨_,aT (by omega)⟩
  have hgl:s.data.toList.getLast?=some bl:=by rw[List.getLast?_eq_getElem?,hlen];exact hl
  have hw:IntKind.i64.wrap ((s.size:Int)-1)=((s.size-1:Nat):Int):=by
   rw[iz (by omega) (by simp[ai];omega)];omega
  have hlt1:(((s.size-1:Nat):Int))<(s.size:Int):=by omega
  have hsz:nameOk s=cE s.data.toList 45:=by unfold nameOk;simp[hr'.2]
  rw[hsz];simp only[n9,h0,go_sem,simprocAttr];cases hb0:((b0.toNat:Int)==45)
  .simp only[n9,hw,hl,go_sem,simprocAttr];cases hbl:((bl.toNat:Int)==45)
   .simp only[go_sem,simprocAttr]
    refine aS [0] (σ:=List UInt8×List UInt8) (λq=>s.data.toList=q.1++q.2/\cE s.data.toList 45=cE q.2 (l4 q.1)) (λq=>q.2.length)
     (λq=>[(3,.p (.int .i64 q.1.length))]) (λ_=>[]) ([],s.data.toList) ⟨rfl,rfl⟩ ?_ ?_
    .simp only[go_sem,simprocAttr]<;>simp
    .rintro⟨done,rest⟩ ⟨e1,e2⟩
     dsimp only at e1 e2
     cases rest with
     |nil=>
      have hlt:¬((done.length:Int)<(s.size:Int)):=by
       have:=congrArg List.length e1;simp at this;omega
      simp only[hlt,decide_false,go_sem,simprocAttr];rw[e2];have:l4 done=(bl.toNat:Int):=by
       rw[e1]at hgl;simp at hgl;simp[l4,hgl]
      simp[cE,this,bne,hbl]
     |cons c r=>
      obtain⟨hx,_⟩:=w8 e1;have hlt:(done.length:Int)<(s.size:Int):=by
       have:=congrArg List.length e1;simp at this;omega
      have hnx:IntKind.i64.wrap ((done.length:Int)+1)=(((done++[c]).length:Nat):Int):=az (by omega) (by simp[ai];omega) (by simp);simp only[hlt,decide_true,n9,hx,go_sem,simprocAttr];have back:oc c.toNat (l4 done)=false->cE s.data.toList 45=cE r (l4 (done++[c])):=λh=>by
       rw[e2,cE,h,vr];rfl
      have gone:oc c.toNat (l4 done)=true->cE s.data.toList 45=false:=λh=>by
       rw[e2,cE,if_pos h]
      rw[xk]at back gone;have next:oc c.toNat (l4 done)=false->(s.data.toList=(done++[c])++r/\cE s.data.toList 45=cE r (l4 (done++[c]))):=λh=>⟨by simp[e1],by rw[xk]at h;exact back h⟩
      rw[xk]at next;cases hc:((c.toNat:Int)==45)
      .have hc':((c.toNat:Int) != 45)=true:=by simp[bne,hc]
       simp only[hc',hx,Jy,go_sem,simprocAttr];refine aa (Ml _ _ _) rfl ?_;cases hg:an c.toNat 97 122
       .simp only[go_sem,simprocAttr];rw[gone (by simp[hc',hg])]
       .simp only[go_sem,simprocAttr];refine dT (λhp=>?_) (λhp=>?_)<;>simp only[hp,go_sem,simprocAttr]
        .simp only[hx,hc,go_sem,simprocAttr];refine ak (done++[c],r) (next (by simp[hc,hg])) (by simp) ?_;simp only[hnx,go_sem,simprocAttr]
        .refine ak (done++[c],r) (next (by simp[hc,hg])) (by simp) ?_;simp only[hnx,go_sem,simprocAttr]
      .have hc':((c.toNat:Int) != 45)=false:=by simp[bne,hc]
       simp only[hc',go_sem,simprocAttr];rcases zy done with rfl|⟨pre,d,hpd⟩
       .exfalso;rw[e1]at h0;simp at h0;subst h0;rw[hc]at hb0;cases hb0
       .rw[DD]at hpd;subst hpd;have hp:decide ((0:Int)<(((pre++[d]).length:Nat):Int))=true:=by simp<;>omega
        have hw1:IntKind.i64.wrap ((((pre++[d]).length:Nat):Int)-1)=((pre.length:Nat):Int):=by
         rw[iz (by simp<;>omega) (by simp[ai]at hlt |-;omega)];simp
        have hd:s.data.toList[pre.length]?=some d:=by rw[e1];simp
        simp only[hp,hx,hc,hw1,hd,go_sem,simprocAttr];rw[vr]at back gone next;cases hd45:((d.toNat:Int)==45)
        .simp only[go_sem,simprocAttr];refine ak (pre++[d]++[c],r) (next (by simp[hc,bne,hd45])) (by simp) ?_;simp only[hnx,go_sem,simprocAttr]
        .simp only[go_sem,simprocAttr];rw[gone (by simp[hc,hd45])]
   .simp only[go_sem,simprocAttr];have:∀(l:List UInt8) (p:Int),l.getLast?=some bl->cE l p=false:=by
     intro l
     induction l with
     |nil=>intro p h;cases h
     |cons c r ih=>
      intro p h;unfold cE;split
      .rfl
      .cases r with
       |nil=>
        simp at h;subst h
        simp[cE,bne,hbl]
       |cons c' r'=>exact ih _ (by simpa using h)
    rw[this _ _ hgl]
  .simp only[go_sem,simprocAttr];have:cE s.data.toList 45=false:=by
    cases hbs:s.data.toList with
    |nil=>rw[hbs]at h0;cases h0
    |cons c r=>
     rw[hbs]at h0;simp at h0;subst h0;unfold cE;rw[if_pos];simp[oc,hb0]
   rw[this]
def cd (t:Int×Int×Int):PV:=.tuple [.int .i64 t.1,.int .i64 t.2.1,.int .i64 t.2.2]
def fw (before:List ByteArray) (s:ByteArray):Int:=if nameOk s=true then(if before.any (λt=>t==s)=true then 5 else 0) else 6
namespace So
def fG (c:SoCandle) (before warm:Int):Bool:=decide (c.jump<max (before-warm) (warm-before))
def b7 (c:SoCandle) (hot w:Int):Int:=if w<c.bend then 0 else hot+1
def dW (c:SoCandle):List Int->Int->Int->Int
 |[],_,_=>-1
 |w::ws,hot,d=>if b7 c hot w=c.days then d else dW c ws (b7 c hot w) (d+1)
def cQ (c:SoCandle):List Int->Option Int->Int->Int->Int
 |[],_,_,_=>-1
 |w::ws,some b,n,d=>if fG c b w then(if n+1=c.times then d else cQ c ws (some w) (n+1) (d+1)) else cQ c ws (some w) n (d+1)
 |w::ws,none,n,d=>cQ c ws (some w) n (d+1)
def cM (c:SoCandle) (now:Int):List Int->Int->Int->Int
 |[],_,m=>m
 |n::ns,b,m=>cM c now ns (b+1) (max m (if 0<n/\fG c b now=true then n+1 else n))
def b9:List Int:=List.replicate 61 0
def f' (c:SoCandle) (w:Span) (j:List Int):List Int:=(List.range 61).map λ(i:Nat)=>if w.lo<=(i:Int)/\(i:Int)<=w.hi then cM c i j 0 (if j=b9 then 1 else 0) else 0
def jm:List Int->Int
 |[]=>0
 |[x]=>x
 |x::xs=>max x (jm xs)
def jE (j:List Int):Int:=jm j-1
def iF (c:SoCandle) (before:Int) (w:Span):Int:=if w.hi<c.bend then 0 else before+1
structure State where
 day:Int
 store:Int
 hot:Int
 jumps:List Int
def aF (s:SoSeason) (i:Nat) (d:Int):Span:=(((s.stores[i]?).map (·.warm)).getD []).getD d.toNat ⟨0,0⟩
def aO (s:SoSeason) (x:State) (i:Nat):State:=
 ⟨x.day+1,i,iF s.candle x.hot (aF s i (x.day+1)),f' s.candle (aF s i (x.day+1)) x.jumps⟩
def pP (s:SoSeason) (x:State):Bool:=decide (x.hot<s.candle.days)&&decide (jE x.jumps<s.candle.times)
def cy:State:=⟨-1,-1,0,b9⟩
def dw (s:SoSeason) (x:State) (rest:State->Int×Int) (best:Int×Int) (i:Nat):Int×Int:=
 if pP s (aO s x i)=true then
  if(rest (aO s x i)).1<0 then best else
  let c:=(rest (aO s x i)).1+((s.stores[i]?).map (·.rent)).getD 0+(if 0<=x.store/\x.store≠i then s.move else 0)
  if best.1<0\/c<best.1 then(c,(i:Int)) else best
 else best
def bq (s:SoSeason):Nat->State->Int×Int
 |0,_=>(0,-1)
 |k+1,x=>(List.range s.stores.length).foldl (dw s x (bq s k)) (-1,-1)
def mI (s:SoSeason):Nat->State->List Nat
 |0,_=>[]
 |k+1,x=>(bq s (k+1) x).2.toNat::mI s k (aO s x (bq s (k+1) x).2.toNat)
def zf (s:SoSeason):State->List Nat->Prop
 |_,[]=>True
 |x,i::l=>i<s.stores.length/\pP s (aO s x i)=true/\zf s (aO s x i) l
theorem CY{s:SoSeason}{k:Nat}{x:State}(h:0<=(bq s (k+1) x).1) :
  ∃i:Nat,(bq s (k+1) x).2=i/\i<s.stores.length/\pP s (aO s x i)=true/\0<=(bq s k (aO s x i)).1:=by
 have key:∀(l:List Nat) (best:Int×Int),(∀i∈l,i<s.stores.length)->(0<=best.1->∃i:Nat,best.2=i/\i<s.stores.length/\pP s (aO s x i)=true/\0<=(bq s k (aO s x i)).1) ->
   0<=(l.foldl (dw s x (bq s k)) best).1->∃i:Nat,(l.foldl (dw s x (bq s k)) best).2=i/\i<s.stores.length/\pP s (aO s x i)=true/\0<=(bq s k (aO s x i)).1:=by
  intro l
  induction l with
  |nil=>intro best _ hb h;exact hb h
  |cons i l ih=>
   intro best hl hb h;refine ih _ (λa ha=>hl a (eU _ ha)) (λhp=>?_) h;unfold dw at hp |-;split at hp
   .rename_i hok;rw[if_pos hok];split at hp
    .rename_i hneg;rw[if_pos hneg];exact hb hp
    .rename_i hneg;rw[if_neg hneg];dsimp only at hp |-;generalize (if 0<=x.store/\x.store≠i then s.move else 0)=mv at hp |-;split at hp
     .rename_i hc;rw[if_pos hc];exact⟨i,rfl,hl i List.mem_cons_self,hok,by omega⟩
     .rename_i hc;rw[if_neg hc];exact hb hp
   .rename_i hok;rw[if_neg hok];exact hb hp
 exact key _ _ (λi hi=>bX.1 hi) (λh=>absurd h (by decide)) h
theorem way_sound{s:SoSeason}:∀(k:Nat) (x:State),0<=(bq s k x).1->zf s x (mI s k x)
 |0,_,_=>trivial
 |k+1,x,h=>by
  obtain⟨i,h1,h2,h3,h4⟩:=CY h;unfold mI;rw[h1];exact⟨h2,h3,way_sound k _ h4⟩
theorem way_len{s:SoSeason}:∀(k:Nat) (x:State),(mI s k x).length=k
 |0,_=>rfl
 |k+1,x=>by unfold mI;simp[way_len k]
theorem sound_lt{s:SoSeason}:∀(l:List Nat) (x:State),zf s x l->∀i∈l,i<s.stores.length
 |[],_,_,i,h=>by cases h
 |j::l,x,hs,i,h=>by
  rcases dQ.1 h with rfl|h
  .exact hs.1
  .exact sound_lt l _ hs.2.2 i h
def tF (s:SoSeason):State->List Nat->List Int->Prop
 |_,[],[]=>True
 |x,i::l,w::ws=>(aF s i (x.day+1)).lo<=w/\w<=(aF s i (x.day+1)).hi/\0<=w/\w<=60/\tF s (aO s x i) l ws
 |_,_,_=>False
theorem sd{c:SoCandle}{now:Int}:∀(l:List Int) (b m:Int),m<=cM c now l b m
 |[],_,_=>dF _
 |n::ns,b,m=>by
  unfold cM;exact nt (by omega) (sd ns (b+1) _)
theorem xN{c:SoCandle}{now:Int}:∀(l:List Int) (b m:Int) (k:Nat) (n:Int),l[k]?=some n->0<n->n+(if fG c (b+k) now=true then 1 else 0)<=cM c now l b m
 |[],_,_,k,n,h,_=>by simp at h
 |x::xs,b,m,0,n,h,hp=>by
  simp at h;subst h;unfold cM;refine nt ?_ (sd xs (b+1) _);simp only[hp,true_and,Int.natCast_zero,mH]
  split<;>omega
 |x::xs,b,m,k+1,n,h,hp=>by
  unfold cM;have:=xN (c:=c) (now:=now) xs (b+1) (max m (if 0<x/\fG c b now=true then x+1 else x)) k n (by simpa using h) hp;have e:b+1+(k:Int)=b+((k+1:Nat):Int):=by omega
  rw[e]at this;exact this
theorem Gb:∀(l:List Int) (x:Int),x∈l->x<=jm l
 |[y],x,h=>by simp at h;subst h;exact dF _
 |y::z::l,x,h=>by
  show x<=max y (jm (z::l));rcases dQ.1 h with rfl|h
  .omega
  .have:=Gb (z::l) x h;omega
theorem HR{c:SoCandle}{w:Span}{j:List Int}{k:Nat}(hk:k<61)(h1:w.lo<=(k:Int))(h2:(k:Int)<=w.hi):(f' c w j)[k]?=some (cM c k j 0 (if j=b9 then 1 else 0)):=by
 unfold f';rw[bU,List.getElem?_range hk];simp[h1,h2]
theorem eJ{c:SoCandle}{w:Span}{j:List Int}:(f' c w j).length=61:=by simp[f']
theorem qt{s:SoSeason}:∀(l:List Nat) (x:State) (ws:List Int) (hot n:Int) (last:Option Int) (d:Int),zf s x l->tF s x l ws->0<=hot->hot<=x.hot->0<=n->n<s.candle.times ->
  (match last with|none=>x.jumps=b9/\n=0|some b=>∃k:Nat,b=k/\k<61/\∃v,x.jumps[k]?=some v/\n+1<=v) ->
  dW s.candle ws hot d=-1/\cQ s.candle ws last n d=-1
 |[],x,[],_,_,last,_,_,_,_,_,_,_,_=>⟨rfl,by cases last<;>rfl⟩
 |[],x,w::ws,_,_,_,_,_,ht,_,_,_,_,_=>ht.elim
 |i::l,x,[],_,_,_,_,_,ht,_,_,_,_,_=>ht.elim
 |i::l,x,w::ws,hot,n,last,d,hs,ht,hz0,hh,hn,hnt,hl=>by
  obtain⟨s1,s2,s3⟩:=hs;obtain⟨t1,t2,t3,t4,t5⟩:=ht;unfold pP at s2;simp only[bY,decide_eq_true_eq]at s2;obtain⟨o1,o2⟩:=s2;have hot2:b7 s.candle hot w<=(aO s x i).hot:=by
   show _<=(if(aF s i (x.day+1)).hi<s.candle.bend then 0 else x.hot+1)
   unfold b7;split<;>split<;>omega
  have hot0:0<=b7 s.candle hot w:=by unfold b7;split<;>omega
  have k0:w=(w.toNat:Int):=by omega
  have k61:w.toNat<61:=by omega
  have at':=HR (c:=s.candle) (w:=aF s i (x.day+1)) (j:=x.jumps) k61 (by omega) (by omega);have hmx:=Gb _ _ (aV at');have hmost:jm (aO s x i).jumps-1<s.candle.times:=o2;have hmx':cM s.candle (w.toNat:Int) x.jumps 0 (if x.jumps=b9 then 1 else 0)<=jm (aO s x i).jumps:=hmx;have fb:dW s.candle (w::ws) hot d=dW s.candle ws (b7 s.candle hot w) (d+1):=by
   rw[show dW s.candle (w::ws) hot d=if b7 s.candle hot w=s.candle.days then d else dW s.candle ws (b7 s.candle hot w) (d+1) from rfl,if_neg (by omega)]
  rw[fb]
  cases last with
  |none=>
   obtain⟨hz,rfl⟩:=hl;have hge:=sd (c:=s.candle) (now:=w.toNat) x.jumps 0 (if x.jumps=b9 then 1 else 0);rw[if_pos hz]at hge hmx' at'
   refine qt l _ ws _ 0 (some w) (d+1) s3 t5 hot0 hot2 (by omega) hnt ⟨w.toNat,k0,k61,_,at',by omega⟩
  |some b=>
   obtain⟨k,rfl,hk,v,hv,hnv⟩:=hl;have hge:=xN (c:=s.candle) (now:=w.toNat) x.jumps 0 (if x.jumps=b9 then 1 else 0) k v hv (by omega);rw[Int.zero_add,<-k0]at hge;rw[<-k0]at hmx' at';show _/\(if fG s.candle k w then(if n+1=s.candle.times then d else cQ s.candle ws (some w) (n+1) (d+1)) else cQ s.candle ws (some w) n (d+1))=-1;split
   .rename_i hj;rw[if_pos hj]at hge;rw[if_neg (by omega)];exact qt l _ ws _ (n+1) (some w) (d+1) s3 t5 hot0 hot2 (by omega) (by omega) ⟨w.toNat,k0,k61,_,at',by omega⟩
   .rename_i hj;rw[if_neg hj]at hge;exact qt l _ ws _ n (some w) (d+1) s3 t5 hot0 hot2 hn hnt ⟨w.toNat,k0,k61,_,at',by omega⟩
end So
def bc {α:Type} (f:Nat->α->Int):List α->Nat->Int×Int
 |[],_=>(0,0)
 |x::r,i=>if f i x=0 then bc f r (i+1) else((i:Int),f i x)
theorem nV{α:Type}{f:Nat->α->Int}:∀{l:List α} {i:Nat},(bc f l i).2=0->∀(k:Nat) (x:α),l[k]?=some x->f (i+k) x=0
 |[],_,_,k,x,h=>by simp at h
 |y::l,i,h,k,x,hk=>by
  unfold bc at h;split at h
  .rename_i h0
   cases k with
   |zero=>cases hk;exact h0
   |succ k=>
    have:=nV h k x (by simpa using hk);rw[show i+(k+1)=i+1+k by omega];exact this
  .rename_i h0;exact absurd h h0
namespace So
def fm (w:Span):Int:=if an w.lo 0 60=true/\an w.hi 0 60=true then(if w.hi<w.lo then 2 else 0) else 7
def days (s:SoSeason):Nat:=match s.stores with|[]=>0|x::_=>x.warm.length
def storeErr (s:SoSeason) (i:Nat) (x:SoStore):Int:=
 if fw ((s.stores.take i).map (·.name)) x.name=0 then
  (if an x.rent 0 100000=true then(if an x.warm.length 1 8=true/\x.warm.length=days s then(bc (λ_ w=>fm w) x.warm 0).2 else 3) else 7)
 else fw ((s.stores.take i).map (·.name)) x.name
def candOk (s:SoSeason):Bool:=an s.candle.bend 0 60&&an s.candle.jump 0 60&&an s.candle.days 1 8&&an s.candle.times 1 8&&an s.move 0 100000
def aD (s:SoSeason):Int×Int×Int:=
 if candOk s=true then
  (if an s.stores.length 1 3=true then(if(bc (storeErr s) s.stores 0).2=0 then(0,0,0) else(2,(bc (storeErr s) s.stores 0).1,(bc (storeErr s) s.stores 0).2)) else(2,0,3))
 else(1,0,7)
structure SoOk (s:SoSeason):Prop where
 bend:0<=s.candle.bend/\s.candle.bend<=60
 jump:0<=s.candle.jump/\s.candle.jump<=60
 days:1<=s.candle.days/\s.candle.days<=8
 times:1<=s.candle.times/\s.candle.times<=8
 move:0<=s.move/\s.move<=100000
 len:1<=s.stores.length/\s.stores.length<=3
 rent:∀x,x∈s.stores->0<=x.rent/\x.rent<=100000
 same:∀x,x∈s.stores->x.warm.length=So.days s
 day8:1<=So.days s/\So.days s<=8
 span:∀x,x∈s.stores->∀w,w∈x.warm->0<=w.lo/\w.lo<=w.hi/\w.hi<=60
theorem DR{w:Span}(h:fm w=0):0<=w.lo/\w.lo<=w.hi/\w.hi<=60:=by
 unfold fm an at h;split at h
 .rename_i hc;simp only[bY,decide_eq_true_eq]at hc;split at h
  .cases h
  .omega
 .cases h
theorem soOk_of{s:SoSeason}(h:(aD s).2.2=0):SoOk s:=by
 unfold aD at h;split at h
 .rename_i hc;split at h
  .rename_i hl;split at h
   .rename_i hf;unfold candOk an at hc;unfold an at hl;simp only[bY,decide_eq_true_eq]at hc hl;obtain⟨⟨⟨⟨h1,h2⟩,h3⟩,h4⟩,h5⟩:=hc;have each:∀x,x∈s.stores->(0<=x.rent/\x.rent<=100000)/\(1<=x.warm.length/\x.warm.length<=8)/\x.warm.length=So.days s/\∀w,w∈x.warm->0<=w.lo/\w.lo<=w.hi/\w.hi<=60:=λx hx=>by
     obtain⟨k,hk⟩:=eL hx;have:=nV hf k x hk;unfold storeErr at this;split at this
     .split at this
      .rename_i hr;split at this
       .rename_i hw;unfold an at hr hw;simp only[bY,decide_eq_true_eq]at hr hw;refine⟨hr,by omega,hw.2,λw hm=>?_⟩;obtain⟨j,hj⟩:=eL hm;exact DR (nV this j w hj)
       .cases this
      .cases this
     .rename_i hne;exact absurd this hne
    have hne:s.stores≠[]:=by intro e;rw[e]at hl;simp at hl
    obtain⟨x,r,hx⟩:=List.exists_cons_of_ne_nil hne;have h0:=each x (by rw[hx];exact List.mem_cons_self);refine⟨h1,h2,h3,h4,h5,by omega,λx hx=>(each x hx).1,λx hx=>(each x hx).2.2.1,?_,λx hx=>(each x hx).2.2.2⟩;rw[<-h0.2.2.1];exact h0.2.1
   .rename_i hf;exact absurd h hf
  .cases h
 .cases h
theorem warmAt_ok{s:SoSeason}(h:SoOk s){i:Nat}(hi:i<s.stores.length){d:Int}(h0:0<=d)(hd:d<days s):0<=(aF s i d).lo/\(aF s i d).lo<=(aF s i d).hi/\(aF s i d).hi<=60:=by
 unfold aF;rw[aT hi];simp only[dy,jz];have hm:=nk hi;have hl:=h.same _ hm;have hlt:d.toNat<(s.stores[i]).warm.length:=by omega
 rw[bB,aT hlt];exact h.span _ hm _ (nk hlt)
end So
namespace Tr
def sm:Nat->(Nat->Int)->Int
 |0,_=>0
 |n+1,f=>sm n f+f n
theorem sm_congr{n:Nat}{f g:Nat->Int}(h:∀i,i<n->f i=g i):sm n f=sm n g:=by
 induction n with
 |zero=>rfl
 |succ n ih=>simp only[sm];rw[ih λi hi=>h i (by omega),h n (by omega)]
theorem sm_le{n:Nat}{f g:Nat->Int}(h:∀i,i<n->f i<=g i):sm n f<=sm n g:=by
 induction n with
 |zero=>exact dF _
 |succ n ih=>
  simp only[sm];have h1:=ih λi hi=>h i (by omega);have h2:=h n (by omega);omega
theorem sm_lt{n:Nat}{f g:Nat->Int}(h:∀i,i<n->f i<=g i){k:Nat}(hk:k<n)(hlt:f k<g k):sm n f<sm n g:=by
 induction n with
 |zero=>omega
 |succ n ih=>
  simp only[sm];have h2:=h n (by omega);rcases aw k n with hkn|hkn
  .have:=ih (λi hi=>h i (by omega)) hkn;omega
  .have:k=n:=by omega
   subst this;have:=sm_le (n:=k) (f:=f) (g:=g) λi hi=>h i (by omega);omega
theorem sm_zero{n:Nat}{f:Nat->Int}(h:∀i,i<n->f i=0):sm n f=0:=by
 induction n with
 |zero=>rfl
 |succ n ih=>simp only[sm];rw[ih λi hi=>h i (by omega),h n (by omega)];rfl
theorem mi{n:Nat}{f:Nat->Int}(h:∀i,i<n->0<=f i):0<=sm n f:=by
 induction n with
 |zero=>exact dF _
 |succ n ih=>
  simp only[sm];have h1:=ih λi hi=>h i (by omega);have h2:=h n (by omega);omega
theorem sm_add(n:Nat)(f g:Nat->Int):sm n (λi=>f i+g i)=sm n f+sm n g:=by
 induction n with
 |zero=>rfl
 |succ n ih=>simp only[sm];rw[ih];omega
theorem sm_swap(n m:Nat)(f:Nat->Nat->Int):sm n (λi=>sm m (f i))=sm m (λj=>sm n λi=>f i j):=by
 induction n with
 |zero=>simp only[sm];exact(sm_zero λ_ _=>rfl).symm
 |succ n ih=>simp only[sm];rw[ih,sm_add]
theorem sm_upd{n:Nat}{f g:Nat->Int}{k:Nat}(hk:k<n)(h:∀i,i<n->i≠k->g i=f i):sm n g=sm n f+(g k-f k):=by
 induction n with
 |zero=>omega
 |succ n ih=>
  simp only[sm];rcases aw k n with hkn|hkn
  .rw[ih hkn λi hi=>h i (by omega),h n (by omega) (by omega)];omega
  .have:k=n:=by omega
   subst this;rw[sm_congr (f:=g) (g:=f) λi hi=>h i (by omega) (by omega)];omega
theorem yU{n:Nat}{f:Nat->Int}(h:∀i,i<n->0<=f i){k:Nat}(hk:k<n):f k<=sm n f:=by
 have e:=sm_upd (f:=f) (g:=λi=>if i=k then 0 else f i) hk (λi _ hne=>by simp[hne]);have:=mi (n:=n) (f:=λi=>if i=k then 0 else f i) λi hi=>by
  show (0:Int)<=if i=k then 0 else f i
  split
  .exact dF _
  .exact h i hi
 simp at e;omega
end Tr
end Abs
end Go.Proofs.YtmndpldajflenaaGreatDoor
