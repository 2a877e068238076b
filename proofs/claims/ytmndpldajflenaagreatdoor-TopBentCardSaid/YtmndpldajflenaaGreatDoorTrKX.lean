/- CONTRACTS of the program's functions, and laws on what they return. No conditions but those in the theorems' heads. -/
import Derived.Test.YtmndpldajflenaaGreatDoorTrIX
set_option linter.all false
set_option maxHeartbeats 8000000
open Go.Proofs.Tryz renaming prog->TP
open Go.Proofs.Tryz
namespace Go.Proofs.YtmndpldajflenaaGreatDoor
namespace Abs
namespace Tr
set_option maxRecDepth 4000
def xJ:Pb:=⟨λ_=>0,λ_=>0,λ_ _=>false⟩
def fA (p:Pb) (bs ls:PV):List PV:=aQ p++[bs,ls]
def cD (p:Pb) (bs ls:PV):PV:=.agg (fA p bs ls)
def cg (p:Pb) (bs ls:AV):List AV:=(aQ p).map AV.p++[bs,ls]
theorem Do(p:Pb)(bs ls:PV):(fA p bs ls).length=82:=by simp[fA,cf]
theorem p6(p:Pb)(bs ls:AV):(cg p bs ls).length=82:=by simp[cg,cf]
attribute [go_sem] p6 Do
theorem G2{p:Pb}{bs:PV}{i n o k:Nat}:bV (cg p (.p bs) (.slice i n o k))=none:=by
 have:∀l:List PV,bV (l.map AV.p++[.p bs,.slice i n o k])=none:=by
  intro l
  induction l with
  |nil=>rfl
  |cons x l ih=>rw[iu,rO,bV,ih]
 exact this _
theorem zb(p:Pb)(bs ls:PV):(fA p bs ls).map AV.p=cg p (.p bs) (.p ls):=by simp[fA,cg]
attribute [go_sem] G2
theorem Js:ax TP 177=some (.agg (fA xJ .nilslice .nilslice)):=by kernel_rfl
attribute [go_sem high] Js
theorem G1(p:Pb)(bs ls x:AV):List.take 80 (cg p bs ls)++[x]++List.drop 81 (cg p bs ls)=cg p x ls:=by
 unfold cg;rw[i6 (by simp[cf]),show (81:Nat)=80+1 from rfl,<-nq,List.drop_left' (by simp[cf])];simp
theorem GZ(p:Pb)(bs ls x:AV):List.take 81 (cg p bs ls)++[x]++List.drop 82 (cg p bs ls)=cg p bs x:=by
 have e:cg p bs ls=((aQ p).map AV.p++[bs])++[ls]:=by simp[cg]
 rw[e,i6 (by simp[cf]),pf (by simp[cf])];simp[cg]
theorem G3(p:Pb)(bs ls:PV):bV (cg p (.p bs) (.p ls))=some (fA p bs ls):=by rw[<-zb,eH]
attribute [go_sem] G3
theorem IB(k:Nat)(p:Pb)(bs:PV):Ar k (.p (.agg (fA p bs .nilslice))) (.agg (cg p (.p bs) (.slice k 0 0 0))):=by
 have e:∀x:AV,cg p (.p bs) x=((aQ p).map AV.p++[.p bs])++[x]:=λx=>by simp[cg]
 refine⟨cg p (.p bs) (.p .nilslice),cg p (.p bs) (.slice k 0 0 0),by rw[<-zb];rfl,rfl,by rw[p6,p6],λj c d h1 h2=>?_⟩;rw[e]at h1 h2;generalize (aQ p).map AV.p++[.p bs]=L at h1 h2;rcases aw j L.length with h|h
 .rw[br h]at h1 h2;rw[h1]at h2;exact .inl (fW h2).symm
 .rw[ca h]at h1 h2
  cases hj:j-L.length with
  |zero=>
   rw[hj]at h1 h2;cases h1;cases h2
   exact .inr ⟨rfl,rfl⟩
  |succ n=>rw[hj]at h1;simp at h1
def jC (b:List TrBatch) (k i:Nat):Int:=(if i<k then(dj b i).grams else 0)-bT b k i
def iJ (b:List TrBatch) (k i:Nat):Int:=if i<k then bF b i else 0
def tP (b:List TrBatch) (k:Nat):Pb:=⟨jC b k,iJ b k,λ_ _=>false⟩
def rA (b:List TrBatch) (k:Nat) (dn:List TrTake):Pb:=⟨λi=>(if i<k+1 then(dj b i).grams else 0)-bT b k i-cC dn i,iJ b (k+1),λ_ _=>false⟩
def rL (l:List Nat):List AV:=l.map λj=>.p (bQ j)
theorem Lw(l:List Nat):(rL l).length=l.length:=by simp[rL]
theorem kC(l:List Nat)(k:Nat):rL (l++[k])=rL l++[.p (.int .i64 k)]:=by simp[rL,bQ]
theorem u4(k:Nat)(h:Heap)(l:List Nat):aM (eW k h) (rL l)=some (l.map bQ):=fg k h bQ (λ_=>rfl) l
theorem lB(k:Nat)(h:Heap)(l:List Nat):aM (bH k h) (rL l)=some (l.map bQ):=by
 unfold rL;rw[show l.map (λj=>AV.p (bQ j))=(l.map bQ).map .p by rw[oX];rfl];exact gR k h _
theorem bg(l:List Nat)(m:Nat):∀x,x∈rL l->below m x:=λx hx=>by
 obtain⟨j,_,rfl⟩:=eK.1 hx;trivial
attribute [go_sem] Lw
theorem Dp{p:Pb}{bs ls:AV}{x:Nat}(hx:x<8):(cg p bs ls)[x]?=some (.p (.int .i64 (p.has x))):=by
 unfold cg;rw[br (by simp[cf];omega),bU,s9 p hx];rfl
theorem MA{p:Pb}{bs ls:AV}:(cg p bs ls)[80]?=some bs/\(cg p bs ls)[81]?=some ls:=by
 unfold cg;rw[ca (by simp[cf]),ca (by simp[cf])];simp[cf]
theorem AB(l:List PV)(o:Nat)(v:PV):(l.map AV.p).set o (.p v)=(l.set o v).map AV.p:=by rw[zh]
theorem pD(p:Pb)(bs ls:AV){x:Nat}(hx:x<8)(v:Int):List.take x (cg p bs ls)++[.p (.int .i64 v)]++List.drop (x+1) (cg p bs ls)=cg ⟨λi=>if i=x then v else p.has i,p.needs,p.nv⟩ bs ls:=by
 have:=pK (cg p bs ls) x (.p (.int .i64 v)) (by simp[p6];omega);unfold cR at this;rw[aC]at this;rw[this];unfold cg aQ;rw[kO _ _ (by simp[bm];omega),AB,kO _ _ (by rw[bm];exact hx),sT]
theorem Bp(p:Pb)(bs ls:AV){x:Nat}(hx:x<8)(v:Int):List.take (8+x) (cg p bs ls)++[.p (.int .i64 v)]++List.drop (8+x+1) (cg p bs ls)=cg ⟨p.has,λi=>if i=x then v else p.needs i,p.nv⟩ bs ls:=by
 have:=pK (cg p bs ls) (8+x) (.p (.int .i64 v)) (by simp[p6];omega);unfold cR at this;rw[aC]at this;rw[this];unfold cg aQ;rw[kO _ _ (by simp[bm];omega),AB,td _ _ 8 _ (bm _ _),kO _ _ (by rw[bm];exact hx),sT]
theorem mE{p q:Pb}{bs ls:AV}(h1:∀i,i<8->p.has i=q.has i)(h2:∀i,i<8->p.needs i=q.needs i)(h3:∀x t,x<8->t<8->p.nv x t=q.nv x t):cg p bs ls=cg q bs ls:=by
 unfold cg;rw[fE h1 h2 h3]
theorem mF(p:Pb)(bs ls:AV)(m:Nat)(h1:bS m bs)(h2:bS m ls):∀x,x∈cg p bs ls->bS m x:=λx hx=>by
 unfold cg at hx;rcases gu.1 hx with hx|hx
 .obtain⟨j,_,rfl⟩:=eK.1 hx;trivial
 .rcases dQ.1 hx with rfl|hx
  .exact h1
  .rcases dQ.1 hx with rfl|hx
   .exact h2
   .cases hx
theorem Di(n)(h)(m):∀l,aM (bH n h) (l.map .p++m)=(aM (bH n h) m).map (l++·)
 |[]=>by cases hm:aM (bH n h) m<;>simp[hm]
 |x::r=>by
  rw[iu,rO,aM,Di n h m r,jZ];cases aM (bH n h) m<;>rfl
theorem C4{b:List TrBatch}{k:Nat}{x:TrBatch}(hx:b[k]?=some x)(bs ls:AV):cg (rA b k x.takes) bs ls=cg (tP b (k+1)) bs ls:=mE (λi _=>by
  show (if i<k+1 then(dj b i).grams else 0)-bT b k i-cC x.takes i=(if i<k+1 then(dj b i).grams else 0)-bT b (k+1) i
  rw[show bT b (k+1) i=bT b k i+cC (dj b k).takes i from rfl,cS hx];omega) (λ_ _=>rfl) λ_ _ _ _=>rfl
theorem GV(b:List TrBatch)(f:Bool)(hb:BatsOk b):PCall TP 115 [.slice 5 (b.map TrBatch.pv) f] (cD (supp b) (.slice 5 (b.map TrBatch.pv) f) (.slice 1 ((losts b).map bQ) false)):=by
 have hl8:=hb.len;refine cm (am func115 rfl) rfl ?_;simp only[zb,G1,go_sem,simprocAttr];refine io (11::[2,9,10]) 0 1 82 [.p (.agg (fA xJ (.slice 5 (b.map TrBatch.pv) f) .nilslice))] [.agg (cg xJ (.p (.slice 5 (b.map TrBatch.pv) f)) (.slice 1 0 0 0))] (by simp) (by simp) rfl rfl ?_ ?_ ?_ rfl ?_
 .intro n x y h1 h2
  match n,h1,h2 with
  |0,h1,h2=>
   cases h1;cases h2
   exact IB 1 _ _
  |n+1,h1,h2=>simp at h1
 .simp only[go_sem,simprocAttr]
 .simp only[go_sem,simprocAttr]
 simp only[go_sem,simprocAttr]
 refine bt [2,9,10] b (by omega) (τ:=Unit) (λ_ _ _=>True) (λdone _=>[(11,.p (.int .i64 done.length))])
  (λdone _=>[.row 82 [.agg (cg (tP b done.length) (.p (.slice 5 (b.map TrBatch.pv) f)) (.slice 1 (ce b done.length).length 0 (ce b done.length).length))],.row 1 (rL (ce b done.length))]) () trivial ?_ ?_ ?_
 .have e0:cg xJ (AV.p (PV.slice 5 (List.map TrBatch.pv b) f)) (AV.slice 1 0 0 0)=cg (tP b 0) (AV.p (PV.slice 5 (List.map TrBatch.pv b) f)) (AV.slice 1 0 0 0):=mE (λi _=>by simp[tP,jC,xJ,bT,sm]) (λi _=>by simp[tP,iJ,xJ]) λ_ _ _ _=>rfl;have l0:ce b 0=[]:=rfl;simp only[e0,l0,go_sem,simprocAttr];refine⟨rfl,?_,bg _ _⟩;exact mF _ _ _ _ (by trivial) (by simp[bS,bP])
 .intro _ _;have hq:ce b b.length=losts b:=rfl;have hs:aQ (tP b b.length)=aQ (supp b):=fE (λi hi=>by
    show (if i<b.length then(dj b i).grams else 0)-bT b b.length i=kept b i
    rfl) (λi hi=>by
    show (if i<b.length then bF b i else 0)=bF b i;by_cases h:i<b.length
    .rw[if_pos h]
    .rw[if_neg h,kq (by omega)]) λ_ _ _ _=>rfl
  rw[hq];simp only[go_sem,simprocAttr];rw[cg,Di,hs];simp only[lB,cD,fA,go_sem,simprocAttr]
 .intro done x r _ e1 _ hx hlt hnx;have hdl:done.length<b.length:=by omega
  have hbo:=hb.bat _ _ hx;have hax:dj b done.length=x:=cS hx;have hxl:=p7 hbo;have h1:=hbo.grams;have h2:=hbo.fresh;have d8:done.length<8:=by omega
  have d8i:(done.length:Int)<8:=by omega
  have d81:done.length<=81:=by omega
  have d81b:8+done.length<=81:=by omega
  have hT:=kA hb done.length done.length (by omega);have hk0:jC b done.length done.length=- bT b done.length done.length:=by unfold jC;rw[if_neg (by omega)];omega
  have gh:∀ls,(cg (tP b done.length) (.p (.slice 5 (b.map TrBatch.pv) f)) ls)[done.length]?=some (.p (.int .i64 (jC b done.length done.length))):=λls=>Dp (p:=tP b done.length) d8;have w1:IntKind.i64.wrap (jC b done.length done.length+x.grams)=jC b done.length done.length+x.grams:=aj (by omega) (by omega);have w2:IntKind.i64.wrap (x.grams-x.fresh)=x.grams-x.fresh:=aj (by omega) (by omega);obtain⟨p1,hp1⟩:∃p1:Pb,p1=⟨λi=>if i=done.length then jC b done.length done.length+x.grams else jC b done.length i,iJ b done.length,λ_ _=>false⟩:=⟨_,rfl⟩
  have ph:∀ls,List.take done.length (cg (tP b done.length) (.p (.slice 5 (b.map TrBatch.pv) f)) ls)++[.p (.int .i64 (jC b done.length done.length+x.grams))]++List.drop (done.length+1) (cg (tP b done.length) (.p (.slice 5 (b.map TrBatch.pv) f)) ls)=cg p1 (.p (.slice 5 (b.map TrBatch.pv) f)) ls:=λls=>by
   rw[pD _ _ _ d8,hp1];rfl
  have hh:∀i,i<8->p1.has i=(rA b done.length []).has i:=λi hi=>by
   rw[hp1];show (if i=done.length then jC b done.length done.length+x.grams else jC b done.length i)=(if i<done.length+1 then(dj b i).grams else 0)-bT b done.length i-cC [] i;rw[show cC [] i=0 from rfl];by_cases h:i=done.length
   .subst h;rw[if_pos rfl,if_pos (by omega),hk0,hax];omega
   .rw[if_neg h];unfold jC;by_cases h5:i<done.length
    .rw[if_pos h5,if_pos (by omega)];omega
    .rw[if_neg h5,if_neg (by omega)];omega
  have hna:=C6 hx;have hnd:∀i,iJ b (done.length+1) i=if i=done.length then bF b done.length else iJ b done.length i:=λi=>by
   unfold iJ;by_cases h:i=done.length
   .subst h;rw[if_pos rfl,if_pos (by omega)]
   .rw[if_neg h];by_cases h5:i<done.length
    .rw[if_pos h5,if_pos (by omega)]
    .rw[if_neg h5,if_neg (by omega)]
  have hlb:ba b done.length=x.lost:=by unfold ba;rw[hax]
  have hlo:=AE (b:=b) done.length;rw[hlb]at hlo;have hfl:=vp b done.length;have hrm:(ce b done.length).length+1<=ai:=by simp[ai];omega
  simp only[hlt,hx,d8i,Nat.mul_one,gh,w1,d81,ph,go_sem,simprocAttr];cases hq:x.lost
  .rw[hq,if_neg (by decide),co]at hlo;rw[hq,if_neg (by decide)]at hna;have hm:∀ls,cg p1 (.p (.slice 5 (b.map TrBatch.pv) f)) ls=cg (rA b done.length []) (.p (.slice 5 (b.map TrBatch.pv) f)) ls:=λls=>mE hh (λi _=>by
    rw[hp1];show iJ b done.length i=iJ b (done.length+1) i;rw[hnd,hna];by_cases h:i=done.length
    .subst h;rw[if_pos rfl];unfold iJ;rw[if_neg (by omega)]
    .rw[if_neg h]) λ_ _ _ _=>by rw[hp1];rfl
   simp only[hm,go_sem,simprocAttr]
   refine bt [2,9,10,11,45,46] x.takes (by omega) (τ:=Unit) (λ_ _ _=>True) (λdn _=>[(47,.p (.int .i64 dn.length))])
    (λdn _=>[.row 82 [.agg (cg (rA b done.length dn) (.p (.slice 5 (b.map TrBatch.pv) f)) (.slice 1 (ce b done.length).length 0 (ce b done.length).length))],.row 1 (rL (ce b done.length)),.row 5 [.p (.agg [.str x.name,.int .i64 x.grams,.int .i64 x.fresh,.bool false,.slice 2 (x.takes.map TrTake.pv) false])]]) () trivial ?_ ?_ ?_
   .simp only[go_sem,simprocAttr];exact⟨mF _ _ _ _ (by trivial) (by simp[bS,bP]),bg _ _⟩
   .intro _ _;simp only[go_sem,simprocAttr];refine aq e1 () trivial ?_;simp only[hnx,ay,aC,hlo,C4 hx,go_sem,simprocAttr];exact⟨mF _ _ _ _ (by trivial) (by simp[bS,bP]),bg _ _⟩
   .intro dn t rr _ f1 _ ht hlt2 hnx2;have htm:t∈x.takes:=by rw[f1];simp
    have hts:=hbo.src t htm;have htg:=hbo.take t htm;have i1:t.src<8:=by omega
    have i2:t.src.toNat<8:=by omega
    have i81:t.src.toNat<=81:=by omega
    have hB1:=kA hb t.src.toNat done.length (by omega);have hB2:=pH (i:=t.src.toNat) dn λu hu=>hbo.take u (by rw[f1];simp[hu]);have hB3:dn.length<=x.takes.length:=by rw[f1];simp
    have hB4:=(lO hb (show t.src.toNat<b.length by omega)).grams;obtain⟨v,hv⟩:∃v,v=(rA b done.length dn).has t.src.toNat:=⟨_,rfl⟩
    have hv':v=(dj b t.src.toNat).grams-bT b done.length t.src.toNat-cC dn t.src.toNat:=by
     rw[hv];show (if t.src.toNat<done.length+1 then(dj b t.src.toNat).grams else 0)-bT b done.length t.src.toNat-cC dn t.src.toNat=_;rw[if_pos (by omega)]
    have gt:=Dp (p:=rA b done.length dn) (bs:=.p (.slice 5 (b.map TrBatch.pv) f)) (ls:=.slice 1 (ce b done.length).length 0 (ce b done.length).length) i2;rw[<-hv]at gt;have wk:IntKind.i64.wrap (v-t.grams)=v-t.grams:=aj (by omega) (by omega);have pt:=pD (rA b done.length dn) (.p (.slice 5 (b.map TrBatch.pv) f)) (.slice 1 (ce b done.length).length 0 (ce b done.length).length) i2 (v-t.grams);have pe:cg ⟨λi=>if i=t.src.toNat then v-t.grams else(rA b done.length dn).has i,(rA b done.length dn).needs,(rA b done.length dn).nv⟩ (.p (.slice 5 (b.map TrBatch.pv) f)) (.slice 1 (ce b done.length).length 0 (ce b done.length).length)=cg (rA b done.length (dn++[t])) (.p (.slice 5 (b.map TrBatch.pv) f)) (.slice 1 (ce b done.length).length 0 (ce b done.length).length):=mE (λi _=>by
     show (if i=t.src.toNat then v-t.grams else(if i<done.length+1 then(dj b i).grams else 0)-bT b done.length i-cC dn i)=(if i<done.length+1 then(dj b i).grams else 0)-bT b done.length i-cC (dn++[t]) i;rw[mO];by_cases h:i=t.src.toNat
     .subst h;rw[if_pos rfl,if_pos (by omega),if_pos (by omega),hv'];omega
     .rw[if_neg h,if_neg (show ¬t.src=(i:Int) by omega)];omega) (λ_ _=>rfl) λ_ _ _ _=>rfl
    rw[pe]at pt;simp only[hlt,hx,hlt2,ht,hts.1,i1,gt,wk,pt,Nat.mul_one,i81,go_sem,simprocAttr];refine aq f1 () trivial ?_;simp only[hnx2,go_sem,simprocAttr];exact⟨mF _ _ _ _ (by trivial) (by simp[bS,bP]),bg _ _⟩
  .rw[hq,if_pos rfl]at hlo;rw[hq,if_pos rfl]at hna;have pn:∀ls,List.take (8+done.length) (cg p1 (.p (.slice 5 (b.map TrBatch.pv) f)) ls)++[.p (.int .i64 (x.grams-x.fresh))]++List.drop (8+done.length+1) (cg p1 (.p (.slice 5 (b.map TrBatch.pv) f)) ls)=cg (rA b done.length []) (.p (.slice 5 (b.map TrBatch.pv) f)) ls:=λls=>by
    rw[Bp _ _ _ d8];refine mE hh (λi _=>?_) λ_ _ _ _=>by rw[hp1];rfl
    rw[hp1];show (if i=done.length then x.grams-x.fresh else iJ b done.length i)=iJ b (done.length+1) i;rw[hnd,hna]
   simp only[MA,hrm,GZ,w2,d8i,Nat.mul_one,d81b,pn,go_sem,simprocAttr];have htk:=hbo.lost hq;have hqe:=C4 hx;rw[htk]at hqe;rw[htk];refine aE ?_;simp only[go_sem,simprocAttr];refine aq e1 () trivial ?_;simp only[hnx,ay,aC,hlo,hqe,kC,go_sem,simprocAttr];exact⟨mF _ _ _ _ (by trivial) (by simp[bS,bP]),bg _ _⟩
theorem KI{b:List TrBatch}(h:(bM b).2.2=0):(bc (bo b) b 0).2=0:=by
 unfold bM at h;split at h
 .split at h
  .assumption
  .rename_i hb;exact absurd h hb
 .cases h
theorem BookOk.bats{b:List TrBatch}(h:BookOk b):BatsOk b:=⟨h.len.2,h.bat⟩
theorem DP{b:List TrBatch}(h:BookOk b):MP (supp b):=λi hi=>⟨qU h (by have:=h.len;omega),kq (by have:=h.len;omega)⟩
theorem DK{b:List TrBatch}(h:BookOk b):fN (supp b)=true:=by
 have t:=mW h (y:=λ_=>0) λ_=>dF _;exact ue t.way (λi=>⟨pS h i,m8 h i⟩) λi=>jD h i
theorem mD{p:Pb}{bs ls:PV}:(fA p bs ls)[80]?=some bs/\(fA p bs ls)[81]?=some ls:=by
 unfold fA;rw[ca (by simp[cf]),ca (by simp[cf])];simp[cf]
theorem tC{p:Pb}{bs ls:PV}:List.take 80 ((fA p bs ls).map AV.p)=(aQ p).map AV.p:=by
 unfold fA;rw[kg,i6 (by simp[cf])]
theorem IH(p:Pb)(bs ls:PV):my 0 0 8 (some (82,[PV.agg (fA p bs ls)]))=some (.slice 1 (cI 8 p.has) false):=by
 show (if 0+8<=(fA p bs ls).length then some (PV.slice 1 ((List.drop 0 (fA p bs ls)).take 8) false) else none)=_;rw[if_pos (by rw[Do];omega)];unfold fA aQ;rw[oZ,bJ,i6 (bm _ _)]
theorem xZ{p:Int->Bool}:∀(l:List Int) (i:Nat),(∀x,x∈l->p x=false)->gE p l i=-1
 |[],_,_=>rfl
 |x::r,i,h=>by
  unfold gE;rw[if_neg (by rw[h x List.mem_cons_self];decide)];exact xZ r (i+1) λy hy=>h y (eU _ hy)
theorem Pk(n:Int):PCall TP 144 [.int .i64 n] (.bool (decide (n<0))):=by
 refine ae (am func144 rfl) rfl ?_;simp only[go_sem,simprocAttr]
theorem vK{α:Type}{f:Nat->α->Int}:∀(l:List α) (i:Nat),(bc f l i).2=0->bc f l i=(0,0)
 |[],_,_=>rfl
 |x::r,i,h=>by
  rw[lJ]at h |-;by_cases hx:f i x=0
  .rw[if_pos hx]at h |-;exact vK r (i+1) h
  .rw[if_neg hx]at h;exact absurd h hx
theorem xh(b:List TrBatch)(f:Bool)(h:(bM b).2.2=0)(hT:cZ b):PCall TP 100 [.slice 5 (b.map TrBatch.pv) f] (.tuple [.int .i64 0,.int .i64 0,.int .i64 0]):=by
 have hk:=gW h;have hl:=hk.len;refine ae (am func100 rfl) rfl ?_;simp only[go_sem,simprocAttr];refine aa (n5 1 8 [(b.length:Int)] true (by simp)) rfl ?_;have h1:(List.any [(b.length:Int)] λn=>!an n 1 8)=false:=by simp[an];omega
 simp only[h1,go_sem,simprocAttr];refine bt [0,13] b (by omega) (τ:=Unit) (λdone rest _=>bc (bo b) rest done.length=(0,0)) (λdone _=>[(14,.p (.int .i64 done.length))]) (λ_ _=>[]) () ?_ ?_ ?_ ?_
 .exact vK b 0 (KI h)
 .simp only[go_sem,simprocAttr]<;>simp
 .intro _ e2;simp only[go_sem,simprocAttr];refine aa (GV b f hk.bats) rfl ?_;have h3:decide ((3:Int)<((losts b).length:Int))=false:=decide_eq_false (by have:=hk.lost;omega);simp only[cD,mD,h3,go_sem,simprocAttr];refine dX (t6 (fv:=.func (.func 144) [] []) (lI 8 (kept b)) (λn=>decide (n<0)) false 1 rfl (by simp[vt]) λn _=>⟨_,_,_,rfl,Pk n⟩) ?_ (.int _ _) ?_
  .simp only[IH,Jc,go_sem,simprocAttr];rfl
  have h4:gE (λn=>decide (n<0)) (lI 8 (kept b)) 0=-1:=xZ _ _ λx hx=>by
   obtain⟨i,_,rfl⟩:=eK.1 hx;exact decide_eq_false (by have:=pS hk i;omega)
  simp only[h4,tC,eH,go_sem,simprocAttr];refine aa (Bg (supp b) (DP hk)) rfl ?_;simp only[DK hk,go_sem,simprocAttr]
 .intro done x r _ e1 e2 hx hlt hnx;rw[lJ]at e2;simp only[hlt,go_sem,simprocAttr];refine aa (KE b f done.length x hx (by omega) hT) rfl ?_;simp only[go_sem,simprocAttr];cases h2:(bo b done.length x != 0)
  .rw[if_pos (by simpa using h2)]at e2;simp only[go_sem,simprocAttr];refine aq e1 () (by rw[<-e2];simp) ?_;simp only[hnx,go_sem,simprocAttr]
  .have h2':¬bo b done.length x=0:=by simpa using h2
   rw[if_neg h2']at e2;have:=congrArg Prod.snd e2;exact absurd this h2'
def bI (b:List TrBatch) (f:Bool):PV:=cD (supp b) (.slice 5 (b.map TrBatch.pv) f) (.slice 1 ((losts b).map bQ) false)
theorem n7(b:List TrBatch)(f g:Bool)(l:List Int)(h:(bM b).2.2=0)(hT:cZ b)(hl:l.length<1000000000) :
  PCall TP 61 [.slice 5 (b.map TrBatch.pv) f,.slice 1 (l.map intPV) g] (.tuple (if(l.any λn=>!an n 0 (b.length-1))=true then [cD xJ .nilslice .nilslice,.int .i64 4] else [bI b f,.int .i64 0])):=by
 have hk:=gW h;have hle:=hk.len;have w1:IntKind.i64.wrap ((b.length:Int)-1)=(b.length:Int)-1:=aj (by omega) (by omega);refine ae (am func61 rfl) rfl ?_;simp only[go_sem,simprocAttr];refine aa (xh b f h hT) rfl ?_;simp only[w1,go_sem,simprocAttr];refine aa (n5 0 ((b.length:Int)-1) l g hl) rfl ?_;simp only[go_sem,simprocAttr];cases ho:l.any λn=>!an n 0 (b.length-1)
 .simp only[go_sem,simprocAttr];refine aa (GV b f hk.bats) rfl ?_;simp only[cD,bI,go_sem,simprocAttr]
 .simp only[cD,go_sem,simprocAttr]
def vq (is:Nat->Bool) (but:Int):List Nat:=(List.range 8).filter λi=>is i&&((i:Int) != but)
def jY (is:Nat->Bool) (but:Int) (k:Nat):List Nat:=(List.range k).filter λi=>is i&&((i:Int) != but)
theorem Cl(is:Nat->Bool)(but:Int)(k:Nat):jY is but (k+1)=jY is but k++(if(is k&&((k:Int) != but))=true then [k] else []):=by
 unfold jY;rw[List.range_succ,zx]
 congr 1
 cases h:is k&&((k:Int) != but)<;>simp[h]
theorem Ed(is:Nat->Bool)(but:Int)(k:Nat):(jY is but k).length<=k:=by
 have:=List.length_filter_le (λi=>is i&&((i:Int) != but)) (List.range k);simpa[jY]using this
theorem Ja(is:Nat->Bool)(but:Int):eS TP 98 [.agg (cB 8 is),.int .i64 but] (.slice 1 ((vq is but).map bQ) false):=by
 refine di (am func98 rfl) rfl ?_;simp only[go_sem,simprocAttr];refine dq 4 1 (by simp only[go_sem,simprocAttr]) ?_;simp only[go_sem,simprocAttr];refine aS [1,7] (σ:=Nat) (λk=>k<=8) (λk=>8-k) (λk=>[(4,.slice 1 (jY is but k).length 0 (jY is but k).length),(8,.p (.int .i64 k))]) (λk=>[.row 8 [.p (.agg (cB 8 is))],.row 1 (rL (jY is but k))]) 0 (bE _) ?_ ?_
 .have l0:jY is but 0=[]:=rfl;simp only[l0,go_sem,simprocAttr];exact⟨rfl,bg _ _⟩
 intro k hk;dsimp only;rcases aw k 8 with h8|h8
 .have hd:decide ((k:Int)<8)=true:=decide_eq_true (by omega);have h8i:(k:Int)<8:=by omega
  have hg:=cN is h8;have hn:=Cl is but k;have hle:=Ed is but k;have hrm:(jY is but k).length+1<=ai:=by simp[ai];omega
  have hw:IntKind.i64.wrap ((k:Int)+1)=((k+1:Nat):Int):=az (by omega) (by simp[ai];omega) (by omega);simp only[hd,h8i,hg,Nat.mul_one,go_sem,simprocAttr];cases h1:is k
  .rw[h1,Bool.false_and,if_neg (by decide),co]at hn;simp only[go_sem,simprocAttr];refine ak (k+1) h8 (by omega) ?_;simp only[hw,hn,go_sem,simprocAttr];exact bg _ _
  .cases h2:((k:Int) != but)
   .rw[h1,h2,kM,if_neg (by decide),co]at hn;simp only[h2,go_sem,simprocAttr];refine ak (k+1) h8 (by omega) ?_;simp only[hw,hn,go_sem,simprocAttr];exact bg _ _
   .rw[h1,h2,kM,if_pos rfl]at hn;simp only[h2,hrm,go_sem,simprocAttr];refine ak (k+1) h8 (by omega) ?_;simp only[hw,hn,kC,ay,aC,go_sem,simprocAttr];exact bg _ _
 .have hd:decide ((k:Int)<8)=false:=decide_eq_false (by omega);have:k=8:=by omega
  subst this;simp only[hd,u4,go_sem,simprocAttr];rfl
def edgePV (e:Nat×Nat):PV:=.agg [.int .i64 (e.1:Int),.int .i64 (e.2:Int)]
attribute [go_sem] edgePV
inductive ESl:PV->List (Nat×Nat)->Prop
 |nil:ESl .nilslice []
 |mk {l:List (Nat×Nat)} {b:Bool} (h:l≠[]):ESl (.slice 2 (l.map edgePV) b) l
theorem Mc{fv:PV}(v:PV)(l:List (Nat×Nat))(p:Nat->Nat×Nat->Bool)(hv:ESl v l)(hl:(l.length:Int)<=9223372036854775807)(hf:∀(i:Nat) (x:Nat×Nat),l[i]?=some x->rK TP fv [.int .i64 i,edgePV x] (.bool (p i x))) :
  PCall TP 155 [v,fv] (.bool (bv p l 0)):=by
 refine ae (am func155 rfl) rfl ?_
 cases hv with
 |nil=>
  simp only[go_sem,simprocAttr];refine aE ?_;simp only[go_sem,simprocAttr]
  rfl
 |mk hne=>
  simp only[go_sem,simprocAttr];refine lT [1,7,8] l hl (τ:=Unit) (λdone rest _=>bv p l 0=bv p rest done.length) (λdone _=>[(9,.p (.int .i64 done.length))]) (λ_ _=>[]) () rfl ?_ ?_ ?_
  .simp only[go_sem,simprocAttr]<;>simp
  .intro _ e2;rw[bv]at e2;simp only[e2,go_sem,simprocAttr]
  .intro done x r _ e1 e2 hx hlt hnx;obtain⟨g,first,cap,rfl,hc⟩:=hf done.length x (by rw[e1];simp);rw[bv]at e2;simp only[hlt,decide_true,hx,edgePV,go_sem,simprocAttr];refine aa hc (by simp[edgePV]) ?_;simp only[go_sem,simprocAttr];cases hb:p done.length x
   .rw[hb,gA]at e2;simp only[go_sem,simprocAttr];refine aq e1 () (by rw[e2];simp) ?_;simp only[hnx,go_sem,simprocAttr]
   .rw[hb,gY]at e2;simp only[e2,go_sem,simprocAttr]
theorem Kv(k:Int)(t:TrTake)(is:Nat->Bool)(h0:0<=t.src)(h8:t.src<8):PCall TP 153 [.int .i64 k,t.pv,.ptr 8 [.agg (cB 8 is)] 0 0] (.bool (is t.src.toNat)):=by
 have hg:=cN is (show t.src.toNat<8 by omega);refine ae (am func153 rfl) rfl ?_;simp only[h0,h8,hg,Nat.mul_one,go_sem,simprocAttr]
theorem Ku(k:Int)(t:TrTake)(is:Nat->Bool)(h0:0<=t.src)(h8:t.src<8):PCall TP 118 [.int .i64 k,t.pv,.ptr 8 [.agg (cB 8 is)] 0 0] (.bool (is t.src.toNat)):=by
 have hg:=cN is (show t.src.toNat<8 by omega);refine ae (am func118 rfl) rfl ?_;simp only[h0,h8,hg,Nat.mul_one,go_sem,simprocAttr]
theorem Pm(k:Int)(e:Nat×Nat)(i:Nat)(is:Nat->Bool)(h8:e.1<8):PCall TP 154 [.int .i64 k,edgePV e,.ptr 1 [.int .i64 (i:Int)] 0 0,.ptr 8 [.agg (cB 8 is)] 0 0] (.bool (e.2==i&&is e.1)):=by
 have hg:=cN is h8;have h8i:(e.1:Int)<8:=by omega
 have he:((e.2:Int)==(i:Int))=(e.2==i):=by rw[gC,beq_iff_eq,beq_iff_eq];omega
 refine ae (am func154 rfl) rfl ?_;simp only[he,go_sem,simprocAttr];cases h:e.2==i
 .simp only[go_sem,simprocAttr]
 .simp only[h8i,hg,Nat.mul_one,go_sem,simprocAttr]
theorem BE{b:List TrBatch}{i:Nat}{x:TrBatch}(h:b[i]?=some x)(is:Nat->Bool):bv (λ_ (t:TrTake)=>is t.src.toNat) x.takes 0=(tk b i).any is:=by
 rw[lq,tk,cS h,ub];rfl
def qD (tk:Nat->List Nat) (more:List (Nat×Nat)) (a k:Nat):Nat->Bool:=dP (iY tk more) (List.range k) (λi=>i==a)
theorem DZ(tk:Nat->List Nat)(more:List (Nat×Nat))(a k:Nat):qD tk more a (k+1)=ct (qD tk more a k) k (iY tk more (qD tk more a k) k):=by
 unfold qD;rw[List.range_succ];unfold dP;rw[oY];rfl
theorem Mf(b:List TrBatch)(f:Bool)(a:Nat)(v:PV)(more:List (Nat×Nat))(hb:BatsOk b)(ha:a<8)(hv:ESl v more)(hm:more.length<=1000)(he:∀e,e∈more->e.1<8)(hT:cZ b) :
  PCall TP 122 [bI b f,.int .i64 (a:Int),v] (.agg (cB 8 (rch b.length (tk b) more a))):=by
 have hl8:=hb.len;have a8i:(a:Int)<8:=by omega
 have a7:a<=7:=by omega
 have pa:=kK (λ_=>false) true ha;have z0:(λi=>if i=a then true else false)=λi=>i==a:=by funext i;by_cases h:i=a<;>simp[h]
 rw[z0]at pa;refine ae (am func122 rfl) rfl ?_;simp only[bI,cD,a8i,Nat.mul_one,a7,pa,mD,go_sem,simprocAttr]
 refine bt [2,6,14,15] b (by omega) (τ:=Unit) (λ_ _ _=>True) (λdone _=>[(16,.p (.int .i64 done.length))])
  (λdone _=>[.row 82 [.p (.agg (fA (supp b) (.slice 5 (b.map TrBatch.pv) f) (.slice 1 ((losts b).map bQ) false)))],.row 8 [.p (.agg (cB 8 (qD (tk b) more a done.length)))]]) () trivial ?_ ?_ ?_
 .simp only[go_sem,simprocAttr];rfl
 .intro _ _;simp only[go_sem,simprocAttr];rfl
 .intro done x r _ e1 _ hx hlt hnx;have hdl:done.length<b.length:=by omega
  have hbo:=hb.bat _ _ hx;have hTx:=hT x (aV hx);have d8:done.length<8:=by omega
  have d8i:(done.length:Int)<8:=by omega
  have d7:done.length<=7:=by omega
  obtain⟨is,his⟩:∃is,is=qD (tk b) more a done.length:=⟨_,rfl⟩
  have hsc:=DZ (tk b) more a done.length;rw[<-his]at hsc |-;have hg:=cN is d8;have hat:=BE hx is;have hme:=lq (λe:Nat×Nat=>e.2==done.length&&is e.1) more 0;have c1:=sS (fv:=.func (.func 153) [] [.ptr 8 [.agg (cB 8 is)] 0 0]) x.takes (λ_ t=>is t.src.toNat) false hTx λk t ht=>⟨_,_,_,rfl,Kv k t is (by have:=hbo.src t (aV ht);omega) (by have:=hbo.src t (aV ht);omega)⟩
  have c2:=Mc (fv:=.func (.func 154) [] [.ptr 1 [.int .i64 (done.length:Int)] 0 0,.ptr 8 [.agg (cB 8 is)] 0 0]) v more (λ_ e=>e.2==done.length&&is e.1) hv (by omega) λk e h=>⟨_,_,_,rfl,Pm k e done.length is (he e (aV h))⟩
  have hput:∀w:Bool,w=iY (tk b) more is done.length->bV (List.take done.length ((cB 8 is).map AV.p)++[.p (.bool w)]++List.drop (done.length+1) ((cB 8 is).map AV.p))=some (cB 8 (qD (tk b) more a (done.length+1))):=λw hw=>by
   rw[kK is w d8,hsc,hw];rfl
  have hG:iY (tk b) more is done.length=((is done.length||bv (λ_ (t:TrTake)=>is t.src.toNat) x.takes 0)||bv (λ_ (e:Nat×Nat)=>e.2==done.length&&is e.1) more 0):=by rw[iY,hat,hme]
  simp only[hlt,hx,d8i,Nat.mul_one,hg,go_sem,simprocAttr];cases h1:is done.length
  .rw[h1,gA]at hG;simp only[go_sem,simprocAttr];refine Dx c1 ?_ (.bool _) ?_
   .simp only[go_sem,simprocAttr]
   simp only[go_sem,simprocAttr];cases h2:bv (λ_ (t:TrTake)=>is t.src.toNat) x.takes 0
   .rw[h2,gA]at hG;simp only[go_sem,simprocAttr];refine Dx c2 ?_ (.bool _) ?_
    .simp only[go_sem,simprocAttr]
    have hp:=hput _ hG.symm;simp only[d8i,Nat.mul_one,d7,hp,go_sem,simprocAttr];refine aq e1 () trivial ?_;simp only[hnx,ay,aC,go_sem,simprocAttr]
   .rw[h2,gY]at hG;have hp:=hput _ hG.symm;simp only[d8i,Nat.mul_one,d7,hp,go_sem,simprocAttr];refine aq e1 () trivial ?_;simp only[hnx,ay,aC,go_sem,simprocAttr]
  .rw[h1,gY,gY]at hG;have hp:=hput _ hG.symm;simp only[d8i,Nat.mul_one,d7,hp,go_sem,simprocAttr];refine aq e1 () trivial ?_;simp only[hnx,ay,aC,go_sem,simprocAttr]
end Tr
end Abs
end Go.Proofs.YtmndpldajflenaaGreatDoor
