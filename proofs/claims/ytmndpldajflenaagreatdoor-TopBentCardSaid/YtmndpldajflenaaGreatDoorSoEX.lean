/- CONTRACTS of the program's functions, and laws on what they return. No conditions but those in the theorems' heads. -/
import Derived.Test.YtmndpldajflenaaGreatDoorSoMemX
set_option linter.all false
set_option maxHeartbeats 4000000
open Go.Proofs.Tryz renaming prog->TP
open Go.Proofs.Tryz
namespace Go.Proofs.YtmndpldajflenaaGreatDoor
namespace Abs
namespace So
set_option maxRecDepth 4000
theorem yZ(s:SoSeason)(way:List Int)(b:Bool)(hw:way.length<1000000000):PCall TP 56 [s.pv,.slice 1 (way.map intPV) b] (.tuple [s.pv,.int .i64 (bO s way)]):=by
 refine ae (am func56 rfl) rfl ?_;simp only[go_sem,simprocAttr];refine aa (Bm s) rfl ?_;simp only[cd,go_sem,simprocAttr];cases h0:((aD s).2.2 != 0)
 rotate_left
 .have h0':¬(aD s).2.2=0:=by simpa using h0
  simp only[bO,if_neg h0',go_sem,simprocAttr]
 have h0':(aD s).2.2=0:=by simpa using h0
 have h:=soOk_of h0';have hl3:=h.len;have hne:s.stores≠[]:=by intro e;rw[e]at hl3;simp at hl3
 have w1:IntKind.i64.wrap ((s.stores.length:Int)-1)=s.stores.length-1:=aj (by omega) (by omega);simp only[go_sem,simprocAttr];refine aa (tB s hne) rfl ?_;simp only[go_sem,simprocAttr];refine aa (iN 1 (days s) [_] true (by simp)) rfl ?_;simp only[eV,fC,fM,go_sem,simprocAttr];cases h1:an way.length 1 (days s)
 .have hS:bO s way=3:=by rw[bO,if_pos h0',h1];rfl
  simp only[hS,go_sem,simprocAttr]
 have hS:bO s way=if(way.any λi=>!an i 0 ((s.stores.length:Int)-1))=true then 4 else 0:=by rw[bO,if_pos h0',if_pos h1]
 simp only[w1,go_sem,simprocAttr];refine aa (iN 0 ((s.stores.length:Int)-1) way b hw) rfl ?_;simp only[go_sem,simprocAttr];cases h2:(way.any λi=>!an i 0 ((s.stores.length:Int)-1))
 .rw[h2]at hS;simp only[hS,go_sem,simprocAttr]
 .rw[h2]at hS;simp only[hS,go_sem,simprocAttr]
theorem Ny{n:Int}{k:Nat}(h:(!an n 0 ((k:Int)-1))=false):0<=n/\n.toNat<k:=by
 simp[an]at h;omega
structure WayOk (s:SoSeason) (way:List Int):Prop where
 len:1<=way.length/\way.length<=days s
 all:∀i,i∈way->0<=i/\i.toNat<s.stores.length
theorem wayOk_of{s:SoSeason}{way:List Int}(h:bO s way=0):SoOk s/\WayOk s way:=by
 unfold bO at h;split at h
 .rename_i h0;split at h
  .rename_i h1;split at h
   .cases h
   .rename_i h2;refine⟨soOk_of h0,⟨by simp[an]at h1;omega,λi hi=>?_⟩⟩;refine Ny ?_;cases hb:(!an i 0 ((s.stores.length:Int)-1))
    .rfl
    .exact absurd (fL.2 ⟨i,hi,hb⟩) h2
  .cases h
 .rename_i h0;exact absurd h h0
def fB (s:SoSeason):List Int->Nat->List (Nat×Span)
 |[],_=>[]
 |i::l,d=>(d,aF s i.toNat d)::fB s l (d+1)
theorem gX(s:SoSeason):∀(l:List Int) (d:Nat),(fB s l d).length=l.length
 |[],_=>rfl
 |i::l,d=>by rw[fB,du,gX s l,du]
theorem along_at(s:SoSeason):∀(l:List Int) (d k:Nat) (i:Int),l[k]?=some i->(fB s l d)[k]?=some (d+k,aF s i.toNat (d+k:Nat))
 |[],_,k,i,h=>by simp at h
 |j::l,d,0,i,h=>by simp at h;subst h;rfl
 |j::l,d,k+1,i,h=>by
  have:=along_at s l (d+1) k i (by simpa using h);rw[fB,wB,this];rw[show d+1+k=d+(k+1) by omega]
def oO (q:Nat×Span):List PV:=[.int .i64 q.1,q.2.pv]
def lP (s:SoSeason) (way:List Int) (b:Bool):PV:=.func (.func 110) [] [.ptr 1 [.slice 1 (way.map intPV) b] 0 0,.ptr 6 [s.pv] 0 0]
theorem GX(s:SoSeason)(way:List Int)(b:Bool):PCall TP 57 [s.pv,.slice 1 (way.map intPV) b] (lP s way b):=by
 refine cm (am func57 rfl) rfl ?_;simp only[lP,go_sem,simprocAttr]
theorem Gt(s:SoSeason)(way:List Int)(b:Bool)(h:SoOk s)(hw:WayOk s way):Fc TP (lP s way b) 2 ((fB s way 0).map oO):=by
 refine⟨λa ha=>?_,_,_,_,rfl,λid Inv Fin h0 hid hy hi=>?_⟩
 .obtain⟨q,_,rfl⟩:=eK.1 ha;rfl
 have hwl:=hw.len;have hdy:=h.day8;refine dH (am func110 rfl) rfl ?_;simp only[go_sem,simprocAttr]
 refine lU [0,2,6,7] (σ:=Nat×Heap×Heap)
  (λq=>q.1<=way.length/\Inv q.1 q.2.1/\q.2.1.length=h0.length) (λq=>way.length-q.1)
  (λq=>[(8,.p (.int .i64 q.1))]) (λq=>q.2.1++q.2.2) (0,h0,[]) ⟨bE _,hi,rfl⟩ (by simp) ?_ ?_
 .simp only[go_sem,simprocAttr]
 rintro⟨i,lo,mid⟩ ⟨h1,hI,hlo⟩
 dsimp only at h1 hI hlo;rcases yO h1 with he|hlt0
 .have hlt:decide ((i:Int)<(way.length:Int))=false:=by simp;omega
  simp only[hlt,go_sem,simprocAttr];refine⟨lo,mid,rfl,hlo,.inl ?_⟩;rw[gX,<-he];exact hI
 have hlt:decide ((i:Int)<(way.length:Int))=true:=by simp;omega
 have hlt1:(i:Int)<(way.length:Int):=by omega
 have hwn:IntKind.i64.wrap ((i:Int)+1)=((i+1:Nat):Int):=az (by omega) (by simp[ai];omega) (by omega);obtain⟨a,ha⟩:∃a,way[i]?=some a:=⟨_,aT hlt0⟩
 have haw:=hw.all a (aV ha);obtain⟨y,hy2⟩:∃y,s.stores[a.toNat]?=some y:=⟨_,aT haw.2⟩
 have hyl:=h.same y (aV hy2);have hwm:=oA hy2 (d:=(i:Int)) (by omega) (by omega);have hl1:a<(s.stores.length:Int):=by omega
 have hl2:(i:Int)<(y.warm.length:Int):=by omega
 have ht:((i:Int)).toNat=i:=by omega
 rw[ht]at hwm;have hget:((fB s way 0).map oO)[i]?=some (oO (i,aF s a.toNat i)):=by
  rw[bU,along_at s way 0 i a ha,eN];rfl
 have gg:=pW hlo;have ss:=pV hlo;have mg:=iM (lo:=mid) rfl;have ms:=mr (lo:=mid) rfl;simp only[hlt,hlt1,ha,haw.1,hl1,hy2,hl2,hwm,go_sem,simprocAttr];refine Hg (hy i _ lo mid hget hI hlo) (λv h' hr=>?_) (λv h' hr=>?_);rotate_left
 .obtain⟨_,_,_,_,hr⟩:=hr;rcases hr with⟨hr,_⟩|⟨hr,_⟩<;>cases hr
 obtain⟨lo3,ext,rfl,hlo3,hr⟩:=hr;rcases hr with⟨hr,hI3⟩|⟨hr,hF⟩
 .cases hr;simp only[go_sem,simprocAttr];refine g9 (i+1,lo3,mid++ext) ⟨by omega,hI3,hlo3⟩ (by dsimp only;omega) (by simp[bJ]) ?_;simp only[hwn,go_sem,simprocAttr]
 .cases hr;simp only[go_sem,simprocAttr];exact⟨lo3,mid++ext,by simp[bJ],hlo3,.inr hF⟩
theorem It(s:SoSeason)(h0:s.stores≠[]):PCall TP 53 [s.pv] (.int .i64 (days s)):=by
 obtain⟨y,r,hy⟩:=List.exists_cons_of_ne_nil h0;have hy0:s.stores[0]?=some y:=by rw[hy];rfl
 have hd:(y.warm.length:Int)=(days s:Int):=by unfold days;rw[hy]
 have h0l:(0:Int)<(s.stores.length:Int):=by rw[hy,du];omega
 refine ae (am func53 rfl) rfl ?_;simp only[hy0,h0l,hd,go_sem,simprocAttr]
theorem cRefWay(s:SoSeason)(way:List Int)(b:Bool)(h:SoOk s)(hw:way.length<1000000000):PCall TP 10 [s.pv,.slice 1 (way.map intPV) b] (.int .i64 (jh s way)):=by
 have hl3:=h.len;have hne:s.stores≠[]:=by intro e;rw[e]at hl3;simp at hl3
 have w1:IntKind.i64.wrap ((s.stores.length:Int)-1)=s.stores.length-1:=aj (by omega) (by omega);refine ae (am func10 rfl) rfl ?_;simp only[go_sem,simprocAttr];refine aa (It s hne) rfl ?_;simp only[go_sem,simprocAttr];refine aa (kf _ _ _) rfl ?_;simp only[go_sem,simprocAttr];cases h1:an way.length 1 (days s)
 .have hS:jh s way=3:=by rw[jh,h1];rfl
  simp only[hS,go_sem,simprocAttr]
 have hS:jh s way=if(way.any λi=>!an i 0 ((s.stores.length:Int)-1))=true then 4 else 0:=by rw[jh,if_pos h1]
 simp only[go_sem,simprocAttr]
 refine bt [1,2] way hw (τ:=Unit) (λdone rest _=>(way.any λi=>!an i 0 ((s.stores.length:Int)-1))=rest.any λi=>!an i 0 ((s.stores.length:Int)-1)) (λdone _=>[(5,.p (.int .i64 done.length))])
  (λ_ _=>[.row 6 [.p s.pv]]) () rfl ?_ ?_ ?_
 .simp only[go_sem,simprocAttr]<;>simp
 .intro _ e2;rw[e2,fC]at hS;simp only[hS,go_sem,simprocAttr]
 .intro done i r _ e1 e2 hx hlt hnx;rw[eV]at e2;simp only[hlt,hx,w1,go_sem,simprocAttr];refine ao (kf _ _ _) rfl ?_;simp only[go_sem,simprocAttr];cases h2:an i 0 ((s.stores.length:Int)-1)
  .rw[h2,lw,gY]at e2;rw[e2]at hS;simp only[hS,go_sem,simprocAttr]
  .rw[h2,Bool.not_true,gA]at e2;simp only[go_sem,simprocAttr];refine aq e1 () e2 ?_;simp only[hnx,go_sem,simprocAttr]
def cH (s:SoSeason) (way:List Int):List Span:=(fB s way 0).map (·.2)
def u16P (n:Int):PV:=.int .u16 n
attribute [go_sem] u16P
def turnF (l:List Int) (n:Nat):Int:=if l=[] then 0 else l.getD (n%l.length) 0
theorem turnF_B{l:List Int}{n:Nat}{B:Int}(hB:0<=B)(h:∀v,v∈l->0<=v/\v<=B):0<=turnF l n/\turnF l n<=B:=by
 unfold turnF;split
 .omega
 .rename_i hne;have hlt:n%l.length<l.length:=kN _ (wy.2 hne);rw[bB,aT hlt];exact h _ (nk hlt)
theorem rp(s:SoSeason):∀(l:List Int) (d:Nat) (i:Int),fB s (l++[i]) d=fB s l d++[(d+l.length,aF s i.toNat (d+l.length:Nat))]
 |[],d,i=>rfl
 |j::l,d,i=>by
  rw[rO,fB,rp s l (d+1) i,fB,rO,du];rw[show d+1+l.length=d+(l.length+1) by omega]
theorem Fm(s:SoSeason)(l:List Int)(i:Int):cH s (l++[i])=cH s l++[aF s i.toNat (l.length:Nat)]:=by
 unfold cH;rw[rp,kg,eN];rfl
theorem qq(s:SoSeason)(l:List Int):(cH s l).length=l.length:=by simp[cH,gX]
theorem NG(l:List Int)(b:Bool)(n:Nat)(hn:n<1000000000)(hB:∀v,v∈l->0<=v/\v<=65535):PCall TP 55 [.slice 1 (l.map u16P) b,.int .i64 n] (.int .i64 (turnF l n)):=by
 refine ae (am func55 rfl) rfl ?_;simp only[go_sem,simprocAttr];by_cases h0:l=[]
 .subst h0;simp only[go_sem,simprocAttr];rfl
 have hlen:0<l.length:=wy.2 h0;have hz:((l.length:Int)==0)=false:=by simp;omega
 have hm:n%l.length<l.length:=kN _ hlen;have hr:Int.tmod (n:Int) (l.length:Int)=((n%l.length:Nat):Int):=by rw[Int.tmod_eq_emod_of_nonneg (by omega)];omega
 have hlt:((n%l.length:Nat):Int)<(l.length:Int):=by omega
 have hx:l[n%l.length]?=some l[n%l.length]:=aT hm;have hv:=hB _ (nk hm);have w1:IntKind.i64.wrap (l[n%l.length])=l[n%l.length]:=aj (by omega) (by omega);have ht:turnF l n=l[n%l.length]:=by rw[turnF,if_neg h0,bB,hx];rfl
 have hmn:n%l.length<=n:=Nat.mod_le _ _;have w2:IntKind.i64.wrap ((n%l.length:Nat):Int)=((n%l.length:Nat):Int):=aj (by omega) (by omega);rw[ht];have hz':¬((l.length:Int)=0):=by omega
 simp only[hz,hz',hr,hlt,hx,w1,w2,go_sem,simprocAttr]
theorem Nh(s:SoSeason)(way:List Int)(b:Bool)(h:SoOk s)(hw:WayOk s way):eS TP 54 [s.pv,.slice 1 (way.map intPV) b] (.slice 2 ((cH s way).map Span.pv) false):=by
 have hwl:=hw.len;have hdy:=h.day8;refine di (am func54 rfl) rfl ?_;simp only[go_sem,simprocAttr];refine dq 5 2 (by simp only[go_sem,simprocAttr]) ?_;simp only[go_sem,simprocAttr]
 refine bt [1,2] way (by omega) (τ:=Unit) (λ_ _ _=>True) (λdone _=>[(5,.slice 1 done.length 0 done.length),(6,.p (.int .i64 done.length))])
  (λdone _=>[.row 6 [.p s.pv],.row 2 ((cH s done).map λw=>.p w.pv)]) () trivial ?_ ?_ ?_
 .simp only[go_sem,simprocAttr]<;>simp;rfl
 .intro _ _;have hl2:(cH s way).length=way.length:=by simp[cH,gX]
  simp only[hl2,go_sem,simprocAttr];simp[dz,hl2,Span.pv]
 .intro done i r _ e1 _ hx hlt hnx;have hi:=hw.all i (by rw[e1];simp);obtain⟨y,hy⟩:∃y,s.stores[i.toNat]?=some y:=⟨_,aT hi.2⟩
  have hyl:=h.same y (aV hy);have hdl:done.length<way.length:=by omega
  have hwm:=oA hy (d:=(done.length:Int)) (by omega) (by omega);have ht:((done.length:Int)).toNat=done.length:=by omega
  rw[ht]at hwm;have i1:i<(s.stores.length:Int):=by omega
  have i2:(done.length:Int)<(y.warm.length:Int):=by omega
  have hl2:(cH s done).length=done.length:=by simp[cH,gX]
  have hrm:done.length+1<=ai:=by simp[ai];omega
  have hwn:=Fm s done i;simp only[hlt,hx,hi.1,i1,hy,i2,hwm,hl2,hrm,go_sem,simprocAttr];refine aq e1 () trivial ?_;simp only[hnx,hwn,hl2,ay,aC,kg,go_sem,simprocAttr]
def fe (s:SoSeason) (way y:List Int):List Int:=(fB s way 0).map λq=>q.2.lo+(turnF y q.1).tmod (q.2.hi-q.2.lo+1)
theorem DM(s:SoSeason)(l y:List Int)(i:Int):fe s (l++[i]) y=fe s l y++[(aF s i.toNat (l.length:Nat)).lo+(turnF y l.length).tmod ((aF s i.toNat (l.length:Nat)).hi-(aF s i.toNat (l.length:Nat)).lo+1)]:=by
 unfold fe;rw[rp,kg,eN];rfl
theorem truth_len(s:SoSeason)(l y:List Int):(fe s l y).length=l.length:=by simp[fe,gX]
theorem CT{s:SoSeason}{way:List Int}{d:Nat}{i:Int}(h:way[d]?=some i):(cH s way)[d]?=some (aF s i.toNat (d:Nat)):=by
 unfold cH;rw[bU,along_at s way 0 d i h,eN];rfl
theorem nTruth(s:SoSeason)(way y:List Int)(b c:Bool)(h:SoOk s)(hw:WayOk s way)(hyB:∀v,v∈y->0<=v/\v<=65535) :
  eS TP 11 [s.pv,.slice 1 (way.map intPV) b,.slice 1 (y.map u16P) c] (.slice 1 ((fe s way y).map intPV) false):=by
 have hwl:=hw.len;have hdy:=h.day8;have hwl2:=qq s way;refine di (am func11 rfl) rfl ?_;simp only[go_sem,simprocAttr];refine aa (Nh s way b h hw).pure rfl ?_;simp only[go_sem,simprocAttr];refine dq 8 1 (by simp only[go_sem,simprocAttr]) ?_;simp only[go_sem,simprocAttr]
 refine bt [2,7] way (by omega) (τ:=Unit) (λ_ _ _=>True) (λdone _=>[(8,.slice 1 done.length 0 done.length),(9,.p (.int .i64 done.length))])
  (λdone _=>[.row 6 [.p s.pv],.row 1 ((fe s done y).map λw=>.p (intPV w))]) () trivial ?_ ?_ ?_
 .simp only[go_sem,simprocAttr]<;>simp;rfl
 .intro _ _;have hl2:=truth_len s way y;simp only[hwl2,hl2,go_sem,simprocAttr];have e:=fg 7 [AObj.row 6 [.p s.pv],AObj.row 1 ((fe s way y).map λw=>.p (intPV w))] intPV (λ_=>rfl) (fe s way y);simp only[intPV,SoSeason.pv,SoSeason.cells]at e;simp[dz,hl2,intPV,e]
 .intro done i r _ e1 _ hx hlt hnx;have hi:=hw.all i (by rw[e1];simp);have hdl:done.length<way.length:=by omega
  have hwx:=CT (s:=s) hx;have hwo:=warmAt_ok h hi.2 (d:=(done.length:Int)) (by omega) (by omega);generalize hW:aF s i.toNat (done.length:Nat)=W at hwx hwo;have hl2:=truth_len s done y;have hrm:done.length+1<=ai:=by simp[ai];omega
  have htB:=turnF_B (l:=y) (n:=done.length) (B:=65535) (by decide) hyB;have w1:IntKind.i64.wrap (W.hi-W.lo)=W.hi-W.lo:=aj (by omega) (by omega);have w2:IntKind.i64.wrap (W.hi-W.lo+1)=W.hi-W.lo+1:=aj (by omega) (by omega);have hz:¬(W.hi-W.lo+1=0):=by omega
  have hm0:0<=(turnF y done.length).tmod (W.hi-W.lo+1):=Int.tmod_nonneg _ htB.1;have hm1:(turnF y done.length).tmod (W.hi-W.lo+1)<W.hi-W.lo+1:=Int.tmod_lt_of_pos _ (by omega);have w3:IntKind.i64.wrap ((turnF y done.length).tmod (W.hi-W.lo+1))=(turnF y done.length).tmod (W.hi-W.lo+1):=aj (by omega) (by omega);have w4:IntKind.i64.wrap (W.lo+(turnF y done.length).tmod (W.hi-W.lo+1))=W.lo+(turnF y done.length).tmod (W.hi-W.lo+1):=aj (by omega) (by omega);have htn:=DM s done y i;rw[hW]at htn;simp only[hwl2,hlt,hwx,go_sem,simprocAttr];refine ao (NG y c done.length (by omega) hyB) rfl ?_;simp only[hwl2,hlt,hwx,w1,w2,w3,w4,hz,hl2,hrm,go_sem,simprocAttr];refine aq e1 () trivial ?_;simp only[hnx,htn,hl2,ay,aC,kg,go_sem,simprocAttr]
theorem WDB_call{P:Program}{H:Hints}{ops:Array Oper}{rest:List Oper}{Q:Cont}{o:Oper}{A:AAct}{f:FuncId}{args:List AV}{R:AEnd->Heap->Prop}(hc:aN P f args A.h R)
  (h1:∀v h,R (.ret v) h->@WD ⟨P,H,ops,rest,Q⟩ (A.put o.dst v h).h (A.put o.dst v h)) (h2:∀v h,R (.panic v) h->False):@Hl ⟨P,H,ops,rest,Q,o⟩ A (.call f args):=
 hc.mono λr h hr=>by
  cases r with
  |ret v=>exact h1 v h hr
  |panic v=>exact(h2 v h hr).elim
def oV (v:AV) (n:Int):Prop:=v=.p (.int .i64 n)\/v=.p (.agg [.int .i64 n])
theorem NA(h:Heap)(id:Nat)(v:AV)(n:Int)(c:SoCandle)(ws:List Int)(w:Int)(b:Bool)(hid:h[id]?=some (.row 1 [v]))(hv:oV v n)(hn:0<=n/\n<=1000)(hl:ws.length<1000) :
  aN TP 451 [.ptr id 1 0 0,.p c.pv,.p (.slice 1 ((ws++[w]).map intPV) b)] h (λr h'=>r=.ret (.p (.bool (b7 c n w==c.days)))/\h'=h.set id (.row 1 [.p (.int .i64 (b7 c n w))])++[.row 4 [.p c.pv]]):=by
 have w1:IntKind.i64.wrap (n+1)=n+1:=aj (by omega) (by omega);have hidl:=(aA.1 hid).1;have gi:∀t,(h++t)[id]?=some (.row 1 [v]):=λt=>by rw[br hidl];exact hid
 have si:∀t x,(h++t).set id x=h.set id x++t:=λt x=>kO _ _ hidl;have gi2:∀x t,(h.set id x++t)[id]?=some x:=λx t=>by rw[br (by simpa using hidl)];exact fp hidl
 have si2:∀x t y,(h.set id x++t).set id y=h.set id y++t:=λx t y=>by rw[kO _ _ (by simpa using hidl),List.set_set]
 have g0:=iM (lo:=h) rfl;have g02:∀x,∀t,(h.set id x++t)[h.length]?=t[0]?:=λx=>iM (lo:=h.set id x) (by simp);have hwx:(ws++[w])[ws.length]?=some w:=by simp
 have hlen:(((ws++[w]).length:Nat):Int)=ws.length+1:=by simp
 have w2:IntKind.i64.wrap ((ws.length:Int)+1-1)=ws.length:=aj (by omega) (by omega) |>.trans (by omega);have i1:(ws.length:Int)<(ws.length:Int)+1:=by omega
 generalize hW:ws++[w]=W at hwx hlen |-;refine dH (am func451 rfl) rfl ?_;rcases hv with rfl|rfl<;>simp only[bJ,ay,aC,gi,si,gi2,si2,g0,g02,w1,w2,hwx,hlen,i1,go_sem,simprocAttr]
 all_goals
  cases hb:decide (w<c.bend)
  .have hs:b7 c n w=n+1:=by rw[b7,if_neg (by simpa using hb)]
   simp only[bJ,ay,aC,gi,si,gi2,si2,g0,g02,w1,w2,hwx,hlen,i1,hs,go_sem,simprocAttr]
  .have hs:b7 c n w=0:=by rw[b7,if_pos (by simpa using hb)]
   simp only[bJ,ay,aC,gi,si,gi2,si2,g0,g02,w1,w2,hwx,hlen,i1,hs,go_sem,simprocAttr]
def nS (c:SoCandle) (last:Option Int) (w:Int):Bool:=match last with|some b=>fG c b w|none=>false
def fx (c:SoCandle) (n:Int) (last:Option Int) (w:Int):Int:=if nS c last w=true then n+1 else n
theorem L2(h:Heap)(id:Nat)(v:AV)(n:Int)(c:SoCandle)(ws:List Int)(w:Int)(b:Bool)(hid:h[id]?=some (.row 1 [v]))(hv:oV v n)(hn:0<=n/\n<=1000)(hl:ws.length<1000)(hB:∀x,x∈ws++[w]->0<=x/\x<=1000) :
  aN TP 452 [.ptr id 1 0 0,.p c.pv,.p (.slice 1 ((ws++[w]).map intPV) b)] h (λr h'=>r=.ret (.p (.bool (nS c ws.getLast? w&&fx c n ws.getLast? w==c.times)))/\∃u,oV u (fx c n ws.getLast? w)/\h'=h.set id (.row 1 [u])++[.row 4 [.p c.pv]]):=by
 have w1:IntKind.i64.wrap (n+1)=n+1:=aj (by omega) (by omega);have hidl:=(aA.1 hid).1;have gi:∀t,(h++t)[id]?=some (.row 1 [v]):=λt=>by rw[br hidl];exact hid
 have si:∀t x,(h++t).set id x=h.set id x++t:=λt x=>kO _ _ hidl;have gi2:∀x t,(h.set id x++t)[id]?=some x:=λx t=>by rw[br (by simpa using hidl)];exact fp hidl
 have si2:∀x t y,(h.set id x++t).set id y=h.set id y++t:=λx t y=>by rw[kO _ _ (by simpa using hidl),List.set_set]
 have same:h.set id (.row 1 [v])=h:=zW hid;have g0:=iM (lo:=h) rfl;have g02:∀x,∀t,(h.set id x++t)[h.length]?=t[0]?:=λx=>iM (lo:=h.set id x) (by simp);have hwB:=hB w (by simp);have still:∀m,m=n->∃u,oV u m/\h++[.row 4 [.p c.pv]]=h.set id (.row 1 [u])++[.row 4 [.p c.pv]]:=λm hm=>⟨v,by rw[hm];exact hv,by rw[same]⟩
 rcases zy ws with rfl|⟨vs,x,rfl⟩
 .have hj0:fx c n ([]:List Int).getLast? w=n:=rfl;have hi0:nS c ([]:List Int).getLast? w=false:=rfl;rw[hj0,hi0];refine dH (am func452 rfl) rfl ?_;have:=still n rfl;simp only[bJ,ay,aC,gi,si,gi2,g0,g02,w1,go_sem,simprocAttr];simpa using this
 .have hgl:(vs++[x]).getLast?=some x:=by simp
  have hx1:(vs++[x]++[w])[vs.length]?=some x:=by simp
  have hx2:(vs++[x]++[w])[vs.length+1]?=some w:=by simp
  have hlen:(((vs++[x]++[w]).length:Nat):Int)=(vs.length:Int)+2:=by rw[ay,ay];simp;omega
  have hvl:vs.length<1000:=by simp at hl;omega
  have w3:IntKind.i64.wrap ((vs.length:Int)+2-1)=((vs.length+1:Nat):Int):=(aj (by omega) (by omega)).trans (by omega);have w4:IntKind.i64.wrap (((vs.length+1:Nat):Int)-1)=(vs.length:Int):=(aj (by omega) (by omega)).trans (by omega);have hne:(((vs.length+1:Nat):Int)==0)=false:=by simp;omega
  have i1:(vs.length:Int)<(vs.length:Int)+2:=by omega
  have i2:((vs.length+1:Nat):Int)<(vs.length:Int)+2:=by omega
  have i0:(0:Int)<=((vs.length+1:Nat):Int):=by omega
  have hvB:=hB x (by simp);have hjd:nS c (some x) w=fG c x w:=rfl;simp only[DD]at hl hB |-;rw[hgl,hjd];have hjs:fx c n (some x) w=if fG c x w=true then n+1 else n:=rfl
  rw[hjs];generalize hW:vs++[x]++[w]=W at hx1 hx2 hlen |-;generalize hL:vs.length+1=L at hx2 w3 w4 hne i2 i0;have ht:((L:Nat):Int).toNat=L:=by omega
  refine dH (am func452 rfl) rfl ?_;simp only[bJ,ay,aC,gi,si,gi2,g0,g02,w1,w3,w4,hx1,hx2,hlen,hne,i0,i1,i2,ht,go_sem,simprocAttr];refine ao (tA c x w hvB hwB) rfl ?_;simp only[go_sem,simprocAttr];cases hj:fG c x w
  .have:=still n rfl;simp only[bJ,ay,aC,gi,si,gi2,si2,g0,g02,w1,w3,w4,hx1,hx2,hlen,hne,i0,i1,i2,ht,go_sem,simprocAttr];simpa using this
  .rcases hv with rfl|rfl<;>simp only[bJ,ay,aC,gi,si,gi2,si2,g0,g02,w1,w3,w4,hx1,hx2,hlen,hne,i0,i1,i2,ht,go_sem,simprocAttr]
   .exact⟨_,.inl rfl,rfl⟩
   .exact⟨_,.inl rfl,rfl⟩
end So
end Abs
end Go.Proofs.YtmndpldajflenaaGreatDoor
