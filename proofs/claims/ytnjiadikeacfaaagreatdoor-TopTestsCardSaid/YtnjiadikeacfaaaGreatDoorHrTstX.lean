/- CONTRACTS of the program's functions, and laws on what they return. No conditions but those in the theorems' heads. -/
import Derived.Test.YtnjiadikeacfaaaGreatDoorWxMixX
set_option linter.all false
open Go.Proofs.Tryz renaming prog->TP
namespace Go.Proofs.YtnjiadikeacfaaaGreatDoor
namespace Abs
set_option maxRecDepth 4000
def fC (m:HrMark):Bool:=al m.minute 0 1000000&&al m.weight 0 10000000
def eM:Int->List HrMark->Bool
 |_,[]=>false
 |last,m::r=>decide (m.minute<=last)||eM m.minute r
def aO (nk:Int) (t:HrTest):Int:=
 if al t.kind 0 (nk-1)=true then
  if al t.marks.length 2 10=true then
   if al t.error 0 10000=true then
    if t.marks.all fC=true then(if eM (-1) t.marks=true then 2 else 0) else 7
   else 7
  else 3
 else 4
theorem CF(s:HrShop)(t)(hs:s.kinds.length<=1000):af TP 85 [s.pv,t.pv] (.int .i64 (aO s.kinds.length t)):=by
 refine aa (ah Tryz.func85 rfl (by kernel_rfl)) rfl ?_;have hw:IntKind.i64.wrap ((s.kinds.length:Int)-1)=(s.kinds.length:Int)-1:=am (by omega) (by omega);simp only[hw,go_sem,simprocAttr];refine ae (fI 0 _ [_] true (by simp)) rfl ?_;simp only[bF,bp,cl,go_sem,simprocAttr];cases h1:al t.kind 0 ((s.kinds.length:Int)-1)
 .simp only[aO,h1,go_sem,simprocAttr]
 simp only[go_sem,simprocAttr];refine ae (fI 2 10 [_] true (by simp)) rfl ?_;simp only[bF,bp,cl,go_sem,simprocAttr];cases h2:al t.marks.length 2 10
 .simp only[aO,h1,h2,go_sem,simprocAttr]
 simp only[go_sem,simprocAttr];refine ae (fI 0 10000 [_] true (by simp)) rfl ?_;simp only[bF,bp,cl,go_sem,simprocAttr];cases h3:al t.error 0 10000
 .simp only[aO,h1,h2,h3,go_sem,simprocAttr]
 have hspec:aO s.kinds.length t=if t.marks.all fC=true then(if eM (-1) t.marks=true then 2 else 0) else 7:=by simp only[aO,h1,h2,h3,if_true]
 rw[hspec];have hlm:t.marks.length<=10:=by simp[al]at h2;omega
 simp only[go_sem,simprocAttr]
 refine bm [30,31] t.marks (by omega) (τ:=Int×Bool) (λdone rest q=>t.marks.all fC=rest.all fC/\eM (-1) t.marks=(q.2||eM q.1 rest))
  (λdone q=>[(32,.p (.int .i64 done.length)),(5,.p (.int .i64 q.1)),(6,.p (.bool q.2))]) (λ_ _=>[.row 3 [.p s.pv],.row 3 [.p t.pv]]) (-1,false) ⟨rfl,by simp⟩ ?_ ?_ ?_
 .simp only[go_sem,simprocAttr]<;>simp
 .rintro⟨last,falls⟩ ⟨e2,e3⟩
  dsimp only at e2 e3;rw[e2,e3];cases falls
  .simp only[AL,eM,go_sem,simprocAttr]
  .simp only[AL,eM,go_sem,simprocAttr]
 .rintro done x r ⟨last,falls⟩ e1 ⟨e2,e3⟩ hx hlt hnx
  dsimp only at e2 e3;rw[List.all_cons]at e2;simp only[hlt,hx,go_sem,simprocAttr];refine ae (fI 0 1000000 [_] true (by simp)) rfl ?_;simp only[bF,bp,cl,go_sem,simprocAttr];cases h4:al x.minute 0 1000000
  .rw[e2,fC,h4];simp only[go_sem,simprocAttr]
  simp only[go_sem,simprocAttr];refine ae (fI 0 10000000 [_] true (by simp)) rfl ?_;simp only[bF,bp,cl,go_sem,simprocAttr];cases h5:al x.weight 0 10000000
  .rw[e2,fC,h4,h5];simp only[go_sem,simprocAttr]
  have hm:fC x=true:=by rw[fC,h4,h5];rfl
  cases falls
  .simp only[go_sem,simprocAttr];refine aE e1 (x.minute,decide (x.minute<=last)) ⟨by rw[e2,hm];rfl,by rw[e3,eM];rfl⟩ ?_;simp only[hnx,go_sem,simprocAttr]
  .simp only[go_sem,simprocAttr];refine aE e1 (x.minute,true) ⟨by rw[e2,hm];rfl,by rw[e3];rfl⟩ ?_;simp only[hnx,go_sem,simprocAttr]
def bW (nk:Int):List HrTest->Int
 |[]=>0
 |t::r=>if aO nk t=0 then bW nk r else aO nk t
def bn (s:HrShop) (l:List HrTest):Int:=if(hrCheck s).2.2=0 then bW s.kinds.length l else(hrCheck s).2.2
theorem gU{s}(h:(hrCheck s).2.2=0):s.kinds.length<=6/\s.rules.length<=6/\1<=s.kinds.length:=by
 unfold hrCheck at h;split at h
 .rename_i hc;simp[al]at hc;omega
 .cases h
theorem kq(s)(l)(b)(hl:(hrCheck s).2.2=0->l.length<1000000000):af TP 41 [s.pv,.slice 3 (l.map HrTest.pv) b] (.int .i64 (bn s l)):=by
 refine aa (ah Tryz.func41 rfl (by kernel_rfl)) rfl ?_;simp only[go_sem,simprocAttr];refine ae (FF s) rfl ?_;simp only[aj,go_sem,simprocAttr];cases h0:((hrCheck s).2.2 != 0)
 rotate_left
 .have h0':¬(hrCheck s).2.2=0:=by simpa using h0
  simp only[bn,if_neg h0',go_sem,simprocAttr]
 have h0':(hrCheck s).2.2=0:=by simpa using h0
 have hk:=(gU h0').1;rw[bn,if_pos h0'];simp only[go_sem,simprocAttr]
 refine bm [2,20,21] l (hl h0') (τ:=Unit) (λdone rest _=>bW s.kinds.length l=bW s.kinds.length rest)
  (λdone _=>[(22,.p (.int .i64 done.length))]) (λ_ _=>[.row 3 [.p s.pv]]) () rfl ?_ ?_ ?_
 .simp only[go_sem,simprocAttr]<;>simp
 .intro _ e2;rw[e2];simp only[bW,go_sem,simprocAttr]
 .intro done x r _ e1 e2 hx hlt hnx;rw[bW]at e2;simp only[hlt,hx,go_sem,simprocAttr];refine ae (CF s x (by omega)) rfl ?_;simp only[go_sem,simprocAttr];cases h1:(aO s.kinds.length x != 0)
  .have h1':aO s.kinds.length x=0:=by simpa using h1
   simp only[go_sem,simprocAttr];refine aE e1 () (by rw[e2,if_pos h1']) ?_;simp only[hnx,go_sem,simprocAttr]
  .have h1':¬aO s.kinds.length x=0:=by simpa using h1
   simp only[e2,if_neg h1',go_sem,simprocAttr]
theorem GU{m}{r}(h:fC m=true):eM (-1) (m::r)=eM m.minute r:=by
 have:¬m.minute<=-1:=by simp[fC,al]at h;omega
 simp[eM,this]
theorem JW(s:HrShop)(t)(hs:s.kinds.length<=1000):af TP 18 [s.pv,t.pv] (.int .i64 (aO s.kinds.length t)):=by
 refine aa (ah Tryz.func18 rfl (by kernel_rfl)) rfl ?_;have hw:IntKind.i64.wrap ((s.kinds.length:Int)-1)=(s.kinds.length:Int)-1:=am (by omega) (by omega);simp only[hw,go_sem,simprocAttr];refine ae (wa _ _ _) rfl ?_;simp only[go_sem,simprocAttr];cases h1:al t.kind 0 ((s.kinds.length:Int)-1)
 .simp only[aO,h1,go_sem,simprocAttr]
 simp only[go_sem,simprocAttr];refine ae (wa _ _ _) rfl ?_;simp only[go_sem,simprocAttr];cases h2:al t.marks.length 2 10
 .simp only[aO,h1,h2,go_sem,simprocAttr]
 simp only[go_sem,simprocAttr];refine ae (wa _ _ _) rfl ?_;simp only[go_sem,simprocAttr];cases h3:al t.error 0 10000
 .simp only[aO,h1,h2,h3,go_sem,simprocAttr]
 have hspec:aO s.kinds.length t=if t.marks.all fC=true then(if eM (-1) t.marks=true then 2 else 0) else 7:=by simp only[aO,h1,h2,h3,if_true]
 rw[hspec];have hlm:t.marks.length<=10:=by simp[al]at h2;omega
 have hlm2:2<=t.marks.length:=by simp[al]at h2;omega
 simp only[go_sem,simprocAttr]
 refine bm [3] t.marks (by omega) (τ:=Unit) (λdone rest _=>t.marks.all fC=rest.all fC)
  (λdone _=>[(5,.p (.int .i64 done.length))]) (λ_ _=>[.row 3 [.p s.pv],.row 3 [.p t.pv]]) () rfl ?_ ?_ ?_
 .simp only[go_sem,simprocAttr]<;>simp
 .intro _ e2;rw[e2,AL,if_pos rfl];simp only[go_sem,simprocAttr]
  cases hm:t.marks with
  |nil=>rw[hm]at hlm2;simp at hlm2
  |cons m0 ms=>
   have hm0:fC m0=true:=by rw[hm,AL,List.all_cons]at e2;simp at e2;exact e2.1
   rw[GU hm0]
   refine fp [3] (σ:=List HrMark×HrMark×List HrMark) (λq=>t.marks=q.1++q.2.1::q.2.2/\eM m0.minute ms=eM q.2.1.minute q.2.2) (λq=>q.2.2.length)
    (λq=>[(6,.p (.int .i64 (q.1.length+1:Nat)))]) (λ_=>[.row 3 [.p s.pv],.row 3 [.p t.pv]]) ([],m0,ms) ⟨hm,rfl⟩ ?_ ?_
   .simp only[<-hm,go_sem,simprocAttr]<;>simp
   rintro⟨done,m,r⟩ ⟨e3,e4⟩
   dsimp only at e3 e4;have hlen:=congrArg List.length e3;simp only[aK,cc]at hlen
   cases r with
   |nil=>
    have hlt:decide (((done.length+1:Nat):Int)<(t.marks.length:Int))=false:=by simp at hlen |-;omega
    rw[e4,eM]
    simp only[<-hm,hlt,go_sem,simprocAttr]
   |cons x r=>
    simp only[cc]at hlen;have hlt:decide (((done.length+1:Nat):Int)<(t.marks.length:Int))=true:=by simp;omega
    have hlt1:((done.length+1:Nat):Int)<(t.marks.length:Int):=by omega
    have hlt2:((done.length:Nat):Int)<(t.marks.length:Int):=by omega
    have hw1:IntKind.i64.wrap (((done.length+1:Nat):Int)-1)=((done.length:Nat):Int):=by rw[am (by omega) (by omega)];omega
    have hx1:t.marks[done.length+1]?=some x:=by rw[e3];simp
    have hx2:t.marks[done.length]?=some m:=by rw[e3];simp
    have hnx:IntKind.i64.wrap (((done.length+1:Nat):Int)+1)=(((done++[m]).length+1:Nat):Int):=be (by omega) (by simp[ar];omega) (by simp);rw[eM]at e4;simp only[<-hm,hlt,hlt1,hlt2,hw1,hx1,hx2,go_sem,simprocAttr];cases h6:decide (x.minute<=m.minute)
    .simp only[go_sem,simprocAttr];refine bY (done++[m],x,r) ⟨by rw[e3];simp,by rw[e4,h6];rfl⟩ (gh _) ?_;simp only[hnx,go_sem,simprocAttr]
    .rw[e4,h6];simp only[go_sem,simprocAttr]
 .intro done x r _ e1 e2 hx hlt hnx;rw[List.all_cons]at e2;simp only[hlt,hx,go_sem,simprocAttr];refine ae (wa _ _ _) rfl ?_;simp only[go_sem,simprocAttr];cases h4:al x.minute 0 1000000
  .rw[e2,fC,h4];simp only[go_sem,simprocAttr]
  simp only[hlt,hx,go_sem,simprocAttr];refine ae (wa _ _ _) rfl ?_;simp only[go_sem,simprocAttr];cases h5:al x.weight 0 10000000
  .rw[e2,fC,h4,h5];simp only[go_sem,simprocAttr]
  have hm:fC x=true:=by rw[fC,h4,h5];rfl
  simp only[go_sem,simprocAttr];refine aE e1 () (by rw[e2,hm];rfl) ?_;simp only[hnx,go_sem,simprocAttr]
def bg (s:HrShop) (l:List HrTest):Int:=if(hrCheck s).2.2=0 then(if 8<l.length then 3 else bW s.kinds.length l) else(hrCheck s).2.2
theorem Mq(s:HrShop)(l:List HrTest)(b:Bool):af TP 5 [s.pv,.slice 3 (l.map HrTest.pv) b] (.int .i64 (bg s l)):=by
 refine aa (ah Tryz.func5 rfl (by kernel_rfl)) rfl ?_;simp only[go_sem,simprocAttr];refine ae (xO s) rfl ?_;simp only[aj,go_sem,simprocAttr];have fin:∀e:Int,(hrCheck s).2.2=e->e≠0->bg s l=e:=by
  intro e he hne;rw[bg,he,if_neg hne]
 cases h0:((hrCheck s).2.2==0)
 .have h0':(hrCheck s).2.2≠0:=by simpa using h0
  rw[fin _ rfl h0'];simp only[go_sem,simprocAttr];refine aU ?_;cases hl:decide ((0:Int)<(l.length:Int))
  .simp only[hl,go_sem,simprocAttr]
  .simp only[hl,h0,go_sem,simprocAttr]
 have h0':(hrCheck s).2.2=0:=by simpa using h0
 have hk:=(gU h0').1;have hspec:bg s l=(if 8<l.length then 3 else bW s.kinds.length l):=by rw[bg,if_pos h0']
 simp only[go_sem,simprocAttr];cases h8:decide ((8:Int)<(l.length:Int));rotate_left
 .have h8':8<l.length:=by simp at h8;omega
  rw[hspec,if_pos h8'];simp only[go_sem,simprocAttr];refine aU ?_;cases hl:decide ((0:Int)<(l.length:Int))
  .simp only[hl,go_sem,simprocAttr]
  .simp only[hl,go_sem,simprocAttr]
 have h8':¬8<l.length:=by simp at h8;omega
 rw[hspec,if_neg h8'];simp only[h0',go_sem,simprocAttr]
 refine fp [1,2] (σ:=List HrTest×List HrTest×Int) (λq=>l=q.1++q.2.1/\bW s.kinds.length l=(if q.2.2=0 then bW s.kinds.length q.2.1 else q.2.2)) (λq=>q.2.1.length)
  (λq=>[(7,.p (.int .i64 q.2.2)),(8,.p (.int .i64 q.1.length))]) (λ_=>[.row 3 [.p s.pv]]) ([],l,0) ⟨rfl,by simp⟩ ?_ ?_
 .simp only[go_sem,simprocAttr]<;>simp
 rintro⟨done,rest,e⟩ ⟨e1,e2⟩
 dsimp only at e1 e2
 cases rest with
 |nil=>
  have hlt:¬((done.length:Int)<(l.length:Int)):=by rw[e1];simp
  have he:bW s.kinds.length l=e:=by
   rw[e2];split
   .rename_i h;rw[h];rfl
   .rfl
  simp only[hlt,decide_false,he,go_sem,simprocAttr]
 |cons x r=>
  obtain⟨hx,hlt⟩:=dZ e1;have hnx:IntKind.i64.wrap ((done.length:Int)+1)=(((done++[x]).length:Nat):Int):=be (by omega) (by have:=congrArg List.length e1;simp at this;simp[ar];omega) (by simp);cases he:(e==0)
  .have he':¬e=0:=by simpa using he
   rw[if_neg he']at e2;simp only[hlt,decide_true,he,e2,go_sem,simprocAttr]
  .have he':e=0:=by simpa using he
   rw[if_pos he',bW]at e2;simp only[hlt,decide_true,he,hx,go_sem,simprocAttr];refine ay (JW s x (by omega)) rfl ?_;simp only[go_sem,simprocAttr];refine bY (done++[x],r,aO s.kinds.length x) ⟨by simp[e1],by rw[e2]⟩ (gh _) ?_;simp only[hnx,go_sem,simprocAttr]
structure Frac where
 top:Int
 below:Int
 deriving DecidableEq
def Frac.pv (f:Frac):PV:=.agg [.int .i64 f.top,.int .i64 f.below]
attribute [go_sem] Frac.pv
def Frac.B (f:Frac):Prop:=-1000000000<=f.top/\f.top<=1000000000/\0<=f.below/\f.below<=1000000000
def Frac.lt (f g:Frac):Bool:=decide (f.top*g.below<g.top*f.below)
def Frac.down (f:Frac):Int:=f.top / f.below
def Frac.up (f:Frac):Int:=-(-f.top / f.below)
theorem Jo{a b}(h1:-1000000000<=a)(h2:a<=1000000000)(h3:0<=b)(h4:b<=1000000000):-1000000000000000000<=a*b/\a*b<=1000000000000000000:=by
 have e1:a*b<=1000000000*b:=tr h2 h3;have e2:-1000000000*b<=a*b:=tr h1 h3;omega
theorem uy(f g:Frac)(hf:f.B)(hg:g.B):af TP 101 [f.pv,g.pv] (.bool (f.lt g)):=by
 refine aa (ah Tryz.func101 rfl (by kernel_rfl)) rfl ?_;have h1:=Jo hf.1 hf.2.1 hg.2.2.1 hg.2.2.2;have h2:=Jo hg.1 hg.2.1 hf.2.2.1 hf.2.2.2;have e1:IntKind.i64.wrap (f.top*g.below)=f.top*g.below:=am (by omega) (by omega);have e2:IntKind.i64.wrap (g.top*f.below)=g.top*f.below:=am (by omega) (by omega);simp only[e1,e2,Frac.lt,go_sem,simprocAttr]
theorem tD(a b:Int)(hb:0<b):a / b=if a.tmod b<0 then a.tdiv b-1 else a.tdiv b:=by
 have h1:=Int.tdiv_eq_ediv (a:=a) (b:=b);have h2:=Int.tmod_eq_emod (a:=a) (b:=b);have h3:=Int.emod_nonneg a (Int.ne_of_gt hb);have h4:=Int.emod_lt_of_pos a hb;have h5:b.sign=1:=Int.sign_eq_one_of_pos hb;have h6:(b.natAbs:Int)=b:=Int.natAbs_of_nonneg (Ds hb);rw[h5]at h1;by_cases hc:0<=a\/b ∣ a
 .rw[if_pos hc]at h1 h2;rw[if_neg (by omega)];omega
 .rw[if_neg hc]at h1 h2;rw[if_pos (by omega)];omega
theorem Ai{a b B}(hb:0<b)(h1:-B<=a)(h2:a<=B)(hB:0<=B):-B<=a / b/\a / b<=B:=by
 refine⟨?_,?_⟩
 .have:-B*b<=a:=by
   have:B*1<=B*b:=tk (by omega) hB;have e:-B*b=-(B*b):=by rw[za]
   omega
  exact(wx hb).2 this
 .rcases IF 0 a with h|h
  .exact wA (Int.ediv_le_self b h) h2
  .have:a / b<=0:=by
    have:=DP hb h;simpa using this
   omega
theorem kH(f:Frac)(hb:0<f.below)(h1:-1000000000000000000<=f.top)(h2:f.top<=1000000000000000000):af TP 70 [f.pv] (.int .i64 f.down):=by
 refine aa (ah Tryz.func70 rfl (by kernel_rfl)) rfl ?_;have hb0:¬f.below=0:=by omega
 have hr:=Ai hb h1 h2 (by omega);have hd:=tD f.top f.below hb;have e1:IntKind.i64.wrap (f.top.tdiv f.below)=f.top.tdiv f.below:=by
  split at hd
  .exact am (by omega) (by omega)
  .exact am (by omega) (by omega)
 simp only[hb0,e1,Frac.down,go_sem,simprocAttr];cases hm:decide (f.top.tmod f.below<0)
 .rw[if_neg (by simpa using hm)]at hd;simp only[hd,go_sem,simprocAttr]
 .rw[if_pos (by simpa using hm)]at hd;have e2:IntKind.i64.wrap (f.top.tdiv f.below-1)=f.top.tdiv f.below-1:=am (by omega) (by omega);simp only[hd,e2,go_sem,simprocAttr]
theorem Ua(f:Frac)(hb:0<f.below)(h1:-1000000000000000000<=f.top)(h2:f.top<=1000000000000000000):af TP 71 [f.pv] (.int .i64 f.up):=by
 refine aa (ah Tryz.func71 rfl (by kernel_rfl)) rfl ?_;have e1:IntKind.i64.wrap (-f.top)=-f.top:=am (by omega) (by omega);have hr:=Ai (a:=-f.top) (B:=1000000000000000000) hb (by omega) (by omega) (by omega);have e2:IntKind.i64.wrap (-(-f.top / f.below))=-(-f.top / f.below):=am (by omega) (by omega);simp only[e1,go_sem,simprocAttr];refine ae (kH ⟨-f.top,f.below⟩ hb (by show -1000000000000000000<=-f.top;omega) (by show -f.top<=1000000000000000000;omega)) rfl ?_;simp only[Frac.down,e2,Frac.up,go_sem,simprocAttr]
def i6 (lo least:Frac):Frac:=if(decide (lo=⟨0,0⟩)||lo.lt least)=true then least else lo
def i7 (hi most:Frac):Frac:=if(decide (hi=⟨0,0⟩)||most.lt hi)=true then most else hi
theorem wZ(f:Frac):((f.top==0)&&(f.below==0))=decide (f=⟨0,0⟩):=by
 cases f with
 |mk a b=>rw[tj];simp
theorem VH(lo hi least most)(i j)(h)(hi0:h[i]?=some (.row 2 [.p lo.pv]))(hj0:h[j]?=some (.row 2 [.p hi.pv]))(hij:i≠j)(b1:lo.B)(b2:hi.B)(b3:least.B)(b4:most.B) :
  aB TP 100 [.p least.pv,.p most.pv,.ptr i 1 0 0,.ptr j 1 0 0] h (λr h'=>r=.ret (.p (.tuple [])) /\
   h'=(h.set i (.row 2 [.p (i6 lo least).pv])).set j (.row 2 [.p (i7 hi most).pv])++[.row 2 [.p least.pv],.row 2 [.p most.pv]]):=by
 refine aA (ah Tryz.func100 rfl (by kernel_rfl)) rfl ?_;have hil:i<h.length:=(ax.1 hi0).1;have hjl:j<h.length:=(ax.1 hj0).1;have gi:∀t,(h++t)[i]?=some (.row 2 [.p lo.pv]):=λt=>by rw[aZ hil];exact hi0
 have gj:∀t,(h++t)[j]?=some (.row 2 [.p hi.pv]):=λt=>by rw[aZ hjl];exact hj0
 have gj2:∀x t,(h.set i x++t)[j]?=some (.row 2 [.p hi.pv]):=λx t=>by rw[aZ (by simpa using hjl),dS hij];exact hj0
 have si:∀t x,(h++t).set i x=h.set i x++t:=λt x=>y9 _ _ hil;have sj:∀t x,(h++t).set j x=h.set j x++t:=λt x=>y9 _ _ hjl;have sj2:∀t x y,(h.set i y++t).set j x=(h.set i y).set j x++t:=λt x y=>y9 _ _ (by simpa using hjl);have gg:=kf (lo:=h) rfl;have g0:=kg (lo:=h) rfl;have gg2:∀x,∀t j,(h.set i x++t)[h.length+j]?=t[j]?:=λx=>kf (lo:=h.set i x) (by simp);have g02:∀x,∀t,(h.set i x++t)[h.length]?=t[0]?:=λx=>kg (lo:=h.set i x) (by simp);have same_i:h.set i (.row 2 [.p lo.pv])=h:=nO hi0;have same_j:h.set j (.row 2 [.p hi.pv])=h:=nO hj0;have same_j2:∀x,(h.set i x).set j (.row 2 [.p hi.pv])=h.set i x:=λx=>nO (by rw[dS hij];exact hj0);simp only[Frac.pv]at gi gj gj2 same_i same_j same_j2;simp only[dq,aK,bt,gi,wZ,go_sem,simprocAttr];cases z1:decide (lo=⟨0,0⟩)
 .simp only[bt,gi,g0,go_sem,simprocAttr];refine ae (uy lo least b1 b3) rfl ?_;simp only[go_sem,simprocAttr];cases z2:lo.lt least
  .simp only[bt,gj,wZ,go_sem,simprocAttr];cases z3:decide (hi=⟨0,0⟩)
   .simp only[bt,gj,gg,go_sem,simprocAttr];refine ae (uy most hi b4 b2) rfl ?_;simp only[go_sem,simprocAttr];cases z4:most.lt hi
    .simp only[go_sem,simprocAttr];simp only[i6,i7,z1,z2,z3,z4,jQ,d4,if_false,same_i,same_j]
    .simp only[bt,gj,gg,sj,go_sem,simprocAttr];simp only[i6,i7,z1,z2,z3,z4,jQ,if_true,d4,if_false,same_i]
   .simp only[bt,gj,gg,sj,go_sem,simprocAttr];simp only[i6,i7,z1,z2,z3,tg,jQ,if_true,d4,if_false,same_i]
  .simp only[bt,gi,gj2,g0,si,wZ,go_sem,simprocAttr];cases z3:decide (hi=⟨0,0⟩)
   .simp only[bt,gj2,gg2,go_sem,simprocAttr];refine ae (uy most hi b4 b2) rfl ?_;simp only[go_sem,simprocAttr];cases z4:most.lt hi
    .simp only[go_sem,simprocAttr];simp only[i6,i7,z1,z2,z3,z4,jQ,if_true,d4,if_false,same_j2]
    .simp only[bt,gj2,gg2,sj2,go_sem,simprocAttr];simp only[i6,i7,z1,z2,z3,z4,jQ,if_true]
   .simp only[bt,gj2,gg2,sj2,go_sem,simprocAttr];simp only[i6,i7,z1,z2,z3,tg,jQ,if_true]
 .simp only[bt,gi,gj2,g0,si,wZ,go_sem,simprocAttr];cases z3:decide (hi=⟨0,0⟩)
  .simp only[bt,gj2,gg2,go_sem,simprocAttr];refine ae (uy most hi b4 b2) rfl ?_;simp only[go_sem,simprocAttr];cases z4:most.lt hi
   .simp only[go_sem,simprocAttr];simp only[i6,i7,z1,z3,z4,tg,jQ,if_true,d4,if_false,same_j2]
   .simp only[bt,gj2,gg2,sj2,go_sem,simprocAttr];simp only[i6,i7,z1,z3,z4,tg,jQ,if_true]
  .simp only[bt,gj2,gg2,sj2,go_sem,simprocAttr];simp only[i6,i7,z1,z3,tg,if_true]
def lu (e:Int) (a b:HrMark):Frac×Frac:=(⟨60*(a.weight-b.weight-2*e),b.minute-a.minute⟩,⟨60*(a.weight-b.weight+2*e),b.minute-a.minute⟩)
def ig (e:Int):List HrMark->List HrMark->List (Frac×Frac)
 |_,[]=>[]
 |done,b::r=>done.map (λa=>lu e a b)++ig e (done++[b]) r
def eZ (t:HrTest):List (Frac×Frac):=ig t.error [] t.marks
def vQ (q:Frac×Frac):List PV:=[q.1.pv,q.2.pv]
def qV (t:HrTest):PV:=.func (.func 154) [] [.ptr 3 [t.pv] 0 0]
theorem Ug(t):af TP 102 [t.pv] (qV t):=by
 refine dd (ah Tryz.func102 rfl (by kernel_rfl)) rfl ?_;simp only[qV,go_sem,simprocAttr]
structure MarksOk (t:HrTest):Prop where
 len:t.marks.length<=10
 all:∀m,m∈t.marks->0<=m.minute/\m.minute<=1000000/\0<=m.weight/\m.weight<=10000000
 err:0<=t.error/\t.error<=10000
set_option maxHeartbeats 2000000 in
theorem Tz(t)(hok:MarksOk t):Kw TP (qV t) 2 ((eZ t).map vQ):=by
 refine⟨λa ha=>?_,_,_,_,rfl,λid Inv Fin h0 hid hy hi=>?_⟩
 .obtain⟨q,_,rfl⟩:=dN.1 ha;rfl
 have hl:=hok.len;have he:=hok.err;refine aA (ah Tryz.func154 rfl (by kernel_rfl)) rfl ?_;simp only[go_sem,simprocAttr]
 refine eO [0,1,10,11] (σ:=List HrMark×List HrMark×List (Frac×Frac)×Heap×Heap)
  (λq=>t.marks=q.1++q.2.1/\eZ t=q.2.2.1++ig t.error q.1 q.2.1/\Inv q.2.2.1.length q.2.2.2.1/\q.2.2.2.1.length=h0.length) (λq=>q.2.1.length)
  (λq=>[(12,.p (.int .i64 q.1.length))]) (λq=>q.2.2.2.1++q.2.2.2.2) ([],t.marks,[],h0,[]) ⟨rfl,rfl,hi,rfl⟩ (by simp) ?_ ?_
 .simp only[go_sem,simprocAttr]
 rintro⟨done,rest,pre,lo,mid⟩ ⟨e1,e2,hI,hlo⟩
 dsimp only at e1 e2 hI hlo
 cases rest with
 |nil=>
  have hlt:¬((done.length:Int)<(t.marks.length:Int)):=by rw[e1];simp
  simp only[hlt,decide_false,go_sem,simprocAttr];refine⟨lo,mid,rfl,hlo,.inl ?_⟩;rw[e2]
  simpa[ig]using hI
 |cons b r=>
  obtain⟨hx,hlt⟩:=dZ e1;have hlen:=congrArg List.length e1;simp only[aK,cc]at hlen;have hnx:IntKind.i64.wrap ((done.length:Int)+1)=(((done++[b]).length:Nat):Int):=be (by omega) (by simp[ar];omega) (by simp);have hle:((done.length:Nat):Int)<=(t.marks.length:Int):=by omega
  have htk:(t.marks.map HrMark.pv).take done.length=done.map HrMark.pv:=by
   rw[e1,ca,jL (by simp)]
  have hne:(done.length==t.marks.length)=false:=by simp;omega
  have hb:=hok.all b (by rw[e1];simp);rw[ig]at e2;have gg:=kf hlo;have ss:=lP hlo;have mg:=kg (lo:=mid) rfl;have ms:=lQ (lo:=mid) rfl;simp only[hlt,decide_true,hx,hle,htk,hne,dq,aK,bt,hlo,gg,ss,mg,ms,go_sem,simprocAttr]
  refine eO [0,1,4,10,11,12,20,21] (σ:=List HrMark×List HrMark×List (Frac×Frac)×Heap×Heap)
   (λq=>done=q.1++q.2.1/\eZ t=q.2.2.1++(q.2.1.map (λa=>lu t.error a b)++ig t.error (done++[b]) r)/\Inv q.2.2.1.length q.2.2.2.1/\q.2.2.2.1.length=h0.length/\q.2.2.2.2[mid.length]?=some (.row 2 [.p b.pv])) (λq=>q.2.1.length)
   (λq=>[(22,.p (.int .i64 q.1.length))]) (λq=>q.2.2.2.1++q.2.2.2.2) ([],done,pre,lo,mid++[.row 2 [.p b.pv]]) ⟨rfl,e2,hI,hlo,mg _⟩ rfl ?_ ?_
  .simp only[go_sem,simprocAttr]
  clear gg ss mg ms hI hlo e2
  rintro⟨d2,r2,pre2,lo2,mid2⟩ ⟨f1,f2,hI2,hlo2,hb2⟩
  dsimp only at f1 f2 hI2 hlo2 hb2
  cases r2 with
  |nil=>
   have hlt2:¬((d2.length:Int)<(done.length:Int)):=by rw[f1];simp
   simp only[hlt2,decide_false,go_sem,simprocAttr];refine br (done++[b],r,pre2,lo2,mid2) ⟨by rw[e1];simp,by simpa using f2,hI2,hlo2⟩ (gh _) rfl ?_
   simp only[hnx,go_sem,simprocAttr]
  |cons a r2=>
   obtain⟨hxa,hlta⟩:=dZ f1;have hlen2:=congrArg List.length f1;simp only[aK,cc]at hlen2;have hnx2:IntKind.i64.wrap ((d2.length:Int)+1)=(((d2++[a]).length:Nat):Int):=be (by omega) (by simp[ar];omega) (by simp);have ha:=hok.all a (by rw[e1,f1];simp);have gg:=kf hlo2;have ss:=lP hlo2;have mg:=kg (lo:=mid2) rfl;have ms:=lQ (lo:=mid2) rfl;have hbt:∀x,(mid2++x)[mid.length]?=some (.row 2 [.p b.pv]):=λx=>by rw[aZ (ax.1 hb2).1];exact hb2
   simp only[HrMark.pv]at hbt;have w1:IntKind.i64.wrap (a.weight-b.weight)=a.weight-b.weight:=am (by omega) (by omega);have w2:IntKind.i64.wrap (b.minute-a.minute)=b.minute-a.minute:=am (by omega) (by omega);have w3:IntKind.i64.wrap (2*t.error)=2*t.error:=am (by omega) (by omega);have w4:IntKind.i64.wrap (a.weight-b.weight-2*t.error)=a.weight-b.weight-2*t.error:=am (by omega) (by omega);have w5:IntKind.i64.wrap (60*(a.weight-b.weight-2*t.error))=60*(a.weight-b.weight-2*t.error):=am (by omega) (by omega);have w6:IntKind.i64.wrap (a.weight-b.weight+2*t.error)=a.weight-b.weight+2*t.error:=am (by omega) (by omega);have w7:IntKind.i64.wrap (60*(a.weight-b.weight+2*t.error))=60*(a.weight-b.weight+2*t.error):=am (by omega) (by omega);have hget:((eZ t).map vQ)[pre2.length]?=some (vQ (lu t.error a b)):=by rw[f2];simp
   simp only[hlta,decide_true,hxa,dq,aK,bt,hlo2,gg,ss,mg,ms,hbt,w1,w2,w3,w4,w5,w6,w7,go_sem,simprocAttr];have hy':=hy pre2.length _ lo2 (mid2++[AObj.row 2 [AV.p a.pv]]) hget hI2 hlo2;refine pm hy' (λv h' hr=>?_) (λv h' hr=>?_);rotate_left
   .obtain⟨_,_,_,_,hr⟩:=hr;rcases hr with⟨hr,_⟩|⟨hr,_⟩<;>cases hr
   obtain⟨lo3,ext,rfl,hlo3,hr⟩:=hr;rcases hr with⟨hr,hI3⟩|⟨hr,hF⟩
   .cases hr;simp only[go_sem,simprocAttr];refine br (d2++[a],r2,pre2++[lu t.error a b],lo3,mid2++[.row 2 [.p a.pv]]++ext) ⟨by rw[f1];simp,by rw[f2];simp,by simpa using hI3,hlo3,by rw[dq];exact hbt _⟩ (gh _) (by simp[dq,HrMark.pv]) ?_;simp only[hnx2,go_sem,simprocAttr]
   .cases hr;simp only[go_sem,simprocAttr];exact⟨lo3,mid2++[.row 2 [.p a.pv]]++ext,by simp[dq,HrMark.pv],hlo3,.inr hF⟩
structure TestOk (t:HrTest):Prop extends MarksOk t where
 two:2<=t.marks.length
 sorted:t.marks.Pairwise λa b=>a.minute<b.minute
def iH (q p:Frac×Frac):Frac×Frac:=(i6 q.1 p.1,i7 q.2 p.2)
def iE:Frac×Frac:=(⟨0,0⟩,⟨0,0⟩)
def d6 (t:HrTest):Frac×Frac:=(eZ t).foldl iH iE
def Lr (x:Int):Int:=if 0<x then x else 0
def da (t:HrTest):Span×Bool:=(⟨Lr (d6 t).1.down,Lr (d6 t).2.up⟩,!(d6 t).2.lt (d6 t).1)
def jt (q:Frac×Frac):Prop:=q.1.B/\q.2.B/\0<q.1.below/\0<q.2.below
theorem zy{t}(hok:TestOk t):∀(rest done),t.marks=done++rest->∀q,q∈ig t.error done rest->jt q
 |[],_,_,q,h=>by cases h
 |b::r,done,e,q,h=>by
  rw[ig,b7,dN]at h;rcases h with⟨a,ha,rfl⟩|h
  .have h1:=hok.all a (by rw[e];simp[ha]);have h2:=hok.all b (by rw[e];simp);have h3:a.minute<b.minute:=by
    have:=hok.sorted;rw[e,List.pairwise_append]at this;exact this.2.2 a ha b (by simp)
   have h4:=hok.err;simp only[jt,lu,Frac.B];omega
  .exact zy hok r (done++[b]) (by rw[e];simp) q h
theorem mj{t}(hok:TestOk t):∀q,q∈eZ t->jt q:=zy hok t.marks [] rfl
theorem yy{q p}(hq:q=iE\/jt q)(hp:jt p):jt (iH q p):=by
 unfold iH i6 i7;rcases hq with rfl|hq
 .simpa[iE]using hp
 .unfold jt at *
  refine⟨?_,?_,?_,?_⟩<;>dsimp only<;>split<;>simp_all
theorem yF:∀(l) (q),(q=iE\/jt q)->(∀p,p∈l->jt p)->(l.foldl iH q=iE/\l=[]\/jt (l.foldl iH q))
 |[],q,hq,_=>hq.imp (λh=>⟨h,rfl⟩) id
 |p::l,q,hq,hl=>by
  have:=yF l (iH q p) (.inr (yy hq (hl p (by simp)))) λp' hp'=>hl p' (by simp[hp']);rcases this with⟨h1,h2⟩|h
  .subst h2;exact .inr (yy hq (hl p (by simp)))
  .exact .inr h
theorem EB{t}(h:2<=t.marks.length):eZ t≠[]:=by
 unfold eZ
 match hm:t.marks with
 |[]=>rw[hm]at h;simp at h
 |[a]=>rw[hm]at h;simp at h
 |a::b::r=>simp[ig]
theorem yi{t}(hok:TestOk t):jt (d6 t):=by
 rcases yF (eZ t) iE (.inl rfl) (mj hok) with⟨_,h⟩|h
 .exact absurd h (EB hok.two)
 .exact h
theorem Qe:iE.1.B/\iE.2.B:=by simp[iE,Frac.B]
set_option maxHeartbeats 2000000 in
theorem Am(t)(hok:TestOk t):af TP 65 [t.pv] (.tuple [(da t).1.pv,.bool (da t).2]):=by
 refine aa (eA (by kernel_rfl) rfl XW) rfl ?_;simp only[Wj,go_sem,simprocAttr];refine ae (Ug t) rfl ?_;simp only[qV,go_sem,simprocAttr]
 refine Iv (l:=(eZ t).map vQ) (λo k h=>h=[.row 3 [.p t.pv],.row 2 [.p (.agg [.int .i64 0,.int .i64 0])],.row 2 [.p (((eZ t).take k).foldl iH iE).1.pv],.row 2 [.p (((eZ t).take k).foldl iH iE).2.pv],
   .row 1 [.func (.func 100) [] [.ptr 2 1 0 0,.ptr 3 1 0 0]],.dblock,o]) (λ_ _=>False)
  rfl (by simp only[qV,go_sem,simprocAttr]) (Tz t hok.toMarksOk) dC (by kernel_rfl) (by kernel_rfl) (by kernel_rfl) ?_ ?_ ?_ ?_ (λ_ _ _ h=>h.elim)
 .rintro o k h rfl;simp
 .intro o;simp only[iE,go_sem,simprocAttr];exact⟨rfl,rfl⟩
 .rintro oR oB oD k xs lo mid hk rfl _
  rw[cz,cd]at hk;obtain⟨q,hq,rfl⟩:=hk;have hqB:=mj hok q (aT hq);have hkB:(((eZ t).take k).foldl iH iE).1.B/\(((eZ t).take k).foldl iH iE).2.B:=by
   rcases yF ((eZ t).take k) iE (.inl rfl) (λp hp=>mj hok p (sb hp)) with⟨h,_⟩|h
   .rw[h];exact Qe
   .exact⟨h.1,h.2.1⟩
  have mg:=kg (lo:=mid) rfl;have mgg:=kf (lo:=mid) rfl;have ms:=lQ (lo:=mid) rfl;have mss:=lP (lo:=mid) rfl;simp only[vQ,dq,aK,bt,mg,mgg,ms,mss,go_sem,simprocAttr];refine ct (VH _ _ q.1 q.2 2 3 _ rfl rfl (by decide) hkB.1 hkB.2 hqB.1 hqB.2.1) ?_;simp only[go_sem,simprocAttr];refine⟨_,[AObj.row 2 [AV.p q.1.pv],AObj.row 2 [AV.p q.2.pv]]++[AObj.row 2 [AV.p q.1.pv],AObj.row 2 [AV.p q.2.pv]],?_,by simp,rfl⟩;rw[xW,hq,Option.toList_some,AI];simp[iH,Frac.pv]
 .rintro o lo mid rfl _
  have hr:=yi hok;rw[dL,te];have e:List.foldl iH iE (eZ t)=d6 t:=rfl;rw[e];simp only[aV,go_sem,simprocAttr];refine ay (kH (d6 t).1 hr.2.2.1 (by have:=hr.1.1;omega) (by have:=hr.1.2.1;omega)) rfl ?_;simp only[go_sem,simprocAttr];refine ay (Ua (d6 t).2 hr.2.2.2 (by have:=hr.2.1.1;omega) (by have:=hr.2.1.2.1;omega)) rfl ?_;simp only[go_sem,simprocAttr];refine ay (uy (d6 t).2 (d6 t).1 hr.2.1 hr.1) rfl ?_;simp only[da,Lr,go_sem,simprocAttr];rw[bZ];simp only[go_sem,simprocAttr]
end Abs
end Go.Proofs.YtnjiadikeacfaaaGreatDoor
