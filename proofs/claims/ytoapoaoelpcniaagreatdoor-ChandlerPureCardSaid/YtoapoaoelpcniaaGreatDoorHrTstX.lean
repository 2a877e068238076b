/- CONTRACTS of the program's functions, and laws on what they return. No conditions but those in the theorems' heads. -/
import Derived.Test.YtoapoaoelpcniaaGreatDoorWxRefX
set_option linter.all false
open Go.Proofs.Tryz renaming prog->TP
namespace Go.Proofs.YtoapoaoelpcniaaGreatDoor
namespace Abs
set_option maxRecDepth 4000
def oA (m:HrMark):Bool:=ar m.minute 0 1000000&&ar m.weight 0 10000000
def lg:Int->List HrMark->Bool
 |_,[]=>false
 |last,m::r=>decide (m.minute<=last)||lg m.minute r
def bV (nk:Int) (t:HrTest):Int:=
 if ar t.kind 0 (nk-1)=true then
  if ar t.marks.length 2 10=true then
   if ar t.error 0 10000=true then
    if t.marks.all oA=true then(if lg (-1) t.marks=true then 2 else 0) else 7
   else 7
  else 3
 else 4
theorem D8(s:HrShop)(t)(hs:s.kinds.length<=1000):af TP 87 [s.pv,t.pv] (.int .i64 (bV s.kinds.length t)):=by
 refine aa (ah Tryz.func87 rfl (by kernel_rfl)) rfl ?_;have hw:IntKind.i64.wrap ((s.kinds.length:Int)-1)=(s.kinds.length:Int)-1:=aj (by omega) (by omega);simp only[hw,go_sem,simprocAttr];refine ae (im 0 _ [_] true (by simp)) rfl ?_;simp only[cV,bw,cD,go_sem,simprocAttr];cases h1:ar t.kind 0 ((s.kinds.length:Int)-1)
 .simp only[bV,h1,go_sem,simprocAttr]
 simp only[go_sem,simprocAttr];refine ae (im 2 10 [_] true (by simp)) rfl ?_;simp only[cV,bw,cD,go_sem,simprocAttr];cases h2:ar t.marks.length 2 10
 .simp only[bV,h1,h2,go_sem,simprocAttr]
 simp only[go_sem,simprocAttr];refine ae (im 0 10000 [_] true (by simp)) rfl ?_;simp only[cV,bw,cD,go_sem,simprocAttr];cases h3:ar t.error 0 10000
 .simp only[bV,h1,h2,h3,go_sem,simprocAttr]
 have hspec:bV s.kinds.length t=if t.marks.all oA=true then(if lg (-1) t.marks=true then 2 else 0) else 7:=by simp only[bV,h1,h2,h3,if_true]
 rw[hspec];have hlm:t.marks.length<=10:=by simp[ar]at h2;omega
 simp only[go_sem,simprocAttr]
 refine aQ [30,31] t.marks (by omega) (τ:=Int×Bool) (λdone rest q=>t.marks.all oA=rest.all oA/\lg (-1) t.marks=(q.2||lg q.1 rest))
  (λdone q=>[(32,.p (.int .i64 done.length)),(5,.p (.int .i64 q.1)),(6,.p (.bool q.2))]) (λ_ _=>[.row 3 [.p s.pv],.row 3 [.p t.pv]]) (-1,false) ⟨rfl,by simp⟩ ?_ ?_ ?_
 .simp only[go_sem,simprocAttr]<;>simp
 .rintro⟨last,falls⟩ ⟨e2,e3⟩
  dsimp only at e2 e3;rw[e2,e3];cases falls
  .simp only[Fw,lg,go_sem,simprocAttr]
  .simp only[Fw,lg,go_sem,simprocAttr]
 .rintro done x r ⟨last,falls⟩ e1 ⟨e2,e3⟩ hx hlt hnx
  dsimp only at e2 e3;rw[List.all_cons]at e2;simp only[hlt,hx,go_sem,simprocAttr];refine ae (im 0 1000000 [_] true (by simp)) rfl ?_;simp only[cV,bw,cD,go_sem,simprocAttr];cases h4:ar x.minute 0 1000000
  .rw[e2,oA,h4];simp only[go_sem,simprocAttr]
  simp only[go_sem,simprocAttr];refine ae (im 0 10000000 [_] true (by simp)) rfl ?_;simp only[cV,bw,cD,go_sem,simprocAttr];cases h5:ar x.weight 0 10000000
  .rw[e2,oA,h4,h5];simp only[go_sem,simprocAttr]
  have hm:oA x=true:=by rw[oA,h4,h5];rfl
  cases falls
  .simp only[go_sem,simprocAttr];refine ak e1 (x.minute,decide (x.minute<=last)) ⟨by rw[e2,hm];rfl,by rw[e3,lg];rfl⟩ ?_;simp only[hnx,go_sem,simprocAttr]
  .simp only[go_sem,simprocAttr];refine ak e1 (x.minute,true) ⟨by rw[e2,hm];rfl,by rw[e3];rfl⟩ ?_;simp only[hnx,go_sem,simprocAttr]
def cr (nk:Int):List HrTest->Int
 |[]=>0
 |t::r=>if bV nk t=0 then cr nk r else bV nk t
def bS (s:HrShop) (l:List HrTest):Int:=if(hrCheck s).2.2=0 then cr s.kinds.length l else(hrCheck s).2.2
theorem kY{s}(h:(hrCheck s).2.2=0):s.kinds.length<=6/\s.rules.length<=6/\1<=s.kinds.length:=by
 unfold hrCheck at h;split at h
 .rename_i hc;simp[ar]at hc;omega
 .cases h
theorem mA(s)(l)(b)(hl:(hrCheck s).2.2=0->l.length<1000000000):af TP 49 [s.pv,.slice 3 (l.map HrTest.pv) b] (.int .i64 (bS s l)):=by
 refine aa (ah Tryz.func49 rfl (by kernel_rfl)) rfl ?_;simp only[go_sem,simprocAttr];refine ae (Hn s) rfl ?_;simp only[al,go_sem,simprocAttr];cases h0:((hrCheck s).2.2 != 0)
 rotate_left
 .have h0':¬(hrCheck s).2.2=0:=by simpa using h0
  simp only[bS,if_neg h0',go_sem,simprocAttr]
 have h0':(hrCheck s).2.2=0:=by simpa using h0
 have hk:=(kY h0').1;rw[bS,if_pos h0'];simp only[go_sem,simprocAttr]
 refine aQ [2,20,21] l (hl h0') (τ:=Unit) (λdone rest _=>cr s.kinds.length l=cr s.kinds.length rest)
  (λdone _=>[(22,.p (.int .i64 done.length))]) (λ_ _=>[.row 3 [.p s.pv]]) () rfl ?_ ?_ ?_
 .simp only[go_sem,simprocAttr]<;>simp
 .intro _ e2;rw[e2];simp only[cr,go_sem,simprocAttr]
 .intro done x r _ e1 e2 hx hlt hnx;rw[cr]at e2;simp only[hlt,hx,go_sem,simprocAttr];refine ae (D8 s x (by omega)) rfl ?_;simp only[go_sem,simprocAttr];cases h1:(bV s.kinds.length x != 0)
  .have h1':bV s.kinds.length x=0:=by simpa using h1
   simp only[go_sem,simprocAttr];refine ak e1 () (by rw[e2,if_pos h1']) ?_;simp only[hnx,go_sem,simprocAttr]
  .have h1':¬bV s.kinds.length x=0:=by simpa using h1
   simp only[e2,if_neg h1',go_sem,simprocAttr]
def hrTests (s:HrShop) (l:List HrTest):Int:=if(hrCheck s).2.2=0 then(if 8<l.length then 3 else cr s.kinds.length l) else(hrCheck s).2.2
structure Frac where
 top:Int
 below:Int
 deriving DecidableEq
def Frac.pv (f:Frac):PV:=.agg [.int .i64 f.top,.int .i64 f.below]
attribute [go_sem] Frac.pv
def Frac.B (f:Frac):Prop:=-1000000000<=f.top/\f.top<=1000000000/\0<=f.below/\f.below<=1000000000
def Frac.lt (f g:Frac):Bool:=decide (f.top*g.below<g.top*f.below)
def Frac.down (f:Frac):Int:=f.top / f.below
def Frac.up (f:Frac):Int:=-(-f.top / f.below)
theorem Ln{a b}(h1:-1000000000<=a)(h2:a<=1000000000)(h3:0<=b)(h4:b<=1000000000):-1000000000000000000<=a*b/\a*b<=1000000000000000000:=by
 have e1:a*b<=1000000000*b:=pU h2 h3;have e2:-1000000000*b<=a*b:=pU h1 h3;omega
theorem BJ(f g:Frac)(hf:f.B)(hg:g.B):af TP 122 [f.pv,g.pv] (.bool (f.lt g)):=by
 refine aa (ah Tryz.func122 rfl (by kernel_rfl)) rfl ?_;have h1:=Ln hf.1 hf.2.1 hg.2.2.1 hg.2.2.2;have h2:=Ln hg.1 hg.2.1 hf.2.2.1 hf.2.2.2;have e1:IntKind.i64.wrap (f.top*g.below)=f.top*g.below:=aj (by omega) (by omega);have e2:IntKind.i64.wrap (g.top*f.below)=g.top*f.below:=aj (by omega) (by omega);simp only[e1,e2,Frac.lt,go_sem,simprocAttr]
theorem u6(a b:Int)(hb:0<b):a / b=if a.tmod b<0 then a.tdiv b-1 else a.tdiv b:=by
 have h1:=Int.tdiv_eq_ediv (a:=a) (b:=b);have h2:=Int.tmod_eq_emod (a:=a) (b:=b);have h3:=Int.emod_nonneg a (Int.ne_of_gt hb);have h4:=Int.emod_lt_of_pos a hb;have h5:b.sign=1:=Int.sign_eq_one_of_pos hb;have h6:(b.natAbs:Int)=b:=Int.natAbs_of_nonneg (E6 hb);rw[h5]at h1;by_cases hc:0<=a\/b ∣ a
 .rw[if_pos hc]at h1 h2;rw[if_neg (by omega)];omega
 .rw[if_neg hc]at h1 h2;rw[if_pos (by omega)];omega
theorem BC{a b B}(hb:0<b)(h1:-B<=a)(h2:a<=B)(hB:0<=B):-B<=a / b/\a / b<=B:=by
 refine⟨?_,?_⟩
 .have:-B*b<=a:=by
   have:B*1<=B*b:=tM (by omega) hB;have e:-B*b=-(B*b):=by rw[Ft]
   omega
  exact(B5 hb).2 this
 .rcases E2 0 a with h|h
  .exact s8 (Int.ediv_le_self b h) h2
  .have:a / b<=0:=by
    have:=Fq hb h;simpa using this
   omega
theorem mC(f:Frac)(hb:0<f.below)(h1:-1000000000000000000<=f.top)(h2:f.top<=1000000000000000000):af TP 84 [f.pv] (.int .i64 f.down):=by
 refine aa (ah Tryz.func84 rfl (by kernel_rfl)) rfl ?_;have hb0:¬f.below=0:=by omega
 have hr:=BC hb h1 h2 (by omega);have hd:=u6 f.top f.below hb;have e1:IntKind.i64.wrap (f.top.tdiv f.below)=f.top.tdiv f.below:=by
  split at hd
  .exact aj (by omega) (by omega)
  .exact aj (by omega) (by omega)
 simp only[hb0,e1,Frac.down,go_sem,simprocAttr];cases hm:decide (f.top.tmod f.below<0)
 .rw[if_neg (by simpa using hm)]at hd;simp only[hd,go_sem,simprocAttr]
 .rw[if_pos (by simpa using hm)]at hd;have e2:IntKind.i64.wrap (f.top.tdiv f.below-1)=f.top.tdiv f.below-1:=aj (by omega) (by omega);simp only[hd,e2,go_sem,simprocAttr]
theorem Yd(f:Frac)(hb:0<f.below)(h1:-1000000000000000000<=f.top)(h2:f.top<=1000000000000000000):af TP 85 [f.pv] (.int .i64 f.up):=by
 refine aa (ah Tryz.func85 rfl (by kernel_rfl)) rfl ?_;have e1:IntKind.i64.wrap (-f.top)=-f.top:=aj (by omega) (by omega);have hr:=BC (a:=-f.top) (B:=1000000000000000000) hb (by omega) (by omega) (by omega);have e2:IntKind.i64.wrap (-(-f.top / f.below))=-(-f.top / f.below):=aj (by omega) (by omega);simp only[e1,go_sem,simprocAttr];refine ae (mC ⟨-f.top,f.below⟩ hb (by show -1000000000000000000<=-f.top;omega) (by show -f.top<=1000000000000000000;omega)) rfl ?_;simp only[Frac.down,e2,Frac.up,go_sem,simprocAttr]
def jy (lo least:Frac):Frac:=if(decide (lo=⟨0,0⟩)||lo.lt least)=true then least else lo
def jz (hi most:Frac):Frac:=if(decide (hi=⟨0,0⟩)||most.lt hi)=true then most else hi
theorem yF(f:Frac):((f.top==0)&&(f.below==0))=decide (f=⟨0,0⟩):=by
 cases f with
 |mk a b=>rw[nh];simp
theorem XG(lo hi least most)(i j)(h)(hi0:h[i]?=some (.row 2 [.p lo.pv]))(hj0:h[j]?=some (.row 2 [.p hi.pv]))(hij:i≠j)(b1:lo.B)(b2:hi.B)(b3:least.B)(b4:most.B) :
  aD TP 121 [.p least.pv,.p most.pv,.ptr i 1 0 0,.ptr j 1 0 0] h (λr h'=>r=.ret (.p (.tuple [])) /\
   h'=(h.set i (.row 2 [.p (jy lo least).pv])).set j (.row 2 [.p (jz hi most).pv])++[.row 2 [.p least.pv],.row 2 [.p most.pv]]):=by
 refine aC (ah Tryz.func121 rfl (by kernel_rfl)) rfl ?_;have hil:i<h.length:=(aF.1 hi0).1;have hjl:j<h.length:=(aF.1 hj0).1;have gi:∀t,(h++t)[i]?=some (.row 2 [.p lo.pv]):=λt=>by rw[aX hil];exact hi0
 have gj:∀t,(h++t)[j]?=some (.row 2 [.p hi.pv]):=λt=>by rw[aX hjl];exact hj0
 have gj2:∀x t,(h.set i x++t)[j]?=some (.row 2 [.p hi.pv]):=λx t=>by rw[aX (by simpa using hjl),eo hij];exact hj0
 have si:∀t x,(h++t).set i x=h.set i x++t:=λt x=>Aw _ _ hil;have sj:∀t x,(h++t).set j x=h.set j x++t:=λt x=>Aw _ _ hjl;have sj2:∀t x y,(h.set i y++t).set j x=(h.set i y).set j x++t:=λt x y=>Aw _ _ (by simpa using hjl);have gg:=k7 (lo:=h) rfl;have g0:=k8 (lo:=h) rfl;have gg2:∀x,∀t j,(h.set i x++t)[h.length+j]?=t[j]?:=λx=>k7 (lo:=h.set i x) (by simp);have g02:∀x,∀t,(h.set i x++t)[h.length]?=t[0]?:=λx=>k8 (lo:=h.set i x) (by simp);have same_i:h.set i (.row 2 [.p lo.pv])=h:=pu hi0;have same_j:h.set j (.row 2 [.p hi.pv])=h:=pu hj0;have same_j2:∀x,(h.set i x).set j (.row 2 [.p hi.pv])=h.set i x:=λx=>pu (by rw[eo hij];exact hj0);simp only[Frac.pv]at gi gj gj2 same_i same_j same_j2;simp only[cF,aB,bn,gi,yF,go_sem,simprocAttr];cases z1:decide (lo=⟨0,0⟩)
 .simp only[bn,gi,g0,go_sem,simprocAttr];refine ae (BJ lo least b1 b3) rfl ?_;simp only[go_sem,simprocAttr];cases z2:lo.lt least
  .simp only[bn,gj,yF,go_sem,simprocAttr];cases z3:decide (hi=⟨0,0⟩)
   .simp only[bn,gj,gg,go_sem,simprocAttr];refine ae (BJ most hi b4 b2) rfl ?_;simp only[go_sem,simprocAttr];cases z4:most.lt hi
    .simp only[go_sem,simprocAttr];simp only[jy,jz,z1,z2,z3,z4,rf,jc,if_false,same_i,same_j]
    .simp only[bn,gj,gg,sj,go_sem,simprocAttr];simp only[jy,jz,z1,z2,z3,z4,rf,if_true,jc,if_false,same_i]
   .simp only[bn,gj,gg,sj,go_sem,simprocAttr];simp only[jy,jz,z1,z2,z3,tL,rf,if_true,jc,if_false,same_i]
  .simp only[bn,gi,gj2,g0,si,yF,go_sem,simprocAttr];cases z3:decide (hi=⟨0,0⟩)
   .simp only[bn,gj2,gg2,go_sem,simprocAttr];refine ae (BJ most hi b4 b2) rfl ?_;simp only[go_sem,simprocAttr];cases z4:most.lt hi
    .simp only[go_sem,simprocAttr];simp only[jy,jz,z1,z2,z3,z4,rf,if_true,jc,if_false,same_j2]
    .simp only[bn,gj2,gg2,sj2,go_sem,simprocAttr];simp only[jy,jz,z1,z2,z3,z4,rf,if_true]
   .simp only[bn,gj2,gg2,sj2,go_sem,simprocAttr];simp only[jy,jz,z1,z2,z3,tL,rf,if_true]
 .simp only[bn,gi,gj2,g0,si,yF,go_sem,simprocAttr];cases z3:decide (hi=⟨0,0⟩)
  .simp only[bn,gj2,gg2,go_sem,simprocAttr];refine ae (BJ most hi b4 b2) rfl ?_;simp only[go_sem,simprocAttr];cases z4:most.lt hi
   .simp only[go_sem,simprocAttr];simp only[jy,jz,z1,z3,z4,tL,rf,if_true,jc,if_false,same_j2]
   .simp only[bn,gj2,gg2,sj2,go_sem,simprocAttr];simp only[jy,jz,z1,z3,z4,tL,rf,if_true]
  .simp only[bn,gj2,gg2,sj2,go_sem,simprocAttr];simp only[jy,jz,z1,z3,tL,if_true]
def mq (e:Int) (a b:HrMark):Frac×Frac:=(⟨60*(a.weight-b.weight-2*e),b.minute-a.minute⟩,⟨60*(a.weight-b.weight+2*e),b.minute-a.minute⟩)
def iH (e:Int):List HrMark->List HrMark->List (Frac×Frac)
 |_,[]=>[]
 |done,b::r=>done.map (λa=>mq e a b)++iH e (done++[b]) r
def fp (t:HrTest):List (Frac×Frac):=iH t.error [] t.marks
def xF (q:Frac×Frac):List PV:=[q.1.pv,q.2.pv]
def sD (t:HrTest):PV:=.func (.func 171) [] [.ptr 3 [t.pv] 0 0]
theorem V3(t):af TP 123 [t.pv] (sD t):=by
 refine dg (ah Tryz.func123 rfl (by kernel_rfl)) rfl ?_;simp only[sD,go_sem,simprocAttr]
structure MarksOk (t:HrTest):Prop where
 len:t.marks.length<=10
 all:∀m,m∈t.marks->0<=m.minute/\m.minute<=1000000/\0<=m.weight/\m.weight<=10000000
 err:0<=t.error/\t.error<=10000
set_option maxHeartbeats 2000000 in
theorem Vo(t)(hok:MarksOk t):Mv TP (sD t) 2 ((fp t).map xF):=by
 refine⟨λa ha=>?_,_,_,_,rfl,λid Inv Fin h0 hid hy hi=>?_⟩
 .obtain⟨q,_,rfl⟩:=cH.1 ha;rfl
 have hl:=hok.len;have he:=hok.err;refine aC (ah Tryz.func171 rfl (by kernel_rfl)) rfl ?_;simp only[go_sem,simprocAttr]
 refine eC [0,1,10,11] (σ:=List HrMark×List HrMark×List (Frac×Frac)×Heap×Heap)
  (λq=>t.marks=q.1++q.2.1/\fp t=q.2.2.1++iH t.error q.1 q.2.1/\Inv q.2.2.1.length q.2.2.2.1/\q.2.2.2.1.length=h0.length) (λq=>q.2.1.length)
  (λq=>[(12,.p (.int .i64 q.1.length))]) (λq=>q.2.2.2.1++q.2.2.2.2) ([],t.marks,[],h0,[]) ⟨rfl,rfl,hi,rfl⟩ (by simp) ?_ ?_
 .simp only[go_sem,simprocAttr]
 rintro⟨done,rest,pre,lo,mid⟩ ⟨e1,e2,hI,hlo⟩
 dsimp only at e1 e2 hI hlo
 cases rest with
 |nil=>
  have hlt:¬((done.length:Int)<(t.marks.length:Int)):=by rw[e1];simp
  simp only[hlt,decide_false,go_sem,simprocAttr];refine⟨lo,mid,rfl,hlo,.inl ?_⟩;rw[e2]
  simpa[iH]using hI
 |cons b r=>
  obtain⟨hx,hlt⟩:=d8 e1;have hlen:=congrArg List.length e1;simp only[aB,cu]at hlen;have hnx:IntKind.i64.wrap ((done.length:Int)+1)=(((done++[b]).length:Nat):Int):=bj (by omega) (by simp[aw];omega) (by simp);have hle:((done.length:Nat):Int)<=(t.marks.length:Int):=by omega
  have htk:(t.marks.map HrMark.pv).take done.length=done.map HrMark.pv:=by
   rw[e1,cj,gk (by simp)]
  have hne:(done.length==t.marks.length)=false:=by simp;omega
  have hb:=hok.all b (by rw[e1];simp);rw[iH]at e2;have gg:=k7 hlo;have ss:=mS hlo;have mg:=k8 (lo:=mid) rfl;have ms:=mT (lo:=mid) rfl;simp only[hlt,decide_true,hx,hle,htk,hne,cF,aB,bn,hlo,gg,ss,mg,ms,go_sem,simprocAttr]
  refine eC [0,1,4,10,11,12,20,21] (σ:=List HrMark×List HrMark×List (Frac×Frac)×Heap×Heap)
   (λq=>done=q.1++q.2.1/\fp t=q.2.2.1++(q.2.1.map (λa=>mq t.error a b)++iH t.error (done++[b]) r)/\Inv q.2.2.1.length q.2.2.2.1/\q.2.2.2.1.length=h0.length/\q.2.2.2.2[mid.length]?=some (.row 2 [.p b.pv])) (λq=>q.2.1.length)
   (λq=>[(22,.p (.int .i64 q.1.length))]) (λq=>q.2.2.2.1++q.2.2.2.2) ([],done,pre,lo,mid++[.row 2 [.p b.pv]]) ⟨rfl,e2,hI,hlo,mg _⟩ rfl ?_ ?_
  .simp only[go_sem,simprocAttr]
  clear gg ss mg ms hI hlo e2
  rintro⟨d2,r2,pre2,lo2,mid2⟩ ⟨f1,f2,hI2,hlo2,hb2⟩
  dsimp only at f1 f2 hI2 hlo2 hb2
  cases r2 with
  |nil=>
   have hlt2:¬((d2.length:Int)<(done.length:Int)):=by rw[f1];simp
   simp only[hlt2,decide_false,go_sem,simprocAttr];refine bh (done++[b],r,pre2,lo2,mid2) ⟨by rw[e1];simp,by simpa using f2,hI2,hlo2⟩ (j4 _) rfl ?_
   simp only[hnx,go_sem,simprocAttr]
  |cons a r2=>
   obtain⟨hxa,hlta⟩:=d8 f1;have hlen2:=congrArg List.length f1;simp only[aB,cu]at hlen2;have hnx2:IntKind.i64.wrap ((d2.length:Int)+1)=(((d2++[a]).length:Nat):Int):=bj (by omega) (by simp[aw];omega) (by simp);have ha:=hok.all a (by rw[e1,f1];simp);have gg:=k7 hlo2;have ss:=mS hlo2;have mg:=k8 (lo:=mid2) rfl;have ms:=mT (lo:=mid2) rfl;have hbt:∀x,(mid2++x)[mid.length]?=some (.row 2 [.p b.pv]):=λx=>by rw[aX (aF.1 hb2).1];exact hb2
   simp only[HrMark.pv]at hbt;have w1:IntKind.i64.wrap (a.weight-b.weight)=a.weight-b.weight:=aj (by omega) (by omega);have w2:IntKind.i64.wrap (b.minute-a.minute)=b.minute-a.minute:=aj (by omega) (by omega);have w3:IntKind.i64.wrap (2*t.error)=2*t.error:=aj (by omega) (by omega);have w4:IntKind.i64.wrap (a.weight-b.weight-2*t.error)=a.weight-b.weight-2*t.error:=aj (by omega) (by omega);have w5:IntKind.i64.wrap (60*(a.weight-b.weight-2*t.error))=60*(a.weight-b.weight-2*t.error):=aj (by omega) (by omega);have w6:IntKind.i64.wrap (a.weight-b.weight+2*t.error)=a.weight-b.weight+2*t.error:=aj (by omega) (by omega);have w7:IntKind.i64.wrap (60*(a.weight-b.weight+2*t.error))=60*(a.weight-b.weight+2*t.error):=aj (by omega) (by omega);have hget:((fp t).map xF)[pre2.length]?=some (xF (mq t.error a b)):=by rw[f2];simp
   simp only[hlta,decide_true,hxa,cF,aB,bn,hlo2,gg,ss,mg,ms,hbt,w1,w2,w3,w4,w5,w6,w7,go_sem,simprocAttr];have hy':=hy pre2.length _ lo2 (mid2++[AObj.row 2 [AV.p a.pv]]) hget hI2 hlo2;refine qL hy' (λv h' hr=>?_) (λv h' hr=>?_);rotate_left
   .obtain⟨_,_,_,_,hr⟩:=hr;rcases hr with⟨hr,_⟩|⟨hr,_⟩<;>cases hr
   obtain⟨lo3,ext,rfl,hlo3,hr⟩:=hr;rcases hr with⟨hr,hI3⟩|⟨hr,hF⟩
   .cases hr;simp only[go_sem,simprocAttr];refine bh (d2++[a],r2,pre2++[mq t.error a b],lo3,mid2++[.row 2 [.p a.pv]]++ext) ⟨by rw[f1];simp,by rw[f2];simp,by simpa using hI3,hlo3,by rw[cF];exact hbt _⟩ (j4 _) (by simp[cF,HrMark.pv]) ?_;simp only[hnx2,go_sem,simprocAttr]
   .cases hr;simp only[go_sem,simprocAttr];exact⟨lo3,mid2++[.row 2 [.p a.pv]]++ext,by simp[cF,HrMark.pv],hlo3,.inr hF⟩
structure TestOk (t:HrTest):Prop extends MarksOk t where
 two:2<=t.marks.length
 sorted:t.marks.Pairwise λa b=>a.minute<b.minute
def ja (q p:Frac×Frac):Frac×Frac:=(jy q.1 p.1,jz q.2 p.2)
def i6:Frac×Frac:=(⟨0,0⟩,⟨0,0⟩)
def eE (t:HrTest):Frac×Frac:=(fp t).foldl ja i6
def Nr (x:Int):Int:=if 0<x then x else 0
def dN (t:HrTest):Span×Bool:=(⟨Nr (eE t).1.down,Nr (eE t).2.up⟩,!(eE t).2.lt (eE t).1)
def j2 (q:Frac×Frac):Prop:=q.1.B/\q.2.B/\0<q.1.below/\0<q.2.below
theorem AX{t}(hok:TestOk t):∀(rest done),t.marks=done++rest->∀q,q∈iH t.error done rest->j2 q
 |[],_,_,q,h=>by cases h
 |b::r,done,e,q,h=>by
  rw[iH,dr,cH]at h;rcases h with⟨a,ha,rfl⟩|h
  .have h1:=hok.all a (by rw[e];simp[ha]);have h2:=hok.all b (by rw[e];simp);have h3:a.minute<b.minute:=by
    have:=hok.sorted;rw[e,List.pairwise_append]at this;exact this.2.2 a ha b (by simp)
   have h4:=hok.err;simp only[j2,mq,Frac.B];omega
  .exact AX hok r (done++[b]) (by rw[e];simp) q h
theorem nD{t}(hok:TestOk t):∀q,q∈fp t->j2 q:=AX hok t.marks [] rfl
theorem zY{q p}(hq:q=i6\/j2 q)(hp:j2 p):j2 (ja q p):=by
 unfold ja jy jz;rcases hq with rfl|hq
 .simpa[i6]using hp
 .unfold j2 at *
  refine⟨?_,?_,?_,?_⟩<;>dsimp only<;>split<;>simp_all
theorem Ab:∀(l) (q),(q=i6\/j2 q)->(∀p,p∈l->j2 p)->(l.foldl ja q=i6/\l=[]\/j2 (l.foldl ja q))
 |[],q,hq,_=>hq.imp (λh=>⟨h,rfl⟩) id
 |p::l,q,hq,hl=>by
  have:=Ab l (ja q p) (.inr (zY hq (hl p (by simp)))) λp' hp'=>hl p' (by simp[hp']);rcases this with⟨h1,h2⟩|h
  .subst h2;exact .inr (zY hq (hl p (by simp)))
  .exact .inr h
theorem Gj{t}(h:2<=t.marks.length):fp t≠[]:=by
 unfold fp
 match hm:t.marks with
 |[]=>rw[hm]at h;simp at h
 |[a]=>rw[hm]at h;simp at h
 |a::b::r=>simp[iH]
theorem zL{t}(hok:TestOk t):j2 (eE t):=by
 rcases Ab (fp t) i6 (.inl rfl) (nD hok) with⟨_,h⟩|h
 .exact absurd h (Gj hok.two)
 .exact h
theorem Se:i6.1.B/\i6.2.B:=by simp[i6,Frac.B]
set_option maxHeartbeats 2000000 in
theorem BH(t)(hok:TestOk t):af TP 83 [t.pv] (.tuple [(dN t).1.pv,.bool (dN t).2]):=by
 refine aa (eg (by kernel_rfl) rfl ZR) rfl ?_;simp only[Yl,go_sem,simprocAttr];refine ae (V3 t) rfl ?_;simp only[sD,go_sem,simprocAttr]
 refine Kn (l:=(fp t).map xF) (λo k h=>h=[.row 3 [.p t.pv],.row 2 [.p (.agg [.int .i64 0,.int .i64 0])],.row 2 [.p (((fp t).take k).foldl ja i6).1.pv],.row 2 [.p (((fp t).take k).foldl ja i6).2.pv],
   .row 1 [.func (.func 121) [] [.ptr 2 1 0 0,.ptr 3 1 0 0]],.dblock,o]) (λ_ _=>False)
  rfl (by simp only[sD,go_sem,simprocAttr]) (Vo t hok.toMarksOk) bI (by kernel_rfl) (by kernel_rfl) (by kernel_rfl) ?_ ?_ ?_ ?_ (λ_ _ _ h=>h.elim)
 .rintro o k h rfl;simp
 .intro o;simp only[i6,go_sem,simprocAttr];exact⟨rfl,rfl⟩
 .rintro oR oB oD k xs lo mid hk rfl _
  rw[cO,cg]at hk;obtain⟨q,hq,rfl⟩:=hk;have hqB:=nD hok q (aG hq);have hkB:(((fp t).take k).foldl ja i6).1.B/\(((fp t).take k).foldl ja i6).2.B:=by
   rcases Ab ((fp t).take k) i6 (.inl rfl) (λp hp=>nD hok p (tO hp)) with⟨h,_⟩|h
   .rw[h];exact Se
   .exact⟨h.1,h.2.1⟩
  have mg:=k8 (lo:=mid) rfl;have mgg:=k7 (lo:=mid) rfl;have ms:=mT (lo:=mid) rfl;have mss:=mS (lo:=mid) rfl;simp only[xF,cF,aB,bn,mg,mgg,ms,mss,go_sem,simprocAttr];refine cJ (XG _ _ q.1 q.2 2 3 _ rfl rfl (by decide) hkB.1 hkB.2 hqB.1 hqB.2.1) ?_;simp only[go_sem,simprocAttr];refine⟨_,[AObj.row 2 [AV.p q.1.pv],AObj.row 2 [AV.p q.2.pv]]++[AObj.row 2 [AV.p q.1.pv],AObj.row 2 [AV.p q.2.pv]],?_,by simp,rfl⟩;rw[s6,hq,Option.toList_some,B8];simp[ja,Frac.pv]
 .rintro o lo mid rfl _
  have hr:=zL hok;rw[eF,qN];have e:List.foldl ja i6 (fp t)=eE t:=rfl;rw[e];simp only[aL,go_sem,simprocAttr];refine ax (mC (eE t).1 hr.2.2.1 (by have:=hr.1.1;omega) (by have:=hr.1.2.1;omega)) rfl ?_;simp only[go_sem,simprocAttr];refine ax (Yd (eE t).2 hr.2.2.2 (by have:=hr.2.1.1;omega) (by have:=hr.2.1.2.1;omega)) rfl ?_;simp only[go_sem,simprocAttr];refine ax (BJ (eE t).2 (eE t).1 hr.2.1 hr.1) rfl ?_;simp only[dN,Nr,go_sem,simprocAttr];rw[cb];simp only[go_sem,simprocAttr]
end Abs
end Go.Proofs.YtoapoaoelpcniaaGreatDoor
