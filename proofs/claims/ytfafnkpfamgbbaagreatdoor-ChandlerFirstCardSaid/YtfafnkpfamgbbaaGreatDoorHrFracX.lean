/-
  CONTRACTS: fractions; what marks allow; the rate of a test. No conditions but those in the
  CONTRACTS: Rate; ref.Possible. No conditions but those in the theorems' heads.
  CONTRACTS: marks that are odd; a test without a mark. No conditions but those in the theor
-/
import Derived.Test.YtfafnkpfamgbbaaGreatDoorAbsCutX
import Derived.Test.YtfafnkpfamgbbaaGreatDoorWxMixX
import Derived.Test.YtfafnkpfamgbbaaGreatDoorWxChkX
set_option linter.unusedSimpArgs false
set_option linter.unusedVariables false
open Go.Proofs.Tryz renaming prog->TP
namespace Go.Proofs.YtfafnkpfamgbbaaGreatDoor
namespace Abs
set_option maxRecDepth 4000
structure Frac where
 top:Int
 below:Int
 deriving DecidableEq
def Frac.pv (f:Frac):PV:=.agg [.int .i64 f.top,.int .i64 f.below]
attribute [go_sem] Frac.pv
def Frac.B (f:Frac):Prop:=-1000000000<=f.top/\f.top<=1000000000/\0<=f.below/\f.below<=1000000000
def Frac.lt (f g:Frac):Bool:=decide (f.top*g.below<g.top*f.below)
def Frac.down (f:Frac):Int:=f.top / f.below
def Frac.up (f:Frac):Int:=-(-f.top / f.below)
theorem Hy {a b} (h1:-1000000000<=a) (h2:a<=1000000000) (h3:0<=b) (h4:b<=1000000000):-1000000000000000000<=a*b/\a*b<=1000000000000000000:=by
 have e1:a*b<=1000000000*b:=rY h2 h3;have e2:-1000000000*b<=a*b:=rY h1 h3;omega
theorem yO (f g:Frac) (hf:f.B) (hg:g.B):ah TP 280 [f.pv,g.pv] (.bool (f.lt g)):=by
 refine aa (ai (by kernel_rfl) rfl TY) rfl ?_;have h1:=Hy hf.1 hf.2.1 hg.2.2.1 hg.2.2.2;have h2:=Hy hg.1 hg.2.1 hf.2.2.1 hf.2.2.2;have e1:IntKind.i64.wrap (f.top*g.below)=f.top*g.below:=an (by omega) (by omega);have e2:IntKind.i64.wrap (g.top*f.below)=g.top*f.below:=an (by omega) (by omega);simp only [e1,e2,Frac.lt,go_sem,simprocAttr]
theorem sg (a b:Int) (hb:0<b):a / b=if a.tmod b<0 then a.tdiv b-1 else a.tdiv b:=by
 have h1:=Int.tdiv_eq_ediv (a:=a) (b:=b);have h2:=Int.tmod_eq_emod (a:=a) (b:=b);have h3:=Int.emod_nonneg a (Int.ne_of_gt hb);have h4:=Int.emod_lt_of_pos a hb;have h5:b.sign=1:=Int.sign_eq_one_of_pos hb;have h6:(b.natAbs:Int)=b:=Int.natAbs_of_nonneg (GM hb);rw [h5] at h1;by_cases hc:0<=a\/b ∣ a
 .rw [if_pos hc] at h1 h2;rw [if_neg (by omega)];omega
 .rw [if_neg hc] at h1 h2;rw [if_pos (by omega)];omega
theorem yG {a b B} (hb:0<b) (h1:-B<=a) (h2:a<=B) (hB:0<=B):-B<=a / b/\a / b<=B:=by
 refine ⟨?_,?_⟩
 .have:-B*b<=a:=by
   have:B*1<=B*b:=xn (by omega) hB;have e:-B*b=-(B*b):=by rw [xr]
   omega
  exact (zd hb).2 this
 .rcases GW 0 a with h | h
  .exact uX (Int.ediv_le_self b h) h2
  .have:a / b<=0:=by
    have:=xq hb h;simpa using this
   omega
theorem kO (f:Frac) (hb:0<f.below) (h1:-1000000000000000000<=f.top) (h2:f.top<=1000000000000000000):ah TP 282 [f.pv] (.int .i64 f.down):=by
 refine aa (ai (by kernel_rfl) rfl TW) rfl ?_;have hb0:¬ f.below=0:=by omega
 have hr:=yG hb h1 h2 (by omega);have hd:=sg f.top f.below hb;have e1:IntKind.i64.wrap (f.top.tdiv f.below)=f.top.tdiv f.below:=by
  split at hd
  .exact an (by omega) (by omega)
  .exact an (by omega) (by omega)
 simp only [hb0,e1,Frac.down,go_sem,simprocAttr];cases hm:decide (f.top.tmod f.below<0)
 .rw [if_neg (by simpa using hm)] at hd;simp only [hd,go_sem,simprocAttr]
 .rw [if_pos (by simpa using hm)] at hd;have e2:IntKind.i64.wrap (f.top.tdiv f.below-1)=f.top.tdiv f.below-1:=an (by omega) (by omega);simp only [hd,e2,go_sem,simprocAttr]
theorem WV (f:Frac) (hb:0<f.below) (h1:-1000000000000000000<=f.top) (h2:f.top<=1000000000000000000):ah TP 283 [f.pv] (.int .i64 f.up):=by
 refine aa (ai (by kernel_rfl) rfl TV) rfl ?_;have e1:IntKind.i64.wrap (-f.top)=-f.top:=an (by omega) (by omega);have hr:=yG (a:=-f.top) (B:=1000000000000000000) hb (by omega) (by omega) (by omega);have e2:IntKind.i64.wrap (-(-f.top / f.below))=-(-f.top / f.below):=an (by omega) (by omega);simp only [e1,go_sem,simprocAttr];refine ae (kO ⟨-f.top,f.below⟩ hb (by show -1000000000000000000<=-f.top;omega) (by show -f.top<=1000000000000000000;omega)) rfl ?_;simp only [Frac.down,e2,Frac.up,go_sem,simprocAttr]
def iq (lo least:Frac):Frac:=if (decide (lo=⟨0,0⟩)||lo.lt least)=true then least else lo
def ir (hi most:Frac):Frac:=if (decide (hi=⟨0,0⟩)||most.lt hi)=true then most else hi
theorem vD (f:Frac):((f.top==0)&&(f.below==0))=decide (f=⟨0,0⟩):=by
 cases f with
 |mk a b=>rw [rW];simp
theorem Wf (lo hi least most) (i j) (h) (hi0:h[i]?=some (.row 2 [.p lo.pv])) (hj0:h[j]?=some (.row 2 [.p hi.pv])) (hij:i≠j) (b1:lo.B) (b2:hi.B) (b3:least.B) (b4:most.B) :
  ay TP 279 [.p least.pv,.p most.pv,.ptr i 1 0 0,.ptr j 1 0 0] h (λr h'=>r=.ret (.p (.tuple [])) /\
   h'=(h.set i (.row 2 [.p (iq lo least).pv])).set j (.row 2 [.p (ir hi most).pv])++[.row 2 [.p least.pv],.row 2 [.p most.pv]]):=by
 refine ax (ai (by kernel_rfl) rfl TZ) rfl ?_;have hil:i<h.length:=(ar.1 hi0).1;have hjl:j<h.length:=(ar.1 hj0).1;have gi:∀ t,(h++t)[i]?=some (.row 2 [.p lo.pv]):=λt=>by rw [aS hil];exact hi0
 have gj:∀ t,(h++t)[j]?=some (.row 2 [.p hi.pv]):=λt=>by rw [aS hjl];exact hj0
 have gj2:∀ x t,(h.set i x++t)[j]?=some (.row 2 [.p hi.pv]):=λx t=>by rw [aS (by simpa using hjl),cw hij];exact hj0
 have si:∀ t x,(h++t).set i x=h.set i x++t:=λt x=>IH _ _ hil;have sj:∀ t x,(h++t).set j x=h.set j x++t:=λt x=>IH _ _ hjl;have sj2:∀ t x y,(h.set i y++t).set j x=(h.set i y).set j x++t:=λt x y=>IH _ _ (by simpa using hjl);have gg:=km (lo:=h) rfl;have g0:=kn (lo:=h) rfl;have gg2:∀ x,∀ t j,(h.set i x++t)[h.length+j]?=t[j]?:=λx=>km (lo:=h.set i x) (by simp);have g02:∀ x,∀ t,(h.set i x++t)[h.length]?=t[0]?:=λx=>kn (lo:=h.set i x) (by simp);have same_i:h.set i (.row 2 [.p lo.pv])=h:=mV hi0;have same_j:h.set j (.row 2 [.p hi.pv])=h:=mV hj0;have same_j2:∀ x,(h.set i x).set j (.row 2 [.p hi.pv])=h.set i x:=λx=>mV (by rw [cw hij];exact hj0);simp only [Frac.pv] at gi gj gj2 same_i same_j same_j2;simp only [di,aP,bu,gi,vD,go_sem,simprocAttr];cases z1:decide (lo=⟨0,0⟩)
 .simp only [bu,gi,g0,go_sem,simprocAttr];refine ae (yO lo least b1 b3) rfl ?_;simp only [go_sem,simprocAttr];cases z2:lo.lt least
  .simp only [bu,gj,vD,go_sem,simprocAttr];cases z3:decide (hi=⟨0,0⟩)
   .simp only [bu,gj,gg,go_sem,simprocAttr];refine ae (yO most hi b4 b2) rfl ?_;simp only [go_sem,simprocAttr];cases z4:most.lt hi
    .simp only [go_sem,simprocAttr];simp only [iq,ir,z1,z2,z3,z4,jT,fa,if_false,same_i,same_j]
    .simp only [bu,gj,gg,sj,go_sem,simprocAttr];simp only [iq,ir,z1,z2,z3,z4,jT,if_true,fa,if_false,same_i]
   .simp only [bu,gj,gg,sj,go_sem,simprocAttr];simp only [iq,ir,z1,z2,z3,qj,jT,if_true,fa,if_false,same_i]
  .simp only [bu,gi,gj2,g0,si,vD,go_sem,simprocAttr];cases z3:decide (hi=⟨0,0⟩)
   .simp only [bu,gj2,gg2,go_sem,simprocAttr];refine ae (yO most hi b4 b2) rfl ?_;simp only [go_sem,simprocAttr];cases z4:most.lt hi
    .simp only [go_sem,simprocAttr];simp only [iq,ir,z1,z2,z3,z4,jT,if_true,fa,if_false,same_j2]
    .simp only [bu,gj2,gg2,sj2,go_sem,simprocAttr];simp only [iq,ir,z1,z2,z3,z4,jT,if_true]
   .simp only [bu,gj2,gg2,sj2,go_sem,simprocAttr];simp only [iq,ir,z1,z2,z3,qj,jT,if_true]
 .simp only [bu,gi,gj2,g0,si,vD,go_sem,simprocAttr];cases z3:decide (hi=⟨0,0⟩)
  .simp only [bu,gj2,gg2,go_sem,simprocAttr];refine ae (yO most hi b4 b2) rfl ?_;simp only [go_sem,simprocAttr];cases z4:most.lt hi
   .simp only [go_sem,simprocAttr];simp only [iq,ir,z1,z3,z4,qj,jT,if_true,fa,if_false,same_j2]
   .simp only [bu,gj2,gg2,sj2,go_sem,simprocAttr];simp only [iq,ir,z1,z3,z4,qj,jT,if_true]
  .simp only [bu,gj2,gg2,sj2,go_sem,simprocAttr];simp only [iq,ir,z1,z3,qj,if_true]
def kI (e:Int) (a b:HrMark):Frac×Frac:=(⟨60*(a.weight-b.weight-2*e),b.minute-a.minute⟩,⟨60*(a.weight-b.weight+2*e),b.minute-a.minute⟩)
def gA (e:Int):List HrMark->List HrMark->List (Frac×Frac)
 |_,[]=>[]
 |done,b::r=>done.map (λa=>kI e a b)++gA e (done++[b]) r
def ei (t:HrTest):List (Frac×Frac):=gA t.error [] t.marks
def uw (q:Frac×Frac):List PV:=[q.1.pv,q.2.pv]
def pU (t:HrTest):PV:=.func (.func 304) [] [.ptr 3 [t.pv] 0 0]
theorem RH (t):ah TP 281 [t.pv] (pU t):=by
 refine cI (ai (by kernel_rfl) rfl TX) rfl ?_;simp only [pU,go_sem,simprocAttr]
structure MarksOk (t:HrTest):Prop where
 len:t.marks.length<=10
 all:∀ m,m∈t.marks->0<=m.minute/\m.minute<=1000000/\0<=m.weight/\m.weight<=10000000
 err:0<=t.error/\t.error<=10000
set_option maxHeartbeats 2000000 in
theorem Q5 (t) (hok:MarksOk t):IE TP (pU t) 2 ((ei t).map uw):=by
 refine ⟨λa ha=>?_,_,_,_,rfl,λid Inv Fin h0 hid hy hi=>?_⟩
 .obtain ⟨q,_,rfl⟩:=dD.1 ha;rfl
 have hl:=hok.len;have he:=hok.err;refine ax (ai (by kernel_rfl) rfl TD) rfl ?_;simp only [go_sem,simprocAttr]
 refine eF [0,1,10,11] (σ:=List HrMark×List HrMark×List (Frac×Frac)×Heap×Heap)
  (λq=>t.marks=q.1++q.2.1/\ei t=q.2.2.1++gA t.error q.1 q.2.1/\Inv q.2.2.1.length q.2.2.2.1/\q.2.2.2.1.length=h0.length) (λq=>q.2.1.length)
  (λq=>[(12,.p (.int .i64 q.1.length))]) (λq=>q.2.2.2.1++q.2.2.2.2) ([],t.marks,[],h0,[]) ⟨rfl,rfl,hi,rfl⟩ (by simp) ?_ ?_
 .simp only [go_sem,simprocAttr]
 rintro ⟨done,rest,pre,lo,mid⟩ ⟨e1,e2,hI,hlo⟩
 dsimp only at e1 e2 hI hlo
 cases rest with
 |nil =>
  have hlt:¬ ((done.length:Int)<(t.marks.length:Int)):=by rw [e1];simp
  simp only [hlt,decide_false,go_sem,simprocAttr];refine ⟨lo,mid,rfl,hlo,.inl ?_⟩;rw [e2]
  simpa [gA] using hI
 |cons b r =>
  obtain ⟨hx,hlt⟩:=gC e1;have hlen:=congrArg List.length e1;simp only [aP,e9] at hlen;have hnx:IntKind.i64.wrap ((done.length:Int)+1)=(((done++[b]).length:Nat):Int):=bI (by omega) (by simp [aB];omega) (by simp);have hle:((done.length:Nat):Int)<=(t.marks.length:Int):=by omega
  have htk:(t.marks.map HrMark.pv).take done.length=done.map HrMark.pv:=by
   rw [e1,cp,fD (by simp)]
  have hne:(done.length==t.marks.length)=false:=by simp;omega
  have hb:=hok.all b (by rw [e1];simp);rw [gA] at e2;have gg:=km hlo;have ss:=mA hlo;have mg:=kn (lo:=mid) rfl;have ms:=mC (lo:=mid) rfl;simp only [hlt,decide_true,hx,hle,htk,hne,di,aP,bu,hlo,gg,ss,mg,ms,go_sem,simprocAttr]
  refine eF [0,1,4,10,11,12,20,21] (σ:=List HrMark×List HrMark×List (Frac×Frac)×Heap×Heap)
   (λq=>done=q.1++q.2.1/\ei t=q.2.2.1++(q.2.1.map (λa=>kI t.error a b)++gA t.error (done++[b]) r)/\Inv q.2.2.1.length q.2.2.2.1/\q.2.2.2.1.length=h0.length/\q.2.2.2.2[mid.length]?=some (.row 2 [.p b.pv])) (λq=>q.2.1.length)
   (λq=>[(22,.p (.int .i64 q.1.length))]) (λq=>q.2.2.2.1++q.2.2.2.2) ([],done,pre,lo,mid++[.row 2 [.p b.pv]]) ⟨rfl,e2,hI,hlo,mg _⟩ rfl ?_ ?_
  .simp only [go_sem,simprocAttr]
  clear gg ss mg ms hI hlo e2
  rintro ⟨d2,r2,pre2,lo2,mid2⟩ ⟨f1,f2,hI2,hlo2,hb2⟩
  dsimp only at f1 f2 hI2 hlo2 hb2
  cases r2 with
  |nil =>
   have hlt2:¬ ((d2.length:Int)<(done.length:Int)):=by rw [f1];simp
   simp only [hlt2,decide_false,go_sem,simprocAttr];refine bq (done++[b],r,pre2,lo2,mid2) ⟨by rw [e1];simp,by simpa using f2,hI2,hlo2⟩ (lz _) rfl ?_
   simp only [hnx,go_sem,simprocAttr]
  |cons a r2 =>
   obtain ⟨hxa,hlta⟩:=gC f1;have hlen2:=congrArg List.length f1;simp only [aP,e9] at hlen2;have hnx2:IntKind.i64.wrap ((d2.length:Int)+1)=(((d2++[a]).length:Nat):Int):=bI (by omega) (by simp [aB];omega) (by simp);have ha:=hok.all a (by rw [e1,f1];simp);have gg:=km hlo2;have ss:=mA hlo2;have mg:=kn (lo:=mid2) rfl;have ms:=mC (lo:=mid2) rfl;have hbt:∀ x,(mid2++x)[mid.length]?=some (.row 2 [.p b.pv]):=λx=>by rw [aS (ar.1 hb2).1];exact hb2
   simp only [HrMark.pv] at hbt;have w1:IntKind.i64.wrap (a.weight-b.weight)=a.weight-b.weight:=an (by omega) (by omega);have w2:IntKind.i64.wrap (b.minute-a.minute)=b.minute-a.minute:=an (by omega) (by omega);have w3:IntKind.i64.wrap (2*t.error)=2*t.error:=an (by omega) (by omega);have w4:IntKind.i64.wrap (a.weight-b.weight-2*t.error)=a.weight-b.weight-2*t.error:=an (by omega) (by omega);have w5:IntKind.i64.wrap (60*(a.weight-b.weight-2*t.error))=60*(a.weight-b.weight-2*t.error):=an (by omega) (by omega);have w6:IntKind.i64.wrap (a.weight-b.weight+2*t.error)=a.weight-b.weight+2*t.error:=an (by omega) (by omega);have w7:IntKind.i64.wrap (60*(a.weight-b.weight+2*t.error))=60*(a.weight-b.weight+2*t.error):=an (by omega) (by omega);have hget:((ei t).map uw)[pre2.length]?=some (uw (kI t.error a b)):=by rw [f2];simp
   simp only [hlta,decide_true,hxa,di,aP,bu,hlo2,gg,ss,mg,ms,hbt,w1,w2,w3,w4,w5,w6,w7,go_sem,simprocAttr];have hy':=hy pre2.length _ lo2 (mid2++[AObj.row 2 [AV.p a.pv]]) hget hI2 hlo2;refine oe hy' (λv h' hr=>?_) (λv h' hr=>?_);rotate_left
   .obtain ⟨_,_,_,_,hr⟩:=hr;rcases hr with ⟨hr,_⟩ | ⟨hr,_⟩<;>cases hr
   obtain ⟨lo3,ext,rfl,hlo3,hr⟩:=hr;rcases hr with ⟨hr,hI3⟩ | ⟨hr,hF⟩
   .cases hr;simp only [go_sem,simprocAttr];refine bq (d2++[a],r2,pre2++[kI t.error a b],lo3,mid2++[.row 2 [.p a.pv]]++ext) ⟨by rw [f1];simp,by rw [f2];simp,by simpa using hI3,hlo3,by rw [di];exact hbt _⟩ (lz _) (by simp [di,HrMark.pv]) ?_;simp only [hnx2,go_sem,simprocAttr]
   .cases hr;simp only [go_sem,simprocAttr];exact ⟨lo3,mid2++[.row 2 [.p a.pv]]++ext,by simp [di,HrMark.pv],hlo3,.inr hF⟩
structure TestOk (t:HrTest):Prop extends MarksOk t where
 two:2<=t.marks.length
 sorted:t.marks.Pairwise λa b=>a.minute<b.minute
def gV (q p:Frac×Frac):Frac×Frac:=(iq q.1 p.1,ir q.2 p.2)
def gR:Frac×Frac:=(⟨0,0⟩,⟨0,0⟩)
def dC (t:HrTest):Frac×Frac:=(ei t).foldl gV gR
def Jq (x:Int):Int:=if 0<x then x else 0
def cT (t:HrTest):Span×Bool:=(⟨Jq (dC t).1.down,Jq (dC t).2.up⟩,!(dC t).2.lt (dC t).1)
def iS (q:Frac×Frac):Prop:=q.1.B/\q.2.B/\0<q.1.below/\0<q.2.below
theorem xR {t} (hok:TestOk t):∀ (rest done),t.marks=done++rest->∀ q,q∈gA t.error done rest->iS q
 |[],_,_,q,h=>by cases h
 |b::r,done,e,q,h=>by
  rw [gA,bX,dD] at h;rcases h with ⟨a,ha,rfl⟩ | h
  .have h1:=hok.all a (by rw [e];simp [ha]);have h2:=hok.all b (by rw [e];simp);have h3:a.minute<b.minute:=by
    have:=hok.sorted;rw [e,List.pairwise_append] at this;exact this.2.2 a ha b (by simp)
   have h4:=hok.err;simp only [iS,kI,Frac.B];omega
  .exact xR hok r (done++[b]) (by rw [e];simp) q h
theorem lE {t} (hok:TestOk t):∀ q,q∈ei t->iS q:=xR hok t.marks [] rfl
theorem wV {q p} (hq:q=gR\/iS q) (hp:iS p):iS (gV q p):=by
 unfold gV iq ir;rcases hq with rfl | hq
 .simpa [gR] using hp
 .unfold iS at *
  refine ⟨?_,?_,?_,?_⟩<;>dsimp only<;>split<;>simp_all
theorem wZ:∀ (l) (q),(q=gR\/iS q)->(∀ p,p∈l->iS p)->(l.foldl gV q=gR/\l=[]\/iS (l.foldl gV q))
 |[],q,hq,_=>hq.imp (λh=>⟨h,rfl⟩) id
 |p::l,q,hq,hl=>by
  have:=wZ l (gV q p) (.inr (wV hq (hl p (by simp)))) λp' hp'=>hl p' (by simp [hp']);rcases this with ⟨h1,h2⟩ | h
  .subst h2;exact .inr (wV hq (hl p (by simp)))
  .exact .inr h
theorem CO {t} (h:2<=t.marks.length):ei t≠[]:=by
 unfold ei
 match hm:t.marks with
 |[]=>rw [hm] at h;simp at h
 |[a]=>rw [hm] at h;simp at h
 |a::b::r=>simp [gA]
theorem wI {t} (hok:TestOk t):iS (dC t):=by
 rcases wZ (ei t) gR (.inl rfl) (lE hok) with ⟨_,h⟩ | h
 .exact absurd h (CO hok.two)
 .exact h
theorem NZ:gR.1.B/\gR.2.B:=by simp [gR,Frac.B]
set_option maxHeartbeats 2000000 in
theorem yM (t) (hok:TestOk t):ah TP 237 [t.pv] (.tuple [(cT t).1.pv,.bool (cT t).2]):=by
 refine aa (ai (by kernel_rfl) rfl Uv) rfl ?_;simp only [Sr,go_sem,simprocAttr];refine ae (RH t) rfl ?_;simp only [pU,go_sem,simprocAttr]
 refine GE (l:=(ei t).map uw) (λo k h=>h=[.row 3 [.p t.pv],.row 2 [.p (.agg [.int .i64 0,.int .i64 0])],.row 2 [.p (((ei t).take k).foldl gV gR).1.pv],.row 2 [.p (((ei t).take k).foldl gV gR).2.pv],
   .row 1 [.func (.func 279) [] [.ptr 2 1 0 0,.ptr 3 1 0 0]],.dblock,o]) (λ_ _=>False)
  rfl (by simp only [pU,go_sem,simprocAttr]) (Q5 t hok.toMarksOk) jv (by kernel_rfl) (by kernel_rfl) (by kernel_rfl) ?_ ?_ ?_ ?_ (λ_ _ _ h=>h.elim)
 .rintro o k h rfl;simp
 .intro o;simp only [gR,go_sem,simprocAttr];exact ⟨rfl,rfl⟩
 .rintro oR oB oD k xs lo mid hk rfl _
  rw [cg,bz] at hk;obtain ⟨q,hq,rfl⟩:=hk;have hqB:=lE hok q (aI hq);have hkB:(((ei t).take k).foldl gV gR).1.B/\(((ei t).take k).foldl gV gR).2.B:=by
   rcases wZ ((ei t).take k) gR (.inl rfl) (λp hp=>lE hok p (nA hp)) with ⟨h,_⟩ | h
   .rw [h];exact NZ
   .exact ⟨h.1,h.2.1⟩
  have mg:=kn (lo:=mid) rfl;have mgg:=km (lo:=mid) rfl;have ms:=mC (lo:=mid) rfl;have mss:=mA (lo:=mid) rfl;simp only [uw,di,aP,bu,mg,mgg,ms,mss,go_sem,simprocAttr];refine b9 (Wf _ _ q.1 q.2 2 3 _ rfl rfl (by decide) hkB.1 hkB.2 hqB.1 hqB.2.1) ?_;simp only [go_sem,simprocAttr];refine ⟨_,[AObj.row 2 [AV.p q.1.pv],AObj.row 2 [AV.p q.2.pv]]++[AObj.row 2 [AV.p q.1.pv],AObj.row 2 [AV.p q.2.pv]],?_,by simp,rfl⟩;rw [wz,hq,Option.toList_some,r8];simp [gV,Frac.pv]
 .rintro o lo mid rfl _
  have hr:=wI hok;rw [fY,oN];have e:List.foldl gV gR (ei t)=dC t:=rfl;rw [e];simp only [bf,go_sem,simprocAttr];refine aC (kO (dC t).1 hr.2.2.1 (by have:=hr.1.1;omega) (by have:=hr.1.2.1;omega)) rfl ?_;simp only [go_sem,simprocAttr];refine aC (WV (dC t).2 hr.2.2.2 (by have:=hr.2.1.1;omega) (by have:=hr.2.1.2.1;omega)) rfl ?_;simp only [go_sem,simprocAttr];refine aC (yO (dC t).2 (dC t).1 hr.2.1 hr.1) rfl ?_;simp only [cT,Jq,go_sem,simprocAttr];rw [bJ];simp only [go_sem,simprocAttr]
def Frac.le (f g:Frac):Prop:=f.top*g.below<=g.top*f.below
theorem Frac.lt_iff (f g:Frac):f.lt g=true↔¬ g.le f:=by
 simp only [Frac.lt,Frac.le,decide_eq_true_eq];omega
theorem Frac.lt_false (f g:Frac):f.lt g=false↔g.le f:=by
 simp only [Frac.lt,Frac.le,decide_eq_false_iff_not];omega
theorem Frac.le_refl (f:Frac):f.le f:=tm _
theorem Frac.le_total (f g:Frac):f.le g\/g.le f:=by simp only [Frac.le];omega
theorem Frac.le_trans {f g h:Frac} (hf:0<f.below) (hg:0<g.below) (hh:0<h.below) (h1:f.le g) (h2:g.le h):f.le h:=by
 unfold Frac.le at *
 have e1:f.top*g.below*h.below<=g.top*f.below*h.below:=rY h1 (GM hh);have e2:g.top*h.below*f.below<=h.top*g.below*f.below:=rY h2 (GM hf);have e3:f.top*h.below*g.below<=h.top*f.below*g.below:=by
  have a1:f.top*h.below*g.below=f.top*g.below*h.below:=by rw [tC,u0 h.below,<-tC]
  have a2:g.top*f.below*h.below=g.top*h.below*f.below:=by rw [tC,u0 f.below,<-tC]
  have a3:h.top*f.below*g.below=h.top*g.below*f.below:=by rw [tC,u0 f.below,<-tC]
  omega
 exact Int.le_of_mul_le_mul_right e3 hg
theorem Frac.le_int (f:Frac) (n):f.le ⟨n,1⟩↔f.top<=n*f.below:=by simp [Frac.le]
theorem Frac.int_le (f) (n):Frac.le ⟨n,1⟩ f↔n*f.below<=f.top:=by simp [Frac.le]
theorem Frac.down_le {f:Frac} (hf:0<f.below) (n):n<=f.down↔n*f.below<=f.top:=zd hf
theorem Frac.up_le {f:Frac} (hf:0<f.below) (n):f.up<=n↔f.top<=n*f.below:=by
 unfold Frac.up;have:=zd (a:=-n) (b:=-f.top) hf;rw [xr] at this;constructor
 .intro h;have:=this.1 (by omega);omega
 .intro h;have:=this.2 (by omega);omega
def EE (l:List (Frac×Frac)) (q:Frac×Frac):Prop :=
 ((∃ p,p∈l/\p.1=q.1)/\∀ p,p∈l->p.1.le q.1)/\((∃ p,p∈l/\p.2=q.2)/\∀ p,p∈l->q.2.le p.2)
theorem HH {l} {q p} (hl:∀ x,x∈l->iS x) (hq:EE l q) (hqB:iS q) (hp:iS p):EE (l++[p]) (gV q p):=by
 have n1:q.1≠⟨0,0⟩:=λh=>by have:=hqB.2.2.1;rw [h] at this;exact absurd this (by decide)
 have n2:q.2≠⟨0,0⟩:=λh=>by have:=hqB.2.2.2;rw [h] at this;exact absurd this (by decide)
 obtain ⟨⟨⟨x,hx,ex⟩,h1⟩,⟨y,hy,ey⟩,h2⟩:=hq;unfold gV iq ir;simp only [decide_eq_false n1,decide_eq_false n2,jT];refine ⟨?_,?_⟩
 .dsimp only;cases hc:q.1.lt p.1
  .rw [Frac.lt_false] at hc;refine ⟨⟨x,by simp [hx],ex⟩,λz hz=>?_⟩;rcases bX.1 hz with hz | hz
   .exact h1 z hz
   .rw [dR.1 hz];exact hc
  .have hc':q.1.le p.1:=(Frac.le_total _ _).resolve_right (by rw [Frac.lt_iff] at hc;exact hc);refine ⟨⟨p,by simp,rfl⟩,λz hz=>?_⟩;rcases bX.1 hz with hz | hz
   .exact Frac.le_trans (hl z hz).2.2.1 hqB.2.2.1 hp.2.2.1 (h1 z hz) hc'
   .rw [dR.1 hz];exact Frac.le_refl _
 .dsimp only;cases hc:p.2.lt q.2
  .rw [Frac.lt_false] at hc;refine ⟨⟨y,by simp [hy],ey⟩,λz hz=>?_⟩;rcases bX.1 hz with hz | hz
   .exact h2 z hz
   .rw [dR.1 hz];exact hc
  .have hc':p.2.le q.2:=(Frac.le_total _ _).resolve_right (by rw [Frac.lt_iff] at hc;exact hc);refine ⟨⟨p,by simp,rfl⟩,λz hz=>?_⟩;rcases bX.1 hz with hz | hz
   .exact Frac.le_trans hp.2.2.2 hqB.2.2.2 (hl z hz).2.2.2 hc' (h2 z hz)
   .rw [dR.1 hz];exact Frac.le_refl _
theorem yC:∀ (r l) (q),(∀ x,x∈l++r->iS x)->EE l q->iS q->EE (l++r) (r.foldl gV q)
 |[],l,q,_,h,_=>by simpa using h
 |p::r,l,q,hb,h,hq=>by
  have hp:=hb p (by simp);have:=yC r (l++[p]) (gV q p) (by simpa using hb) (HH (λx hx=>hb x (by simp [hx])) h hq hp) (wV (.inr hq) hp);simpa using this
theorem xM {t} (hok:TestOk t):EE (ei t) (dC t):=by
 have hB:=lE hok;have hne:=CO hok.two;unfold dC
 cases hp:ei t with
 |nil=>exact absurd hp hne
 |cons p r =>
  rw [hp] at hB;have hpB:=hB p (by simp);have e:gV gR p=p:=by simp [gV,iq,ir,gR]
  rw [ky,e];have:=yC r [p] p (by simpa using hB) ⟨⟨⟨p,by simp,rfl⟩,by simp [Frac.le_refl]⟩,⟨p,by simp,rfl⟩,by simp [Frac.le_refl]⟩ hpB;simpa using this
def gI (t:HrTest):Bool:=(cT t).2
theorem LA {t} (hok:TestOk t):gI t=true↔∀ p,p∈ei t->∀ q,q∈ei t->p.1.le q.2:=by
 have hb:=xM hok;have hB:=lE hok;have hr:=wI hok;have e:gI t=true↔(dC t).1.le (dC t).2:=by
  rw [gI,cT];dsimp only;rw [B6,Frac.lt_false]
 rw [e];constructor
 .intro h p hp q hq;exact Frac.le_trans (hB p hp).2.2.1 hr.2.2.2 (hB q hq).2.2.2 (Frac.le_trans (hB p hp).2.2.1 hr.2.2.1 hr.2.2.2 (hb.1.2 p hp) h) (hb.2.2 q hq)
 .intro h;obtain ⟨⟨p,hp,e1⟩,_⟩:=hb.1;obtain ⟨⟨q,hq,e2⟩,_⟩:=hb.2;rw [<-e1,<-e2];exact h p hp q hq
theorem uy:∀ (l) (last),jL last l=false->(∀ m,m∈l->last<m.minute)/\l.Pairwise λa b=>a.minute<b.minute
 |[],_,_=>⟨λ_ h=>(eQ h).elim,.nil⟩
 |m::r,last,h=>by
  rw [jL,K2] at h;have h1:last<m.minute:=by simpa using h.1
  have ⟨h2,h3⟩:=uy r m.minute h.2;refine ⟨λx hx=>?_,.cons h2 h3⟩;rcases cz.1 hx with rfl | hx
  .exact h1
  .have:=h2 x hx;omega
theorem fz {nk} {t} (h:bL nk t=0):TestOk t/\0<=t.kind/\t.kind<nk:=by
 unfold bL at h;split at h
 .rename_i h1;split at h
  .rename_i h2;split at h
   .rename_i h3;split at h
    .rename_i h4;split at h
     .cases h
     .rename_i h5;simp [az] at h1 h2 h3;have h5':=uy _ _ (GZ.2 h5);rw [j2] at h4;refine ⟨⟨⟨by omega,λm hm=>?_,by omega⟩,by omega,h5'.2⟩,by omega,by omega⟩;have:=h4 m hm;simp [mo,az] at this;omega
    .cases h
   .cases h
  .cases h
 .cases h
theorem FY {s} {t} (h:bS s [t]=0):(hrCheck s).2.2=0/\bL s.kinds.length t=0:=by
 unfold bS at h;split at h
 .rename_i hc;refine ⟨hc,?_⟩;simp only [cu] at h;split at h<;>assumption
 .contradiction
def dh (s:HrShop) (t:HrTest):Span×Int:=if bS s [t]=0 then (if gI t=true then ((cT t).1,0) else (⟨0,0⟩,9)) else (⟨0,0⟩,bS s [t])
theorem WE (s) (t):ah TP 167 [s.pv,t.pv] (.tuple [(dh s t).1.pv,.int .i64 (dh s t).2]):=by
 refine aa (ai (by kernel_rfl) rfl Vh) rfl ?_;simp only [go_sem,simprocAttr];refine bh (nn s [t] true (by simp)) (by simp only [go_sem,simprocAttr]) (.int _ _) ?_;simp only [go_sem,simprocAttr];cases h0:(bS s [t] != 0)
 rotate_left
 .have h0':¬ bS s [t]=0:=by simpa using h0
  simp only [dh,if_neg h0',go_sem,simprocAttr]
 have h0':bS s [t]=0:=by simpa using h0
 have hok:=(fz (FY h0').2).1;simp only [go_sem,simprocAttr];refine ae (yM t hok) rfl ?_;simp only [Span.pv,go_sem,simprocAttr];cases h1:(cT t).2
 .simp only [dh,h0',gI,h1,go_sem,simprocAttr]
 .simp only [dh,h0',gI,h1,go_sem,simprocAttr]
def tt {α:Type}:List α->List (α×α)
 |[]=>[]
 |x::r=>r.map (λy=>(x,y))++tt r
theorem oU {α} (x:α):∀ l,∀ q,q∈tt (l++[x])↔q∈tt l\/∃ y,y∈l/\q=(y,x)
 |[],q=>by simp [tt]
 |z::l,q=>by
  rw [gQ,tt,tt,bX,bX,oU x l,cp,bX];simp only [bQ,cO,cz,eQ,or_false];constructor
  .rintro ((h | h) | h | ⟨y,hy,h⟩)
   .exact .inl (.inl h)
   .exact .inr ⟨z,.inl rfl,h⟩
   .exact .inl (.inr h)
   .exact .inr ⟨y,.inr hy,h⟩
  .rintro ((h | h) | ⟨y,rfl | hy,h⟩)
   .exact .inl (.inl h)
   .exact .inr (.inl h)
   .exact .inl (.inr h)
   .exact .inr (.inr ⟨y,hy,h⟩)
theorem vV (e):∀ (rest done) (q),(q∈gA e done rest\/∃ p,p∈tt done/\q=kI e p.1 p.2)↔∃ p,p∈tt (done++rest)/\q=kI e p.1 p.2
 |[],done,q=>by simp [gA]
 |b::r,done,q=>by
  have:=vV e r (done++[b]) q;rw [di,KT] at this;rw [<-this,gA,bX,dD];constructor
  .rintro ((⟨a,ha,h⟩ | h) | ⟨p,hp,h⟩)
   .exact .inr ⟨(a,b),(oU b done _).2 (.inr ⟨a,ha,rfl⟩),h.symm⟩
   .exact .inl h
   .exact .inr ⟨p,(oU b done _).2 (.inl hp),h⟩
  .rintro (h | ⟨p,hp,h⟩)
   .exact .inl (.inr h)
   .rcases (oU b done _).1 hp with hp | ⟨a,ha,rfl⟩
    .exact .inr ⟨p,hp,h⟩
    .exact .inl (.inl ⟨a,ha,h.symm⟩)
theorem Jt (t) (q):q∈ei t↔∃ p,p∈tt t.marks/\q=kI t.error p.1 p.2:=by
 have:=vV t.error t.marks [] q;simpa [tt,ei] using this
def dU (m:HrMark):AV:=.p m.pv
attribute [go_sem] dU
def sG:AV:=.p (.agg [.int .i64 0,.int .i64 0])
theorem OJ (l) (b) (h) (hl:l≠[]) (hlen:l.length<=10) :
  ay TP 239 [.p (.slice 2 (l.map HrMark.pv) b)] h (λr h'=>r=.ret (.slice h.length l.length 0 l.length)/\h'=h++[.row 2 (l.map dU)]):=by
 refine ax (ai (by kernel_rfl) rfl Ut) rfl ?_;have hne:¬ (l.map HrMark.pv=[]):=by simpa using hl
 have hrm:l.length<=aB:=by simp [aB];omega
 have hm:(l.map HrMark.pv).map AV.p=l.map dU:=by simp [dU]
 have hne2:¬ (l.map dU=[]):=by simpa using hl
 simp only [hne,hrm,hm,hne2,go_sem,simprocAttr]
theorem LY (l:List HrMark) (i id) (h) (hid:h[id]?=some (.row 2 (l.map dU))) (hi:i<l.length) (hlen:l.length<=10) :
  ay TP 238 [.slice id l.length 0 l.length,.p (.int .i64 i),.p (.int .i64 (i+1:Nat))] h
   (λr h'=>r=.ret (.slice id l.length 0 (l.length-1))/\h'=h.set id (.row 2 ((l.eraseIdx i).map dU++[sG]))):=by
 refine ax (ai (by kernel_rfl) rfl Uu) rfl ?_;have h1:(i:Int)<=((i+1:Nat):Int):=by omega
 have h2:((i+1:Nat):Int)<=(l.length:Int):=by omega
 have h3:((i:Int)==((i+1:Nat):Int))=false:=by simp;omega
 have h0:(0:Int)<=(i:Int):=by omega
 have h4:(0:Int)+(l.length:Int)<=(l.length:Int):=by omega
 have h5:(i:Int)<=(l.length:Int):=by omega
 have h6:i+1+(l.length-(i+1))<=l.length:=by omega
 have h7:¬ (i=l.length):=by omega
 have hys:List.take (l.length-(i+1)) (List.drop (i+1) (List.map dU l))=(l.drop (i+1)).map dU:=by
  rw [<-List.map_drop,fx (by simp)]
 have h8:i+(l.length-(i+1))=l.length-1:=by omega
 have h9:l.length-1<=l.length:=by omega
 obtain ⟨z,hz⟩:∃ z,List.drop (l.length-1) (List.map dU l)=[z]:=by
  have:(List.drop (l.length-1) (List.map dU l)).length=1:=by simp;omega
  match hd:List.drop (l.length-1) (List.map dU l),this with
  |[z],_=>exact ⟨z,rfl⟩
 have her:List.take i (List.map dU l)++((l.drop (i+1)).map dU++[z])=(l.eraseIdx i).map dU++[z]:=by
  rw [<-di,<-M8,<-cp,Na]
 have hel:(l.eraseIdx i).length=l.length-1:=by rw [wA,if_pos hi]
 have hgs:∀ x,(h.set id x)[id]?=some x:=λx=>by rw [gX (ar.1 hid).1]
 have h10:((l.length-1:Nat):Int)<=(l.length:Int):=by omega
 have h11:(0:Int)<=((l.length-1:Nat):Int):=by omega
 have h12:l.length-1+1=l.length:=by omega
 have h13:l.length-(l.length-1)=1:=by omega
 have h14:l.length-1+(l.length-(l.length-1))<=l.length:=by omega
 have h15:¬ ((l.length:Int)<=((l.length-1:Nat):Int)):=by omega
 have htk:List.take (l.length-1) (List.map dU (l.eraseIdx i)++[z])=List.map dU (l.eraseIdx i):=fD (by rw [fY,hel]);have rv:List.drop l.length (List.map dU (l.eraseIdx i)++[z])=[]:=GT (by simp [hel];omega);simp only [h15,htk,rv,hid,h0,h1,h2,h3,h4,h5,h6,h7,hys,h8,h9,hz,her,hel,hgs,h10,h11,h12,h13,Nat.sub_zero,j3,List.length_drop,di,oJ,aP,bu,bR,bF,BO,KW,sG,go_sem,simprocAttr]
def wO (l:List Int):PV:=.slice 1 (l.map aJ) false
def wo (t:HrTest) (i:Nat):HrTest:={ t with marks:=t.marks.eraseIdx i }
def mj (t:HrTest):Nat->List HrMark->List Int
 |_,[]=>[]
 |i,_::r=>(if gI (wo t i)=true then [(i:Int)] else [])++mj t (i+1) r
def vA (t:HrTest):List Int:=if gI t=true then [] else mj t 0 t.marks
theorem SR {t} (hok:TestOk t) {i} (h3:3<=t.marks.length):TestOk (wo t i):=by
 have hs:(t.marks.eraseIdx i).Sublist t.marks:=List.eraseIdx_sublist ..;have hl:(t.marks.eraseIdx i).length<=t.marks.length/\2<=(t.marks.eraseIdx i).length:=by
  rw [wA];split<;>omega
 exact ⟨⟨j1 hl.1 hok.len,λm hm=>hok.all m (hs.subset hm),hok.err⟩,hl.2,hok.sorted.sublist hs⟩
theorem Lz {t} (hok:TestOk t) (h:t.marks.length=2):gI t=true:=by
 rw [LA hok]
 match hm:t.marks,h with
 |[a,b],_ =>
  intro p hp q hq;have e:ei t=[kI t.error a b]:=by simp [ei,gA,hm]
  rw [e,dR] at hp hq;subst hp hq;have h1:=lE hok (kI t.error a b) (by rw [e];simp);have h2:0<b.minute-a.minute:=h1.2.2.1;have h3:=hok.err;show _*_<=_*_;simp only [kI];exact rY (by omega) (by omega)
def jF (s:HrShop) (t:HrTest):List Int×Int:=if bS s [t]=0 then (vA t,0) else ([],bS s [t])
set_option maxHeartbeats 2000000 in
theorem RN (s) (t):ah TP 168 [s.pv,t.pv] (.tuple [wO (jF s t).1,.int .i64 (jF s t).2]):=by
 refine gb (ai (by kernel_rfl) rfl Vg) rfl ?_;simp only [go_sem,simprocAttr];refine bh (nn s [t] true (by simp)) (by simp only [go_sem,simprocAttr]) (.int _ _) ?_;simp only [go_sem,simprocAttr];cases h0:(bS s [t] != 0)
 rotate_left
 .have h0':¬ bS s [t]=0:=by simpa using h0
  simp only [jF,if_neg h0',wO,cO,go_sem,simprocAttr];exact ⟨_,_,rfl,rfl,.inr ⟨rfl,1,rfl⟩,.inl rfl,trivial⟩
 have h0':bS s [t]=0:=by simpa using h0
 have hok:=(fz (FY h0').2).1;have hsp:jF s t=(vA t,0):=by rw [jF,if_pos h0']
 rw [hsp];simp only [go_sem,simprocAttr];refine ae (yM t hok) rfl ?_;simp only [go_sem,simprocAttr];cases h1:(cT t).2;rotate_left
 .simp only [vA,gI,h1,wO,cO,go_sem,simprocAttr];exact ⟨_,_,rfl,rfl,.inr ⟨rfl,1,rfl⟩,.inl rfl,trivial⟩
 have hnp:¬ gI t=true:=by simp [gI,h1]
 have h3:3<=t.marks.length:=by
  rcases cJ t.marks.length 3 with h | h
  .have:=hok.two;exact absurd (Lz hok (by omega)) hnp
  .exact h
 have hlen:=hok.len;have hne:t.marks≠[]:=by intro h;rw [h] at h3;simp at h3
 have hsp2:vA t=mj t 0 t.marks:=by rw [vA,if_neg hnp]
 rw [hsp2];simp only [go_sem,simprocAttr];refine et 4 1 (by simp only [go_sem,simprocAttr]) ?_;simp only [go_sem,simprocAttr]
 refine eF [3,8,28] (σ:=List HrMark×List HrMark×List Int×AObj×Heap)
  (λq=>t.marks=q.1++q.2.1/\mj t 0 t.marks=q.2.2.1++mj t q.1.length q.2.1/\q.2.2.1.length<=q.1.length/\(q.2.2.2.1=.row 3 [.p t.pv]\/∃ id ver n,q.2.2.2.1=.row 3 [.agg [.p (.int .i64 t.kind),.p (.int .i64 t.error),.slice id ver 0 n]])) (λq=>q.2.1.length)
  (λq=>[(4,.slice 3 q.2.2.1.length 0 q.2.2.1.length),(29,.p (.int .i64 q.1.length))]) (λq=>[.row 3 [.p s.pv],q.2.2.2.1,.row 2 [.p (cT t).1.pv],.row 1 (q.2.2.1.map λn=>.p (aJ n))]++q.2.2.2.2) ([],t.marks,[],.row 3 [.p t.pv],[]) ⟨rfl,rfl,bR _,.inl rfl⟩ (by simp only [Span.pv,cO,bF,go_sem,simprocAttr]) ?_ ?_
 .simp only [go_sem,simprocAttr]
 rintro ⟨done,rest,out,a,g⟩ ⟨e1,e2,e3,ha⟩
 dsimp only at e1 e2 e3 ha
 cases rest with
 |nil =>
  have hlt:¬ ((done.length:Int)<(t.marks.length:Int)):=by rw [e1];simp
  rw [mj,bF] at e2;simp only [hlt,decide_false,e2,wO,go_sem,simprocAttr]
  exact .inl rfl
 |cons b r =>
  obtain ⟨hx,hlt⟩:=gC e1;have hlen1:=congrArg List.length e1;simp only [aP,e9] at hlen1;have hi:done.length<t.marks.length:=by omega
  have hnx:IntKind.i64.wrap ((done.length:Int)+1)=(((done++[b]).length:Nat):Int):=bI (by omega) (by simp [aB];omega) (by simp);have hn1:IntKind.i64.wrap ((done.length:Int)+1)=((done.length+1:Nat):Int):=by rw [hnx];simp
  have hwo:=SR hok (i:=done.length) h3;simp only [hlt,decide_true,go_sem,simprocAttr];refine b9 (OJ t.marks false _ hne hlen) ?_;simp only [hn1,go_sem,simprocAttr];have g0:=kn (lo:=g) rfl;have s0:=mC (lo:=g) rfl;have gg:=km (lo:=g) rfl;have ss:=mA (lo:=g) rfl;refine b9 (LY t.marks done.length _ _ (by simp) hi hlen) ?_;have hrm:out.length+1<=aB:=by simp [aB];omega
  have hog:mj t done.length (b::r)=(if gI (wo t done.length)=true then [((done.length:Nat):Int)] else [])++mj t (done.length+1) r:=rfl;rw [hog] at e2;have hfz:∀ n h,aO (bV n h) (List.map dU (t.marks.eraseIdx done.length)++[sG])=some ((wo t done.length).marks.map HrMark.pv++[.agg [.int .i64 0,.int .i64 0]]):=by
   intro n h;have e:List.map dU (t.marks.eraseIdx done.length)++[sG]=List.map AV.p ((wo t done.length).marks.map HrMark.pv++[.agg [.int .i64 0,.int .i64 0]]):=by simp [dU,sG,wo]
   rw [e];exact cZ (dO n h) id _ |>.trans (by simp)
  have htk2:List.take (t.marks.length-1) ((t.marks.eraseIdx done.length).map HrMark.pv++[.agg [.int .i64 0,.int .i64 0]])=(t.marks.eraseIdx done.length).map HrMark.pv:=by
   rw [fD (by rw [fY,wA,if_pos hi])]
  have hel2:(t.marks.eraseIdx done.length).length+1=t.marks.length:=by rw [wA,if_pos hi];omega
  have hfl:t.marks.length-1<=t.marks.length:=by omega
  rcases ha with rfl | ⟨id,ver,n,rfl⟩ <;>
  (simp only [s0,go_sem,simprocAttr]
   refine bh (yM (wo t done.length) hwo) ?_ (.tuple ?_) ?_
   .simp only [g0,hfz,htk2,hel2,aP,bu,wo,go_sem,simprocAttr]
   .exact Flat.cons (.agg (Flat.cons (.int _ _) (Flat.cons (.int _ _) Flat.nil))) (Flat.cons (.bool _) Flat.nil)
   simp only [di,aP,bu,gg,ss,go_sem,simprocAttr];cases hp:(cT (wo t done.length)).2
   .simp only [go_sem,simprocAttr];refine bq (done++[b],r,out,_,g++[AObj.row 2 (List.map dU (t.marks.eraseIdx done.length)++[sG]),AObj.row 2 [AV.p (PV.agg [PV.int IntKind.i64 (cT (wo t done.length)).fst.lo,PV.int IntKind.i64 (cT (wo t done.length)).fst.hi])]]) ⟨by rw [e1];simp,by rw [e2,if_neg (by rw [gI,hp];simp)];simp,by simp;omega,.inr ⟨g.length+1+1+1+1,t.marks.length,t.marks.length-1,rfl⟩⟩ (lz _) ?_ ?_
    .simp only [go_sem,simprocAttr]
    .simp only [hnx,go_sem,simprocAttr]
   .simp only [bu,hrm,go_sem,simprocAttr];refine bq (done++[b],r,out++[((done.length:Nat):Int)],_,g++[AObj.row 2 (List.map dU (t.marks.eraseIdx done.length)++[sG]),AObj.row 2 [AV.p (PV.agg [PV.int IntKind.i64 (cT (wo t done.length)).fst.lo,PV.int IntKind.i64 (cT (wo t done.length)).fst.hi])]]) ⟨by rw [e1];simp,by rw [e2,if_pos (by rw [gI,hp])];simp,by simp;omega,.inr ⟨g.length+1+1+1+1,t.marks.length,t.marks.length-1,rfl⟩⟩ (lz _) ?_ ?_
    .simp only [go_sem,simprocAttr];rw [cp];rfl
    .simp only [hnx,aP,bu,go_sem,simprocAttr])
end Abs
end Go.Proofs.YtfafnkpfamgbbaaGreatDoor
