/-
  CONTRACTS: mixtures of which a sample can consist; Sold, in the program. No conditions but
  CONTRACTS: wax.Check and Sold in the reference. No conditions but those in the theorems' h
  CONTRACTS: wax.Sold in the reference; it is the program's. No conditions but those in the 
  CONTRACTS: wax.Sold in the reference: from which to which parts; it is the program's. No c
  CONTRACTS: wax.Sold in the reference; it is the program's. No conditions but those in the 
  CONTRACTS: hour.Check, in the program and in the reference: both come to 'hrCheck'. No con
  CONTRACTS: what is wrong with a test, with a shop and tests: in the program and in the ref
-/
import Derived.Test.YtfafnkpfamgbbaaGreatDoorAbsCutX
import Derived.Test.YtfafnkpfamgbbaaGreatDoorWxSold
import Derived.Test.YtfafnkpfamgbbaaGreatDoorLibNameX
set_option linter.unusedSimpArgs false
set_option linter.unusedVariables false
open Go.Proofs.Tryz renaming prog->TP
namespace Go.Proofs.YtfafnkpfamgbbaaGreatDoor
namespace Abs
namespace Wx
set_option maxRecDepth 4000
def io (t:WxTable) (rs:List Int) (q:Nat×Nat):Span :=
 match t.kinds[q.1]?,t.kinds[q.2]? with
 |some a,some b=>na t rs a b (if q.1=q.2 then 1000 else 1) (if q.1=q.2 then 1000 else 999)
 |_,_=>⟨1,0⟩
def qW (t:WxTable) (rs:List Int) (q:Nat×Nat):List ((Nat×Nat)×Span):=match t8 (io t rs q) with | some s=>[(q,s)] | none=>[]
def su (t:WxTable) (rs:List Int) (a:Nat):Nat->Nat->List ((Nat×Nat)×Span)
 |_,0=>[]
 |b,c+1=>qW t rs (a,b)++su t rs a (b+1) c
def qH (t:WxTable) (rs:List Int):Nat->Nat->List ((Nat×Nat)×Span)
 |_,0=>[]
 |a,c+1=>su t rs a 0 (a+1)++qH t rs (a+1) c
def kS (t:WxTable) (rs:List Int):List ((Nat×Nat)×Span):=qH t rs 0 t.kinds.length
def kE (m:(Nat×Nat)×Span):PV:=.agg [.int .i64 m.1.1,.int .i64 m.1.2,.int .i64 m.2.lo,.int .i64 m.2.hi]
attribute [go_sem] kE
theorem tW (t) (rs) (a):∀ (c b),su t rs a b c=(List.range' b c).flatMap λb=>qW t rs (a,b)
 |0,b=>rfl
 |c+1,b=>by rw [su,tW t rs a c (b+1),List.range'_succ,qh]
theorem KC (t) (rs):∀ (c a),qH t rs a c=((List.range' a c).flatMap λa=>(List.range (a+1)).map λb=>(a,b)).flatMap (qW t rs)
 |0,a=>rfl
 |c+1,a=>by
  rw [qH,KC t rs c (a+1),List.range'_succ,qh,tB,tW,List.flatMap_map,List.range_eq_range']
theorem F3 (t) (rs):kS t rs=(CN t.kinds.length).flatMap (qW t rs):=by
 rw [kS,KC,CN,List.range_eq_range']
theorem yi (t) (rs) (kind):∀ (l) (p),(l.flatMap (qW t rs)).foldl (λp m=>iu p (ib kind m.1 m.2)) p=joinL (λq=>(t8 (io t rs q)).map (ib kind q)) l p
 |[],p=>rfl
 |q::l,p=>by
  rw [qh,r8,yi t rs kind l,joinL];unfold qW;cases t8 (io t rs q)<;>rfl
def mn (t:WxTable) (rs:List Int):PV:=.func (.func 287) [] [.ptr 1 [pJ t rs] 0 0]
theorem Kg (t) (rs):ah TP 250 [pJ t rs] (mn t rs):=by
 refine cI (ai (by kernel_rfl) rfl Uo) rfl ?_;simp only [mn,go_sem,simprocAttr]
set_option maxHeartbeats 4000000 in
theorem JR (t) (rs) (ht:TableOk t) (hrs:rs.length=t.props.length) (hro:rs.all jC=true):IE TP (mn t rs) 1 ((kS t rs).map λm=>[kE m]):=by
 refine ⟨λa ha=>?_,_,_,_,rfl,λid Inv Fin h0 hid hy hi=>?_⟩
 .obtain ⟨q,_,rfl⟩:=dD.1 ha;rfl
 have hkl:=ht.kinds;refine ax (ai (by kernel_rfl) rfl TU) rfl ?_;simp only [go_sem,simprocAttr]
 refine eF [0,1,13] (σ:=Nat×List ((Nat×Nat)×Span)×Heap×Heap)
  (λq=>q.1<=t.kinds.length/\kS t rs=q.2.1++qH t rs q.1 (t.kinds.length-q.1)/\Inv q.2.1.length q.2.2.1/\q.2.2.1.length=h0.length) (λq=>t.kinds.length-q.1)
  (λq=>[(14,.p (.int .i64 q.1))]) (λq=>q.2.2.1++q.2.2.2) (0,[],h0,[]) ⟨cQ _,rfl,hi,rfl⟩ (by simp) ?_ ?_
 .simp only [go_sem,simprocAttr]
 rintro ⟨i,pre,lo,mid⟩ ⟨h1,h2,hI,hlo⟩
 dsimp only at h1 h2 hI hlo;rcases BK h1 with he | hlt0
 .have hlt:decide ((i:Int)<(t.kinds.length:Int))=false:=by simp;omega
  rw [he,Cb,qH,bF] at h2;simp only [hlt,go_sem,simprocAttr];refine ⟨lo,mid,rfl,hlo,.inl ?_⟩;rw [h2];exact hI
 have hlt:decide ((i:Int)<(t.kinds.length:Int))=true:=by simp;omega
 have hsub:t.kinds.length-i=(t.kinds.length-(i+1))+1:=by omega
 rw [hsub,qH] at h2;have hw:IntKind.i64.wrap ((i:Int)+1)=((i+1:Nat):Int):=bI (by omega) (by simp [aB];omega) (by omega);obtain ⟨a,ha⟩:∃ a,t.kinds[i]?=some a:=⟨_,b6 hlt0⟩
 simp only [hlt,hw,go_sem,simprocAttr]
 refine eF [0,1,3,13,14,18] (σ:=Nat×List ((Nat×Nat)×Span)×Heap×Heap)
  (λq=>q.1<=i+1/\kS t rs=q.2.1++(su t rs i q.1 (i+1-q.1)++qH t rs (i+1) (t.kinds.length-(i+1)))/\Inv q.2.1.length q.2.2.1/\q.2.2.1.length=h0.length) (λq=>i+1-q.1)
  (λq=>[(19,.p (.int .i64 q.1))]) (λq=>q.2.2.1++q.2.2.2) (0,pre,lo,mid) ⟨cQ _,h2,hI,hlo⟩ rfl ?_ ?_
 .simp only [go_sem,simprocAttr]
 clear h2 hI hlo
 rintro ⟨j,pre,lo,mid⟩ ⟨g1,g2,hI,hlo⟩
 dsimp only at g1 g2 hI hlo;rcases BK g1 with he | hltj
 .have hl2:decide ((j:Int)<((i+1:Nat):Int))=false:=by simp;omega
  rw [he,Cb,su,lX] at g2;simp only [hl2,go_sem,simprocAttr];refine bq (i+1,pre,lo,mid) ⟨by omega,g2,hI,hlo⟩ (by dsimp only;omega) rfl ?_;simp only [hw,go_sem,simprocAttr]
 have hl2:decide ((j:Int)<((i+1:Nat):Int))=true:=by simp;omega
 have hsub2:i+1-j=(i+1-(j+1))+1:=by omega
 rw [hsub2,su] at g2;have hwj:IntKind.i64.wrap ((j:Int)+1)=((j+1:Nat):Int):=bI (by omega) (by simp [aB];omega) (by omega);obtain ⟨b,hb⟩:∃ b,t.kinds[j]?=some b:=⟨_,b6 (by omega)⟩
 have hsame:((i:Int)==(j:Int))=decide (i=j):=by rw [rW];simp;omega
 have gg:=km hlo;have ss:=mA hlo;have mg:=kn (lo:=mid) rfl;have ms:=mC (lo:=mid) rfl;have mix:io t rs (i,j)=na t rs a b (if i=j then 1000 else 1) (if i=j then 1000 else 999):=by simp only [io,ha,hb]
 have fin:∀ {s:Span},io t rs (i,j)=s->(s.lo<=s.hi->qW t rs (i,j)=[((i,j),s)])/\(¬ s.lo<=s.hi->qW t rs (i,j)=[]):=by
  rintro s rfl
  unfold qW t8;constructor
  .intro h;rw [if_pos h]
  .intro h;rw [if_neg h]
 have cP:=λlo' hi' h1 h2=>RG t rs i j a b lo' hi' ht hrs hro ha hb h1 h2;rw [show (if i=j then (1000:Int) else 999)=if i=j then 1000 else 999 from rfl] at mix;by_cases hij:i=j
 .rw [if_pos hij,if_pos hij] at mix;have hd:decide (i=j)=true:=by simpa using hij
  obtain ⟨f1,f2⟩:=fin mix;simp only [hl2,hsame,hd,go_sem,simprocAttr]
  (first | refine ae (cP 1000 1000 (by omega) (by omega)) rfl ?_ | refine aC (cP 1000 1000 (by omega) (by omega)) rfl ?_)
  generalize na t rs a b 1000 1000=s at mix f1 f2;simp only [di,aP,bu,hlo,gg,ss,mg,ms,go_sem,simprocAttr];by_cases hc:s.lo<=s.hi
  .have hc':decide (s.lo<=s.hi)=true:=by simpa using hc
   have g2':=g2;rw [f1 hc] at g2';have hget:((kS t rs).map λm=>[kE m])[pre.length]?=some [kE ((i,j),s)]:=by rw [g2'];simp
   simp only [bu,gg,mg,hc',go_sem,simprocAttr];refine oe (hy pre.length _ lo (mid++[AObj.row 2 [AV.p s.pv]]) hget hI hlo) (λv h' hr=>?_) (λv h' hr=>?_);rotate_left
   .obtain ⟨_,_,_,_,hr⟩:=hr;rcases hr with ⟨hr,_⟩ | ⟨hr,_⟩<;>cases hr
   obtain ⟨lo3,ext,rfl,hlo3,hr⟩:=hr;rcases hr with ⟨hr,hI3⟩ | ⟨hr,hF⟩
   .cases hr;simp only [go_sem,simprocAttr];refine bq (j+1,pre++[((i,j),s)],lo3,mid++[.row 2 [.p s.pv]]++ext) ⟨by omega,by rw [g2'];simp,by simpa using hI3,hlo3⟩ (by dsimp only;omega) (by simp [di,Span.pv]) ?_;simp only [hwj,go_sem,simprocAttr]
   .cases hr;simp only [go_sem,simprocAttr];exact ⟨lo3,mid++[.row 2 [.p s.pv]]++ext,by simp [di,Span.pv],hlo3,.inr hF⟩
  .have hc':decide (s.lo<=s.hi)=false:=by simpa using hc
   rw [f2 hc,lX] at g2;simp only [hc',go_sem,simprocAttr];refine bq (j+1,pre,lo,mid++[.row 2 [.p s.pv]]) ⟨by omega,g2,hI,hlo⟩ (by dsimp only;omega) (by simp [Span.pv]) ?_;simp only [hwj,go_sem,simprocAttr]
 .rw [if_neg hij,if_neg hij] at mix;have hd:decide (i=j)=false:=by simpa using hij
  obtain ⟨f1,f2⟩:=fin mix;simp only [hl2,hsame,hd,go_sem,simprocAttr]
  (first | refine ae (cP 1 999 (by omega) (by omega)) rfl ?_ | refine aC (cP 1 999 (by omega) (by omega)) rfl ?_)
  generalize na t rs a b 1 999=s at mix f1 f2;simp only [di,aP,bu,hlo,gg,ss,mg,ms,go_sem,simprocAttr];by_cases hc:s.lo<=s.hi
  .have hc':decide (s.lo<=s.hi)=true:=by simpa using hc
   have g2':=g2;rw [f1 hc] at g2';have hget:((kS t rs).map λm=>[kE m])[pre.length]?=some [kE ((i,j),s)]:=by rw [g2'];simp
   simp only [bu,gg,mg,hc',go_sem,simprocAttr];refine oe (hy pre.length _ lo (mid++[AObj.row 2 [AV.p s.pv]]) hget hI hlo) (λv h' hr=>?_) (λv h' hr=>?_);rotate_left
   .obtain ⟨_,_,_,_,hr⟩:=hr;rcases hr with ⟨hr,_⟩ | ⟨hr,_⟩<;>cases hr
   obtain ⟨lo3,ext,rfl,hlo3,hr⟩:=hr;rcases hr with ⟨hr,hI3⟩ | ⟨hr,hF⟩
   .cases hr;simp only [go_sem,simprocAttr];refine bq (j+1,pre++[((i,j),s)],lo3,mid++[.row 2 [.p s.pv]]++ext) ⟨by omega,by rw [g2'];simp,by simpa using hI3,hlo3⟩ (by dsimp only;omega) (by simp [di,Span.pv]) ?_;simp only [hwj,go_sem,simprocAttr]
   .cases hr;simp only [go_sem,simprocAttr];exact ⟨lo3,mid++[.row 2 [.p s.pv]]++ext,by simp [di,Span.pv],hlo3,.inr hF⟩
  .have hc':decide (s.lo<=s.hi)=false:=by simpa using hc
   rw [f2 hc,lX] at g2;simp only [hc',go_sem,simprocAttr];refine bq (j+1,pre,lo,mid++[.row 2 [.p s.pv]]) ⟨by omega,g2,hI,hlo⟩ (by dsimp only;omega) (by simp [Span.pv]) ?_;simp only [hwj,go_sem,simprocAttr]
def Nj (t:WxTable) (rs:List Int) (kind:Nat):Span:=SV kind (io t rs) t.kinds.length
def lN (purity:Int) (p:Span):Span×Int×Int:=if p.hi<0 then (⟨0,0⟩,0,9) else if purity<=p.lo then (p,1,0) else if p.hi<purity then (p,0,0) else (p,2,0)
def bm (t:WxTable) (rs:List Int) (kind:Int):Span×Int×Int :=
 if dT t rs=0 then (if az kind 0 ((t.kinds.length:Int)-1)=true then lN t.purity (Nj t rs kind.toNat) else (⟨0,0⟩,0,4)) else (⟨0,0⟩,0,dT t rs)
theorem As {t} {rs} (h:dT t rs=0):TableOk t/\rs.length=t.props.length/\rs.all jC=true:=by
 unfold dT at h;split at h
 .rename_i h1;split at h
  .rename_i h2;split at h
   .rename_i h3;exact ⟨Co h1,h2,h3⟩
   .cases h
  .cases h
 .contradiction
theorem C3 {t} {rs} {q} (h:(io t rs q).lo<=(io t rs q).hi):1<=(io t rs q).lo/\(io t rs q).hi<=1000:=by
 unfold io at h |-;split at h
 .rename_i a b ha hb;unfold na at h |-;have h1:=(qP _ t.props a.props b.props rs _).1 ⟨tm _,h⟩;have h2:=(qP _ t.props a.props b.props rs _).1 ⟨h,tm _⟩;dsimp only at h1 h2;by_cases hq:q.1=q.2
  .simp only [hq,if_true] at h1 h2 |-;omega
  .simp only [hq,if_false] at h1 h2 |-;omega
 .dsimp only at h;omega
theorem F2 {t} {rs}:∀ m,m∈kS t rs->1<=m.2.lo/\m.2.lo<=m.2.hi/\m.2.hi<=1000:=by
 intro m hm;rw [F3,xu] at hm;obtain ⟨q,_,hm⟩:=hm;unfold qW t8 at hm;by_cases hc:(io t rs q).lo<=(io t rs q).hi
 .rw [if_pos hc] at hm;have:=C3 hc;rw [dR.1 hm];dsimp only;omega
 .rw [if_neg hc] at hm;cases hm
def lv (p:Span):Prop:=0<=p.lo/\p.lo<=1001/\-1<=p.hi/\p.hi<=1000
theorem Gc {p l} (h:lv p) (hl:0<=l.lo/\l.lo<=1000/\0<=l.hi/\l.hi<=1000):lv (iu p l):=by
 unfold lv iu at *
 dsimp only;refine ⟨?_,?_,?_,?_⟩<;>split<;>omega
set_option maxHeartbeats 4000000 in
theorem Wv (t) (rs) (kind) (hrs0:rs.length<1000000000):ah TP 176 [t.pv,.slice 1 (rs.map aJ) false,.int .i64 kind] (.tuple [(bm t rs kind).1.pv,.int .i64 (bm t rs kind).2.1,.int .i64 (bm t rs kind).2.2]):=by
 refine aa (ai (by kernel_rfl) rfl Vb) rfl ?_;simp only [go_sem,simprocAttr];refine ae (H' t rs hrs0) rfl ?_;simp only [go_sem,simprocAttr];cases h0:(dT t rs != 0)
 rotate_left
 .have h0':¬ dT t rs=0:=by simpa using h0
  simp only [bm,if_neg h0',go_sem,simprocAttr]
 have h0':dT t rs=0:=by simpa using h0
 obtain ⟨ht,hrs,hro⟩:=As h0';have hkl:=ht.kinds;have hw:IntKind.i64.wrap ((t.kinds.length:Int)-1)=(t.kinds.length:Int)-1:=an (by omega) (by omega);simp only [hw,go_sem,simprocAttr];refine ae (eb 0 _ [_] true (by simp)) rfl ?_;simp only [bg,bj,ca,go_sem,simprocAttr];cases h1:az kind 0 ((t.kinds.length:Int)-1)
 .simp only [bm,h0',h1,go_sem,simprocAttr]
 have hk:0<=kind/\kind<=(t.kinds.length:Int)-1:=by simpa [az] using h1
 obtain ⟨k,rfl⟩:∃ k:Nat,kind=(k:Int):=⟨kind.toNat,by omega⟩
 have hsp:bm t rs (k:Int)=lN t.purity ((kS t rs).foldl (λp m=>iu p (ib k m.1 m.2)) ⟨1001,-1⟩):=by
  rw [bm,if_pos h0',if_pos h1,F3,yi];rfl
 rw [hsp];simp only [if_pos h0',go_sem,simprocAttr];refine ae (Kg t rs) rfl ?_;simp only [mn,go_sem,simprocAttr];have fold_B:∀ (l:List ((Nat×Nat)×Span)) (p:Span),lv p->(∀ m,m∈l->1<=m.2.lo/\m.2.lo<=m.2.hi/\m.2.hi<=1000)->lv (l.foldl (λp m=>iu p (ib k m.1 m.2)) p):=by
  intro l
  induction l with
  |nil=>intro p h _;exact h
  |cons m l ih =>
   intro p h hm;refine ih _ (Gc h ?_) λm' h'=>hm m' (by simp [h']);have:=hm m (by simp);unfold ib;split
   .omega
   .split<;>dsimp only<;>omega
 have hB0:lv ⟨1001,-1⟩:=by unfold lv;decide
 refine GE (l:=(kS t rs).map λm=>[kE m]) (λo n h=>h=[.row 3 [.p t.pv],.row 1 [.p (.int .i64 k)],.row 2 [.p (((kS t rs).take n).foldl (λp m=>iu p (ib k m.1 m.2)) ⟨1001,-1⟩).pv],.dblock,o]) (λ_ _=>False)
  rfl (by simp only [mn,go_sem,simprocAttr]) (JR t rs ht hrs hro) jv (by kernel_rfl) (by kernel_rfl) (by kernel_rfl) ?_ ?_ ?_ ?_ (λ_ _ _ h=>h.elim)
 .rintro o n h rfl;simp
 .intro o;simp only [go_sem,simprocAttr];rfl
 .rintro oR oB oD n xs lo mid hk' rfl _
  rw [cg,bz] at hk';obtain ⟨m,hm,rfl⟩:=hk';have hmi:=F2 m (aI hm);have hB:=fold_B ((kS t rs).take n) ⟨1001,-1⟩ hB0 λm hm=>F2 m (nA hm);have hnext:((kS t rs).take (n+1)).foldl (λp m=>iu p (ib k m.1 m.2)) ⟨1001,-1⟩=iu (((kS t rs).take n).foldl (λp m=>iu p (ib k m.1 m.2)) ⟨1001,-1⟩) (ib k m.1 m.2):=by
   rw [wz,hm,Option.toList_some,r8];rfl
  generalize ((kS t rs).take n).foldl (λp m=>iu p (ib k m.1 m.2)) ⟨1001,-1⟩=p at hB hnext |-;have mg:=kn (lo:=mid) rfl;have mgg:=km (lo:=mid) rfl;have ms:=mC (lo:=mid) rfl;have mss:=mA (lo:=mid) rfl;have k1:((k:Int)==(m.1.1:Int))=decide (k=m.1.1):=by rw [rW];simp;omega
  have k2:((k:Int)==(m.1.2:Int))=decide (k=m.1.2):=by rw [rW];simp;omega
  have w1:IntKind.i64.wrap (1000-m.2.hi)=1000-m.2.hi:=an (by omega) (by omega);have w2:IntKind.i64.wrap (1000-m.2.lo)=1000-m.2.lo:=an (by omega) (by omega);simp only [di,aP,bu,mg,mgg,ms,mss,k1,go_sem,simprocAttr];by_cases c1:k=m.1.1
  .have c1':decide (k=m.1.1)=true:=by simpa using c1
   simp only [di,bu,mgg,c1',go_sem,simprocAttr];refine ⟨_,[AObj.row 4 [AV.p (kE m)],AObj.row 2 [AV.p m.2.pv]],?_,by simp,rfl⟩;rw [hnext,ib,if_pos c1];simp [iu,Span.pv,kE]
  have c1':decide (k=m.1.1)=false:=by simpa using c1
  by_cases c2:k=m.1.2
  .have c2':decide (k=m.1.2)=true:=by simpa using c2
   simp only [di,bu,mg,mgg,mss,c1',k2,c2',w1,w2,go_sem,simprocAttr];refine ⟨_,[AObj.row 4 [AV.p (kE m)],AObj.row 2 [AV.p (.agg [.int .i64 (1000-m.2.hi),.int .i64 (1000-m.2.lo)])]],?_,by simp,rfl⟩;rw [hnext,ib,if_neg c1,if_pos c2];simp [iu,kE]
  have c2':decide (k=m.1.2)=false:=by simpa using c2
  simp only [di,bu,mg,mgg,mss,c1',k2,c2',go_sem,simprocAttr];refine ⟨_,[AObj.row 4 [AV.p (kE m)],AObj.row 2 [AV.p (.agg [.int .i64 0,.int .i64 0])]],?_,by simp,rfl⟩;rw [hnext,ib,if_neg c1,if_neg c2];simp [iu,kE]
 .rintro o lo mid rfl _
  rw [fY,oN];generalize (kS t rs).foldl (λp m=>iu p (ib k m.1 m.2)) ⟨1001,-1⟩=p;simp only [go_sem,simprocAttr];cases c1:decide (p.hi<0);rotate_left
  .have c1':p.hi<0:=by simpa using c1
   simp only [lN,if_pos c1',go_sem,simprocAttr];rw [bJ];simp only [go_sem,simprocAttr]
  have c1':¬ p.hi<0:=by simpa using c1
  simp only [go_sem,simprocAttr];cases c2:decide (t.purity<=p.lo);rotate_left
  .have c2':t.purity<=p.lo:=by simpa using c2
   simp only [lN,if_neg c1',if_pos c2',go_sem,simprocAttr];rw [bJ];simp only [go_sem,simprocAttr]
  have c2':¬ t.purity<=p.lo:=by simpa using c2
  simp only [go_sem,simprocAttr];cases c3:decide (p.hi<t.purity)
  .have c3':¬ p.hi<t.purity:=by simpa using c3
   simp only [lN,if_neg c1',if_neg c2',if_neg c3',go_sem,simprocAttr];rw [bJ];simp only [go_sem,simprocAttr]
  .have c3':p.hi<t.purity:=by simpa using c3
   simp only [lN,if_neg c1',if_neg c2',if_pos c3',go_sem,simprocAttr];rw [bJ];simp only [go_sem,simprocAttr]
def SU:Option Span->Span
 |none=>⟨0,0⟩
 |some s=>s
def QA (o:Option Span):PV:=.tuple [(SU o).pv,.bool o.isSome]
attribute [go_sem] QA
end Wx
set_option maxRecDepth 4000
theorem Pz (lo hi n):ah TP 219 [.int .i64 n,.ptr 1 [.int .i64 lo] 0 0,.ptr 1 [.int .i64 hi] 0 0] (.bool (!az n lo hi)):=by
 refine aa (ai (by kernel_rfl) rfl UK) rfl ?_;simp only [go_sem,simprocAttr];refine aW (λhb=>?_) (λhb=>?_)<;>simp only [hb,go_sem,simprocAttr]<;>simp_all [az];rw [<-decide_not];congr 1;simp
theorem iD (lo hi) (l:List Int) (b) (hl:l.length<1000000000):ah TP 157 [.int .i64 lo,.int .i64 hi,.slice 1 (l.map aJ) b] (.bool (l.any λn=>!az n lo hi)):=by
 refine aa (ai (by kernel_rfl) rfl Vr) rfl ?_;simp only [go_sem,simprocAttr];refine bh (i6 (fv:=.func (.func 219) [] [.ptr 1 [.int .i64 lo] 0 0,.ptr 1 [.int .i64 hi] 0 0]) l (λn=>!az n lo hi) b 1 rfl hl λn _=>⟨_,_,_,rfl,Pz lo hi n⟩) ?_ (.bool _) ?_
 .simp only [go_sem,simprocAttr]
 .simp only [go_sem,simprocAttr]
theorem DS (x:HrKind):ah TP 159 [x.pv] (.str x.name):=by
 refine aa (ai (by kernel_rfl) rfl Vp) rfl ?_;simp only [go_sem,simprocAttr]
theorem Mu (s) (x:HrKind):ah TP 221 [x.pv,.ptr 1 [.func (.func 159) [] []] 0 0,.ptr 1 [.str s] 0 0] (.bool (x.name==s)):=by
 refine aa (ai (by kernel_rfl) rfl UI) rfl ?_;simp only [go_sem,simprocAttr];refine aC (DS x) rfl ?_;simp only [go_sem,simprocAttr]
theorem Kj (l) (x) (b) (hl:l.length<1000000):ah TP 158 [.slice 4 ((l++[x]).map HrKind.pv) b,.func (.func 159) [] []] (.int .i64 (aA (l.map (·.name)) x.name)):=by
 have hw:IntKind.i64.wrap ((((l++[x]).length:Nat):Int)-1)=((l.length:Nat):Int):=by
  rw [dj (by simp<;>omega) (by simp [aB]<;>omega)];simp
 have hx:(l++[x])[l.length]?=some x:=by simp
 have hlt:((l.length:Nat):Int)<(((l++[x]).length:Nat):Int):=by simp<;>omega
 have hle:((l.length:Nat):Int)<=(((l++[x]).length:Nat):Int):=by omega
 have htk:((l++[x]).map HrKind.pv).take l.length=l.map HrKind.pv:=by rw [cp,fD (by simp)]
 have hfl:(l.length==(l++[x]).length)=false:=by simp
 refine aa (ai (by kernel_rfl) rfl Vq) rfl ?_;simp only [hw,hx,hlt,go_sem,simprocAttr];refine aC (DS x) rfl ?_;simp only [go_sem,simprocAttr];refine ae (iM x.name) rfl ?_;simp only [go_sem,simprocAttr];cases hn:nameOk x.name
 .simp only [go_sem,simprocAttr];simp [aA,hn]
 .simp only [hle,htk,hfl,go_sem,simprocAttr];refine bh (zZ (fv:=.func (.func 221) [] [.ptr 1 [.func (.func 159) [] []] 0 0,.ptr 1 [.str x.name] 0 0]) l (λy=>y.name==x.name) false 4 rfl (by omega) λy _=>⟨_,_,_,rfl,Mu x.name y⟩) ?_ (.bool _) ?_
  .simp only [go_sem,simprocAttr]
  simp only [go_sem,simprocAttr];refine aW (λhb=>?_) (λhb=>?_)<;>simp only [hb,go_sem,simprocAttr]
  .simp only [aA,hn,ly,lK,hb,if_true]
  .simp only [aA,hn,ly,lK,hb,if_true,fa,if_false]
theorem DR (x:HrRule):ah TP 161 [x.pv] (.str x.name):=by
 refine aa (ai (by kernel_rfl) rfl Vn) rfl ?_;simp only [go_sem,simprocAttr]
theorem Mt (s) (x:HrRule):ah TP 223 [x.pv,.ptr 1 [.func (.func 161) [] []] 0 0,.ptr 1 [.str s] 0 0] (.bool (x.name==s)):=by
 refine aa (ai (by kernel_rfl) rfl UG) rfl ?_;simp only [go_sem,simprocAttr];refine aC (DR x) rfl ?_;simp only [go_sem,simprocAttr]
theorem Ki (l) (x) (b) (hl:l.length<1000000):ah TP 160 [.slice 5 ((l++[x]).map HrRule.pv) b,.func (.func 161) [] []] (.int .i64 (aA (l.map (·.name)) x.name)):=by
 have hw:IntKind.i64.wrap ((((l++[x]).length:Nat):Int)-1)=((l.length:Nat):Int):=by
  rw [dj (by simp<;>omega) (by simp [aB]<;>omega)];simp
 have hx:(l++[x])[l.length]?=some x:=by simp
 have hlt:((l.length:Nat):Int)<(((l++[x]).length:Nat):Int):=by simp<;>omega
 have hle:((l.length:Nat):Int)<=(((l++[x]).length:Nat):Int):=by omega
 have htk:((l++[x]).map HrRule.pv).take l.length=l.map HrRule.pv:=by rw [cp,fD (by simp)]
 have hfl:(l.length==(l++[x]).length)=false:=by simp
 refine aa (ai (by kernel_rfl) rfl Vo) rfl ?_;simp only [hw,hx,hlt,go_sem,simprocAttr];refine aC (DR x) rfl ?_;simp only [go_sem,simprocAttr];refine ae (iM x.name) rfl ?_;simp only [go_sem,simprocAttr];cases hn:nameOk x.name
 .simp only [go_sem,simprocAttr];simp [aA,hn]
 .simp only [hle,htk,hfl,go_sem,simprocAttr];refine bh (zY (fv:=.func (.func 223) [] [.ptr 1 [.func (.func 161) [] []] 0 0,.ptr 1 [.str x.name] 0 0]) l (λy=>y.name==x.name) false 5 rfl (by omega) λy _=>⟨_,_,_,rfl,Mt x.name y⟩) ?_ (.bool _) ?_
  .simp only [go_sem,simprocAttr]
  simp only [go_sem,simprocAttr];refine aW (λhb=>?_) (λhb=>?_)<;>simp only [hb,go_sem,simprocAttr]
  .simp only [aA,hn,ly,lK,hb,if_true]
  .simp only [aA,hn,ly,lK,hb,if_true,fa,if_false]
def iy (k:HrKind):Int :=
 if (az k.weight.lo 1 10000000&&az k.weight.hi 1 10000000&&az k.rest 0 10000000)=true then (if (decide (k.weight.hi<k.weight.lo)||decide (k.weight.lo<=k.rest))=true then 2 else 0) else 7
def ju (r:HrRule):Int :=
 if (az r.minutes.lo 0 1000000&&az r.minutes.hi 0 1000000&&(az r.weight.lo 0 10000000&&az r.weight.hi 0 10000000))=true then
  (if (decide (r.minutes.hi<r.minutes.lo)||decide (r.weight.hi<r.weight.lo))=true then 2 else 0) else 7
def ce (before:List ByteArray) (k:HrKind):Int:=if aA before k.name=0 then iy k else aA before k.name
def dc (before:List ByteArray) (r:HrRule):Int:=if aA before r.name=0 then ju r else aA before r.name
def k8 (s:HrShop):Option (Int×Int)->Int×Int×Int
 |some (i,e)=>(2,i,e)
 |none=>match firstErr dc (·.name) s.rules [] with | some (i,e)=>(3,i,e) | none=>(0,0,0)
def hrCheck (s:HrShop):Int×Int×Int :=
 if (az s.kinds.length 1 6&&decide (s.rules.length<=6))=true then
  if az s.margin 0 500=true then k8 s (firstErr ce (·.name) s.kinds []) else (1,0,7)
 else (1,0,3)
theorem JT {s} {done r} {x} (_:s.kinds=done++x::r) (e2:firstErr ce (·.name) s.kinds []=firstErr ce (·.name) (x::r) (done.map (·.name))) :
  (ce (done.map (·.name)) x=0->firstErr ce (·.name) s.kinds []=firstErr ce (·.name) r ((done++[x]).map (·.name))) /\
  ∀ e,ce (done.map (·.name)) x=e->e≠0->k8 s (firstErr ce (·.name) s.kinds [])=(2,(done.length:Int),e):=by
 have hE:firstErr ce (·.name) s.kinds []=if ce (done.map (·.name)) x=0 then firstErr ce (·.name) r ((done++[x]).map (·.name)) else some ((done.length:Int),ce (done.map (·.name)) x):=by
  rw [e2,firstErr];simp
 exact ⟨λh=>by rw [hE,if_pos h],λe he hne=>by rw [hE,he,if_neg hne];rfl⟩
theorem JS {s} {done r} {x} (_:s.rules=done++x::r) (e2:firstErr dc (·.name) s.rules []=firstErr dc (·.name) (x::r) (done.map (·.name))) :
  (dc (done.map (·.name)) x=0->firstErr dc (·.name) s.rules []=firstErr dc (·.name) r ((done++[x]).map (·.name))) /\
  ∀ e,dc (done.map (·.name)) x=e->e≠0->k8 s none=(3,(done.length:Int),e):=by
 have hE:firstErr dc (·.name) s.rules []=if dc (done.map (·.name)) x=0 then firstErr dc (·.name) r ((done++[x]).map (·.name)) else some ((done.length:Int),dc (done.map (·.name)) x):=by
  rw [e2,firstErr];simp
 exact ⟨λh=>by rw [hE,if_pos h],λe he hne=>by simp only [k8];rw [hE,he,if_neg hne]⟩
set_option maxHeartbeats 1000000 in
theorem DT (s):ah TP 92 [s.pv] (aE (hrCheck s)):=by
 refine aa (ai (by kernel_rfl) rfl Yy) rfl ?_;simp only [go_sem,simprocAttr];refine ae (iD 1 6 [_] true (by simp)) rfl ?_;simp only [bg,bj,ca,go_sem,simprocAttr];cases h1:az s.kinds.length 1 6
 .simp only [aE,hrCheck,h1,go_sem,simprocAttr]
 simp only [go_sem,simprocAttr];cases h2:decide ((6:Int)<(s.rules.length:Int));rotate_left
 .have h2':decide (s.rules.length<=6)=false:=by simp at h2 |-;omega
  simp only [aE,hrCheck,h1,h2',go_sem,simprocAttr]
 have h2':decide (s.rules.length<=6)=true:=by simp at h2 |-;omega
 simp only [go_sem,simprocAttr];refine ae (iD 0 500 [_] true (by simp)) rfl ?_;simp only [bg,bj,ca,go_sem,simprocAttr];cases h3:az s.margin 0 500
 .simp only [aE,hrCheck,h1,h2',h3,go_sem,simprocAttr]
 have hspec:hrCheck s=k8 s (firstErr ce (·.name) s.kinds []):=by simp only [hrCheck,h1,h2',h3,y8,if_true]
 rw [hspec];have hlk:s.kinds.length<=6:=by simp [az] at h1;omega
 have hlr:s.rules.length<=6:=by simpa using h2'
 simp only [go_sem,simprocAttr]
 refine bT [1,27,28] s.kinds (by omega) (τ:=Unit) (λdone rest _=>firstErr ce (·.name) s.kinds []=firstErr ce (·.name) rest (done.map (·.name)))
  (λdone _=>[(29,.p (.int .i64 done.length)),(4,.p (.int .i64 0))]) (λ_ _=>[.row 3 [.p s.pv]]) () rfl ?_ ?_ ?_
 .simp only [go_sem,simprocAttr]<;>simp
 .intro _ e2;have hT:k8 s (firstErr ce (·.name) s.kinds [])=k8 s none:=by rw [e2];rfl
  rw [hT];simp only [go_sem,simprocAttr]
  refine bT [1,80,81] s.rules (by omega) (τ:=Unit) (λdone rest _=>firstErr dc (·.name) s.rules []=firstErr dc (·.name) rest (done.map (·.name)))
   (λdone _=>[(82,.p (.int .i64 done.length)),(4,.p (.int .i64 0))]) (λ_ _=>[.row 3 [.p s.pv]]) () rfl ?_ ?_ ?_
  .simp only [go_sem,simprocAttr]<;>simp
  .intro _ e2;have hT:k8 s none=(0,0,0):=by
    simp only [k8];rw [e2];rfl
   simp only [aE,hT,go_sem,simprocAttr]
  .intro done x r _ e1 e2 hx hlt hnx;obtain ⟨go,fin⟩:=JS e1 e2;have hle:(((done++[x]).length:Nat):Int)<=(s.rules.length:Int):=by rw [e1];simp<;>omega
   have htk:(s.rules.map HrRule.pv).take (done++[x]).length=(done++[x]).map HrRule.pv:=by
    rw [e1,show done++x::r=(done++[x])++r by simp,cp,fD (by simp)]
   have hdl:done.length<1000000:=by have:=congrArg List.length e1;simp at this;omega
   simp only [hlt,hx,hnx,hle,htk,go_sem,simprocAttr];refine ae (Ki done x false hdl) rfl ?_;simp only [go_sem,simprocAttr];cases h5:(aA (done.map (·.name)) x.name != 0)
   rotate_left
   .have h5':aA (done.map (·.name)) x.name≠0:=by simpa using h5
    simp only [h5,aE,fin _ (by rw [dc,if_neg h5']) h5',go_sem,simprocAttr]
   have h5':aA (done.map (·.name)) x.name=0:=by simpa using h5
   have hb:dc (done.map (·.name)) x=ju x:=by rw [dc,if_pos h5']
   simp only [go_sem,simprocAttr];refine ae (iD 0 1000000 [_,_] true (by simp)) rfl ?_;simp only [bg,bj,ca,<-j4,go_sem,simprocAttr];cases h6:(az x.minutes.lo 0 1000000&&az x.minutes.hi 0 1000000)
   .simp only [aE,fin 7 (by rw [hb,ju,h6];rfl) (by decide),go_sem,simprocAttr]
   simp only [go_sem,simprocAttr];refine ae (iD 0 10000000 [_,_] true (by simp)) rfl ?_;simp only [bg,bj,ca,<-j4,go_sem,simprocAttr];cases h7:(az x.weight.lo 0 10000000&&az x.weight.hi 0 10000000)
   .simp only [aE,fin 7 (by rw [hb,ju,h6,h7];rfl) (by decide),go_sem,simprocAttr]
   simp only [go_sem,simprocAttr];cases h8:decide (x.minutes.hi<x.minutes.lo);rotate_left
   .simp only [aE,fin 2 (by rw [hb,ju,h6,h7,h8];rfl) (by decide),go_sem,simprocAttr]
   simp only [go_sem,simprocAttr];cases h9:decide (x.weight.hi<x.weight.lo);rotate_left
   .simp only [aE,fin 2 (by rw [hb,ju,h6,h7,h8,h9];rfl) (by decide),go_sem,simprocAttr]
   simp only [h5',go_sem,simprocAttr];refine aL e1 () (go (by rw [hb,ju,h6,h7,h8,h9];rfl)) ?_;simp only [hnx,go_sem,simprocAttr]
 .intro done x r _ e1 e2 hx hlt hnx;obtain ⟨go,fin⟩:=JT e1 e2;have hle:(((done++[x]).length:Nat):Int)<=(s.kinds.length:Int):=by rw [e1];simp<;>omega
  have htk:(s.kinds.map HrKind.pv).take (done++[x]).length=(done++[x]).map HrKind.pv:=by
   rw [e1,show done++x::r=(done++[x])++r by simp,cp,fD (by simp)]
  have hdl:done.length<1000000:=by have:=congrArg List.length e1;simp at this;omega
  simp only [hlt,hx,hnx,hle,htk,go_sem,simprocAttr];refine ae (Kj done x false hdl) rfl ?_;simp only [go_sem,simprocAttr];cases h5:(aA (done.map (·.name)) x.name != 0)
  rotate_left
  .have h5':aA (done.map (·.name)) x.name≠0:=by simpa using h5
   simp only [h5,aE,fin _ (by rw [ce,if_neg h5']) h5',go_sem,simprocAttr]
  have h5':aA (done.map (·.name)) x.name=0:=by simpa using h5
  have hb:ce (done.map (·.name)) x=iy x:=by rw [ce,if_pos h5']
  simp only [go_sem,simprocAttr];refine ae (iD 1 10000000 [_,_] true (by simp)) rfl ?_;simp only [bg,bj,ca,<-j4,go_sem,simprocAttr];cases h6:(az x.weight.lo 1 10000000&&az x.weight.hi 1 10000000)
  .simp only [aE,fin 7 (by rw [hb,iy,h6];rfl) (by decide),go_sem,simprocAttr]
  simp only [go_sem,simprocAttr];refine ae (iD 0 10000000 [_] true (by simp)) rfl ?_;simp only [bg,bj,ca,go_sem,simprocAttr];cases h7:az x.rest 0 10000000
  .simp only [aE,fin 7 (by rw [hb,iy,h6,h7];rfl) (by decide),go_sem,simprocAttr]
  simp only [go_sem,simprocAttr];cases h8:decide (x.weight.hi<x.weight.lo);rotate_left
  .simp only [aE,fin 2 (by rw [hb,iy,h6,h7,h8];rfl) (by decide),go_sem,simprocAttr]
  simp only [go_sem,simprocAttr];cases h9:decide (x.weight.lo<=x.rest);rotate_left
  .simp only [aE,fin 2 (by rw [hb,iy,h6,h7,h8,h9];rfl) (by decide),go_sem,simprocAttr]
  simp only [h5',go_sem,simprocAttr];refine aL e1 () (go (by rw [hb,iy,h6,h7,h8,h9];rfl)) ?_;simp only [hnx,go_sem,simprocAttr]
def mo (m:HrMark):Bool:=az m.minute 0 1000000&&az m.weight 0 10000000
def jL:Int->List HrMark->Bool
 |_,[]=>false
 |last,m::r=>decide (m.minute<=last)||jL m.minute r
def bL (nk:Int) (t:HrTest):Int :=
 if az t.kind 0 (nk-1)=true then
  if az t.marks.length 2 10=true then
   if az t.error 0 10000=true then
    if t.marks.all mo=true then (if jL (-1) t.marks=true then 2 else 0) else 7
   else 7
  else 3
 else 4
theorem A4 (s:HrShop) (t) (hs:s.kinds.length<=1000):ah TP 235 [s.pv,t.pv] (.int .i64 (bL s.kinds.length t)):=by
 refine aa (ai (by kernel_rfl) rfl Ux) rfl ?_;have hw:IntKind.i64.wrap ((s.kinds.length:Int)-1)=(s.kinds.length:Int)-1:=an (by omega) (by omega);simp only [hw,go_sem,simprocAttr];refine ae (iD 0 _ [_] true (by simp)) rfl ?_;simp only [bg,bj,ca,go_sem,simprocAttr];cases h1:az t.kind 0 ((s.kinds.length:Int)-1)
 .simp only [bL,h1,go_sem,simprocAttr]
 simp only [go_sem,simprocAttr];refine ae (iD 2 10 [_] true (by simp)) rfl ?_;simp only [bg,bj,ca,go_sem,simprocAttr];cases h2:az t.marks.length 2 10
 .simp only [bL,h1,h2,go_sem,simprocAttr]
 simp only [go_sem,simprocAttr];refine ae (iD 0 10000 [_] true (by simp)) rfl ?_;simp only [bg,bj,ca,go_sem,simprocAttr];cases h3:az t.error 0 10000
 .simp only [bL,h1,h2,h3,go_sem,simprocAttr]
 have hspec:bL s.kinds.length t=if t.marks.all mo=true then (if jL (-1) t.marks=true then 2 else 0) else 7:=by simp only [bL,h1,h2,h3,if_true]
 rw [hspec];have hlm:t.marks.length<=10:=by simp [az] at h2;omega
 simp only [go_sem,simprocAttr]
 refine bT [30,31] t.marks (by omega) (τ:=Int×Bool) (λdone rest q=>t.marks.all mo=rest.all mo/\jL (-1) t.marks=(q.2||jL q.1 rest))
  (λdone q=>[(32,.p (.int .i64 done.length)),(5,.p (.int .i64 q.1)),(6,.p (.bool q.2))]) (λ_ _=>[.row 3 [.p s.pv],.row 3 [.p t.pv]]) (-1,false) ⟨rfl,by simp⟩ ?_ ?_ ?_
 .simp only [go_sem,simprocAttr]<;>simp
 .rintro ⟨last,falls⟩ ⟨e2,e3⟩
  dsimp only at e2 e3;rw [e2,e3];cases falls
  .simp only [GV,jL,go_sem,simprocAttr]
  .simp only [GV,jL,go_sem,simprocAttr]
 .rintro done x r ⟨last,falls⟩ e1 ⟨e2,e3⟩ hx hlt hnx
  dsimp only at e2 e3;rw [List.all_cons] at e2;simp only [hlt,hx,go_sem,simprocAttr];refine ae (iD 0 1000000 [_] true (by simp)) rfl ?_;simp only [bg,bj,ca,go_sem,simprocAttr];cases h4:az x.minute 0 1000000
  .rw [e2,mo,h4];simp only [go_sem,simprocAttr]
  simp only [go_sem,simprocAttr];refine ae (iD 0 10000000 [_] true (by simp)) rfl ?_;simp only [bg,bj,ca,go_sem,simprocAttr];cases h5:az x.weight 0 10000000
  .rw [e2,mo,h4,h5];simp only [go_sem,simprocAttr]
  have hm:mo x=true:=by rw [mo,h4,h5];rfl
  cases falls
  .simp only [go_sem,simprocAttr];refine aL e1 (x.minute,decide (x.minute<=last)) ⟨by rw [e2,hm];rfl,by rw [e3,jL];rfl⟩ ?_;simp only [hnx,go_sem,simprocAttr]
  .simp only [go_sem,simprocAttr];refine aL e1 (x.minute,true) ⟨by rw [e2,hm];rfl,by rw [e3];rfl⟩ ?_;simp only [hnx,go_sem,simprocAttr]
def cu (nk:Int):List HrTest->Int
 |[]=>0
 |t::r=>if bL nk t=0 then cu nk r else bL nk t
def bS (s:HrShop) (l:List HrTest):Int:=if (hrCheck s).2.2=0 then cu s.kinds.length l else (hrCheck s).2.2
theorem lp {s} (h:(hrCheck s).2.2=0):s.kinds.length<=6/\s.rules.length<=6/\1<=s.kinds.length:=by
 unfold hrCheck at h;split at h
 .rename_i hc;simp [az] at hc;omega
 .cases h
theorem nn (s) (l) (b) (hl:(hrCheck s).2.2=0->l.length<1000000000):ah TP 227 [s.pv,.slice 3 (l.map HrTest.pv) b] (.int .i64 (bS s l)):=by
 refine aa (ai (by kernel_rfl) rfl UC) rfl ?_;simp only [go_sem,simprocAttr];refine ae (DT s) rfl ?_;simp only [aE,go_sem,simprocAttr];cases h0:((hrCheck s).2.2 != 0)
 rotate_left
 .have h0':¬ (hrCheck s).2.2=0:=by simpa using h0
  simp only [bS,if_neg h0',go_sem,simprocAttr]
 have h0':(hrCheck s).2.2=0:=by simpa using h0
 have hk:=(lp h0').1;rw [bS,if_pos h0'];simp only [go_sem,simprocAttr]
 refine bT [2,20,21] l (hl h0') (τ:=Unit) (λdone rest _=>cu s.kinds.length l=cu s.kinds.length rest)
  (λdone _=>[(22,.p (.int .i64 done.length))]) (λ_ _=>[.row 3 [.p s.pv]]) () rfl ?_ ?_ ?_
 .simp only [go_sem,simprocAttr]<;>simp
 .intro _ e2;rw [e2];simp only [cu,go_sem,simprocAttr]
 .intro done x r _ e1 e2 hx hlt hnx;rw [cu] at e2;simp only [hlt,hx,go_sem,simprocAttr];refine ae (A4 s x (by omega)) rfl ?_;simp only [go_sem,simprocAttr];cases h1:(bL s.kinds.length x != 0)
  .have h1':bL s.kinds.length x=0:=by simpa using h1
   simp only [go_sem,simprocAttr];refine aL e1 () (by rw [e2,if_pos h1']) ?_;simp only [hnx,go_sem,simprocAttr]
  .have h1':¬ bL s.kinds.length x=0:=by simpa using h1
   simp only [e2,if_neg h1',go_sem,simprocAttr]
def cB (s:HrShop) (l:List HrTest):Int:=if (hrCheck s).2.2=0 then (if 8<l.length then 3 else cu s.kinds.length l) else (hrCheck s).2.2
end Abs
end Go.Proofs.YtfafnkpfamgbbaaGreatDoor
