/- CONTRACTS of the program's functions, and laws on what they return. No conditions but those in the theorems' heads. -/
import Derived.Test.YtnjiadikeacfaaaGreatDoorWxSold
set_option linter.all false
open Go.Proofs.Tryz renaming prog->TP
namespace Go.Proofs.YtnjiadikeacfaaaGreatDoor
namespace Abs
namespace Wx
set_option maxRecDepth 4000
def iY (t:WxTable) (rs:List Int) (q:Nat×Nat):Span:=
 match t.kinds[q.1]?,t.kinds[q.2]? with
 |some a,some b=>nW t rs a b (if q.1=q.2 then 1000 else 1) (if q.1=q.2 then 1000 else 999)
 |_,_=>⟨1,0⟩
def sr (t:WxTable) (rs:List Int) (q:Nat×Nat):List ((Nat×Nat)×Span):=match vr (iY t rs q) with|some s=>[(q,s)]|none=>[]
def tK (t:WxTable) (rs:List Int) (a:Nat):Nat->Nat->List ((Nat×Nat)×Span)
 |_,0=>[]
 |b,c+1=>sr t rs (a,b)++tK t rs a (b+1) c
def r7 (t:WxTable) (rs:List Int):Nat->Nat->List ((Nat×Nat)×Span)
 |_,0=>[]
 |a,c+1=>tK t rs a 0 (a+1)++r7 t rs (a+1) c
def lF (t:WxTable) (rs:List Int):List ((Nat×Nat)×Span):=r7 t rs 0 t.kinds.length
def lp (m:(Nat×Nat)×Span):PV:=.agg [.int .i64 m.1.1,.int .i64 m.1.2,.int .i64 m.2.lo,.int .i64 m.2.hi]
attribute [go_sem] lp
theorem vk(t)(rs)(a):∀(c b),tK t rs a b c=(List.range' b c).flatMap λb=>sr t rs (a,b)
 |0,b=>rfl
 |c+1,b=>by rw[tK,vk t rs a c (b+1),List.range'_succ,mN]
theorem MS(t)(rs):∀(c a),r7 t rs a c=((List.range' a c).flatMap λa=>(List.range (a+1)).map λb=>(a,b)).flatMap (sr t rs)
 |0,a=>rfl
 |c+1,a=>by
  rw[r7,MS t rs c (a+1),List.range'_succ,mN,rB,vk,List.flatMap_map,List.range_eq_range']
theorem HP(t)(rs):lF t rs=(EA t.kinds.length).flatMap (sr t rs):=by
 rw[lF,MS,EA,List.range_eq_range']
theorem zT(t)(rs)(kind):∀(l) (p),(l.flatMap (sr t rs)).foldl (λp m=>i8 p (iR kind m.1 m.2)) p=joinL (λq=>(vr (iY t rs q)).map (iR kind q)) l p
 |[],p=>rfl
 |q::l,p=>by
  rw[mN,AI,zT t rs kind l,joinL];unfold sr;cases vr (iY t rs q)<;>rfl
def nj (t:WxTable) (rs:List Int):PV:=.func (.func 288) [] [.ptr 1 [qI t rs] 0 0]
theorem Mt(t)(rs):af TP 256 [qI t rs] (nj t rs):=by
 refine dd (ah Tryz.func256 rfl (by kernel_rfl)) rfl ?_;simp only[nj,go_sem,simprocAttr]
set_option maxHeartbeats 4000000 in
theorem LZ(t)(rs)(ht:TableOk t)(hrs:rs.length=t.props.length)(hro:rs.all j7=true):Kw TP (nj t rs) 1 ((lF t rs).map λm=>[lp m]):=by
 refine⟨λa ha=>?_,_,_,_,rfl,λid Inv Fin h0 hid hy hi=>?_⟩
 .obtain⟨q,_,rfl⟩:=dN.1 ha;rfl
 have hkl:=ht.kinds;refine aA (ah Tryz.func288 rfl (by kernel_rfl)) rfl ?_;simp only[go_sem,simprocAttr]
 refine eO [0,1,13] (σ:=Nat×List ((Nat×Nat)×Span)×Heap×Heap)
  (λq=>q.1<=t.kinds.length/\lF t rs=q.2.1++r7 t rs q.1 (t.kinds.length-q.1)/\Inv q.2.1.length q.2.2.1/\q.2.2.1.length=h0.length) (λq=>t.kinds.length-q.1)
  (λq=>[(14,.p (.int .i64 q.1))]) (λq=>q.2.2.1++q.2.2.2) (0,[],h0,[]) ⟨cV _,rfl,hi,rfl⟩ (by simp) ?_ ?_
 .simp only[go_sem,simprocAttr]
 rintro⟨i,pre,lo,mid⟩ ⟨h1,h2,hI,hlo⟩
 dsimp only at h1 h2 hI hlo;rcases IS h1 with he|hlt0
 .have hlt:decide ((i:Int)<(t.kinds.length:Int))=false:=by simp;omega
  rw[he,zb,r7,bw]at h2;simp only[hlt,go_sem,simprocAttr];refine⟨lo,mid,rfl,hlo,.inl ?_⟩;rw[h2];exact hI
 have hlt:decide ((i:Int)<(t.kinds.length:Int))=true:=by simp;omega
 have hsub:t.kinds.length-i=(t.kinds.length-(i+1))+1:=by omega
 rw[hsub,r7]at h2;have hw:IntKind.i64.wrap ((i:Int)+1)=((i+1:Nat):Int):=be (by omega) (by simp[ar];omega) (by omega);obtain⟨a,ha⟩:∃a,t.kinds[i]?=some a:=⟨_,bA hlt0⟩
 simp only[hlt,hw,go_sem,simprocAttr]
 refine eO [0,1,3,13,14,18] (σ:=Nat×List ((Nat×Nat)×Span)×Heap×Heap)
  (λq=>q.1<=i+1/\lF t rs=q.2.1++(tK t rs i q.1 (i+1-q.1)++r7 t rs (i+1) (t.kinds.length-(i+1)))/\Inv q.2.1.length q.2.2.1/\q.2.2.1.length=h0.length) (λq=>i+1-q.1)
  (λq=>[(19,.p (.int .i64 q.1))]) (λq=>q.2.2.1++q.2.2.2) (0,pre,lo,mid) ⟨cV _,h2,hI,hlo⟩ rfl ?_ ?_
 .simp only[go_sem,simprocAttr]
 clear h2 hI hlo
 rintro⟨j,pre,lo,mid⟩ ⟨g1,g2,hI,hlo⟩
 dsimp only at g1 g2 hI hlo;rcases IS g1 with he|hltj
 .have hl2:decide ((j:Int)<((i+1:Nat):Int))=false:=by simp;omega
  rw[he,zb,tK,gR]at g2;simp only[hl2,go_sem,simprocAttr];refine br (i+1,pre,lo,mid) ⟨by omega,g2,hI,hlo⟩ (by dsimp only;omega) rfl ?_;simp only[hw,go_sem,simprocAttr]
 have hl2:decide ((j:Int)<((i+1:Nat):Int))=true:=by simp;omega
 have hsub2:i+1-j=(i+1-(j+1))+1:=by omega
 rw[hsub2,tK]at g2;have hwj:IntKind.i64.wrap ((j:Int)+1)=((j+1:Nat):Int):=be (by omega) (by simp[ar];omega) (by omega);obtain⟨b,hb⟩:∃b,t.kinds[j]?=some b:=⟨_,bA (by omega)⟩
 have hsame:((i:Int)==(j:Int))=decide (i=j):=by rw[tj];simp;omega
 have gg:=kf hlo;have ss:=lP hlo;have mg:=kg (lo:=mid) rfl;have ms:=lQ (lo:=mid) rfl;have mix:iY t rs (i,j)=nW t rs a b (if i=j then 1000 else 1) (if i=j then 1000 else 999):=by simp only[iY,ha,hb]
 have fin:∀{s:Span},iY t rs (i,j)=s->(s.lo<=s.hi->sr t rs (i,j)=[((i,j),s)])/\(¬s.lo<=s.hi->sr t rs (i,j)=[]):=by
  rintro s rfl
  unfold sr vr;constructor
  .intro h;rw[if_pos h]
  .intro h;rw[if_neg h]
 have cP:=λlo' hi' h1 h2=>Uf t rs i j a b lo' hi' ht hrs hro ha hb h1 h2;rw[show (if i=j then(1000:Int) else 999)=if i=j then 1000 else 999 from rfl]at mix;by_cases hij:i=j
 .rw[if_pos hij,if_pos hij]at mix;have hd:decide (i=j)=true:=by simpa using hij
  obtain⟨f1,f2⟩:=fin mix;simp only[hl2,hsame,hd,go_sem,simprocAttr]
  (first|refine ae (cP 1000 1000 (by omega) (by omega)) rfl ?_|refine ay (cP 1000 1000 (by omega) (by omega)) rfl ?_)
  generalize nW t rs a b 1000 1000=s at mix f1 f2;simp only[dq,aK,bt,hlo,gg,ss,mg,ms,go_sem,simprocAttr];by_cases hc:s.lo<=s.hi
  .have hc':decide (s.lo<=s.hi)=true:=by simpa using hc
   have g2':=g2;rw[f1 hc]at g2';have hget:((lF t rs).map λm=>[lp m])[pre.length]?=some [lp ((i,j),s)]:=by rw[g2'];simp
   simp only[bt,gg,mg,hc',go_sem,simprocAttr];refine pm (hy pre.length _ lo (mid++[AObj.row 2 [AV.p s.pv]]) hget hI hlo) (λv h' hr=>?_) (λv h' hr=>?_);rotate_left
   .obtain⟨_,_,_,_,hr⟩:=hr;rcases hr with⟨hr,_⟩|⟨hr,_⟩<;>cases hr
   obtain⟨lo3,ext,rfl,hlo3,hr⟩:=hr;rcases hr with⟨hr,hI3⟩|⟨hr,hF⟩
   .cases hr;simp only[go_sem,simprocAttr];refine br (j+1,pre++[((i,j),s)],lo3,mid++[.row 2 [.p s.pv]]++ext) ⟨by omega,by rw[g2'];simp,by simpa using hI3,hlo3⟩ (by dsimp only;omega) (by simp[dq,Span.pv]) ?_;simp only[hwj,go_sem,simprocAttr]
   .cases hr;simp only[go_sem,simprocAttr];exact⟨lo3,mid++[.row 2 [.p s.pv]]++ext,by simp[dq,Span.pv],hlo3,.inr hF⟩
  .have hc':decide (s.lo<=s.hi)=false:=by simpa using hc
   rw[f2 hc,gR]at g2;simp only[hc',go_sem,simprocAttr];refine br (j+1,pre,lo,mid++[.row 2 [.p s.pv]]) ⟨by omega,g2,hI,hlo⟩ (by dsimp only;omega) (by simp[Span.pv]) ?_;simp only[hwj,go_sem,simprocAttr]
 .rw[if_neg hij,if_neg hij]at mix;have hd:decide (i=j)=false:=by simpa using hij
  obtain⟨f1,f2⟩:=fin mix;simp only[hl2,hsame,hd,go_sem,simprocAttr]
  (first|refine ae (cP 1 999 (by omega) (by omega)) rfl ?_|refine ay (cP 1 999 (by omega) (by omega)) rfl ?_)
  generalize nW t rs a b 1 999=s at mix f1 f2;simp only[dq,aK,bt,hlo,gg,ss,mg,ms,go_sem,simprocAttr];by_cases hc:s.lo<=s.hi
  .have hc':decide (s.lo<=s.hi)=true:=by simpa using hc
   have g2':=g2;rw[f1 hc]at g2';have hget:((lF t rs).map λm=>[lp m])[pre.length]?=some [lp ((i,j),s)]:=by rw[g2'];simp
   simp only[bt,gg,mg,hc',go_sem,simprocAttr];refine pm (hy pre.length _ lo (mid++[AObj.row 2 [AV.p s.pv]]) hget hI hlo) (λv h' hr=>?_) (λv h' hr=>?_);rotate_left
   .obtain⟨_,_,_,_,hr⟩:=hr;rcases hr with⟨hr,_⟩|⟨hr,_⟩<;>cases hr
   obtain⟨lo3,ext,rfl,hlo3,hr⟩:=hr;rcases hr with⟨hr,hI3⟩|⟨hr,hF⟩
   .cases hr;simp only[go_sem,simprocAttr];refine br (j+1,pre++[((i,j),s)],lo3,mid++[.row 2 [.p s.pv]]++ext) ⟨by omega,by rw[g2'];simp,by simpa using hI3,hlo3⟩ (by dsimp only;omega) (by simp[dq,Span.pv]) ?_;simp only[hwj,go_sem,simprocAttr]
   .cases hr;simp only[go_sem,simprocAttr];exact⟨lo3,mid++[.row 2 [.p s.pv]]++ext,by simp[dq,Span.pv],hlo3,.inr hF⟩
  .have hc':decide (s.lo<=s.hi)=false:=by simpa using hc
   rw[f2 hc,gR]at g2;simp only[hc',go_sem,simprocAttr];refine br (j+1,pre,lo,mid++[.row 2 [.p s.pv]]) ⟨by omega,g2,hI,hlo⟩ (by dsimp only;omega) (by simp[Span.pv]) ?_;simp only[hwj,go_sem,simprocAttr]
def PI (t:WxTable) (rs:List Int) (kind:Nat):Span:=Va kind (iY t rs) t.kinds.length
def mz (purity:Int) (p:Span):Span×Int×Int:=if p.hi<0 then(⟨0,0⟩,0,9) else if purity<=p.lo then(p,1,0) else if p.hi<purity then(p,0,0) else(p,2,0)
def bE (t:WxTable) (rs:List Int) (kind:Int):Span×Int×Int:=
 if eF t rs=0 then(if al kind 0 ((t.kinds.length:Int)-1)=true then mz t.purity (PI t rs kind.toNat) else(⟨0,0⟩,0,4)) else(⟨0,0⟩,0,eF t rs)
theorem B1{t}{rs}(h:eF t rs=0):TableOk t/\rs.length=t.props.length/\rs.all j7=true:=by
 unfold eF at h;split at h
 .rename_i h1;split at h
  .rename_i h2;split at h
   .rename_i h3;exact⟨D7 h1,h2,h3⟩
   .cases h
  .cases h
 .contradiction
theorem EO{t}{rs}{q}(h:(iY t rs q).lo<=(iY t rs q).hi):1<=(iY t rs q).lo/\(iY t rs q).hi<=1000:=by
 unfold iY at h |-;split at h
 .rename_i a b ha hb;unfold nW at h |-;have h1:=(sf _ t.props a.props b.props rs _).1 ⟨l4 _,h⟩;have h2:=(sf _ t.props a.props b.props rs _).1 ⟨h,l4 _⟩;dsimp only at h1 h2;by_cases hq:q.1=q.2
  .simp only[hq,if_true]at h1 h2 |-;omega
  .simp only[hq,if_false]at h1 h2 |-;omega
 .dsimp only at h;omega
theorem HO{t}{rs}:∀m,m∈lF t rs->1<=m.2.lo/\m.2.lo<=m.2.hi/\m.2.hi<=1000:=by
 intro m hm;rw[HP,DN]at hm;obtain⟨q,_,hm⟩:=hm;unfold sr vr at hm;by_cases hc:(iY t rs q).lo<=(iY t rs q).hi
 .rw[if_pos hc]at hm;have:=EO hc;rw[dA.1 hm];dsimp only;omega
 .rw[if_neg hc]at hm;cases hm
def mf (p:Span):Prop:=0<=p.lo/\p.lo<=1001/\-1<=p.hi/\p.hi<=1000
theorem HY{p l}(h:mf p)(hl:0<=l.lo/\l.lo<=1000/\0<=l.hi/\l.hi<=1000):mf (i8 p l):=by
 unfold mf i8 at *
 dsimp only;refine⟨?_,?_,?_,?_⟩<;>split<;>omega
set_option maxHeartbeats 4000000 in
theorem VW(t)(rs)(kind)(hrs0:rs.length<1000000000):af TP 199 [t.pv,.slice 1 (rs.map aG) false,.int .i64 kind] (.tuple [(bE t rs kind).1.pv,.int .i64 (bE t rs kind).2.1,.int .i64 (bE t rs kind).2.2]):=by
 refine aa (ah Tryz.func199 rfl (by kernel_rfl)) rfl ?_;simp only[go_sem,simprocAttr];refine ae (J1 t rs hrs0) rfl ?_;simp only[go_sem,simprocAttr];cases h0:(eF t rs != 0)
 rotate_left
 .have h0':¬eF t rs=0:=by simpa using h0
  simp only[bE,if_neg h0',go_sem,simprocAttr]
 have h0':eF t rs=0:=by simpa using h0
 obtain⟨ht,hrs,hro⟩:=B1 h0';have hkl:=ht.kinds;have hw:IntKind.i64.wrap ((t.kinds.length:Int)-1)=(t.kinds.length:Int)-1:=am (by omega) (by omega);simp only[hw,go_sem,simprocAttr];refine ae (eS 0 _ [_] true (by simp)) rfl ?_;simp only[bF,bp,cl,go_sem,simprocAttr];cases h1:al kind 0 ((t.kinds.length:Int)-1)
 .simp only[bE,h0',h1,go_sem,simprocAttr]
 have hk:0<=kind/\kind<=(t.kinds.length:Int)-1:=by simpa[al]using h1
 obtain⟨k,rfl⟩:∃k:Nat,kind=(k:Int):=⟨kind.toNat,by omega⟩
 have hsp:bE t rs (k:Int)=mz t.purity ((lF t rs).foldl (λp m=>i8 p (iR k m.1 m.2)) ⟨1001,-1⟩):=by
  rw[bE,if_pos h0',if_pos h1,HP,zT];rfl
 rw[hsp];simp only[if_pos h0',go_sem,simprocAttr];refine ae (Mt t rs) rfl ?_;simp only[nj,go_sem,simprocAttr];have fold_B:∀(l:List ((Nat×Nat)×Span)) (p:Span),mf p->(∀m,m∈l->1<=m.2.lo/\m.2.lo<=m.2.hi/\m.2.hi<=1000)->mf (l.foldl (λp m=>i8 p (iR k m.1 m.2)) p):=by
  intro l
  induction l with
  |nil=>intro p h _;exact h
  |cons m l ih=>
   intro p h hm;refine ih _ (HY h ?_) λm' h'=>hm m' (by simp[h']);have:=hm m (by simp);unfold iR;split
   .omega
   .split<;>dsimp only<;>omega
 have hB0:mf ⟨1001,-1⟩:=by unfold mf;decide
 refine Iv (l:=(lF t rs).map λm=>[lp m]) (λo n h=>h=[.row 3 [.p t.pv],.row 1 [.p (.int .i64 k)],.row 2 [.p (((lF t rs).take n).foldl (λp m=>i8 p (iR k m.1 m.2)) ⟨1001,-1⟩).pv],.dblock,o]) (λ_ _=>False)
  rfl (by simp only[nj,go_sem,simprocAttr]) (LZ t rs ht hrs hro) dC (by kernel_rfl) (by kernel_rfl) (by kernel_rfl) ?_ ?_ ?_ ?_ (λ_ _ _ h=>h.elim)
 .rintro o n h rfl;simp
 .intro o;simp only[go_sem,simprocAttr];rfl
 .rintro oR oB oD n xs lo mid hk' rfl _
  rw[cz,cd]at hk';obtain⟨m,hm,rfl⟩:=hk';have hmi:=HO m (aT hm);have hB:=fold_B ((lF t rs).take n) ⟨1001,-1⟩ hB0 λm hm=>HO m (sb hm);have hnext:((lF t rs).take (n+1)).foldl (λp m=>i8 p (iR k m.1 m.2)) ⟨1001,-1⟩=i8 (((lF t rs).take n).foldl (λp m=>i8 p (iR k m.1 m.2)) ⟨1001,-1⟩) (iR k m.1 m.2):=by
   rw[xW,hm,Option.toList_some,AI];rfl
  generalize ((lF t rs).take n).foldl (λp m=>i8 p (iR k m.1 m.2)) ⟨1001,-1⟩=p at hB hnext |-;have mg:=kg (lo:=mid) rfl;have mgg:=kf (lo:=mid) rfl;have ms:=lQ (lo:=mid) rfl;have mss:=lP (lo:=mid) rfl;have k1:((k:Int)==(m.1.1:Int))=decide (k=m.1.1):=by rw[tj];simp;omega
  have k2:((k:Int)==(m.1.2:Int))=decide (k=m.1.2):=by rw[tj];simp;omega
  have w1:IntKind.i64.wrap (1000-m.2.hi)=1000-m.2.hi:=am (by omega) (by omega);have w2:IntKind.i64.wrap (1000-m.2.lo)=1000-m.2.lo:=am (by omega) (by omega);simp only[dq,aK,bt,mg,mgg,ms,mss,k1,go_sem,simprocAttr];by_cases c1:k=m.1.1
  .have c1':decide (k=m.1.1)=true:=by simpa using c1
   simp only[dq,bt,mgg,c1',go_sem,simprocAttr];refine⟨_,[AObj.row 4 [AV.p (lp m)],AObj.row 2 [AV.p m.2.pv]],?_,by simp,rfl⟩;rw[hnext,iR,if_pos c1];simp[i8,Span.pv,lp]
  have c1':decide (k=m.1.1)=false:=by simpa using c1
  by_cases c2:k=m.1.2
  .have c2':decide (k=m.1.2)=true:=by simpa using c2
   simp only[dq,bt,mg,mgg,mss,c1',k2,c2',w1,w2,go_sem,simprocAttr];refine⟨_,[AObj.row 4 [AV.p (lp m)],AObj.row 2 [AV.p (.agg [.int .i64 (1000-m.2.hi),.int .i64 (1000-m.2.lo)])]],?_,by simp,rfl⟩;rw[hnext,iR,if_neg c1,if_pos c2];simp[i8,lp]
  have c2':decide (k=m.1.2)=false:=by simpa using c2
  simp only[dq,bt,mg,mgg,mss,c1',k2,c2',go_sem,simprocAttr];refine⟨_,[AObj.row 4 [AV.p (lp m)],AObj.row 2 [AV.p (.agg [.int .i64 0,.int .i64 0])]],?_,by simp,rfl⟩;rw[hnext,iR,if_neg c1,if_neg c2];simp[i8,lp]
 .rintro o lo mid rfl _
  rw[dL,te];generalize (lF t rs).foldl (λp m=>i8 p (iR k m.1 m.2)) ⟨1001,-1⟩=p;simp only[go_sem,simprocAttr];cases c1:decide (p.hi<0);rotate_left
  .have c1':p.hi<0:=by simpa using c1
   simp only[mz,if_pos c1',go_sem,simprocAttr];rw[bZ];simp only[go_sem,simprocAttr]
  have c1':¬p.hi<0:=by simpa using c1
  simp only[go_sem,simprocAttr];cases c2:decide (t.purity<=p.lo);rotate_left
  .have c2':t.purity<=p.lo:=by simpa using c2
   simp only[mz,if_neg c1',if_pos c2',go_sem,simprocAttr];rw[bZ];simp only[go_sem,simprocAttr]
  have c2':¬t.purity<=p.lo:=by simpa using c2
  simp only[go_sem,simprocAttr];cases c3:decide (p.hi<t.purity)
  .have c3':¬p.hi<t.purity:=by simpa using c3
   simp only[mz,if_neg c1',if_neg c2',if_neg c3',go_sem,simprocAttr];rw[bZ];simp only[go_sem,simprocAttr]
  .have c3':p.hi<t.purity:=by simpa using c3
   simp only[mz,if_neg c1',if_neg c2',if_pos c3',go_sem,simprocAttr];rw[bZ];simp only[go_sem,simprocAttr]
theorem L7(s):dj s.lo s.hi 0 100000=if l5 s=true then(if decide (s.hi<s.lo)=true then 2 else 0) else 7:=by
 unfold dj l5;cases al s.lo 0 100000<;>cases al s.hi 0 100000<;>simp
def pP (w:Int) (l:List Span):Int:=if(l.any λs=>!l5 s)=true then 7 else if(l.any λs=>decide (s.hi<s.lo))=true then 2 else w
theorem IX{w}{s}{l}(hv:l5 s=true):pP w (s::l)=pP (if decide (s.hi<s.lo)=true then 2 else w) l:=by
 unfold pP;rw[bF,bF,hv];cases decide (s.hi<s.lo)<;>cases (l.any λs=>!l5 s)<;>cases (l.any λs=>decide (s.hi<s.lo))<;>simp
theorem In(l)(many:Nat)(hm:many<1000000000):af TP 53 [.slice 2 (l.map Span.pv) false,.int .i64 many] (.int .i64 (if l.length=many then pP 0 l else 3)):=by
 refine aa (ah Tryz.func53 rfl (by kernel_rfl)) rfl ?_;simp only[go_sem,simprocAttr];cases h1:((l.length:Int) != (many:Int))
 rotate_left
 .have h1':¬l.length=many:=by simp at h1;omega
  simp only[if_neg h1',go_sem,simprocAttr]
 have h1':l.length=many:=by simp at h1;omega
 rw[if_pos h1',<-h1'];simp only[go_sem,simprocAttr];refine bm [0,1] l (by omega) (τ:=Int) (λdone rest w=>pP 0 l=pP w rest) (λdone w=>[(5,.p (.int .i64 w)),(6,.p (.int .i64 done.length))]) (λ_ _=>[]) 0 rfl ?_ ?_ ?_
 .simp only[go_sem,simprocAttr]<;>simp
 .intro w e2;simp only[go_sem,simprocAttr];rw[e2];rfl
 .intro done s r w e1 e2 hx hlt hnx;simp only[hlt,hx,go_sem,simprocAttr];refine ae (oF _ _ _ _) rfl ?_;rw[L7];cases hv:l5 s
  .have:pP w (s::r)=7:=by rw[pP,bF,hv];rfl
   rw[this]at e2;simp only[e2,go_sem,simprocAttr]
  .rw[IX hv]at e2;cases hc:decide (s.hi<s.lo)
   .rw[hc]at e2;simp only[go_sem,simprocAttr];refine aE e1 w e2 ?_;simp only[hnx,go_sem,simprocAttr]
   .rw[hc]at e2;simp only[go_sem,simprocAttr];refine aE e1 2 e2 ?_;simp only[hnx,go_sem,simprocAttr]
theorem A9(many)(k):fD many k=if k.props.length=many then pP 0 k.props else 3:=rfl
set_option maxHeartbeats 2000000 in
theorem ph(t):af TP 13 [t.pv] (aj (wxCheck t)):=by
 refine aa (ah Tryz.func13 rfl (by kernel_rfl)) rfl ?_;simp only[go_sem,simprocAttr];refine ae (yM _ _ _) rfl ?_;simp only[go_sem,simprocAttr];cases h1:al t.props.length 1 5
 .simp only[aj,wxCheck,h1,go_sem,simprocAttr]
 simp only[go_sem,simprocAttr];refine ae (yM _ _ _) rfl ?_;simp only[go_sem,simprocAttr];cases h2:al t.kinds.length 1 8
 .simp only[aj,wxCheck,h1,h2,go_sem,simprocAttr]
 simp only[go_sem,simprocAttr];refine ae (yM _ _ _) rfl ?_;simp only[go_sem,simprocAttr];cases h3:al t.purity 1 1000
 .simp only[aj,wxCheck,h1,h2,h3,go_sem,simprocAttr]
 have hspec:wxCheck t=tail t (firstErr cF (·.name) t.props []):=by simp only[wxCheck,h1,h2,h3,mO,if_true]
 rw[hspec];have hlp:t.props.length<=5:=by simp[al]at h1;omega
 have hlk:t.kinds.length<=8:=by simp[al]at h2;omega
 simp only[go_sem,simprocAttr];refine ck 5 1 (by simp only[go_sem,simprocAttr]) ?_;simp only[go_sem,simprocAttr]
 refine bm [1] t.props (by omega) (τ:=Unit) (λdone rest _=>firstErr cF (·.name) t.props []=firstErr cF (·.name) rest (done.map (·.name)))
  (λdone _=>[(5,.slice 1 done.length 0 done.length),(6,.p (.int .i64 done.length))]) (λdone _=>[.row 3 [.p t.pv],.row 1 (done.map λx=>.p (.str x.name))]) () rfl ?_ ?_ ?_
 .simp only[go_sem,simprocAttr]<;>simp
 .intro _ e2;have hT:tail t (firstErr cF (·.name) t.props [])=tail t none:=by rw[e2];rfl
  rw[hT];simp only[go_sem,simprocAttr];refine ck 5 1 (by simp only[go_sem,simprocAttr]) ?_;simp only[go_sem,simprocAttr]
  refine bm [1] t.kinds (by omega) (τ:=Unit) (λdone rest _=>firstErr (kindErr t.props.length) (·.name) t.kinds []=firstErr (kindErr t.props.length) (·.name) rest (done.map (·.name)))
   (λdone _=>[(5,.slice 2 done.length 0 done.length),(8,.p (.int .i64 done.length))]) (λdone _=>[.row 3 [.p t.pv],.row 1 (t.props.map λx=>.p (.str x.name)),.row 1 (done.map λx=>.p (.str x.name))]) () rfl ?_ ?_ ?_
  .simp only[go_sem,simprocAttr]<;>simp
  .intro _ e2;have hT:tail t none=(0,0,0):=by
    simp only[tail];rw[e2];rfl
   simp only[aj,hT,go_sem,simprocAttr]
  .intro done x r _ e1 e2 hx hlt hnx;obtain⟨go,fin⟩:=HX e2;have hrm:done.length+1<=ar:=by simp[ar];have:=congrArg List.length e1;simp at this;omega
   simp only[hlt,hx,go_sem,simprocAttr];refine aY (je x.name (done.map (·.name)) false (done.map λx=>.str x.name) (by simp) (by simp;have:=congrArg List.length e1;simp at this;omega)) ?_ (.int _ _) ?_
   .simp only[go_sem,simprocAttr]
   simp only[go_sem,simprocAttr];cases h5:(ak (done.map (·.name)) x.name==0)
   .have h5':ak (done.map (·.name)) x.name≠0:=by simpa using h5
    have h5n:(ak (done.map (·.name)) x.name != 0)=true:=by simp[bne,h5]
    simp only[h5n,aj,fin _ (by rw[kindErr,if_neg h5']) h5',go_sem,simprocAttr]
   have h5':ak (done.map (·.name)) x.name=0:=by simpa using h5
   have hb:kindErr t.props.length (done.map (·.name)) x=fD t.props.length x:=by rw[kindErr,if_pos h5']
   simp only[hx,hlt,go_sem,simprocAttr]
   (first|refine ae (In x.props t.props.length (by omega)) rfl ?_|refine ay (In x.props t.props.length (by omega)) rfl ?_)
   rw[<-A9];simp only[go_sem,simprocAttr];cases h6:(fD t.props.length x != 0)
   rotate_left
   .have h6':fD t.props.length x≠0:=by simpa using h6
    simp only[aj,fin _ hb h6',go_sem,simprocAttr]
   have h6':fD t.props.length x=0:=by simpa using h6
   simp only[hrm,hlt,hx,go_sem,simprocAttr];refine aE e1 () (go (hb.trans h6')) ?_;simp only[hnx,go_sem,simprocAttr];all_goals simp
 .intro done x r _ e1 e2 hx hlt hnx;obtain⟨go,fin⟩:=HK e2;have hrm:done.length+1<=ar:=by simp[ar];have:=congrArg List.length e1;simp at this;omega
  simp only[hlt,hx,go_sem,simprocAttr];refine aY (je x.name (done.map (·.name)) false (done.map λx=>.str x.name) (by simp) (by simp;have:=congrArg List.length e1;simp at this;omega)) ?_ (.int _ _) ?_
  .simp only[go_sem,simprocAttr]
  simp only[go_sem,simprocAttr];cases h5:(ak (done.map (·.name)) x.name==0)
  .have h5':ak (done.map (·.name)) x.name≠0:=by simpa using h5
   have h5n:(ak (done.map (·.name)) x.name != 0)=true:=by simp[bne,h5]
   simp only[h5n,aj,fin _ (by rw[cF,if_neg h5']) h5',go_sem,simprocAttr]
  have h5':ak (done.map (·.name)) x.name=0:=by simpa using h5
  have hb:cF (done.map (·.name)) x=kS x:=by rw[cF,if_pos h5']
  simp only[hx,hlt,go_sem,simprocAttr];refine ae (yM _ _ _) rfl ?_;simp only[go_sem,simprocAttr];cases h6:al x.error 0 10000
  .simp only[aj,fin 7 (by rw[hb,kS,h6];rfl) (by decide),go_sem,simprocAttr]
  simp only[hrm,hlt,hx,h5',go_sem,simprocAttr];refine aE e1 () (go (by rw[hb,kS,h6];rfl)) ?_;simp only[hnx,go_sem,simprocAttr];all_goals simp
def U':Option Span->Span
 |none=>⟨0,0⟩
 |some s=>s
def SY (o:Option Span):PV:=.tuple [(U' o).pv,.bool o.isSome]
attribute [go_sem] SY
end Wx
set_option maxRecDepth 4000
theorem RQ(lo hi n):af TP 104 [.int .i64 n,.ptr 1 [.int .i64 lo] 0 0,.ptr 1 [.int .i64 hi] 0 0] (.bool (!al n lo hi)):=by
 refine aa (ah Tryz.func104 rfl (by kernel_rfl)) rfl ?_;simp only[go_sem,simprocAttr];refine aR (λhb=>?_) (λhb=>?_)<;>simp only[hb,go_sem,simprocAttr]<;>simp_all [al];rw[<-decide_not];congr 1;simp
theorem fI(lo hi)(l:List Int)(b)(hl:l.length<1000000000):af TP 72 [.int .i64 lo,.int .i64 hi,.slice 1 (l.map aG) b] (.bool (l.any λn=>!al n lo hi)):=by
 refine aa (ah Tryz.func72 rfl (by kernel_rfl)) rfl ?_;simp only[go_sem,simprocAttr];refine aY (jF (fv:=.func (.func 104) [] [.ptr 1 [.int .i64 lo] 0 0,.ptr 1 [.int .i64 hi] 0 0]) l (λn=>!al n lo hi) b 1 rfl hl λn _=>⟨_,_,_,rfl,RQ lo hi n⟩) ?_ (.bool _) ?_
 .simp only[go_sem,simprocAttr]
 .simp only[go_sem,simprocAttr]
theorem FE(x:HrKind):af TP 117 [x.pv] (.str x.name):=by
 refine aa (ah Tryz.func117 rfl (by kernel_rfl)) rfl ?_;simp only[go_sem,simprocAttr]
theorem OZ(s)(x:HrKind):af TP 168 [x.pv,.ptr 1 [.func (.func 117) [] []] 0 0,.ptr 1 [.str s] 0 0] (.bool (x.name==s)):=by
 refine aa (ah Tryz.func168 rfl (by kernel_rfl)) rfl ?_;simp only[go_sem,simprocAttr];refine ay (FE x) rfl ?_;simp only[go_sem,simprocAttr]
theorem My(l)(x)(b)(hl:l.length<1000000):af TP 116 [.slice 4 ((l++[x]).map HrKind.pv) b,.func (.func 117) [] []] (.int .i64 (ak (l.map (·.name)) x.name)):=by
 have hw:IntKind.i64.wrap ((((l++[x]).length:Nat):Int)-1)=((l.length:Nat):Int):=by
  rw[cI (by simp<;>omega) (by simp[ar]<;>omega)];simp
 have hx:(l++[x])[l.length]?=some x:=by simp
 have hlt:((l.length:Nat):Int)<(((l++[x]).length:Nat):Int):=by simp<;>omega
 have hle:((l.length:Nat):Int)<=(((l++[x]).length:Nat):Int):=by omega
 have htk:((l++[x]).map HrKind.pv).take l.length=l.map HrKind.pv:=by rw[ca,jL (by simp)]
 have hfl:(l.length==(l++[x]).length)=false:=by simp
 refine aa (ah Tryz.func116 rfl (by kernel_rfl)) rfl ?_;simp only[hw,hx,hlt,go_sem,simprocAttr];refine ay (FE x) rfl ?_;simp only[go_sem,simprocAttr];refine ae (jn x.name) rfl ?_;simp only[go_sem,simprocAttr];cases hn:nameOk x.name
 .simp only[go_sem,simprocAttr];simp[ak,hn]
 .simp only[hle,htk,hfl,go_sem,simprocAttr];refine aY (BC (fv:=.func (.func 168) [] [.ptr 1 [.func (.func 117) [] []] 0 0,.ptr 1 [.str x.name] 0 0]) l (λy=>y.name==x.name) false 4 rfl (by omega) λy _=>⟨_,_,_,rfl,OZ x.name y⟩) ?_ (.bool _) ?_
  .simp only[go_sem,simprocAttr]
  simp only[go_sem,simprocAttr];refine aR (λhb=>?_) (λhb=>?_)<;>simp only[hb,go_sem,simprocAttr]
  .simp only[ak,hn,jP,jw,hb,if_true]
  .simp only[ak,hn,jP,jw,hb,if_true,d4,if_false]
theorem FD(x:HrRule):af TP 119 [x.pv] (.str x.name):=by
 refine aa (ah Tryz.func119 rfl (by kernel_rfl)) rfl ?_;simp only[go_sem,simprocAttr]
theorem OY(s)(x:HrRule):af TP 170 [x.pv,.ptr 1 [.func (.func 119) [] []] 0 0,.ptr 1 [.str s] 0 0] (.bool (x.name==s)):=by
 refine aa (ah Tryz.func170 rfl (by kernel_rfl)) rfl ?_;simp only[go_sem,simprocAttr];refine ay (FD x) rfl ?_;simp only[go_sem,simprocAttr]
theorem Mx(l)(x)(b)(hl:l.length<1000000):af TP 118 [.slice 5 ((l++[x]).map HrRule.pv) b,.func (.func 119) [] []] (.int .i64 (ak (l.map (·.name)) x.name)):=by
 have hw:IntKind.i64.wrap ((((l++[x]).length:Nat):Int)-1)=((l.length:Nat):Int):=by
  rw[cI (by simp<;>omega) (by simp[ar]<;>omega)];simp
 have hx:(l++[x])[l.length]?=some x:=by simp
 have hlt:((l.length:Nat):Int)<(((l++[x]).length:Nat):Int):=by simp<;>omega
 have hle:((l.length:Nat):Int)<=(((l++[x]).length:Nat):Int):=by omega
 have htk:((l++[x]).map HrRule.pv).take l.length=l.map HrRule.pv:=by rw[ca,jL (by simp)]
 have hfl:(l.length==(l++[x]).length)=false:=by simp
 refine aa (ah Tryz.func118 rfl (by kernel_rfl)) rfl ?_;simp only[hw,hx,hlt,go_sem,simprocAttr];refine ay (FD x) rfl ?_;simp only[go_sem,simprocAttr];refine ae (jn x.name) rfl ?_;simp only[go_sem,simprocAttr];cases hn:nameOk x.name
 .simp only[go_sem,simprocAttr];simp[ak,hn]
 .simp only[hle,htk,hfl,go_sem,simprocAttr];refine aY (BB (fv:=.func (.func 170) [] [.ptr 1 [.func (.func 119) [] []] 0 0,.ptr 1 [.str x.name] 0 0]) l (λy=>y.name==x.name) false 5 rfl (by omega) λy _=>⟨_,_,_,rfl,OY x.name y⟩) ?_ (.bool _) ?_
  .simp only[go_sem,simprocAttr]
  simp only[go_sem,simprocAttr];refine aR (λhb=>?_) (λhb=>?_)<;>simp only[hb,go_sem,simprocAttr]
  .simp only[ak,hn,jP,jw,hb,if_true]
  .simp only[ak,hn,jP,jw,hb,if_true,d4,if_false]
def dY (k:HrKind):Int:=
 if(al k.weight.lo 1 10000000&&al k.weight.hi 1 10000000&&al k.rest 0 10000000)=true then(if(decide (k.weight.hi<k.weight.lo)||decide (k.weight.lo<=k.rest))=true then 2 else 0) else 7
def dX (r:HrRule):Int:=
 if(al r.minutes.lo 0 1000000&&al r.minutes.hi 0 1000000&&(al r.weight.lo 0 10000000&&al r.weight.hi 0 10000000))=true then
  (if(decide (r.minutes.hi<r.minutes.lo)||decide (r.weight.hi<r.weight.lo))=true then 2 else 0) else 7
def bO (before:List ByteArray) (k:HrKind):Int:=if ak before k.name=0 then dY k else ak before k.name
def cr (before:List ByteArray) (r:HrRule):Int:=if ak before r.name=0 then dX r else ak before r.name
def iz (s:HrShop):Option (Int×Int)->Int×Int×Int
 |some (i,e)=>(2,i,e)
 |none=>match firstErr cr (·.name) s.rules []with|some (i,e)=>(3,i,e)|none=>(0,0,0)
def hrCheck (s:HrShop):Int×Int×Int:=
 if(al s.kinds.length 1 6&&decide (s.rules.length<=6))=true then
  if al s.margin 0 500=true then iz s (firstErr bO (·.name) s.kinds []) else(1,0,7)
 else(1,0,3)
theorem Cq{s}{done r}{x}(_:s.kinds=done++x::r)(e2:firstErr bO (·.name) s.kinds []=firstErr bO (·.name) (x::r) (done.map (·.name))) :
  (bO (done.map (·.name)) x=0->firstErr bO (·.name) s.kinds []=firstErr bO (·.name) r ((done++[x]).map (·.name))) /\
  ∀e,bO (done.map (·.name)) x=e->e≠0->iz s (firstErr bO (·.name) s.kinds [])=(2,(done.length:Int),e):=by
 have hE:firstErr bO (·.name) s.kinds []=if bO (done.map (·.name)) x=0 then firstErr bO (·.name) r ((done++[x]).map (·.name)) else some ((done.length:Int),bO (done.map (·.name)) x):=by
  rw[e2,firstErr];simp
 exact⟨λh=>by rw[hE,if_pos h],λe he hne=>by rw[hE,he,if_neg hne];rfl⟩
theorem Cp{s}{done r}{x}(_:s.rules=done++x::r)(e2:firstErr cr (·.name) s.rules []=firstErr cr (·.name) (x::r) (done.map (·.name))) :
  (cr (done.map (·.name)) x=0->firstErr cr (·.name) s.rules []=firstErr cr (·.name) r ((done++[x]).map (·.name))) /\
  ∀e,cr (done.map (·.name)) x=e->e≠0->iz s none=(3,(done.length:Int),e):=by
 have hE:firstErr cr (·.name) s.rules []=if cr (done.map (·.name)) x=0 then firstErr cr (·.name) r ((done++[x]).map (·.name)) else some ((done.length:Int),cr (done.map (·.name)) x):=by
  rw[e2,firstErr];simp
 exact⟨λh=>by rw[hE,if_pos h],λe he hne=>by simp only[iz];rw[hE,he,if_neg hne]⟩
set_option maxHeartbeats 1000000 in
theorem FF(s):af TP 92 [s.pv] (aj (hrCheck s)):=by
 refine aa (ah Tryz.func92 rfl (by kernel_rfl)) rfl ?_;simp only[go_sem,simprocAttr];refine ae (fI 1 6 [_] true (by simp)) rfl ?_;simp only[bF,bp,cl,go_sem,simprocAttr];cases h1:al s.kinds.length 1 6
 .simp only[aj,hrCheck,h1,go_sem,simprocAttr]
 simp only[go_sem,simprocAttr];cases h2:decide ((6:Int)<(s.rules.length:Int));rotate_left
 .have h2':decide (s.rules.length<=6)=false:=by simp at h2 |-;omega
  simp only[aj,hrCheck,h1,h2',go_sem,simprocAttr]
 have h2':decide (s.rules.length<=6)=true:=by simp at h2 |-;omega
 simp only[go_sem,simprocAttr];refine ae (fI 0 500 [_] true (by simp)) rfl ?_;simp only[bF,bp,cl,go_sem,simprocAttr];cases h3:al s.margin 0 500
 .simp only[aj,hrCheck,h1,h2',h3,go_sem,simprocAttr]
 have hspec:hrCheck s=iz s (firstErr bO (·.name) s.kinds []):=by simp only[hrCheck,h1,h2',h3,mO,if_true]
 rw[hspec];have hlk:s.kinds.length<=6:=by simp[al]at h1;omega
 have hlr:s.rules.length<=6:=by simpa using h2'
 simp only[go_sem,simprocAttr]
 refine bm [1,27,28] s.kinds (by omega) (τ:=Unit) (λdone rest _=>firstErr bO (·.name) s.kinds []=firstErr bO (·.name) rest (done.map (·.name)))
  (λdone _=>[(29,.p (.int .i64 done.length)),(4,.p (.int .i64 0))]) (λ_ _=>[.row 3 [.p s.pv]]) () rfl ?_ ?_ ?_
 .simp only[go_sem,simprocAttr]<;>simp
 .intro _ e2;have hT:iz s (firstErr bO (·.name) s.kinds [])=iz s none:=by rw[e2];rfl
  rw[hT];simp only[go_sem,simprocAttr]
  refine bm [1,80,81] s.rules (by omega) (τ:=Unit) (λdone rest _=>firstErr cr (·.name) s.rules []=firstErr cr (·.name) rest (done.map (·.name)))
   (λdone _=>[(82,.p (.int .i64 done.length)),(4,.p (.int .i64 0))]) (λ_ _=>[.row 3 [.p s.pv]]) () rfl ?_ ?_ ?_
  .simp only[go_sem,simprocAttr]<;>simp
  .intro _ e2;have hT:iz s none=(0,0,0):=by
    simp only[iz];rw[e2];rfl
   simp only[aj,hT,go_sem,simprocAttr]
  .intro done x r _ e1 e2 hx hlt hnx;obtain⟨go,fin⟩:=Cp e1 e2;have hle:(((done++[x]).length:Nat):Int)<=(s.rules.length:Int):=by rw[e1];simp<;>omega
   have htk:(s.rules.map HrRule.pv).take (done++[x]).length=(done++[x]).map HrRule.pv:=by
    rw[e1,show done++x::r=(done++[x])++r by simp,ca,jL (by simp)]
   have hdl:done.length<1000000:=by have:=congrArg List.length e1;simp at this;omega
   simp only[hlt,hx,hnx,hle,htk,go_sem,simprocAttr];refine ae (Mx done x false hdl) rfl ?_;simp only[go_sem,simprocAttr];cases h5:(ak (done.map (·.name)) x.name != 0)
   rotate_left
   .have h5':ak (done.map (·.name)) x.name≠0:=by simpa using h5
    simp only[h5,aj,fin _ (by rw[cr,if_neg h5']) h5',go_sem,simprocAttr]
   have h5':ak (done.map (·.name)) x.name=0:=by simpa using h5
   have hb:cr (done.map (·.name)) x=dX x:=by rw[cr,if_pos h5']
   simp only[go_sem,simprocAttr];refine ae (fI 0 1000000 [_,_] true (by simp)) rfl ?_;simp only[bF,bp,cl,<-iD,go_sem,simprocAttr];cases h6:(al x.minutes.lo 0 1000000&&al x.minutes.hi 0 1000000)
   .simp only[aj,fin 7 (by rw[hb,dX,h6];rfl) (by decide),go_sem,simprocAttr]
   simp only[go_sem,simprocAttr];refine ae (fI 0 10000000 [_,_] true (by simp)) rfl ?_;simp only[bF,bp,cl,<-iD,go_sem,simprocAttr];cases h7:(al x.weight.lo 0 10000000&&al x.weight.hi 0 10000000)
   .simp only[aj,fin 7 (by rw[hb,dX,h6,h7];rfl) (by decide),go_sem,simprocAttr]
   simp only[go_sem,simprocAttr];cases h8:decide (x.minutes.hi<x.minutes.lo);rotate_left
   .simp only[aj,fin 2 (by rw[hb,dX,h6,h7,h8];rfl) (by decide),go_sem,simprocAttr]
   simp only[go_sem,simprocAttr];cases h9:decide (x.weight.hi<x.weight.lo);rotate_left
   .simp only[aj,fin 2 (by rw[hb,dX,h6,h7,h8,h9];rfl) (by decide),go_sem,simprocAttr]
   simp only[h5',go_sem,simprocAttr];refine aE e1 () (go (by rw[hb,dX,h6,h7,h8,h9];rfl)) ?_;simp only[hnx,go_sem,simprocAttr]
 .intro done x r _ e1 e2 hx hlt hnx;obtain⟨go,fin⟩:=Cq e1 e2;have hle:(((done++[x]).length:Nat):Int)<=(s.kinds.length:Int):=by rw[e1];simp<;>omega
  have htk:(s.kinds.map HrKind.pv).take (done++[x]).length=(done++[x]).map HrKind.pv:=by
   rw[e1,show done++x::r=(done++[x])++r by simp,ca,jL (by simp)]
  have hdl:done.length<1000000:=by have:=congrArg List.length e1;simp at this;omega
  simp only[hlt,hx,hnx,hle,htk,go_sem,simprocAttr];refine ae (My done x false hdl) rfl ?_;simp only[go_sem,simprocAttr];cases h5:(ak (done.map (·.name)) x.name != 0)
  rotate_left
  .have h5':ak (done.map (·.name)) x.name≠0:=by simpa using h5
   simp only[h5,aj,fin _ (by rw[bO,if_neg h5']) h5',go_sem,simprocAttr]
  have h5':ak (done.map (·.name)) x.name=0:=by simpa using h5
  have hb:bO (done.map (·.name)) x=dY x:=by rw[bO,if_pos h5']
  simp only[go_sem,simprocAttr];refine ae (fI 1 10000000 [_,_] true (by simp)) rfl ?_;simp only[bF,bp,cl,<-iD,go_sem,simprocAttr];cases h6:(al x.weight.lo 1 10000000&&al x.weight.hi 1 10000000)
  .simp only[aj,fin 7 (by rw[hb,dY,h6];rfl) (by decide),go_sem,simprocAttr]
  simp only[go_sem,simprocAttr];refine ae (fI 0 10000000 [_] true (by simp)) rfl ?_;simp only[bF,bp,cl,go_sem,simprocAttr];cases h7:al x.rest 0 10000000
  .simp only[aj,fin 7 (by rw[hb,dY,h6,h7];rfl) (by decide),go_sem,simprocAttr]
  simp only[go_sem,simprocAttr];cases h8:decide (x.weight.hi<x.weight.lo);rotate_left
  .simp only[aj,fin 2 (by rw[hb,dY,h6,h7,h8];rfl) (by decide),go_sem,simprocAttr]
  simp only[go_sem,simprocAttr];cases h9:decide (x.weight.lo<=x.rest);rotate_left
  .simp only[aj,fin 2 (by rw[hb,dY,h6,h7,h8,h9];rfl) (by decide),go_sem,simprocAttr]
  simp only[h5',go_sem,simprocAttr];refine aE e1 () (go (by rw[hb,dY,h6,h7,h8,h9];rfl)) ?_;simp only[hnx,go_sem,simprocAttr]
theorem JY(x):af TP 61 [x.pv] (.int .i64 (dY x)):=by
 refine aa (ah Tryz.func61 rfl (by kernel_rfl)) rfl ?_;simp only[go_sem,simprocAttr];refine ae (oF _ _ _ _) rfl ?_;simp only[go_sem,simprocAttr];refine ae (wa _ _ _) rfl ?_;unfold dY;cases h1:al x.weight.lo 1 10000000
 .have hg:dj x.weight.lo x.weight.hi 1 10000000=7:=by simp[dj,h1]
  cases h3:al x.rest 0 10000000
  .simp only[hg,go_sem,simprocAttr]
  .simp only[hg,go_sem,simprocAttr]
 cases h2:al x.weight.hi 1 10000000
 .have hg:dj x.weight.lo x.weight.hi 1 10000000=7:=by simp[dj,h1,h2]
  cases h3:al x.rest 0 10000000
  .simp only[hg,go_sem,simprocAttr]
  .simp only[hg,go_sem,simprocAttr]
 cases h3:al x.rest 0 10000000
 .simp only[go_sem,simprocAttr]
 cases h4:decide (x.weight.hi<x.weight.lo)
 .have hg:dj x.weight.lo x.weight.hi 1 10000000=0:=by simp[dj,h1,h2];simpa using h4
  cases h5:decide (x.weight.lo<=x.rest)
  .simp only[hg,h5,go_sem,simprocAttr]
  .simp only[hg,h5,go_sem,simprocAttr]
 .have hg:dj x.weight.lo x.weight.hi 1 10000000=2:=by simp[dj,h1,h2];simpa using h4
  simp only[hg,go_sem,simprocAttr]
theorem JX(x):af TP 62 [x.pv] (.int .i64 (dX x)):=by
 refine aa (ah Tryz.func62 rfl (by kernel_rfl)) rfl ?_;simp only[go_sem,simprocAttr];refine ay (oF _ _ _ _) rfl ?_;simp only[go_sem,simprocAttr];refine ay (oF _ _ _ _) rfl ?_;unfold dX;have hg:∀(a:Span) (m n:Int),dj a.lo a.hi m n=if(al a.lo m n&&al a.hi m n)=true then(if decide (a.hi<a.lo)=true then 2 else 0) else 7:=by
  intro a m n;unfold dj;cases al a.lo m n<;>cases al a.hi m n<;>simp
 simp only[hg]
 cases h1:(al x.minutes.lo 0 1000000&&al x.minutes.hi 0 1000000)<;>cases h2:(al x.weight.lo 0 10000000&&al x.weight.hi 0 10000000) <;>
  cases h3:decide (x.minutes.hi<x.minutes.lo)<;>cases h4:decide (x.weight.hi<x.weight.lo)<;>(simp only[go_sem,simprocAttr];try rfl)
set_option maxHeartbeats 1000000 in
theorem xO(s):af TP 16 [s.pv] (aj (hrCheck s)):=by
 refine aa (ah Tryz.func16 rfl (by kernel_rfl)) rfl ?_;simp only[go_sem,simprocAttr];refine ae (wa _ _ _) rfl ?_;simp only[go_sem,simprocAttr];cases h1:al s.kinds.length 1 6
 .simp only[aj,hrCheck,h1,go_sem,simprocAttr]
 simp only[go_sem,simprocAttr];cases h2:decide ((6:Int)<(s.rules.length:Int));rotate_left
 .have h2':decide (s.rules.length<=6)=false:=by simp at h2 |-;omega
  simp only[aj,hrCheck,h1,h2',go_sem,simprocAttr]
 have h2':decide (s.rules.length<=6)=true:=by simp at h2 |-;omega
 simp only[go_sem,simprocAttr];refine ae (wa _ _ _) rfl ?_;simp only[go_sem,simprocAttr];cases h3:al s.margin 0 500
 .simp only[aj,hrCheck,h1,h2',h3,go_sem,simprocAttr]
 have hspec:hrCheck s=iz s (firstErr bO (·.name) s.kinds []):=by simp only[hrCheck,h1,h2',h3,mO,if_true]
 rw[hspec];have hlk:s.kinds.length<=6:=by simp[al]at h1;omega
 have hlr:s.rules.length<=6:=by simpa using h2'
 simp only[go_sem,simprocAttr];refine ck 5 1 (by simp only[go_sem,simprocAttr]) ?_;simp only[go_sem,simprocAttr]
 refine bm [1] s.kinds (by omega) (τ:=Unit) (λdone rest _=>firstErr bO (·.name) s.kinds []=firstErr bO (·.name) rest (done.map (·.name)))
  (λdone _=>[(5,.slice 1 done.length 0 done.length),(6,.p (.int .i64 done.length))]) (λdone _=>[.row 3 [.p s.pv],.row 1 (done.map λx=>.p (.str x.name))]) () rfl ?_ ?_ ?_
 .simp only[go_sem,simprocAttr]<;>simp
 .intro _ e2;have hT:iz s (firstErr bO (·.name) s.kinds [])=iz s none:=by rw[e2];rfl
  rw[hT];simp only[go_sem,simprocAttr];refine ck 5 1 (by simp only[go_sem,simprocAttr]) ?_;simp only[go_sem,simprocAttr]
  refine bm [1] s.rules (by omega) (τ:=Unit) (λdone rest _=>firstErr cr (·.name) s.rules []=firstErr cr (·.name) rest (done.map (·.name)))
   (λdone _=>[(5,.slice 2 done.length 0 done.length),(8,.p (.int .i64 done.length))]) (λdone _=>[.row 3 [.p s.pv],.row 1 (s.kinds.map λx=>.p (.str x.name)),.row 1 (done.map λx=>.p (.str x.name))]) () rfl ?_ ?_ ?_
  .simp only[go_sem,simprocAttr]<;>simp
  .intro _ e2;have hT:iz s none=(0,0,0):=by
    simp only[iz];rw[e2];rfl
   simp only[aj,hT,go_sem,simprocAttr]
  .intro done x r _ e1 e2 hx hlt hnx;obtain⟨go,fin⟩:=Cp e1 e2;have hrm:done.length+1<=ar:=by simp[ar];omega
   simp only[hlt,hx,go_sem,simprocAttr];refine aY (je x.name (done.map (·.name)) false (done.map λx=>.str x.name) (by simp) (by simp;omega)) ?_ (.int _ _) ?_
   .simp only[go_sem,simprocAttr]
   simp only[hrm,hlt,hx,go_sem,simprocAttr];cases h5:(ak (done.map (·.name)) x.name==0)
   .have h5':ak (done.map (·.name)) x.name≠0:=by simpa using h5
    have h5n:(ak (done.map (·.name)) x.name != 0)=true:=by simp[bne,h5]
    simp only[h5n,aj,fin _ (by rw[cr,if_neg h5']) h5',go_sem,simprocAttr]
   have h5':ak (done.map (·.name)) x.name=0:=by simpa using h5
   have hb:cr (done.map (·.name)) x=dX x:=by rw[cr,if_pos h5']
   simp only[hx,hlt,go_sem,simprocAttr];refine ae (JX x) rfl ?_;simp only[go_sem,simprocAttr];cases h6:(dX x != 0)
   rotate_left
   .have h6':dX x≠0:=by simpa using h6
    simp only[aj,fin _ hb h6',go_sem,simprocAttr]
   have h6':dX x=0:=by simpa using h6
   simp only[go_sem,simprocAttr];refine aE e1 () (go (hb.trans h6')) ?_;simp only[hnx,go_sem,simprocAttr];all_goals simp
 .intro done x r _ e1 e2 hx hlt hnx;obtain⟨go,fin⟩:=Cq e1 e2;have hrm:done.length+1<=ar:=by simp[ar];omega
  simp only[hlt,hx,go_sem,simprocAttr];refine aY (je x.name (done.map (·.name)) false (done.map λx=>.str x.name) (by simp) (by simp;omega)) ?_ (.int _ _) ?_
  .simp only[go_sem,simprocAttr]
  simp only[hrm,hlt,hx,go_sem,simprocAttr];cases h5:(ak (done.map (·.name)) x.name==0)
  .have h5':ak (done.map (·.name)) x.name≠0:=by simpa using h5
   have h5n:(ak (done.map (·.name)) x.name != 0)=true:=by simp[bne,h5]
   simp only[h5n,aj,fin _ (by rw[bO,if_neg h5']) h5',go_sem,simprocAttr]
  have h5':ak (done.map (·.name)) x.name=0:=by simpa using h5
  have hb:bO (done.map (·.name)) x=dY x:=by rw[bO,if_pos h5']
  simp only[hx,hlt,go_sem,simprocAttr];refine ae (JY x) rfl ?_;simp only[go_sem,simprocAttr];cases h6:(dY x != 0)
  rotate_left
  .have h6':dY x≠0:=by simpa using h6
   simp only[aj,fin _ hb h6',go_sem,simprocAttr]
  have h6':dY x=0:=by simpa using h6
  simp only[go_sem,simprocAttr];refine aE e1 () (go (hb.trans h6')) ?_;simp only[hnx,go_sem,simprocAttr];all_goals simp
end Abs
end Go.Proofs.YtnjiadikeacfaaaGreatDoor
