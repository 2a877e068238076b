/- CONTRACTS of the program's functions, and laws on what they return. No conditions but those in the theorems' heads. -/
import Derived.Test.YtmndpldajflenaaGreatDoorWxSold
set_option linter.all false
set_option maxHeartbeats 4000000
open Go.Proofs.Tryz
namespace Go.Proofs.YtmndpldajflenaaGreatDoor
namespace Abs
namespace Wx
set_option maxRecDepth 4000
def iT (t:WxTable) (rs:List Int) (q:Nat×Nat):Span:=
 match t.kinds[q.1]?,t.kinds[q.2]? with
 |some a,some b=>nO t rs a b (if q.1=q.2 then 1000 else 1) (if q.1=q.2 then 1000 else 999)
 |_,_=>⟨1,0⟩
def rK (t:WxTable) (rs:List Int) (q:Nat×Nat):List ((Nat×Nat)×Span):=match uz (iT t rs q) with|some s=>[(q,s)]|none=>[]
def sX (t:WxTable) (rs:List Int) (a:Nat):Nat->Nat->List ((Nat×Nat)×Span)
 |_,0=>[]
 |b,c+1=>rK t rs (a,b)++sX t rs a (b+1) c
def rz (t:WxTable) (rs:List Int):Nat->Nat->List ((Nat×Nat)×Span)
 |_,0=>[]
 |a,c+1=>sX t rs a 0 (a+1)++rz t rs (a+1) c
def lD (t:WxTable) (rs:List Int):List ((Nat×Nat)×Span):=rz t rs 0 t.kinds.length
def lj (m:(Nat×Nat)×Span):PV:=.agg [.int .i64 m.1.1,.int .i64 m.1.2,.int .i64 m.2.lo,.int .i64 m.2.hi]
attribute [go_sem] lj
theorem Ke(t)(rs)(a):∀(c b),sX t rs a b c=(List.range' b c).flatMap λb=>rK t rs (a,b)
 |0,b=>rfl
 |c+1,b=>by rw[sX,Ke t rs a c (b+1),List.range'_succ,mC]
theorem L3(t)(rs):∀(c a),rz t rs a c=((List.range' a c).flatMap λa=>(List.range (a+1)).map λb=>(a,b)).flatMap (rK t rs)
 |0,a=>rfl
 |c+1,a=>by
  rw[rz,L3 t rs c (a+1),List.range'_succ,mC,ub,Ke,List.flatMap_map,List.range_eq_range']
theorem G4(t)(rs):lD t rs=(DJ t.kinds.length).flatMap (rK t rs):=by
 rw[lD,L3,DJ,List.range_eq_range']
theorem yL(t)(rs)(kind):∀(l) (p),(l.flatMap (rK t rs)).foldl (λp m=>iX p (iN kind m.1 m.2)) p=joinL (λq=>(uz (iT t rs q)).map (iN kind q)) l p
 |[],p=>rfl
 |q::l,p=>by
  rw[mC,zK,yL t rs kind l,joinL];unfold rK;cases uz (iT t rs q)<;>rfl
def mS (t:WxTable) (rs:List Int):PV:=.func (.func 384) [] [.ptr 1 [qo t rs] 0 0]
theorem LE(t)(rs):af Tryz.prog 349 [qo t rs] (mS t rs):=by
 refine dd (ag func349 rfl) rfl ?_;simp only[mS,go_sem,simprocAttr]
theorem K8(t)(rs)(ht:TableOk t)(a1:rs.length=t.props.length)(a2:rs.all j3=true):JL Tryz.prog (mS t rs) 1 ((lD t rs).map λm=>[lj m]):=by
 refine⟨λa ha=>?_,_,_,_,rfl,λid X Fin h0 a6 hy hi=>?_⟩
 .obtain⟨q,_,rfl⟩:=cX.1 ha;rfl
 have a5:=ht.kinds;refine au (ag func384 rfl) rfl ?_;simp only[go_sem,simprocAttr]
 refine fo [0,1,13] (σ:=Nat×List ((Nat×Nat)×Span)×Heap×Heap)
  (λq=>q.1<=t.kinds.length/\lD t rs=q.2.1++rz t rs q.1 (t.kinds.length-q.1)/\X q.2.1.length q.2.2.1/\q.2.2.1.length=h0.length) (λq=>t.kinds.length-q.1)
  (λq=>[(14,.p (.int .i64 q.1))]) (λq=>q.2.2.1++q.2.2.2) (0,[],h0,[]) ⟨de _,rfl,hi,rfl⟩ (by simp) ?_ ?_
 .simp only[go_sem,simprocAttr]
 rintro⟨i,u,lo,o⟩ ⟨h1,N,E,e⟩
 dsimp only at h1 N E e;rcases CH h1 with he|Z
 .have O:decide ((i:Int)<(t.kinds.length:Int))=false:=by simp;omega
  rw[he,qZ,rz,bt]at N;simp only[O,go_sem,simprocAttr];refine⟨lo,o,rfl,e,.inl ?_⟩;rw[N];exact E
 have O:decide ((i:Int)<(t.kinds.length:Int))=true:=by simp;omega
 have Y:t.kinds.length-i=(t.kinds.length-(i+1))+1:=by omega
 rw[Y,rz]at N;have hw:IntKind.i64.wrap ((i:Int)+1)=((i+1:Nat):Int):=bk (by omega) (by simp[ao];omega) (by omega);obtain⟨a,ha⟩:∃a,t.kinds[i]?=some a:=⟨_,bO Z⟩
 simp only[O,hw,go_sem,simprocAttr]
 refine fo [0,1,3,13,14,18] (σ:=Nat×List ((Nat×Nat)×Span)×Heap×Heap)
  (λq=>q.1<=i+1/\lD t rs=q.2.1++(sX t rs i q.1 (i+1-q.1)++rz t rs (i+1) (t.kinds.length-(i+1)))/\X q.2.1.length q.2.2.1/\q.2.2.1.length=h0.length) (λq=>i+1-q.1)
  (λq=>[(19,.p (.int .i64 q.1))]) (λq=>q.2.2.1++q.2.2.2) (0,u,lo,o) ⟨de _,N,E,e⟩ rfl ?_ ?_
 .simp only[go_sem,simprocAttr]
 clear N E e
 rintro⟨j,u,lo,o⟩ ⟨g1,J,E,e⟩
 dsimp only at g1 J E e;rcases CH g1 with he|a4
 .have M:decide ((j:Int)<((i+1:Nat):Int))=false:=by simp;omega
  rw[he,qZ,sX,lc]at J;simp only[M,go_sem,simprocAttr];refine br (i+1,u,lo,o) ⟨by omega,J,E,e⟩ (by dsimp only;omega) rfl ?_;simp only[hw,go_sem,simprocAttr]
 have M:decide ((j:Int)<((i+1:Nat):Int))=true:=by simp;omega
 have S:i+1-j=(i+1-(j+1))+1:=by omega
 rw[S,sX]at J;have L:IntKind.i64.wrap ((j:Int)+1)=((j+1:Nat):Int):=bk (by omega) (by simp[ao];omega) (by omega);obtain⟨b,hb⟩:∃b,t.kinds[j]?=some b:=⟨_,bO (by omega)⟩
 have I:((i:Int)==(j:Int))=decide (i=j):=by rw[sD];simp;omega
 have gg:=kT e;have ss:=m4 e;have mg:=kU (lo:=o) rfl;have ms:=m5 (lo:=o) rfl;have z:iT t rs (i,j)=nO t rs a b (if i=j then 1000 else 1) (if i=j then 1000 else 999):=by simp only[iT,ha,hb]
 have V:∀{s:Span},iT t rs (i,j)=s->(s.lo<=s.hi->rK t rs (i,j)=[((i,j),s)])/\(¬s.lo<=s.hi->rK t rs (i,j)=[]):=by
  rintro s rfl
  unfold rK uz;constructor
  .intro h;rw[if_pos h]
  .intro h;rw[if_neg h]
 have cP:=λa0 a3 h1 N=>SL t rs i j a b a0 a3 ht a1 a2 ha hb h1 N;rw[show (if i=j then(1000:Int) else 999)=if i=j then 1000 else 999 from rfl]at z;by_cases D:i=j
 .rw[if_pos D,if_pos D]at z;have hd:decide (i=j)=true:=by simpa using D
  obtain⟨U,T⟩:=V z;simp only[M,I,hd,go_sem,simprocAttr]
  (first|refine ae (cP 1000 1000 (by omega) (by omega)) rfl ?_|refine ax (cP 1000 1000 (by omega) (by omega)) rfl ?_)
  generalize nO t rs a b 1000 1000=s at z U T;simp only[dJ,aL,aV,e,gg,ss,mg,ms,go_sem,simprocAttr];by_cases K:s.lo<=s.hi
  .have A:decide (s.lo<=s.hi)=true:=by simpa using K
   have C:=J;rw[U K]at C;have G:((lD t rs).map λm=>[lj m])[u.length]?=some [lj ((i,j),s)]:=by rw[C];simp
   simp only[aV,gg,mg,A,go_sem,simprocAttr];refine o6 (hy u.length _ lo (o++[AObj.row 2 [AV.p s.pv]]) G E e) (λv h' l=>?_) (λv h' l=>?_);rotate_left
   .obtain⟨_,_,_,_,l⟩:=l;rcases l with⟨l,_⟩|⟨l,_⟩<;>cases l
   obtain⟨F,ext,rfl,y,l⟩:=l;rcases l with⟨l,R⟩|⟨l,hF⟩
   .cases l;simp only[go_sem,simprocAttr];refine br (j+1,u++[((i,j),s)],F,o++[.row 2 [.p s.pv]]++ext) ⟨by omega,by rw[C];simp,by simpa using R,y⟩ (by dsimp only;omega) (by simp[dJ,Span.pv]) ?_;simp only[L,go_sem,simprocAttr]
   .cases l;simp only[go_sem,simprocAttr];exact⟨F,o++[.row 2 [.p s.pv]]++ext,by simp[dJ,Span.pv],y,.inr hF⟩
  .have A:decide (s.lo<=s.hi)=false:=by simpa using K
   rw[T K,lc]at J;simp only[A,go_sem,simprocAttr];refine br (j+1,u,lo,o++[.row 2 [.p s.pv]]) ⟨by omega,J,E,e⟩ (by dsimp only;omega) (by simp[Span.pv]) ?_;simp only[L,go_sem,simprocAttr]
 .rw[if_neg D,if_neg D]at z;have hd:decide (i=j)=false:=by simpa using D
  obtain⟨U,T⟩:=V z;simp only[M,I,hd,go_sem,simprocAttr]
  (first|refine ae (cP 1 999 (by omega) (by omega)) rfl ?_|refine ax (cP 1 999 (by omega) (by omega)) rfl ?_)
  generalize nO t rs a b 1 999=s at z U T;simp only[dJ,aL,aV,e,gg,ss,mg,ms,go_sem,simprocAttr];by_cases K:s.lo<=s.hi
  .have A:decide (s.lo<=s.hi)=true:=by simpa using K
   have C:=J;rw[U K]at C;have G:((lD t rs).map λm=>[lj m])[u.length]?=some [lj ((i,j),s)]:=by rw[C];simp
   simp only[aV,gg,mg,A,go_sem,simprocAttr];refine o6 (hy u.length _ lo (o++[AObj.row 2 [AV.p s.pv]]) G E e) (λv h' l=>?_) (λv h' l=>?_);rotate_left
   .obtain⟨_,_,_,_,l⟩:=l;rcases l with⟨l,_⟩|⟨l,_⟩<;>cases l
   obtain⟨F,ext,rfl,y,l⟩:=l;rcases l with⟨l,R⟩|⟨l,hF⟩
   .cases l;simp only[go_sem,simprocAttr];refine br (j+1,u++[((i,j),s)],F,o++[.row 2 [.p s.pv]]++ext) ⟨by omega,by rw[C];simp,by simpa using R,y⟩ (by dsimp only;omega) (by simp[dJ,Span.pv]) ?_;simp only[L,go_sem,simprocAttr]
   .cases l;simp only[go_sem,simprocAttr];exact⟨F,o++[.row 2 [.p s.pv]]++ext,by simp[dJ,Span.pv],y,.inr hF⟩
  .have A:decide (s.lo<=s.hi)=false:=by simpa using K
   rw[T K,lc]at J;simp only[A,go_sem,simprocAttr];refine br (j+1,u,lo,o++[.row 2 [.p s.pv]]) ⟨by omega,J,E,e⟩ (by dsimp only;omega) (by simp[Span.pv]) ?_;simp only[L,go_sem,simprocAttr]
def OF (t:WxTable) (rs:List Int) (kind:Nat):Span:=TH kind (iT t rs) t.kinds.length
def mn (purity:Int) (p:Span):Span×Int×Int:=if p.hi<0 then(⟨0,0⟩,0,9) else if purity<=p.lo then(p,1,0) else if p.hi<purity then(p,0,0) else(p,2,0)
def bq (t:WxTable) (rs:List Int) (kind:Int):Span×Int×Int:=
 if eM t rs=0 then(if ak kind 0 ((t.kinds.length:Int)-1)=true then mn t.purity (OF t rs kind.toNat) else(⟨0,0⟩,0,4)) else(⟨0,0⟩,0,eM t rs)
theorem Bd{t}{rs}(h:eM t rs=0):TableOk t/\rs.length=t.props.length/\rs.all j3=true:=by
 unfold eM at h;split at h
 .rename_i i;split at h
  .rename_i e;split at h
   .rename_i a;exact⟨Dj i,e,a⟩
   .cases h
  .cases h
 .contradiction
theorem DW{t}{rs}{q}(h:(iT t rs q).lo<=(iT t rs q).hi):1<=(iT t rs q).lo/\(iT t rs q).hi<=1000:=by
 unfold iT at h |-;split at h
 .rename_i a b o l;unfold nO at h |-;have i:=(rE _ t.props a.props b.props rs _).1 ⟨o9 _,h⟩;have e:=(rE _ t.props a.props b.props rs _).1 ⟨h,o9 _⟩;dsimp only at i e;by_cases j:q.1=q.2
  .simp only[j,if_true]at i e |-;omega
  .simp only[j,if_false]at i e |-;omega
 .dsimp only at h;omega
theorem G3{t}{rs}:∀m,m∈lD t rs->1<=m.2.lo/\m.2.lo<=m.2.hi/\m.2.hi<=1000:=by
 intro m a;rw[G4,xR]at a;obtain⟨q,_,a⟩:=a;unfold rK uz at a;by_cases e:(iT t rs q).lo<=(iT t rs q).hi
 .rw[if_pos e]at a;have:=DW e;rw[dT.1 a];dsimp only;omega
 .rw[if_neg e]at a;cases a
def l4 (p:Span):Prop:=0<=p.lo/\p.lo<=1001/\-1<=p.hi/\p.hi<=1000
theorem Hf{p l}(h:l4 p)(a:0<=l.lo/\l.lo<=1000/\0<=l.hi/\l.hi<=1000):l4 (iX p l):=by
 unfold l4 iX at *
 dsimp only;refine⟨?_,?_,?_,?_⟩<;>split<;>omega
theorem UC(t)(rs)(kind)(E:rs.length<1000000000):af Tryz.prog 279 [t.pv,.slice 1 (rs.map aI) false,.int .i64 kind] (.tuple [(bq t rs kind).1.pv,.int .i64 (bq t rs kind).2.1,.int .i64 (bq t rs kind).2.2]):=by
 refine aa (ag func279 rfl) rfl ?_;simp only[go_sem,simprocAttr];refine ae (Jg t rs E) rfl ?_;simp only[go_sem,simprocAttr];cases N:(eM t rs != 0)
 rotate_left
 .have j:¬eM t rs=0:=by simpa using N
  simp only[bq,if_neg j,go_sem,simprocAttr]
 have j:eM t rs=0:=by simpa using N
 obtain⟨M,J,K⟩:=Bd j;have Y:=M.kinds;have hw:IntKind.i64.wrap ((t.kinds.length:Int)-1)=(t.kinds.length:Int)-1:=am (by omega) (by omega);simp only[hw,go_sem,simprocAttr];refine ae (e6 0 _ [_] true (by simp)) rfl ?_;simp only[bJ,cb,cn,go_sem,simprocAttr];cases G:ak kind 0 ((t.kinds.length:Int)-1)
 .simp only[bq,j,G,go_sem,simprocAttr]
 have hk:0<=kind/\kind<=(t.kinds.length:Int)-1:=by simpa[ak]using G
 obtain⟨k,rfl⟩:∃k:Nat,kind=(k:Int):=⟨kind.toNat,by omega⟩
 have I:bq t rs (k:Int)=mn t.purity ((lD t rs).foldl (λp m=>iX p (iN k m.1 m.2)) ⟨1001,-1⟩):=by
  rw[bq,if_pos j,if_pos G,G4,yL];rfl
 rw[I];simp only[if_pos j,go_sem,simprocAttr];refine ae (LE t rs) rfl ?_;simp only[mS,go_sem,simprocAttr];have v:∀(l:List ((Nat×Nat)×Span)) (p:Span),l4 p->(∀m,m∈l->1<=m.2.lo/\m.2.lo<=m.2.hi/\m.2.hi<=1000)->l4 (l.foldl (λp m=>iX p (iN k m.1 m.2)) p):=by
  intro l
  induction l with
  |nil=>intro p h _;exact h
  |cons m l U=>
   intro p h y;refine U _ (Hf h ?_) λm' h'=>y m' (by simp[h']);have:=y m (by simp);unfold iN;split
   .omega
   .split<;>dsimp only<;>omega
 have L:l4 ⟨1001,-1⟩:=by unfold l4;decide
 refine HH (l:=(lD t rs).map λm=>[lj m]) (λo n h=>h=[.row 3 [.p t.pv],.row 1 [.p (.int .i64 k)],.row 2 [.p (((lD t rs).take n).foldl (λp m=>iX p (iN k m.1 m.2)) ⟨1001,-1⟩).pv],.dblock,o]) (λ_ _=>False)
  rfl (by simp only[mS,go_sem,simprocAttr]) (K8 t rs M J K) dh (by kernel_rfl) (by kernel_rfl) (by kernel_rfl) ?_ ?_ ?_ ?_ (λ_ _ _ h=>h.elim)
 .rintro o n h rfl;simp
 .intro o;simp only[go_sem,simprocAttr];rfl
 .rintro Z oB oD n xs lo q D rfl _
  rw[cW,bC]at D;obtain⟨m,y,rfl⟩:=D;have X:=G3 m (aG y);have V:=v ((lD t rs).take n) ⟨1001,-1⟩ L λm y=>G3 m (od y);have e:((lD t rs).take (n+1)).foldl (λp m=>iX p (iN k m.1 m.2)) ⟨1001,-1⟩=iX (((lD t rs).take n).foldl (λp m=>iX p (iN k m.1 m.2)) ⟨1001,-1⟩) (iN k m.1 m.2):=by
   rw[sG,y,Option.toList_some,zK];rfl
  generalize ((lD t rs).take n).foldl (λp m=>iX p (iN k m.1 m.2)) ⟨1001,-1⟩=p at V e |-;have F:=kU (lo:=q) rfl;have u:=kT (lo:=q) rfl;have T:=m5 (lo:=q) rfl;have A:=m4 (lo:=q) rfl;have k1:((k:Int)==(m.1.1:Int))=decide (k=m.1.1):=by rw[sD];simp;omega
  have k2:((k:Int)==(m.1.2:Int))=decide (k=m.1.2):=by rw[sD];simp;omega
  have S:IntKind.i64.wrap (1000-m.2.hi)=1000-m.2.hi:=am (by omega) (by omega);have R:IntKind.i64.wrap (1000-m.2.lo)=1000-m.2.lo:=am (by omega) (by omega);simp only[dJ,aL,aV,F,u,T,A,k1,go_sem,simprocAttr];by_cases c1:k=m.1.1
  .have a:decide (k=m.1.1)=true:=by simpa using c1
   simp only[dJ,aV,u,a,go_sem,simprocAttr];refine⟨_,[AObj.row 4 [AV.p (lj m)],AObj.row 2 [AV.p m.2.pv]],?_,by simp,rfl⟩;rw[e,iN,if_pos c1];simp[iX,Span.pv,lj]
  have a:decide (k=m.1.1)=false:=by simpa using c1
  by_cases z:k=m.1.2
  .have i:decide (k=m.1.2)=true:=by simpa using z
   simp only[dJ,aV,F,u,A,a,k2,i,S,R,go_sem,simprocAttr];refine⟨_,[AObj.row 4 [AV.p (lj m)],AObj.row 2 [AV.p (.agg [.int .i64 (1000-m.2.hi),.int .i64 (1000-m.2.lo)])]],?_,by simp,rfl⟩;rw[e,iN,if_neg c1,if_pos z];simp[iX,lj]
  have i:decide (k=m.1.2)=false:=by simpa using z
  simp only[dJ,aV,F,u,A,a,k2,i,go_sem,simprocAttr];refine⟨_,[AObj.row 4 [AV.p (lj m)],AObj.row 2 [AV.p (.agg [.int .i64 0,.int .i64 0])]],?_,by simp,rfl⟩;rw[e,iN,if_neg c1,if_neg z];simp[iX,lj]
 .rintro o lo q rfl _
  rw[dp,pw];generalize (lD t rs).foldl (λp m=>iX p (iN k m.1 m.2)) ⟨1001,-1⟩=p;simp only[go_sem,simprocAttr];cases c1:decide (p.hi<0);rotate_left
  .have a:p.hi<0:=by simpa using c1
   simp only[mn,if_pos a,go_sem,simprocAttr];rw[bN];simp only[go_sem,simprocAttr]
  have a:¬p.hi<0:=by simpa using c1
  simp only[go_sem,simprocAttr];cases z:decide (t.purity<=p.lo);rotate_left
  .have i:t.purity<=p.lo:=by simpa using z
   simp only[mn,if_neg a,if_pos i,go_sem,simprocAttr];rw[bN];simp only[go_sem,simprocAttr]
  have i:¬t.purity<=p.lo:=by simpa using z
  simp only[go_sem,simprocAttr];cases O:decide (p.hi<t.purity)
  .have C:¬p.hi<t.purity:=by simpa using O
   simp only[mn,if_neg a,if_neg i,if_neg C,go_sem,simprocAttr];rw[bN];simp only[go_sem,simprocAttr]
  .have C:p.hi<t.purity:=by simpa using O
   simp only[mn,if_neg a,if_neg i,if_pos C,go_sem,simprocAttr];rw[bN];simp only[go_sem,simprocAttr]
theorem Lg(s):dg s.lo s.hi 0 100000=if lT s=true then(if decide (s.hi<s.lo)=true then 2 else 0) else 7:=by
 unfold dg lT;cases ak s.lo 0 100000<;>cases ak s.hi 0 100000<;>simp
def pz (w:Int) (l:List Span):Int:=if(l.any λs=>!lT s)=true then 7 else if(l.any λs=>decide (s.hi<s.lo))=true then 2 else w
theorem Ib{w}{s}{l}(a:lT s=true):pz w (s::l)=pz (if decide (s.hi<s.lo)=true then 2 else w) l:=by
 unfold pz;rw[bJ,bJ,a];cases decide (s.hi<s.lo)<;>cases (l.any λs=>!lT s)<;>cases (l.any λs=>decide (s.hi<s.lo))<;>simp
theorem Hz(l)(a:Nat)(A:a<1000000000):af Tryz.prog 160 [.slice 2 (l.map Span.pv) false,.int .i64 a] (.int .i64 (if l.length=a then pz 0 l else 3)):=by
 refine aa (ag func160 rfl) rfl ?_;simp only[go_sem,simprocAttr];cases y:((l.length:Int) != (a:Int))
 rotate_left
 .have j:¬l.length=a:=by simp at y;omega
  simp only[if_neg j,go_sem,simprocAttr]
 have j:l.length=a:=by simp at y;omega
 rw[if_pos j,<-j];simp only[go_sem,simprocAttr];refine bg [0,1] l (by omega) (τ:=Int) (λe rest w=>pz 0 l=pz w rest) (λe w=>[(5,.p (.int .i64 w)),(6,.p (.int .i64 e.length))]) (λ_ _=>[]) 0 rfl ?_ ?_ ?_
 .simp only[go_sem,simprocAttr]<;>simp
 .intro w i;simp only[go_sem,simprocAttr];rw[i];rfl
 .intro e s r w z i hx q o;simp only[q,hx,go_sem,simprocAttr];refine ae (ox _ _ _ _) rfl ?_;rw[Lg];cases u:lT s
  .have:pz w (s::r)=7:=by rw[pz,bJ,u];rfl
   rw[this]at i;simp only[i,go_sem,simprocAttr]
  .rw[Ib u]at i;cases v:decide (s.hi<s.lo)
   .rw[v]at i;simp only[go_sem,simprocAttr];refine aD z w i ?_;simp only[o,go_sem,simprocAttr]
   .rw[v]at i;simp only[go_sem,simprocAttr];refine aD z 2 i ?_;simp only[o,go_sem,simprocAttr]
theorem Al(a)(k):fG a k=if k.props.length=a then pz 0 k.props else 3:=rfl
theorem o2(t):af Tryz.prog 127 [t.pv] (ah (wxCheck t)):=by
 refine aa (ag func127 rfl) rfl ?_;simp only[go_sem,simprocAttr];refine ae (xB _ _ _) rfl ?_;simp only[go_sem,simprocAttr];cases E:ak t.props.length 1 5
 .simp only[ah,wxCheck,E,go_sem,simprocAttr]
 simp only[go_sem,simprocAttr];refine ae (xB _ _ _) rfl ?_;simp only[go_sem,simprocAttr];cases F:ak t.kinds.length 1 8
 .simp only[ah,wxCheck,E,F,go_sem,simprocAttr]
 simp only[go_sem,simprocAttr];refine ae (xB _ _ _) rfl ?_;simp only[go_sem,simprocAttr];cases J:ak t.purity 1 1000
 .simp only[ah,wxCheck,E,F,J,go_sem,simprocAttr]
 have A:wxCheck t=tail t (firstErr cD (·.name) t.props []):=by simp only[wxCheck,E,F,J,qf,if_true]
 rw[A];have K:t.props.length<=5:=by simp[ak]at E;omega
 have L:t.kinds.length<=8:=by simp[ak]at F;omega
 simp only[go_sem,simprocAttr];refine cp 5 1 (by simp only[go_sem,simprocAttr]) ?_;simp only[go_sem,simprocAttr]
 refine bg [1] t.props (by omega) (τ:=Unit) (λa rest _=>firstErr cD (·.name) t.props []=firstErr cD (·.name) rest (a.map (·.name)))
  (λa _=>[(5,.slice 1 a.length 0 a.length),(6,.p (.int .i64 a.length))]) (λa _=>[.row 3 [.p t.pv],.row 1 (a.map λx=>.p (.str x.name))]) () rfl ?_ ?_ ?_
 .simp only[go_sem,simprocAttr]<;>simp
 .intro _ o;have G:tail t (firstErr cD (·.name) t.props [])=tail t none:=by rw[o];rfl
  rw[G];simp only[go_sem,simprocAttr];refine cp 5 1 (by simp only[go_sem,simprocAttr]) ?_;simp only[go_sem,simprocAttr]
  refine bg [1] t.kinds (by omega) (τ:=Unit) (λa rest _=>firstErr (kindErr t.props.length) (·.name) t.kinds []=firstErr (kindErr t.props.length) (·.name) rest (a.map (·.name)))
   (λa _=>[(5,.slice 2 a.length 0 a.length),(8,.p (.int .i64 a.length))]) (λa _=>[.row 3 [.p t.pv],.row 1 (t.props.map λx=>.p (.str x.name)),.row 1 (a.map λx=>.p (.str x.name))]) () rfl ?_ ?_ ?_
  .simp only[go_sem,simprocAttr]<;>simp
  .intro _ o;have G:tail t none=(0,0,0):=by
    simp only[tail];rw[o];rfl
   simp only[ah,G,go_sem,simprocAttr]
  .intro a x r _ q o hx i v;obtain⟨I,j⟩:=Hc o;have u:a.length+1<=ao:=by simp[ao];have:=congrArg List.length q;simp at this;omega
   simp only[i,hx,go_sem,simprocAttr];refine aU (i8 x.name (a.map (·.name)) false (a.map λx=>.str x.name) (by simp) (by simp;have:=congrArg List.length q;simp at this;omega)) ?_ (.int _ _) ?_
   .simp only[go_sem,simprocAttr]
   simp only[go_sem,simprocAttr];cases l:(ai (a.map (·.name)) x.name==0)
   .have e:ai (a.map (·.name)) x.name≠0:=by simpa using l
    have z:(ai (a.map (·.name)) x.name != 0)=true:=by simp[bne,l]
    simp only[z,ah,j _ (by rw[kindErr,if_neg e]) e,go_sem,simprocAttr]
   have e:ai (a.map (·.name)) x.name=0:=by simpa using l
   have C:kindErr t.props.length (a.map (·.name)) x=fG t.props.length x:=by rw[kindErr,if_pos e]
   simp only[hx,i,go_sem,simprocAttr]
   (first|refine ae (Hz x.props t.props.length (by omega)) rfl ?_|refine ax (Hz x.props t.props.length (by omega)) rfl ?_)
   rw[<-Al];simp only[go_sem,simprocAttr];cases D:(fG t.props.length x != 0)
   rotate_left
   .have y:fG t.props.length x≠0:=by simpa using D
    simp only[ah,j _ C y,go_sem,simprocAttr]
   have y:fG t.props.length x=0:=by simpa using D
   simp only[u,i,hx,go_sem,simprocAttr];refine aD q () (I (C.trans y)) ?_;simp only[v,go_sem,simprocAttr];all_goals simp
 .intro a x r _ q o hx i v;obtain⟨I,j⟩:=GW o;have u:a.length+1<=ao:=by simp[ao];have:=congrArg List.length q;simp at this;omega
  simp only[i,hx,go_sem,simprocAttr];refine aU (i8 x.name (a.map (·.name)) false (a.map λx=>.str x.name) (by simp) (by simp;have:=congrArg List.length q;simp at this;omega)) ?_ (.int _ _) ?_
  .simp only[go_sem,simprocAttr]
  simp only[go_sem,simprocAttr];cases l:(ai (a.map (·.name)) x.name==0)
  .have e:ai (a.map (·.name)) x.name≠0:=by simpa using l
   have z:(ai (a.map (·.name)) x.name != 0)=true:=by simp[bne,l]
   simp only[z,ah,j _ (by rw[cD,if_neg e]) e,go_sem,simprocAttr]
  have e:ai (a.map (·.name)) x.name=0:=by simpa using l
  have C:cD (a.map (·.name)) x=kL x:=by rw[cD,if_pos e]
  simp only[hx,i,go_sem,simprocAttr];refine ae (xB _ _ _) rfl ?_;simp only[go_sem,simprocAttr];cases D:ak x.error 0 10000
  .simp only[ah,j 7 (by rw[C,kL,D];rfl) (by decide),go_sem,simprocAttr]
  simp only[u,i,hx,e,go_sem,simprocAttr];refine aD q () (I (by rw[C,kL,D];rfl)) ?_;simp only[v,go_sem,simprocAttr];all_goals simp
def TG:Option Span->Span
 |none=>⟨0,0⟩
 |some s=>s
def RM (o:Option Span):PV:=.tuple [(TG o).pv,.bool o.isSome]
attribute [go_sem] RM
end Wx
end Abs
end Go.Proofs.YtmndpldajflenaaGreatDoor
