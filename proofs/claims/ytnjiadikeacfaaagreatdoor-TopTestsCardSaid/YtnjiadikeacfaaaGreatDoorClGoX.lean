/- CONTRACTS of the program's functions, and laws on what they return. No conditions but those in the theorems' heads. -/
import Derived.Test.YtnjiadikeacfaaaGreatDoorAbsFrame
set_option linter.all false
open Go.Proofs.Tryz renaming prog->TP
namespace Go.Proofs.YtnjiadikeacfaaaGreatDoor
namespace Abs
namespace Cl
set_option maxRecDepth 4000
def iX (s:ClShop) (l:List ClBatch) (c:Int) (j:Nat):Option Int:=match l[j]? with|some b=>tV s c b|none=>none
def lG (l:List ClBatch) (j:Nat):Int:=match l[j]? with|some b=>b.colour|none=>0
def du (c:Int) (m:Nat):PV:=.agg [.int .i64 c,.int .i64 m]
def gW (p:Int×Int):PV:=.agg [.int .i64 p.1,.int .i64 p.2]
attribute [go_sem] du gW
def er (s:ClShop) (l:List ClBatch) (c:Int) (m:Nat):Int×Int:=kT (iX s l) (lG l) c m
def fR (s:ClShop) (l:List ClBatch):PV->PV->Bool
 |.agg [.int .i64 c,.int .i64 m],.agg [.int .i64 x,.int .i64 y]=>decide (0<=m)&&(decide (x=(er s l c m.toNat).1)&&decide (y=(er s l c m.toNat).2))
 |_,_=>false
theorem yw{s}{l}{k v}(h:fR s l k v=true):∃c m,k=du c m/\v=gW (er s l c m):=by
 unfold fR at h;split at h
 .rename_i c m x y;simp only[dD,decide_eq_true_eq]at h;obtain⟨h0,h1,h2⟩:=h;refine⟨c,m.toNat,?_,?_⟩
  .rw[du,Int.toNat_of_nonneg h0]
  .rw[gW,h1,h2]
 .cases h
theorem Ob(s)(l)(c)(m):fR s l (du c m) (gW (er s l c m))=true:=by
 simp[fR,du,gW]
theorem D8(c d)(m n):jr (du c m) (du d n)=some (c==d&&(m:Int)==(n)):=by
 simp[jr,du,Ft,eg,nK]
theorem Oa(s)(l):nI (fR s l):=by
 intro k q v u hk hq;obtain⟨c,m,rfl,_⟩:=yw hk;obtain⟨d,n,rfl,_⟩:=yw hq;refine⟨_,D8 c d m n,λh=>?_⟩;simp at h;obtain⟨rfl,h⟩:=h;have:m=n:=by omega
 rw[this]
theorem Cm{s}{l}(c)(m):∀{es},(∀p,p∈es->fR s l p.1 p.2=true)->kY (du c m) es=some none\/kY (du c m) es=some (some (gW (er s l c m)))
 |[],_=>.inl rfl
 |(k,v)::r,h=>by
  obtain⟨d,n,hk,hv⟩:=yw (h (k,v) (by simp));dsimp only at hk hv;subst hk;subst hv;rw[kY,D8];cases hb:(c==d&&(m:Int)==(n:Int))
  .exact Cm c m λp hp=>h p (by simp[hp])
  .simp at hb;obtain⟨rfl,hb⟩:=hb;have:m=n:=by omega
   subst this;exact .inr rfl
theorem C8(n)(f):bf n (.memo f)=True:=rfl
theorem Kd(n)(k)(id):eU n (.ref k id)=(id<n):=rfl
attribute [go_sem] C8 Kd
theorem EH{s}(hs:ShopOk s)(l)(c)(j)(n)(h:iX s l c j=some n):0<=n/\n<=30000:=by
 unfold iX at h
 cases hj:l[j]? with
 |none=>rw[hj]at h;cases h
 |some b=>rw[hj]at h;exact A7 hs h
theorem QC{s}(hs:ShopOk s)(l)(c)(m):0<=(er s l c m).1/\(er s l c m).1<=kV:=by
 unfold er kT;have:=mV (iX s l) (lG l) (λc j n h=>EH hs l c j n h) 7 c (eT m)
 cases h:fc (iX s l) (lG l) 7 c (eT m) with
 |none=>simp only[io];unfold kV;omega
 |some p=>have:=this p.1 p.2 (by rw[h]);simp only[io];unfold kV;omega
def nE (s:ClShop) (l:List ClBatch) (v0 v1 v2 v4:PV) (mm:AObj):Heap:=[.row 4 [.p v0],.row 1 [.p v1],.row 4 [.p v2],.row 1 [.ptr 6 1 0 0],.row 1 [.p v4],mm,l6 s l 5]
def nD (s:ClShop) (l:List ClBatch) (v0 v1 v2 v4 v8 v9:PV) (mm:AObj):Heap:=
 [.row 4 [.p v0],.row 1 [.p v1],.row 4 [.p v2],.row 1 [.ptr 6 1 0 0],.row 1 [.p v4],mm,l6 s l 5,.row 1 [.ptr 6 1 0 0],.row 2 [.p v8],.row 2 [.p v9],.row 1 [.func (.func 312) [] [.ptr 7 1 0 0,.ptr 10 1 0 0]]]
attribute [go_sem] nE nD
theorem FX{s}{l}{v0 v1 v2 v4 v8 v9}{φ}:∀o,o∈nD s l v0 v1 v2 v4 v8 v9 (.memo φ)->bf (nD s l v0 v1 v2 v4 v8 v9 (.memo φ)).length o/\o.isDead=false:=by
 intro o ho;simp only[nD,ce,fW,or_false]at ho;rcases ho with rfl|rfl|rfl|rfl|rfl|rfl|rfl|rfl|rfl|rfl|rfl<;>simp[l6,bf,below,fV,eU,dO,AObj.isDead,nD]
theorem yP{s}{l}{v0 v1 v2 v4}{φ}:∀o,o∈nE s l v0 v1 v2 v4 (.memo φ)->bf (nE s l v0 v1 v2 v4 (.memo φ)).length o/\o.isDead=false:=by
 intro o ho;simp only[nE,ce,fW,or_false]at ho;rcases ho with rfl|rfl|rfl|rfl|rfl|rfl|rfl<;>simp[l6,bf,below,fV,eU,dO,AObj.isDead,nE]
theorem Ap(n):af TP 334 [.int .i64 n] (.bool false):=by
 refine aa (ah Tryz.func334 rfl (by kernel_rfl)) rfl ?_;simp only[go_sem,simprocAttr];simp
theorem FH(a b):af TP 325 [.int .i64 a,.int .i64 b] (.int .i64 (if a<b then -1 else if b<a then 1 else 0)):=by
 refine aa (ah Tryz.func325 rfl (by kernel_rfl)) rfl ?_;simp only[go_sem,simprocAttr]
 (first|refine ae (Ap a) rfl ?_|refine ay (Ap a) rfl ?_)
 simp only[go_sem,simprocAttr]
 (first|refine ae (Ap b) rfl ?_|refine ay (Ap b) rfl ?_)
 simp only[go_sem,simprocAttr];by_cases h1:a<b
 .have d1:decide (a<b)=true:=by simpa using h1
  simp only[d1,if_pos h1,go_sem,simprocAttr]
 .have d1:decide (a<b)=false:=by simpa using h1
  by_cases h2:b<a
  .have d2:decide (b<a)=true:=by simpa using h2
   simp only[d1,d2,if_neg h1,if_pos h2,go_sem,simprocAttr]
  .have d2:decide (b<a)=false:=by simpa using h2
   simp only[d1,d2,if_neg h1,if_neg h2,go_sem,simprocAttr]
theorem P2(p):af TP 315 [gW p] (.int .i64 p.1):=by
 refine aa (ah Tryz.func315 rfl (by kernel_rfl)) rfl ?_;simp only[go_sem,simprocAttr]
theorem RP(p q):af TP 314 [gW p,gW q,.func (.func 315) [] []] (gW (if q.1<p.1 then q else p)):=by
 refine aa (ah Tryz.func314 rfl (by kernel_rfl)) rfl ?_;simp only[go_sem,simprocAttr];refine ay (P2 p) rfl ?_;simp only[go_sem,simprocAttr];refine ay (P2 q) rfl ?_;simp only[go_sem,simprocAttr]
 (first|refine ae (FH p.1 q.1) rfl ?_|refine ay (FH p.1 q.1) rfl ?_)
 simp only[go_sem,simprocAttr];by_cases h:q.1<p.1
 .have h1:¬p.1<q.1:=by omega
  simp only[if_neg h1,if_pos h,go_sem,simprocAttr]
 .by_cases h1:p.1<q.1
  .simp only[if_pos h1,if_neg h,go_sem,simprocAttr]
  .simp only[if_neg h1,if_neg h,go_sem,simprocAttr]
set_option maxRecDepth 100000 in
theorem MJ:∀m:Nat,m<128->∀i,i<7->IntKind.i64.wrap ((BitVec.ofInt 64 ((m:Int).fdiv (2^i))&&& BitVec.ofInt 64 1).toNat:Int)=(if m.testBit i then 1 else 0):=by decide
set_option maxRecDepth 100000 in
theorem Mj:∀m:Nat,m<128->∀i,i<7->m.testBit i=true->IntKind.i64.wrap ((BitVec.ofInt 64 (m)&&& ~~~BitVec.ofInt 64 (IntKind.i64.wrap (1*2^i))).toNat:Int)=((m-2^i:Nat):Int):=by decide
theorem O'{m i:Nat}(hm:m<128)(hi:i<7):sK .and .i64 ((m:Int).fdiv (2^i)) 1=some (.int .i64 (if m.testBit i then 1 else 0)):=congrArg (λn=>some (PV.int .i64 n)) (MJ m hm i hi)
theorem Fs{m i:Nat}(hm:m<128)(hi:i<7)(h:m.testBit i=true):sK .andNot .i64 (m) (IntKind.i64.wrap (1*2^i))=some (.int .i64 ((m-2^i:Nat):Int)):=congrArg (λn=>some (PV.int .i64 n)) (Mj m hm i hi h)
theorem NB{h u}(hd:∀o,o∈h->o.isDead=false)(hs:cw h u):∃t,u=h++t:=by
 refine⟨u.drop h.length,qu λi=>?_⟩;rcases dg i h.length with hi|hi
 .rw[aZ hi,bA hi];exact hs i _ (bA hi) (hd _ (y4 hi))
 .rw[cm hi,sc]
  congr 1;omega
theorem Pv{P}{H}{ops}{rest}{Q}{o}{hs h0 base}{A}{f}{args}{v}(hc:aB P f args base (λr h'=>r=.ret v/\h'=base))
  (hb:∀o,o∈base->bf base.length o/\o.isDead=false) (ha:∀a,a∈args->below base.length a) (hs0:cw base h0) (k:@WD ⟨P,H,ops,rest,Q⟩ hs (A.put o.dst v A.h)):@Ga ⟨P,H,ops,rest,Q,o⟩ hs h0 A (.call f args):=by
 refine⟨v,λh' hh=>?_,k⟩;obtain⟨t,rfl⟩:=NB (λo ho=>(hb o ho).2) (hs0.trans hh);refine(hZ (λo ho=>(hb o ho).1) ha (hc.mono λr h' hr=>⟨by rw[hr.2],hr⟩) t).mono λr h'' hr=>?_;obtain⟨h1,e,_,hr⟩:=hr;exact⟨hr.1,by rw[e,hr.2]⟩
theorem Sj{P}{H}{ops}{rest}{Q}{dst}{base}{A}{f}{args}{v}(t)(hc:aB P f args base (λr h'=>r=.ret v/\h'=base))
  (hb:∀o,o∈base->bf base.length o/\o.isDead=false) (ha:∀a,a∈args->below base.length a) (hs0:A.h=base++t) (k:@WO ⟨P,H,ops,rest,Q⟩ (A.put dst v A.h)):@WF ⟨P,H,ops,rest,Q,dst⟩ A f args:=by
 refine ct (h':=A.h) ?_ k;rw[hs0];refine(hZ (λo ho=>(hb o ho).1) ha (hc.mono λr h' hr=>⟨by rw[hr.2],hr⟩) t).mono λr h'' hr=>?_;obtain⟨h1,e,_,hr⟩:=hr;exact⟨hr.1,by rw[e,hr.2]⟩
def rM (s:ClShop) (l:List ClBatch) (c:Int) (m k:Nat):Int×Int:=((List.range k).filter m.testBit).foldl (jX (iX s l) c λj=>er s l (lG l j) (m-2^j)) (kV,-2)
theorem QE{s}{l}{c}{m k}(h:m.testBit k=false):rM s l c m (k+1)=rM s l c m k:=by
 simp[rM,List.range_succ,Nb,h]
theorem Tf{s}{l}{c}{m k}(h:m.testBit k=true):rM s l c m (k+1)=jX (iX s l) c (λj=>er s l (lG l j) (m-2^j)) (rM s l c m k) k:=by
 simp[rM,List.range_succ,Nb,h,AI]
theorem QF{s}{l}{c}{m}(hs:ShopOk s)(hl:l.length<=7)(hm:m<2^l.length)(h0:m≠0):er s l c m=rM s l c m l.length:=by
 have hm7:m<128:=gb hm (show 2^l.length<=2^7 from DQ (by decide) hl);have hb:eT m=(List.range l.length).filter m.testBit:=by
  unfold eT;have e:(7:Nat)=l.length+(7-l.length):=by omega
  rw[e,List.range_add,Nb];have:((List.range (7-l.length)).map (l.length+·)).filter m.testBit=[]:=by
   rw[List.filter_eq_nil_iff];intro a ha;obtain⟨j,_,rfl⟩:=dN.1 ha;have:m.testBit (l.length+j)=false:=Nat.testBit_lt_two_pow (gb hm (DQ (by decide) (by omega)));rw[this];decide
  rw[this,bw]
 rw[er,GD (iX s l) (lG l) (λc j n h=>EH hs l c j n h) c hm7 h0,hb];rfl
def P5 (s:ClShop) (l:List ClBatch) (v0 v1 v2 v4 v8 v9:PV) (mm:AObj) (c:Int) (m:Nat) (p:Int×Int):Heap:=
 [.row 4 [.p v0],.row 1 [.p v1],.row 4 [.p v2],.row 1 [.ptr 6 1 0 0],.row 1 [.p v4],mm,l6 s l 5,.row 1 [.ptr 6 1 0 0],.row 2 [.p v8],.row 2 [.p v9],.row 1 [.func (.func 312) [] [.ptr 7 1 0 0,.ptr 10 1 0 0]],
  .row 2 [.p (du c m)],.row 2 [.p (.agg [.int .i64 0,.int .i64 0])],.row 2 [.p (gW p)]]
attribute [go_sem] P5
theorem NJ(a)(k:Nat)(hk:k<=64):fg .shr .i64 a (k)=some (.int .i64 (a.fdiv (2^k))):=by
 have h1:¬(k:Int)<0:=by omega
 have h2:min ((k:Int).toNat) (IntKind.bits .i64)=k:=by rw[jO];exact IJ hk
 simp only[fg,if_neg h1,h2]
theorem yd(a)(k:Nat)(hk:k<=64):fg .shl .i64 a (k)=some (.int .i64 (IntKind.i64.wrap (a*2^k))):=by
 have h1:¬(k:Int)<0:=by omega
 have h2:min ((k:Int).toNat) (IntKind.bits .i64)=k:=by rw[jO];exact IJ hk
 simp only[fg,if_neg h1,h2]
theorem FW{s}{l}{v0 v1 v2 v4 v8 v9}{es}:∀o,o∈nD s l v0 v1 v2 v4 v8 v9 (.mp es)->bf 11 o:=by
 intro o ho;simp only[nD,ce,fW,or_false]at ho;rcases ho with rfl|rfl|rfl|rfl|rfl|rfl|rfl|rfl|rfl|rfl|rfl<;>simp[l6,bf,below,fV,eU,dO]
set_option maxHeartbeats 4000000 in
theorem TC(s)(l)(v0 v1 v2 v4 v8 v9)(hs:ShopOk s)(hb:∀b,b∈l->BatchOk s b)(hl:l.length<=7):∀(m),m<2^l.length->∀(c:Int),0<=c/\c<s.colours.length ->
  aB TP 312 [.p (du c m),.ptr 7 1 0 0,.ptr 10 1 0 0] (nD s l v0 v1 v2 v4 v8 v9 (.memo (fR s l)))
   (λr h'=>r=.ret (.p (gW (er s l c m)))/\h'=nD s l v0 v1 v2 v4 v8 v9 (.memo (fR s l))):=by
 intro m
 induction m using Nat.strongRecOn with
 |ind m ih=>
 intro hm c hc;have hm7:m<128:=gb hm (show 2^l.length<=2^7 from DQ (by decide) hl);refine JI (id:=5) (φ:=fR s l) rfl λhg es hf=>?_;show aB _ _ _ (nD s l v0 v1 v2 v4 v8 v9 (.mp es)) _;refine bK (eA (by kernel_rfl) rfl Vm) rfl ?_;simp only[go_sem,simprocAttr];cases h0:((m:Int)==0)
 rotate_left
 .have h0':m=0:=by simpa using h0
  subst h0';simp only[go_sem,simprocAttr];refine⟨_,_,rfl,rfl,?_,trivial,.inr rfl,?_,?_⟩
  .exact λo ho=>FW (es:=es) (s:=s) (l:=l) (v0:=v0) (v1:=v1) (v2:=v2) (v4:=v4) (v8:=v8) (v9:=v9) o ho
  .rw[er,xq]
  .rw[er,xq]
 have h0':m≠0:=by intro h;subst h;simp at h0
 simp only[go_sem,simprocAttr];rcases Cm (s:=s) (l:=l) c m hf with hk|hk
 rotate_left
 .simp only[du,gW]at hk;simp only[yV,aV,hk,go_sem,simprocAttr];refine⟨_,_,rfl,rfl,?_,trivial,.inr rfl⟩;exact λo ho=>FW (es:=es) (s:=s) (l:=l) (v0:=v0) (v1:=v1) (v2:=v2) (v4:=v4) (v8:=v8) (v9:=v9) o ho
 simp only[du]at hk;simp only[yV,aV,hk,go_sem,simprocAttr];refine eV (KC (id:=5) hg hf rfl) ?_;simp only[go_sem,simprocAttr];refine bm [1,2,3,4,5,30,31] l (by omega) (τ:=Unit) (λdone rest _=>True) (λdone _=>[(32,.p (.int .i64 done.length))]) (λdone _=>P5 s l v0 v1 v2 v4 v8 v9 (.memo (fR s l)) c m (rM s l c m done.length)) () trivial ?_ ?_ ?_
 .simp only[go_sem,simprocAttr];rfl
 .intro _ _;have hp:=QF (c:=c) hs hl hm h0';rw[<-hp];have hka:=Ob s l c m;simp only[du,gW]at hka;simp only[yV,aV,hka,go_sem,simprocAttr];refine⟨_,_,rfl,rfl,?_,trivial,.inl rfl⟩;exact λo ho=>(FX (φ:=fR s l) (s:=s) (l:=l) (v0:=v0) (v1:=v1) (v2:=v2) (v4:=v4) (v8:=v8) (v9:=v9) o ho).1
 .intro done b r _ e1 _ hx hlt hnx;have hbo:=hb b (by rw[e1];simp);have hdl:done.length<l.length:=by rw[e1];simp
  have hbit:=O' hm7 (show done.length<7 by omega);have hlb:l[done.length]?=some b:=by rw[e1];simp
  have hsh:=NJ (m:Int) done.length (by omega);simp only[hlt,hx,hsh,↓hbit,go_sem,simprocAttr];cases hb0:m.testBit done.length
  .have hpo:=QE (s:=s) (l:=l) (c:=c) hb0;simp only[go_sem,simprocAttr];refine aE e1 () trivial ?_;simp only[hnx,aK,bt,hpo,go_sem,simprocAttr]
  have hpo:=Tf (s:=s) (l:=l) (c:=c) hb0;have hclr:=Fs hm7 (show done.length<7 by omega) hb0;have hshl:=yd 1 done.length (by omega);simp only[go_sem,simprocAttr];refine aY (RF s l c b hs hbo hc) ?_ (.int _ _) ?_
  .simp only[go_sem,simprocAttr]
  simp only[go_sem,simprocAttr];have hnd:iX s l c done.length=tV s c b:=by rw[iX,hlb]
  by_cases hn:iG s c b<0
  .have hd:decide (iG s c b<0)=true:=by simpa using hn
   have hp1:rM s l c m (done.length+1)=rM s l c m done.length:=by
    rw[hpo,jX,hnd,tV,if_pos hn]
   simp only[hd,go_sem,simprocAttr];refine aE e1 () trivial ?_;simp only[hnx,aK,bt,hp1,go_sem,simprocAttr]
   trace_state
  have hd:decide (iG s c b<0)=false:=by simpa using hn
  have hcol:lG l done.length=b.colour:=by rw[lG,hlb]
  have hno:tV s c b=some (iG s c b*s.rinse):=by rw[tV,if_neg hn]
  have hnB:=A7 hs hno;have hpB:=QC hs l b.colour (m-2^done.length);have hle:=(qc m hm7 done.length (by omega) hb0).2;have hpos:0<2^done.length:=Nat.pow_pos (by decide);have w1:IntKind.i64.wrap (iG s c b*s.rinse)=iG s c b*s.rinse:=am (by omega) (by omega);have w2:IntKind.i64.wrap (iG s c b*s.rinse+(er s l b.colour (m-2^done.length)).1)=iG s c b*s.rinse+(er s l b.colour (m-2^done.length)).1:=by
   unfold kV at hpB;exact am (by omega) (by omega)
  have hp1:rM s l c m (done.length+1)=if iG s c b*s.rinse+(er s l b.colour (m-2^done.length)).1<(rM s l c m done.length).1 then(iG s c b*s.rinse+(er s l b.colour (m-2^done.length)).1,(done.length:Int)) else rM s l c m done.length:=by
   rw[hpo,jX,hnd,hno];simp only[hcol]
  simp only[yV,aV,hd,↓hclr,hshl,go_sem,simprocAttr];refine Pv (base:=nD s l v0 v1 v2 v4 v8 v9 (.memo (fR s l))) (ih (m-2^done.length) (by omega) (by omega) b.colour hbo.colour) FX ?_ (cw.app _ [_,_,_,_]) ?_
  .simp only[go_sem,simprocAttr]
  simp only[yV,aV,w1,w2,go_sem,simprocAttr];refine ay (RP (rM s l c m done.length) (iG s c b*s.rinse+(er s l b.colour (m-2^done.length)).1,(done.length:Int))) rfl ?_;simp only[yV,go_sem,simprocAttr];refine aE e1 () trivial ?_;simp only[hnx,aK,bt,hp1,go_sem,simprocAttr]
def pX (i:Nat):PV:=.int .i64 i
theorem CO{need}{col}{k}{c}{l o}{n}(h:l.length<=k)(hb:fc need col k c l=some (o,n)):o.Perm l:=by
 rw[<-CN need col k c l h]at hb;exact xu k l o (yk need col c _ o n hb).1
theorem DD(s)(l)(v0 v1 v2 v4)(hs:ShopOk s)(hb:∀b,b∈l->BatchOk s b)(hl:l.length<=7)(m)(hm:m<2^l.length)(c:Int)(hc:0<=c/\c<s.colours.length) :
  aB TP 291 [.ptr 6 1 0 0,.p (du c m)] (nE s l v0 v1 v2 v4 (.memo (fR s l))) (λr h'=>r=.ret (.p (gW (er s l c m)))/\h'=nE s l v0 v1 v2 v4 (.memo (fR s l))):=by
 refine bK (ah Tryz.func291 rfl (by kernel_rfl)) rfl ?_;simp only[go_sem,simprocAttr];refine ct (TC s l v0 v1 v2 v4 (du c m) (.agg [.int .i64 0,.int .i64 0]) hs hb hl m hm c hc) ?_;simp only[go_sem,simprocAttr];refine⟨_,_,rfl,rfl,?_,trivial,rfl⟩;exact λo ho=>(yP (φ:=fR s l) (s:=s) (l:=l) (v0:=v0) (v1:=v1) (v2:=v2) (v4:=v4) o ho).1
theorem TD(s)(l)(v0 v1 v2 v4 v7)(hs:ShopOk s)(hb:∀b,b∈l->BatchOk s b)(hl:l.length<=7)(m)(hm:m<2^l.length)(c:Int)(hc:0<=c/\c<s.colours.length)(o)(n)
  (ho:fc (iX s l) (lG l) 7 c (eT m)=some (o,n)) :
  aB TP 292 [.ptr 6 1 0 0,.p (du c m)] (nE s l v0 v1 v2 v4 (.memo (fR s l))++[.row 2 [.p v7]])
   (λr h'=>r=.ret (.slice 9 o.length 0 o.length)/\∃x,h'=nE s l v0 v1 v2 v4 (.memo (fR s l))++[.row 2 [.p v7],x,.row 1 (o.map λi=>.p (pX i))]):=by
 refine aA (ah Tryz.func292 rfl (by kernel_rfl)) rfl ?_;simp only[go_sem,simprocAttr];refine ck 4 1 (by simp only[go_sem,simprocAttr]) ?_;simp only[go_sem,simprocAttr]
 refine fp [0,3] (σ:=(Int×Nat)×(List Nat×List Nat)) (λq=>q.1.2<2^l.length/\(0<=q.1.1/\q.1.1<s.colours.length)/\o=q.2.1++q.2.2/\∃n,fc (iX s l) (lG l) 7 q.1.1 (eT q.1.2)=some (q.2.2,n)) (λq=>q.1.2)
  (λq=>[(4,.slice 9 q.2.1.length 0 q.2.1.length)]) (λq=>[.row 4 [.p v0],.row 1 [.p v1],.row 4 [.p v2],.row 1 [.ptr 6 1 0 0],.row 1 [.p v4],.memo (fR s l),l6 s l 5,.row 2 [.p v7],.row 2 [.p (du q.1.1 q.1.2)],.row 1 (q.2.1.map λi=>.p (pX i))]) ((c,m),([],o)) ⟨hm,hc,rfl,n,ho⟩ ?_ ?_
 .simp only[go_sem,simprocAttr]
 rintro⟨⟨d,k⟩,o1,o2⟩ ⟨hk,hd,hoo,n',hn'⟩
 dsimp only at hk hd hoo hn';have hk7:k<128:=gb hk (show 2^l.length<=2^7 from DQ (by decide) hl);dsimp only;by_cases h0:k=0
 .subst h0;rw[CM]at hn';have:o2=[]:=by simp only[fc,gk,y5]at hn';exact hn'.1.symm
  subst this;rw[bw]at hoo;subst hoo;simp only[go_sem,simprocAttr]
 have hne:((k:Int) != 0)=true:=by simp;omega
 obtain⟨j,o',n2,hj7,hbit,rfl,hp2,hb2⟩:=Jk (iX s l) (lG l) hk7 h0 hn';have hjl:j<l.length:=by
  rcases dg j l.length with h|h
  .exact h
  .have:=Nat.testBit_lt_two_pow (gb hk (DQ (by decide) h));rw[this]at hbit;cases hbit
 obtain⟨b,hlb⟩:∃b,l[j]?=some b:=⟨_,bA hjl⟩
 have hbo:=hb b (aT hlb);have hcol:lG l j=b.colour:=by rw[lG,hlb]
 have hclr:=Fs hk7 hj7 hbit;have hshl:=yd 1 j (by omega);have hle:=(qc k hk7 j hj7 hbit).2;have hpos:0<2^j:=Nat.pow_pos (by decide);have jl:(j:Int)<(l.length:Int):=by omega
 have hol:o1.length+1<=ar:=by
  have h1:o.length<=7:=by rw[(CO (uz m) ho).length_eq];exact uz m
  have h2:=congrArg List.length hoo;simp at h2;simp[ar];omega
 simp only[hne,go_sem,simprocAttr];refine Sj (base:=nE s l v0 v1 v2 v4 (.memo (fR s l))) [_,_,_] (DD s l v0 v1 v2 v4 hs hb hl k hk d hd) yP ?_ rfl ?_
 .simp only[go_sem,simprocAttr]
 have hp2':(er s l d k).2=(j:Int):=hp2;simp only[hp2',hol,jl,hlb,hshl,↓hclr,go_sem,simprocAttr];refine bY ((b.colour,k-2^j),(o1++[j],o')) ⟨by dsimp only;omega,hbo.colour,by rw[hoo];simp,n2,by rw[<-hcol];exact hb2⟩ (by dsimp only;omega) ?_;simp only[aK,bt,ca,pX,go_sem,simprocAttr]
theorem GS{P}{f}{args}{h}{R}{id}{es}{φ}(hg:nI φ)(hf:∀p,p∈es->φ p.1 p.2=true)(hid:h[id]?=some (.mp es))
  (k:aB P f args (h.set id (.memo φ)) R):aB P f args h R:=by
 intro M0 m w cargs hS hargs;obtain⟨hk,hev⟩:=tW (S:=⟨m,h,w⟩) hS hg hf hid;have:=k M0 m w cargs hk (hargs.imp λv a _ hr=>hev.keep hr);refine⟨this.1,this.2.mono λe w' hh=>?_⟩;obtain⟨r,h'',m',hR,hev',hk',hend⟩:=hh;exact⟨r,h'',m',hR,hev.trans (by simpa using hev'),hk',hend⟩
def Aw (s:ClShop) (aW:Int) (l:List ClBatch):Option (List Nat×Int):=fc (iX s l) (lG l) 7 aW (List.range l.length)
def r6 (s:ClShop) (aW:Int) (l:List ClBatch):PV:=
 if dJ s aW l=0 then(match Aw s aW l with|some (o,n)=>.tuple [.slice 1 (o.map pX) false,.int .i64 n,.int .i64 0]|none=>.tuple [.nilslice,.int .i64 0,.int .i64 9])
 else .tuple [.nilslice,.int .i64 0,.int .i64 (dJ s aW l)]
theorem FN:∀n,n<=7->eT (2^n-1)=List.range n:=by
 intro n hn
 match n,hn with
 |0,_=>decide
 |1,_=>decide
 |2,_=>decide
 |3,_=>decide
 |4,_=>decide
 |5,_=>decide
 |6,_=>decide
 |7,_=>decide
theorem NA:∀n,n<=7->IntKind.i64.wrap (IntKind.i64.wrap (1*2^n)-1)=((2^n-1:Nat):Int):=by
 intro n hn
 match n,hn with
 |0,_=>decide
 |1,_=>decide
 |2,_=>decide
 |3,_=>decide
 |4,_=>decide
 |5,_=>decide
 |6,_=>decide
 |7,_=>decide
def Qb:Hints:=eu [(15,.mut)]
theorem Tj:cv Qb Tryz.f262=true:=by kernel_rfl
theorem PP(s)(aW)(l)(hl:l.length<1000000000):gZ TP 262 [s.pv,.int .i64 aW,.slice 2 (l.map ClBatch.pv) false] (r6 s aW l):=by
 refine fO (eA (by kernel_rfl) rfl Tj) rfl ?_;simp only[Qb,go_sem,simprocAttr];refine cp (JK s aW l _ hl) (λv h hr=>?_) (λv h hr=>?_);rotate_left
 .rcases hr with⟨_,_,_,_,hr,_⟩|⟨_,hr,_⟩<;>cases hr
 rcases hr with⟨h0,hs,hb,hl7,hr,rfl⟩|⟨h0,hr,t,rfl⟩
 rotate_left
 .cases hr;have hne:(dJ s aW l != 0)=true:=by simpa using h0
  simp only[hne,r6,if_neg h0,go_sem,simprocAttr]
 cases hr;have hst:0<=aW/\aW<s.colours.length:=by
  unfold dJ at h0;split at h0
  .split at h0
   .rename_i h1 h2;simp[al]at h2;omega
   .cases h0
  .contradiction
 have hshl:=yd 1 l.length (by omega);have hsub:=NA l.length hl7;have hlt:2^l.length-1<2^l.length:=by have:0<2^l.length:=Nat.pow_pos (by decide);omega
 have hpl:er s l aW (2^l.length-1)=io (Aw s aW l):=by rw[er,kT,FN _ hl7];rfl
 have hP:=DD s l s.pv (.int .i64 aW) s.pv (.int .i64 0) hs hb hl7 (2^l.length-1) hlt aW hst;have hP1:=hZ (λo ho=>(yP (φ:=fR s l) o ho).1) (args:=[.ptr 6 1 0 0,.p (du aW (2^l.length-1))]) (by simp only[go_sem,simprocAttr]) (hP.mono λr h' hr=>⟨by rw[hr.2],hr⟩) [.row 2 [.p (du aW (2^l.length-1))]];simp only[hshl,hsub,go_sem,simprocAttr];refine ct (v:=.p (gW (er s l aW (2^l.length-1)))) (h':=nE s l s.pv (.int .i64 aW) s.pv (.int .i64 0) (.memo (fR s l))++[.row 2 [.p (du aW (2^l.length-1))]]) (GS (id:=5) (φ:=fR s l) (es:=[]) (Oa s l) (by simp) rfl (hP1.mono λr h' hr=>?_)) ?_
 .obtain⟨h1,e,_,hr⟩:=hr;exact⟨hr.1,by rw[e,hr.2]⟩
 cases hbo:Aw s aW l with
 |none=>
  have hp1:(er s l aW (2^l.length-1)).1=1099511627776:=by rw[hpl,hbo];rfl
  simp only[hp1,r6,if_pos h0,hbo,go_sem,simprocAttr]
 |some q=>
  obtain⟨o,n⟩:=q;have hnB:=mV (iX s l) (lG l) (λc j n h=>EH hs l c j n h) 7 aW (List.range l.length) o n hbo;have hp1:(er s l aW (2^l.length-1)).1=n:=by rw[hpl,hbo];rfl
  have hd:decide (1099511627776<=n)=false:=by simp;omega
  have hO:=TD s l s.pv (.int .i64 aW) s.pv (.int .i64 0) (du aW (2^l.length-1)) hs hb hl7 (2^l.length-1) hlt aW hst o n (by rw[FN _ hl7];exact hbo);simp only[hp1,hd,go_sem,simprocAttr];refine cp hO (λv h hr=>?_) (λv h hr=>?_);rotate_left
  .cases hr.1
  obtain⟨hr,x,rfl⟩:=hr;cases hr;simp only[r6,if_pos h0,hbo,go_sem,simprocAttr];rw[la 6 _ pX (λ_=>rfl)];simp;exact gv (by simp)
theorem qY{α β:Type}{f:α->List β}{c}:∀(l:List α),(∀x,x∈l->(f x).length<=c)->(l.flatMap f).length<=l.length*c
 |[],_=>by simp
 |x::l,h=>by
  have:=qY l λy hy=>h y (by simp[hy]);have:=h x (by simp);rw[mN,aK,cc,Nat.succ_mul];omega
theorem Q4{F}(hF:∀v,F (.p v)=some v)(xs ys):aS F (xs.map AV.p++ys.map AV.p)=some (xs++ys):=by
 have:=de hF id (xs++ys);simpa using this
end Cl
namespace Wx
def yI (x y:Span) (e r n:Int):Bool:=r==-1||(decide (n*x.lo+(1000-n)*y.lo<=1000*(r+e))&&decide (1000*(r-e)<=n*x.hi+(1000-n)*y.hi))
def mw:List WxProp->List Span->List Span->List Int->Int->Bool
 |p::ps,x::xs,y::ys,r::rs,n=>yI x y p.error r n&&mw ps xs ys rs n
 |_,_,_,_,_=>true
def down (a b:Int):Int:=a / b
def cN (s:Span) (q:Int×Int):Span:=
 if 0<q.1 then⟨s.lo,if(-q.2) / q.1<s.hi then(-q.2) / q.1 else s.hi⟩
 else if q.1<0 then⟨if s.lo < -((-q.2) / (-q.1)) then -((-q.2) / (-q.1)) else s.lo,s.hi⟩
 else if 0<q.2 then⟨s.lo,s.lo-1⟩ else s
theorem BT(s)(q)(n):((cN s q).lo<=n/\n<=(cN s q).hi)↔(s.lo<=n/\n<=s.hi)/\n*q.1+q.2<=0:=by
 unfold cN;split
 .rename_i h;have k:=wx (a:=n) (b:=-q.2) h;dsimp only;split<;>omega
 .split
  .rename_i h1 h2;have k:=wx (a:=-n) (b:=-q.2) (show 0 < -q.1 by omega);rw[za,Int.mul_neg,Int.neg_neg]at k;dsimp only;split<;>omega
  .rename_i h1 h2;have h0:q.1=0:=by omega
   rw[h0,tq];split
   .dsimp only;omega
   .omega
def Yt (x y:Span) (e r:Int):List (Int×Int):=[(x.lo-y.lo,1000*(y.lo-r-e)),(y.hi-x.hi,1000*(r-e-y.hi))]
def qD (s:Span) (x y:Span) (e r:Int):Span:=if r=-1 then s else cN (cN s (x.lo-y.lo,1000*(y.lo-r-e))) (y.hi-x.hi,1000*(r-e-y.hi))
theorem I2(s x y)(e r n):((qD s x y e r).lo<=n/\n<=(qD s x y e r).hi)↔(s.lo<=n/\n<=s.hi)/\yI x y e r n=true:=by
 unfold qD yI;split
 .rename_i h;simp[h]
 .rename_i h;rw[BT,BT];simp only[Ng,beq_iff_eq,h,false_or,dD,decide_eq_true_eq];have e1:n*(x.lo-y.lo)=n*x.lo-n*y.lo:=Int.mul_sub _ _ _;have e2:n*(y.hi-x.hi)=n*y.hi-n*x.hi:=Int.mul_sub _ _ _;have e3:(1000-n)*y.lo=1000*y.lo-n*y.lo:=Int.sub_mul _ _ _;have e4:(1000-n)*y.hi=1000*y.hi-n*y.hi:=Int.sub_mul _ _ _;rw[e1,e2,e3,e4];omega
def gK:Span->List WxProp->List Span->List Span->List Int->Span
 |s,p::ps,x::xs,y::ys,r::rs=>gK (qD s x y p.error r) ps xs ys rs
 |s,_,_,_,_=>s
theorem sf(n):∀(ps) (xs ys) (rs) (s),((gK s ps xs ys rs).lo<=n/\n<=(gK s ps xs ys rs).hi)↔(s.lo<=n/\n<=s.hi)/\mw ps xs ys rs n=true
 |[],_,_,_,s=>by simp[gK,mw]
 |p::ps,[],_,_,s=>by simp[gK,mw]
 |p::ps,x::xs,[],_,s=>by simp[gK,mw]
 |p::ps,x::xs,y::ys,[],s=>by simp[gK,mw]
 |p::ps,x::xs,y::ys,r::rs,s=>by
  rw[gK,sf n ps xs ys rs,I2,mw,dD,and_assoc]
def jI (S:Int->Prop) (p:Span):Prop:=(∀v,S v->p.lo<=v/\v<=p.hi)/\((∀v,¬S v)/\p=⟨1001,-1⟩\/S p.lo/\S p.hi)
def i8 (p l:Span):Span:=⟨if l.lo<p.lo then l.lo else p.lo,if p.hi<l.hi then l.hi else p.hi⟩
theorem jI.join{S I:Int->Prop}{p l}(hp:jI S p)(hI:∀v,I v->l.lo<=v/\v<=l.hi)(h1:I l.lo)(h2:I l.hi)(h0:0<=l.lo)(h3:l.hi<=1000):jI (λv=>S v\/I v) (i8 p l):=by
 obtain⟨a,b⟩:=hp;have hl:=hI _ h1;unfold i8;refine⟨λv hv=>?_,.inr ?_⟩
 .dsimp only;rcases hv with hv|hv
  .have:=a v hv;constructor<;>split<;>omega
  .have:=hI v hv;constructor<;>split<;>omega
 .rcases b with⟨e,rfl⟩|⟨c,d⟩
  .dsimp only;rw[if_pos (by omega),if_pos (by omega)];exact⟨.inr h1,.inr h2⟩
  .dsimp only;constructor<;>split
   .exact .inr h1
   .exact .inl c
   .exact .inr h2
   .exact .inl d
theorem jI.same{S T}{p}(hp:jI S p)(h:∀v,T v↔S v):jI T p:=by
 have:T=S:=funext λv=>propext (h v);rw[this];exact hp
def joinL {α:Type} (f:α->Option Span):List α->Span->Span
 |[],p=>p
 |x::l,p=>joinL f l (match f x with|some s=>i8 p s|none=>p)
theorem jI.joinL{α}{f}{I:α->Int->Prop} (hf:∀x,match f x with
   |some s=>(∀v,I x v->s.lo<=v/\v<=s.hi)/\I x s.lo/\I x s.hi/\0<=s.lo/\s.hi<=1000
   |none=>∀v,¬I x v) :
  ∀(l) {S} {p},jI S p->jI (λv=>S v\/∃x,x∈l/\I x v) (Wx.joinL f l p)
 |[],S,p,h=>h.same λv=>by simp
 |x::l,S,p,h=>by
  have hx:=hf x;rw[Wx.joinL]
  cases hs:f x with
  |none=>
   rw[hs]at hx;refine(jI.joinL hf l h).same λv=>?_;constructor
   .rintro(h|⟨y,hy,h⟩)
    .exact .inl h
    .rcases ce.1 hy with rfl|hy
     .exact absurd h (hx v)
     .exact .inr ⟨y,hy,h⟩
   .rintro(h|⟨y,hy,h⟩)
    .exact .inl h
    .exact .inr ⟨y,by simp[hy],h⟩
  |some s=>
   rw[hs]at hx;obtain⟨h1,h2,h3,h4,h5⟩:=hx;refine(jI.joinL hf l (h.join h1 h2 h3 h4 h5)).same λv=>?_;constructor
   .rintro(h|⟨y,hy,h⟩)
    .exact .inl (.inl h)
    .rcases ce.1 hy with rfl|hy
     .exact .inl (.inr h)
     .exact .inr ⟨y,hy,h⟩
   .rintro((h|h)|⟨y,hy,h⟩)
    .exact .inl h
    .exact .inr ⟨x,by simp,h⟩
    .exact .inr ⟨y,by simp[hy],h⟩
section
variable (ex:Nat->Nat->Int->Bool) (kind:Nat)
def iR (q:Nat×Nat) (l:Span):Span:=if kind=q.1 then l else if kind=q.2 then⟨1000-l.hi,1000-l.lo⟩ else⟨0,0⟩
def EA (many:Nat):List (Nat×Nat):=(List.range many).flatMap λa=>(List.range (a+1)).map λb=>(a,b)
def vr (s:Span):Option Span:=if s.lo<=s.hi then some s else none
def Va (sp:Nat×Nat->Span) (many:Nat):Span:=joinL (λq=>(vr (sp q)).map (iR kind q)) (EA many) ⟨1001,-1⟩
end
end Wx
end Abs
end Go.Proofs.YtnjiadikeacfaaaGreatDoor
