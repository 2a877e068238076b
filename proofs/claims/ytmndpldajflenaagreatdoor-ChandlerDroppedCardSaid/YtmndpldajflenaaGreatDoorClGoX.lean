/- CONTRACTS of the program's functions, and laws on what they return. No conditions but those in the theorems' heads. -/
import Derived.Test.YtmndpldajflenaaGreatDoorAbsFrame
set_option linter.all false
set_option maxHeartbeats 4000000
open Go.Proofs.Tryz renaming prog->TP
namespace Go.Proofs.YtmndpldajflenaaGreatDoor
namespace Abs
namespace Cl
set_option maxRecDepth 4000
def iS (s:ClShop) (l:List ClBatch) (c:Int) (j:Nat):Option Int:=match l[j]? with|some b=>s8 s c b|none=>none
def lE (l:List ClBatch) (j:Nat):Int:=match l[j]? with|some b=>b.colour|none=>0
def dr (c:Int) (m:Nat):PV:=.agg [.int .i64 c,.int .i64 m]
def gP (p:Int×Int):PV:=.agg [.int .i64 p.1,.int .i64 p.2]
attribute [go_sem] dr gP
def eu (s:ClShop) (l:List ClBatch) (c:Int) (m:Nat):Int×Int:=kM (iS s l) (lE l) c m
def fV (s:ClShop) (l:List ClBatch):PV->PV->Bool
 |.agg [.int .i64 c,.int .i64 m],.agg [.int .i64 x,.int .i64 y]=>decide (0<=m)&&(decide (x=(eu s l c m.toNat).1)&&decide (y=(eu s l c m.toNat).2))
 |_,_=>false
theorem xl{s}{l}{k v}(h:fV s l k v=true):∃c m,k=dr c m/\v=gP (eu s l c m):=by
 unfold fV at h;split at h
 .rename_i c m x y;simp only[dQ,decide_eq_true_eq]at h;obtain⟨i,e,a⟩:=h;refine⟨c,m.toNat,?_,?_⟩
  .rw[dr,Int.toNat_of_nonneg i]
  .rw[gP,e,a]
 .cases h
theorem M9(s)(l)(c)(m):fV s l (dr c m) (gP (eu s l c m))=true:=by
 simp[fV,dr,gP]
theorem Dk(c d)(m n):jn (dr c m) (dr d n)=some (c==d&&(m:Int)==(n)):=by
 simp[jn,dr,EF,dN,pq]
theorem M8(s)(l):nB (fV s l):=by
 intro k q v u e a;obtain⟨c,m,rfl,_⟩:=xl e;obtain⟨d,n,rfl,_⟩:=xl a;refine⟨_,Dk c d m n,λh=>?_⟩;simp at h;obtain⟨rfl,h⟩:=h;have:m=n:=by omega
 rw[this]
theorem Bw{s}{l}(c)(m):∀{es},(∀p,p∈es->fV s l p.1 p.2=true)->kR (dr c m) es=some none\/kR (dr c m) es=some (some (gP (eu s l c m)))
 |[],_=>.inl rfl
 |(k,v)::r,h=>by
  obtain⟨d,n,i,e⟩:=xl (h (k,v) (by simp));dsimp only at i e;subst i;subst e;rw[kR,Dk];cases a:(c==d&&(m:Int)==(n:Int))
  .exact Bw c m λp j=>h p (by simp[j])
  .simp at a;obtain⟨rfl,a⟩:=a;have:m=n:=by omega
   subst this;exact .inr rfl
theorem Cj(n)(f):aX n (.memo f)=True:=rfl
theorem Js(n)(k)(id):e8 n (.ref k id)=(id<n):=rfl
attribute [go_sem] Cj Js
theorem DR{s}(e:ShopOk s)(l)(c)(j)(n)(h:iS s l c j=some n):0<=n/\n<=30000:=by
 unfold iS at h
 cases a:l[j]? with
 |none=>rw[a]at h;cases h
 |some b=>rw[a]at h;exact Ah e h
theorem Pr{s}(a:ShopOk s)(l)(c)(m):0<=(eu s l c m).1/\(eu s l c m).1<=kO:=by
 unfold eu kM;have:=mJ (iS s l) (lE l) (λc j n h=>DR a l c j n h) 7 c (e7 m)
 cases h:ff (iS s l) (lE l) 7 c (e7 m) with
 |none=>simp only[ib];unfold kO;omega
 |some p=>have:=this p.1 p.2 (by rw[h]);simp only[ib];unfold kO;omega
def nu (s:ClShop) (l:List ClBatch) (v0 v1 v2 v4:PV) (mm:AObj):Heap:=[.row 4 [.p v0],.row 1 [.p v1],.row 4 [.p v2],.row 1 [.ptr 6 1 0 0],.row 1 [.p v4],mm,lU s l 5]
def nt (s:ClShop) (l:List ClBatch) (v0 v1 v2 v4 v8 v9:PV) (mm:AObj):Heap:=
 [.row 4 [.p v0],.row 1 [.p v1],.row 4 [.p v2],.row 1 [.ptr 6 1 0 0],.row 1 [.p v4],mm,lU s l 5,.row 1 [.ptr 6 1 0 0],.row 2 [.p v8],.row 2 [.p v9],.row 1 [.func (.func 408) [] [.ptr 7 1 0 0,.ptr 10 1 0 0]]]
attribute [go_sem] nu nt
theorem E8{s}{l}{v0 v1 v2 v4 v8 v9}{φ}:∀o,o∈nt s l v0 v1 v2 v4 v8 v9 (.memo φ)->aX (nt s l v0 v1 v2 v4 v8 v9 (.memo φ)).length o/\o.isDead=false:=by
 intro o a;simp only[nt,ce,fD,or_false]at a;rcases a with rfl|rfl|rfl|rfl|rfl|rfl|rfl|rfl|rfl|rfl|rfl<;>simp[lU,aX,below,fX,e8,dO,AObj.isDead,nt]
theorem xE{s}{l}{v0 v1 v2 v4}{φ}:∀o,o∈nu s l v0 v1 v2 v4 (.memo φ)->aX (nu s l v0 v1 v2 v4 (.memo φ)).length o/\o.isDead=false:=by
 intro o a;simp only[nu,ce,fD,or_false]at a;rcases a with rfl|rfl|rfl|rfl|rfl|rfl|rfl<;>simp[lU,aX,below,fX,e8,dO,AObj.isDead,nu]
theorem zr(n):af TP 430 [.int .i64 n] (.bool false):=by
 refine aa (ag Tryz.func430 rfl) rfl ?_;simp only[go_sem,simprocAttr];simp
theorem ET(a b):af TP 421 [.int .i64 a,.int .i64 b] (.int .i64 (if a<b then -1 else if b<a then 1 else 0)):=by
 refine aa (ag Tryz.func421 rfl) rfl ?_;simp only[go_sem,simprocAttr]
 (first|refine ae (zr a) rfl ?_|refine ax (zr a) rfl ?_)
 simp only[go_sem,simprocAttr]
 (first|refine ae (zr b) rfl ?_|refine ax (zr b) rfl ?_)
 simp only[go_sem,simprocAttr];by_cases e:a<b
 .have j:decide (a<b)=true:=by simpa using e
  simp only[j,if_pos e,go_sem,simprocAttr]
 .have j:decide (a<b)=false:=by simpa using e
  by_cases i:b<a
  .have l:decide (b<a)=true:=by simpa using i
   simp only[j,l,if_neg e,if_pos i,go_sem,simprocAttr]
  .have l:decide (b<a)=false:=by simpa using i
   simp only[j,l,if_neg e,if_neg i,go_sem,simprocAttr]
theorem OW(p):af TP 411 [gP p] (.int .i64 p.1):=by
 refine aa (ag Tryz.func411 rfl) rfl ?_;simp only[go_sem,simprocAttr]
theorem QF(p q):af TP 410 [gP p,gP q,.func (.func 411) [] []] (gP (if q.1<p.1 then q else p)):=by
 refine aa (ag Tryz.func410 rfl) rfl ?_;simp only[go_sem,simprocAttr];refine ax (OW p) rfl ?_;simp only[go_sem,simprocAttr];refine ax (OW q) rfl ?_;simp only[go_sem,simprocAttr]
 (first|refine ae (ET p.1 q.1) rfl ?_|refine ax (ET p.1 q.1) rfl ?_)
 simp only[go_sem,simprocAttr];by_cases h:q.1<p.1
 .have a:¬p.1<q.1:=by omega
  simp only[if_neg a,if_pos h,go_sem,simprocAttr]
 .by_cases a:p.1<q.1
  .simp only[if_pos a,if_neg h,go_sem,simprocAttr]
  .simp only[if_neg a,if_neg h,go_sem,simprocAttr]
set_option maxRecDepth 100000 in
theorem LS:∀m:Nat,m<128->∀i,i<7->IntKind.i64.wrap ((BitVec.ofInt 64 ((m:Int).fdiv (2^i))&&& BitVec.ofInt 64 1).toNat:Int)=(if m.testBit i then 1 else 0):=by decide
set_option maxRecDepth 100000 in
theorem Lw:∀m:Nat,m<128->∀i,i<7->m.testBit i=true->IntKind.i64.wrap ((BitVec.ofInt 64 (m)&&& ~~~BitVec.ofInt 64 (IntKind.i64.wrap (1*2^i))).toNat:Int)=((m-2^i:Nat):Int):=by decide
theorem N5{m i:Nat}(a:m<128)(hi:i<7):r9 .and .i64 ((m:Int).fdiv (2^i)) 1=some (.int .i64 (if m.testBit i then 1 else 0)):=congrArg (λn=>some (PV.int .i64 n)) (LS m a i hi)
theorem EE{m i:Nat}(a:m<128)(hi:i<7)(h:m.testBit i=true):r9 .andNot .i64 (m) (IntKind.i64.wrap (1*2^i))=some (.int .i64 ((m-2^i:Nat):Int)):=congrArg (λn=>some (PV.int .i64 n)) (Lw m a i hi h)
theorem Mz{h u}(e:∀o,o∈h->o.isDead=false)(a:bY h u):∃t,u=h++t:=by
 refine⟨u.drop h.length,mD λi=>?_⟩;rcases cx i h.length with hi|hi
 .rw[bp hi,bO hi];exact a i _ (bO hi) (e _ (HS hi))
 .rw[cG hi,qc]
  congr 1;omega
theorem Oq{P}{H}{ops}{rest}{Q}{o}{q y base}{A}{f}{args}{v}(z:ar P f args base (λr h'=>r=.ret v/\h'=base))
  (u:∀o,o∈base->aX base.length o/\o.isDead=false) (C:∀a,a∈args->below base.length a) (l:bY base y) (k:@WD ⟨P,H,ops,rest,Q⟩ q (A.put o.dst v A.h)):@Fo ⟨P,H,ops,rest,Q,o⟩ q y A (.call f args):=by
 refine⟨v,λh' hh=>?_,k⟩;obtain⟨t,rfl⟩:=Mz (λo j=>(u o j).2) (l.trans hh);refine(g' (λo j=>(u o j).1) C (z.mono λr h' i=>⟨by rw[i.2],i⟩) t).mono λr D i=>?_;obtain⟨E,e,_,i⟩:=i;exact⟨i.1,by rw[e,i.2]⟩
theorem Q8{P}{H}{ops}{rest}{Q}{dst}{base}{A}{f}{args}{v}(t)(q:ar P f args base (λr h'=>r=.ret v/\h'=base))
  (u:∀o,o∈base->aX base.length o/\o.isDead=false) (y:∀a,a∈args->below base.length a) (j:A.h=base++t) (k:@WO ⟨P,H,ops,rest,Q⟩ (A.put dst v A.h)):@WF ⟨P,H,ops,rest,Q,dst⟩ A f args:=by
 refine cq (h':=A.h) ?_ k;rw[j];refine(g' (λo l=>(u o l).1) y (q.mono λr h' i=>⟨by rw[i.2],i⟩) t).mono λr z i=>?_;obtain⟨C,e,_,i⟩:=i;exact⟨i.1,by rw[e,i.2]⟩
def rk (s:ClShop) (l:List ClBatch) (c:Int) (m k:Nat):Int×Int:=((List.range k).filter m.testBit).foldl (jQ (iS s l) c λj=>eu s l (lE l j) (m-2^j)) (kO,-2)
theorem Pu{s}{l}{c}{m k}(h:m.testBit k=false):rk s l c m (k+1)=rk s l c m k:=by
 simp[rk,List.range_succ,Ml,h]
theorem RZ{s}{l}{c}{m k}(h:m.testBit k=true):rk s l c m (k+1)=jQ (iS s l) c (λj=>eu s l (lE l j) (m-2^j)) (rk s l c m k) k:=by
 simp[rk,List.range_succ,Ml,h,zK]
theorem Pv{s}{l}{c}{m}(q:ShopOk s)(u:l.length<=7)(o:m<2^l.length)(z:m≠0):eu s l c m=rk s l c m l.length:=by
 have i:m<128:=gk o (show 2^l.length<=2^7 from xO (by decide) u);have v:e7 m=(List.range l.length).filter m.testBit:=by
  unfold e7;have e:(7:Nat)=l.length+(7-l.length):=by omega
  rw[e,List.range_add,Ml];have:((List.range (7-l.length)).map (l.length+·)).filter m.testBit=[]:=by
   rw[List.filter_eq_nil_iff];intro a y;obtain⟨j,_,rfl⟩:=cX.1 y;have:m.testBit (l.length+j)=false:=Nat.testBit_lt_two_pow (gk o (xO (by decide) (by omega)));rw[this];decide
  rw[this,bt]
 rw[eu,FT (iS s l) (lE l) (λc j n h=>DR q l c j n h) c i z,v];rfl
def OZ (s:ClShop) (l:List ClBatch) (v0 v1 v2 v4 v8 v9:PV) (mm:AObj) (c:Int) (m:Nat) (p:Int×Int):Heap:=
 [.row 4 [.p v0],.row 1 [.p v1],.row 4 [.p v2],.row 1 [.ptr 6 1 0 0],.row 1 [.p v4],mm,lU s l 5,.row 1 [.ptr 6 1 0 0],.row 2 [.p v8],.row 2 [.p v9],.row 1 [.func (.func 408) [] [.ptr 7 1 0 0,.ptr 10 1 0 0]],
  .row 2 [.p (dr c m)],.row 2 [.p (.agg [.int .i64 0,.int .i64 0])],.row 2 [.p (gP p)]]
attribute [go_sem] OZ
theorem MI(a)(k:Nat)(e:k<=64):fh .shr .i64 a (k)=some (.int .i64 (a.fdiv (2^k))):=by
 have j:¬(k:Int)<0:=by omega
 have i:min ((k:Int).toNat) (IntKind.bits .i64)=k:=by rw[kn];exact CF e
 simp only[fh,if_neg j,i]
theorem wV(a)(k:Nat)(e:k<=64):fh .shl .i64 a (k)=some (.int .i64 (IntKind.i64.wrap (a*2^k))):=by
 have j:¬(k:Int)<0:=by omega
 have i:min ((k:Int).toNat) (IntKind.bits .i64)=k:=by rw[kn];exact CF e
 simp only[fh,if_neg j,i]
theorem E7{s}{l}{v0 v1 v2 v4 v8 v9}{es}:∀o,o∈nt s l v0 v1 v2 v4 v8 v9 (.mp es)->aX 11 o:=by
 intro o a;simp only[nt,ce,fD,or_false]at a;rcases a with rfl|rfl|rfl|rfl|rfl|rfl|rfl|rfl|rfl|rfl|rfl<;>simp[lU,aX,below,fX,e8,dO]
theorem Sf(s)(l)(v0 v1 v2 v4 v8 v9)(M:ShopOk s)(hb:∀b,b∈l->BatchOk s b)(V:l.length<=7):∀(m),m<2^l.length->∀(c:Int),0<=c/\c<s.colours.length ->
  ar TP 408 [.p (dr c m),.ptr 7 1 0 0,.ptr 10 1 0 0] (nt s l v0 v1 v2 v4 v8 v9 (.memo (fV s l)))
   (λr h'=>r=.ret (.p (gP (eu s l c m)))/\h'=nt s l v0 v1 v2 v4 v8 v9 (.memo (fV s l))):=by
 intro m
 induction m using Nat.strongRecOn with
 |ind m ih=>
 intro U c hc;have u:m<128:=gk U (show 2^l.length<=2^7 from xO (by decide) V);refine IV (id:=5) (φ:=fV s l) rfl λhg es X=>?_;show ar _ _ _ (nt s l v0 v1 v2 v4 v8 v9 (.mp es)) _;refine bz (eI (by kernel_rfl) rfl TW) rfl ?_;simp only[go_sem,simprocAttr];cases Y:((m:Int)==0)
 rotate_left
 .have v:m=0:=by simpa using Y
  subst v;simp only[go_sem,simprocAttr];refine⟨_,_,rfl,rfl,?_,trivial,.inr rfl,?_,?_⟩
  .exact λo z=>E7 (es:=es) (s:=s) (l:=l) (v0:=v0) (v1:=v1) (v2:=v2) (v4:=v4) (v8:=v8) (v9:=v9) o z
  .rw[eu,wj]
  .rw[eu,wj]
 have v:m≠0:=by intro h;subst h;simp at Y
 simp only[go_sem,simprocAttr];rcases Bw (s:=s) (l:=l) c m X with A|A
 rotate_left
 .simp only[dr,gP]at A;simp only[xI,aO,A,go_sem,simprocAttr];refine⟨_,_,rfl,rfl,?_,trivial,.inr rfl⟩;exact λo z=>E7 (es:=es) (s:=s) (l:=l) (v0:=v0) (v1:=v1) (v2:=v2) (v4:=v4) (v8:=v8) (v9:=v9) o z
 simp only[dr]at A;simp only[xI,aO,A,go_sem,simprocAttr];refine e9 (JW (id:=5) hg X rfl) ?_;simp only[go_sem,simprocAttr];refine bg [1,2,3,4,5,30,31] l (by omega) (τ:=Unit) (λa rest _=>True) (λa _=>[(32,.p (.int .i64 a.length))]) (λa _=>OZ s l v0 v1 v2 v4 v8 v9 (.memo (fV s l)) c m (rk s l c m a.length)) () trivial ?_ ?_ ?_
 .simp only[go_sem,simprocAttr];rfl
 .intro _ _;have hp:=Pv (c:=c) M V U v;rw[<-hp];have F:=M9 s l c m;simp only[dr,gP]at F;simp only[xI,aO,F,go_sem,simprocAttr];refine⟨_,_,rfl,rfl,?_,trivial,.inl rfl⟩;exact λo z=>(E8 (φ:=fV s l) (s:=s) (l:=l) (v0:=v0) (v1:=v1) (v2:=v2) (v4:=v4) (v8:=v8) (v9:=v9) o z).1
 .intro a b r _ y _ hx T q;have G:=hb b (by rw[y];simp);have a2:a.length<l.length:=by rw[y];simp
  have L:=N5 u (show a.length<7 by omega);have E:l[a.length]?=some b:=by rw[y];simp
  have R:=MI (m:Int) a.length (by omega);simp only[T,hx,R,↓L,go_sem,simprocAttr];cases i:m.testBit a.length
  .have e:=Pu (s:=s) (l:=l) (c:=c) i;simp only[go_sem,simprocAttr];refine aD y () trivial ?_;simp only[q,aL,aV,e,go_sem,simprocAttr]
  have e:=RZ (s:=s) (l:=l) (c:=c) i;have K:=EE u (show a.length<7 by omega) i;have I:=wV 1 a.length (by omega);simp only[go_sem,simprocAttr];refine aU (Qu s l c b M G hc) ?_ (.int _ _) ?_
  .simp only[go_sem,simprocAttr]
  simp only[go_sem,simprocAttr];have D:iS s l c a.length=s8 s c b:=by rw[iS,E]
  by_cases N:iv s c b<0
  .have O:decide (iv s c b<0)=true:=by simpa using N
   have j:rk s l c m (a.length+1)=rk s l c m a.length:=by
    rw[e,jQ,D,s8,if_pos N]
   simp only[O,go_sem,simprocAttr];refine aD y () trivial ?_;simp only[q,aL,aV,j,go_sem,simprocAttr]
   trace_state
  have O:decide (iv s c b<0)=false:=by simpa using N
  have J:lE l a.length=b.colour:=by rw[lE,E]
  have C:s8 s c b=some (iv s c b*s.rinse):=by rw[s8,if_neg N]
  have a0:=Ah M C;have S:=Pr M l b.colour (m-2^a.length);have a1:=(pS m u a.length (by omega) i).2;have Z:0<2^a.length:=Nat.pow_pos (by decide);have w1:IntKind.i64.wrap (iv s c b*s.rinse)=iv s c b*s.rinse:=am (by omega) (by omega);have w2:IntKind.i64.wrap (iv s c b*s.rinse+(eu s l b.colour (m-2^a.length)).1)=iv s c b*s.rinse+(eu s l b.colour (m-2^a.length)).1:=by
   unfold kO at S;exact am (by omega) (by omega)
  have j:rk s l c m (a.length+1)=if iv s c b*s.rinse+(eu s l b.colour (m-2^a.length)).1<(rk s l c m a.length).1 then(iv s c b*s.rinse+(eu s l b.colour (m-2^a.length)).1,(a.length:Int)) else rk s l c m a.length:=by
   rw[e,jQ,D,C];simp only[J]
  simp only[xI,aO,O,↓K,I,go_sem,simprocAttr];refine Oq (base:=nt s l v0 v1 v2 v4 v8 v9 (.memo (fV s l))) (ih (m-2^a.length) (by omega) (by omega) b.colour G.colour) E8 ?_ (bY.app _ [_,_,_,_]) ?_
  .simp only[go_sem,simprocAttr]
  simp only[xI,aO,w1,w2,go_sem,simprocAttr];refine ax (QF (rk s l c m a.length) (iv s c b*s.rinse+(eu s l b.colour (m-2^a.length)).1,(a.length:Int))) rfl ?_;simp only[xI,go_sem,simprocAttr];refine aD y () trivial ?_;simp only[q,aL,aV,j,go_sem,simprocAttr]
def pH (i:Nat):PV:=.int .i64 i
theorem B2{need}{col}{k}{c}{l o}{n}(h:l.length<=k)(a:ff need col k c l=some (o,n)):o.Perm l:=by
 rw[<-B1 need col k c l h]at a;exact wl k l o (xa need col c _ o n a).1
theorem CQ(s)(l)(v0 v1 v2 v4)(a:ShopOk s)(u:∀b,b∈l->BatchOk s b)(j:l.length<=7)(m)(i:m<2^l.length)(c:Int)(q:0<=c/\c<s.colours.length) :
  ar TP 387 [.ptr 6 1 0 0,.p (dr c m)] (nu s l v0 v1 v2 v4 (.memo (fV s l))) (λr h'=>r=.ret (.p (gP (eu s l c m)))/\h'=nu s l v0 v1 v2 v4 (.memo (fV s l))):=by
 refine bz (ag Tryz.func387 rfl) rfl ?_;simp only[go_sem,simprocAttr];refine cq (Sf s l v0 v1 v2 v4 (dr c m) (.agg [.int .i64 0,.int .i64 0]) a u j m i c q) ?_;simp only[go_sem,simprocAttr];refine⟨_,_,rfl,rfl,?_,trivial,rfl⟩;exact λo e=>(xE (φ:=fV s l) (s:=s) (l:=l) (v0:=v0) (v1:=v1) (v2:=v2) (v4:=v4) o e).1
theorem Sg(s)(l)(v0 v1 v2 v4 G)(hs:ShopOk s)(U:∀b,b∈l->BatchOk s b)(S:l.length<=7)(m)(hm:m<2^l.length)(c:Int)(hc:0<=c/\c<s.colours.length)(o)(n)
  (R:ff (iS s l) (lE l) 7 c (e7 m)=some (o,n)) :
  ar TP 388 [.ptr 6 1 0 0,.p (dr c m)] (nu s l v0 v1 v2 v4 (.memo (fV s l))++[.row 2 [.p G]])
   (λr h'=>r=.ret (.slice 9 o.length 0 o.length)/\∃x,h'=nu s l v0 v1 v2 v4 (.memo (fV s l))++[.row 2 [.p G],x,.row 1 (o.map λi=>.p (pH i))]):=by
 refine au (ag Tryz.func388 rfl) rfl ?_;simp only[go_sem,simprocAttr];refine cp 4 1 (by simp only[go_sem,simprocAttr]) ?_;simp only[go_sem,simprocAttr]
 refine gL [0,3] (σ:=(Int×Nat)×(List Nat×List Nat)) (λq=>q.1.2<2^l.length/\(0<=q.1.1/\q.1.1<s.colours.length)/\o=q.2.1++q.2.2/\∃n,ff (iS s l) (lE l) 7 q.1.1 (e7 q.1.2)=some (q.2.2,n)) (λq=>q.1.2)
  (λq=>[(4,.slice 9 q.2.1.length 0 q.2.1.length)]) (λq=>[.row 4 [.p v0],.row 1 [.p v1],.row 4 [.p v2],.row 1 [.ptr 6 1 0 0],.row 1 [.p v4],.memo (fV s l),lU s l 5,.row 2 [.p G],.row 2 [.p (dr q.1.1 q.1.2)],.row 1 (q.2.1.map λi=>.p (pH i))]) ((c,m),([],o)) ⟨hm,hc,rfl,n,R⟩ ?_ ?_
 .simp only[go_sem,simprocAttr]
 rintro⟨⟨d,k⟩,O,Y⟩ ⟨F,T,e,n',u⟩
 dsimp only at F T e u;have y:k<128:=gk F (show 2^l.length<=2^7 from xO (by decide) S);dsimp only;by_cases V:k=0
 .subst V;rw[B0]at u;have:Y=[]:=by simp only[ff,iH,xN]at u;exact u.1.symm
  subst this;rw[bt]at e;subst e;simp only[go_sem,simprocAttr]
 have K:((k:Int) != 0)=true:=by simp;omega
 obtain⟨j,Z,n2,z,a,rfl,I,N⟩:=Iu (iS s l) (lE l) y V u;have L:j<l.length:=by
  rcases cx j l.length with h|h
  .exact h
  .have:=Nat.testBit_lt_two_pow (gk F (xO (by decide) h));rw[this]at a;cases a
 obtain⟨b,v⟩:∃b,l[j]?=some b:=⟨_,bO L⟩
 have M:=U b (aG v);have D:lE l j=b.colour:=by rw[lE,v]
 have E:=EE y z a;have A:=wV 1 j (by omega);have a0:=(pS k y j z a).2;have X:0<2^j:=Nat.pow_pos (by decide);have jl:(j:Int)<(l.length:Int):=by omega
 have J:O.length+1<=ao:=by
  have h1:o.length<=7:=by rw[(B2 (tI m) R).length_eq];exact tI m
  have h2:=congrArg List.length e;simp at h2;simp[ao];omega
 simp only[K,go_sem,simprocAttr];refine Q8 (base:=nu s l v0 v1 v2 v4 (.memo (fV s l))) [_,_,_] (CQ s l v0 v1 v2 v4 hs U S k F d T) xE ?_ rfl ?_
 .simp only[go_sem,simprocAttr]
 have C:(eu s l d k).2=(j:Int):=I;simp only[C,J,jl,v,A,↓E,go_sem,simprocAttr];refine cc ((b.colour,k-2^j),(O++[j],Z)) ⟨by dsimp only;omega,M.colour,by rw[e];simp,n2,by rw[<-D];exact N⟩ (by dsimp only;omega) ?_;simp only[aL,aV,bD,pH,go_sem,simprocAttr]
theorem F7{P}{f}{args}{h}{R}{id}{es}{φ}(D:nB φ)(E:∀p,p∈es->φ p.1 p.2=true)(y:h[id]?=some (.mp es))
  (k:ar P f args (h.set id (.memo φ)) R):ar P f args h R:=by
 intro M0 m w j F i;obtain⟨C,l⟩:=s9 (S:=⟨m,h,w⟩) F D E y;have:=k M0 m w j C (i.imp λv a _ A=>l.keep A);refine⟨this.1,this.2.mono λe w' hh=>?_⟩;obtain⟨r,z,m',G,o,u,q⟩:=hh;exact⟨r,z,m',G,l.trans (by simpa using o),u,q⟩
def zy (s:ClShop) (start:Int) (l:List ClBatch):Option (List Nat×Int):=ff (iS s l) (lE l) 7 start (List.range l.length)
def ry (s:ClShop) (start:Int) (l:List ClBatch):PV:=
 if dG s start l=0 then(match zy s start l with|some (o,n)=>.tuple [.slice 1 (o.map pH) false,.int .i64 n,.int .i64 0]|none=>.tuple [.nilslice,.int .i64 0,.int .i64 9])
 else .tuple [.nilslice,.int .i64 0,.int .i64 (dG s start l)]
theorem EZ:∀n,n<=7->e7 (2^n-1)=List.range n:=by
 intro n a
 match n,a with
 |0,_=>decide
 |1,_=>decide
 |2,_=>decide
 |3,_=>decide
 |4,_=>decide
 |5,_=>decide
 |6,_=>decide
 |7,_=>decide
theorem My:∀n,n<=7->IntKind.i64.wrap (IntKind.i64.wrap (1*2^n)-1)=((2^n-1:Nat):Int):=by
 intro n a
 match n,a with
 |0,_=>decide
 |1,_=>decide
 |2,_=>decide
 |3,_=>decide
 |4,_=>decide
 |5,_=>decide
 |6,_=>decide
 |7,_=>decide
def O7:Hints:=ez [(15,.mut)]
theorem R3:cy O7 Tryz.f355=true:=by kernel_rfl
theorem OM(s)(start)(l)(M:l.length<1000000000):gU TP 355 [s.pv,.int .i64 start,.slice 2 (l.map ClBatch.pv) false] (ry s start l):=by
 refine fP (eI (by kernel_rfl) rfl R3) rfl ?_;simp only[O7,go_sem,simprocAttr];refine cj (IY s start l _ M) (λv h a=>?_) (λv h a=>?_);rotate_left
 .rcases a with⟨_,_,_,_,a,_⟩|⟨_,a,_⟩<;>cases a
 rcases a with⟨y,G,K,u,a,rfl⟩|⟨y,a,t,rfl⟩
 rotate_left
 .cases a;have I:(dG s start l != 0)=true:=by simpa using y
  simp only[I,ry,if_neg y,go_sem,simprocAttr]
 cases a;have A:0<=start/\start<s.colours.length:=by
  unfold dG at y;split at y
  .split at y
   .rename_i T S;simp[ak]at S;omega
   .cases y
  .contradiction
 have F:=wV 1 l.length (by omega);have E:=My l.length u;have D:2^l.length-1<2^l.length:=by have:0<2^l.length:=Nat.pow_pos (by decide);omega
 have C:eu s l start (2^l.length-1)=ib (zy s start l):=by rw[eu,kM,EZ _ u];rfl
 have O:=CQ s l s.pv (.int .i64 start) s.pv (.int .i64 0) G K u (2^l.length-1) D start A;have J:=g' (λo L=>(xE (φ:=fV s l) o L).1) (args:=[.ptr 6 1 0 0,.p (dr start (2^l.length-1))]) (by simp only[go_sem,simprocAttr]) (O.mono λr h' a=>⟨by rw[a.2],a⟩) [.row 2 [.p (dr start (2^l.length-1))]];simp only[F,E,go_sem,simprocAttr];refine cq (v:=.p (gP (eu s l start (2^l.length-1)))) (h':=nu s l s.pv (.int .i64 start) s.pv (.int .i64 0) (.memo (fV s l))++[.row 2 [.p (dr start (2^l.length-1))]]) (F7 (id:=5) (φ:=fV s l) (es:=[]) (M8 s l) (by simp) rfl (J.mono λr h' a=>?_)) ?_
 .obtain⟨T,e,_,a⟩:=a;exact⟨a.1,by rw[e,a.2]⟩
 cases i:zy s start l with
 |none=>
  have z:(eu s l start (2^l.length-1)).1=1099511627776:=by rw[C,i];rfl
  simp only[z,ry,if_pos y,i,go_sem,simprocAttr]
 |some q=>
  obtain⟨o,n⟩:=q;have U:=mJ (iS s l) (lE l) (λc j n h=>DR G l c j n h) 7 start (List.range l.length) o n i;have z:(eu s l start (2^l.length-1)).1=n:=by rw[C,i];rfl
  have N:decide (1099511627776<=n)=false:=by simp;omega
  have R:=Sg s l s.pv (.int .i64 start) s.pv (.int .i64 0) (dr start (2^l.length-1)) G K u (2^l.length-1) D start A o n (by rw[EZ _ u];exact i);simp only[z,N,go_sem,simprocAttr];refine cj R (λv h a=>?_) (λv h a=>?_);rotate_left
  .cases a.1
  obtain⟨a,x,rfl⟩:=a;cases a;simp only[ry,if_pos y,i,go_sem,simprocAttr];rw[kY 6 _ pH (λ_=>rfl)];simp;exact fC (by simp)
theorem tz{α β:Type}{f:α->List β}{c}:∀(l:List α),(∀x,x∈l->(f x).length<=c)->(l.flatMap f).length<=l.length*c
 |[],_=>by simp
 |x::l,h=>by
  have:=tz l λy a=>h y (by simp[a]);have:=h x (by simp);rw[mC,aL,dB,Nat.succ_mul];omega
theorem PP{F}(a:∀v,F (.p v)=some v)(xs ys):aQ F (xs.map AV.p++ys.map AV.p)=some (xs++ys):=by
 have:=dC a id (xs++ys);simpa using this
end Cl
namespace Wx
def xx (x y:Span) (e r n:Int):Bool:=r==-1||(decide (n*x.lo+(1000-n)*y.lo<=1000*(r+e))&&decide (1000*(r-e)<=n*x.hi+(1000-n)*y.hi))
def mf:List WxProp->List Span->List Span->List Int->Int->Bool
 |p::ps,x::xs,y::ys,r::rs,n=>xx x y p.error r n&&mf ps xs ys rs n
 |_,_,_,_,_=>true
def down (a b:Int):Int:=a / b
def cJ (s:Span) (q:Int×Int):Span:=
 if 0<q.1 then⟨s.lo,if(-q.2) / q.1<s.hi then(-q.2) / q.1 else s.hi⟩
 else if q.1<0 then⟨if s.lo < -((-q.2) / (-q.1)) then -((-q.2) / (-q.1)) else s.lo,s.hi⟩
 else if 0<q.2 then⟨s.lo,s.lo-1⟩ else s
theorem A6(s)(q)(n):((cJ s q).lo<=n/\n<=(cJ s q).hi)↔(s.lo<=n/\n<=s.hi)/\n*q.1+q.2<=0:=by
 unfold cJ;split
 .rename_i h;have k:=zR (a:=n) (b:=-q.2) h;dsimp only;split<;>omega
 .split
  .rename_i i e;have k:=zR (a:=-n) (b:=-q.2) (show 0 < -q.1 by omega);rw[C5,Int.mul_neg,Int.neg_neg]at k;dsimp only;split<;>omega
  .rename_i i e;have j:q.1=0:=by omega
   rw[j,wO];split
   .dsimp only;omega
   .omega
def WM (x y:Span) (e r:Int):List (Int×Int):=[(x.lo-y.lo,1000*(y.lo-r-e)),(y.hi-x.hi,1000*(r-e-y.hi))]
def qh (s:Span) (x y:Span) (e r:Int):Span:=if r=-1 then s else cJ (cJ s (x.lo-y.lo,1000*(y.lo-r-e))) (y.hi-x.hi,1000*(r-e-y.hi))
theorem If(s x y)(e r n):((qh s x y e r).lo<=n/\n<=(qh s x y e r).hi)↔(s.lo<=n/\n<=s.hi)/\xx x y e r n=true:=by
 unfold qh xx;split
 .rename_i h;simp[h]
 .rename_i h;rw[A6,A6];simp only[Mn,beq_iff_eq,h,false_or,dQ,decide_eq_true_eq];have l:n*(x.lo-y.lo)=n*x.lo-n*y.lo:=Int.mul_sub _ _ _;have j:n*(y.hi-x.hi)=n*y.hi-n*x.hi:=Int.mul_sub _ _ _;have i:(1000-n)*y.lo=1000*y.lo-n*y.lo:=Int.sub_mul _ _ _;have a:(1000-n)*y.hi=1000*y.hi-n*y.hi:=Int.sub_mul _ _ _;rw[l,j,i,a];omega
def gH:Span->List WxProp->List Span->List Span->List Int->Span
 |s,p::ps,x::xs,y::ys,r::rs=>gH (qh s x y p.error r) ps xs ys rs
 |s,_,_,_,_=>s
theorem rE(n):∀(ps) (xs ys) (rs) (s),((gH s ps xs ys rs).lo<=n/\n<=(gH s ps xs ys rs).hi)↔(s.lo<=n/\n<=s.hi)/\mf ps xs ys rs n=true
 |[],_,_,_,s=>by simp[gH,mf]
 |p::ps,[],_,_,s=>by simp[gH,mf]
 |p::ps,x::xs,[],_,s=>by simp[gH,mf]
 |p::ps,x::xs,y::ys,[],s=>by simp[gH,mf]
 |p::ps,x::xs,y::ys,r::rs,s=>by
  rw[gH,rE n ps xs ys rs,If,mf,dQ,and_assoc]
def jF (S:Int->Prop) (p:Span):Prop:=(∀v,S v->p.lo<=v/\v<=p.hi)/\((∀v,¬S v)/\p=⟨1001,-1⟩\/S p.lo/\S p.hi)
def iX (p l:Span):Span:=⟨if l.lo<p.lo then l.lo else p.lo,if p.hi<l.hi then l.hi else p.hi⟩
theorem jF.join{S I:Int->Prop}{p l}(u:jF S p)(o:∀v,I v->l.lo<=v/\v<=l.hi)(j:I l.lo)(q:I l.hi)(A:0<=l.lo)(z:l.hi<=1000):jF (λv=>S v\/I v) (iX p l):=by
 obtain⟨a,b⟩:=u;have y:=o _ j;unfold iX;refine⟨λv i=>?_,.inr ?_⟩
 .dsimp only;rcases i with i|i
  .have:=a v i;constructor<;>split<;>omega
  .have:=o v i;constructor<;>split<;>omega
 .rcases b with⟨e,rfl⟩|⟨c,d⟩
  .dsimp only;rw[if_pos (by omega),if_pos (by omega)];exact⟨.inr j,.inr q⟩
  .dsimp only;constructor<;>split
   .exact .inr j
   .exact .inl c
   .exact .inr q
   .exact .inl d
theorem jF.same{S T}{p}(a:jF S p)(h:∀v,T v↔S v):jF T p:=by
 have:T=S:=funext λv=>propext (h v);rw[this];exact a
def joinL {α:Type} (f:α->Option Span):List α->Span->Span
 |[],p=>p
 |x::l,p=>joinL f l (match f x with|some s=>iX p s|none=>p)
theorem jF.joinL{α}{f}{I:α->Int->Prop} (e:∀x,match f x with
   |some s=>(∀v,I x v->s.lo<=v/\v<=s.hi)/\I x s.lo/\I x s.hi/\0<=s.lo/\s.hi<=1000
   |none=>∀v,¬I x v) :
  ∀(l) {S} {p},jF S p->jF (λv=>S v\/∃x,x∈l/\I x v) (Wx.joinL f l p)
 |[],S,p,h=>h.same λv=>by simp
 |x::l,S,p,h=>by
  have hx:=e x;rw[Wx.joinL]
  cases i:f x with
  |none=>
   rw[i]at hx;refine(jF.joinL e l h).same λv=>?_;constructor
   .rintro(h|⟨y,a,h⟩)
    .exact .inl h
    .rcases ce.1 a with rfl|a
     .exact absurd h (hx v)
     .exact .inr ⟨y,a,h⟩
   .rintro(h|⟨y,a,h⟩)
    .exact .inl h
    .exact .inr ⟨y,by simp[a],h⟩
  |some s=>
   rw[i]at hx;obtain⟨z,u,q,o,j⟩:=hx;refine(jF.joinL e l (h.join z u q o j)).same λv=>?_;constructor
   .rintro(h|⟨y,a,h⟩)
    .exact .inl (.inl h)
    .rcases ce.1 a with rfl|a
     .exact .inl (.inr h)
     .exact .inr ⟨y,a,h⟩
   .rintro((h|h)|⟨y,a,h⟩)
    .exact .inl h
    .exact .inr ⟨x,by simp,h⟩
    .exact .inr ⟨y,by simp[a],h⟩
section
variable (ex:Nat->Nat->Int->Bool) (kind:Nat)
def iN (q:Nat×Nat) (l:Span):Span:=if kind=q.1 then l else if kind=q.2 then⟨1000-l.hi,1000-l.lo⟩ else⟨0,0⟩
def DJ (many:Nat):List (Nat×Nat):=(List.range many).flatMap λa=>(List.range (a+1)).map λb=>(a,b)
def uz (s:Span):Option Span:=if s.lo<=s.hi then some s else none
def TH (sp:Nat×Nat->Span) (many:Nat):Span:=joinL (λq=>(uz (sp q)).map (iN kind q)) (DJ many) ⟨1001,-1⟩
end
end Wx
end Abs
end Go.Proofs.YtmndpldajflenaaGreatDoor
