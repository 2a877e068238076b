/-
  CONTRACTS: the best plan from a stand on, in the program. No conditions but those in the t
  CONTRACTS: the best plan from a stand on, in the program: the recursion. No conditions but
  CONTRACTS: colour in the reference: errors of a shop and batches. No conditions but those 
  CONTRACTS: orders of batches in the reference. No conditions but those in the theorems' he
  CONTRACTS: the best order, in the program. No conditions but those in the theorems' heads.
  CONTRACTS: all orders of batches, and the best one of them, in the reference. No condition
  CONTRACTS: the best order of batches in the reference. No conditions but those in the theo
  WHAT A SAMPLE CAN CONSIST OF: mixtures that explain readings, in two ways; plain Lean. No 
-/
import Derived.Test.YtfafnkpfamgbbaaGreatDoorAbsCutX
import Derived.Test.YtfafnkpfamgbbaaGreatDoorClOpen2X
import Derived.Test.YtfafnkpfamgbbaaGreatDoorAbsFrame
set_option linter.unusedSimpArgs false
set_option linter.unusedVariables false
open Go.Proofs.Tryz renaming prog->TP
namespace Go.Proofs.YtfafnkpfamgbbaaGreatDoor
namespace Abs
namespace Cl
set_option maxRecDepth 4000
def im (s:ClShop) (l:List ClBatch) (c:Int) (j:Nat):Option Int:=match l[j]? with | some b=>sD s c b | none=>none
def kT (l:List ClBatch) (j:Nat):Int:=match l[j]? with | some b=>b.colour | none=>0
def cR (c:Int) (m:Nat):PV:=.agg [.int .i64 c,.int .i64 m]
def ga (p:Int×Int):PV:=.agg [.int .i64 p.1,.int .i64 p.2]
attribute [go_sem] cR ga
def dN (s:ClShop) (l:List ClBatch) (c:Int) (m:Nat):Int×Int:=ke (im s l) (kT l) c m
def fc (s:ClShop) (l:List ClBatch):PV->PV->Bool
 |.agg [.int .i64 c,.int .i64 m],.agg [.int .i64 x,.int .i64 y]=>decide (0<=m)&&(decide (x=(dN s l c m.toNat).1)&&decide (y=(dN s l c m.toNat).2))
 |_,_=>false
theorem wT {s} {l} {k v} (h:fc s l k v=true):∃ c m,k=cR c m/\v=ga (dN s l c m):=by
 unfold fc at h;split at h
 .rename_i c m x y;simp only [dA,decide_eq_true_eq] at h;obtain ⟨h0,h1,h2⟩:=h;refine ⟨c,m.toNat,?_,?_⟩
  .rw [cR,Int.toNat_of_nonneg h0]
  .rw [ga,h1,h2]
 .cases h
theorem LO (s) (l) (c) (m):fc s l (cR c m) (ga (dN s l c m))=true:=by
 simp [fc,cR,ga]
theorem Cp (c d) (m n):iQ (cR c m) (cR d n)=some (c==d&&(m:Int)==(n)):=by
 simp [iQ,cR,DH,dI,mS]
theorem LN (s) (l):mR (fc s l):=by
 intro k q v u hk hq;obtain ⟨c,m,rfl,_⟩:=wT hk;obtain ⟨d,n,rfl,_⟩:=wT hq;refine ⟨_,Cp c d m n,λh=>?_⟩;simp at h;obtain ⟨rfl,h⟩:=h;have:m=n:=by omega
 rw [this]
theorem AI {s} {l} (c) (m):∀ {es},(∀ p,p∈es->fc s l p.1 p.2=true)->ki (cR c m) es=some none\/ki (cR c m) es=some (some (ga (dN s l c m)))
 |[],_=>.inl rfl
 |(k,v)::r,h=>by
  obtain ⟨d,n,hk,hv⟩:=wT (h (k,v) (by simp));dsimp only at hk hv;subst hk;subst hv;rw [ki,Cp];cases hb:(c==d&&(m:Int)==(n:Int))
  .exact AI c m λp hp=>h p (by simp [hp])
  .simp at hb;obtain ⟨rfl,hb⟩:=hb;have:m=n:=by omega
   subst this;exact .inr rfl
theorem Br (n) (f):aV n (.memo f)=True:=rfl
theorem Il (n) (k) (id):ef n (.ref k id)=(id<n):=rfl
attribute [go_sem] Br Il
theorem CV {s} (hs:ShopOk s) (l) (c) (j) (n) (h:im s l c j=some n):0<=n/\n<=30000:=by
 unfold im at h
 cases hj:l[j]? with
 |none=>rw [hj] at h;cases h
 |some b=>rw [hj] at h;exact zx hs h
theorem Ok {s} (hs:ShopOk s) (l) (c) (m):0<=(dN s l c m).1/\(dN s l c m).1<=kg:=by
 unfold dN ke;have:=l8 (im s l) (kT l) (λc j n h=>CV hs l c j n h) 7 c (ec m)
 cases h:ep (im s l) (kT l) 7 c (ec m) with
 |none=>simp only [gG];unfold kg;omega
 |some p=>have:=this p.1 p.2 (by rw [h]);simp only [gG];unfold kg;omega
def mN (s:ClShop) (l:List ClBatch) (v0 v1 v2 v4:PV) (mm:AObj):Heap:=[.row 4 [.p v0],.row 1 [.p v1],.row 4 [.p v2],.row 1 [.ptr 6 1 0 0],.row 1 [.p v4],mm,lj s l 5]
def mM (s:ClShop) (l:List ClBatch) (v0 v1 v2 v4 v8 v9:PV) (mm:AObj):Heap :=
 [.row 4 [.p v0],.row 1 [.p v1],.row 4 [.p v2],.row 1 [.ptr 6 1 0 0],.row 1 [.p v4],mm,lj s l 5,.row 1 [.ptr 6 1 0 0],.row 2 [.p v8],.row 2 [.p v9],.row 1 [.func (.func 313) [] [.ptr 7 1 0 0,.ptr 10 1 0 0]]]
attribute [go_sem] mN mM
theorem Ed {s} {l} {v0 v1 v2 v4 v8 v9} {φ}:∀ o,o∈mM s l v0 v1 v2 v4 v8 v9 (.memo φ)->aV (mM s l v0 v1 v2 v4 v8 v9 (.memo φ)).length o/\o.isDead=false:=by
 intro o ho;simp only [mM,cz,eQ,or_false] at ho;rcases ho with rfl | rfl | rfl | rfl | rfl | rfl | rfl | rfl | rfl | rfl | rfl<;>simp [lj,aV,below,fg,ef,dt,AObj.isDead,mM]
theorem xf {s} {l} {v0 v1 v2 v4} {φ}:∀ o,o∈mN s l v0 v1 v2 v4 (.memo φ)->aV (mN s l v0 v1 v2 v4 (.memo φ)).length o/\o.isDead=false:=by
 intro o ho;simp only [mN,cz,eQ,or_false] at ho;rcases ho with rfl | rfl | rfl | rfl | rfl | rfl | rfl<;>simp [lj,aV,below,fg,ef,dt,AObj.isDead,mN]
theorem yQ (n):ah TP 335 [.int .i64 n] (.bool false):=by
 refine aa (ai (by kernel_rfl) rfl Tc) rfl ?_;simp only [go_sem,simprocAttr];simp
theorem DV (a b):ah TP 326 [.int .i64 a,.int .i64 b] (.int .i64 (if a<b then -1 else if b<a then 1 else 0)):=by
 refine aa (ai (by kernel_rfl) rfl Tl) rfl ?_;simp only [go_sem,simprocAttr]
 (first | refine ae (yQ a) rfl ?_ | refine aC (yQ a) rfl ?_)
 simp only [go_sem,simprocAttr]
 (first | refine ae (yQ b) rfl ?_ | refine aC (yQ b) rfl ?_)
 simp only [go_sem,simprocAttr];by_cases h1:a<b
 .have d1:decide (a<b)=true:=by simpa using h1
  simp only [d1,if_pos h1,go_sem,simprocAttr]
 .have d1:decide (a<b)=false:=by simpa using h1
  by_cases h2:b<a
  .have d2:decide (b<a)=true:=by simpa using h2
   simp only [d1,d2,if_neg h1,if_pos h2,go_sem,simprocAttr]
  .have d2:decide (b<a)=false:=by simpa using h2
   simp only [d1,d2,if_neg h1,if_neg h2,go_sem,simprocAttr]
theorem NM (p):ah TP 316 [ga p] (.int .i64 p.1):=by
 refine aa (ai (by kernel_rfl) rfl Tv) rfl ?_;simp only [go_sem,simprocAttr]
theorem Py (p q):ah TP 315 [ga p,ga q,.func (.func 316) [] []] (ga (if q.1<p.1 then q else p)):=by
 refine aa (ai (by kernel_rfl) rfl Tw) rfl ?_;simp only [go_sem,simprocAttr];refine aC (NM p) rfl ?_;simp only [go_sem,simprocAttr];refine aC (NM q) rfl ?_;simp only [go_sem,simprocAttr]
 (first | refine ae (DV p.1 q.1) rfl ?_ | refine aC (DV p.1 q.1) rfl ?_)
 simp only [go_sem,simprocAttr];by_cases h:q.1<p.1
 .have h1:¬ p.1<q.1:=by omega
  simp only [if_neg h1,if_pos h,go_sem,simprocAttr]
 .by_cases h1:p.1<q.1
  .simp only [if_pos h1,if_neg h,go_sem,simprocAttr]
  .simp only [if_neg h1,if_neg h,go_sem,simprocAttr]
set_option maxRecDepth 100000 in
theorem Kt:∀ m:Nat,m<128->∀ i,i<7->IntKind.i64.wrap ((BitVec.ofInt 64 ((m:Int).fdiv (2^i))&&& BitVec.ofInt 64 1).toNat:Int)=(if m.testBit i then 1 else 0):=by decide
set_option maxRecDepth 100000 in
theorem Kb:∀ m:Nat,m<128->∀ i,i<7->m.testBit i=true->IntKind.i64.wrap ((BitVec.ofInt 64 (m)&&& ~~~BitVec.ofInt 64 (IntKind.i64.wrap (1*2^i))).toNat:Int)=((m-2^i:Nat):Int):=by decide
theorem ME {m i:Nat} (hm:m<128) (hi:i<7):ru .and .i64 ((m:Int).fdiv (2^i)) 1=some (.int .i64 (if m.testBit i then 1 else 0)):=congrArg (λn=>some (PV.int .i64 n)) (Kt m hm i hi)
theorem DG {m i:Nat} (hm:m<128) (hi:i<7) (h:m.testBit i=true):ru .andNot .i64 (m) (IntKind.i64.wrap (1*2^i))=some (.int .i64 ((m-2^i:Nat):Int)):=congrArg (λn=>some (PV.int .i64 n)) (Kb m hm i hi h)
theorem Le {h u} (hd:∀ o,o∈h->o.isDead=false) (hs:cd h u):∃ t,u=h++t:=by
 refine ⟨u.drop h.length,rV λi=>?_⟩;rcases cJ i h.length with hi | hi
 .rw [aS hi,b6 hi];exact hs i _ (b6 hi) (hd _ (BP hi))
 .rw [cD hi,ny]
  congr 1;omega
theorem MY {P} {H} {ops} {rest} {Q} {o} {hs h0 base} {A} {f} {args} {v} (hc:ay P f args base (λr h'=>r=.ret v/\h'=base))
  (hb:∀ o,o∈base->aV base.length o/\o.isDead=false) (ha:∀ a,a∈args->below base.length a) (hs0:cd base h0) (k:@WD ⟨P,H,ops,rest,Q⟩ hs (A.put o.dst v A.h)):@Er ⟨P,H,ops,rest,Q,o⟩ hs h0 A (.call f args):=by
 refine ⟨v,λh' hh=>?_,k⟩;obtain ⟨t,rfl⟩:=Le (λo ho=>(hb o ho).2) (hs0.trans hh);refine (gu (λo ho=>(hb o ho).1) ha (hc.mono λr h' hr=>⟨by rw [hr.2],hr⟩) t).mono λr h'' hr=>?_;obtain ⟨h1,e,_,hr⟩:=hr;exact ⟨hr.1,by rw [e,hr.2]⟩
theorem P3 {P} {H} {ops} {rest} {Q} {dst} {base} {A} {f} {args} {v} (t) (hc:ay P f args base (λr h'=>r=.ret v/\h'=base))
  (hb:∀ o,o∈base->aV base.length o/\o.isDead=false) (ha:∀ a,a∈args->below base.length a) (hs0:A.h=base++t) (k:@WO ⟨P,H,ops,rest,Q⟩ (A.put dst v A.h)):@WF ⟨P,H,ops,rest,Q,dst⟩ A f args:=by
 refine b9 (h':=A.h) ?_ k;rw [hs0];refine (gu (λo ho=>(hb o ho).1) ha (hc.mono λr h' hr=>⟨by rw [hr.2],hr⟩) t).mono λr h'' hr=>?_;obtain ⟨h1,e,_,hr⟩:=hr;exact ⟨hr.1,by rw [e,hr.2]⟩
def qu (s:ClShop) (l:List ClBatch) (c:Int) (m k:Nat):Int×Int:=((List.range k).filter m.testBit).foldl (jm (im s l) c λj=>dN s l (kT l j) (m-2^j)) (kg,-2)
theorem Om {s} {l} {c} {m k} (h:m.testBit k=false):qu s l c m (k+1)=qu s l c m k:=by
 simp [qu,List.range_succ,G4,h]
theorem QN {s} {l} {c} {m k} (h:m.testBit k=true):qu s l c m (k+1)=jm (im s l) c (λj=>dN s l (kT l j) (m-2^j)) (qu s l c m k) k:=by
 simp [qu,List.range_succ,G4,h,r8]
theorem On {s} {l} {c} {m} (hs:ShopOk s) (hl:l.length<=7) (hm:m<2^l.length) (h0:m≠0):dN s l c m=qu s l c m l.length:=by
 have hm7:m<128:=iH hm (show 2^l.length<=2^7 from B9 (by decide) hl);have hb:ec m=(List.range l.length).filter m.testBit:=by
  unfold ec;have e:(7:Nat)=l.length+(7-l.length):=by omega
  rw [e,List.range_add,G4];have:((List.range (7-l.length)).map (l.length+·)).filter m.testBit=[]:=by
   rw [List.filter_eq_nil_iff];intro a ha;obtain ⟨j,_,rfl⟩:=dD.1 ha;have:m.testBit (l.length+j)=false:=Nat.testBit_lt_two_pow (iH hm (B9 (by decide) (by omega)));rw [this];decide
  rw [this,bF]
 rw [dN,EV (im s l) (kT l) (λc j n h=>CV hs l c j n h) c hm7 h0,hb];rfl
def NP (s:ClShop) (l:List ClBatch) (v0 v1 v2 v4 v8 v9:PV) (mm:AObj) (c:Int) (m:Nat) (p:Int×Int):Heap :=
 [.row 4 [.p v0],.row 1 [.p v1],.row 4 [.p v2],.row 1 [.ptr 6 1 0 0],.row 1 [.p v4],mm,lj s l 5,.row 1 [.ptr 6 1 0 0],.row 2 [.p v8],.row 2 [.p v9],.row 1 [.func (.func 313) [] [.ptr 7 1 0 0,.ptr 10 1 0 0]],
  .row 2 [.p (cR c m)],.row 2 [.p (.agg [.int .i64 0,.int .i64 0])],.row 2 [.p (ga p)]]
attribute [go_sem] NP
theorem Lo (a) (k:Nat) (hk:k<=64):ez .shr .i64 a (k)=some (.int .i64 (a.fdiv (2^k))):=by
 have h1:¬ (k:Int)<0:=by omega
 have h2:min ((k:Int).toNat) (IntKind.bits .i64)=k:=by rw [hH];exact GN hk
 simp only [ez,if_neg h1,h2]
theorem wE (a) (k:Nat) (hk:k<=64):ez .shl .i64 a (k)=some (.int .i64 (IntKind.i64.wrap (a*2^k))):=by
 have h1:¬ (k:Int)<0:=by omega
 have h2:min ((k:Int).toNat) (IntKind.bits .i64)=k:=by rw [hH];exact GN hk
 simp only [ez,if_neg h1,h2]
theorem Ec {s} {l} {v0 v1 v2 v4 v8 v9} {es}:∀ o,o∈mM s l v0 v1 v2 v4 v8 v9 (.mp es)->aV 11 o:=by
 intro o ho;simp only [mM,cz,eQ,or_false] at ho;rcases ho with rfl | rfl | rfl | rfl | rfl | rfl | rfl | rfl | rfl | rfl | rfl<;>simp [lj,aV,below,fg,ef,dt]
set_option maxHeartbeats 4000000 in
theorem Q8 (s) (l) (v0 v1 v2 v4 v8 v9) (hs:ShopOk s) (hb:∀ b,b∈l->BatchOk s b) (hl:l.length<=7):∀ (m),m<2^l.length->∀ (c:Int),0<=c/\c<s.colours.length ->
  ay TP 313 [.p (cR c m),.ptr 7 1 0 0,.ptr 10 1 0 0] (mM s l v0 v1 v2 v4 v8 v9 (.memo (fc s l)))
   (λr h'=>r=.ret (.p (ga (dN s l c m)))/\h'=mM s l v0 v1 v2 v4 v8 v9 (.memo (fc s l))):=by
 intro m
 induction m using Nat.strongRecOn with
 |ind m ih =>
 intro hm c hc;have hm7:m<128:=iH hm (show 2^l.length<=2^7 from B9 (by decide) hl);refine HR (id:=5) (φ:=fc s l) rfl λhg es hf=>?_;show ay _ _ _ (mM s l v0 v1 v2 v4 v8 v9 (.mp es)) _;refine bv (ai (by kernel_rfl) rfl Ty) rfl ?_;simp only [go_sem,simprocAttr];cases h0:((m:Int)==0)
 rotate_left
 .have h0':m=0:=by simpa using h0
  subst h0';simp only [go_sem,simprocAttr];refine ⟨_,_,rfl,rfl,?_,trivial,.inr rfl,?_,?_⟩
  .exact λo ho=>Ec (es:=es) (s:=s) (l:=l) (v0:=v0) (v1:=v1) (v2:=v2) (v4:=v4) (v8:=v8) (v9:=v9) o ho
  .rw [dN,vS]
  .rw [dN,vS]
 have h0':m≠0:=by intro h;subst h;simp at h0
 simp only [go_sem,simprocAttr];rcases AI (s:=s) (l:=l) c m hf with hk | hk
 rotate_left
 .simp only [cR,ga] at hk;simp only [xk,bf,hk,go_sem,simprocAttr];refine ⟨_,_,rfl,rfl,?_,trivial,.inr rfl⟩;exact λo ho=>Ec (es:=es) (s:=s) (l:=l) (v0:=v0) (v1:=v1) (v2:=v2) (v4:=v4) (v8:=v8) (v9:=v9) o ho
 simp only [cR] at hk;simp only [xk,bf,hk,go_sem,simprocAttr];refine eg (IK (id:=5) hg hf rfl) ?_;simp only [go_sem,simprocAttr];refine bT [1,2,3,4,5,30,31] l (by omega) (τ:=Unit) (λdone rest _=>True) (λdone _=>[(32,.p (.int .i64 done.length))]) (λdone _=>NP s l v0 v1 v2 v4 v8 v9 (.memo (fc s l)) c m (qu s l c m done.length)) () trivial ?_ ?_ ?_
 .simp only [go_sem,simprocAttr];rfl
 .intro _ _;have hp:=On (c:=c) hs hl hm h0';rw [<-hp];have hka:=LO s l c m;simp only [cR,ga] at hka;simp only [xk,bf,hka,go_sem,simprocAttr];refine ⟨_,_,rfl,rfl,?_,trivial,.inl rfl⟩;exact λo ho=>(Ed (φ:=fc s l) (s:=s) (l:=l) (v0:=v0) (v1:=v1) (v2:=v2) (v4:=v4) (v8:=v8) (v9:=v9) o ho).1
 .intro done b r _ e1 _ hx hlt hnx;have hbo:=hb b (by rw [e1];simp);have hdl:done.length<l.length:=by rw [e1];simp
  have hbit:=ME hm7 (show done.length<7 by omega);have hlb:l[done.length]?=some b:=by rw [e1];simp
  have hsh:=Lo (m:Int) done.length (by omega);simp only [hlt,hx,hsh,↓hbit,go_sem,simprocAttr];cases hb0:m.testBit done.length
  .have hpo:=Om (s:=s) (l:=l) (c:=c) hb0;simp only [go_sem,simprocAttr];refine aL e1 () trivial ?_;simp only [hnx,aP,bu,hpo,go_sem,simprocAttr]
  have hpo:=QN (s:=s) (l:=l) (c:=c) hb0;have hclr:=DG hm7 (show done.length<7 by omega) hb0;have hshl:=wE 1 done.length (by omega);simp only [go_sem,simprocAttr];refine bh (Pn s l c b hs hbo hc) ?_ (.int _ _) ?_
  .simp only [go_sem,simprocAttr]
  simp only [go_sem,simprocAttr];have hnd:im s l c done.length=sD s c b:=by rw [im,hlb]
  by_cases hn:gT s c b<0
  .have hd:decide (gT s c b<0)=true:=by simpa using hn
   have hp1:qu s l c m (done.length+1)=qu s l c m done.length:=by
    rw [hpo,jm,hnd,sD,if_pos hn]
   simp only [hd,go_sem,simprocAttr];refine aL e1 () trivial ?_;simp only [hnx,aP,bu,hp1,go_sem,simprocAttr]
   trace_state
  have hd:decide (gT s c b<0)=false:=by simpa using hn
  have hcol:kT l done.length=b.colour:=by rw [kT,hlb]
  have hno:sD s c b=some (gT s c b*s.rinse):=by rw [sD,if_neg hn]
  have hnB:=zx hs hno;have hpB:=Ok hs l b.colour (m-2^done.length);have hle:=(pg m hm7 done.length (by omega) hb0).2;have hpos:0<2^done.length:=Nat.pow_pos (by decide);have w1:IntKind.i64.wrap (gT s c b*s.rinse)=gT s c b*s.rinse:=an (by omega) (by omega);have w2:IntKind.i64.wrap (gT s c b*s.rinse+(dN s l b.colour (m-2^done.length)).1)=gT s c b*s.rinse+(dN s l b.colour (m-2^done.length)).1:=by
   unfold kg at hpB;exact an (by omega) (by omega)
  have hp1:qu s l c m (done.length+1)=if gT s c b*s.rinse+(dN s l b.colour (m-2^done.length)).1<(qu s l c m done.length).1 then (gT s c b*s.rinse+(dN s l b.colour (m-2^done.length)).1,(done.length:Int)) else qu s l c m done.length:=by
   rw [hpo,jm,hnd,hno];simp only [hcol]
  simp only [xk,bf,hd,↓hclr,hshl,go_sem,simprocAttr];refine MY (base:=mM s l v0 v1 v2 v4 v8 v9 (.memo (fc s l))) (ih (m-2^done.length) (by omega) (by omega) b.colour hbo.colour) Ed ?_ (cd.app _ [_,_,_,_]) ?_
  .simp only [go_sem,simprocAttr]
  simp only [xk,bf,w1,w2,go_sem,simprocAttr];refine aC (Py (qu s l c m done.length) (gT s c b*s.rinse+(dN s l b.colour (m-2^done.length)).1,(done.length:Int))) rfl ?_;simp only [xk,go_sem,simprocAttr];refine aL e1 () trivial ?_;simp only [hnx,aP,bu,hp1,go_sem,simprocAttr]
def oW (i:Nat):PV:=.int .i64 i
theorem Bb {need} {col} {k} {c} {l o} {n} (h:l.length<=k) (hb:ep need col k c l=some (o,n)):o.Perm l:=by
 rw [<-Ba need col k c l h] at hb;exact vU k l o (wK need col c _ o n hb).1
theorem BX (s) (l) (v0 v1 v2 v4) (hs:ShopOk s) (hb:∀ b,b∈l->BatchOk s b) (hl:l.length<=7) (m) (hm:m<2^l.length) (c:Int) (hc:0<=c/\c<s.colours.length) :
  ay TP 290 [.ptr 6 1 0 0,.p (cR c m)] (mN s l v0 v1 v2 v4 (.memo (fc s l))) (λr h'=>r=.ret (.p (ga (dN s l c m)))/\h'=mN s l v0 v1 v2 v4 (.memo (fc s l))):=by
 refine bv (ai (by kernel_rfl) rfl TQ) rfl ?_;simp only [go_sem,simprocAttr];refine b9 (Q8 s l v0 v1 v2 v4 (cR c m) (.agg [.int .i64 0,.int .i64 0]) hs hb hl m hm c hc) ?_;simp only [go_sem,simprocAttr];refine ⟨_,_,rfl,rfl,?_,trivial,rfl⟩;exact λo ho=>(xf (φ:=fc s l) (s:=s) (l:=l) (v0:=v0) (v1:=v1) (v2:=v2) (v4:=v4) o ho).1
theorem Q9 (s) (l) (v0 v1 v2 v4 v7) (hs:ShopOk s) (hb:∀ b,b∈l->BatchOk s b) (hl:l.length<=7) (m) (hm:m<2^l.length) (c:Int) (hc:0<=c/\c<s.colours.length) (o) (n)
  (ho:ep (im s l) (kT l) 7 c (ec m)=some (o,n)) :
  ay TP 291 [.ptr 6 1 0 0,.p (cR c m)] (mN s l v0 v1 v2 v4 (.memo (fc s l))++[.row 2 [.p v7]])
   (λr h'=>r=.ret (.slice 9 o.length 0 o.length)/\∃ x,h'=mN s l v0 v1 v2 v4 (.memo (fc s l))++[.row 2 [.p v7],x,.row 1 (o.map λi=>.p (oW i))]):=by
 refine ax (ai (by kernel_rfl) rfl TO) rfl ?_;simp only [go_sem,simprocAttr];refine et 4 1 (by simp only [go_sem,simprocAttr]) ?_;simp only [go_sem,simprocAttr]
 refine i7 [0,3] (σ:=(Int×Nat)×(List Nat×List Nat)) (λq=>q.1.2<2^l.length/\(0<=q.1.1/\q.1.1<s.colours.length)/\o=q.2.1++q.2.2/\∃ n,ep (im s l) (kT l) 7 q.1.1 (ec q.1.2)=some (q.2.2,n)) (λq=>q.1.2)
  (λq=>[(4,.slice 9 q.2.1.length 0 q.2.1.length)]) (λq=>[.row 4 [.p v0],.row 1 [.p v1],.row 4 [.p v2],.row 1 [.ptr 6 1 0 0],.row 1 [.p v4],.memo (fc s l),lj s l 5,.row 2 [.p v7],.row 2 [.p (cR q.1.1 q.1.2)],.row 1 (q.2.1.map λi=>.p (oW i))]) ((c,m),([],o)) ⟨hm,hc,rfl,n,ho⟩ ?_ ?_
 .simp only [go_sem,simprocAttr]
 rintro ⟨⟨d,k⟩,o1,o2⟩ ⟨hk,hd,hoo,n',hn'⟩
 dsimp only at hk hd hoo hn';have hk7:k<128:=iH hk (show 2^l.length<=2^7 from B9 (by decide) hl);dsimp only;by_cases h0:k=0
 .subst h0;rw [A9] at hn';have:o2=[]:=by simp only [ep,fu,xp] at hn';exact hn'.1.symm
  subst this;rw [bF] at hoo;subst hoo;simp only [go_sem,simprocAttr]
 have hne:((k:Int) != 0)=true:=by simp;omega
 obtain ⟨j,o',n2,hj7,hbit,rfl,hp2,hb2⟩:=Hs (im s l) (kT l) hk7 h0 hn';have hjl:j<l.length:=by
  rcases cJ j l.length with h | h
  .exact h
  .have:=Nat.testBit_lt_two_pow (iH hk (B9 (by decide) h));rw [this] at hbit;cases hbit
 obtain ⟨b,hlb⟩:∃ b,l[j]?=some b:=⟨_,b6 hjl⟩
 have hbo:=hb b (aI hlb);have hcol:kT l j=b.colour:=by rw [kT,hlb]
 have hclr:=DG hk7 hj7 hbit;have hshl:=wE 1 j (by omega);have hle:=(pg k hk7 j hj7 hbit).2;have hpos:0<2^j:=Nat.pow_pos (by decide);have jl:(j:Int)<(l.length:Int):=by omega
 have hol:o1.length+1<=aB:=by
  have h1:o.length<=7:=by rw [(Bb (s8 m) ho).length_eq];exact s8 m
  have h2:=congrArg List.length hoo;simp at h2;simp [aB];omega
 simp only [hne,go_sem,simprocAttr];refine P3 (base:=mN s l v0 v1 v2 v4 (.memo (fc s l))) [_,_,_] (BX s l v0 v1 v2 v4 hs hb hl k hk d hd) xf ?_ rfl ?_
 .simp only [go_sem,simprocAttr]
 have hp2':(dN s l d k).2=(j:Int):=hp2;simp only [hp2',hol,jl,hlb,hshl,↓hclr,go_sem,simprocAttr];refine dp ((b.colour,k-2^j),(o1++[j],o')) ⟨by dsimp only;omega,hbo.colour,by rw [hoo];simp,n2,by rw [<-hcol];exact hb2⟩ (by dsimp only;omega) ?_;simp only [aP,bu,cp,oW,go_sem,simprocAttr]
theorem Fa {P} {f} {args} {h} {R} {id} {es} {φ} (hg:mR φ) (hf:∀ p,p∈es->φ p.1 p.2=true) (hid:h[id]?=some (.mp es))
  (k:ay P f args (h.set id (.memo φ)) R):ay P f args h R:=by
 intro M0 m w cargs hS hargs;obtain ⟨hk,hev⟩:=sE (S:=⟨m,h,w⟩) hS hg hf hid;have:=k M0 m w cargs hk (hargs.imp λv a _ hr=>hev.keep hr);refine ⟨this.1,this.2.mono λe w' hh=>?_⟩;obtain ⟨r,h'',m',hR,hev',hk',hend⟩:=hh;exact ⟨r,h'',m',hR,hev.trans (by simpa using hev'),hk',hend⟩
def yW (s:ClShop) (aR:Int) (l:List ClBatch):Option (List Nat×Int):=ep (im s l) (kT l) 7 aR (List.range l.length)
def qF (s:ClShop) (aR:Int) (l:List ClBatch):PV :=
 if dg s aR l=0 then (match yW s aR l with | some (o,n)=>.tuple [.slice 1 (o.map oW) false,.int .i64 n,.int .i64 0] | none=>.tuple [.nilslice,.int .i64 0,.int .i64 9])
 else .tuple [.nilslice,.int .i64 0,.int .i64 (dg s aR l)]
theorem D4:∀ n,n<=7->ec (2^n-1)=List.range n:=by
 intro n hn
 match n,hn with
 |0,_=>decide
 |1,_=>decide
 |2,_=>decide
 |3,_=>decide
 |4,_=>decide
 |5,_=>decide
 |6,_=>decide
 |7,_=>decide
theorem Ld:∀ n,n<=7->IntKind.i64.wrap (IntKind.i64.wrap (1*2^n)-1)=((2^n-1:Nat):Int):=by
 intro n hn
 match n,hn with
 |0,_=>decide
 |1,_=>decide
 |2,_=>decide
 |3,_=>decide
 |4,_=>decide
 |5,_=>decide
 |6,_=>decide
 |7,_=>decide
def NW:Hints:=dY [(15,.mut)]
theorem QR:aj NW Tryz.f256=true:=by kernel_rfl
theorem NE (s) (aR) (l) (hl:l.length<1000000000):gk TP 256 [s.pv,.int .i64 aR,.slice 2 (l.map ClBatch.pv) false] (qF s aR l):=by
 refine eY (ai (by kernel_rfl) rfl QR) rfl ?_;simp only [NW,go_sem,simprocAttr];refine bW (HT s aR l _ hl) (λv h hr=>?_) (λv h hr=>?_);rotate_left
 .rcases hr with ⟨_,_,_,_,hr,_⟩ | ⟨_,hr,_⟩<;>cases hr
 rcases hr with ⟨h0,hs,hb,hl7,hr,rfl⟩ | ⟨h0,hr,t,rfl⟩
 rotate_left
 .cases hr;have hne:(dg s aR l != 0)=true:=by simpa using h0
  simp only [hne,qF,if_neg h0,go_sem,simprocAttr]
 cases hr;have hst:0<=aR/\aR<s.colours.length:=by
  unfold dg at h0;split at h0
  .split at h0
   .rename_i h1 h2;simp [az] at h2;omega
   .cases h0
  .contradiction
 have hshl:=wE 1 l.length (by omega);have hsub:=Ld l.length hl7;have hlt:2^l.length-1<2^l.length:=by have:0<2^l.length:=Nat.pow_pos (by decide);omega
 have hpl:dN s l aR (2^l.length-1)=gG (yW s aR l):=by rw [dN,ke,D4 _ hl7];rfl
 have hP:=BX s l s.pv (.int .i64 aR) s.pv (.int .i64 0) hs hb hl7 (2^l.length-1) hlt aR hst;have hP1:=gu (λo ho=>(xf (φ:=fc s l) o ho).1) (args:=[.ptr 6 1 0 0,.p (cR aR (2^l.length-1))]) (by simp only [go_sem,simprocAttr]) (hP.mono λr h' hr=>⟨by rw [hr.2],hr⟩) [.row 2 [.p (cR aR (2^l.length-1))]];simp only [hshl,hsub,go_sem,simprocAttr];refine b9 (v:=.p (ga (dN s l aR (2^l.length-1)))) (h':=mN s l s.pv (.int .i64 aR) s.pv (.int .i64 0) (.memo (fc s l))++[.row 2 [.p (cR aR (2^l.length-1))]]) (Fa (id:=5) (φ:=fc s l) (es:=[]) (LN s l) (by simp) rfl (hP1.mono λr h' hr=>?_)) ?_
 .obtain ⟨h1,e,_,hr⟩:=hr;exact ⟨hr.1,by rw [e,hr.2]⟩
 cases hbo:yW s aR l with
 |none =>
  have hp1:(dN s l aR (2^l.length-1)).1=1099511627776:=by rw [hpl,hbo];rfl
  simp only [hp1,qF,if_pos h0,hbo,go_sem,simprocAttr]
 |some q =>
  obtain ⟨o,n⟩:=q;have hnB:=l8 (im s l) (kT l) (λc j n h=>CV hs l c j n h) 7 aR (List.range l.length) o n hbo;have hp1:(dN s l aR (2^l.length-1)).1=n:=by rw [hpl,hbo];rfl
  have hd:decide (1099511627776<=n)=false:=by simp;omega
  have hO:=Q9 s l s.pv (.int .i64 aR) s.pv (.int .i64 0) (cR aR (2^l.length-1)) hs hb hl7 (2^l.length-1) hlt aR hst o n (by rw [D4 _ hl7];exact hbo);simp only [hp1,hd,go_sem,simprocAttr];refine bW hO (λv h hr=>?_) (λv h hr=>?_);rotate_left
  .cases hr.1
  obtain ⟨hr,x,rfl⟩:=hr;cases hr;simp only [qF,if_pos h0,hbo,go_sem,simprocAttr];rw [kp 6 _ oW (λ_=>rfl)];simp;exact fx (by simp)
theorem sU {α β:Type} {f:α->List β} {c}:∀ (l:List α),(∀ x,x∈l->(f x).length<=c)->(l.flatMap f).length<=l.length*c
 |[],_=>by simp
 |x::l,h=>by
  have:=sU l λy hy=>h y (by simp [hy]);have:=h x (by simp);rw [qh,aP,e9,Nat.succ_mul];omega
theorem OL {F} (hF:∀ v,F (.p v)=some v) (xs ys):aO F (xs.map AV.p++ys.map AV.p)=some (xs++ys):=by
 have:=cZ hF id (xs++ys);simpa using this
end Cl
namespace Wx
def xa (x y:Span) (e r n:Int):Bool:=r==-1||(decide (n*x.lo+(1000-n)*y.lo<=1000*(r+e))&&decide (1000*(r-e)<=n*x.hi+(1000-n)*y.hi))
def lJ:List WxProp->List Span->List Span->List Int->Int->Bool
 |p::ps,x::xs,y::ys,r::rs,n=>xa x y p.error r n&&lJ ps xs ys rs n
 |_,_,_,_,_=>true
def down (a b:Int):Int:=a / b
def cr (s:Span) (q:Int×Int):Span :=
 if 0<q.1 then ⟨s.lo,if (-q.2) / q.1<s.hi then (-q.2) / q.1 else s.hi⟩
 else if q.1<0 then ⟨if s.lo < -((-q.2) / (-q.1)) then -((-q.2) / (-q.1)) else s.lo,s.hi⟩
 else if 0<q.2 then ⟨s.lo,s.lo-1⟩ else s
theorem Al (s) (q) (n):((cr s q).lo<=n/\n<=(cr s q).hi)↔(s.lo<=n/\n<=s.hi)/\n*q.1+q.2<=0:=by
 unfold cr;split
 .rename_i h;have k:=zd (a:=n) (b:=-q.2) h;dsimp only;split<;>omega
 .split
  .rename_i h1 h2;have k:=zd (a:=-n) (b:=-q.2) (show 0 < -q.1 by omega);rw [xr,Int.mul_neg,Int.neg_neg] at k;dsimp only;split<;>omega
  .rename_i h1 h2;have h0:q.1=0:=by omega
   rw [h0,r7];split
   .dsimp only;omega
   .omega
def ZC (x y:Span) (e r:Int):List (Int×Int):=[(x.lo-y.lo,1000*(y.lo-r-e)),(y.hi-x.hi,1000*(r-e-y.hi))]
def pD (s:Span) (x y:Span) (e r:Int):Span:=if r=-1 then s else cr (cr s (x.lo-y.lo,1000*(y.lo-r-e))) (y.hi-x.hi,1000*(r-e-y.hi))
theorem Hd (s x y) (e r n):((pD s x y e r).lo<=n/\n<=(pD s x y e r).hi)↔(s.lo<=n/\n<=s.hi)/\xa x y e r n=true:=by
 unfold pD xa;split
 .rename_i h;simp [h]
 .rename_i h;rw [Al,Al];simp only [K3,beq_iff_eq,h,false_or,dA,decide_eq_true_eq];have e1:n*(x.lo-y.lo)=n*x.lo-n*y.lo:=Int.mul_sub _ _ _;have e2:n*(y.hi-x.hi)=n*y.hi-n*x.hi:=Int.mul_sub _ _ _;have e3:(1000-n)*y.lo=1000*y.lo-n*y.lo:=Int.sub_mul _ _ _;have e4:(1000-n)*y.hi=1000*y.hi-n*y.hi:=Int.sub_mul _ _ _;rw [e1,e2,e3,e4];omega
def fT:Span->List WxProp->List Span->List Span->List Int->Span
 |s,p::ps,x::xs,y::ys,r::rs=>fT (pD s x y p.error r) ps xs ys rs
 |s,_,_,_,_=>s
theorem qP (n):∀ (ps) (xs ys) (rs) (s),((fT s ps xs ys rs).lo<=n/\n<=(fT s ps xs ys rs).hi)↔(s.lo<=n/\n<=s.hi)/\lJ ps xs ys rs n=true
 |[],_,_,_,s=>by simp [fT,lJ]
 |p::ps,[],_,_,s=>by simp [fT,lJ]
 |p::ps,x::xs,[],_,s=>by simp [fT,lJ]
 |p::ps,x::xs,y::ys,[],s=>by simp [fT,lJ]
 |p::ps,x::xs,y::ys,r::rs,s=>by
  rw [fT,qP n ps xs ys rs,Hd,lJ,dA,and_assoc]
def ja (S:Int->Prop) (p:Span):Prop:=(∀ v,S v->p.lo<=v/\v<=p.hi)/\((∀ v,¬ S v)/\p=⟨1001,-1⟩\/S p.lo/\S p.hi)
def iu (p l:Span):Span:=⟨if l.lo<p.lo then l.lo else p.lo,if p.hi<l.hi then l.hi else p.hi⟩
theorem ja.join {S I:Int->Prop} {p l} (hp:ja S p) (hI:∀ v,I v->l.lo<=v/\v<=l.hi) (h1:I l.lo) (h2:I l.hi) (h0:0<=l.lo) (h3:l.hi<=1000):ja (λv=>S v\/I v) (iu p l):=by
 obtain ⟨a,b⟩:=hp;have hl:=hI _ h1;unfold iu;refine ⟨λv hv=>?_,.inr ?_⟩
 .dsimp only;rcases hv with hv | hv
  .have:=a v hv;constructor<;>split<;>omega
  .have:=hI v hv;constructor<;>split<;>omega
 .rcases b with ⟨e,rfl⟩ | ⟨c,d⟩
  .dsimp only;rw [if_pos (by omega),if_pos (by omega)];exact ⟨.inr h1,.inr h2⟩
  .dsimp only;constructor<;>split
   .exact .inr h1
   .exact .inl c
   .exact .inr h2
   .exact .inl d
theorem ja.same {S T} {p} (hp:ja S p) (h:∀ v,T v↔S v):ja T p:=by
 have:T=S:=funext λv=>propext (h v);rw [this];exact hp
def joinL {α:Type} (f:α->Option Span):List α->Span->Span
 |[],p=>p
 |x::l,p=>joinL f l (match f x with | some s=>iu p s | none=>p)
theorem ja.joinL {α} {f} {I:α->Int->Prop} (hf:∀ x,match f x with
   |some s=>(∀ v,I x v->s.lo<=v/\v<=s.hi)/\I x s.lo/\I x s.hi/\0<=s.lo/\s.hi<=1000
   |none=>∀ v,¬ I x v) :
  ∀ (l) {S} {p},ja S p->ja (λv=>S v\/∃ x,x∈l/\I x v) (Wx.joinL f l p)
 |[],S,p,h=>h.same λv=>by simp
 |x::l,S,p,h=>by
  have hx:=hf x;rw [Wx.joinL]
  cases hs:f x with
  |none =>
   rw [hs] at hx;refine (ja.joinL hf l h).same λv=>?_;constructor
   .rintro (h | ⟨y,hy,h⟩)
    .exact .inl h
    .rcases cz.1 hy with rfl | hy
     .exact absurd h (hx v)
     .exact .inr ⟨y,hy,h⟩
   .rintro (h | ⟨y,hy,h⟩)
    .exact .inl h
    .exact .inr ⟨y,by simp [hy],h⟩
  |some s =>
   rw [hs] at hx;obtain ⟨h1,h2,h3,h4,h5⟩:=hx;refine (ja.joinL hf l (h.join h1 h2 h3 h4 h5)).same λv=>?_;constructor
   .rintro (h | ⟨y,hy,h⟩)
    .exact .inl (.inl h)
    .rcases cz.1 hy with rfl | hy
     .exact .inl (.inr h)
     .exact .inr ⟨y,hy,h⟩
   .rintro ((h | h) | ⟨y,hy,h⟩)
    .exact .inl h
    .exact .inr ⟨x,by simp,h⟩
    .exact .inr ⟨y,by simp [hy],h⟩
section
variable (ex:Nat->Nat->Int->Bool) (kind:Nat)
def ib (q:Nat×Nat) (l:Span):Span:=if kind=q.1 then l else if kind=q.2 then ⟨1000-l.hi,1000-l.lo⟩ else ⟨0,0⟩
def CN (many:Nat):List (Nat×Nat):=(List.range many).flatMap λa=>(List.range (a+1)).map λb=>(a,b)
def t8 (s:Span):Option Span:=if s.lo<=s.hi then some s else none
def SV (sp:Nat×Nat->Span) (many:Nat):Span:=joinL (λq=>(t8 (sp q)).map (ib kind q)) (CN many) ⟨1001,-1⟩
end
end Wx
end Abs
end Go.Proofs.YtfafnkpfamgbbaaGreatDoor
