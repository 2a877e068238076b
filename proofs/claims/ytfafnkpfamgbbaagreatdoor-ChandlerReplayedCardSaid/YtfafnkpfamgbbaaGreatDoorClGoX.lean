/-
  CONTRACTS: the best plan from a stand on, in the program. No conditions but those in the t
  CONTRACTS: the best plan from a stand on, in the program: the recursion. No conditions but
  CONTRACTS: colour in the reference: errors of a shop and batches. No conditions but those 
  CONTRACTS: orders of batches in the reference. No conditions but those in the theorems' he
  CONTRACTS: the best order, in the program. No conditions but those in the theorems' heads.
  CONTRACTS: all orders of batches, and the best one of them, in the reference. No condition
  CONTRACTS: the best order of batches in the reference. No conditions but those in the theo
  WHAT A SAMPLE CAN CONSIST OF: mixtures that explain readings, in two ways; plain Lean. No 
-/
import Derived.Test.YtfafnkpfamgbbaaGreatDoorAbsCutX
import Derived.Test.YtfafnkpfamgbbaaGreatDoorClOpen2X
import Derived.Test.YtfafnkpfamgbbaaGreatDoorAbsFrame
set_option linter.unusedSimpArgs false
set_option linter.unusedVariables false
open Go.Proofs.Tryz renaming prog->TP
namespace Go.Proofs.YtfafnkpfamgbbaaGreatDoor
namespace Abs
namespace Cl
set_option maxRecDepth 4000
def je (s:ClShop) (l:List ClBatch) (c:Int) (j:Nat):Option Int:=match l[j]? with | some b=>ul s c b | none=>none
def l4 (l:List ClBatch) (j:Nat):Int:=match l[j]? with | some b=>b.colour | none=>0
def dE (c:Int) (m:Nat):PV:=.agg [.int .i64 c,.int .i64 m]
def gZ (p:Int×Int):PV:=.agg [.int .i64 p.1,.int .i64 p.2]
attribute [go_sem] dE gZ
def eG (s:ClShop) (l:List ClBatch) (c:Int) (m:Nat):Int×Int:=lg (je s l) (l4 l) c m
def fY (s:ClShop) (l:List ClBatch):PV->PV->Bool
 |.agg [.int .i64 c,.int .i64 m],.agg [.int .i64 x,.int .i64 y]=>decide (0<=m)&&(decide (x=(eG s l c m.toNat).1)&&decide (y=(eG s l c m.toNat).2))
 |_,_=>false
theorem yO {s} {l} {k v} (h:fY s l k v=true):∃ c m,k=dE c m/\v=gZ (eG s l c m):=by
 unfold fY at h;split at h
 .rename_i c m x y;simp only [cK,decide_eq_true_eq] at h;obtain ⟨h0,h1,h2⟩:=h;refine ⟨c,m.toNat,?_,?_⟩
  .rw [dE,Int.toNat_of_nonneg h0]
  .rw [gZ,h1,h2]
 .cases h
theorem Om (s) (l) (c) (m):fY s l (dE c m) (gZ (eG s l c m))=true:=by
 simp [fY,dE,gZ]
theorem EF (c d) (m n):jI (dE c m) (dE d n)=some (c==d&&(m:Int)==(n)):=by
 simp [jI,dE,FZ,et,oo]
theorem Ol (s) (l):om (fY s l):=by
 intro k q v u hk hq;obtain ⟨c,m,rfl,_⟩:=yO hk;obtain ⟨d,n,rfl,_⟩:=yO hq;refine ⟨_,EF c d m n,λh=>?_⟩;simp at h;obtain ⟨rfl,h⟩:=h;have:m=n:=by omega
 rw [this]
theorem CM {s} {l} (c) (m):∀ {es},(∀ p,p∈es->fY s l p.1 p.2=true)->lk (dE c m) es=some none\/lk (dE c m) es=some (some (gZ (eG s l c m)))
 |[],_=>.inl rfl
 |(k,v)::r,h=>by
  obtain ⟨d,n,hk,hv⟩:=yO (h (k,v) (by simp));dsimp only at hk hv;subst hk;subst hv;rw [lk,EF];cases hb:(c==d&&(m:Int)==(n:Int))
  .exact CM c m λp hp=>h p (by simp [hp])
  .simp at hb;obtain ⟨rfl,hb⟩:=hb;have:m=n:=by omega
   subst this;exact .inr rfl
theorem DD (n) (f):bi n (.memo f)=True:=rfl
theorem KN (n) (k) (id):fa n (.ref k id)=(id<n):=rfl
attribute [go_sem] DD KN
theorem Fd {s} (hs:ShopOk s) (l) (c) (j) (n) (h:je s l c j=some n):0<=n/\n<=30000:=by
 unfold je at h
 cases hj:l[j]? with
 |none=>rw [hj] at h;cases h
 |some b=>rw [hj] at h;exact Bw hs h
theorem Q7 {s} (hs:ShopOk s) (l) (c) (m):0<=(eG s l c m).1/\(eG s l c m).1<=li:=by
 unfold eG lg;have:=nC (je s l) (l4 l) (λc j n h=>Fd hs l c j n h) 7 c (e9 m)
 cases h:fh (je s l) (l4 l) 7 c (e9 m) with
 |none=>simp only [iq];unfold li;omega
 |some p=>have:=this p.1 p.2 (by rw [h]);simp only [iq];unfold li;omega
def oc (s:ClShop) (l:List ClBatch) (v0 v1 v2 v4:PV) (mm:AObj):Heap:=[.row 4 [.p v0],.row 1 [.p v1],.row 4 [.p v2],.row 1 [.ptr 6 1 0 0],.row 1 [.p v4],mm,mC s l 5]
def oa (s:ClShop) (l:List ClBatch) (v0 v1 v2 v4 v8 v9:PV) (mm:AObj):Heap :=
 [.row 4 [.p v0],.row 1 [.p v1],.row 4 [.p v2],.row 1 [.ptr 6 1 0 0],.row 1 [.p v4],mm,mC s l 5,.row 1 [.ptr 6 1 0 0],.row 2 [.p v8],.row 2 [.p v9],.row 1 [.func (.func 313) [] [.ptr 7 1 0 0,.ptr 10 1 0 0]]]
attribute [go_sem] oc oa
theorem Gs {s} {l} {v0 v1 v2 v4 v8 v9} {φ}:∀ o,o∈oa s l v0 v1 v2 v4 v8 v9 (.memo φ)->bi (oa s l v0 v1 v2 v4 v8 v9 (.memo φ)).length o/\o.isDead=false:=by
 intro o ho;simp only [oa,bw,eD,or_false] at ho;rcases ho with rfl | rfl | rfl | rfl | rfl | rfl | rfl | rfl | rfl | rfl | rfl<;>simp [mC,bi,below,f',fa,dY,AObj.isDead,oa]
theorem zc {s} {l} {v0 v1 v2 v4} {φ}:∀ o,o∈oc s l v0 v1 v2 v4 (.memo φ)->bi (oc s l v0 v1 v2 v4 (.memo φ)).length o/\o.isDead=false:=by
 intro o ho;simp only [oc,bw,eD,or_false] at ho;rcases ho with rfl | rfl | rfl | rfl | rfl | rfl | rfl<;>simp [mC,bi,below,f',fa,dY,AObj.isDead,oc]
theorem AO (n):ah TP 335 [.int .i64 n] (.bool false):=by
 refine aa (ai (by kernel_rfl) rfl V3) rfl ?_;simp only [go_sem,simprocAttr];simp
theorem Gc (a b):ah TP 326 [.int .i64 a,.int .i64 b] (.int .i64 (if a<b then -1 else if b<a then 1 else 0)):=by
 refine aa (ai (by kernel_rfl) rfl Wb) rfl ?_;simp only [go_sem,simprocAttr]
 (first | refine ae (AO a) rfl ?_ | refine aD (AO a) rfl ?_)
 simp only [go_sem,simprocAttr]
 (first | refine ae (AO b) rfl ?_ | refine aD (AO b) rfl ?_)
 simp only [go_sem,simprocAttr];by_cases h1:a<b
 .have d1:decide (a<b)=true:=by simpa using h1
  simp only [d1,if_pos h1,go_sem,simprocAttr]
 .have d1:decide (a<b)=false:=by simpa using h1
  by_cases h2:b<a
  .have d2:decide (b<a)=true:=by simpa using h2
   simp only [d1,d2,if_neg h1,if_pos h2,go_sem,simprocAttr]
  .have d2:decide (b<a)=false:=by simpa using h2
   simp only [d1,d2,if_neg h1,if_neg h2,go_sem,simprocAttr]
theorem Qs (p):ah TP 316 [gZ p] (.int .i64 p.1):=by
 refine aa (ai (by kernel_rfl) rfl Wm) rfl ?_;simp only [go_sem,simprocAttr]
theorem Sm (p q):ah TP 315 [gZ p,gZ q,.func (.func 316) [] []] (gZ (if q.1<p.1 then q else p)):=by
 refine aa (ai (by kernel_rfl) rfl Wn) rfl ?_;simp only [go_sem,simprocAttr];refine aD (Qs p) rfl ?_;simp only [go_sem,simprocAttr];refine aD (Qs q) rfl ?_;simp only [go_sem,simprocAttr]
 (first | refine ae (Gc p.1 q.1) rfl ?_ | refine aD (Gc p.1 q.1) rfl ?_)
 simp only [go_sem,simprocAttr];by_cases h:q.1<p.1
 .have h1:¬ p.1<q.1:=by omega
  simp only [if_neg h1,if_pos h,go_sem,simprocAttr]
 .by_cases h1:p.1<q.1
  .simp only [if_pos h1,if_neg h,go_sem,simprocAttr]
  .simp only [if_neg h1,if_neg h,go_sem,simprocAttr]
set_option maxRecDepth 100000 in
theorem M4:∀ m:Nat,m<128->∀ i,i<7->IntKind.i64.wrap ((BitVec.ofInt 64 ((m:Int).fdiv (2^i))&&& BitVec.ofInt 64 1).toNat:Int)=(if m.testBit i then 1 else 0):=by decide
set_option maxRecDepth 100000 in
theorem MF:∀ m:Nat,m<128->∀ i,i<7->m.testBit i=true->IntKind.i64.wrap ((BitVec.ofInt 64 (m)&&& ~~~BitVec.ofInt 64 (IntKind.i64.wrap (1*2^i))).toNat:Int)=((m-2^i:Nat):Int):=by decide
theorem Pi {m i:Nat} (hm:m<128) (hi:i<7):s8 .and .i64 ((m:Int).fdiv (2^i)) 1=some (.int .i64 (if m.testBit i then 1 else 0)):=congrArg (λn=>some (PV.int .i64 n)) (M4 m hm i hi)
theorem FY {m i:Nat} (hm:m<128) (hi:i<7) (h:m.testBit i=true):s8 .andNot .i64 (m) (IntKind.i64.wrap (1*2^i))=some (.int .i64 ((m-2^i:Nat):Int)):=congrArg (λn=>some (PV.int .i64 n)) (MF m hm i hi h)
theorem NM {h u} (hd:∀ o,o∈h->o.isDead=false) (hs:cB h u):∃ t,u=h++t:=by
 refine ⟨u.drop h.length,nu λi=>?_⟩;rcases dr i h.length with hi | hi
 .rw [be hi,bE hi];exact hs i _ (bE hi) (hd _ (Jd hi))
 .rw [cn hi,mz]
  congr 1;omega
theorem PD {P} {H} {ops} {rest} {Q} {o} {hs h0 base} {A} {f} {args} {v} (hc:aC P f args base (λr h'=>r=.ret v/\h'=base))
  (hb:∀ o,o∈base->bi base.length o/\o.isDead=false) (ha:∀ a,a∈args->below base.length a) (hs0:cB base h0) (k:@WD ⟨P,H,ops,rest,Q⟩ hs (A.put o.dst v A.h)):@GF ⟨P,H,ops,rest,Q,o⟩ hs h0 A (.call f args):=by
 refine ⟨v,λh' hh=>?_,k⟩;obtain ⟨t,rfl⟩:=NM (λo ho=>(hb o ho).2) (hs0.trans hh);refine (ib (λo ho=>(hb o ho).1) ha (hc.mono λr h' hr=>⟨by rw [hr.2],hr⟩) t).mono λr h'' hr=>?_;obtain ⟨h1,e,_,hr⟩:=hr;exact ⟨hr.1,by rw [e,hr.2]⟩
theorem SP {P} {H} {ops} {rest} {Q} {dst} {base} {A} {f} {args} {v} (t) (hc:aC P f args base (λr h'=>r=.ret v/\h'=base))
  (hb:∀ o,o∈base->bi base.length o/\o.isDead=false) (ha:∀ a,a∈args->below base.length a) (hs0:A.h=base++t) (k:@WO ⟨P,H,ops,rest,Q⟩ (A.put dst v A.h)):@WF ⟨P,H,ops,rest,Q,dst⟩ A f args:=by
 refine cy (h':=A.h) ?_ k;rw [hs0];refine (ib (λo ho=>(hb o ho).1) ha (hc.mono λr h' hr=>⟨by rw [hr.2],hr⟩) t).mono λr h'' hr=>?_;obtain ⟨h1,e,_,hr⟩:=hr;exact ⟨hr.1,by rw [e,hr.2]⟩
def sd (s:ClShop) (l:List ClBatch) (c:Int) (m k:Nat):Int×Int:=((List.range k).filter m.testBit).foldl (kg (je s l) c λj=>eG s l (l4 l j) (m-2^j)) (li,-2)
theorem Q9 {s} {l} {c} {m k} (h:m.testBit k=false):sd s l c m (k+1)=sd s l c m k:=by
 simp [sd,List.range_succ,D4,h]
theorem TJ {s} {l} {c} {m k} (h:m.testBit k=true):sd s l c m (k+1)=kg (je s l) c (λj=>eG s l (l4 l j) (m-2^j)) (sd s l c m k) k:=by
 simp [sd,List.range_succ,D4,h,wS]
theorem Ra {s} {l} {c} {m} (hs:ShopOk s) (hl:l.length<=7) (hm:m<2^l.length) (h0:m≠0):eG s l c m=sd s l c m l.length:=by
 have hm7:m<128:=jw hm (show 2^l.length<=2^7 from wX (by decide) hl);have hb:e9 m=(List.range l.length).filter m.testBit:=by
  unfold e9;have e:(7:Nat)=l.length+(7-l.length):=by omega
  rw [e,List.range_add,D4];have:((List.range (7-l.length)).map (l.length+·)).filter m.testBit=[]:=by
   rw [List.filter_eq_nil_iff];intro a ha;obtain ⟨j,_,rfl⟩:=ec.1 ha;have:m.testBit (l.length+j)=false:=Nat.testBit_lt_two_pow (jw hm (wX (by decide) (by omega)));rw [this];decide
  rw [this,aW]
 rw [eG,G7 (je s l) (l4 l) (λc j n h=>Fd hs l c j n h) c hm7 h0,hb];rfl
def Qx (s:ClShop) (l:List ClBatch) (v0 v1 v2 v4 v8 v9:PV) (mm:AObj) (c:Int) (m:Nat) (p:Int×Int):Heap :=
 [.row 4 [.p v0],.row 1 [.p v1],.row 4 [.p v2],.row 1 [.ptr 6 1 0 0],.row 1 [.p v4],mm,mC s l 5,.row 1 [.ptr 6 1 0 0],.row 2 [.p v8],.row 2 [.p v9],.row 1 [.func (.func 313) [] [.ptr 7 1 0 0,.ptr 10 1 0 0]],
  .row 2 [.p (dE c m)],.row 2 [.p (.agg [.int .i64 0,.int .i64 0])],.row 2 [.p (gZ p)]]
attribute [go_sem] Qx
theorem NV (a) (k:Nat) (hk:k<=64):fk .shr .i64 a (k)=some (.int .i64 (a.fdiv (2^k))):=by
 have h1:¬ (k:Int)<0:=by omega
 have h2:min ((k:Int).toNat) (IntKind.bits .i64)=k:=by rw [iH];exact Jb hk
 simp only [fk,if_neg h1,h2]
theorem yv (a) (k:Nat) (hk:k<=64):fk .shl .i64 a (k)=some (.int .i64 (IntKind.i64.wrap (a*2^k))):=by
 have h1:¬ (k:Int)<0:=by omega
 have h2:min ((k:Int).toNat) (IntKind.bits .i64)=k:=by rw [iH];exact Jb hk
 simp only [fk,if_neg h1,h2]
theorem Gr {s} {l} {v0 v1 v2 v4 v8 v9} {es}:∀ o,o∈oa s l v0 v1 v2 v4 v8 v9 (.mp es)->bi 11 o:=by
 intro o ho;simp only [oa,bw,eD,or_false] at ho;rcases ho with rfl | rfl | rfl | rfl | rfl | rfl | rfl | rfl | rfl | rfl | rfl<;>simp [mC,bi,below,f',fa,dY]
set_option maxHeartbeats 4000000 in
theorem T6 (s) (l) (v0 v1 v2 v4 v8 v9) (hs:ShopOk s) (hb:∀ b,b∈l->BatchOk s b) (hl:l.length<=7):∀ (m),m<2^l.length->∀ (c:Int),0<=c/\c<s.colours.length ->
  aC TP 313 [.p (dE c m),.ptr 7 1 0 0,.ptr 10 1 0 0] (oa s l v0 v1 v2 v4 v8 v9 (.memo (fY s l)))
   (λr h'=>r=.ret (.p (gZ (eG s l c m)))/\h'=oa s l v0 v1 v2 v4 v8 v9 (.memo (fY s l))):=by
 intro m
 induction m using Nat.strongRecOn with
 |ind m ih =>
 intro hm c hc;have hm7:m<128:=jw hm (show 2^l.length<=2^7 from wX (by decide) hl);refine Ke (id:=5) (φ:=fY s l) rfl λhg es hf=>?_;show aC _ _ _ (oa s l v0 v1 v2 v4 v8 v9 (.mp es)) _;refine bO (ai (by kernel_rfl) rfl Wp) rfl ?_;simp only [go_sem,simprocAttr];cases h0:((m:Int)==0)
 rotate_left
 .have h0':m=0:=by simpa using h0
  subst h0';simp only [go_sem,simprocAttr];refine ⟨_,_,rfl,rfl,?_,trivial,.inr rfl,?_,?_⟩
  .exact λo ho=>Gr (es:=es) (s:=s) (l:=l) (v0:=v0) (v1:=v1) (v2:=v2) (v4:=v4) (v8:=v8) (v9:=v9) o ho
  .rw [eG,xK]
  .rw [eG,xK]
 have h0':m≠0:=by intro h;subst h;simp at h0
 simp only [go_sem,simprocAttr];rcases CM (s:=s) (l:=l) c m hf with hk | hk
 rotate_left
 .simp only [dE,gZ] at hk;simp only [zi,bj,hk,go_sem,simprocAttr];refine ⟨_,_,rfl,rfl,?_,trivial,.inr rfl⟩;exact λo ho=>Gr (es:=es) (s:=s) (l:=l) (v0:=v0) (v1:=v1) (v2:=v2) (v4:=v4) (v8:=v8) (v9:=v9) o ho
 simp only [dE] at hk;simp only [zi,bj,hk,go_sem,simprocAttr];refine fb (Ld (id:=5) hg hf rfl) ?_;simp only [go_sem,simprocAttr];refine br [1,2,3,4,5,30,31] l (by omega) (τ:=Unit) (λdone rest _=>True) (λdone _=>[(32,.p (.int .i64 done.length))]) (λdone _=>Qx s l v0 v1 v2 v4 v8 v9 (.memo (fY s l)) c m (sd s l c m done.length)) () trivial ?_ ?_ ?_
 .simp only [go_sem,simprocAttr];rfl
 .intro _ _;have hp:=Ra (c:=c) hs hl hm h0';rw [<-hp];have hka:=Om s l c m;simp only [dE,gZ] at hka;simp only [zi,bj,hka,go_sem,simprocAttr];refine ⟨_,_,rfl,rfl,?_,trivial,.inl rfl⟩;exact λo ho=>(Gs (φ:=fY s l) (s:=s) (l:=l) (v0:=v0) (v1:=v1) (v2:=v2) (v4:=v4) (v8:=v8) (v9:=v9) o ho).1
 .intro done b r _ e1 _ hx hlt hnx;have hbo:=hb b (by rw [e1];simp);have hdl:done.length<l.length:=by rw [e1];simp
  have hbit:=Pi hm7 (show done.length<7 by omega);have hlb:l[done.length]?=some b:=by rw [e1];simp
  have hsh:=NV (m:Int) done.length (by omega);simp only [hlt,hx,hsh,↓hbit,go_sem,simprocAttr];cases hb0:m.testBit done.length
  .have hpo:=Q9 (s:=s) (l:=l) (c:=c) hb0;simp only [go_sem,simprocAttr];refine aF e1 () trivial ?_;simp only [hnx,aI,bh,hpo,go_sem,simprocAttr]
  have hpo:=TJ (s:=s) (l:=l) (c:=c) hb0;have hclr:=FY hm7 (show done.length<7 by omega) hb0;have hshl:=yv 1 done.length (by omega);simp only [go_sem,simprocAttr];refine bf (Sb s l c b hs hbo hc) ?_ (.int _ _) ?_
  .simp only [go_sem,simprocAttr]
  simp only [go_sem,simprocAttr];have hnd:je s l c done.length=ul s c b:=by rw [je,hlb]
  by_cases hn:iL s c b<0
  .have hd:decide (iL s c b<0)=true:=by simpa using hn
   have hp1:sd s l c m (done.length+1)=sd s l c m done.length:=by
    rw [hpo,kg,hnd,ul,if_pos hn]
   simp only [hd,go_sem,simprocAttr];refine aF e1 () trivial ?_;simp only [hnx,aI,bh,hp1,go_sem,simprocAttr]
   trace_state
  have hd:decide (iL s c b<0)=false:=by simpa using hn
  have hcol:l4 l done.length=b.colour:=by rw [l4,hlb]
  have hno:ul s c b=some (iL s c b*s.rinse):=by rw [ul,if_neg hn]
  have hnB:=Bw hs hno;have hpB:=Q7 hs l b.colour (m-2^done.length);have hle:=(qI m hm7 done.length (by omega) hb0).2;have hpos:0<2^done.length:=Nat.pow_pos (by decide);have w1:IntKind.i64.wrap (iL s c b*s.rinse)=iL s c b*s.rinse:=ax (by omega) (by omega);have w2:IntKind.i64.wrap (iL s c b*s.rinse+(eG s l b.colour (m-2^done.length)).1)=iL s c b*s.rinse+(eG s l b.colour (m-2^done.length)).1:=by
   unfold li at hpB;exact ax (by omega) (by omega)
  have hp1:sd s l c m (done.length+1)=if iL s c b*s.rinse+(eG s l b.colour (m-2^done.length)).1<(sd s l c m done.length).1 then (iL s c b*s.rinse+(eG s l b.colour (m-2^done.length)).1,(done.length:Int)) else sd s l c m done.length:=by
   rw [hpo,kg,hnd,hno];simp only [hcol]
  simp only [zi,bj,hd,↓hclr,hshl,go_sem,simprocAttr];refine PD (base:=oa s l v0 v1 v2 v4 v8 v9 (.memo (fY s l))) (ih (m-2^done.length) (by omega) (by omega) b.colour hbo.colour) Gs ?_ (cB.app _ [_,_,_,_]) ?_
  .simp only [go_sem,simprocAttr]
  simp only [zi,bj,w1,w2,go_sem,simprocAttr];refine aD (Sm (sd s l c m done.length) (iL s c b*s.rinse+(eG s l b.colour (m-2^done.length)).1,(done.length:Int))) rfl ?_;simp only [zi,go_sem,simprocAttr];refine aF e1 () trivial ?_;simp only [hnx,aI,bh,hp1,go_sem,simprocAttr]
def qu (i:Nat):PV:=.int .i64 i
theorem Dk {need} {col} {k} {c} {l o} {n} (h:l.length<=k) (hb:fh need col k c l=some (o,n)):o.Perm l:=by
 rw [<-Dj need col k c l h] at hb;exact xN k l o (yF need col c _ o n hb).1
theorem Ea (s) (l) (v0 v1 v2 v4) (hs:ShopOk s) (hb:∀ b,b∈l->BatchOk s b) (hl:l.length<=7) (m) (hm:m<2^l.length) (c:Int) (hc:0<=c/\c<s.colours.length) :
  aC TP 290 [.ptr 6 1 0 0,.p (dE c m)] (oc s l v0 v1 v2 v4 (.memo (fY s l))) (λr h'=>r=.ret (.p (gZ (eG s l c m)))/\h'=oc s l v0 v1 v2 v4 (.memo (fY s l))):=by
 refine bO (ai (by kernel_rfl) rfl WK) rfl ?_;simp only [go_sem,simprocAttr];refine cy (T6 s l v0 v1 v2 v4 (dE c m) (.agg [.int .i64 0,.int .i64 0]) hs hb hl m hm c hc) ?_;simp only [go_sem,simprocAttr];refine ⟨_,_,rfl,rfl,?_,trivial,rfl⟩;exact λo ho=>(zc (φ:=fY s l) (s:=s) (l:=l) (v0:=v0) (v1:=v1) (v2:=v2) (v4:=v4) o ho).1
theorem T7 (s) (l) (v0 v1 v2 v4 v7) (hs:ShopOk s) (hb:∀ b,b∈l->BatchOk s b) (hl:l.length<=7) (m) (hm:m<2^l.length) (c:Int) (hc:0<=c/\c<s.colours.length) (o) (n)
  (ho:fh (je s l) (l4 l) 7 c (e9 m)=some (o,n)) :
  aC TP 291 [.ptr 6 1 0 0,.p (dE c m)] (oc s l v0 v1 v2 v4 (.memo (fY s l))++[.row 2 [.p v7]])
   (λr h'=>r=.ret (.slice 9 o.length 0 o.length)/\∃ x,h'=oc s l v0 v1 v2 v4 (.memo (fY s l))++[.row 2 [.p v7],x,.row 1 (o.map λi=>.p (qu i))]):=by
 refine aB (ai (by kernel_rfl) rfl WJ) rfl ?_;simp only [go_sem,simprocAttr];refine cg 4 1 (by simp only [go_sem,simprocAttr]) ?_;simp only [go_sem,simprocAttr]
 refine gu [0,3] (σ:=(Int×Nat)×(List Nat×List Nat)) (λq=>q.1.2<2^l.length/\(0<=q.1.1/\q.1.1<s.colours.length)/\o=q.2.1++q.2.2/\∃ n,fh (je s l) (l4 l) 7 q.1.1 (e9 q.1.2)=some (q.2.2,n)) (λq=>q.1.2)
  (λq=>[(4,.slice 9 q.2.1.length 0 q.2.1.length)]) (λq=>[.row 4 [.p v0],.row 1 [.p v1],.row 4 [.p v2],.row 1 [.ptr 6 1 0 0],.row 1 [.p v4],.memo (fY s l),mC s l 5,.row 2 [.p v7],.row 2 [.p (dE q.1.1 q.1.2)],.row 1 (q.2.1.map λi=>.p (qu i))]) ((c,m),([],o)) ⟨hm,hc,rfl,n,ho⟩ ?_ ?_
 .simp only [go_sem,simprocAttr]
 rintro ⟨⟨d,k⟩,o1,o2⟩ ⟨hk,hd,hoo,n',hn'⟩
 dsimp only at hk hd hoo hn';have hk7:k<128:=jw hk (show 2^l.length<=2^7 from wX (by decide) hl);dsimp only;by_cases h0:k=0
 .subst h0;rw [Di] at hn';have:o2=[]:=by simp only [fh,jx,zq] at hn';exact hn'.1.symm
  subst this;rw [aW] at hoo;subst hoo;simp only [go_sem,simprocAttr]
 have hne:((k:Int) != 0)=true:=by simp;omega
 obtain ⟨j,o',n2,hj7,hbit,rfl,hp2,hb2⟩:=JQ (je s l) (l4 l) hk7 h0 hn';have hjl:j<l.length:=by
  rcases dr j l.length with h | h
  .exact h
  .have:=Nat.testBit_lt_two_pow (jw hk (wX (by decide) h));rw [this] at hbit;cases hbit
 obtain ⟨b,hlb⟩:∃ b,l[j]?=some b:=⟨_,bE hjl⟩
 have hbo:=hb b (aL hlb);have hcol:l4 l j=b.colour:=by rw [l4,hlb]
 have hclr:=FY hk7 hj7 hbit;have hshl:=yv 1 j (by omega);have hle:=(qI k hk7 j hj7 hbit).2;have hpos:0<2^j:=Nat.pow_pos (by decide);have jl:(j:Int)<(l.length:Int):=by omega
 have hol:o1.length+1<=aw:=by
  have h1:o.length<=7:=by rw [(Dk (uM m) ho).length_eq];exact uM m
  have h2:=congrArg List.length hoo;simp at h2;simp [aw];omega
 simp only [hne,go_sem,simprocAttr];refine SP (base:=oc s l v0 v1 v2 v4 (.memo (fY s l))) [_,_,_] (Ea s l v0 v1 v2 v4 hs hb hl k hk d hd) zc ?_ rfl ?_
 .simp only [go_sem,simprocAttr]
 have hp2':(eG s l d k).2=(j:Int):=hp2;simp only [hp2',hol,jl,hlb,hshl,↓hclr,go_sem,simprocAttr];refine bW ((b.colour,k-2^j),(o1++[j],o')) ⟨by dsimp only;omega,hbo.colour,by rw [hoo];simp,n2,by rw [<-hcol];exact hb2⟩ (by dsimp only;omega) ?_;simp only [aI,bh,bA,qu,go_sem,simprocAttr]
theorem Hk {P} {f} {args} {h} {R} {id} {es} {φ} (hg:om φ) (hf:∀ p,p∈es->φ p.1 p.2=true) (hid:h[id]?=some (.mp es))
  (k:aC P f args (h.set id (.memo φ)) R):aC P f args h R:=by
 intro M0 m w cargs hS hargs;obtain ⟨hk,hev⟩:=un (S:=⟨m,h,w⟩) hS hg hf hid;have:=k M0 m w cargs hk (hargs.imp λv a _ hr=>hev.keep hr);refine ⟨this.1,this.2.mono λe w' hh=>?_⟩;obtain ⟨r,h'',m',hR,hev',hk',hend⟩:=hh;exact ⟨r,h'',m',hR,hev.trans (by simpa using hev'),hk',hend⟩
def AT (s:ClShop) (aX:Int) (l:List ClBatch):Option (List Nat×Int):=fh (je s l) (l4 l) 7 aX (List.range l.length)
def su (s:ClShop) (aX:Int) (l:List ClBatch):PV :=
 if dR s aX l=0 then (match AT s aX l with | some (o,n)=>.tuple [.slice 1 (o.map qu) false,.int .i64 n,.int .i64 0] | none=>.tuple [.nilslice,.int .i64 0,.int .i64 9])
 else .tuple [.nilslice,.int .i64 0,.int .i64 (dR s aX l)]
theorem Gi:∀ n,n<=7->e9 (2^n-1)=List.range n:=by
 intro n hn
 match n,hn with
 |0,_=>decide
 |1,_=>decide
 |2,_=>decide
 |3,_=>decide
 |4,_=>decide
 |5,_=>decide
 |6,_=>decide
 |7,_=>decide
theorem NL:∀ n,n<=7->IntKind.i64.wrap (IntKind.i64.wrap (1*2^n)-1)=((2^n-1:Nat):Int):=by
 intro n hn
 match n,hn with
 |0,_=>decide
 |1,_=>decide
 |2,_=>decide
 |3,_=>decide
 |4,_=>decide
 |5,_=>decide
 |6,_=>decide
 |7,_=>decide
def QE:Hints:=eg [(15,.mut)]
theorem TO:aj QE Tryz.f256=true:=by kernel_rfl
theorem Qi (s) (aX) (l) (hl:l.length<1000000000):g9 TP 256 [s.pv,.int .i64 aX,.slice 2 (l.map ClBatch.pv) false] (su s aX l):=by
 refine fR (ai (by kernel_rfl) rfl TO) rfl ?_;simp only [QE,go_sem,simprocAttr];refine cq (Kg s aX l _ hl) (λv h hr=>?_) (λv h hr=>?_);rotate_left
 .rcases hr with ⟨_,_,_,_,hr,_⟩ | ⟨_,hr,_⟩<;>cases hr
 rcases hr with ⟨h0,hs,hb,hl7,hr,rfl⟩ | ⟨h0,hr,t,rfl⟩
 rotate_left
 .cases hr;have hne:(dR s aX l != 0)=true:=by simpa using h0
  simp only [hne,su,if_neg h0,go_sem,simprocAttr]
 cases hr;have hst:0<=aX/\aX<s.colours.length:=by
  unfold dR at h0;split at h0
  .split at h0
   .rename_i h1 h2;simp [ar] at h2;omega
   .cases h0
  .contradiction
 have hshl:=yv 1 l.length (by omega);have hsub:=NL l.length hl7;have hlt:2^l.length-1<2^l.length:=by have:0<2^l.length:=Nat.pow_pos (by decide);omega
 have hpl:eG s l aX (2^l.length-1)=iq (AT s aX l):=by rw [eG,lg,Gi _ hl7];rfl
 have hP:=Ea s l s.pv (.int .i64 aX) s.pv (.int .i64 0) hs hb hl7 (2^l.length-1) hlt aX hst;have hP1:=ib (λo ho=>(zc (φ:=fY s l) o ho).1) (args:=[.ptr 6 1 0 0,.p (dE aX (2^l.length-1))]) (by simp only [go_sem,simprocAttr]) (hP.mono λr h' hr=>⟨by rw [hr.2],hr⟩) [.row 2 [.p (dE aX (2^l.length-1))]];simp only [hshl,hsub,go_sem,simprocAttr];refine cy (v:=.p (gZ (eG s l aX (2^l.length-1)))) (h':=oc s l s.pv (.int .i64 aX) s.pv (.int .i64 0) (.memo (fY s l))++[.row 2 [.p (dE aX (2^l.length-1))]]) (Hk (id:=5) (φ:=fY s l) (es:=[]) (Ol s l) (by simp) rfl (hP1.mono λr h' hr=>?_)) ?_
 .obtain ⟨h1,e,_,hr⟩:=hr;exact ⟨hr.1,by rw [e,hr.2]⟩
 cases hbo:AT s aX l with
 |none =>
  have hp1:(eG s l aX (2^l.length-1)).1=1099511627776:=by rw [hpl,hbo];rfl
  simp only [hp1,su,if_pos h0,hbo,go_sem,simprocAttr]
 |some q =>
  obtain ⟨o,n⟩:=q;have hnB:=nC (je s l) (l4 l) (λc j n h=>Fd hs l c j n h) 7 aX (List.range l.length) o n hbo;have hp1:(eG s l aX (2^l.length-1)).1=n:=by rw [hpl,hbo];rfl
  have hd:decide (1099511627776<=n)=false:=by simp;omega
  have hO:=T7 s l s.pv (.int .i64 aX) s.pv (.int .i64 0) (dE aX (2^l.length-1)) hs hb hl7 (2^l.length-1) hlt aX hst o n (by rw [Gi _ hl7];exact hbo);simp only [hp1,hd,go_sem,simprocAttr];refine cq hO (λv h hr=>?_) (λv h hr=>?_);rotate_left
  .cases hr.1
  obtain ⟨hr,x,rfl⟩:=hr;cases hr;simp only [su,if_pos h0,hbo,go_sem,simprocAttr];rw [lu 6 _ qu (λ_=>rfl)];simp;exact ga (by simp)
theorem uC {α β:Type} {f:α->List β} {c}:∀ (l:List α),(∀ x,x∈l->(f x).length<=c)->(l.flatMap f).length<=l.length*c
 |[],_=>by simp
 |x::l,h=>by
  have:=uC l λy hy=>h y (by simp [hy]);have:=h x (by simp);rw [kR,aI,ct,Nat.succ_mul];omega
theorem Ry {F} (hF:∀ v,F (.p v)=some v) (xs ys):aU F (xs.map AV.p++ys.map AV.p)=some (xs++ys):=by
 have:=dq hF id (xs++ys);simpa using this
end Cl
namespace Wx
def y4 (x y:Span) (e r n:Int):Bool:=r==-1||(decide (n*x.lo+(1000-n)*y.lo<=1000*(r+e))&&decide (1000*(r-e)<=n*x.hi+(1000-n)*y.hi))
def mY:List WxProp->List Span->List Span->List Int->Int->Bool
 |p::ps,x::xs,y::ys,r::rs,n=>y4 x y p.error r n&&mY ps xs ys rs n
 |_,_,_,_,_=>true
def down (a b:Int):Int:=a / b
def cS (s:Span) (q:Int×Int):Span :=
 if 0<q.1 then ⟨s.lo,if (-q.2) / q.1<s.hi then (-q.2) / q.1 else s.hi⟩
 else if q.1<0 then ⟨if s.lo < -((-q.2) / (-q.1)) then -((-q.2) / (-q.1)) else s.lo,s.hi⟩
 else if 0<q.2 then ⟨s.lo,s.lo-1⟩ else s
theorem Cj (s) (q) (n):((cS s q).lo<=n/\n<=(cS s q).hi)↔(s.lo<=n/\n<=s.hi)/\n*q.1+q.2<=0:=by
 unfold cS;split
 .rename_i h;have k:=w8 (a:=n) (b:=-q.2) h;dsimp only;split<;>omega
 .split
  .rename_i h1 h2;have k:=w8 (a:=-n) (b:=-q.2) (show 0 < -q.1 by omega);rw [Ep,Int.mul_neg,Int.neg_neg] at k;dsimp only;split<;>omega
  .rename_i h1 h2;have h0:q.1=0:=by omega
   rw [h0,tM];split
   .dsimp only;omega
   .omega
def zcV (x y:Span) (e r:Int):List (Int×Int):=[(x.lo-y.lo,1000*(y.lo-r-e)),(y.hi-x.hi,1000*(r-e-y.hi))]
def q9 (s:Span) (x y:Span) (e r:Int):Span:=if r=-1 then s else cS (cS s (x.lo-y.lo,1000*(y.lo-r-e))) (y.hi-x.hi,1000*(r-e-y.hi))
theorem Jy (s x y) (e r n):((q9 s x y e r).lo<=n/\n<=(q9 s x y e r).hi)↔(s.lo<=n/\n<=s.hi)/\y4 x y e r n=true:=by
 unfold q9 y4;split
 .rename_i h;simp [h]
 .rename_i h;rw [Cj,Cj];simp only [Jn,beq_iff_eq,h,false_or,cK,decide_eq_true_eq];have e1:n*(x.lo-y.lo)=n*x.lo-n*y.lo:=Int.mul_sub _ _ _;have e2:n*(y.hi-x.hi)=n*y.hi-n*x.hi:=Int.mul_sub _ _ _;have e3:(1000-n)*y.lo=1000*y.lo-n*y.lo:=Int.sub_mul _ _ _;have e4:(1000-n)*y.hi=1000*y.hi-n*y.hi:=Int.sub_mul _ _ _;rw [e1,e2,e3,e4];omega
def gP:Span->List WxProp->List Span->List Span->List Int->Span
 |s,p::ps,x::xs,y::ys,r::rs=>gP (q9 s x y p.error r) ps xs ys rs
 |s,_,_,_,_=>s
theorem sD (n):∀ (ps) (xs ys) (rs) (s),((gP s ps xs ys rs).lo<=n/\n<=(gP s ps xs ys rs).hi)↔(s.lo<=n/\n<=s.hi)/\mY ps xs ys rs n=true
 |[],_,_,_,s=>by simp [gP,mY]
 |p::ps,[],_,_,s=>by simp [gP,mY]
 |p::ps,x::xs,[],_,s=>by simp [gP,mY]
 |p::ps,x::xs,y::ys,[],s=>by simp [gP,mY]
 |p::ps,x::xs,y::ys,r::rs,s=>by
  rw [gP,sD n ps xs ys rs,Jy,mY,cK,and_assoc]
def j0 (S:Int->Prop) (p:Span):Prop:=(∀ v,S v->p.lo<=v/\v<=p.hi)/\((∀ v,¬ S v)/\p=⟨1001,-1⟩\/S p.lo/\S p.hi)
def jk (p l:Span):Span:=⟨if l.lo<p.lo then l.lo else p.lo,if p.hi<l.hi then l.hi else p.hi⟩
theorem j0.join {S I:Int->Prop} {p l} (hp:j0 S p) (hI:∀ v,I v->l.lo<=v/\v<=l.hi) (h1:I l.lo) (h2:I l.hi) (h0:0<=l.lo) (h3:l.hi<=1000):j0 (λv=>S v\/I v) (jk p l):=by
 obtain ⟨a,b⟩:=hp;have hl:=hI _ h1;unfold jk;refine ⟨λv hv=>?_,.inr ?_⟩
 .dsimp only;rcases hv with hv | hv
  .have:=a v hv;constructor<;>split<;>omega
  .have:=hI v hv;constructor<;>split<;>omega
 .rcases b with ⟨e,rfl⟩ | ⟨c,d⟩
  .dsimp only;rw [if_pos (by omega),if_pos (by omega)];exact ⟨.inr h1,.inr h2⟩
  .dsimp only;constructor<;>split
   .exact .inr h1
   .exact .inl c
   .exact .inr h2
   .exact .inl d
theorem j0.same {S T} {p} (hp:j0 S p) (h:∀ v,T v↔S v):j0 T p:=by
 have:T=S:=funext λv=>propext (h v);rw [this];exact hp
def joinL {α:Type} (f:α->Option Span):List α->Span->Span
 |[],p=>p
 |x::l,p=>joinL f l (match f x with | some s=>jk p s | none=>p)
theorem j0.joinL {α} {f} {I:α->Int->Prop} (hf:∀ x,match f x with
   |some s=>(∀ v,I x v->s.lo<=v/\v<=s.hi)/\I x s.lo/\I x s.hi/\0<=s.lo/\s.hi<=1000
   |none=>∀ v,¬ I x v) :
  ∀ (l) {S} {p},j0 S p->j0 (λv=>S v\/∃ x,x∈l/\I x v) (Wx.joinL f l p)
 |[],S,p,h=>h.same λv=>by simp
 |x::l,S,p,h=>by
  have hx:=hf x;rw [Wx.joinL]
  cases hs:f x with
  |none =>
   rw [hs] at hx;refine (j0.joinL hf l h).same λv=>?_;constructor
   .rintro (h | ⟨y,hy,h⟩)
    .exact .inl h
    .rcases bw.1 hy with rfl | hy
     .exact absurd h (hx v)
     .exact .inr ⟨y,hy,h⟩
   .rintro (h | ⟨y,hy,h⟩)
    .exact .inl h
    .exact .inr ⟨y,by simp [hy],h⟩
  |some s =>
   rw [hs] at hx;obtain ⟨h1,h2,h3,h4,h5⟩:=hx;refine (j0.joinL hf l (h.join h1 h2 h3 h4 h5)).same λv=>?_;constructor
   .rintro (h | ⟨y,hy,h⟩)
    .exact .inl (.inl h)
    .rcases bw.1 hy with rfl | hy
     .exact .inl (.inr h)
     .exact .inr ⟨y,hy,h⟩
   .rintro ((h | h) | ⟨y,hy,h⟩)
    .exact .inl h
    .exact .inr ⟨x,by simp,h⟩
    .exact .inr ⟨y,by simp [hy],h⟩
section
variable (ex:Nat->Nat->Int->Bool) (kind:Nat)
def iZ (q:Nat×Nat) (l:Span):Span:=if kind=q.1 then l else if kind=q.2 then ⟨1000-l.hi,1000-l.lo⟩ else ⟨0,0⟩
def E5 (many:Nat):List (Nat×Nat):=(List.range many).flatMap λa=>(List.range (a+1)).map λb=>(a,b)
def vQ (s:Span):Option Span:=if s.lo<=s.hi then some s else none
def VT (sp:Nat×Nat->Span) (many:Nat):Span:=joinL (λq=>(vQ (sp q)).map (iZ kind q)) (E5 many) ⟨1001,-1⟩
end
end Wx
end Abs
end Go.Proofs.YtfafnkpfamgbbaaGreatDoor
