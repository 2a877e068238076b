/- CONTRACTS of the program's functions, and laws on what they return. No conditions but those in the theorems' heads. -/
import Derived.Test.YtoapoaoelpcniaaGreatDoorAbsFrame
set_option linter.all false
open Go.Proofs.Tryz renaming prog->TP
namespace Go.Proofs.YtoapoaoelpcniaaGreatDoor
namespace Abs
namespace Cl
set_option maxRecDepth 4000
def jw (s:ClShop) (l:List ClBatch) (c:Int) (j:Nat):Option Int:=match l[j]? with|some b=>vw s c b|none=>none
def mI (l:List ClBatch) (j:Nat):Int:=match l[j]? with|some b=>b.colour|none=>0
def dR (c:Int) (m:Nat):PV:=.agg [.int .i64 c,.int .i64 m]
def ii (p:Int×Int):PV:=.agg [.int .i64 p.1,.int .i64 p.2]
attribute [go_sem] dR ii
def eT (s:ClShop) (l:List ClBatch) (c:Int) (m:Nat):Int×Int:=lP (jw s l) (mI l) c m
def gq (s:ClShop) (l:List ClBatch):PV->PV->Bool
 |.agg [.int .i64 c,.int .i64 m],.agg [.int .i64 x,.int .i64 y]=>decide (0<=m)&&(decide (x=(eT s l c m.toNat).1)&&decide (y=(eT s l c m.toNat).2))
 |_,_=>false
theorem zW{s}{l}{k v}(h:gq s l k v=true):∃c m,k=dR c m/\v=ii (eT s l c m):=by
 unfold gq at h;split at h
 .rename_i c m x y;simp only[cG,decide_eq_true_eq]at h;obtain⟨h0,h1,h2⟩:=h;refine⟨c,m.toNat,?_,?_⟩
  .rw[dR,Int.toNat_of_nonneg h0]
  .rw[ii,h1,h2]
 .cases h
theorem P'(s)(l)(c)(m):gq s l (dR c m) (ii (eT s l c m))=true:=by
 simp[gq,dR,ii]
theorem zzF(c d)(m n):j0 (dR c m) (dR d n)=some (c==d&&(m:Int)==(n)):=by
 simp[j0,dR,Ha,eK,ph]
theorem P9(s)(l):pe (gq s l):=by
 intro k q v u hk hq;obtain⟨c,m,rfl,_⟩:=zW hk;obtain⟨d,n,rfl,_⟩:=zW hq;refine⟨_,zzF c d m n,λh=>?_⟩;simp at h;obtain⟨rfl,h⟩:=h;have:m=n:=by omega
 rw[this]
theorem DL{s}{l}(c)(m):∀{es},(∀p,p∈es->gq s l p.1 p.2=true)->lS (dR c m) es=some none\/lS (dR c m) es=some (some (ii (eT s l c m)))
 |[],_=>.inl rfl
 |(k,v)::r,h=>by
  obtain⟨d,n,hk,hv⟩:=zW (h (k,v) (by simp));dsimp only at hk hv;subst hk;subst hv;rw[lS,zzF];cases hb:(c==d&&(m:Int)==(n:Int))
  .exact DL c m λp hp=>h p (by simp[hp])
  .simp at hb;obtain⟨rfl,hb⟩:=hb;have:m=n:=by omega
   subst this;exact .inr rfl
theorem EA(n)(f):bm n (.memo f)=True:=rfl
theorem Mb(n)(k)(id):fk n (.ref k id)=(id<n):=rfl
attribute [go_sem] EA Mb
theorem Gr{s}(hs:ShopOk s)(l)(c)(j)(n)(h:jw s l c j=some n):0<=n/\n<=30000:=by
 unfold jw at h
 cases hj:l[j]? with
 |none=>rw[hj]at h;cases h
 |some b=>rw[hj]at h;exact Cv hs h
theorem SD{s}(hs:ShopOk s)(l)(c)(m):0<=(eT s l c m).1/\(eT s l c m).1<=lR:=by
 unfold eT lP;have:=od (jw s l) (mI l) (λc j n h=>Gr hs l c j n h) 7 c (fj m)
 cases h:fw (jw s l) (mI l) 7 c (fj m) with
 |none=>simp only[iN];unfold lR;omega
 |some p=>have:=this p.1 p.2 (by rw[h]);simp only[iN];unfold lR;omega
def oZ (s:ClShop) (l:List ClBatch) (v0 v1 v2 v4:PV) (mm:AObj):Heap:=[.row 4 [.p v0],.row 1 [.p v1],.row 4 [.p v2],.row 1 [.ptr 6 1 0 0],.row 1 [.p v4],mm,nj s l 5]
def oY (s:ClShop) (l:List ClBatch) (v0 v1 v2 v4 v8 v9:PV) (mm:AObj):Heap:=
 [.row 4 [.p v0],.row 1 [.p v1],.row 4 [.p v2],.row 1 [.ptr 6 1 0 0],.row 1 [.p v4],mm,nj s l 5,.row 1 [.ptr 6 1 0 0],.row 2 [.p v8],.row 2 [.p v9],.row 1 [.func (.func 79) [] [.ptr 7 1 0 0,.ptr 10 1 0 0]]]
attribute [go_sem] oZ oY
theorem HG{s}{l}{v0 v1 v2 v4 v8 v9}{φ}:∀o,o∈oY s l v0 v1 v2 v4 v8 v9 (.memo φ)->bm (oY s l v0 v1 v2 v4 v8 v9 (.memo φ)).length o/\o.isDead=false:=by
 intro o ho;simp only[oY,ci,iL,or_false]at ho;rcases ho with rfl|rfl|rfl|rfl|rfl|rfl|rfl|rfl|rfl|rfl|rfl<;>simp[nj,bm,below,gy,fk,ei,AObj.isDead,oY]
theorem Aj{s}{l}{v0 v1 v2 v4}{φ}:∀o,o∈oZ s l v0 v1 v2 v4 (.memo φ)->bm (oZ s l v0 v1 v2 v4 (.memo φ)).length o/\o.isDead=false:=by
 intro o ho;simp only[oZ,ci,iL,or_false]at ho;rcases ho with rfl|rfl|rfl|rfl|rfl|rfl|rfl<;>simp[nj,bm,below,gy,fk,ei,AObj.isDead,oZ]
theorem BL(n):af TP 170 [.int .i64 n] (.bool false):=by
 refine aa (ah Tryz.func170 rfl (by kernel_rfl)) rfl ?_;simp only[go_sem,simprocAttr];simp
theorem Hp(a b):af TP 120 [.int .i64 a,.int .i64 b] (.int .i64 (if a<b then -1 else if b<a then 1 else 0)):=by
 refine aa (ah Tryz.func120 rfl (by kernel_rfl)) rfl ?_;simp only[go_sem,simprocAttr]
 (first|refine ae (BL a) rfl ?_|refine ax (BL a) rfl ?_)
 simp only[go_sem,simprocAttr]
 (first|refine ae (BL b) rfl ?_|refine ax (BL b) rfl ?_)
 simp only[go_sem,simprocAttr];by_cases h1:a<b
 .have d1:decide (a<b)=true:=by simpa using h1
  simp only[d1,if_pos h1,go_sem,simprocAttr]
 .have d1:decide (a<b)=false:=by simpa using h1
  by_cases h2:b<a
  .have d2:decide (b<a)=true:=by simpa using h2
   simp only[d1,d2,if_neg h1,if_pos h2,go_sem,simprocAttr]
  .have d2:decide (b<a)=false:=by simpa using h2
   simp only[d1,d2,if_neg h1,if_neg h2,go_sem,simprocAttr]
theorem RY(p):af TP 82 [ii p] (.int .i64 p.1):=by
 refine aa (ah Tryz.func82 rfl (by kernel_rfl)) rfl ?_;simp only[go_sem,simprocAttr]
theorem TV(p q):af TP 81 [ii p,ii q,.func (.func 82) [] []] (ii (if q.1<p.1 then q else p)):=by
 refine aa (ah Tryz.func81 rfl (by kernel_rfl)) rfl ?_;simp only[go_sem,simprocAttr];refine ax (RY p) rfl ?_;simp only[go_sem,simprocAttr];refine ax (RY q) rfl ?_;simp only[go_sem,simprocAttr]
 (first|refine ae (Hp p.1 q.1) rfl ?_|refine ax (Hp p.1 q.1) rfl ?_)
 simp only[go_sem,simprocAttr];by_cases h:q.1<p.1
 .have h1:¬p.1<q.1:=by omega
  simp only[if_neg h1,if_pos h,go_sem,simprocAttr]
 .by_cases h1:p.1<q.1
  .simp only[if_pos h1,if_neg h,go_sem,simprocAttr]
  .simp only[if_neg h1,if_neg h,go_sem,simprocAttr]
set_option maxRecDepth 100000 in
theorem OF:∀m:Nat,m<128->∀i,i<7->IntKind.i64.wrap ((BitVec.ofInt 64 ((m:Int).fdiv (2^i))&&& BitVec.ofInt 64 1).toNat:Int)=(if m.testBit i then 1 else 0):=by decide
set_option maxRecDepth 100000 in
theorem Oc:∀m:Nat,m<128->∀i,i<7->m.testBit i=true->IntKind.i64.wrap ((BitVec.ofInt 64 (m)&&& ~~~BitVec.ofInt 64 (IntKind.i64.wrap (1*2^i))).toNat:Int)=((m-2^i:Nat):Int):=by decide
theorem Rb{m i:Nat}(hm:m<128)(hi:i<7):uq .and .i64 ((m:Int).fdiv (2^i)) 1=some (.int .i64 (if m.testBit i then 1 else 0)):=congrArg (λn=>some (PV.int .i64 n)) (OF m hm i hi)
theorem G'{m i:Nat}(hm:m<128)(hi:i<7)(h:m.testBit i=true):uq .andNot .i64 (m) (IntKind.i64.wrap (1*2^i))=some (.int .i64 ((m-2^i:Nat):Int)):=congrArg (λn=>some (PV.int .i64 n)) (Oc m hm i hi h)
theorem Pu{h u}(hd:∀o,o∈h->o.isDead=false)(hs:cL h u):∃t,u=h++t:=by
 refine⟨u.drop h.length,uS λi=>?_⟩;rcases dF i h.length with hi|hi
 .rw[aX hi,dc hi];exact hs i _ (dc hi) (hd _ (Av hi))
 .rw[bW hi,nb]
  congr 1;omega
theorem Rx{P}{H}{ops}{rest}{Q}{o}{hs h0 base}{A}{f}{args}{v}(hc:aD P f args base (λr h'=>r=.ret v/\h'=base))
  (hb:∀o,o∈base->bm base.length o/\o.isDead=false) (ha:∀a,a∈args->below base.length a) (hs0:cL base h0) (k:@WD ⟨P,H,ops,rest,Q⟩ hs (A.put o.dst v A.h)):@HU ⟨P,H,ops,rest,Q,o⟩ hs h0 A (.call f args):=by
 refine⟨v,λh' hh=>?_,k⟩;obtain⟨t,rfl⟩:=Pu (λo ho=>(hb o ho).2) (hs0.trans hh);refine(iE (λo ho=>(hb o ho).1) ha (hc.mono λr h' hr=>⟨by rw[hr.2],hr⟩) t).mono λr h'' hr=>?_;obtain⟨h1,e,_,hr⟩:=hr;exact⟨hr.1,by rw[e,hr.2]⟩
theorem Up{P}{H}{ops}{rest}{Q}{dst}{base}{A}{f}{args}{v}(t)(hc:aD P f args base (λr h'=>r=.ret v/\h'=base))
  (hb:∀o,o∈base->bm base.length o/\o.isDead=false) (ha:∀a,a∈args->below base.length a) (hs0:A.h=base++t) (k:@WO ⟨P,H,ops,rest,Q⟩ (A.put dst v A.h)):@WF ⟨P,H,ops,rest,Q,dst⟩ A f args:=by
 refine cJ (h':=A.h) ?_ k;rw[hs0];refine(iE (λo ho=>(hb o ho).1) ha (hc.mono λr h' hr=>⟨by rw[hr.2],hr⟩) t).mono λr h'' hr=>?_;obtain⟨h1,e,_,hr⟩:=hr;exact⟨hr.1,by rw[e,hr.2]⟩
def tt (s:ClShop) (l:List ClBatch) (c:Int) (m k:Nat):Int×Int:=((List.range k).filter m.testBit).foldl (kI (jw s l) c λj=>eT s l (mI l j) (m-2^j)) (lR,-2)
theorem SF{s}{l}{c}{m k}(h:m.testBit k=false):tt s l c m (k+1)=tt s l c m k:=by
 simp[tt,List.range_succ,KO,h]
theorem Va{s}{l}{c}{m k}(h:m.testBit k=true):tt s l c m (k+1)=kI (jw s l) c (λj=>eT s l (mI l j) (m-2^j)) (tt s l c m k) k:=by
 simp[tt,List.range_succ,KO,h,B8]
theorem SG{s}{l}{c}{m}(hs:ShopOk s)(hl:l.length<=7)(hm:m<2^l.length)(h0:m≠0):eT s l c m=tt s l c m l.length:=by
 have hm7:m<128:=jM hm (show 2^l.length<=2^7 from B' (by decide) hl);have hb:fj m=(List.range l.length).filter m.testBit:=by
  unfold fj;have e:(7:Nat)=l.length+(7-l.length):=by omega
  rw[e,List.range_add,KO];have:((List.range (7-l.length)).map (l.length+·)).filter m.testBit=[]:=by
   rw[List.filter_eq_nil_iff];intro a ha;obtain⟨j,_,rfl⟩:=cH.1 ha;have:m.testBit (l.length+j)=false:=Nat.testBit_lt_two_pow (jM hm (B' (by decide) (by omega)));rw[this];decide
  rw[this,bC]
 rw[eT,Is (jw s l) (mI l) (λc j n h=>Gr hs l c j n h) c hm7 h0,hb];rfl
def R3 (s:ClShop) (l:List ClBatch) (v0 v1 v2 v4 v8 v9:PV) (mm:AObj) (c:Int) (m:Nat) (p:Int×Int):Heap:=
 [.row 4 [.p v0],.row 1 [.p v1],.row 4 [.p v2],.row 1 [.ptr 6 1 0 0],.row 1 [.p v4],mm,nj s l 5,.row 1 [.ptr 6 1 0 0],.row 2 [.p v8],.row 2 [.p v9],.row 1 [.func (.func 79) [] [.ptr 7 1 0 0,.ptr 10 1 0 0]],
  .row 2 [.p (dR c m)],.row 2 [.p (.agg [.int .i64 0,.int .i64 0])],.row 2 [.p (ii p)]]
attribute [go_sem] R3
theorem PD(a)(k:Nat)(hk:k<=64):fB .shr .i64 a (k)=some (.int .i64 (a.fdiv (2^k))):=by
 have h1:¬(k:Int)<0:=by omega
 have h2:min ((k:Int).toNat) (IntKind.bits .i64)=k:=by rw[g7];exact E8 hk
 simp only[fB,if_neg h1,h2]
theorem zH(a)(k:Nat)(hk:k<=64):fB .shl .i64 a (k)=some (.int .i64 (IntKind.i64.wrap (a*2^k))):=by
 have h1:¬(k:Int)<0:=by omega
 have h2:min ((k:Int).toNat) (IntKind.bits .i64)=k:=by rw[g7];exact E8 hk
 simp only[fB,if_neg h1,h2]
theorem HF{s}{l}{v0 v1 v2 v4 v8 v9}{es}:∀o,o∈oY s l v0 v1 v2 v4 v8 v9 (.mp es)->bm 11 o:=by
 intro o ho;simp only[oY,ci,iL,or_false]at ho;rcases ho with rfl|rfl|rfl|rfl|rfl|rfl|rfl|rfl|rfl|rfl|rfl<;>simp[nj,bm,below,gy,fk,ei]
set_option maxHeartbeats 4000000 in
theorem Vr(s)(l)(v0 v1 v2 v4 v8 v9)(hs:ShopOk s)(hb:∀b,b∈l->BatchOk s b)(hl:l.length<=7):∀(m),m<2^l.length->∀(c:Int),0<=c/\c<s.colours.length ->
  aD TP 79 [.p (dR c m),.ptr 7 1 0 0,.ptr 10 1 0 0] (oY s l v0 v1 v2 v4 v8 v9 (.memo (gq s l)))
   (λr h'=>r=.ret (.p (ii (eT s l c m)))/\h'=oY s l v0 v1 v2 v4 v8 v9 (.memo (gq s l))):=by
 intro m
 induction m using Nat.strongRecOn with
 |ind m ih=>
 intro hm c hc;have hm7:m<128:=jM hm (show 2^l.length<=2^7 from B' (by decide) hl);refine LH (id:=5) (φ:=gq s l) rfl λhg es hf=>?_;show aD _ _ _ (oY s l v0 v1 v2 v4 v8 v9 (.mp es)) _;refine bN (eg (by kernel_rfl) rfl ZS) rfl ?_;simp only[go_sem,simprocAttr];cases h0:((m:Int)==0)
 rotate_left
 .have h0':m=0:=by simpa using h0
  subst h0';simp only[go_sem,simprocAttr];refine⟨_,_,rfl,rfl,?_,trivial,.inr rfl,?_,?_⟩
  .exact λo ho=>HF (es:=es) (s:=s) (l:=l) (v0:=v0) (v1:=v1) (v2:=v2) (v4:=v4) (v8:=v8) (v9:=v9) o ho
  .rw[eT,y4]
  .rw[eT,y4]
 have h0':m≠0:=by intro h;subst h;simp at h0
 simp only[go_sem,simprocAttr];rcases DL (s:=s) (l:=l) c m hf with hk|hk
 rotate_left
 .simp only[dR,ii]at hk;simp only[H8,aL,hk,go_sem,simprocAttr];refine⟨_,_,rfl,rfl,?_,trivial,.inr rfl⟩;exact λo ho=>HF (es:=es) (s:=s) (l:=l) (v0:=v0) (v1:=v1) (v2:=v2) (v4:=v4) (v8:=v8) (v9:=v9) o ho
 simp only[dR]at hk;simp only[H8,aL,hk,go_sem,simprocAttr];refine fm (MB (id:=5) hg hf rfl) ?_;simp only[go_sem,simprocAttr];refine aQ [1,2,3,4,5,30,31] l (by omega) (τ:=Unit) (λdone rest _=>True) (λdone _=>[(32,.p (.int .i64 done.length))]) (λdone _=>R3 s l v0 v1 v2 v4 v8 v9 (.memo (gq s l)) c m (tt s l c m done.length)) () trivial ?_ ?_ ?_
 .simp only[go_sem,simprocAttr];rfl
 .intro _ _;have hp:=SG (c:=c) hs hl hm h0';rw[<-hp];have hka:=P' s l c m;simp only[dR,ii]at hka;simp only[H8,aL,hka,go_sem,simprocAttr];refine⟨_,_,rfl,rfl,?_,trivial,.inl rfl⟩;exact λo ho=>(HG (φ:=gq s l) (s:=s) (l:=l) (v0:=v0) (v1:=v1) (v2:=v2) (v4:=v4) (v8:=v8) (v9:=v9) o ho).1
 .intro done b r _ e1 _ hx hlt hnx;have hbo:=hb b (by rw[e1];simp);have hdl:done.length<l.length:=by rw[e1];simp
  have hbit:=Rb hm7 (show done.length<7 by omega);have hlb:l[done.length]?=some b:=by rw[e1];simp
  have hsh:=PD (m:Int) done.length (by omega);simp only[hlt,hx,hsh,↓hbit,go_sem,simprocAttr];cases hb0:m.testBit done.length
  .have hpo:=SF (s:=s) (l:=l) (c:=c) hb0;simp only[go_sem,simprocAttr];refine ak e1 () trivial ?_;simp only[hnx,aB,bn,hpo,go_sem,simprocAttr]
  have hpo:=Va (s:=s) (l:=l) (c:=c) hb0;have hclr:=G' hm7 (show done.length<7 by omega) hb0;have hshl:=zH 1 done.length (by omega);simp only[go_sem,simprocAttr];refine bf (TH s l c b hs hbo hc) ?_ (.int _ _) ?_
  .simp only[go_sem,simprocAttr]
  simp only[go_sem,simprocAttr];have hnd:jw s l c done.length=vw s c b:=by rw[jw,hlb]
  by_cases hn:i8 s c b<0
  .have hd:decide (i8 s c b<0)=true:=by simpa using hn
   have hp1:tt s l c m (done.length+1)=tt s l c m done.length:=by
    rw[hpo,kI,hnd,vw,if_pos hn]
   simp only[hd,go_sem,simprocAttr];refine ak e1 () trivial ?_;simp only[hnx,aB,bn,hp1,go_sem,simprocAttr]
   trace_state
  have hd:decide (i8 s c b<0)=false:=by simpa using hn
  have hcol:mI l done.length=b.colour:=by rw[mI,hlb]
  have hno:vw s c b=some (i8 s c b*s.rinse):=by rw[vw,if_neg hn]
  have hnB:=Cv hs hno;have hpB:=SD hs l b.colour (m-2^done.length);have hle:=(rK m hm7 done.length (by omega) hb0).2;have hpos:0<2^done.length:=Nat.pow_pos (by decide);have w1:IntKind.i64.wrap (i8 s c b*s.rinse)=i8 s c b*s.rinse:=aj (by omega) (by omega);have w2:IntKind.i64.wrap (i8 s c b*s.rinse+(eT s l b.colour (m-2^done.length)).1)=i8 s c b*s.rinse+(eT s l b.colour (m-2^done.length)).1:=by
   unfold lR at hpB;exact aj (by omega) (by omega)
  have hp1:tt s l c m (done.length+1)=if i8 s c b*s.rinse+(eT s l b.colour (m-2^done.length)).1<(tt s l c m done.length).1 then(i8 s c b*s.rinse+(eT s l b.colour (m-2^done.length)).1,(done.length:Int)) else tt s l c m done.length:=by
   rw[hpo,kI,hnd,hno];simp only[hcol]
  simp only[H8,aL,hd,↓hclr,hshl,go_sem,simprocAttr];refine Rx (base:=oY s l v0 v1 v2 v4 v8 v9 (.memo (gq s l))) (ih (m-2^done.length) (by omega) (by omega) b.colour hbo.colour) HG ?_ (cL.app _ [_,_,_,_]) ?_
  .simp only[go_sem,simprocAttr]
  simp only[H8,aL,w1,w2,go_sem,simprocAttr];refine ax (TV (tt s l c m done.length) (i8 s c b*s.rinse+(eT s l b.colour (m-2^done.length)).1,(done.length:Int))) rfl ?_;simp only[H8,go_sem,simprocAttr];refine ak e1 () trivial ?_;simp only[hnx,aB,bn,hp1,go_sem,simprocAttr]
theorem D7(s)(b)(hl:s.colours.length<=1000000):af TP 43 [s.pv,b.pv] (.int .i64 (dE s b)):=by
 refine aa (ah Tryz.func43 rfl (by kernel_rfl)) rfl ?_;have hw:IntKind.i64.wrap ((s.colours.length:Int)-1)=(s.colours.length:Int)-1:=aj (by omega) (by omega);simp only[hw,go_sem,simprocAttr];refine ae (Ke _ _ _) rfl ?_;simp only[go_sem,simprocAttr];cases h1:ar b.colour 0 ((s.colours.length:Int)-1)
 .simp only[dE,h1,go_sem,simprocAttr]
 simp only[go_sem,simprocAttr];refine ae (Ke _ _ _) rfl ?_;simp only[go_sem,simprocAttr];cases h2:ar b.grams 1 100000
 .simp only[dE,h1,h2,go_sem,simprocAttr]
 .simp only[dE,h1,h2,go_sem,simprocAttr]
theorem IY(s)(l)(hs:s.colours.length<=1000000)(hl:l.length<1000000000):af TP 16 [s.pv,.slice 2 (l.map ClBatch.pv) false] (.int .i64 (lf s l)):=by
 refine aa (ah Tryz.func16 rfl (by kernel_rfl)) rfl ?_;simp only[go_sem,simprocAttr];cases h2:decide (7<(l.length:Int));rotate_left
 .have h2':¬l.length<=7:=by simp at h2;omega
  simp only[lf,if_neg h2',go_sem,simprocAttr]
 have h2':l.length<=7:=by simp at h2;omega
 have he:lf s l=dA s l:=by rw[lf,if_pos h2']
 rw[he];simp only[go_sem,simprocAttr];refine aQ [1,2] l hl (τ:=Unit) (λdone rest _=>dA s l=dA s rest) (λdone _=>[(5,.p (.int .i64 done.length))]) (λ_ _=>[.row 4 [.p s.pv]]) () rfl ?_ ?_ ?_
 .simp only[go_sem,simprocAttr]<;>simp
 .intro _ e2;rw[dA]at e2;simp only[e2,go_sem,simprocAttr]
 .intro done b r _ e1 e2 hx hlt hnx;rw[dA]at e2;simp only[hlt,hx,go_sem,simprocAttr]
  (first|refine ae (D7 s b hs) rfl ?_|refine ax (D7 s b hs) rfl ?_)
  simp only[go_sem,simprocAttr];cases h3:(dE s b != 0)
  .rw[if_pos (by simpa using h3)]at e2;simp only[go_sem,simprocAttr];refine ak e1 () e2 ?_;simp only[hnx,go_sem,simprocAttr]
  .rw[if_neg (by simpa using h3)]at e2;simp only[e2,go_sem,simprocAttr]
def lA (i:Nat):PV:=.int .i64 i
theorem Ef{need}{col}{k}{c}{l o}{n}(h:l.length<=k)(hb:fw need col k c l=some (o,n)):o.Perm l:=by
 rw[<-Ee need col k c l h]at hb;exact y7 k l o (zN need col c _ o n hb).1
theorem Fg(s)(l)(v0 v1 v2 v4)(hs:ShopOk s)(hb:∀b,b∈l->BatchOk s b)(hl:l.length<=7)(m)(hm:m<2^l.length)(c:Int)(hc:0<=c/\c<s.colours.length) :
  aD TP 45 [.ptr 6 1 0 0,.p (dR c m)] (oZ s l v0 v1 v2 v4 (.memo (gq s l))) (λr h'=>r=.ret (.p (ii (eT s l c m)))/\h'=oZ s l v0 v1 v2 v4 (.memo (gq s l))):=by
 refine bN (ah Tryz.func45 rfl (by kernel_rfl)) rfl ?_;simp only[go_sem,simprocAttr];refine cJ (Vr s l v0 v1 v2 v4 (dR c m) (.agg [.int .i64 0,.int .i64 0]) hs hb hl m hm c hc) ?_;simp only[go_sem,simprocAttr];refine⟨_,_,rfl,rfl,?_,trivial,rfl⟩;exact λo ho=>(Aj (φ:=gq s l) (s:=s) (l:=l) (v0:=v0) (v1:=v1) (v2:=v2) (v4:=v4) o ho).1
theorem Vs(s)(l)(v0 v1 v2 v4 v7)(hs:ShopOk s)(hb:∀b,b∈l->BatchOk s b)(hl:l.length<=7)(m)(hm:m<2^l.length)(c:Int)(hc:0<=c/\c<s.colours.length)(o)(n)
  (ho:fw (jw s l) (mI l) 7 c (fj m)=some (o,n)) :
  aD TP 46 [.ptr 6 1 0 0,.p (dR c m)] (oZ s l v0 v1 v2 v4 (.memo (gq s l))++[.row 2 [.p v7]])
   (λr h'=>r=.ret (.slice 9 o.length 0 o.length)/\∃x,h'=oZ s l v0 v1 v2 v4 (.memo (gq s l))++[.row 2 [.p v7],x,.row 1 (o.map λi=>.p (lA i))]):=by
 refine aC (ah Tryz.func46 rfl (by kernel_rfl)) rfl ?_;simp only[go_sem,simprocAttr];refine cl 4 1 (by simp only[go_sem,simprocAttr]) ?_;simp only[go_sem,simprocAttr]
 refine gH [0,3] (σ:=(Int×Nat)×(List Nat×List Nat)) (λq=>q.1.2<2^l.length/\(0<=q.1.1/\q.1.1<s.colours.length)/\o=q.2.1++q.2.2/\∃n,fw (jw s l) (mI l) 7 q.1.1 (fj q.1.2)=some (q.2.2,n)) (λq=>q.1.2)
  (λq=>[(4,.slice 9 q.2.1.length 0 q.2.1.length)]) (λq=>[.row 4 [.p v0],.row 1 [.p v1],.row 4 [.p v2],.row 1 [.ptr 6 1 0 0],.row 1 [.p v4],.memo (gq s l),nj s l 5,.row 2 [.p v7],.row 2 [.p (dR q.1.1 q.1.2)],.row 1 (q.2.1.map λi=>.p (lA i))]) ((c,m),([],o)) ⟨hm,hc,rfl,n,ho⟩ ?_ ?_
 .simp only[go_sem,simprocAttr]
 rintro⟨⟨d,k⟩,o1,o2⟩ ⟨hk,hd,hoo,n',hn'⟩
 dsimp only at hk hd hoo hn';have hk7:k<128:=jM hk (show 2^l.length<=2^7 from B' (by decide) hl);dsimp only;by_cases h0:k=0
 .subst h0;rw[Ed]at hn';have:o2=[]:=by simp only[fw,jO,Au]at hn';exact hn'.1.symm
  subst this;rw[bC]at hoo;subst hoo;simp only[go_sem,simprocAttr]
 have hne:((k:Int) != 0)=true:=by simp;omega
 obtain⟨j,o',n2,hj7,hbit,rfl,hp2,hb2⟩:=Lh (jw s l) (mI l) hk7 h0 hn';have hjl:j<l.length:=by
  rcases dF j l.length with h|h
  .exact h
  .have:=Nat.testBit_lt_two_pow (jM hk (B' (by decide) h));rw[this]at hbit;cases hbit
 obtain⟨b,hlb⟩:∃b,l[j]?=some b:=⟨_,dc hjl⟩
 have hbo:=hb b (aG hlb);have hcol:mI l j=b.colour:=by rw[mI,hlb]
 have hclr:=G' hk7 hj7 hbit;have hshl:=zH 1 j (by omega);have hle:=(rK k hk7 j hj7 hbit).2;have hpos:0<2^j:=Nat.pow_pos (by decide);have jl:(j:Int)<(l.length:Int):=by omega
 have hol:o1.length+1<=aw:=by
  have h1:o.length<=7:=by rw[(Ef (wh m) ho).length_eq];exact wh m
  have h2:=congrArg List.length hoo;simp at h2;simp[aw];omega
 simp only[hne,go_sem,simprocAttr];refine Up (base:=oZ s l v0 v1 v2 v4 (.memo (gq s l))) [_,_,_] (Fg s l v0 v1 v2 v4 hs hb hl k hk d hd) Aj ?_ rfl ?_
 .simp only[go_sem,simprocAttr]
 have hp2':(eT s l d k).2=(j:Int):=hp2;simp only[hp2',hol,jl,hlb,hshl,↓hclr,go_sem,simprocAttr];refine bU ((b.colour,k-2^j),(o1++[j],o')) ⟨by dsimp only;omega,hbo.colour,by rw[hoo];simp,n2,by rw[<-hcol];exact hb2⟩ (by dsimp only;omega) ?_;simp only[aB,bn,cj,lA,go_sem,simprocAttr]
theorem II{P}{f}{args}{h}{R}{id}{es}{φ}(hg:pe φ)(hf:∀p,p∈es->φ p.1 p.2=true)(hid:h[id]?=some (.mp es))
  (k:aD P f args (h.set id (.memo φ)) R):aD P f args h R:=by
 intro M0 m w cargs hS hargs;obtain⟨hk,hev⟩:=vD (S:=⟨m,h,w⟩) hS hg hf hid;have:=k M0 m w cargs hk (hargs.imp λv a _ hr=>hev.keep hr);refine⟨this.1,this.2.mono λe w' hh=>?_⟩;obtain⟨r,h'',m',hR,hev',hk',hend⟩:=hh;exact⟨r,h'',m',hR,hev.trans (by simpa using hev'),hk',hend⟩
def BR (s:ClShop) (aZ:Int) (l:List ClBatch):Option (List Nat×Int):=fw (jw s l) (mI l) 7 aZ (List.range l.length)
def qc (s:ClShop) (aZ:Int) (l:List ClBatch):PV:=
 if dH s aZ l=0 then(match BR s aZ l with|some (o,n)=>.tuple [.slice 1 (o.map lA) false,.int .i64 n,.int .i64 0]|none=>.tuple [.nilslice,.int .i64 0,.int .i64 9])
 else .tuple [.nilslice,.int .i64 0,.int .i64 (dH s aZ l)]
theorem Hw:∀n,n<=7->fj (2^n-1)=List.range n:=by
 intro n hn
 match n,hn with
 |0,_=>decide
 |1,_=>decide
 |2,_=>decide
 |3,_=>decide
 |4,_=>decide
 |5,_=>decide
 |6,_=>decide
 |7,_=>decide
theorem Pt:∀n,n<=7->IntKind.i64.wrap (IntKind.i64.wrap (1*2^n)-1)=((2^n-1:Nat):Int):=by
 intro n hn
 match n,hn with
 |0,_=>decide
 |1,_=>decide
 |2,_=>decide
 |3,_=>decide
 |4,_=>decide
 |5,_=>decide
 |6,_=>decide
 |7,_=>decide
def Sb:Hints:=ec [(15,.mut)]
theorem Ve:cC Sb Tryz.f18=true:=by kernel_rfl
theorem Lm(s)(aZ)(l)(hl:l.length<1000000000):ip TP 18 [s.pv,.int .i64 aZ,.slice 2 (l.map ClBatch.pv) false] (qc s aZ l):=by
 refine gb (eg (by kernel_rfl) rfl Ve) rfl ?_;simp only[Sb,go_sem,simprocAttr];refine cz (LJ s aZ l _ hl) (λv h hr=>?_) (λv h hr=>?_);rotate_left
 .rcases hr with⟨_,_,_,_,hr,_⟩|⟨_,hr,_⟩<;>cases hr
 rcases hr with⟨h0,hs,hb,hl7,hr,rfl⟩|⟨h0,hr,t,rfl⟩
 rotate_left
 .cases hr;have hne:(dH s aZ l != 0)=true:=by simpa using h0
  simp only[hne,qc,if_neg h0,go_sem,simprocAttr]
 cases hr;have hst:0<=aZ/\aZ<s.colours.length:=by
  unfold dH at h0;split at h0
  .split at h0
   .rename_i h1 h2;simp[ar]at h2;omega
   .cases h0
  .contradiction
 have hshl:=zH 1 l.length (by omega);have hsub:=Pt l.length hl7;have hlt:2^l.length-1<2^l.length:=by have:0<2^l.length:=Nat.pow_pos (by decide);omega
 have hpl:eT s l aZ (2^l.length-1)=iN (BR s aZ l):=by rw[eT,lP,Hw _ hl7];rfl
 have hP:=Fg s l s.pv (.int .i64 aZ) s.pv (.int .i64 0) hs hb hl7 (2^l.length-1) hlt aZ hst;have hP1:=iE (λo ho=>(Aj (φ:=gq s l) o ho).1) (args:=[.ptr 6 1 0 0,.p (dR aZ (2^l.length-1))]) (by simp only[go_sem,simprocAttr]) (hP.mono λr h' hr=>⟨by rw[hr.2],hr⟩) [.row 2 [.p (dR aZ (2^l.length-1))]];simp only[hshl,hsub,go_sem,simprocAttr];refine cJ (v:=.p (ii (eT s l aZ (2^l.length-1)))) (h':=oZ s l s.pv (.int .i64 aZ) s.pv (.int .i64 0) (.memo (gq s l))++[.row 2 [.p (dR aZ (2^l.length-1))]]) (II (id:=5) (φ:=gq s l) (es:=[]) (P9 s l) (by simp) rfl (hP1.mono λr h' hr=>?_)) ?_
 .obtain⟨h1,e,_,hr⟩:=hr;exact⟨hr.1,by rw[e,hr.2]⟩
 cases hbo:BR s aZ l with
 |none=>
  have hp1:(eT s l aZ (2^l.length-1)).1=1099511627776:=by rw[hpl,hbo];rfl
  simp only[hp1,qc,if_pos h0,hbo,go_sem,simprocAttr]
 |some q=>
  obtain⟨o,n⟩:=q;have hnB:=od (jw s l) (mI l) (λc j n h=>Gr hs l c j n h) 7 aZ (List.range l.length) o n hbo;have hp1:(eT s l aZ (2^l.length-1)).1=n:=by rw[hpl,hbo];rfl
  have hd:decide (1099511627776<=n)=false:=by simp;omega
  have hO:=Vs s l s.pv (.int .i64 aZ) s.pv (.int .i64 0) (dR aZ (2^l.length-1)) hs hb hl7 (2^l.length-1) hlt aZ hst o n (by rw[Hw _ hl7];exact hbo);simp only[hp1,hd,go_sem,simprocAttr];refine cz hO (λv h hr=>?_) (λv h hr=>?_);rotate_left
  .cases hr.1
  obtain⟨hr,x,rfl⟩:=hr;cases hr;simp only[qc,if_pos h0,hbo,go_sem,simprocAttr];rw[lY 6 _ lA (λ_=>rfl)];simp;exact eD (by simp)
theorem vW{α β:Type}{f:α->List β}{c}:∀(l:List α),(∀x,x∈l->(f x).length<=c)->(l.flatMap f).length<=l.length*c
 |[],_=>by simp
 |x::l,h=>by
  have:=vW l λy hy=>h y (by simp[hy]);have:=h x (by simp);rw[mF,aB,cu,Nat.succ_mul];omega
theorem S6{F}(hF:∀v,F (.p v)=some v)(xs ys):aV F (xs.map AV.p++ys.map AV.p)=some (xs++ys):=by
 have:=dD hF id (xs++ys);simpa using this
end Cl
namespace Wx
def fC (x y:Span) (e r n:Int):Bool:=r==-1||(decide (n*x.lo+(1000-n)*y.lo<=1000*(r+e))&&decide (1000*(r-e)<=n*x.hi+(1000-n)*y.hi))
def bz:List WxProp->List Span->List Span->List Int->Int->Bool
 |p::ps,x::xs,y::ys,r::rs,n=>fC x y p.error r n&&bz ps xs ys rs n
 |_,_,_,_,_=>true
def down (a b:Int):Int:=a / b
def dd (s:Span) (q:Int×Int):Span:=
 if 0<q.1 then⟨s.lo,if(-q.2) / q.1<s.hi then(-q.2) / q.1 else s.hi⟩
 else if q.1<0 then⟨if s.lo < -((-q.2) / (-q.1)) then -((-q.2) / (-q.1)) else s.lo,s.hi⟩
 else if 0<q.2 then⟨s.lo,s.lo-1⟩ else s
theorem Di(s)(q)(n):((dd s q).lo<=n/\n<=(dd s q).hi)↔(s.lo<=n/\n<=s.hi)/\n*q.1+q.2<=0:=by
 unfold dd;split
 .rename_i h;have k:=B5 (a:=n) (b:=-q.2) h;dsimp only;split<;>omega
 .split
  .rename_i h1 h2;have k:=B5 (a:=-n) (b:=-q.2) (show 0 < -q.1 by omega);rw[Ft,Int.mul_neg,Int.neg_neg]at k;dsimp only;split<;>omega
  .rename_i h1 h2;have h0:q.1=0:=by omega
   rw[h0,zy];split
   .dsimp only;omega
   .omega
def zao (x y:Span) (e r:Int):List (Int×Int):=[(x.lo-y.lo,1000*(y.lo-r-e)),(y.hi-x.hi,1000*(r-e-y.hi))]
def r9 (s:Span) (x y:Span) (e r:Int):Span:=if r=-1 then s else dd (dd s (x.lo-y.lo,1000*(y.lo-r-e))) (y.hi-x.hi,1000*(r-e-y.hi))
theorem KW(s x y)(e r n):((r9 s x y e r).lo<=n/\n<=(r9 s x y e r).hi)↔(s.lo<=n/\n<=s.hi)/\fC x y e r n=true:=by
 unfold r9 fC;split
 .rename_i h;simp[h]
 .rename_i h;rw[Di,Di];simp only[Pd,beq_iff_eq,h,false_or,cG,decide_eq_true_eq];have e1:n*(x.lo-y.lo)=n*x.lo-n*y.lo:=Int.mul_sub _ _ _;have e2:n*(y.hi-x.hi)=n*y.hi-n*x.hi:=Int.mul_sub _ _ _;have e3:(1000-n)*y.lo=1000*y.lo-n*y.lo:=Int.sub_mul _ _ _;have e4:(1000-n)*y.hi=1000*y.hi-n*y.hi:=Int.sub_mul _ _ _;rw[e1,e2,e3,e4];omega
def hG:Span->List WxProp->List Span->List Span->List Int->Span
 |s,p::ps,x::xs,y::ys,r::rs=>hG (r9 s x y p.error r) ps xs ys rs
 |s,_,_,_,_=>s
theorem p5(n):∀(ps) (xs ys) (rs) (s),((hG s ps xs ys rs).lo<=n/\n<=(hG s ps xs ys rs).hi)↔(s.lo<=n/\n<=s.hi)/\bz ps xs ys rs n=true
 |[],_,_,_,s=>by simp[hG,bz]
 |p::ps,[],_,_,s=>by simp[hG,bz]
 |p::ps,x::xs,[],_,s=>by simp[hG,bz]
 |p::ps,x::xs,y::ys,[],s=>by simp[hG,bz]
 |p::ps,x::xs,y::ys,r::rs,s=>by
  rw[hG,p5 n ps xs ys rs,KW,bz,cG,and_assoc]
theorem EK(x y)(e r n):fC x y e r n=fC y x e r (1000-n):=by
 unfold fC;rw[show 1000-(1000-n)=n by omega,Int.add_comm (n*x.lo),Int.add_comm (n*x.hi)]
theorem wx(n):∀(ps) (xs ys) (rs),xs.length=ys.length->bz ps xs ys rs n=bz ps ys xs rs (1000-n)
 |[],_,_,_,_=>by simp[bz]
 |p::ps,[],[],_,_=>by simp[bz]
 |p::ps,x::xs,y::ys,[],_=>by simp[bz]
 |p::ps,x::xs,y::ys,r::rs,h=>by
  rw[bz,bz,EK,wx n ps xs ys rs (by simpa using h)]
theorem EL(x)(e r n m):fC x x e r n=fC x x e r m:=by
 unfold fC;have h:∀k v:Int,k*v+(1000-k)*v=1000*v:=λk v=>by rw[Int.sub_mul];omega
 rw[h,h,h,h]
theorem wy(n m):∀(ps) (xs) (rs),bz ps xs xs rs n=bz ps xs xs rs m
 |[],_,_=>by simp[bz]
 |p::ps,[],_=>by simp[bz]
 |p::ps,x::xs,[]=>by simp[bz]
 |p::ps,x::xs,r::rs=>by rw[bz,bz,EL x _ _ n m,wy n m ps xs rs]
theorem GY(x y)(e r):fC x y e r 1000=fC x x e r 1000:=by
 unfold fC;simp
theorem xI:∀(ps) (xs ys) (rs),xs.length=ys.length->bz ps xs ys rs 1000=bz ps xs xs rs 1000
 |[],_,_,_,_=>by simp[bz]
 |p::ps,[],[],_,_=>by simp[bz]
 |p::ps,x::xs,y::ys,[],_=>by simp[bz]
 |p::ps,x::xs,y::ys,r::rs,h=>by rw[bz,bz,GY,xI ps xs ys rs (by simpa using h)]
def dV (S:Int->Prop) (p:Span):Prop:=(∀v,S v->p.lo<=v/\v<=p.hi)/\((∀v,¬S v)/\p=⟨1001,-1⟩\/S p.lo/\S p.hi)
theorem dV.uniq{S T}{p q}(hp:dV S p)(hq:dV T q)(h:∀v,S v↔T v):p=q:=by
 obtain⟨h1,h2⟩:=hp;obtain⟨h3,h4⟩:=hq;rcases h2 with⟨e,rfl⟩|⟨a,b⟩
 .rcases h4 with⟨_,rfl⟩|⟨c,d⟩
  .rfl
  .exact absurd ((h _).2 c) (e _)
 .rcases h4 with⟨e,rfl⟩|⟨c,d⟩
  .exact absurd ((h _).1 a) (e _)
  .have x1:=h1 _ ((h _).2 c);have x2:=h1 _ ((h _).2 d);have x3:=h3 _ ((h _).1 a);have x4:=h3 _ ((h _).1 b);cases p;cases q;dsimp only at *
   congr 1<;>omega
def jA (p l:Span):Span:=⟨if l.lo<p.lo then l.lo else p.lo,if p.hi<l.hi then l.hi else p.hi⟩
theorem dV.join{S I:Int->Prop}{p l}(hp:dV S p)(hI:∀v,I v->l.lo<=v/\v<=l.hi)(h1:I l.lo)(h2:I l.hi)(h0:0<=l.lo)(h3:l.hi<=1000):dV (λv=>S v\/I v) (jA p l):=by
 obtain⟨a,b⟩:=hp;have hl:=hI _ h1;unfold jA;refine⟨λv hv=>?_,.inr ?_⟩
 .dsimp only;rcases hv with hv|hv
  .have:=a v hv;constructor<;>split<;>omega
  .have:=hI v hv;constructor<;>split<;>omega
 .rcases b with⟨e,rfl⟩|⟨c,d⟩
  .dsimp only;rw[if_pos (by omega),if_pos (by omega)];exact⟨.inr h1,.inr h2⟩
  .dsimp only;constructor<;>split
   .exact .inr h1
   .exact .inl c
   .exact .inr h2
   .exact .inl d
theorem dV.same{S T}{p}(hp:dV S p)(h:∀v,T v↔S v):dV T p:=by
 have:T=S:=funext λv=>propext (h v);rw[this];exact hp
theorem dV.init:dV (λ_=>False) ⟨1001,-1⟩:=⟨λ_ h=>h.elim,.inl ⟨λ_ h=>h,rfl⟩⟩
def joinL {α:Type} (f:α->Option Span):List α->Span->Span
 |[],p=>p
 |x::l,p=>joinL f l (match f x with|some s=>jA p s|none=>p)
theorem dV.joinL{α}{f}{I:α->Int->Prop} (hf:∀x,match f x with
   |some s=>(∀v,I x v->s.lo<=v/\v<=s.hi)/\I x s.lo/\I x s.hi/\0<=s.lo/\s.hi<=1000
   |none=>∀v,¬I x v) :
  ∀(l) {S} {p},dV S p->dV (λv=>S v\/∃x,x∈l/\I x v) (Wx.joinL f l p)
 |[],S,p,h=>h.same λv=>by simp
 |x::l,S,p,h=>by
  have hx:=hf x;rw[Wx.joinL]
  cases hs:f x with
  |none=>
   rw[hs]at hx;refine(dV.joinL hf l h).same λv=>?_;constructor
   .rintro(h|⟨y,hy,h⟩)
    .exact .inl h
    .rcases ci.1 hy with rfl|hy
     .exact absurd h (hx v)
     .exact .inr ⟨y,hy,h⟩
   .rintro(h|⟨y,hy,h⟩)
    .exact .inl h
    .exact .inr ⟨y,by simp[hy],h⟩
  |some s=>
   rw[hs]at hx;obtain⟨h1,h2,h3,h4,h5⟩:=hx;refine(dV.joinL hf l (h.join h1 h2 h3 h4 h5)).same λv=>?_;constructor
   .rintro(h|⟨y,hy,h⟩)
    .exact .inl (.inl h)
    .rcases ci.1 hy with rfl|hy
     .exact .inl (.inr h)
     .exact .inr ⟨y,hy,h⟩
   .rintro((h|h)|⟨y,hy,h⟩)
    .exact .inl h
    .exact .inr ⟨x,by simp,h⟩
    .exact .inr ⟨y,by simp[hy],h⟩
section
variable (ex:Nat->Nat->Int->Bool) (kind:Nat)
def nH (q:Nat×Nat) (n:Int):Int:=if kind=q.1 then n else if kind=q.2 then 1000-n else 0
def ez (q:Nat×Nat) (l:Span):Span:=if kind=q.1 then l else if kind=q.2 then⟨1000-l.hi,1000-l.lo⟩ else⟨0,0⟩
def ur (q:Nat×Nat) (n:Int):Prop:=if q.1=q.2 then n=1000 else 1<=n/\n<=999
def qq (many:Nat):List (Nat×Nat):=(List.range many).flatMap λa=>(List.range (a+1)).map λb=>(a,b)
def sv (many:Nat):List (Nat×Nat):=(List.range many).flatMap λa=>(List.range many).map λb=>(a,b)
theorem oz(many)(q):q∈qq many↔q.1<many/\q.2<=q.1:=by
 simp only[qq,zB,rj,cH];constructor
 .rintro⟨a,h,b,h2,rfl⟩;exact⟨h,by dsimp only;omega⟩
 .rintro⟨h1,h2⟩;exact⟨q.1,h1,q.2,by omega,rfl⟩
theorem vE(many)(q):q∈sv many↔q.1<many/\q.2<many:=by
 simp only[sv,zB,rj,cH];constructor
 .rintro⟨a,h,b,h2,rfl⟩;exact⟨h,h2⟩
 .rintro⟨h1,h2⟩;exact⟨q.1,h1,q.2,h2,rfl⟩
def tR (s:Span):Option Span:=if s.lo<=s.hi then some s else none
def RJ (sp:Nat×Nat->Span) (many:Nat):Span:=joinL (λq=>(tR (sp q)).map (ez kind q)) (qq many) ⟨1001,-1⟩
theorem Ih{sp}(hsp:∀q n,((sp q).lo<=n/\n<=(sp q).hi)↔ur q n/\ex q.1 q.2 n=true)(many) :
  dV (λv=>∃q n,q∈qq many/\ur q n/\ex q.1 q.2 n=true/\v=nH kind q n) (RJ kind sp many):=by
 have h:=dV.joinL (f:=λq=>(tR (sp q)).map (ez kind q)) (I:=λq v=>∃n,ur q n/\ex q.1 q.2 n=true/\v=nH kind q n) (λq=>?_) (qq many) dV.init
 .refine h.same λv=>?_;simp only[false_or];exact⟨λ⟨q,n,a,b⟩=>⟨q,a,n,b⟩,λ⟨q,a,n,b⟩=>⟨q,n,a,b⟩⟩
 .have hn:∀n,ur q n->1<=n/\n<=1000:=λn h=>by unfold ur at h;split at h<;>omega
  unfold tR;by_cases hc:(sp q).lo<=(sp q).hi
  .rw[if_pos hc];have hl:=(hsp q (sp q).lo).1 ⟨ir _,hc⟩;have hh:=(hsp q (sp q).hi).1 ⟨hc,ir _⟩;have b1:=hn _ hl.1;have b2:=hn _ hh.1;simp only[jX];refine⟨?_,?_,?_,?_,?_⟩
   .rintro v ⟨n,h1,h2,rfl⟩
    have:=(hsp q n).2 ⟨h1,h2⟩;unfold ez nH;split
    .exact this
    .split<;>dsimp only<;>omega
   .unfold ez nH;split
    .exact⟨_,hl.1,hl.2,rfl⟩
    .split
     .exact⟨_,hh.1,hh.2,rfl⟩
     .exact⟨_,hl.1,hl.2,rfl⟩
   .unfold ez nH;split
    .exact⟨_,hh.1,hh.2,rfl⟩
    .split
     .exact⟨_,hl.1,hl.2,rfl⟩
     .exact⟨_,hl.1,hl.2,rfl⟩
   .unfold ez;split
    .omega
    .split<;>dsimp only<;>omega
   .unfold ez;split
    .omega
    .split<;>dsimp only<;>omega
  .rw[if_neg hc];simp only[Option.map_none]
   rintro v ⟨n,h1,h2,_⟩
   have:=(hsp q n).2 ⟨h1,h2⟩;omega
def pH (q:Nat×Nat) (n:Int):Int:=if kind=q.1/\kind=q.2 then 1000 else nH kind q n
def th (q:Nat×Nat) (s:Span):Span:=if kind=q.1/\kind=q.2 then⟨1000,1000⟩ else ez kind q s
def RI (sp:Nat×Nat->Option Span) (many:Nat):Span:=joinL (λq=>(sp q).map (th kind q)) (sv many) ⟨1001,-1⟩
theorem yX{sp} (hsp:∀q,match sp q with
   |some s=>(∀n,1<=n->n<=1000->ex q.1 q.2 n=true->s.lo<=n/\n<=s.hi)/\(ex q.1 q.2 s.lo=true/\1<=s.lo/\s.lo<=1000)/\ex q.1 q.2 s.hi=true/\1<=s.hi/\s.hi<=1000
   |none=>∀n,1<=n->n<=1000->ex q.1 q.2 n=false) (many) :
  dV (λv=>∃q n,q∈sv many/\(1<=n/\n<=1000)/\ex q.1 q.2 n=true/\v=pH kind q n) (RI kind sp many):=by
 have h:=dV.joinL (f:=λq=>(sp q).map (th kind q)) (I:=λq v=>∃n,(1<=n/\n<=1000)/\ex q.1 q.2 n=true/\v=pH kind q n) (λq=>?_) (sv many) dV.init
 .refine h.same λv=>?_;simp only[false_or];exact⟨λ⟨q,n,a,b⟩=>⟨q,a,n,b⟩,λ⟨q,a,n,b⟩=>⟨q,n,a,b⟩⟩
 .have hq:=hsp q
  cases hs:sp q with
  |none=>
   rw[hs]at hq;simp only[Option.map_none]
   rintro v ⟨n,h1,h2,_⟩
   rw[hq n h1.1 h1.2]at h2;cases h2
  |some s=>
   rw[hs]at hq;obtain⟨h1,h2,h3⟩:=hq;have h4:=h1 _ h2.2.1 h2.2.2 h2.1;simp only[jX];refine⟨?_,?_,?_,?_,?_⟩
   .rintro v ⟨n,g1,g2,rfl⟩
    have:=h1 n g1.1 g1.2 g2;unfold th pH;split
    .dsimp only;omega
    .unfold ez nH;split
     .exact this
     .split<;>dsimp only<;>omega
   .unfold th pH;split
    .exact⟨_,h2.2,h2.1,rfl⟩
    .unfold ez nH;split
     .exact⟨_,h2.2,h2.1,rfl⟩
     .split
      .exact⟨_,h3.2,h3.1,rfl⟩
      .exact⟨_,h2.2,h2.1,rfl⟩
   .unfold th pH;split
    .exact⟨_,h2.2,h2.1,rfl⟩
    .unfold ez nH;split
     .exact⟨_,h3.2,h3.1,rfl⟩
     .split
      .exact⟨_,h2.2,h2.1,rfl⟩
      .exact⟨_,h2.2,h2.1,rfl⟩
   .unfold th;split
    .decide
    .unfold ez;split
     .omega
     .split<;>dsimp only<;>omega
   .unfold th;split
    .decide
    .unfold ez;split
     .omega
     .split<;>dsimp only<;>omega
theorem MT{many}(hk:kind<many)(hturn:∀a b n,a<many->b<many->ex a b n=ex b a (1000-n))(hsame:∀a n m,ex a a n=ex a a m)(hall:∀a b,a<many->b<many->ex a b 1000=ex a a 1000)(v) :
  (∃q n,q∈qq many/\ur q n/\ex q.1 q.2 n=true/\v=nH kind q n)↔∃q n,q∈sv many/\(1<=n/\n<=1000)/\ex q.1 q.2 n=true/\v=pH kind q n:=by
 constructor
 .rintro⟨⟨a,b⟩,n,hq,hn,he,rfl⟩
  rw[oz]at hq;unfold ur at hn;dsimp only at hq hn he;refine⟨(a,b),n,(vE _ _).2 ⟨hq.1,by dsimp only;omega⟩,by split at hn<;>omega,he,?_⟩;unfold pH;split
  .rename_i h;dsimp only at h;rw[if_pos (by omega)]at hn;unfold nH;rw[if_pos h.1];exact hn
  .rfl
 .rintro⟨⟨a,b⟩,n,hq,hn,he,rfl⟩
  rw[vE]at hq;dsimp only at hq he;by_cases hab:a=b
  .subst hab;refine⟨(a,a),1000,(oz _ _).2 ⟨hq.1,bB _⟩,by simp[ur],by rw[hsame a 1000 n];exact he,?_⟩;simp only[pH,nH];by_cases hka:kind=a<;>simp[hka]
  .by_cases hn1:n=1000
   .subst hn1;refine⟨(a,a),1000,(oz _ _).2 ⟨hq.1,bB _⟩,by simp[ur],by rw[<-hall a b hq.1 hq.2];exact he,?_⟩;simp only[pH,nH];by_cases hka:kind=a
    .have:¬kind=b:=by omega
     simp[hka]
    .by_cases hkb:kind=b<;>simp[hka,hkb]
   .by_cases hlt:b<a
    .refine⟨(a,b),n,(oz _ _).2 ⟨hq.1,by dsimp only;omega⟩,by simp only[ur];rw[if_neg hab];omega,he,?_⟩;simp only[pH];rw[if_neg (by omega)]
    .refine⟨(b,a),1000-n,(oz _ _).2 ⟨hq.2,by dsimp only;omega⟩,by simp only[ur];rw[if_neg (by omega)];omega,by dsimp only;rw[hturn b a _ hq.2 hq.1,show 1000-(1000-n)=n by omega];exact he,?_⟩;simp only[pH,nH];rw[if_neg (by omega)];by_cases hka:kind=a
     .have:¬kind=b:=by omega
      rw[if_pos hka,if_neg this,if_pos hka];omega
     .rw[if_neg hka];by_cases hkb:kind=b
      .rw[if_pos hkb,if_pos hkb]
      .rw[if_neg hkb,if_neg hkb,if_neg hka]
end
end Wx
end Abs
end Go.Proofs.YtoapoaoelpcniaaGreatDoor
