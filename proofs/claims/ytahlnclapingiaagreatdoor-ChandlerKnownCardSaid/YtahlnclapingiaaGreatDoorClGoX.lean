/-
  CONTRACTS: the best plan from a stand on, in the program. No conditions but those in the t
  CONTRACTS: the best plan from a stand on, in the program: the recursion. No conditions but
  CONTRACTS: colour in the reference: errors of a shop and batches. No conditions but those 
  CONTRACTS: orders of batches in the reference. No conditions but those in the theorems' he
  CONTRACTS: the best order, in the program. No conditions but those in the theorems' heads.
  CONTRACTS: all orders of batches, and the best one of them, in the reference. No condition
  CONTRACTS: the best order of batches in the reference. No conditions but those in the theo
  WHAT A SAMPLE CAN CONSIST OF: mixtures that explain readings, in two ways; plain Lean. No 
-/
import Derived.Test.YtahlnclapingiaaGreatDoorAbsCutX
import Derived.Test.YtahlnclapingiaaGreatDoorAbsFrame
import Derived.Test.YtahlnclapingiaaGreatDoorChEnd0X
set_option linter.unusedSimpArgs false
set_option linter.unusedVariables false
namespace Go.Proofs.YtahlnclapingiaaGreatDoor
namespace Abs
namespace Cl
set_option maxRecDepth 4000
def zeH (s:ClShop) (l:List ClBatch) (c:Int) (j:Nat):Option Int:=match l[j]? with | some b=>zlH s c b | none=>none
def zgG (l:List ClBatch) (j:Nat):Int:=match l[j]? with | some b=>b.colour | none=>0
def zbM (c:Int) (m:Nat):PV:=.agg [.int .i64 c,.int .i64 m]
def zdC (p:Int×Int):PV:=.agg [.int .i64 p.1,.int .i64 p.2]
attribute [go_sem] zbM zdC
def zco (s:ClShop) (l:List ClBatch) (c:Int) (m:Nat):Int×Int:=zf8 (zeH s l) (zgG l) c m
def zdh (s:ClShop) (l:List ClBatch):PV→PV→Bool
 |.agg [.int .i64 c,.int .i64 m],.agg [.int .i64 x,.int .i64 y]=>decide (0≤m)&&(decide (x=(zco s l c m.toNat).1)&&decide (y=(zco s l c m.toNat).2))
 |_,_=>false
theorem zoD {s:ClShop} {l:List ClBatch} {k v:PV} (h:zdh s l k v=true):∃ c m,k=zbM c m∧v=zdC (zco s l c m):=by
 unfold zdh at h
 split at h
 ·rename_i c m x y
  simp only [Bool.and_eq_true,decide_eq_true_eq] at h
  obtain ⟨h0,h1,h2⟩:=h
  refine ⟨c,m.toNat,?_,?_⟩
  ·rw [zbM,Int.toNat_of_nonneg h0]
  ·rw [zdC,h1,h2]
 ·cases h
theorem zA4 (s:ClShop) (l:List ClBatch) (c:Int) (m:Nat):zdh s l (zbM c m) (zdC (zco s l c m))=true:=by
 simp [zdh,zbM,zdC]
theorem zsO (c d:Int) (m n:Nat):ze3 (zbM c m) (zbM d n)=some (c==d&&(m:Int)==(n:Int)):=by
 simp [ze3,zbM,ztZ,zck,eqK]
theorem zA3 (s:ClShop) (l:List ClBatch):zh1 (zdh s l):=by
 intro k q v u hk hq
 obtain ⟨c,m,rfl,_⟩:=zoD hk
 obtain ⟨d,n,rfl,_⟩:=zoD hq
 refine ⟨_,zsO c d m n,fun h=>?_⟩
 simp at h
 obtain ⟨rfl,h⟩:=h
 have:m=n:=by omega
 rw [this]
theorem zrw {s:ClShop} {l:List ClBatch} (c:Int) (m:Nat):∀ {es:List (PV×PV)},(∀ p,p∈es→zdh s l p.1 p.2=true)→zgc (zbM c m) es=some none∨zgc (zbM c m) es=some (some (zdC (zco s l c m)))
 |[],_=>.inl rfl
 |(k,v)::r,h=>by
  obtain ⟨d,n,hk,hv⟩:=zoD (h (k,v) (by simp))
  dsimp only at hk hv
  subst hk;subst hv
  rw [zgc,zsO]
  cases hb:(c==d&&(m:Int)==(n:Int))
  ·exact zrw c m fun p hp=>h p (by simp [hp])
  ·simp at hb
   obtain ⟨rfl,hb⟩:=hb
   have:m=n:=by omega
   subst this
   exact .inr rfl
theorem zsa (n:Nat) (f:PV→PV→Bool):zaI n (.memo f)=True:=rfl
theorem zx1 (n:Nat) (k:RK) (id:Nat):zcH n (.ref k id)=(id<n):=rfl
attribute [go_sem] zsa zx1
theorem ztj {s:ClShop} (hs:ShopOk s) (l:List ClBatch) (c:Int) (j:Nat) (n:Int) (h:zeH s l c j=some n):0≤n∧n≤30000:=by
 unfold zeH at h
 cases hj:l[j]? with
 |none=>rw [hj] at h;cases h
 |some b=>rw [hj] at h;exact zqv hs h
theorem zDp {s:ClShop} (hs:ShopOk s) (l:List ClBatch) (c:Int) (m:Nat):0≤(zco s l c m).1∧(zco s l c m).1≤zga:=by
 unfold zco zf8
 have:=zht (zeH s l) (zgG l) (fun c j n h=>ztj hs l c j n h) 7 c (zcG m)
 cases h:zcO (zeH s l) (zgG l) 7 c (zcG m) with
 |none=>simp only [zef];unfold zga;omega
 |some p=>have:=this p.1 p.2 (by rw [h]);simp only [zef];unfold zga;omega
def zhW (s:ClShop) (l:List ClBatch) (v0 v1 v2 v4:PV) (mm:AObj):Heap:=[.row 4 [.p v0],.row 1 [.p v1],.row 4 [.p v2],.row 1 [.ptr 6 1 0 0],.row 1 [.p v4],mm,zgW s l 5]
def zg3 (s:ClShop) (l:List ClBatch) (v0 v1 v2 v4 v8 v9:PV) (mm:AObj):Heap :=
 [.row 4 [.p v0],.row 1 [.p v1],.row 4 [.p v2],.row 1 [.ptr 6 1 0 0],.row 1 [.p v4],mm,zgW s l 5,.row 1 [.ptr 6 1 0 0],.row 2 [.p v8],.row 2 [.p v9],.row 1 [.func (.func 380) [] [.ptr 7 1 0 0,.ptr 10 1 0 0]]]
attribute [go_sem] zhW zg3
theorem zuu {s:ClShop} {l:List ClBatch} {v0 v1 v2 v4 v8 v9:PV} {φ:PV→PV→Bool}:∀ o,o∈zg3 s l v0 v1 v2 v4 v8 v9 (.memo φ)→zaI (zg3 s l v0 v1 v2 v4 v8 v9 (.memo φ)).length o∧o.isDead=false:=by
 intro o ho
 simp only [zg3,List.mem_cons,List.not_mem_nil,or_false] at ho
 rcases ho with rfl | rfl | rfl | rfl | rfl | rfl | rfl | rfl | rfl | rfl | rfl<;>simp [zgW,zaI,below,zdk,zcH,zb6,AObj.isDead,zg3]
theorem zoR {s:ClShop} {l:List ClBatch} {v0 v1 v2 v4:PV} {φ:PV→PV→Bool}:∀ o,o∈zhW s l v0 v1 v2 v4 (.memo φ)→zaI (zhW s l v0 v1 v2 v4 (.memo φ)).length o∧o.isDead=false:=by
 intro o ho
 simp only [zhW,List.mem_cons,List.not_mem_nil,or_false] at ho
 rcases ho with rfl | rfl | rfl | rfl | rfl | rfl | rfl<;>simp [zgW,zaI,below,zdk,zcH,zb6,AObj.isDead,zhW]
theorem zp1 (n:Int):zae Tryz.prog 406 [.int .i64 n] (.bool false):=by
 refine zaa zad (fn:=Tryz.f406) (n:=6) (rs:=[.tmp 2]) (by kernel_rfl) rfl rfl rfl zHO (Nat.le_of_ble_eq_true rfl) ?_
 simp only [go_sem,simprocAttr]
 simp
theorem zud (a b:Int):zae Tryz.prog 395 [.int .i64 a,.int .i64 b] (.int .i64 (if a<b then -1 else if b<a then 1 else 0)):=by
 refine zaa zad (fn:=Tryz.f395) (n:=20) (rs:=[.tmp 4]) (by kernel_rfl) rfl rfl rfl zHX (Nat.le_of_ble_eq_true rfl) ?_
 simp only [go_sem,simprocAttr]
 (first | refine zab (zp1 a) rfl ?_ | refine zau (zp1 a) rfl ?_)
 simp only [go_sem,simprocAttr]
 (first | refine zab (zp1 b) rfl ?_ | refine zau (zp1 b) rfl ?_)
 simp only [go_sem,simprocAttr]
 by_cases h1:a<b
 ·have d1:decide (a<b)=true:=by simpa using h1
  simp only [d1,if_pos h1,go_sem,simprocAttr]
 ·have d1:decide (a<b)=false:=by simpa using h1
  by_cases h2:b<a
  ·have d2:decide (b<a)=true:=by simpa using h2
   simp only [d1,d2,if_neg h1,if_pos h2,go_sem,simprocAttr]
  ·have d2:decide (b<a)=false:=by simpa using h2
   simp only [d1,d2,if_neg h1,if_neg h2,go_sem,simprocAttr]
theorem zCO (p:Int×Int):zae Tryz.prog 383 [zdC p] (.int .i64 p.1):=by
 refine zaa zad (fn:=Tryz.f383) (n:=5) (rs:=[.tmp 2]) (by kernel_rfl) rfl rfl rfl zH7 (Nat.le_of_ble_eq_true rfl) ?_
 simp only [go_sem,simprocAttr]
theorem zEy (p q:Int×Int):zae Tryz.prog 382 [zdC p,zdC q,.func (.func 383) [] []] (zdC (if q.1<p.1 then q else p)):=by
 refine zaa zad (fn:=Tryz.f382) (n:=17) (rs:=[.cell 6 418]) (by kernel_rfl) rfl rfl rfl zH8 (Nat.le_of_ble_eq_true rfl) ?_
 simp only [go_sem,simprocAttr]
 refine zau (zCO p) rfl ?_
 simp only [go_sem,simprocAttr]
 refine zau (zCO q) rfl ?_
 simp only [go_sem,simprocAttr]
 (first | refine zab (zud p.1 q.1) rfl ?_ | refine zau (zud p.1 q.1) rfl ?_)
 simp only [go_sem,simprocAttr]
 by_cases h:q.1<p.1
 ·have h1:¬ p.1<q.1:=by omega
  simp only [if_neg h1,if_pos h,go_sem,simprocAttr]
 ·by_cases h1:p.1<q.1
  ·simp only [if_pos h1,if_neg h,go_sem,simprocAttr]
  ·simp only [if_neg h1,if_neg h,go_sem,simprocAttr]
set_option maxRecDepth 100000 in
theorem zz1:∀ m:Nat,m<128→∀ i:Nat,i<7→IntKind.i64.wrap ((BitVec.ofInt 64 ((m:Int).fdiv (2^i))&&& BitVec.ofInt 64 1).toNat:Int)=(if m.testBit i then 1 else 0):=by decide
set_option maxRecDepth 100000 in
theorem zzK:∀ m:Nat,m<128→∀ i:Nat,i<7→m.testBit i=true→IntKind.i64.wrap ((BitVec.ofInt 64 (m:Int)&&& ~~~BitVec.ofInt 64 (IntKind.i64.wrap (1*2^i))).toNat:Int)=((m-2^i:Nat):Int):=by decide
theorem zBT {m i:Nat} (hm:m<128) (hi:i<7):zkY .and .i64 ((m:Int).fdiv (2^i)) 1=some (.int .i64 (if m.testBit i then 1 else 0)):=congrArg (fun n=>some (PV.int .i64 n)) (zz1 m hm i hi)
theorem ztY {m i:Nat} (hm:m<128) (hi:i<7) (h:m.testBit i=true):zkY .andNot .i64 (m:Int) (IntKind.i64.wrap (1*2^i))=some (.int .i64 ((m-2^i:Nat):Int)):=congrArg (fun n=>some (PV.int .i64 n)) (zzK m hm i hi h)
theorem zAx {h u:Heap} (hd:∀ o,o∈h→o.isDead=false) (hs:zbn h u):∃ t,u=h++t:=by
 refine ⟨u.drop h.length,List.ext_getElem? fun i=>?_⟩
 rcases Nat.lt_or_ge i h.length with hi | hi
 ·rw [List.getElem?_append_left hi,List.getElem?_eq_getElem hi]
  exact hs i _ (List.getElem?_eq_getElem hi) (hd _ (List.getElem_mem hi))
 ·rw [List.getElem?_append_right hi,List.getElem?_drop]
  congr 1;omega
theorem zCd {P:Program} {H:Hints} {ops:Array Oper} {rest:List Oper} {Q:Cont} {o:Oper} {hs h0 base:Heap} {A:AAct} {f:FuncId} {args:List AV} {v:AV} (hc:zap P f args base (fun r h'=>r=.ret v∧h'=base))
  (hb:∀ o,o∈base→zaI base.length o∧o.isDead=false) (ha:∀ a,a∈args→below base.length a) (hs0:zbn base h0) (k:@WD ⟨P,H,ops,rest,Q⟩ hs (A.put o.dst v A.h)):@WDQ ⟨P,H,ops,rest,Q,o⟩ hs h0 A (.call f args):=by
 refine ⟨v,fun h' hh=>?_,k⟩
 obtain ⟨t,rfl⟩:=zAx (fun o ho=>(hb o ho).2) (hs0.trans hh)
 refine (zd4 (fun o ho=>(hb o ho).1) ha (hc.mono fun r h' hr=>⟨by rw [hr.2],hr⟩) t).mono fun r h'' hr=>?_
 obtain ⟨h1,e,_,hr⟩:=hr
 exact ⟨hr.1,by rw [e,hr.2]⟩
theorem zE0 {P:Program} {H:Hints} {ops:Array Oper} {rest:List Oper} {Q:Cont} {dst:Option Tmp} {base:Heap} {A:AAct} {f:FuncId} {args:List AV} {v:AV} (t:Heap) (hc:zap P f args base (fun r h'=>r=.ret v∧h'=base))
  (hb:∀ o,o∈base→zaI base.length o∧o.isDead=false) (ha:∀ a,a∈args→below base.length a) (hs0:A.h=base++t) (k:@WO ⟨P,H,ops,rest,Q⟩ (A.put dst v A.h)):@WF ⟨P,H,ops,rest,Q,dst⟩ A f args:=by
 refine zbk (h':=A.h) ?_ k
 rw [hs0]
 refine (zd4 (fun o ho=>(hb o ho).1) ha (hc.mono fun r h' hr=>⟨by rw [hr.2],hr⟩) t).mono fun r h'' hr=>?_
 obtain ⟨h1,e,_,hr⟩:=hr
 exact ⟨hr.1,by rw [e,hr.2]⟩
end Cl
end Abs
end Go.Proofs.YtahlnclapingiaaGreatDoor
namespace Go.Proofs.YtahlnclapingiaaGreatDoor
namespace Abs
namespace Cl
set_option maxRecDepth 4000
def pAt (s:ClShop) (l:List ClBatch) (c:Int) (m k:Nat):Int×Int:=((List.range k).filter m.testBit).foldl (zfn (zeH s l) c fun j=>zco s l (zgG l j) (m-2^j)) (zga,-2)
theorem zDr {s:ClShop} {l:List ClBatch} {c:Int} {m k:Nat} (h:m.testBit k=false):pAt s l c m (k+1)=pAt s l c m k:=by
 simp [pAt,List.range_succ,List.filter_append,h]
theorem zFI {s:ClShop} {l:List ClBatch} {c:Int} {m k:Nat} (h:m.testBit k=true):pAt s l c m (k+1)=zfn (zeH s l) c (fun j=>zco s l (zgG l j) (m-2^j)) (pAt s l c m k) k:=by
 simp [pAt,List.range_succ,List.filter_append,h,List.foldl_append]
theorem zDs {s:ClShop} {l:List ClBatch} {c:Int} {m:Nat} (hs:ShopOk s) (hl:l.length≤7) (hm:m<2^l.length) (h0:m≠0):zco s l c m=pAt s l c m l.length:=by
 have hm7:m<128:=Nat.lt_of_lt_of_le hm (show 2^l.length≤2^7 from Nat.pow_le_pow_right (by decide) hl)
 have hb:zcG m=(List.range l.length).filter m.testBit:=by
  unfold zcG
  have e:(7:Nat)=l.length+(7-l.length):=by omega
  rw [e,List.range_add,List.filter_append]
  have:((List.range (7-l.length)).map (l.length+·)).filter m.testBit=[]:=by
   rw [List.filter_eq_nil_iff]
   intro a ha
   obtain ⟨j,_,rfl⟩:=List.mem_map.1 ha
   have:m.testBit (l.length+j)=false:=Nat.testBit_lt_two_pow (Nat.lt_of_lt_of_le hm (Nat.pow_le_pow_right (by decide) (by omega)))
   rw [this];decide
  rw [this,List.append_nil]
 rw [zco,zu9 (zeH s l) (zgG l) (fun c j n h=>ztj hs l c j n h) c hm7 h0,hb]
 rfl
def zCS (s:ClShop) (l:List ClBatch) (v0 v1 v2 v4 v8 v9:PV) (mm:AObj) (c:Int) (m:Nat) (p:Int×Int):Heap :=
 [.row 4 [.p v0],.row 1 [.p v1],.row 4 [.p v2],.row 1 [.ptr 6 1 0 0],.row 1 [.p v4],mm,zgW s l 5,.row 1 [.ptr 6 1 0 0],.row 2 [.p v8],.row 2 [.p v9],.row 1 [.func (.func 380) [] [.ptr 7 1 0 0,.ptr 10 1 0 0]],
  .row 2 [.p (zbM c m)],.row 2 [.p (.agg [.int .i64 0,.int .i64 0])],.row 2 [.p (zdC p)]]
attribute [go_sem] zCS
theorem zAG (a:Int) (k:Nat) (hk:k≤64):zcS .shr .i64 a (k:Int)=some (.int .i64 (a.fdiv (2^k))):=by
 have h1:¬ (k:Int)<0:=by omega
 have h2:min ((k:Int).toNat) (IntKind.bits .i64)=k:=by rw [Int.toNat_natCast];exact Nat.min_eq_left hk
 simp only [zcS,if_neg h1,h2]
theorem zop (a:Int) (k:Nat) (hk:k≤64):zcS .shl .i64 a (k:Int)=some (.int .i64 (IntKind.i64.wrap (a*2^k))):=by
 have h1:¬ (k:Int)<0:=by omega
 have h2:min ((k:Int).toNat) (IntKind.bits .i64)=k:=by rw [Int.toNat_natCast];exact Nat.min_eq_left hk
 simp only [zcS,if_neg h1,h2]
theorem zut {s:ClShop} {l:List ClBatch} {v0 v1 v2 v4 v8 v9:PV} {es:List (PV×PV)}:∀ o,o∈zg3 s l v0 v1 v2 v4 v8 v9 (.mp es)→zaI 11 o:=by
 intro o ho
 simp only [zg3,List.mem_cons,List.not_mem_nil,or_false] at ho
 rcases ho with rfl | rfl | rfl | rfl | rfl | rfl | rfl | rfl | rfl | rfl | rfl<;>simp [zgW,zaI,below,zdk,zcH,zb6,AObj.isDead,zg3]
set_option maxHeartbeats 4000000 in
theorem zF3 (s:ClShop) (l:List ClBatch) (v0 v1 v2 v4 v8 v9:PV) (hs:ShopOk s) (hb:∀ b,b∈l→BatchOk s b) (hl:l.length≤7):∀ (m:Nat),m<2^l.length→∀ (c:Int),0≤c∧c<s.colours.length →
  zap Tryz.prog 380 [.p (zbM c m),.ptr 7 1 0 0,.ptr 10 1 0 0] (zg3 s l v0 v1 v2 v4 v8 v9 (.memo (zdh s l)))
   (fun r h'=>r=.ret (.p (zdC (zco s l c m)))∧h'=zg3 s l v0 v1 v2 v4 v8 v9 (.memo (zdh s l))):=by
 intro m
 induction m using Nat.strongRecOn with
 |ind m ih =>
 intro hm c hc
 have hm7:m<128:=Nat.lt_of_lt_of_le hm (show 2^l.length≤2^7 from Nat.pow_le_pow_right (by decide) hl)
 refine zxy (id:=5) (φ:=zdh s l) rfl fun hg es hf=>?_
 show zap _ _ _ (zg3 s l v0 v1 v2 v4 v8 v9 (.mp es)) _
 refine za4 zad (fn:=Tryz.f380) (n:=82) (rs:=[.cell 4 418]) (by kernel_rfl) rfl rfl rfl zIa (Nat.le_of_ble_eq_true rfl) ?_
 simp only [go_sem,simprocAttr]
 cases h0:((m:Int)==0)
 rotate_left
 ·have h0':m=0:=by simpa using h0
  subst h0'
  simp only [go_sem,simprocAttr]
  refine ⟨_,_,rfl,rfl,?_,trivial,.inr rfl,?_,?_⟩
  ·exact fun o ho=>zut (es:=es) (s:=s) (l:=l) (v0:=v0) (v1:=v1) (v2:=v2) (v4:=v4) (v8:=v8) (v9:=v9) o ho
  ·rw [zco,znY]
  ·rw [zco,znY]
 have h0':m≠0:=by intro h;subst h;simp at h0
 simp only [go_sem,simprocAttr]
 rcases zrw (s:=s) (l:=l) c m hf with hk | hk
 rotate_left
 ·simp only [zbM,zdC] at hk
  simp only [zoW,zal,hk,go_sem,simprocAttr]
  refine ⟨_,_,rfl,rfl,?_,trivial,.inr rfl⟩
  exact fun o ho=>zut (es:=es) (s:=s) (l:=l) (v0:=v0) (v1:=v1) (v2:=v2) (v4:=v4) (v8:=v8) (v9:=v9) o ho
 simp only [zbM,zdC] at hk
 simp only [zoW,zal,hk,go_sem,simprocAttr]
 refine zcI (zyq (id:=5) hg hf rfl) ?_
 simp only [go_sem,simprocAttr]
 refine zbb [1,2,3,4,5,30,31] l (by omega) (τ:=Unit) (fun done rest _=>True) (fun done _=>[(32,.p (.int .i64 done.length))]) (fun done _=>zCS s l v0 v1 v2 v4 v8 v9 (.memo (zdh s l)) c m (pAt s l c m done.length)) () trivial ?_ ?_ ?_
 ·simp only [go_sem,simprocAttr]
  rfl
 ·intro _ _
  have hp:=zDs (c:=c) hs hl hm h0'
  rw [←hp]
  have hka:=zA4 s l c m
  simp only [zbM,zdC] at hka
  simp only [zoW,zal,hka,go_sem,simprocAttr]
  refine ⟨_,_,rfl,rfl,?_,trivial,.inl rfl⟩
  exact fun o ho=>(zuu (φ:=zdh s l) (s:=s) (l:=l) (v0:=v0) (v1:=v1) (v2:=v2) (v4:=v4) (v8:=v8) (v9:=v9) o ho).1
 ·intro done b r _ e1 _ hx hlt hnx
  have hbo:=hb b (by rw [e1];simp)
  have hdl:done.length<l.length:=by rw [e1];simp
  have hbit:=zBT hm7 (show done.length<7 by omega)
  have hlb:l[done.length]?=some b:=by rw [e1];simp
  have hsh:=zAG (m:Int) done.length (by omega)
  simp only [hlt,hx,hsh,↓hbit,go_sem,simprocAttr]
  cases hb0:m.testBit done.length
  ·have hpo:=zDr (s:=s) (l:=l) (c:=c) hb0
   simp only [hb0,go_sem,simprocAttr]
   refine zaA e1 () trivial ?_
   simp only [hnx,List.length_append,List.length_singleton,hpo,go_sem,simprocAttr]
  have hpo:=zFI (s:=s) (l:=l) (c:=c) hb0
  have hclr:=ztY hm7 (show done.length<7 by omega) hb0
  have hshl:=zop 1 done.length (by omega)
  simp only [hb0,go_sem,simprocAttr]
  refine zaO (zEo s l c b hs hbo hc) ?_ (.int _ _) ?_
  ·simp only [go_sem,simprocAttr]
  simp only [go_sem,simprocAttr]
  have hnd:zeH s l c done.length=zlH s c b:=by rw [zeH,hlb]
  by_cases hn:zes s c b<0
  ·have hd:decide (zes s c b<0)=true:=by simpa using hn
   have hp1:pAt s l c m (done.length+1)=pAt s l c m done.length:=by
    rw [hpo,zfn,hnd,zlH,if_pos hn]
   simp only [hd,go_sem,simprocAttr]
   refine zaA e1 () trivial ?_
   simp only [hnx,List.length_append,List.length_singleton,hp1,go_sem,simprocAttr]
   trace_state
  have hd:decide (zes s c b<0)=false:=by simpa using hn
  have hcol:zgG l done.length=b.colour:=by rw [zgG,hlb]
  have hno:zlH s c b=some (zes s c b*s.rinse):=by rw [zlH,if_neg hn]
  have hnB:=zqv hs hno
  have hpB:=zDp hs l b.colour (m-2^done.length)
  have hle:=(zjo m hm7 done.length (by omega) hb0).2
  have hpos:0<2^done.length:=Nat.pow_pos (by decide)
  have w1:IntKind.i64.wrap (zes s c b*s.rinse)=zes s c b*s.rinse:=zaj (by omega) (by omega)
  have w2:IntKind.i64.wrap (zes s c b*s.rinse+(zco s l b.colour (m-2^done.length)).1)=zes s c b*s.rinse+(zco s l b.colour (m-2^done.length)).1:=by
   unfold zga at hpB
   exact zaj (by omega) (by omega)
  have hp1:pAt s l c m (done.length+1)=if zes s c b*s.rinse+(zco s l b.colour (m-2^done.length)).1<(pAt s l c m done.length).1 then (zes s c b*s.rinse+(zco s l b.colour (m-2^done.length)).1,(done.length:Int)) else pAt s l c m done.length:=by
   rw [hpo,zfn,hnd,hno]
   simp only [hcol]
  simp only [zoW,zal,hd,↓hclr,hshl,go_sem,simprocAttr]
  refine zCd (base:=zg3 s l v0 v1 v2 v4 v8 v9 (.memo (zdh s l))) (ih (m-2^done.length) (by omega) (by omega) b.colour hbo.colour) zuu ?_ (zbn.app _ [_,_,_,_]) ?_
  ·simp only [go_sem,simprocAttr]
  simp only [zoW,zal,w1,w2,go_sem,simprocAttr]
  refine zau (zEy (pAt s l c m done.length) (zes s c b*s.rinse+(zco s l b.colour (m-2^done.length)).1,(done.length:Int))) rfl ?_
  simp only [zoW,zal,go_sem,simprocAttr]
  refine zaA e1 () trivial ?_
  simp only [hnx,List.length_append,List.length_singleton,hp1,go_sem,simprocAttr]
end Cl
end Abs
end Go.Proofs.YtahlnclapingiaaGreatDoor
namespace Go.Proofs.YtahlnclapingiaaGreatDoor
namespace Abs
namespace Cl
set_option maxRecDepth 4000
end Cl
end Abs
end Go.Proofs.YtahlnclapingiaaGreatDoor
namespace Go.Proofs.YtahlnclapingiaaGreatDoor
namespace Abs
namespace Cl
set_option maxRecDepth 4000
def zje (i:Nat):PV:=.int .i64 i
end Cl
end Abs
end Go.Proofs.YtahlnclapingiaaGreatDoor
namespace Go.Proofs.YtahlnclapingiaaGreatDoor
namespace Abs
namespace Cl
set_option maxRecDepth 4000
theorem zrV {need:Int→Nat→Option Int} {col:Nat→Int} {k:Nat} {c:Int} {l o:List Nat} {n:Int} (h:l.length≤k) (hb:zcO need col k c l=some (o,n)):o.Perm l:=by
 rw [←zrU need col k c l h] at hb
 exact zn0 k l o (zov need col c _ o n hb).1
theorem zsx (s:ClShop) (l:List ClBatch) (v0 v1 v2 v4:PV) (hs:ShopOk s) (hb:∀ b,b∈l→BatchOk s b) (hl:l.length≤7) (m:Nat) (hm:m<2^l.length) (c:Int) (hc:0≤c∧c<s.colours.length) :
  zap Tryz.prog 349 [.ptr 6 1 0 0,.p (zbM c m)] (zhW s l v0 v1 v2 v4 (.memo (zdh s l))) (fun r h'=>r=.ret (.p (zdC (zco s l c m)))∧h'=zhW s l v0 v1 v2 v4 (.memo (zdh s l))):=by
 refine za4 zad (fn:=Tryz.f349) (n:=10) (rs:=[.cell 4 418]) (by kernel_rfl) rfl rfl rfl zIq (Nat.le_of_ble_eq_true rfl) ?_
 simp only [go_sem,simprocAttr]
 refine zbk (zF3 s l v0 v1 v2 v4 (zbM c m) (.agg [.int .i64 0,.int .i64 0]) hs hb hl m hm c hc) ?_
 simp only [go_sem,simprocAttr]
 refine ⟨_,_,rfl,rfl,?_,trivial,rfl⟩
 exact fun o ho=>(zoR (φ:=zdh s l) (s:=s) (l:=l) (v0:=v0) (v1:=v1) (v2:=v2) (v4:=v4) o ho).1
theorem zF4 (s:ClShop) (l:List ClBatch) (v0 v1 v2 v4 v7:PV) (hs:ShopOk s) (hb:∀ b,b∈l→BatchOk s b) (hl:l.length≤7) (m:Nat) (hm:m<2^l.length) (c:Int) (hc:0≤c∧c<s.colours.length) (o:List Nat) (n:Int)
  (ho:zcO (zeH s l) (zgG l) 7 c (zcG m)=some (o,n)) :
  zap Tryz.prog 350 [.ptr 6 1 0 0,.p (zbM c m)] (zhW s l v0 v1 v2 v4 (.memo (zdh s l))++[.row 2 [.p v7]])
   (fun r h'=>r=.ret (.slice 9 o.length 0 o.length)∧∃ x,h'=zhW s l v0 v1 v2 v4 (.memo (zdh s l))++[.row 2 [.p v7],x,.row 1 (o.map fun i=>.p (zje i))]):=by
 refine zan zad (fn:=Tryz.f350) (n:=32) (rs:=[.tmp 4]) (by kernel_rfl) rfl rfl rfl zIp (Nat.le_of_ble_eq_true rfl) ?_
 simp only [go_sem,simprocAttr]
 refine zcQ 4 1 (by simp only [go_sem,simprocAttr]) ?_
 simp only [go_sem,simprocAttr]
 refine zfc [0,3] (σ:=(Int×Nat)×(List Nat×List Nat)) (fun q=>q.1.2<2^l.length∧(0≤q.1.1∧q.1.1<s.colours.length)∧o=q.2.1++q.2.2∧∃ n,zcO (zeH s l) (zgG l) 7 q.1.1 (zcG q.1.2)=some (q.2.2,n)) (fun q=>q.1.2)
  (fun q=>[(4,.slice 9 q.2.1.length 0 q.2.1.length)]) (fun q=>[.row 4 [.p v0],.row 1 [.p v1],.row 4 [.p v2],.row 1 [.ptr 6 1 0 0],.row 1 [.p v4],.memo (zdh s l),zgW s l 5,.row 2 [.p v7],.row 2 [.p (zbM q.1.1 q.1.2)],.row 1 (q.2.1.map fun i=>.p (zje i))]) ((c,m),([],o)) ⟨hm,hc,rfl,n,ho⟩ ?_ ?_
 ·simp only [go_sem,simprocAttr]
 rintro ⟨⟨d,k⟩,o1,o2⟩ ⟨hk,hd,hoo,n',hn'⟩
 dsimp only at hk hd hoo hn'
 have hk7:k<128:=Nat.lt_of_lt_of_le hk (show 2^l.length≤2^7 from Nat.pow_le_pow_right (by decide) hl)
 dsimp only
 by_cases h0:k=0
 ·subst h0
  rw [zrT] at hn'
  have:o2=[]:=by simp only [zcO,Option.some.injEq,Prod.mk.injEq] at hn';exact hn'.1.symm
  subst this
  rw [List.append_nil] at hoo
  subst hoo
  simp only [go_sem,simprocAttr]
 have hne:((k:Int) != 0)=true:=by simp;omega
 obtain ⟨j,o',n2,hj7,hbit,rfl,hp2,hb2⟩:=zxc (zeH s l) (zgG l) hk7 h0 hn'
 have hjl:j<l.length:=by
  rcases Nat.lt_or_ge j l.length with h | h
  ·exact h
  ·have:=Nat.testBit_lt_two_pow (Nat.lt_of_lt_of_le hk (Nat.pow_le_pow_right (by decide) h))
   rw [this] at hbit;cases hbit
 obtain ⟨b,hlb⟩:∃ b,l[j]?=some b:=⟨_,List.getElem?_eq_getElem hjl⟩
 have hbo:=hb b (List.mem_of_getElem? hlb)
 have hcol:zgG l j=b.colour:=by rw [zgG,hlb]
 have hclr:=ztY hk7 hj7 hbit
 have hshl:=zop 1 j (by omega)
 have hle:=(zjo k hk7 j hj7 hbit).2
 have hpos:0<2^j:=Nat.pow_pos (by decide)
 have jl:(j:Int)<(l.length:Int):=by omega
 have hol:o1.length+1≤zar:=by
  have h1:o.length≤7:=by rw [(zrV (zl8 m) ho).length_eq];exact zl8 m
  have h2:=congrArg List.length hoo
  simp at h2
  simp [zar];omega
 simp only [hne,go_sem,simprocAttr]
 refine zE0 (base:=zhW s l v0 v1 v2 v4 (.memo (zdh s l))) [_,_,_] (zsx s l v0 v1 v2 v4 hs hb hl k hk d hd) zoR ?_ rfl ?_
 ·simp only [go_sem,simprocAttr]
 have hp2':(zco s l d k).2=(j:Int):=hp2
 simp only [hp2',hol,jl,hlb,hshl,↓hclr,go_sem,simprocAttr]
 refine zb5 ((b.colour,k-2^j),(o1++[j],o')) ⟨by dsimp only;omega,hbo.colour,by rw [hoo];simp,n2,by rw [←hcol];exact hb2⟩ (by dsimp only;omega) ?_
 simp only [List.length_append,List.length_singleton,List.map_append,zje,go_sem,simprocAttr]
theorem zvl {P:Program} {f:FuncId} {args:List AV} {h:Heap} {R:AEnd→Heap→Prop} {id:Nat} {es:List (PV×PV)} {φ:PV→PV→Bool} (hg:zh1 φ) (hf:∀ p,p∈es→φ p.1 p.2=true) (hid:h[id]?=some (.mp es))
  (k:zap P f args (h.set id (.memo φ)) R):zap P f args h R:=by
 intro M0 m w cargs hS hargs
 obtain ⟨hk,hev⟩:=zlI (S:=⟨m,h,w⟩) hS hg hf hid
 have:=k M0 m w cargs hk (hargs.imp fun v a _ hr=>hev.keep hr)
 refine ⟨this.1,this.2.mono fun e w' hh=>?_⟩
 obtain ⟨r,h'',m',hR,hev',hk',hend⟩:=hh
 exact ⟨r,h'',m',hR,hev.trans (by simpa using hev'),hk',hend⟩
def zp7 (s:ClShop) (zaK:Int) (l:List ClBatch):Option (List Nat×Int):=zcO (zeH s l) (zgG l) 7 zaK (List.range l.length)
def zkr (s:ClShop) (zaK:Int) (l:List ClBatch):PV :=
 if zb1 s zaK l=0 then (match zp7 s zaK l with | some (o,n)=>.tuple [.slice 1 (o.map zje) false,.int .i64 n,.int .i64 0] | none=>.tuple [.nilslice,.int .i64 0,.int .i64 9])
 else .tuple [.nilslice,.int .i64 0,.int .i64 (zb1 s zaK l)]
theorem zuk:∀ n:Nat,n≤7→zcG (2^n-1)=List.range n:=by
 intro n hn
 match n,hn with
 |0,_=>decide
 |1,_=>decide
 |2,_=>decide
 |3,_=>decide
 |4,_=>decide
 |5,_=>decide
 |6,_=>decide
 |7,_=>decide
theorem zAw:∀ n:Nat,n≤7→IntKind.i64.wrap (IntKind.i64.wrap (1*2^n)-1)=((2^n-1:Nat):Int):=by
 intro n hn
 match n,hn with
 |0,_=>decide
 |1,_=>decide
 |2,_=>decide
 |3,_=>decide
 |4,_=>decide
 |5,_=>decide
 |6,_=>decide
 |7,_=>decide
def zCZ:Hints:=zcy [(15,.mut)]
theorem zFM:zaf zCZ Tryz.f303=true:=by kernel_rfl
theorem zCH (s:ClShop) (zaK:Int) (l:List ClBatch) (hl:l.length<1000000000):zep Tryz.prog 303 [s.pv,.int .i64 zaK,.slice 2 (l.map ClBatch.pv) false] (zkr s zaK l):=by
 refine zdD zad (fn:=Tryz.f303) (n:=38) (rs:=[.tmp 6,.tmp 7,.tmp 8]) (by kernel_rfl) rfl rfl rfl zFM (Nat.le_of_ble_eq_true rfl) ?_
 simp only [zCZ,go_sem,simprocAttr]
 refine zbf (zxA s zaK l _ hl) (fun v h hr=>?_) (fun v h hr=>?_)
 rotate_left
 ·rcases hr with ⟨_,_,_,_,hr,_⟩ | ⟨_,hr,_⟩<;>cases hr
 rcases hr with ⟨h0,hs,hb,hl7,hr,rfl⟩ | ⟨h0,hr,t,rfl⟩
 rotate_left
 ·cases hr
  have hne:(zb1 s zaK l != 0)=true:=by simpa using h0
  simp only [hne,zkr,if_neg h0,go_sem,simprocAttr]
 cases hr
 have hst:0≤zaK∧zaK<s.colours.length:=by
  unfold zb1 at h0
  split at h0
  ·split at h0
   ·rename_i h1 h2
    simp [gIn] at h2;omega
   ·cases h0
  ·contradiction
 have hshl:=zop 1 l.length (by omega)
 have hsub:=zAw l.length hl7
 have hlt:2^l.length-1<2^l.length:=by have:0<2^l.length:=Nat.pow_pos (by decide);omega
 have hpl:zco s l zaK (2^l.length-1)=zef (zp7 s zaK l):=by rw [zco,zf8,zuk _ hl7];rfl
 have hP:=zsx s l s.pv (.int .i64 zaK) s.pv (.int .i64 0) hs hb hl7 (2^l.length-1) hlt zaK hst
 have hP1:=zd4 (fun o ho=>(zoR (φ:=zdh s l) o ho).1) (args:=[.ptr 6 1 0 0,.p (zbM zaK (2^l.length-1))]) (by simp only [go_sem,simprocAttr]) (hP.mono fun r h' hr=>⟨by rw [hr.2],hr⟩) [.row 2 [.p (zbM zaK (2^l.length-1))]]
 simp only [hshl,hsub,go_sem,simprocAttr]
 refine zbk (v:=.p (zdC (zco s l zaK (2^l.length-1)))) (h':=zhW s l s.pv (.int .i64 zaK) s.pv (.int .i64 0) (.memo (zdh s l))++[.row 2 [.p (zbM zaK (2^l.length-1))]]) (zvl (id:=5) (φ:=zdh s l) (es:=[]) (zA3 s l) (by simp) rfl (hP1.mono fun r h' hr=>?_)) ?_
 ·obtain ⟨h1,e,_,hr⟩:=hr
  exact ⟨hr.1,by rw [e,hr.2]⟩
 cases hbo:zp7 s zaK l with
 |none =>
  have hp1:(zco s l zaK (2^l.length-1)).1=1099511627776:=by rw [hpl,hbo];rfl
  simp only [hp1,zkr,if_pos h0,hbo,go_sem,simprocAttr]
 |some q =>
  obtain ⟨o,n⟩:=q
  have hnB:=zht (zeH s l) (zgG l) (fun c j n h=>ztj hs l c j n h) 7 zaK (List.range l.length) o n hbo
  have hp1:(zco s l zaK (2^l.length-1)).1=n:=by rw [hpl,hbo];rfl
  have hd:decide (1099511627776≤n)=false:=by simp;omega
  have hO:=zF4 s l s.pv (.int .i64 zaK) s.pv (.int .i64 0) (zbM zaK (2^l.length-1)) hs hb hl7 (2^l.length-1) hlt zaK hst o n (by rw [zuk _ hl7];exact hbo)
  simp only [hp1,hd,go_sem,simprocAttr]
  refine zbf hO (fun v h hr=>?_) (fun v h hr=>?_)
  rotate_left
  ·cases hr.1
  obtain ⟨hr,x,rfl⟩:=hr
  cases hr
  simp only [zkr,if_pos h0,hbo,go_sem,simprocAttr]
  rw [zgi 6 _ zje (fun _=>rfl)]
  simp
  exact List.take_of_length_le (by simp)
end Cl
end Abs
end Go.Proofs.YtahlnclapingiaaGreatDoor
namespace Go.Proofs.YtahlnclapingiaaGreatDoor
namespace Abs
namespace Cl
set_option maxRecDepth 4000
theorem zlZ {α β:Type} {f:α→List β} {c:Nat}:∀ (l:List α),(∀ x,x∈l→(f x).length≤c)→(l.flatMap f).length≤l.length*c
 |[],_=>by simp
 |x::l,h=>by
  have:=zlZ l fun y hy=>h y (by simp [hy])
  have:=h x (by simp)
  rw [List.flatMap_cons,List.length_append,List.length_cons,Nat.succ_mul]
  omega
theorem zDM {F:AV→Option PV} (hF:∀ v,F (.p v)=some v) (xs ys:List PV):zaD F (xs.map AV.p++ys.map AV.p)=some (xs++ys):=by
 have:=zbV hF id (xs++ys)
 simpa using this
end Cl
end Abs
end Go.Proofs.YtahlnclapingiaaGreatDoor
namespace Go.Proofs.YtahlnclapingiaaGreatDoor
namespace Abs
namespace Cl
set_option maxRecDepth 4000
end Cl
end Abs
end Go.Proofs.YtahlnclapingiaaGreatDoor
namespace Go.Proofs.YtahlnclapingiaaGreatDoor
namespace Abs
namespace Wx
def zoM (x y:Span) (e r n:Int):Bool:=r==-1||(decide (n*x.lo+(1000-n)*y.lo≤1000*(r+e))&&decide (1000*(r-e)≤n*x.hi+(1000-n)*y.hi))
def zhc:List WxProp→List Span→List Span→List Int→Int→Bool
 |p::ps,x::xs,y::ys,r::rs,n=>zoM x y p.error r n&&zhc ps xs ys rs n
 |_,_,_,_,_=>true
def down (a b:Int):Int:=a / b
def zbx (s:Span) (q:Int×Int):Span :=
 if 0<q.1 then ⟨s.lo,if (-q.2) / q.1<s.hi then (-q.2) / q.1 else s.hi⟩
 else if q.1<0 then ⟨if s.lo < -((-q.2) / (-q.1)) then -((-q.2) / (-q.1)) else s.lo,s.hi⟩
 else if 0<q.2 then ⟨s.lo,s.lo-1⟩ else s
theorem zq9 (s:Span) (q:Int×Int) (n:Int):((zbx s q).lo≤n∧n≤(zbx s q).hi)↔(s.lo≤n∧n≤s.hi)∧n*q.1+q.2≤0:=by
 unfold zbx
 split
 ·rename_i h
  have k:=Int.le_ediv_iff_mul_le (a:=n) (b:=-q.2) h
  dsimp only
  split<;>omega
 ·split
  ·rename_i h1 h2
   have k:=Int.le_ediv_iff_mul_le (a:=-n) (b:=-q.2) (show 0 < -q.1 by omega)
   rw [Int.neg_mul,Int.mul_neg,Int.neg_neg] at k
   dsimp only
   split<;>omega
  ·rename_i h1 h2
   have h0:q.1=0:=by omega
   rw [h0,Int.mul_zero]
   split
   ·dsimp only;omega
   ·omega
def bounds (x y:Span) (e r:Int):List (Int×Int):=[(x.lo-y.lo,1000*(y.lo-r-e)),(y.hi-x.hi,1000*(r-e-y.hi))]
def zjD (s:Span) (x y:Span) (e r:Int):Span:=if r=-1 then s else zbx (zbx s (x.lo-y.lo,1000*(y.lo-r-e))) (y.hi-x.hi,1000*(r-e-y.hi))
theorem zwX (s x y:Span) (e r n:Int):((zjD s x y e r).lo≤n∧n≤(zjD s x y e r).hi)↔(s.lo≤n∧n≤s.hi)∧zoM x y e r n=true:=by
 unfold zjD zoM
 split
 ·rename_i h;simp [h]
 ·rename_i h
  rw [zq9,zq9]
  simp only [Bool.or_eq_true,beq_iff_eq,h,false_or,Bool.and_eq_true,decide_eq_true_eq]
  have e1:n*(x.lo-y.lo)=n*x.lo-n*y.lo:=Int.mul_sub _ _ _
  have e2:n*(y.hi-x.hi)=n*y.hi-n*x.hi:=Int.mul_sub _ _ _
  have e3:(1000-n)*y.lo=1000*y.lo-n*y.lo:=Int.sub_mul _ _ _
  have e4:(1000-n)*y.hi=1000*y.hi-n*y.hi:=Int.sub_mul _ _ _
  rw [e1,e2,e3,e4]
  omega
def zdQ:Span→List WxProp→List Span→List Span→List Int→Span
 |s,p::ps,x::xs,y::ys,r::rs=>zdQ (zjD s x y p.error r) ps xs ys rs
 |s,_,_,_,_=>s
theorem zkx (n:Int):∀ (ps:List WxProp) (xs ys:List Span) (rs:List Int) (s:Span),((zdQ s ps xs ys rs).lo≤n∧n≤(zdQ s ps xs ys rs).hi)↔(s.lo≤n∧n≤s.hi)∧zhc ps xs ys rs n=true
 |[],_,_,_,s=>by simp [zdQ,zhc]
 |p::ps,[],_,_,s=>by simp [zdQ,zhc]
 |p::ps,x::xs,[],_,s=>by simp [zdQ,zhc]
 |p::ps,x::xs,y::ys,[],s=>by simp [zdQ,zhc]
 |p::ps,x::xs,y::ys,r::rs,s=>by
  rw [zdQ,zkx n ps xs ys rs,zwX,zhc,Bool.and_eq_true,and_assoc]
def zfe (S:Int→Prop) (p:Span):Prop:=(∀ v,S v→p.lo≤v∧v≤p.hi)∧((∀ v,¬ S v)∧p=⟨1001,-1⟩∨S p.lo∧S p.hi)
def zeN (p l:Span):Span:=⟨if l.lo<p.lo then l.lo else p.lo,if p.hi<l.hi then l.hi else p.hi⟩
theorem zfe.join {S I:Int→Prop} {p l:Span} (hp:zfe S p) (hI:∀ v,I v→l.lo≤v∧v≤l.hi) (h1:I l.lo) (h2:I l.hi) (h0:0≤l.lo) (h3:l.hi≤1000):zfe (fun v=>S v∨I v) (zeN p l):=by
 obtain ⟨a,b⟩:=hp
 have hl:=hI _ h1
 unfold zeN
 refine ⟨fun v hv=>?_,.inr ?_⟩
 ·dsimp only
  rcases hv with hv | hv
  ·have:=a v hv;constructor<;>split<;>omega
  ·have:=hI v hv;constructor<;>split<;>omega
 ·rcases b with ⟨e,rfl⟩ | ⟨c,d⟩
  ·dsimp only
   rw [if_pos (by omega),if_pos (by omega)]
   exact ⟨.inr h1,.inr h2⟩
  ·dsimp only
   constructor<;>split
   ·exact .inr h1
   ·exact .inl c
   ·exact .inr h2
   ·exact .inl d
theorem zfe.same {S T:Int→Prop} {p:Span} (hp:zfe S p) (h:∀ v,T v↔S v):zfe T p:=by
 have:T=S:=funext fun v=>propext (h v)
 rw [this];exact hp
def joinL {α:Type} (f:α→Option Span):List α→Span→Span
 |[],p=>p
 |x::l,p=>joinL f l (match f x with | some s=>zeN p s | none=>p)
theorem zfe.joinL {α:Type} {f:α→Option Span} {I:α→Int→Prop} (hf:∀ x,match f x with
   |some s=>(∀ v,I x v→s.lo≤v∧v≤s.hi)∧I x s.lo∧I x s.hi∧0≤s.lo∧s.hi≤1000
   |none=>∀ v,¬ I x v) :
  ∀ (l:List α) {S:Int→Prop} {p:Span},zfe S p→zfe (fun v=>S v∨∃ x,x∈l∧I x v) (Wx.joinL f l p)
 |[],S,p,h=>h.same fun v=>by simp
 |x::l,S,p,h=>by
  have hx:=hf x
  rw [Wx.joinL]
  cases hs:f x with
  |none =>
   rw [hs] at hx
   refine (zfe.joinL hf l h).same fun v=>?_
   constructor
   ·rintro (h | ⟨y,hy,h⟩)
    ·exact .inl h
    ·rcases List.mem_cons.1 hy with rfl | hy
     ·exact absurd h (hx v)
     ·exact .inr ⟨y,hy,h⟩
   ·rintro (h | ⟨y,hy,h⟩)
    ·exact .inl h
    ·exact .inr ⟨y,by simp [hy],h⟩
  |some s =>
   rw [hs] at hx
   obtain ⟨h1,h2,h3,h4,h5⟩:=hx
   refine (zfe.joinL hf l (h.join h1 h2 h3 h4 h5)).same fun v=>?_
   constructor
   ·rintro (h | ⟨y,hy,h⟩)
    ·exact .inl (.inl h)
    ·rcases List.mem_cons.1 hy with rfl | hy
     ·exact .inl (.inr h)
     ·exact .inr ⟨y,hy,h⟩
   ·rintro ((h | h) | ⟨y,hy,h⟩)
    ·exact .inl h
    ·exact .inr ⟨x,by simp,h⟩
    ·exact .inr ⟨y,by simp [hy],h⟩
section
variable (ex:Nat→Nat→Int→Bool) (kind:Nat)
def zeB (q:Nat×Nat) (l:Span):Span:=if kind=q.1 then l else if kind=q.2 then ⟨1000-l.hi,1000-l.lo⟩ else ⟨0,0⟩
def ztb (many:Nat):List (Nat×Nat):=(List.range many).flatMap fun a=>(List.range (a+1)).map fun b=>(a,b)
def zmJ (s:Span):Option Span:=if s.lo≤s.hi then some s else none
def zHD (sp:Nat×Nat→Span) (many:Nat):Span:=joinL (fun q=>(zmJ (sp q)).map (zeB kind q)) (ztb many) ⟨1001,-1⟩
end
end Wx
end Abs
end Go.Proofs.YtahlnclapingiaaGreatDoor
