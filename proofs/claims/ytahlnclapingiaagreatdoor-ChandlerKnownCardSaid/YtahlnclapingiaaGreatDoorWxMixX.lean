/-
  CONTRACTS: mixtures of which a sample can consist; Sold, in the program. No conditions but
  CONTRACTS: wax.Check and Sold in the reference. No conditions but those in the theorems' h
  CONTRACTS: wax.Sold in the reference; it is the program's. No conditions but those in the 
  CONTRACTS: wax.Sold in the reference: from which to which parts; it is the program's. No c
  CONTRACTS: wax.Sold in the reference; it is the program's. No conditions but those in the 
  CONTRACTS: hour.Check, in the program and in the reference: both come to 'hrCheck'. No con
  CONTRACTS: what is wrong with a test, with a shop and tests: in the program and in the ref
-/
import Derived.Test.YtahlnclapingiaaGreatDoorWxSold
import Derived.Test.YtahlnclapingiaaGreatDoorLibNameX
set_option linter.unusedSimpArgs false
set_option linter.unusedVariables false
namespace Go.Proofs.YtahlnclapingiaaGreatDoor
namespace Abs
namespace Wx
set_option maxRecDepth 4000
def zeJ (t:WxTable) (rs:List Int) (q:Nat×Nat):Span :=
 match t.kinds[q.1]?,t.kinds[q.2]? with
 |some a,some b=>zia t rs a b (if q.1=q.2 then 1000 else 1) (if q.1=q.2 then 1000 else 999)
 |_,_=>⟨1,0⟩
def zkE (t:WxTable) (rs:List Int) (q:Nat×Nat):List ((Nat×Nat)×Span):=match zmJ (zeJ t rs q) with | some s=>[(q,s)] | none=>[]
def zlz (t:WxTable) (rs:List Int) (a:Nat):Nat→Nat→List ((Nat×Nat)×Span)
 |_,0=>[]
 |b,c+1=>zkE t rs (a,b)++zlz t rs a (b+1) c
def zkt (t:WxTable) (rs:List Int):Nat→Nat→List ((Nat×Nat)×Span)
 |_,0=>[]
 |a,c+1=>zlz t rs a 0 (a+1)++zkt t rs (a+1) c
def zgF (t:WxTable) (rs:List Int):List ((Nat×Nat)×Span):=zkt t rs 0 t.kinds.length
def zgs (m:(Nat×Nat)×Span):PV:=.agg [.int .i64 m.1.1,.int .i64 m.1.2,.int .i64 m.2.lo,.int .i64 m.2.hi]
attribute [go_sem] zgs
theorem zmD (t:WxTable) (rs:List Int) (a:Nat):∀ (c b:Nat),zlz t rs a b c=(List.range' b c).flatMap fun b=>zkE t rs (a,b)
 |0,b=>rfl
 |c+1,b=>by rw [zlz,zmD t rs a c (b+1),List.range'_succ,List.flatMap_cons]
theorem zAa (t:WxTable) (rs:List Int):∀ (c a:Nat),zkt t rs a c=((List.range' a c).flatMap fun a=>(List.range (a+1)).map fun b=>(a,b)).flatMap (zkE t rs)
 |0,a=>rfl
 |c+1,a=>by
  rw [zkt,zAa t rs c (a+1),List.range'_succ,List.flatMap_cons,List.flatMap_append,zmD,List.flatMap_map,List.range_eq_range']
theorem zwb (t:WxTable) (rs:List Int):zgF t rs=(ztb t.kinds.length).flatMap (zkE t rs):=by
 rw [zgF,zAa,ztb,List.range_eq_range']
theorem zpB (t:WxTable) (rs:List Int) (kind:Nat):∀ (l:List (Nat×Nat)) (p:Span),(l.flatMap (zkE t rs)).foldl (fun p m=>zeN p (zeB kind m.1 m.2)) p=joinL (fun q=>(zmJ (zeJ t rs q)).map (zeB kind q)) l p
 |[],p=>rfl
 |q::l,p=>by
  rw [List.flatMap_cons,List.foldl_append,zpB t rs kind l,joinL]
  unfold zkE
  cases zmJ (zeJ t rs q)<;>rfl
def zhC (t:WxTable) (rs:List Int):PV:=.func (.func 346) [] [.ptr 1 [zjJ t rs] 0 0]
theorem zzO (t:WxTable) (rs:List Int):zae Tryz.prog 297 [zjJ t rs] (zhC t rs):=by
 refine zbT zad (fn:=Tryz.f297) (n:=4) (rs:=[.tmp 2]) (by kernel_rfl) rfl rfl rfl zIW (Nat.le_of_ble_eq_true rfl) ?_
 simp only [zhC,go_sem,simprocAttr]
set_option maxHeartbeats 4000000 in
theorem zzq (t:WxTable) (rs:List Int) (ht:TableOk t) (hrs:rs.length=t.props.length) (hro:rs.all zfD=true):zyk Tryz.prog (zhC t rs) 1 ((zgF t rs).map fun m=>[zgs m]):=by
 refine ⟨fun a ha=>?_,_,_,_,rfl,fun id Inv Fin h0 hid hy hi=>?_⟩
 ·obtain ⟨q,_,rfl⟩:=List.mem_map.1 ha
  rfl
 have hkl:=ht.kinds
 refine zan zad (fn:=Tryz.f346) (n:=47) (rs:=[]) (by kernel_rfl) rfl rfl rfl zIt (Nat.le_of_ble_eq_true rfl) ?_
 simp only [go_sem,simprocAttr]
 refine zcZ [0,1,13] (σ:=Nat×List ((Nat×Nat)×Span)×Heap×Heap)
  (fun q=>q.1≤t.kinds.length∧zgF t rs=q.2.1++zkt t rs q.1 (t.kinds.length-q.1)∧Inv q.2.1.length q.2.2.1∧q.2.2.1.length=h0.length) (fun q=>t.kinds.length-q.1)
  (fun q=>[(14,.p (.int .i64 q.1))]) (fun q=>q.2.2.1++q.2.2.2) (0,[],h0,[]) ⟨Nat.zero_le _,rfl,hi,rfl⟩ (by simp) ?_ ?_
 ·simp only [go_sem,simprocAttr]
 rintro ⟨i,pre,lo,mid⟩ ⟨h1,h2,hI,hlo⟩
 dsimp only at h1 h2 hI hlo
 rcases Nat.eq_or_lt_of_le h1 with he | hlt0
 ·have hlt:decide ((i:Int)<(t.kinds.length:Int))=false:=by simp;omega
  rw [he,Nat.sub_self,zkt,List.append_nil] at h2
  simp only [hlt,go_sem,simprocAttr]
  refine ⟨lo,mid,rfl,hlo,.inl ?_⟩
  rw [h2];exact hI
 have hlt:decide ((i:Int)<(t.kinds.length:Int))=true:=by simp;omega
 have hsub:t.kinds.length-i=(t.kinds.length-(i+1))+1:=by omega
 rw [hsub,zkt] at h2
 have hw:IntKind.i64.wrap ((i:Int)+1)=((i+1:Nat):Int):=za9 (by omega) (by simp [zar];omega) (by omega)
 obtain ⟨a,ha⟩:∃ a,t.kinds[i]?=some a:=⟨_,List.getElem?_eq_getElem hlt0⟩
 simp only [hlt,hw,go_sem,simprocAttr]
 refine zcZ [0,1,3,13,14,18] (σ:=Nat×List ((Nat×Nat)×Span)×Heap×Heap)
  (fun q=>q.1≤i+1∧zgF t rs=q.2.1++(zlz t rs i q.1 (i+1-q.1)++zkt t rs (i+1) (t.kinds.length-(i+1)))∧Inv q.2.1.length q.2.2.1∧q.2.2.1.length=h0.length) (fun q=>i+1-q.1)
  (fun q=>[(19,.p (.int .i64 q.1))]) (fun q=>q.2.2.1++q.2.2.2) (0,pre,lo,mid) ⟨Nat.zero_le _,h2,hI,hlo⟩ rfl ?_ ?_
 ·simp only [go_sem,simprocAttr]
 clear h2 hI hlo
 rintro ⟨j,pre,lo,mid⟩ ⟨g1,g2,hI,hlo⟩
 dsimp only at g1 g2 hI hlo
 rcases Nat.eq_or_lt_of_le g1 with he | hltj
 ·have hl2:decide ((j:Int)<((i+1:Nat):Int))=false:=by simp;omega
  rw [he,Nat.sub_self,zlz,List.nil_append] at g2
  simp only [hl2,go_sem,simprocAttr]
  refine zaS (i+1,pre,lo,mid) ⟨by omega,g2,hI,hlo⟩ (by dsimp only;omega) rfl ?_
  simp only [hw,go_sem,simprocAttr]
 have hl2:decide ((j:Int)<((i+1:Nat):Int))=true:=by simp;omega
 have hsub2:i+1-j=(i+1-(j+1))+1:=by omega
 rw [hsub2,zlz] at g2
 have hwj:IntKind.i64.wrap ((j:Int)+1)=((j+1:Nat):Int):=za9 (by omega) (by simp [zar];omega) (by omega)
 obtain ⟨b,hb⟩:∃ b,t.kinds[j]?=some b:=⟨_,List.getElem?_eq_getElem (by omega)⟩
 have hsame:((i:Int)==(j:Int))=decide (i=j):=by rw [Bool.eq_iff_iff];simp;omega
 have gg:=zgf hlo
 have ss:=zhK hlo
 have mg:=zgg (lo:=mid) rfl
 have ms:=zhL (lo:=mid) rfl
 have mix:zeJ t rs (i,j)=zia t rs a b (if i=j then 1000 else 1) (if i=j then 1000 else 999):=by simp only [zeJ,ha,hb]
 have fin:∀ {s:Span},zeJ t rs (i,j)=s→(s.lo≤s.hi→zkE t rs (i,j)=[((i,j),s)])∧(¬ s.lo≤s.hi→zkE t rs (i,j)=[]):=by
  rintro s rfl
  unfold zkE zmJ
  constructor
  ·intro h;rw [if_pos h]
  ·intro h;rw [if_neg h]
 have cP:=fun lo' hi' h1 h2=>zGy t rs i j a b lo' hi' ht hrs hro ha hb h1 h2
 rw [show (if i=j then (1000:Int) else 999)=if i=j then 1000 else 999 from rfl] at mix
 by_cases hij:i=j
 ·rw [if_pos hij,if_pos hij] at mix
  have hd:decide (i=j)=true:=by simpa using hij
  obtain ⟨f1,f2⟩:=fin mix
  simp only [hl2,hsame,hd,go_sem,simprocAttr]
  (first | refine zab (cP 1000 1000 (by omega) (by omega)) rfl ?_ | refine zau (cP 1000 1000 (by omega) (by omega)) rfl ?_)
  generalize zia t rs a b 1000 1000=s at mix f1 f2
  simp only [List.append_assoc,List.length_append,List.length_singleton,hlo,gg,ss,mg,ms,go_sem,simprocAttr]
  by_cases hc:s.lo≤s.hi
  ·have hc':decide (s.lo≤s.hi)=true:=by simpa using hc
   have g2':=g2
   rw [f1 hc] at g2'
   have hget:((zgF t rs).map fun m=>[zgs m])[pre.length]?=some [zgs ((i,j),s)]:=by rw [g2'];simp
   simp only [List.append_assoc,List.length_append,List.length_singleton,hlo,gg,ss,mg,ms,hc',go_sem,simprocAttr]
   refine ziV (hy pre.length _ lo (mid++[AObj.row 2 [AV.p s.pv]]) hget hI hlo) (fun v h' hr=>?_) (fun v h' hr=>?_)
   rotate_left
   ·obtain ⟨_,_,_,_,hr⟩:=hr
    rcases hr with ⟨hr,_⟩ | ⟨hr,_⟩<;>cases hr
   obtain ⟨lo3,ext,rfl,hlo3,hr⟩:=hr
   rcases hr with ⟨hr,hI3⟩ | ⟨hr,hF⟩
   ·cases hr
    simp only [go_sem,simprocAttr]
    refine zaS (j+1,pre++[((i,j),s)],lo3,mid++[.row 2 [.p s.pv]]++ext) ⟨by omega,by rw [g2'];simp,by simpa using hI3,hlo3⟩ (by dsimp only;omega) (by simp [List.append_assoc,Span.pv]) ?_
    simp only [hwj,go_sem,simprocAttr]
   ·cases hr
    simp only [go_sem,simprocAttr]
    exact ⟨lo3,mid++[.row 2 [.p s.pv]]++ext,by simp [List.append_assoc,Span.pv],hlo3,.inr hF⟩
  ·have hc':decide (s.lo≤s.hi)=false:=by simpa using hc
   rw [f2 hc,List.nil_append] at g2
   simp only [List.append_assoc,List.length_append,List.length_singleton,hlo,gg,ss,mg,ms,hc',go_sem,simprocAttr]
   refine zaS (j+1,pre,lo,mid++[.row 2 [.p s.pv]]) ⟨by omega,g2,hI,hlo⟩ (by dsimp only;omega) (by simp [List.append_assoc,Span.pv]) ?_
   simp only [hwj,go_sem,simprocAttr]
 ·rw [if_neg hij,if_neg hij] at mix
  have hd:decide (i=j)=false:=by simpa using hij
  obtain ⟨f1,f2⟩:=fin mix
  simp only [hl2,hsame,hd,go_sem,simprocAttr]
  (first | refine zab (cP 1 999 (by omega) (by omega)) rfl ?_ | refine zau (cP 1 999 (by omega) (by omega)) rfl ?_)
  generalize zia t rs a b 1 999=s at mix f1 f2
  simp only [List.append_assoc,List.length_append,List.length_singleton,hlo,gg,ss,mg,ms,go_sem,simprocAttr]
  by_cases hc:s.lo≤s.hi
  ·have hc':decide (s.lo≤s.hi)=true:=by simpa using hc
   have g2':=g2
   rw [f1 hc] at g2'
   have hget:((zgF t rs).map fun m=>[zgs m])[pre.length]?=some [zgs ((i,j),s)]:=by rw [g2'];simp
   simp only [List.append_assoc,List.length_append,List.length_singleton,hlo,gg,ss,mg,ms,hc',go_sem,simprocAttr]
   refine ziV (hy pre.length _ lo (mid++[AObj.row 2 [AV.p s.pv]]) hget hI hlo) (fun v h' hr=>?_) (fun v h' hr=>?_)
   rotate_left
   ·obtain ⟨_,_,_,_,hr⟩:=hr
    rcases hr with ⟨hr,_⟩ | ⟨hr,_⟩<;>cases hr
   obtain ⟨lo3,ext,rfl,hlo3,hr⟩:=hr
   rcases hr with ⟨hr,hI3⟩ | ⟨hr,hF⟩
   ·cases hr
    simp only [go_sem,simprocAttr]
    refine zaS (j+1,pre++[((i,j),s)],lo3,mid++[.row 2 [.p s.pv]]++ext) ⟨by omega,by rw [g2'];simp,by simpa using hI3,hlo3⟩ (by dsimp only;omega) (by simp [List.append_assoc,Span.pv]) ?_
    simp only [hwj,go_sem,simprocAttr]
   ·cases hr
    simp only [go_sem,simprocAttr]
    exact ⟨lo3,mid++[.row 2 [.p s.pv]]++ext,by simp [List.append_assoc,Span.pv],hlo3,.inr hF⟩
  ·have hc':decide (s.lo≤s.hi)=false:=by simpa using hc
   rw [f2 hc,List.nil_append] at g2
   simp only [List.append_assoc,List.length_append,List.length_singleton,hlo,gg,ss,mg,ms,hc',go_sem,simprocAttr]
   refine zaS (j+1,pre,lo,mid++[.row 2 [.p s.pv]]) ⟨by omega,g2,hI,hlo⟩ (by dsimp only;omega) (by simp [List.append_assoc,Span.pv]) ?_
   simp only [hwj,go_sem,simprocAttr]
def zCo (t:WxTable) (rs:List Int) (kind:Nat):Span:=zHD kind (zeJ t rs) t.kinds.length
def zhf (purity:Int) (p:Span):Span×Int×Int:=if p.hi<0 then (⟨0,0⟩,0,9) else if purity≤p.lo then (p,1,0) else if p.hi<purity then (p,0,0) else (p,2,0)
def zaQ (t:WxTable) (rs:List Int) (kind:Int):Span×Int×Int :=
 if zct t rs=0 then (if gIn kind 0 ((t.kinds.length:Int)-1)=true then zhf t.purity (zCo t rs kind.toNat) else (⟨0,0⟩,0,4)) else (⟨0,0⟩,0,zct t rs)
theorem zrg {t:WxTable} {rs:List Int} (h:zct t rs=0):TableOk t∧rs.length=t.props.length∧rs.all zfD=true:=by
 unfold zct at h
 split at h
 ·rename_i h1
  split at h
  ·rename_i h2
   split at h
   ·rename_i h3;exact ⟨zsN h1,h2,h3⟩
   ·cases h
  ·cases h
 ·contradiction
theorem zto {t:WxTable} {rs:List Int} {q:Nat×Nat} (h:(zeJ t rs q).lo≤(zeJ t rs q).hi):1≤(zeJ t rs q).lo∧(zeJ t rs q).hi≤1000:=by
 unfold zeJ at h ⊢
 split at h
 ·rename_i a b ha hb
  unfold zia at h ⊢
  have h1:=(zkx _ t.props a.props b.props rs _).1 ⟨Int.le_refl _,h⟩
  have h2:=(zkx _ t.props a.props b.props rs _).1 ⟨h,Int.le_refl _⟩
  dsimp only at h1 h2
  by_cases hq:q.1=q.2
  ·simp only [hq,if_true] at h1 h2 ⊢;omega
  ·simp only [hq,if_false] at h1 h2 ⊢;omega
 ·dsimp only at h;omega
theorem zwa {t:WxTable} {rs:List Int}:∀ m,m∈zgF t rs→1≤m.2.lo∧m.2.lo≤m.2.hi∧m.2.hi≤1000:=by
 intro m hm
 rw [zwb,List.mem_flatMap] at hm
 obtain ⟨q,_,hm⟩:=hm
 unfold zkE zmJ at hm
 by_cases hc:(zeJ t rs q).lo≤(zeJ t rs q).hi
 ·rw [if_pos hc] at hm
  have:=zto hc
  rw [List.mem_singleton.1 hm]
  dsimp only;omega
 ·rw [if_neg hc] at hm;cases hm
def zg4 (p:Span):Prop:=0≤p.lo∧p.lo≤1001∧-1≤p.hi∧p.hi≤1000
theorem zwl {p l:Span} (h:zg4 p) (hl:0≤l.lo∧l.lo≤1000∧0≤l.hi∧l.hi≤1000):zg4 (zeN p l):=by
 unfold zg4 zeN at *
 dsimp only
 refine ⟨?_,?_,?_,?_⟩<;>split<;>omega
set_option maxHeartbeats 4000000 in
theorem zK5 (t:WxTable) (rs:List Int) (kind:Int) (hrs0:rs.length<1000000000):zae Tryz.prog 204 [t.pv,.slice 1 (rs.map zay) false,.int .i64 kind] (.tuple [(zaQ t rs kind).1.pv,.int .i64 (zaQ t rs kind).2.1,.int .i64 (zaQ t rs kind).2.2]):=by
 refine zaa zad (fn:=Tryz.f204) (n:=86) (rs:=[.cell 6 30,.tmp 7,.tmp 8]) (by kernel_rfl) rfl rfl rfl zJK (Nat.le_of_ble_eq_true rfl) ?_
 simp only [go_sem,simprocAttr]
 refine zab (zxP t rs hrs0) rfl ?_
 simp only [go_sem,simprocAttr]
 cases h0:(zct t rs != 0)
 rotate_left
 ·have h0':¬ zct t rs=0:=by simpa using h0
  simp only [zaQ,if_neg h0',go_sem,simprocAttr]
 have h0':zct t rs=0:=by simpa using h0
 obtain ⟨ht,hrs,hro⟩:=zrg h0'
 have hkl:=ht.kinds
 have hw:IntKind.i64.wrap ((t.kinds.length:Int)-1)=(t.kinds.length:Int)-1:=zaj (by omega) (by omega)
 simp only [hw,go_sem,simprocAttr]
 refine zab (zcF 0 _ [_] true (by simp)) rfl ?_
 simp only [List.any_cons,List.any_nil,Bool.or_false,go_sem,simprocAttr]
 cases h1:gIn kind 0 ((t.kinds.length:Int)-1)
 ·simp only [zaQ,h0',h1,go_sem,simprocAttr]
 have hk:0≤kind∧kind≤(t.kinds.length:Int)-1:=by simpa [gIn] using h1
 obtain ⟨k,rfl⟩:∃ k:Nat,kind=(k:Int):=⟨kind.toNat,by omega⟩
 have hsp:zaQ t rs (k:Int)=zhf t.purity ((zgF t rs).foldl (fun p m=>zeN p (zeB k m.1 m.2)) ⟨1001,-1⟩):=by
  rw [zaQ,if_pos h0',if_pos h1,zwb,zpB];rfl
 rw [hsp]
 simp only [if_pos h0',go_sem,simprocAttr]
 refine zab (zzO t rs) rfl ?_
 simp only [zhC,go_sem,simprocAttr]
 have fold_B:∀ (l:List ((Nat×Nat)×Span)) (p:Span),zg4 p→(∀ m,m∈l→1≤m.2.lo∧m.2.lo≤m.2.hi∧m.2.hi≤1000)→zg4 (l.foldl (fun p m=>zeN p (zeB k m.1 m.2)) p):=by
  intro l
  induction l with
  |nil=>intro p h _;exact h
  |cons m l ih =>
   intro p h hm
   refine ih _ (zwl h ?_) fun m' h'=>hm m' (by simp [h'])
   have:=hm m (by simp)
   unfold zeB
   split
   ·omega
   ·split<;>dsimp only<;>omega
 have hB0:zg4 ⟨1001,-1⟩:=by unfold zg4;decide
 refine zwL (l:=(zgF t rs).map fun m=>[zgs m]) (fun o n h=>h=[.row 3 [.p t.pv],.row 1 [.p (.int .i64 k)],.row 2 [.p (((zgF t rs).take n).foldl (fun p m=>zeN p (zeB k m.1 m.2)) ⟨1001,-1⟩).pv],.dblock,o]) (fun _ _=>False)
  rfl (by simp only [zhC,go_sem,simprocAttr]) (zzq t rs ht hrs hro) zad (by kernel_rfl) (by kernel_rfl) (by kernel_rfl) ?_ ?_ ?_ ?_ (fun _ _ _ h=>h.elim)
 ·rintro o n h rfl;simp
 ·intro o
  simp only [go_sem,simprocAttr]
  rfl
 ·rintro oR oB oD n xs lo mid hk' rfl _
  rw [List.getElem?_map,Option.map_eq_some_iff] at hk'
  obtain ⟨m,hm,rfl⟩:=hk'
  have hmi:=zwa m (List.mem_of_getElem? hm)
  have hB:=fold_B ((zgF t rs).take n) ⟨1001,-1⟩ hB0 fun m hm=>zwa m (List.mem_of_mem_take hm)
  have hnext:((zgF t rs).take (n+1)).foldl (fun p m=>zeN p (zeB k m.1 m.2)) ⟨1001,-1⟩=zeN (((zgF t rs).take n).foldl (fun p m=>zeN p (zeB k m.1 m.2)) ⟨1001,-1⟩) (zeB k m.1 m.2):=by
   rw [List.take_add_one,hm,Option.toList_some,List.foldl_append];rfl
  generalize ((zgF t rs).take n).foldl (fun p m=>zeN p (zeB k m.1 m.2)) ⟨1001,-1⟩=p at hB hnext ⊢
  have mg:=zgg (lo:=mid) rfl
  have mgg:=zgf (lo:=mid) rfl
  have ms:=zhL (lo:=mid) rfl
  have mss:=zhK (lo:=mid) rfl
  have k1:((k:Int)==(m.1.1:Int))=decide (k=m.1.1):=by rw [Bool.eq_iff_iff];simp;omega
  have k2:((k:Int)==(m.1.2:Int))=decide (k=m.1.2):=by rw [Bool.eq_iff_iff];simp;omega
  have w1:IntKind.i64.wrap (1000-m.2.hi)=1000-m.2.hi:=zaj (by omega) (by omega)
  have w2:IntKind.i64.wrap (1000-m.2.lo)=1000-m.2.lo:=zaj (by omega) (by omega)
  simp only [List.append_assoc,List.length_append,List.length_singleton,mg,mgg,ms,mss,k1,go_sem,simprocAttr]
  by_cases c1:k=m.1.1
  ·have c1':decide (k=m.1.1)=true:=by simpa using c1
   simp only [List.append_assoc,List.length_append,List.length_singleton,mg,mgg,ms,mss,c1',go_sem,simprocAttr]
   refine ⟨_,[AObj.row 4 [AV.p (zgs m)],AObj.row 2 [AV.p m.2.pv]],?_,by simp,rfl⟩
   rw [hnext,zeB,if_pos c1]
   simp [zeN,Span.pv,zgs]
  have c1':decide (k=m.1.1)=false:=by simpa using c1
  by_cases c2:k=m.1.2
  ·have c2':decide (k=m.1.2)=true:=by simpa using c2
   simp only [List.append_assoc,List.length_append,List.length_singleton,mg,mgg,ms,mss,c1',k2,c2',w1,w2,go_sem,simprocAttr]
   refine ⟨_,[AObj.row 4 [AV.p (zgs m)],AObj.row 2 [AV.p (.agg [.int .i64 (1000-m.2.hi),.int .i64 (1000-m.2.lo)])]],?_,by simp,rfl⟩
   rw [hnext,zeB,if_neg c1,if_pos c2]
   simp [zeN,Span.pv,zgs]
  have c2':decide (k=m.1.2)=false:=by simpa using c2
  simp only [List.append_assoc,List.length_append,List.length_singleton,mg,mgg,ms,mss,c1',k2,c2',go_sem,simprocAttr]
  refine ⟨_,[AObj.row 4 [AV.p (zgs m)],AObj.row 2 [AV.p (.agg [.int .i64 0,.int .i64 0])]],?_,by simp,rfl⟩
  rw [hnext,zeB,if_neg c1,if_neg c2]
  simp [zeN,Span.pv,zgs]
 ·rintro o lo mid rfl _
  rw [List.length_map,List.take_length]
  generalize (zgF t rs).foldl (fun p m=>zeN p (zeB k m.1 m.2)) ⟨1001,-1⟩=p
  simp only [go_sem,simprocAttr]
  cases c1:decide (p.hi<0)
  rotate_left
  ·have c1':p.hi<0:=by simpa using c1
   simp only [zhf,if_pos c1',go_sem,simprocAttr]
   rw [zaX]
   simp only [go_sem,simprocAttr]
  have c1':¬ p.hi<0:=by simpa using c1
  simp only [go_sem,simprocAttr]
  cases c2:decide (t.purity≤p.lo)
  rotate_left
  ·have c2':t.purity≤p.lo:=by simpa using c2
   simp only [zhf,if_neg c1',if_pos c2',go_sem,simprocAttr]
   rw [zaX]
   simp only [go_sem,simprocAttr]
  have c2':¬ t.purity≤p.lo:=by simpa using c2
  simp only [go_sem,simprocAttr]
  cases c3:decide (p.hi<t.purity)
  ·have c3':¬ p.hi<t.purity:=by simpa using c3
   simp only [zhf,if_neg c1',if_neg c2',if_neg c3',go_sem,simprocAttr]
   rw [zaX]
   simp only [go_sem,simprocAttr]
  ·have c3':p.hi<t.purity:=by simpa using c3
   simp only [zhf,if_neg c1',if_neg c2',if_pos c3',go_sem,simprocAttr]
   rw [zaX]
   simp only [go_sem,simprocAttr]
end Wx
end Abs
end Go.Proofs.YtahlnclapingiaaGreatDoor
namespace Go.Proofs.YtahlnclapingiaaGreatDoor
namespace Abs
namespace Wx
set_option maxRecDepth 4000
end Wx
end Abs
end Go.Proofs.YtahlnclapingiaaGreatDoor
namespace Go.Proofs.YtahlnclapingiaaGreatDoor
namespace Abs
namespace Wx
set_option maxRecDepth 4000
end Wx
end Abs
end Go.Proofs.YtahlnclapingiaaGreatDoor
namespace Go.Proofs.YtahlnclapingiaaGreatDoor
namespace Abs
namespace Wx
set_option maxRecDepth 4000
def zHC:Option Span→Span
 |none=>⟨0,0⟩
 |some s=>s
def zFu (o:Option Span):PV:=.tuple [(zHC o).pv,.bool o.isSome]
attribute [go_sem] zFu
end Wx
end Abs
end Go.Proofs.YtahlnclapingiaaGreatDoor
namespace Go.Proofs.YtahlnclapingiaaGreatDoor
namespace Abs
namespace Wx
set_option maxRecDepth 4000
end Wx
end Abs
end Go.Proofs.YtahlnclapingiaaGreatDoor
namespace Go.Proofs.YtahlnclapingiaaGreatDoor
namespace Abs
set_option maxRecDepth 4000
theorem zEz (lo hi n:Int):zae Tryz.prog 266 [.int .i64 n,.ptr 1 [.int .i64 lo] 0 0,.ptr 1 [.int .i64 hi] 0 0] (.bool (!gIn n lo hi)):=by
 refine zaa zad (fn:=Tryz.f266) (n:=13) (rs:=[.tmp 4]) (by kernel_rfl) rfl rfl rfl zJi (Nat.le_of_ble_eq_true rfl) ?_
 simp only [go_sem,simprocAttr]
 refine zaH (fun hb=>?_) (fun hb=>?_)<;>simp only [hb,go_sem,simprocAttr]<;>simp_all [gIn]
 rw [←decide_not];congr 1;simp
theorem zeT (lo hi:Int) (l:List Int) (b:Bool) (hl:l.length<1000000000):zae Tryz.prog 185 [.int .i64 lo,.int .i64 hi,.slice 1 (l.map zay) b] (.bool (l.any fun n=>!gIn n lo hi)):=by
 refine zaa zad (fn:=Tryz.f185) (n:=10) (rs:=[.tmp 6]) (by kernel_rfl) rfl rfl rfl zJ0 (Nat.le_of_ble_eq_true rfl) ?_
 simp only [go_sem,simprocAttr]
 refine zaO (zfb (fv:=.func (.func 266) [] [.ptr 1 [.int .i64 lo] 0 0,.ptr 1 [.int .i64 hi] 0 0]) l (fun n=>!gIn n lo hi) b 1 rfl hl fun n _=>⟨_,_,_,rfl,zEz lo hi n⟩) ?_ (.bool _) ?_
 ·simp only [go_sem,simprocAttr]
 ·simp only [go_sem,simprocAttr]
theorem zua (x:HrKind):zae Tryz.prog 187 [x.pv] (.str x.name):=by
 refine zaa zad (fn:=Tryz.f187) (n:=5) (rs:=[.tmp 2]) (by kernel_rfl) rfl rfl rfl zJY (Nat.le_of_ble_eq_true rfl) ?_
 simp only [go_sem,simprocAttr]
theorem zBI (s:ByteArray) (x:HrKind):zae Tryz.prog 268 [x.pv,.ptr 1 [.func (.func 187) [] []] 0 0,.ptr 1 [.str s] 0 0] (.bool (x.name==s)):=by
 refine zaa zad (fn:=Tryz.f268) (n:=10) (rs:=[.tmp 4]) (by kernel_rfl) rfl rfl rfl zJg (Nat.le_of_ble_eq_true rfl) ?_
 simp only [go_sem,simprocAttr]
 refine zau (zua x) rfl ?_
 simp only [go_sem,simprocAttr]
theorem zzR (l:List HrKind) (x:HrKind) (b:Bool) (hl:l.length<1000000):zae Tryz.prog 186 [.slice 4 ((l++[x]).map HrKind.pv) b,.func (.func 187) [] []] (.int .i64 (zaq (l.map (·.name)) x.name)):=by
 have hw:IntKind.i64.wrap ((((l++[x]).length:Nat):Int)-1)=((l.length:Nat):Int):=by
  rw [zb3 (by simp<;>omega) (by simp [zar]<;>omega)];simp
 have hx:(l++[x])[l.length]?=some x:=by simp
 have hlt:((l.length:Nat):Int)<(((l++[x]).length:Nat):Int):=by simp<;>omega
 have hle:((l.length:Nat):Int)≤(((l++[x]).length:Nat):Int):=by omega
 have htk:((l++[x]).map HrKind.pv).take l.length=l.map HrKind.pv:=by rw [List.map_append,List.take_left' (by simp)]
 have hfl:(l.length==(l++[x]).length)=false:=by simp
 refine zaa zad (fn:=Tryz.f186) (n:=26) (rs:=[.tmp 4]) (by kernel_rfl) rfl rfl rfl zJZ (Nat.le_of_ble_eq_true rfl) ?_
 simp only [hw,hx,hlt,go_sem,simprocAttr]
 refine zau (zua x) rfl ?_
 simp only [go_sem,simprocAttr]
 refine zab (ze0 x.name) rfl ?_
 simp only [go_sem,simprocAttr]
 cases hn:nameOk x.name
 ·simp only [go_sem,simprocAttr]
  simp [zaq,hn]
 ·simp only [hle,htk,hfl,go_sem,simprocAttr]
  refine zaO (zqX (fv:=.func (.func 268) [] [.ptr 1 [.func (.func 187) [] []] 0 0,.ptr 1 [.str x.name] 0 0]) l (fun y=>y.name==x.name) false 4 rfl (by omega) fun y _=>⟨_,_,_,rfl,zBI x.name y⟩) ?_ (.bool _) ?_
  ·simp only [go_sem,simprocAttr]
  simp only [go_sem,simprocAttr]
  refine zaH (fun hb=>?_) (fun hb=>?_)<;>simp only [hb,go_sem,simprocAttr]
  ·simp only [zaq,hn,List.any_map,Function.comp_def,hb,if_true]
  ·simp only [zaq,hn,List.any_map,Function.comp_def,hb,if_true,Bool.false_eq_true,if_false]
theorem zt9 (x:HrRule):zae Tryz.prog 189 [x.pv] (.str x.name):=by
 refine zaa zad (fn:=Tryz.f189) (n:=5) (rs:=[.tmp 2]) (by kernel_rfl) rfl rfl rfl zJW (Nat.le_of_ble_eq_true rfl) ?_
 simp only [go_sem,simprocAttr]
theorem zBH (s:ByteArray) (x:HrRule):zae Tryz.prog 270 [x.pv,.ptr 1 [.func (.func 189) [] []] 0 0,.ptr 1 [.str s] 0 0] (.bool (x.name==s)):=by
 refine zaa zad (fn:=Tryz.f270) (n:=10) (rs:=[.tmp 4]) (by kernel_rfl) rfl rfl rfl zJe (Nat.le_of_ble_eq_true rfl) ?_
 simp only [go_sem,simprocAttr]
 refine zau (zt9 x) rfl ?_
 simp only [go_sem,simprocAttr]
theorem zzQ (l:List HrRule) (x:HrRule) (b:Bool) (hl:l.length<1000000):zae Tryz.prog 188 [.slice 5 ((l++[x]).map HrRule.pv) b,.func (.func 189) [] []] (.int .i64 (zaq (l.map (·.name)) x.name)):=by
 have hw:IntKind.i64.wrap ((((l++[x]).length:Nat):Int)-1)=((l.length:Nat):Int):=by
  rw [zb3 (by simp<;>omega) (by simp [zar]<;>omega)];simp
 have hx:(l++[x])[l.length]?=some x:=by simp
 have hlt:((l.length:Nat):Int)<(((l++[x]).length:Nat):Int):=by simp<;>omega
 have hle:((l.length:Nat):Int)≤(((l++[x]).length:Nat):Int):=by omega
 have htk:((l++[x]).map HrRule.pv).take l.length=l.map HrRule.pv:=by rw [List.map_append,List.take_left' (by simp)]
 have hfl:(l.length==(l++[x]).length)=false:=by simp
 refine zaa zad (fn:=Tryz.f188) (n:=26) (rs:=[.tmp 4]) (by kernel_rfl) rfl rfl rfl zJX (Nat.le_of_ble_eq_true rfl) ?_
 simp only [hw,hx,hlt,go_sem,simprocAttr]
 refine zau (zt9 x) rfl ?_
 simp only [go_sem,simprocAttr]
 refine zab (ze0 x.name) rfl ?_
 simp only [go_sem,simprocAttr]
 cases hn:nameOk x.name
 ·simp only [go_sem,simprocAttr]
  simp [zaq,hn]
 ·simp only [hle,htk,hfl,go_sem,simprocAttr]
  refine zaO (zqW (fv:=.func (.func 270) [] [.ptr 1 [.func (.func 189) [] []] 0 0,.ptr 1 [.str x.name] 0 0]) l (fun y=>y.name==x.name) false 5 rfl (by omega) fun y _=>⟨_,_,_,rfl,zBH x.name y⟩) ?_ (.bool _) ?_
  ·simp only [go_sem,simprocAttr]
  simp only [go_sem,simprocAttr]
  refine zaH (fun hb=>?_) (fun hb=>?_)<;>simp only [hb,go_sem,simprocAttr]
  ·simp only [zaq,hn,List.any_map,Function.comp_def,hb,if_true]
  ·simp only [zaq,hn,List.any_map,Function.comp_def,hb,if_true,Bool.false_eq_true,if_false]
def zeO (k:HrKind):Int :=
 if (gIn k.weight.lo 1 10000000&&gIn k.weight.hi 1 10000000&&gIn k.rest 0 10000000)=true then (if (decide (k.weight.hi<k.weight.lo)||decide (k.weight.lo≤k.rest))=true then 2 else 0) else 7
def zfv (r:HrRule):Int :=
 if (gIn r.minutes.lo 0 1000000&&gIn r.minutes.hi 0 1000000&&(gIn r.weight.lo 0 10000000&&gIn r.weight.hi 0 10000000))=true then
  (if (decide (r.minutes.hi<r.minutes.lo)||decide (r.weight.hi<r.weight.lo))=true then 2 else 0) else 7
def zbo (before:List ByteArray) (k:HrKind):Int:=if zaq before k.name=0 then zeO k else zaq before k.name
def zbY (before:List ByteArray) (r:HrRule):Int:=if zaq before r.name=0 then zfv r else zaq before r.name
def zgN (s:HrShop):Option (Int×Int)→Int×Int×Int
 |some (i,e)=>(2,i,e)
 |none=>match firstErr zbY (·.name) s.rules [] with | some (i,e)=>(3,i,e) | none=>(0,0,0)
def hrCheck (s:HrShop):Int×Int×Int :=
 if (gIn s.kinds.length 1 6&&decide (s.rules.length≤6))=true then
  if gIn s.margin 0 500=true then zgN s (firstErr zbo (·.name) s.kinds []) else (1,0,7)
 else (1,0,3)
theorem zzs {s:HrShop} {done r:List HrKind} {x:HrKind} (_:s.kinds=done++x::r) (e2:firstErr zbo (·.name) s.kinds []=firstErr zbo (·.name) (x::r) (done.map (·.name))) :
  (zbo (done.map (·.name)) x=0→firstErr zbo (·.name) s.kinds []=firstErr zbo (·.name) r ((done++[x]).map (·.name))) ∧
  ∀ e,zbo (done.map (·.name)) x=e→e≠0→zgN s (firstErr zbo (·.name) s.kinds [])=(2,(done.length:Int),e):=by
 have hE:firstErr zbo (·.name) s.kinds []=if zbo (done.map (·.name)) x=0 then firstErr zbo (·.name) r ((done++[x]).map (·.name)) else some ((done.length:Int),zbo (done.map (·.name)) x):=by
  rw [e2,firstErr];simp
 exact ⟨fun h=>by rw [hE,if_pos h],fun e he hne=>by rw [hE,he,if_neg hne];rfl⟩
theorem zzr {s:HrShop} {done r:List HrRule} {x:HrRule} (_:s.rules=done++x::r) (e2:firstErr zbY (·.name) s.rules []=firstErr zbY (·.name) (x::r) (done.map (·.name))) :
  (zbY (done.map (·.name)) x=0→firstErr zbY (·.name) s.rules []=firstErr zbY (·.name) r ((done++[x]).map (·.name))) ∧
  ∀ e,zbY (done.map (·.name)) x=e→e≠0→zgN s none=(3,(done.length:Int),e):=by
 have hE:firstErr zbY (·.name) s.rules []=if zbY (done.map (·.name)) x=0 then firstErr zbY (·.name) r ((done++[x]).map (·.name)) else some ((done.length:Int),zbY (done.map (·.name)) x):=by
  rw [e2,firstErr];simp
 exact ⟨fun h=>by rw [hE,if_pos h],fun e he hne=>by simp only [zgN];rw [hE,he,if_neg hne]⟩
set_option maxHeartbeats 1000000 in
theorem zub (s:HrShop):zae Tryz.prog 90 [s.pv] (zat (hrCheck s)):=by
 refine zaa zad (fn:=Tryz.f90) (n:=137) (rs:=[.tmp 2,.tmp 3,.tmp 4]) (by kernel_rfl) rfl rfl rfl zMP (Nat.le_of_ble_eq_true rfl) ?_
 simp only [go_sem,simprocAttr]
 refine zab (zeT 1 6 [_] true (by simp)) rfl ?_
 simp only [List.any_cons,List.any_nil,Bool.or_false,go_sem,simprocAttr]
 cases h1:gIn s.kinds.length 1 6
 ·simp only [zat,hrCheck,h1,go_sem,simprocAttr]
 simp only [go_sem,simprocAttr]
 cases h2:decide ((6:Int)<(s.rules.length:Int))
 rotate_left
 ·have h2':decide (s.rules.length≤6)=false:=by simp at h2 ⊢;omega
  simp only [zat,hrCheck,h1,h2',go_sem,simprocAttr]
 have h2':decide (s.rules.length≤6)=true:=by simp at h2 ⊢;omega
 simp only [go_sem,simprocAttr]
 refine zab (zeT 0 500 [_] true (by simp)) rfl ?_
 simp only [List.any_cons,List.any_nil,Bool.or_false,go_sem,simprocAttr]
 cases h3:gIn s.margin 0 500
 ·simp only [zat,hrCheck,h1,h2',h3,go_sem,simprocAttr]
 have hspec:hrCheck s=zgN s (firstErr zbo (·.name) s.kinds []):=by simp only [hrCheck,h1,h2',h3,Bool.and_self,if_true]
 rw [hspec]
 have hlk:s.kinds.length≤6:=by simp [gIn] at h1;omega
 have hlr:s.rules.length≤6:=by simpa using h2'
 simp only [go_sem,simprocAttr]
 refine zbb [1,27,28] s.kinds (by omega) (τ:=Unit) (fun done rest _=>firstErr zbo (·.name) s.kinds []=firstErr zbo (·.name) rest (done.map (·.name)))
  (fun done _=>[(29,.p (.int .i64 done.length)),(4,.p (.int .i64 0))]) (fun _ _=>[.row 3 [.p s.pv]]) () rfl ?_ ?_ ?_
 ·simp only [go_sem,simprocAttr]<;>simp
 ·intro _ e2
  have hT:zgN s (firstErr zbo (·.name) s.kinds [])=zgN s none:=by rw [e2];rfl
  rw [hT]
  simp only [go_sem,simprocAttr]
  refine zbb [1,80,81] s.rules (by omega) (τ:=Unit) (fun done rest _=>firstErr zbY (·.name) s.rules []=firstErr zbY (·.name) rest (done.map (·.name)))
   (fun done _=>[(82,.p (.int .i64 done.length)),(4,.p (.int .i64 0))]) (fun _ _=>[.row 3 [.p s.pv]]) () rfl ?_ ?_ ?_
  ·simp only [go_sem,simprocAttr]<;>simp
  ·intro _ e2
   have hT:zgN s none=(0,0,0):=by
    simp only [zgN]
    rw [e2];rfl
   simp only [zat,hT,go_sem,simprocAttr]
  ·intro done x r _ e1 e2 hx hlt hnx
   obtain ⟨go,fin⟩:=zzr e1 e2
   have hle:(((done++[x]).length:Nat):Int)≤(s.rules.length:Int):=by rw [e1];simp<;>omega
   have htk:(s.rules.map HrRule.pv).take (done++[x]).length=(done++[x]).map HrRule.pv:=by
    rw [e1,show done++x::r=(done++[x])++r by simp,List.map_append,List.take_left' (by simp)]
   have hdl:done.length<1000000:=by have:=congrArg List.length e1;simp at this;omega
   simp only [hlt,hx,hnx,hle,htk,go_sem,simprocAttr]
   refine zab (zzQ done x false hdl) rfl ?_
   simp only [go_sem,simprocAttr]
   cases h5:(zaq (done.map (·.name)) x.name != 0)
   rotate_left
   ·have h5':zaq (done.map (·.name)) x.name≠0:=by simpa using h5
    simp only [h5,zat,fin _ (by rw [zbY,if_neg h5']) h5',go_sem,simprocAttr]
   have h5':zaq (done.map (·.name)) x.name=0:=by simpa using h5
   have hb:zbY (done.map (·.name)) x=zfv x:=by rw [zbY,if_pos h5']
   simp only [go_sem,simprocAttr]
   refine zab (zeT 0 1000000 [_,_] true (by simp)) rfl ?_
   simp only [List.any_cons,List.any_nil,Bool.or_false,←Bool.not_and,go_sem,simprocAttr]
   cases h6:(gIn x.minutes.lo 0 1000000&&gIn x.minutes.hi 0 1000000)
   ·simp only [zat,fin 7 (by rw [hb,zfv,h6];rfl) (by decide),go_sem,simprocAttr]
   simp only [go_sem,simprocAttr]
   refine zab (zeT 0 10000000 [_,_] true (by simp)) rfl ?_
   simp only [List.any_cons,List.any_nil,Bool.or_false,←Bool.not_and,go_sem,simprocAttr]
   cases h7:(gIn x.weight.lo 0 10000000&&gIn x.weight.hi 0 10000000)
   ·simp only [zat,fin 7 (by rw [hb,zfv,h6,h7];rfl) (by decide),go_sem,simprocAttr]
   simp only [go_sem,simprocAttr]
   cases h8:decide (x.minutes.hi<x.minutes.lo)
   rotate_left
   ·simp only [zat,fin 2 (by rw [hb,zfv,h6,h7,h8];rfl) (by decide),go_sem,simprocAttr]
   simp only [go_sem,simprocAttr]
   cases h9:decide (x.weight.hi<x.weight.lo)
   rotate_left
   ·simp only [zat,fin 2 (by rw [hb,zfv,h6,h7,h8,h9];rfl) (by decide),go_sem,simprocAttr]
   simp only [h5,h5',go_sem,simprocAttr]
   refine zaA e1 () (go (by rw [hb,zfv,h6,h7,h8,h9];rfl)) ?_
   simp only [hnx,h5',go_sem,simprocAttr]
 ·intro done x r _ e1 e2 hx hlt hnx
  obtain ⟨go,fin⟩:=zzs e1 e2
  have hle:(((done++[x]).length:Nat):Int)≤(s.kinds.length:Int):=by rw [e1];simp<;>omega
  have htk:(s.kinds.map HrKind.pv).take (done++[x]).length=(done++[x]).map HrKind.pv:=by
   rw [e1,show done++x::r=(done++[x])++r by simp,List.map_append,List.take_left' (by simp)]
  have hdl:done.length<1000000:=by have:=congrArg List.length e1;simp at this;omega
  simp only [hlt,hx,hnx,hle,htk,go_sem,simprocAttr]
  refine zab (zzR done x false hdl) rfl ?_
  simp only [go_sem,simprocAttr]
  cases h5:(zaq (done.map (·.name)) x.name != 0)
  rotate_left
  ·have h5':zaq (done.map (·.name)) x.name≠0:=by simpa using h5
   simp only [h5,zat,fin _ (by rw [zbo,if_neg h5']) h5',go_sem,simprocAttr]
  have h5':zaq (done.map (·.name)) x.name=0:=by simpa using h5
  have hb:zbo (done.map (·.name)) x=zeO x:=by rw [zbo,if_pos h5']
  simp only [go_sem,simprocAttr]
  refine zab (zeT 1 10000000 [_,_] true (by simp)) rfl ?_
  simp only [List.any_cons,List.any_nil,Bool.or_false,←Bool.not_and,go_sem,simprocAttr]
  cases h6:(gIn x.weight.lo 1 10000000&&gIn x.weight.hi 1 10000000)
  ·simp only [zat,fin 7 (by rw [hb,zeO,h6];rfl) (by decide),go_sem,simprocAttr]
  simp only [go_sem,simprocAttr]
  refine zab (zeT 0 10000000 [_] true (by simp)) rfl ?_
  simp only [List.any_cons,List.any_nil,Bool.or_false,go_sem,simprocAttr]
  cases h7:gIn x.rest 0 10000000
  ·simp only [zat,fin 7 (by rw [hb,zeO,h6,h7];rfl) (by decide),go_sem,simprocAttr]
  simp only [go_sem,simprocAttr]
  cases h8:decide (x.weight.hi<x.weight.lo)
  rotate_left
  ·simp only [zat,fin 2 (by rw [hb,zeO,h6,h7,h8];rfl) (by decide),go_sem,simprocAttr]
  simp only [go_sem,simprocAttr]
  cases h9:decide (x.weight.lo≤x.rest)
  rotate_left
  ·simp only [zat,fin 2 (by rw [hb,zeO,h6,h7,h8,h9];rfl) (by decide),go_sem,simprocAttr]
  simp only [h5,h5',go_sem,simprocAttr]
  refine zaA e1 () (go (by rw [hb,zeO,h6,h7,h8,h9];rfl)) ?_
  simp only [hnx,h5',go_sem,simprocAttr]
end Abs
end Go.Proofs.YtahlnclapingiaaGreatDoor
namespace Go.Proofs.YtahlnclapingiaaGreatDoor
namespace Abs
set_option maxRecDepth 4000
def zhD (m:HrMark):Bool:=gIn m.minute 0 1000000&&gIn m.weight 0 10000000
def zfM:Int→List HrMark→Bool
 |_,[]=>false
 |last,m::r=>decide (m.minute≤last)||zfM m.minute r
def za6 (nk:Int) (t:HrTest):Int :=
 if gIn t.kind 0 (nk-1)=true then
  if gIn t.marks.length 2 10=true then
   if gIn t.error 0 10000=true then
    if t.marks.all zhD=true then (if zfM (-1) t.marks=true then 2 else 0) else 7
   else 7
  else 3
 else 4
theorem zrO (s:HrShop) (t:HrTest) (hs:s.kinds.length≤1000):zae Tryz.prog 282 [s.pv,t.pv] (.int .i64 (za6 s.kinds.length t)):=by
 refine zaa zad (fn:=Tryz.f282) (n:=57) (rs:=[.tmp 4]) (by kernel_rfl) rfl rfl rfl zI5 (Nat.le_of_ble_eq_true rfl) ?_
 have hw:IntKind.i64.wrap ((s.kinds.length:Int)-1)=(s.kinds.length:Int)-1:=zaj (by omega) (by omega)
 simp only [hw,go_sem,simprocAttr]
 refine zab (zeT 0 _ [_] true (by simp)) rfl ?_
 simp only [List.any_cons,List.any_nil,Bool.or_false,go_sem,simprocAttr]
 cases h1:gIn t.kind 0 ((s.kinds.length:Int)-1)
 ·simp only [za6,h1,go_sem,simprocAttr]
 simp only [go_sem,simprocAttr]
 refine zab (zeT 2 10 [_] true (by simp)) rfl ?_
 simp only [List.any_cons,List.any_nil,Bool.or_false,go_sem,simprocAttr]
 cases h2:gIn t.marks.length 2 10
 ·simp only [za6,h1,h2,go_sem,simprocAttr]
 simp only [go_sem,simprocAttr]
 refine zab (zeT 0 10000 [_] true (by simp)) rfl ?_
 simp only [List.any_cons,List.any_nil,Bool.or_false,go_sem,simprocAttr]
 cases h3:gIn t.error 0 10000
 ·simp only [za6,h1,h2,h3,go_sem,simprocAttr]
 have hspec:za6 s.kinds.length t=if t.marks.all zhD=true then (if zfM (-1) t.marks=true then 2 else 0) else 7:=by simp only [za6,h1,h2,h3,if_true]
 rw [hspec]
 have hlm:t.marks.length≤10:=by simp [gIn] at h2;omega
 simp only [go_sem,simprocAttr]
 refine zbb [30,31] t.marks (by omega) (τ:=Int×Bool) (fun done rest q=>t.marks.all zhD=rest.all zhD∧zfM (-1) t.marks=(q.2||zfM q.1 rest))
  (fun done q=>[(32,.p (.int .i64 done.length)),(5,.p (.int .i64 q.1)),(6,.p (.bool q.2))]) (fun _ _=>[.row 3 [.p s.pv],.row 3 [.p t.pv]]) (-1,false) ⟨rfl,by simp⟩ ?_ ?_ ?_
 ·simp only [go_sem,simprocAttr]<;>simp
 ·rintro ⟨last,falls⟩ ⟨e2,e3⟩
  dsimp only at e2 e3
  rw [e2,e3]
  cases falls
  ·simp only [List.all_nil,zfM,go_sem,simprocAttr]
  ·simp only [List.all_nil,zfM,go_sem,simprocAttr]
 ·rintro done x r ⟨last,falls⟩ e1 ⟨e2,e3⟩ hx hlt hnx
  dsimp only at e2 e3
  rw [List.all_cons] at e2
  simp only [hlt,hx,go_sem,simprocAttr]
  refine zab (zeT 0 1000000 [_] true (by simp)) rfl ?_
  simp only [List.any_cons,List.any_nil,Bool.or_false,go_sem,simprocAttr]
  cases h4:gIn x.minute 0 1000000
  ·rw [e2,zhD,h4]
   simp only [go_sem,simprocAttr]
  simp only [go_sem,simprocAttr]
  refine zab (zeT 0 10000000 [_] true (by simp)) rfl ?_
  simp only [List.any_cons,List.any_nil,Bool.or_false,go_sem,simprocAttr]
  cases h5:gIn x.weight 0 10000000
  ·rw [e2,zhD,h4,h5]
   simp only [go_sem,simprocAttr]
  have hm:zhD x=true:=by rw [zhD,h4,h5];rfl
  cases falls
  ·simp only [go_sem,simprocAttr]
   refine zaA e1 (x.minute,decide (x.minute≤last)) ⟨by rw [e2,hm];rfl,by rw [e3,zfM];rfl⟩ ?_
   simp only [hnx,go_sem,simprocAttr]
  ·simp only [go_sem,simprocAttr]
   refine zaA e1 (x.minute,true) ⟨by rw [e2,hm];rfl,by rw [e3];rfl⟩ ?_
   simp only [hnx,go_sem,simprocAttr]
def zby (nk:Int):List HrTest→Int
 |[]=>0
 |t::r=>if za6 nk t=0 then zby nk r else za6 nk t
def zba (s:HrShop) (l:List HrTest):Int:=if (hrCheck s).2.2=0 then zby s.kinds.length l else (hrCheck s).2.2
theorem zg0 {s:HrShop} (h:(hrCheck s).2.2=0):s.kinds.length≤6∧s.rules.length≤6∧1≤s.kinds.length:=by
 unfold hrCheck at h
 split at h
 ·rename_i hc
  simp [gIn] at hc
  omega
 ·cases h
theorem zii (s:HrShop) (l:List HrTest) (b:Bool) (hl:(hrCheck s).2.2=0→l.length<1000000000):zae Tryz.prog 274 [s.pv,.slice 3 (l.map HrTest.pv) b] (.int .i64 (zba s l)):=by
 refine zaa zad (fn:=Tryz.f274) (n:=33) (rs:=[.tmp 4]) (by kernel_rfl) rfl rfl rfl zJa (Nat.le_of_ble_eq_true rfl) ?_
 simp only [go_sem,simprocAttr]
 refine zab (zub s) rfl ?_
 simp only [zat,go_sem,simprocAttr]
 cases h0:((hrCheck s).2.2 != 0)
 rotate_left
 ·have h0':¬ (hrCheck s).2.2=0:=by simpa using h0
  simp only [zba,if_neg h0',go_sem,simprocAttr]
 have h0':(hrCheck s).2.2=0:=by simpa using h0
 have hk:=(zg0 h0').1
 rw [zba,if_pos h0']
 simp only [go_sem,simprocAttr]
 refine zbb [2,20,21] l (hl h0') (τ:=Unit) (fun done rest _=>zby s.kinds.length l=zby s.kinds.length rest)
  (fun done _=>[(22,.p (.int .i64 done.length))]) (fun _ _=>[.row 3 [.p s.pv]]) () rfl ?_ ?_ ?_
 ·simp only [go_sem,simprocAttr]<;>simp
 ·intro _ e2
  rw [e2]
  simp only [zby,go_sem,simprocAttr]
 ·intro done x r _ e1 e2 hx hlt hnx
  rw [zby] at e2
  simp only [hlt,hx,go_sem,simprocAttr]
  refine zab (zrO s x (by omega)) rfl ?_
  simp only [go_sem,simprocAttr]
  cases h1:(za6 s.kinds.length x != 0)
  ·have h1':za6 s.kinds.length x=0:=by simpa using h1
   simp only [go_sem,simprocAttr]
   refine zaA e1 () (by rw [e2,if_pos h1']) ?_
   simp only [hnx,go_sem,simprocAttr]
  ·have h1':¬ za6 s.kinds.length x=0:=by simpa using h1
   simp only [e2,if_neg h1',go_sem,simprocAttr]
def zbC (s:HrShop) (l:List HrTest):Int:=if (hrCheck s).2.2=0 then (if 8<l.length then 3 else zby s.kinds.length l) else (hrCheck s).2.2
end Abs
end Go.Proofs.YtahlnclapingiaaGreatDoor
