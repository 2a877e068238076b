/-
  CONTRACTS: fractions; what marks allow; the rate of a test. No conditions but those in the
  CONTRACTS: Rate; ref.Possible. No conditions but those in the theorems' heads.
  CONTRACTS: marks that are odd; a test without a mark. No conditions but those in the theor
-/
import Derived.Test.YtahlnclapingiaaGreatDoorWxMixX
import Derived.Test.YtahlnclapingiaaGreatDoorWxChkX
set_option linter.unusedSimpArgs false
set_option linter.unusedVariables false
namespace Go.Proofs.YtahlnclapingiaaGreatDoor
namespace Abs
set_option maxRecDepth 4000
structure Frac where
 top:Int
 below:Int
 deriving DecidableEq
def Frac.pv (f:Frac):PV:=.agg [.int .i64 f.top,.int .i64 f.below]
attribute [go_sem] Frac.pv
def Frac.B (f:Frac):Prop:=-1000000000≤f.top∧f.top≤1000000000∧0≤f.below∧f.below≤1000000000
def Frac.lt (f g:Frac):Bool:=decide (f.top*g.below<g.top*f.below)
def Frac.down (f:Frac):Int:=f.top / f.below
def Frac.up (f:Frac):Int:=-(-f.top / f.below)
theorem zxi {a b:Int} (h1:-1000000000≤a) (h2:a≤1000000000) (h3:0≤b) (h4:b≤1000000000):-1000000000000000000≤a*b∧a*b≤1000000000000000000:=by
 have e1:a*b≤1000000000*b:=Int.mul_le_mul_of_nonneg_right h2 h3
 have e2:-1000000000*b≤a*b:=Int.mul_le_mul_of_nonneg_right h1 h3
 omega
theorem zpZ (f g:Frac) (hf:f.B) (hg:g.B):zae Tryz.prog 339 [f.pv,g.pv] (.bool (f.lt g)):=by
 refine zaa zad (fn:=Tryz.f339) (n:=16) (rs:=[.tmp 4]) (by kernel_rfl) rfl rfl rfl zIx (Nat.le_of_ble_eq_true rfl) ?_
 have h1:=zxi hf.1 hf.2.1 hg.2.2.1 hg.2.2.2
 have h2:=zxi hg.1 hg.2.1 hf.2.2.1 hf.2.2.2
 have e1:IntKind.i64.wrap (f.top*g.below)=f.top*g.below:=zaj (by omega) (by omega)
 have e2:IntKind.i64.wrap (g.top*f.below)=g.top*f.below:=zaj (by omega) (by omega)
 simp only [e1,e2,Frac.lt,go_sem,simprocAttr]
theorem zls (a b:Int) (hb:0<b):a / b=if a.tmod b<0 then a.tdiv b-1 else a.tdiv b:=by
 have h1:=Int.tdiv_eq_ediv (a:=a) (b:=b)
 have h2:=Int.tmod_eq_emod (a:=a) (b:=b)
 have h3:=Int.emod_nonneg a (Int.ne_of_gt hb)
 have h4:=Int.emod_lt_of_pos a hb
 have h5:b.sign=1:=Int.sign_eq_one_of_pos hb
 have h6:(b.natAbs:Int)=b:=Int.natAbs_of_nonneg (Int.le_of_lt hb)
 rw [h5] at h1
 by_cases hc:0≤a∨b ∣ a
 ·rw [if_pos hc] at h1 h2
  rw [if_neg (by omega)]
  omega
 ·rw [if_neg hc] at h1 h2
  rw [if_pos (by omega)]
  omega
theorem zpR {a b B:Int} (hb:0<b) (h1:-B≤a) (h2:a≤B) (hB:0≤B):-B≤a / b∧a / b≤B:=by
 refine ⟨?_,?_⟩
 ·have:-B*b≤a:=by
   have:B*1≤B*b:=Int.mul_le_mul_of_nonneg_left (by omega) hB
   have e:-B*b=-(B*b):=by rw [Int.neg_mul]
   omega
  exact (Int.le_ediv_iff_mul_le hb).2 this
 ·rcases Int.le_total 0 a with h | h
  ·exact Int.le_trans (Int.ediv_le_self b h) h2
  ·have:a / b≤0:=by
    have:=Int.ediv_le_ediv hb h
    simpa using this
   omega
theorem zgB (f:Frac) (hb:0<f.below) (h1:-1000000000000000000≤f.top) (h2:f.top≤1000000000000000000):zae Tryz.prog 341 [f.pv] (.int .i64 f.down):=by
 refine zaa zad (fn:=Tryz.f341) (n:=18) (rs:=[.tmp 2]) (by kernel_rfl) rfl rfl rfl zIv (Nat.le_of_ble_eq_true rfl) ?_
 have hb0:¬ f.below=0:=by omega
 have hr:=zpR hb h1 h2 (by omega)
 have hd:=zls f.top f.below hb
 have e1:IntKind.i64.wrap (f.top.tdiv f.below)=f.top.tdiv f.below:=by
  split at hd
  ·exact zaj (by omega) (by omega)
  ·exact zaj (by omega) (by omega)
 simp only [hb0,e1,Frac.down,go_sem,simprocAttr]
 cases hm:decide (f.top.tmod f.below<0)
 ·rw [if_neg (by simpa using hm)] at hd
  simp only [hd,go_sem,simprocAttr]
 ·rw [if_pos (by simpa using hm)] at hd
  have e2:IntKind.i64.wrap (f.top.tdiv f.below-1)=f.top.tdiv f.below-1:=zaj (by omega) (by omega)
  simp only [hd,e2,go_sem,simprocAttr]
theorem cUp (f:Frac) (hb:0<f.below) (h1:-1000000000000000000≤f.top) (h2:f.top≤1000000000000000000):zae Tryz.prog 342 [f.pv] (.int .i64 f.up):=by
 refine zaa zad (fn:=Tryz.f342) (n:=11) (rs:=[.tmp 2]) (by kernel_rfl) rfl rfl rfl zIu (Nat.le_of_ble_eq_true rfl) ?_
 have e1:IntKind.i64.wrap (-f.top)=-f.top:=zaj (by omega) (by omega)
 have hr:=zpR (a:=-f.top) (B:=1000000000000000000) hb (by omega) (by omega) (by omega)
 have e2:IntKind.i64.wrap (-(-f.top / f.below))=-(-f.top / f.below):=zaj (by omega) (by omega)
 simp only [e1,go_sem,simprocAttr]
 refine zab (zgB ⟨-f.top,f.below⟩ hb (by show -1000000000000000000≤-f.top;omega) (by show -f.top≤1000000000000000000;omega)) rfl ?_
 simp only [Frac.down,e2,Frac.up,go_sem,simprocAttr]
def zeL (lo least:Frac):Frac:=if (decide (lo=⟨0,0⟩)||lo.lt least)=true then least else lo
def zeM (hi most:Frac):Frac:=if (decide (hi=⟨0,0⟩)||most.lt hi)=true then most else hi
theorem zca (f:Frac):((f.top==0)&&(f.below==0))=decide (f=⟨0,0⟩):=by
 cases f with
 |mk a b=>rw [Bool.eq_iff_iff];simp
theorem zKP (lo hi least most:Frac) (i j:Nat) (h:Heap) (hi0:h[i]?=some (.row 2 [.p lo.pv])) (hj0:h[j]?=some (.row 2 [.p hi.pv])) (hij:i≠j) (b1:lo.B) (b2:hi.B) (b3:least.B) (b4:most.B) :
  zap Tryz.prog 338 [.p least.pv,.p most.pv,.ptr i 1 0 0,.ptr j 1 0 0] h (fun r h'=>r=.ret (.p (.tuple [])) ∧
   h'=(h.set i (.row 2 [.p (zeL lo least).pv])).set j (.row 2 [.p (zeM hi most).pv])++[.row 2 [.p least.pv],.row 2 [.p most.pv]]):=by
 refine zan zad (fn:=Tryz.f338) (n:=24) (rs:=[]) (by kernel_rfl) rfl rfl rfl zIy (Nat.le_of_ble_eq_true rfl) ?_
 have hil:i<h.length:=(List.getElem?_eq_some_iff.1 hi0).1
 have hjl:j<h.length:=(List.getElem?_eq_some_iff.1 hj0).1
 have gi:∀ t,(h++t)[i]?=some (.row 2 [.p lo.pv]):=fun t=>by rw [List.getElem?_append_left hil];exact hi0
 have gj:∀ t,(h++t)[j]?=some (.row 2 [.p hi.pv]):=fun t=>by rw [List.getElem?_append_left hjl];exact hj0
 have gj2:∀ x t,(h.set i x++t)[j]?=some (.row 2 [.p hi.pv]):=fun x t=>by rw [List.getElem?_append_left (by simpa using hjl),List.getElem?_set_ne hij];exact hj0
 have si:∀ t x,(h++t).set i x=h.set i x++t:=fun t x=>List.set_append_left _ _ hil
 have sj:∀ t x,(h++t).set j x=h.set j x++t:=fun t x=>List.set_append_left _ _ hjl
 have sj2:∀ t x y,(h.set i y++t).set j x=(h.set i y).set j x++t:=fun t x y=>List.set_append_left _ _ (by simpa using hjl)
 have gg:=zgf (lo:=h) rfl
 have g0:=zgg (lo:=h) rfl
 have gg2:∀ x,∀ t j,(h.set i x++t)[h.length+j]?=t[j]?:=fun x=>zgf (lo:=h.set i x) (by simp)
 have g02:∀ x,∀ t,(h.set i x++t)[h.length]?=t[0]?:=fun x=>zgg (lo:=h.set i x) (by simp)
 have same_i:h.set i (.row 2 [.p lo.pv])=h:=zh3 hi0
 have same_j:h.set j (.row 2 [.p hi.pv])=h:=zh3 hj0
 have same_j2:∀ x,(h.set i x).set j (.row 2 [.p hi.pv])=h.set i x:=fun x=>zh3 (by rw [List.getElem?_set_ne hij];exact hj0)
 simp only [Frac.pv] at gi gj gj2 same_i same_j same_j2
 simp only [List.append_assoc,List.length_append,List.length_singleton,gi,gj,gj2,gg,g0,gg2,g02,si,sj,sj2,zca,go_sem,simprocAttr]
 cases z1:decide (lo=⟨0,0⟩)
 ·simp only [List.append_assoc,List.length_append,List.length_singleton,gi,gj,gj2,gg,g0,gg2,g02,si,sj,sj2,zca,go_sem,simprocAttr]
  refine zab (zpZ lo least b1 b3) rfl ?_
  simp only [List.append_assoc,List.length_append,List.length_singleton,gi,gj,gj2,gg,g0,gg2,g02,si,sj,sj2,zca,go_sem,simprocAttr]
  cases z2:lo.lt least
  ·simp only [List.append_assoc,List.length_append,List.length_singleton,gi,gj,gj2,gg,g0,gg2,g02,si,sj,sj2,zca,go_sem,simprocAttr]
   cases z3:decide (hi=⟨0,0⟩)
   ·simp only [List.append_assoc,List.length_append,List.length_singleton,gi,gj,gj2,gg,g0,gg2,g02,si,sj,sj2,zca,go_sem,simprocAttr]
    refine zab (zpZ most hi b4 b2) rfl ?_
    simp only [List.append_assoc,List.length_append,List.length_singleton,gi,gj,gj2,gg,g0,gg2,g02,si,sj,sj2,zca,go_sem,simprocAttr]
    cases z4:most.lt hi
    ·simp only [List.append_assoc,List.length_append,List.length_singleton,gi,gj,gj2,gg,g0,gg2,g02,si,sj,sj2,zca,go_sem,simprocAttr]
     simp only [zeL,zeM,z1,z2,z3,z4,Bool.true_or,Bool.false_or,if_true,Bool.false_eq_true,if_false,Frac.pv,same_i,same_j,same_j2]
    ·simp only [List.append_assoc,List.length_append,List.length_singleton,gi,gj,gj2,gg,g0,gg2,g02,si,sj,sj2,zca,go_sem,simprocAttr]
     simp only [zeL,zeM,z1,z2,z3,z4,Bool.true_or,Bool.false_or,if_true,Bool.false_eq_true,if_false,Frac.pv,same_i,same_j,same_j2]
   ·simp only [List.append_assoc,List.length_append,List.length_singleton,gi,gj,gj2,gg,g0,gg2,g02,si,sj,sj2,zca,go_sem,simprocAttr]
    simp only [zeL,zeM,z1,z2,z3,Bool.true_or,Bool.false_or,if_true,Bool.false_eq_true,if_false,Frac.pv,same_i,same_j,same_j2]
  ·simp only [List.append_assoc,List.length_append,List.length_singleton,gi,gj,gj2,gg,g0,gg2,g02,si,sj,sj2,zca,go_sem,simprocAttr]
   cases z3:decide (hi=⟨0,0⟩)
   ·simp only [List.append_assoc,List.length_append,List.length_singleton,gi,gj,gj2,gg,g0,gg2,g02,si,sj,sj2,zca,go_sem,simprocAttr]
    refine zab (zpZ most hi b4 b2) rfl ?_
    simp only [List.append_assoc,List.length_append,List.length_singleton,gi,gj,gj2,gg,g0,gg2,g02,si,sj,sj2,zca,go_sem,simprocAttr]
    cases z4:most.lt hi
    ·simp only [List.append_assoc,List.length_append,List.length_singleton,gi,gj,gj2,gg,g0,gg2,g02,si,sj,sj2,zca,go_sem,simprocAttr]
     simp only [zeL,zeM,z1,z2,z3,z4,Bool.true_or,Bool.false_or,if_true,Bool.false_eq_true,if_false,Frac.pv,same_i,same_j,same_j2]
    ·simp only [List.append_assoc,List.length_append,List.length_singleton,gi,gj,gj2,gg,g0,gg2,g02,si,sj,sj2,zca,go_sem,simprocAttr]
     simp only [zeL,zeM,z1,z2,z3,z4,Bool.true_or,Bool.false_or,if_true,Bool.false_eq_true,if_false,Frac.pv,same_i,same_j,same_j2]
   ·simp only [List.append_assoc,List.length_append,List.length_singleton,gi,gj,gj2,gg,g0,gg2,g02,si,sj,sj2,zca,go_sem,simprocAttr]
    simp only [zeL,zeM,z1,z2,z3,Bool.true_or,Bool.false_or,if_true,Bool.false_eq_true,if_false,Frac.pv,same_i,same_j,same_j2]
 ·simp only [List.append_assoc,List.length_append,List.length_singleton,gi,gj,gj2,gg,g0,gg2,g02,si,sj,sj2,zca,go_sem,simprocAttr]
  cases z3:decide (hi=⟨0,0⟩)
  ·simp only [List.append_assoc,List.length_append,List.length_singleton,gi,gj,gj2,gg,g0,gg2,g02,si,sj,sj2,zca,go_sem,simprocAttr]
   refine zab (zpZ most hi b4 b2) rfl ?_
   simp only [List.append_assoc,List.length_append,List.length_singleton,gi,gj,gj2,gg,g0,gg2,g02,si,sj,sj2,zca,go_sem,simprocAttr]
   cases z4:most.lt hi
   ·simp only [List.append_assoc,List.length_append,List.length_singleton,gi,gj,gj2,gg,g0,gg2,g02,si,sj,sj2,zca,go_sem,simprocAttr]
    simp only [zeL,zeM,z1,z3,z4,Bool.true_or,Bool.false_or,if_true,Bool.false_eq_true,if_false,Frac.pv,same_i,same_j,same_j2]
   ·simp only [List.append_assoc,List.length_append,List.length_singleton,gi,gj,gj2,gg,g0,gg2,g02,si,sj,sj2,zca,go_sem,simprocAttr]
    simp only [zeL,zeM,z1,z3,z4,Bool.true_or,Bool.false_or,if_true,Bool.false_eq_true,if_false,Frac.pv,same_i,same_j,same_j2]
  ·simp only [List.append_assoc,List.length_append,List.length_singleton,gi,gj,gj2,gg,g0,gg2,g02,si,sj,sj2,zca,go_sem,simprocAttr]
   simp only [zeL,zeM,z1,z3,Bool.true_or,Bool.false_or,if_true,Bool.false_eq_true,if_false,Frac.pv,same_i,same_j,same_j2]
def zgv (e:Int) (a b:HrMark):Frac×Frac:=(⟨60*(a.weight-b.weight-2*e),b.minute-a.minute⟩,⟨60*(a.weight-b.weight+2*e),b.minute-a.minute⟩)
def zea (e:Int):List HrMark→List HrMark→List (Frac×Frac)
 |_,[]=>[]
 |done,b::r=>done.map (fun a=>zgv e a b)++zea e (done++[b]) r
def zcK (t:HrTest):List (Frac×Frac):=zea t.error [] t.marks
def zm4 (q:Frac×Frac):List PV:=[q.1.pv,q.2.pv]
def zjV (t:HrTest):PV:=.func (.func 371) [] [.ptr 3 [t.pv] 0 0]
theorem zGz (t:HrTest):zae Tryz.prog 340 [t.pv] (zjV t):=by
 refine zbT zad (fn:=Tryz.f340) (n:=4) (rs:=[.tmp 2]) (by kernel_rfl) rfl rfl rfl zIw (Nat.le_of_ble_eq_true rfl) ?_
 simp only [zjV,go_sem,simprocAttr]
structure MarksOk (t:HrTest):Prop where
 len:t.marks.length≤10
 all:∀ m,m∈t.marks→0≤m.minute∧m.minute≤1000000∧0≤m.weight∧m.weight≤10000000
 err:0≤t.error∧t.error≤10000
set_option maxHeartbeats 2000000 in
theorem zF0 (t:HrTest) (hok:MarksOk t):zyk Tryz.prog (zjV t) 2 ((zcK t).map zm4):=by
 refine ⟨fun a ha=>?_,_,_,_,rfl,fun id Inv Fin h0 hid hy hi=>?_⟩
 ·obtain ⟨q,_,rfl⟩:=List.mem_map.1 ha
  rfl
 have hl:=hok.len
 have he:=hok.err
 refine zan zad (fn:=Tryz.f371) (n:=57) (rs:=[]) (by kernel_rfl) rfl rfl rfl zIf (Nat.le_of_ble_eq_true rfl) ?_
 simp only [go_sem,simprocAttr]
 refine zcZ [0,1,10,11] (σ:=List HrMark×List HrMark×List (Frac×Frac)×Heap×Heap)
  (fun q=>t.marks=q.1++q.2.1∧zcK t=q.2.2.1++zea t.error q.1 q.2.1∧Inv q.2.2.1.length q.2.2.2.1∧q.2.2.2.1.length=h0.length) (fun q=>q.2.1.length)
  (fun q=>[(12,.p (.int .i64 q.1.length))]) (fun q=>q.2.2.2.1++q.2.2.2.2) ([],t.marks,[],h0,[]) ⟨rfl,rfl,hi,rfl⟩ (by simp) ?_ ?_
 ·simp only [go_sem,simprocAttr]
 rintro ⟨done,rest,pre,lo,mid⟩ ⟨e1,e2,hI,hlo⟩
 dsimp only at e1 e2 hI hlo
 cases rest with
 |nil =>
  have hlt:¬ ((done.length:Int)<(t.marks.length:Int)):=by rw [e1];simp
  simp only [hlt,decide_false,go_sem,simprocAttr]
  refine ⟨lo,mid,rfl,hlo,.inl ?_⟩
  rw [e2]
  simpa [zea] using hI
 |cons b r =>
  obtain ⟨hx,hlt⟩:=zeb e1
  have hlen:=congrArg List.length e1
  simp only [List.length_append,List.length_cons] at hlen
  have hnx:IntKind.i64.wrap ((done.length:Int)+1)=(((done++[b]).length:Nat):Int):=za9 (by omega) (by simp [zar];omega) (by simp)
  have hle:((done.length:Nat):Int)≤(t.marks.length:Int):=by omega
  have htk:(t.marks.map HrMark.pv).take done.length=done.map HrMark.pv:=by
   rw [e1,List.map_append,List.take_left' (by simp)]
  have hne:(done.length==t.marks.length)=false:=by simp;omega
  have hb:=hok.all b (by rw [e1];simp)
  rw [zea] at e2
  have gg:=zgf hlo
  have ss:=zhK hlo
  have mg:=zgg (lo:=mid) rfl
  have ms:=zhL (lo:=mid) rfl
  simp only [hlt,decide_true,hx,hle,htk,hne,List.append_assoc,List.length_append,List.length_singleton,hlo,gg,ss,mg,ms,go_sem,simprocAttr]
  refine zcZ [0,1,4,10,11,12,20,21] (σ:=List HrMark×List HrMark×List (Frac×Frac)×Heap×Heap)
   (fun q=>done=q.1++q.2.1∧zcK t=q.2.2.1++(q.2.1.map (fun a=>zgv t.error a b)++zea t.error (done++[b]) r)∧Inv q.2.2.1.length q.2.2.2.1∧q.2.2.2.1.length=h0.length∧q.2.2.2.2[mid.length]?=some (.row 2 [.p b.pv])) (fun q=>q.2.1.length)
   (fun q=>[(22,.p (.int .i64 q.1.length))]) (fun q=>q.2.2.2.1++q.2.2.2.2) ([],done,pre,lo,mid++[.row 2 [.p b.pv]]) ⟨rfl,e2,hI,hlo,mg _⟩ rfl ?_ ?_
  ·simp only [hlo,go_sem,simprocAttr]
  clear gg ss mg ms hI hlo e2
  rintro ⟨d2,r2,pre2,lo2,mid2⟩ ⟨f1,f2,hI2,hlo2,hb2⟩
  dsimp only at f1 f2 hI2 hlo2 hb2
  cases r2 with
  |nil =>
   have hlt2:¬ ((d2.length:Int)<(done.length:Int)):=by rw [f1];simp
   simp only [hlt2,decide_false,go_sem,simprocAttr]
   refine zaS (done++[b],r,pre2,lo2,mid2) ⟨by rw [e1];simp,by simpa using f2,hI2,hlo2⟩ (Nat.lt_succ_self _) rfl ?_
   simp only [hnx,go_sem,simprocAttr]
  |cons a r2 =>
   obtain ⟨hxa,hlta⟩:=zeb f1
   have hlen2:=congrArg List.length f1
   simp only [List.length_append,List.length_cons] at hlen2
   have hnx2:IntKind.i64.wrap ((d2.length:Int)+1)=(((d2++[a]).length:Nat):Int):=za9 (by omega) (by simp [zar];omega) (by simp)
   have ha:=hok.all a (by rw [e1,f1];simp)
   have gg:=zgf hlo2
   have ss:=zhK hlo2
   have mg:=zgg (lo:=mid2) rfl
   have ms:=zhL (lo:=mid2) rfl
   have hbt:∀ x,(mid2++x)[mid.length]?=some (.row 2 [.p b.pv]):=fun x=>by rw [List.getElem?_append_left (List.getElem?_eq_some_iff.1 hb2).1];exact hb2
   simp only [HrMark.pv] at hbt
   have w1:IntKind.i64.wrap (a.weight-b.weight)=a.weight-b.weight:=zaj (by omega) (by omega)
   have w2:IntKind.i64.wrap (b.minute-a.minute)=b.minute-a.minute:=zaj (by omega) (by omega)
   have w3:IntKind.i64.wrap (2*t.error)=2*t.error:=zaj (by omega) (by omega)
   have w4:IntKind.i64.wrap (a.weight-b.weight-2*t.error)=a.weight-b.weight-2*t.error:=zaj (by omega) (by omega)
   have w5:IntKind.i64.wrap (60*(a.weight-b.weight-2*t.error))=60*(a.weight-b.weight-2*t.error):=zaj (by omega) (by omega)
   have w6:IntKind.i64.wrap (a.weight-b.weight+2*t.error)=a.weight-b.weight+2*t.error:=zaj (by omega) (by omega)
   have w7:IntKind.i64.wrap (60*(a.weight-b.weight+2*t.error))=60*(a.weight-b.weight+2*t.error):=zaj (by omega) (by omega)
   have hget:((zcK t).map zm4)[pre2.length]?=some (zm4 (zgv t.error a b)):=by rw [f2];simp
   simp only [hlta,decide_true,hxa,List.append_assoc,List.length_append,List.length_singleton,hlo2,gg,ss,mg,ms,hbt,w1,w2,w3,w4,w5,w6,w7,go_sem,simprocAttr]
   have hy':=hy pre2.length _ lo2 (mid2++[AObj.row 2 [AV.p a.pv]]) hget hI2 hlo2
   refine ziV hy' (fun v h' hr=>?_) (fun v h' hr=>?_)
   rotate_left
   ·obtain ⟨_,_,_,_,hr⟩:=hr
    rcases hr with ⟨hr,_⟩ | ⟨hr,_⟩<;>cases hr
   obtain ⟨lo3,ext,rfl,hlo3,hr⟩:=hr
   rcases hr with ⟨hr,hI3⟩ | ⟨hr,hF⟩
   ·cases hr
    simp only [go_sem,simprocAttr]
    refine zaS (d2++[a],r2,pre2++[zgv t.error a b],lo3,mid2++[.row 2 [.p a.pv]]++ext) ⟨by rw [f1];simp,by rw [f2];simp,by simpa using hI3,hlo3,by rw [List.append_assoc];exact hbt _⟩ (Nat.lt_succ_self _) (by simp [List.append_assoc,HrMark.pv]) ?_
    simp only [hnx2,go_sem,simprocAttr]
   ·cases hr
    simp only [go_sem,simprocAttr]
    exact ⟨lo3,mid2++[.row 2 [.p a.pv]]++ext,by simp [List.append_assoc,HrMark.pv],hlo3,.inr hF⟩
structure TestOk (t:HrTest):Prop extends MarksOk t where
 two:2≤t.marks.length
 sorted:t.marks.Pairwise fun a b=>a.minute<b.minute
def zeu (q p:Frac×Frac):Frac×Frac:=(zeL q.1 p.1,zeM q.2 p.2)
def zeq:Frac×Frac:=(⟨0,0⟩,⟨0,0⟩)
def zcg (t:HrTest):Frac×Frac:=(zcK t).foldl zeu zeq
def mx0 (x:Int):Int:=if 0<x then x else 0
def zbP (t:HrTest):Span×Bool:=(⟨mx0 (zcg t).1.down,mx0 (zcg t).2.up⟩,!(zcg t).2.lt (zcg t).1)
def ze5 (q:Frac×Frac):Prop:=q.1.B∧q.2.B∧0<q.1.below∧0<q.2.below
theorem zpj {t:HrTest} (hok:TestOk t):∀ (rest done:List HrMark),t.marks=done++rest→∀ q,q∈zea t.error done rest→ze5 q
 |[],_,_,q,h=>by cases h
 |b::r,done,e,q,h=>by
  rw [zea,List.mem_append,List.mem_map] at h
  rcases h with ⟨a,ha,rfl⟩ | h
  ·have h1:=hok.all a (by rw [e];simp [ha])
   have h2:=hok.all b (by rw [e];simp)
   have h3:a.minute<b.minute:=by
    have:=hok.sorted
    rw [e,List.pairwise_append] at this
    exact this.2.2 a ha b (by simp)
   have h4:=hok.err
   simp only [ze5,zgv,Frac.B]
   omega
  ·exact zpj hok r (done++[b]) (by rw [e];simp) q h
theorem zg7 {t:HrTest} (hok:TestOk t):∀ q,q∈zcK t→ze5 q:=zpj hok t.marks [] rfl
theorem zoF {q p:Frac×Frac} (hq:q=zeq∨ze5 q) (hp:ze5 p):ze5 (zeu q p):=by
 unfold zeu zeL zeM
 rcases hq with rfl | hq
 ·simpa [zeq] using hp
 ·unfold ze5 at *
  refine ⟨?_,?_,?_,?_⟩<;>dsimp only<;>split<;>simp_all
theorem zoJ:∀ (l:List (Frac×Frac)) (q:Frac×Frac),(q=zeq∨ze5 q)→(∀ p,p∈l→ze5 p)→(l.foldl zeu q=zeq∧l=[]∨ze5 (l.foldl zeu q))
 |[],q,hq,_=>hq.imp (fun h=>⟨h,rfl⟩) id
 |p::l,q,hq,hl=>by
  have:=zoJ l (zeu q p) (.inr (zoF hq (hl p (by simp)))) fun p' hp'=>hl p' (by simp [hp'])
  rcases this with ⟨h1,h2⟩ | h
  ·subst h2
   exact .inr (zoF hq (hl p (by simp)))
  ·exact .inr h
theorem ztc {t:HrTest} (h:2≤t.marks.length):zcK t≠[]:=by
 unfold zcK
 match hm:t.marks with
 |[]=>rw [hm] at h;simp at h
 |[a]=>rw [hm] at h;simp at h
 |a::b::r=>simp [zea]
theorem zot {t:HrTest} (hok:TestOk t):ze5 (zcg t):=by
 rcases zoJ (zcK t) zeq (.inl rfl) (zg7 hok) with ⟨_,h⟩ | h
 ·exact absurd h (ztc hok.two)
 ·exact h
theorem zC2:zeq.1.B∧zeq.2.B:=by simp [zeq,Frac.B]
set_option maxHeartbeats 2000000 in
theorem zpX (t:HrTest) (hok:TestOk t):zae Tryz.prog 284 [t.pv] (.tuple [(zbP t).1.pv,.bool (zbP t).2]):=by
 refine zaa zad (fn:=Tryz.f284) (n:=29) (rs:=[.cell 2 30,.tmp 3]) (by kernel_rfl) rfl rfl rfl zI3 (Nat.le_of_ble_eq_true rfl) ?_
 simp only [zym,zal,go_sem,simprocAttr]
 refine zab (zGz t) rfl ?_
 simp only [zjV,go_sem,simprocAttr]
 refine zwL (l:=(zcK t).map zm4) (fun o k h=>h=[.row 3 [.p t.pv],.row 2 [.p (.agg [.int .i64 0,.int .i64 0])],.row 2 [.p (((zcK t).take k).foldl zeu zeq).1.pv],.row 2 [.p (((zcK t).take k).foldl zeu zeq).2.pv],
   .row 1 [.func (.func 338) [] [.ptr 2 1 0 0,.ptr 3 1 0 0]],.dblock,o]) (fun _ _=>False)
  rfl (by simp only [zjV,go_sem,simprocAttr]) (zF0 t hok.toMarksOk) zad (by kernel_rfl) (by kernel_rfl) (by kernel_rfl) ?_ ?_ ?_ ?_ (fun _ _ _ h=>h.elim)
 ·rintro o k h rfl;simp
 ·intro o
  simp only [zeq,go_sem,simprocAttr]
  exact ⟨rfl,rfl⟩
 ·rintro oR oB oD k xs lo mid hk rfl _
  rw [List.getElem?_map,Option.map_eq_some_iff] at hk
  obtain ⟨q,hq,rfl⟩:=hk
  have hqB:=zg7 hok q (List.mem_of_getElem? hq)
  have hkB:(((zcK t).take k).foldl zeu zeq).1.B∧(((zcK t).take k).foldl zeu zeq).2.B:=by
   rcases zoJ ((zcK t).take k) zeq (.inl rfl) (fun p hp=>zg7 hok p (List.mem_of_mem_take hp)) with ⟨h,_⟩ | h
   ·rw [h];exact zC2
   ·exact ⟨h.1,h.2.1⟩
  have mg:=zgg (lo:=mid) rfl
  have mgg:=zgf (lo:=mid) rfl
  have ms:=zhL (lo:=mid) rfl
  have mss:=zhK (lo:=mid) rfl
  simp only [zm4,List.append_assoc,List.length_append,List.length_singleton,mg,mgg,ms,mss,go_sem,simprocAttr]
  refine zbk (zKP _ _ q.1 q.2 2 3 _ rfl rfl (by decide) hkB.1 hkB.2 hqB.1 hqB.2.1) ?_
  simp only [go_sem,simprocAttr]
  refine ⟨_,[AObj.row 2 [AV.p q.1.pv],AObj.row 2 [AV.p q.2.pv]]++[AObj.row 2 [AV.p q.1.pv],AObj.row 2 [AV.p q.2.pv]],?_,by simp,rfl⟩
  rw [List.take_add_one,hq,Option.toList_some,List.foldl_append]
  simp [zeu,Frac.pv]
 ·rintro o lo mid rfl _
  have hr:=zot hok
  rw [List.length_map,List.take_length]
  have e:List.foldl zeu zeq (zcK t)=zcg t:=rfl
  rw [e]
  simp only [zym,zal,go_sem,simprocAttr]
  refine zau (zgB (zcg t).1 hr.2.2.1 (by have:=hr.1.1;omega) (by have:=hr.1.2.1;omega)) rfl ?_
  simp only [go_sem,simprocAttr]
  refine zau (cUp (zcg t).2 hr.2.2.2 (by have:=hr.2.1.1;omega) (by have:=hr.2.1.2.1;omega)) rfl ?_
  simp only [go_sem,simprocAttr]
  refine zau (zpZ (zcg t).2 (zcg t).1 hr.2.1 hr.1) rfl ?_
  simp only [zym,zal,Span.pv,zbP,mx0,go_sem,simprocAttr]
  rw [zaX]
  simp only [go_sem,simprocAttr]
end Abs
end Go.Proofs.YtahlnclapingiaaGreatDoor
namespace Go.Proofs.YtahlnclapingiaaGreatDoor
namespace Abs
set_option maxRecDepth 4000
def Frac.le (f g:Frac):Prop:=f.top*g.below≤g.top*f.below
theorem Frac.lt_iff (f g:Frac):f.lt g=true↔¬ g.le f:=by
 simp only [Frac.lt,Frac.le,decide_eq_true_eq];omega
theorem Frac.lt_false (f g:Frac):f.lt g=false↔g.le f:=by
 simp only [Frac.lt,Frac.le,decide_eq_false_iff_not];omega
theorem Frac.le_refl (f:Frac):f.le f:=Int.le_refl _
theorem Frac.le_total (f g:Frac):f.le g∨g.le f:=by simp only [Frac.le];omega
theorem Frac.le_trans {f g h:Frac} (hf:0<f.below) (hg:0<g.below) (hh:0<h.below) (h1:f.le g) (h2:g.le h):f.le h:=by
 unfold Frac.le at *
 have e1:f.top*g.below*h.below≤g.top*f.below*h.below:=Int.mul_le_mul_of_nonneg_right h1 (Int.le_of_lt hh)
 have e2:g.top*h.below*f.below≤h.top*g.below*f.below:=Int.mul_le_mul_of_nonneg_right h2 (Int.le_of_lt hf)
 have e3:f.top*h.below*g.below≤h.top*f.below*g.below:=by
  have a1:f.top*h.below*g.below=f.top*g.below*h.below:=by rw [Int.mul_assoc,Int.mul_comm h.below,←Int.mul_assoc]
  have a2:g.top*f.below*h.below=g.top*h.below*f.below:=by rw [Int.mul_assoc,Int.mul_comm f.below,←Int.mul_assoc]
  have a3:h.top*f.below*g.below=h.top*g.below*f.below:=by rw [Int.mul_assoc,Int.mul_comm f.below,←Int.mul_assoc]
  omega
 exact Int.le_of_mul_le_mul_right e3 hg
theorem Frac.le_int (f:Frac) (n:Int):f.le ⟨n,1⟩↔f.top≤n*f.below:=by simp [Frac.le]
theorem Frac.int_le (f:Frac) (n:Int):Frac.le ⟨n,1⟩ f↔n*f.below≤f.top:=by simp [Frac.le]
theorem Frac.down_le {f:Frac} (hf:0<f.below) (n:Int):n≤f.down↔n*f.below≤f.top:=Int.le_ediv_iff_mul_le hf
theorem Frac.up_le {f:Frac} (hf:0<f.below) (n:Int):f.up≤n↔f.top≤n*f.below:=by
 unfold Frac.up
 have:=Int.le_ediv_iff_mul_le (a:=-n) (b:=-f.top) hf
 rw [Int.neg_mul] at this
 constructor
 ·intro h;have:=this.1 (by omega);omega
 ·intro h;have:=this.2 (by omega);omega
def zuS (l:List (Frac×Frac)) (q:Frac×Frac):Prop :=
 ((∃ p,p∈l∧p.1=q.1)∧∀ p,p∈l→p.1.le q.1)∧((∃ p,p∈l∧p.2=q.2)∧∀ p,p∈l→q.2.le p.2)
theorem zxp {l:List (Frac×Frac)} {q p:Frac×Frac} (hl:∀ x,x∈l→ze5 x) (hq:zuS l q) (hqB:ze5 q) (hp:ze5 p):zuS (l++[p]) (zeu q p):=by
 have n1:q.1≠⟨0,0⟩:=fun h=>by have:=hqB.2.2.1;rw [h] at this;exact absurd this (by decide)
 have n2:q.2≠⟨0,0⟩:=fun h=>by have:=hqB.2.2.2;rw [h] at this;exact absurd this (by decide)
 obtain ⟨⟨⟨x,hx,ex⟩,h1⟩,⟨y,hy,ey⟩,h2⟩:=hq
 unfold zeu zeL zeM
 simp only [decide_eq_false n1,decide_eq_false n2,Bool.false_or]
 refine ⟨?_,?_⟩
 ·dsimp only
  cases hc:q.1.lt p.1
  ·rw [Frac.lt_false] at hc
   refine ⟨⟨x,by simp [hx],ex⟩,fun z hz=>?_⟩
   rcases List.mem_append.1 hz with hz | hz
   ·exact h1 z hz
   ·rw [List.mem_singleton.1 hz];exact hc
  ·have hc':q.1.le p.1:=(Frac.le_total _ _).resolve_right (by rw [Frac.lt_iff] at hc;exact hc)
   refine ⟨⟨p,by simp,rfl⟩,fun z hz=>?_⟩
   rcases List.mem_append.1 hz with hz | hz
   ·exact Frac.le_trans (hl z hz).2.2.1 hqB.2.2.1 hp.2.2.1 (h1 z hz) hc'
   ·rw [List.mem_singleton.1 hz];exact Frac.le_refl _
 ·dsimp only
  cases hc:p.2.lt q.2
  ·rw [Frac.lt_false] at hc
   refine ⟨⟨y,by simp [hy],ey⟩,fun z hz=>?_⟩
   rcases List.mem_append.1 hz with hz | hz
   ·exact h2 z hz
   ·rw [List.mem_singleton.1 hz];exact hc
  ·have hc':p.2.le q.2:=(Frac.le_total _ _).resolve_right (by rw [Frac.lt_iff] at hc;exact hc)
   refine ⟨⟨p,by simp,rfl⟩,fun z hz=>?_⟩
   rcases List.mem_append.1 hz with hz | hz
   ·exact Frac.le_trans hp.2.2.2 hqB.2.2.2 (hl z hz).2.2.2 hc' (h2 z hz)
   ·rw [List.mem_singleton.1 hz];exact Frac.le_refl _
theorem zpO:∀ (r l:List (Frac×Frac)) (q:Frac×Frac),(∀ x,x∈l++r→ze5 x)→zuS l q→ze5 q→zuS (l++r) (r.foldl zeu q)
 |[],l,q,_,h,_=>by simpa using h
 |p::r,l,q,hb,h,hq=>by
  have hp:=hb p (by simp)
  have:=zpO r (l++[p]) (zeu q p) (by simpa using hb) (zxp (fun x hx=>hb x (by simp [hx])) h hq hp) (zoF (.inr hq) hp)
  simpa using this
theorem zpf {t:HrTest} (hok:TestOk t):zuS (zcK t) (zcg t):=by
 have hB:=zg7 hok
 have hne:=ztc hok.two
 unfold zcg
 cases hp:zcK t with
 |nil=>exact absurd hp hne
 |cons p r =>
  rw [hp] at hB
  have hpB:=hB p (by simp)
  have e:zeu zeq p=p:=by simp [zeu,zeL,zeM,zeq]
  rw [List.foldl_cons,e]
  have:=zpO r [p] p (by simpa using hB) ⟨⟨⟨p,by simp,rfl⟩,by simp [Frac.le_refl]⟩,⟨p,by simp,rfl⟩,by simp [Frac.le_refl]⟩ hpB
  simpa using this
def zeh (t:HrTest):Bool:=(zbP t).2
theorem zAR {t:HrTest} (hok:TestOk t):zeh t=true↔∀ p,p∈zcK t→∀ q,q∈zcK t→p.1.le q.2:=by
 have hb:=zpf hok
 have hB:=zg7 hok
 have hr:=zot hok
 have e:zeh t=true↔(zcg t).1.le (zcg t).2:=by
  rw [zeh,zbP]
  dsimp only
  rw [Bool.not_eq_true',Frac.lt_false]
 rw [e]
 constructor
 ·intro h p hp q hq
  exact Frac.le_trans (hB p hp).2.2.1 hr.2.2.2 (hB q hq).2.2.2 (Frac.le_trans (hB p hp).2.2.1 hr.2.2.1 hr.2.2.2 (hb.1.2 p hp) h) (hb.2.2 q hq)
 ·intro h
  obtain ⟨⟨p,hp,e1⟩,_⟩:=hb.1
  obtain ⟨⟨q,hq,e2⟩,_⟩:=hb.2
  rw [←e1,←e2]
  exact h p hp q hq
theorem zm6:∀ (l:List HrMark) (last:Int),zfM last l=false→(∀ m,m∈l→last<m.minute)∧l.Pairwise fun a b=>a.minute<b.minute
 |[],_,_=>⟨fun _ h=>(List.not_mem_nil h).elim,.nil⟩
 |m::r,last,h=>by
  rw [zfM,Bool.or_eq_false_iff] at h
  have h1:last<m.minute:=by simpa using h.1
  have ⟨h2,h3⟩:=zm6 r m.minute h.2
  refine ⟨fun x hx=>?_,.cons h2 h3⟩
  rcases List.mem_cons.1 hx with rfl | hx
  ·exact h1
  ·have:=h2 x hx;omega
theorem zdv {nk:Int} {t:HrTest} (h:za6 nk t=0):TestOk t∧0≤t.kind∧t.kind<nk:=by
 unfold za6 at h
 split at h
 ·rename_i h1
  split at h
  ·rename_i h2
   split at h
   ·rename_i h3
    split at h
    ·rename_i h4
     split at h
     ·cases h
     ·rename_i h5
      simp [gIn] at h1 h2 h3
      have h5':=zm6 _ _ (Bool.eq_false_iff.2 h5)
      rw [List.all_eq_true] at h4
      refine ⟨⟨⟨by omega,fun m hm=>?_,by omega⟩,by omega,h5'.2⟩,by omega,by omega⟩
      have:=h4 m hm
      simp [zhD,gIn] at this
      omega
    ·cases h
   ·cases h
  ·cases h
 ·cases h
theorem zv7 {s:HrShop} {t:HrTest} (h:zba s [t]=0):(hrCheck s).2.2=0∧za6 s.kinds.length t=0:=by
 unfold zba at h
 split at h
 ·rename_i hc
  refine ⟨hc,?_⟩
  simp only [zby] at h
  split at h<;>assumption
 ·contradiction
def zb2 (s:HrShop) (t:HrTest):Span×Int:=if zba s [t]=0 then (if zeh t=true then ((zbP t).1,0) else (⟨0,0⟩,9)) else (⟨0,0⟩,zba s [t])
theorem zLa (s:HrShop) (t:HrTest):zae Tryz.prog 195 [s.pv,t.pv] (.tuple [(zb2 s t).1.pv,.int .i64 (zb2 s t).2]):=by
 refine zaa zad (fn:=Tryz.f195) (n:=26) (rs:=[.cell 4 30,.tmp 5]) (by kernel_rfl) rfl rfl rfl zJQ (Nat.le_of_ble_eq_true rfl) ?_
 simp only [go_sem,simprocAttr]
 refine zaO (zii s [t] true (by simp)) (by simp only [go_sem,simprocAttr]) (.int _ _) ?_
 simp only [go_sem,simprocAttr]
 cases h0:(zba s [t] != 0)
 rotate_left
 ·have h0':¬ zba s [t]=0:=by simpa using h0
  simp only [zb2,if_neg h0',Span.pv,go_sem,simprocAttr]
 have h0':zba s [t]=0:=by simpa using h0
 have hok:=(zdv (zv7 h0').2).1
 simp only [go_sem,simprocAttr]
 refine zab (zpX t hok) rfl ?_
 simp only [Span.pv,go_sem,simprocAttr]
 cases h1:(zbP t).2
 ·simp only [zb2,h0',zeh,h1,Span.pv,go_sem,simprocAttr]
 ·simp only [zb2,h0',zeh,h1,Span.pv,go_sem,simprocAttr]
def prs {α:Type}:List α→List (α×α)
 |[]=>[]
 |x::r=>r.map (fun y=>(x,y))++prs r
theorem zjc {α:Type} (x:α):∀ l:List α,∀ q,q∈prs (l++[x])↔q∈prs l∨∃ y,y∈l∧q=(y,x)
 |[],q=>by simp [prs]
 |z::l,q=>by
  rw [List.cons_append,prs,prs,List.mem_append,List.mem_append,zjc x l,List.map_append,List.mem_append]
  simp only [List.map_cons,List.map_nil,List.mem_cons,List.not_mem_nil,or_false]
  constructor
  ·rintro ((h | h) | h | ⟨y,hy,h⟩)
   ·exact .inl (.inl h)
   ·exact .inr ⟨z,.inl rfl,h⟩
   ·exact .inl (.inr h)
   ·exact .inr ⟨y,.inr hy,h⟩
  ·rintro ((h | h) | ⟨y,rfl | hy,h⟩)
   ·exact .inl (.inl h)
   ·exact .inr (.inl h)
   ·exact .inl (.inr h)
   ·exact .inr (.inr ⟨y,hy,h⟩)
theorem zn1 (e:Int):∀ (rest done:List HrMark) (q:Frac×Frac),(q∈zea e done rest∨∃ p,p∈prs done∧q=zgv e p.1 p.2)↔∃ p,p∈prs (done++rest)∧q=zgv e p.1 p.2
 |[],done,q=>by simp [zea]
 |b::r,done,q=>by
  have:=zn1 e r (done++[b]) q
  rw [List.append_assoc,List.singleton_append] at this
  rw [←this,zea,List.mem_append,List.mem_map]
  constructor
  ·rintro ((⟨a,ha,h⟩ | h) | ⟨p,hp,h⟩)
   ·exact .inr ⟨(a,b),(zjc b done _).2 (.inr ⟨a,ha,rfl⟩),h.symm⟩
   ·exact .inl h
   ·exact .inr ⟨p,(zjc b done _).2 (.inl hp),h⟩
  ·rintro (h | ⟨p,hp,h⟩)
   ·exact .inl (.inr h)
   ·rcases (zjc b done _).1 hp with hp | ⟨a,ha,rfl⟩
    ·exact .inr ⟨p,hp,h⟩
    ·exact .inl (.inl ⟨a,ha,h.symm⟩)
theorem zy8 (t:HrTest) (q:Frac×Frac):q∈zcK t↔∃ p,p∈prs t.marks∧q=zgv t.error p.1 p.2:=by
 have:=zn1 t.error t.marks [] q
 simpa [prs,zcK] using this
end Abs
end Go.Proofs.YtahlnclapingiaaGreatDoor
namespace Go.Proofs.YtahlnclapingiaaGreatDoor
namespace Abs
set_option maxRecDepth 4000
def zcu (m:HrMark):AV:=.p m.pv
attribute [go_sem] zcu
def zlK:AV:=.p (.agg [.int .i64 0,.int .i64 0])
theorem zDK (l:List HrMark) (b:Bool) (h:Heap) (hl:l≠[]) (hlen:l.length≤10) :
  zap Tryz.prog 286 [.p (.slice 2 (l.map HrMark.pv) b)] h (fun r h'=>r=.ret (.slice h.length l.length 0 l.length)∧h'=h++[.row 2 (l.map zcu)]):=by
 refine zan zad (fn:=Tryz.f286) (n:=8) (rs:=[.tmp 2]) (by kernel_rfl) rfl rfl rfl zI1 (Nat.le_of_ble_eq_true rfl) ?_
 have hne:¬ (l.map HrMark.pv=[]):=by simpa using hl
 have hrm:l.length≤zar:=by simp [zar];omega
 have hm:(l.map HrMark.pv).map AV.p=l.map zcu:=by simp [zcu]
 have hne2:¬ (l.map zcu=[]):=by simpa using hl
 simp only [hne,hrm,hl,hm,hne2,if_neg hne2,go_sem,simprocAttr]
theorem zBb (l:List HrMark) (i id:Nat) (h:Heap) (hid:h[id]?=some (.row 2 (l.map zcu))) (hi:i<l.length) (hlen:l.length≤10) :
  zap Tryz.prog 285 [.slice id l.length 0 l.length,.p (.int .i64 i),.p (.int .i64 (i+1:Nat))] h
   (fun r h'=>r=.ret (.slice id l.length 0 (l.length-1))∧h'=h.set id (.row 2 ((l.eraseIdx i).map zcu++[zlK]))):=by
 refine zan zad (fn:=Tryz.f285) (n:=33) (rs:=[.tmp 6]) (by kernel_rfl) rfl rfl rfl zI2 (Nat.le_of_ble_eq_true rfl) ?_
 have h1:(i:Int)≤((i+1:Nat):Int):=by omega
 have h2:((i+1:Nat):Int)≤(l.length:Int):=by omega
 have h3:((i:Int)==((i+1:Nat):Int))=false:=by simp;omega
 have h0:(0:Int)≤(i:Int):=by omega
 have h4:(0:Int)+(l.length:Int)≤(l.length:Int):=by omega
 have h5:(i:Int)≤(l.length:Int):=by omega
 have h6:i+1+(l.length-(i+1))≤l.length:=by omega
 have h7:¬ (i=l.length):=by omega
 have hys:List.take (l.length-(i+1)) (List.drop (i+1) (List.map zcu l))=(l.drop (i+1)).map zcu:=by
  rw [←List.map_drop,List.take_of_length_le (by simp)]
 have h8:i+(l.length-(i+1))=l.length-1:=by omega
 have h9:l.length-1≤l.length:=by omega
 obtain ⟨z,hz⟩:∃ z,List.drop (l.length-1) (List.map zcu l)=[z]:=by
  have:(List.drop (l.length-1) (List.map zcu l)).length=1:=by simp;omega
  match hd:List.drop (l.length-1) (List.map zcu l),this with
  |[z],_=>exact ⟨z,rfl⟩
 have her:List.take i (List.map zcu l)++((l.drop (i+1)).map zcu++[z])=(l.eraseIdx i).map zcu++[z]:=by
  rw [←List.append_assoc,←List.map_take,←List.map_append,List.eraseIdx_eq_take_drop_succ]
 have hel:(l.eraseIdx i).length=l.length-1:=by rw [List.length_eraseIdx,if_pos hi]
 have hgs:∀ x,(h.set id x)[id]?=some x:=fun x=>by rw [List.getElem?_set_self (List.getElem?_eq_some_iff.1 hid).1]
 have h10:((l.length-1:Nat):Int)≤(l.length:Int):=by omega
 have h11:(0:Int)≤((l.length-1:Nat):Int):=by omega
 have h12:l.length-1+1=l.length:=by omega
 have h13:l.length-(l.length-1)=1:=by omega
 have h14:l.length-1+(l.length-(l.length-1))≤l.length:=by omega
 have h15:¬ ((l.length:Int)≤((l.length-1:Nat):Int)):=by omega
 have htk:List.take (l.length-1) (List.map zcu (l.eraseIdx i)++[z])=List.map zcu (l.eraseIdx i):=List.take_left' (by rw [List.length_map,hel])
 have hdr:List.drop l.length (List.map zcu (l.eraseIdx i)++[z])=[]:=List.drop_of_length_le (by simp [hel];omega)
 simp only [h15,htk,hdr,hid,h0,h1,h2,h3,h4,h5,h6,h7,hys,h8,h9,hz,her,hel,hgs,h10,h11,h12,h13,h14,Nat.sub_zero,Nat.zero_add,List.length_drop,List.append_assoc,List.set_set,List.length_append,List.length_singleton,Nat.le_refl,List.append_nil,List.replicate_succ,List.replicate_zero,zlK,go_sem,simprocAttr]
def zoy (l:List Int):PV:=.slice 1 (l.map zay) false
def wo (t:HrTest) (i:Nat):HrTest:={ t with marks:=t.marks.eraseIdx i }
def zhA (t:HrTest):Nat→List HrMark→List Int
 |_,[]=>[]
 |i,_::r=>(if zeh (wo t i)=true then [(i:Int)] else [])++zhA t (i+1) r
def znJ (t:HrTest):List Int:=if zeh t=true then [] else zhA t 0 t.marks
theorem zHz {t:HrTest} (hok:TestOk t) {i:Nat} (h3:3≤t.marks.length):TestOk (wo t i):=by
 have hs:(t.marks.eraseIdx i).Sublist t.marks:=List.eraseIdx_sublist ..
 have hl:(t.marks.eraseIdx i).length≤t.marks.length∧2≤(t.marks.eraseIdx i).length:=by
  rw [List.length_eraseIdx];split<;>omega
 exact ⟨⟨Nat.le_trans hl.1 hok.len,fun m hm=>hok.all m (hs.subset hm),hok.err⟩,hl.2,hok.sorted.sublist hs⟩
theorem zAQ {t:HrTest} (hok:TestOk t) (h:t.marks.length=2):zeh t=true:=by
 rw [zAR hok]
 match hm:t.marks,h with
 |[a,b],_ =>
  intro p hp q hq
  have e:zcK t=[zgv t.error a b]:=by simp [zcK,zea,hm]
  rw [e,List.mem_singleton] at hp hq
  subst hp hq
  have h1:=zg7 hok (zgv t.error a b) (by rw [e];simp)
  have h2:0<b.minute-a.minute:=h1.2.2.1
  have h3:=hok.err
  show _*_≤_*_
  simp only [zgv]
  exact Int.mul_le_mul_of_nonneg_right (by omega) (by omega)
def zfG (s:HrShop) (t:HrTest):List Int×Int:=if zba s [t]=0 then (znJ t,0) else ([],zba s [t])
set_option maxHeartbeats 2000000 in
theorem zGE (s:HrShop) (t:HrTest):zae Tryz.prog 196 [s.pv,t.pv] (.tuple [zoy (zfG s t).1,.int .i64 (zfG s t).2]):=by
 refine zei zad (fn:=Tryz.f196) (n:=51) (rs:=[.tmp 4,.tmp 5]) (by kernel_rfl) rfl rfl rfl zJP (Nat.le_of_ble_eq_true rfl) ?_
 simp only [go_sem,simprocAttr]
 refine zaO (zii s [t] true (by simp)) (by simp only [go_sem,simprocAttr]) (.int _ _) ?_
 simp only [go_sem,simprocAttr]
 cases h0:(zba s [t] != 0)
 rotate_left
 ·have h0':¬ zba s [t]=0:=by simpa using h0
  simp only [zfG,if_neg h0',zoy,List.map_nil,go_sem,simprocAttr]
  exact ⟨_,_,rfl,rfl,.inr ⟨rfl,1,rfl⟩,.inl rfl,trivial⟩
 have h0':zba s [t]=0:=by simpa using h0
 have hok:=(zdv (zv7 h0').2).1
 have hsp:zfG s t=(znJ t,0):=by rw [zfG,if_pos h0']
 rw [hsp]
 simp only [go_sem,simprocAttr]
 refine zab (zpX t hok) rfl ?_
 simp only [go_sem,simprocAttr]
 cases h1:(zbP t).2
 rotate_left
 ·simp only [znJ,zeh,h1,zoy,List.map_nil,go_sem,simprocAttr]
  exact ⟨_,_,rfl,rfl,.inr ⟨rfl,1,rfl⟩,.inl rfl,trivial⟩
 have hnp:¬ zeh t=true:=by simp [zeh,h1]
 have h3:3≤t.marks.length:=by
  rcases Nat.lt_or_ge t.marks.length 3 with h | h
  ·have:=hok.two
   exact absurd (zAQ hok (by omega)) hnp
  ·exact h
 have hlen:=hok.len
 have hne:t.marks≠[]:=by intro h;rw [h] at h3;simp at h3
 have hsp2:znJ t=zhA t 0 t.marks:=by rw [znJ,if_neg hnp]
 rw [hsp2]
 simp only [go_sem,simprocAttr]
 refine zcQ 4 1 (by simp only [go_sem,simprocAttr]) ?_
 simp only [go_sem,simprocAttr]
 refine zcZ [3,8,28] (σ:=List HrMark×List HrMark×List Int×AObj×Heap)
  (fun q=>t.marks=q.1++q.2.1∧zhA t 0 t.marks=q.2.2.1++zhA t q.1.length q.2.1∧q.2.2.1.length≤q.1.length∧(q.2.2.2.1=.row 3 [.p t.pv]∨∃ id ver n,q.2.2.2.1=.row 3 [.agg [.p (.int .i64 t.kind),.p (.int .i64 t.error),.slice id ver 0 n]])) (fun q=>q.2.1.length)
  (fun q=>[(4,.slice 3 q.2.2.1.length 0 q.2.2.1.length),(29,.p (.int .i64 q.1.length))]) (fun q=>[.row 3 [.p s.pv],q.2.2.2.1,.row 2 [.p (zbP t).1.pv],.row 1 (q.2.2.1.map fun n=>.p (zay n))]++q.2.2.2.2) ([],t.marks,[],.row 3 [.p t.pv],[]) ⟨rfl,rfl,Nat.le_refl _,.inl rfl⟩ (by simp only [Span.pv,List.map_nil,List.append_nil,go_sem,simprocAttr]) ?_ ?_
 ·simp only [go_sem,simprocAttr]
 rintro ⟨done,rest,out,a,g⟩ ⟨e1,e2,e3,ha⟩
 dsimp only at e1 e2 e3 ha
 cases rest with
 |nil =>
  have hlt:¬ ((done.length:Int)<(t.marks.length:Int)):=by rw [e1];simp
  rw [zhA,List.append_nil] at e2
  simp only [hlt,decide_false,e2,zoy,go_sem,simprocAttr]
  exact .inl rfl
 |cons b r =>
  obtain ⟨hx,hlt⟩:=zeb e1
  have hlen1:=congrArg List.length e1
  simp only [List.length_append,List.length_cons] at hlen1
  have hi:done.length<t.marks.length:=by omega
  have hnx:IntKind.i64.wrap ((done.length:Int)+1)=(((done++[b]).length:Nat):Int):=za9 (by omega) (by simp [zar];omega) (by simp)
  have hn1:IntKind.i64.wrap ((done.length:Int)+1)=((done.length+1:Nat):Int):=by rw [hnx];simp
  have hwo:=zHz hok (i:=done.length) h3
  simp only [hlt,decide_true,go_sem,simprocAttr]
  refine zbk (zDK t.marks false _ hne hlen) ?_
  simp only [hn1,go_sem,simprocAttr]
  have g0:=zgg (lo:=g) rfl
  have s0:=zhL (lo:=g) rfl
  have gg:=zgf (lo:=g) rfl
  have ss:=zhK (lo:=g) rfl
  refine zbk (zBb t.marks done.length _ _ (by simp) hi hlen) ?_
  have hrm:out.length+1≤zar:=by simp [zar];omega
  have hog:zhA t done.length (b::r)=(if zeh (wo t done.length)=true then [((done.length:Nat):Int)] else [])++zhA t (done.length+1) r:=rfl
  rw [hog] at e2
  have hfz:∀ n h,zaD (zbe n h) (List.map zcu (t.marks.eraseIdx done.length)++[zlK])=some ((wo t done.length).marks.map HrMark.pv++[.agg [.int .i64 0,.int .i64 0]]):=by
   intro n h
   have e:List.map zcu (t.marks.eraseIdx done.length)++[zlK]=List.map AV.p ((wo t done.length).marks.map HrMark.pv++[.agg [.int .i64 0,.int .i64 0]]):=by simp [zcu,zlK,wo]
   rw [e]
   exact zbV (zcp n h) id _ |>.trans (by simp)
  have htk2:List.take (t.marks.length-1) ((t.marks.eraseIdx done.length).map HrMark.pv++[.agg [.int .i64 0,.int .i64 0]])=(t.marks.eraseIdx done.length).map HrMark.pv:=by
   rw [List.take_left' (by rw [List.length_map,List.length_eraseIdx,if_pos hi])]
  have hel2:(t.marks.eraseIdx done.length).length+1=t.marks.length:=by rw [List.length_eraseIdx,if_pos hi];omega
  have hfl:t.marks.length-1≤t.marks.length:=by omega
  rcases ha with rfl | ⟨id,ver,n,rfl⟩ <;>
  (simp only [g0,s0,gg,ss,go_sem,simprocAttr]
   refine zaO (zpX (wo t done.length) hwo) ?_ (.tuple ?_) ?_
   ·simp only [g0,hfz,htk2,hfl,hel2,List.length_append,List.length_singleton,wo,go_sem,simprocAttr]
   ·exact Flat.cons (.agg (Flat.cons (.int _ _) (Flat.cons (.int _ _) Flat.nil))) (Flat.cons (.bool _) Flat.nil)
   simp only [List.append_assoc,List.length_append,List.length_singleton,gg,ss,g0,s0,go_sem,simprocAttr]
   cases hp:(zbP (wo t done.length)).2
   ·simp only [List.append_assoc,List.length_append,List.length_singleton,gg,ss,g0,s0,go_sem,simprocAttr]
    refine zaS (done++[b],r,out,_,g++[AObj.row 2 (List.map zcu (t.marks.eraseIdx done.length)++[zlK]),AObj.row 2 [AV.p (PV.agg [PV.int IntKind.i64 (zbP (wo t done.length)).fst.lo,PV.int IntKind.i64 (zbP (wo t done.length)).fst.hi])]]) ⟨by rw [e1];simp,by rw [e2,if_neg (by rw [zeh,hp];simp)];simp,by simp;omega,.inr ⟨g.length+1+1+1+1,t.marks.length,t.marks.length-1,rfl⟩⟩ (Nat.lt_succ_self _) ?_ ?_
    ·simp only [go_sem,simprocAttr]
    ·simp only [hnx,go_sem,simprocAttr]
   ·simp only [List.append_assoc,List.length_append,List.length_singleton,gg,ss,g0,s0,hrm,go_sem,simprocAttr]
    refine zaS (done++[b],r,out++[((done.length:Nat):Int)],_,g++[AObj.row 2 (List.map zcu (t.marks.eraseIdx done.length)++[zlK]),AObj.row 2 [AV.p (PV.agg [PV.int IntKind.i64 (zbP (wo t done.length)).fst.lo,PV.int IntKind.i64 (zbP (wo t done.length)).fst.hi])]]) ⟨by rw [e1];simp,by rw [e2,if_pos (by rw [zeh,hp])];simp,by simp;omega,.inr ⟨g.length+1+1+1+1,t.marks.length,t.marks.length-1,rfl⟩⟩ (Nat.lt_succ_self _) ?_ ?_
    ·simp only [go_sem,simprocAttr]
     rw [List.map_append];rfl
    ·simp only [hnx,List.length_append,List.length_singleton,go_sem,simprocAttr])
end Abs
end Go.Proofs.YtahlnclapingiaaGreatDoor
