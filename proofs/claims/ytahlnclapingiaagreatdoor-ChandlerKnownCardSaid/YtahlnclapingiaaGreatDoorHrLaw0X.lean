/-
  CONTRACTS: the helpers of the laws of layer 9: the examples, and that they are answered as
  CONTRACTS: the laws HourKept and HourRules. No conditions but those in the theorems' heads
  CONTRACTS: chandler: promise, box, stock. No conditions but those in the theorems' heads.
  CONTRACTS: chandler: best, plan, pour. No conditions but those in the theorems' heads.
-/
import Derived.Test.YtahlnclapingiaaGreatDoorChBkX
set_option linter.unusedSimpArgs false
set_option linter.unusedVariables false
namespace Go.Proofs.YtahlnclapingiaaGreatDoor
namespace Abs
set_option maxRecDepth 100000
theorem zyM (t:HrTest):PL (zbK t) t.pv:=by
 cases t with
 |mk k e ms =>
  cases ms with
  |nil=>exact zDw k e
  |cons m ms=>exact .refl _
theorem zxN (s:HrShop) (all:List UInt8):zae Tryz.prog 194 [s.pv,.str (bs all)] (.tuple [(zaB s all).1.pv,.int .i64 (zaB s all).2]) :=
 (zwF s all).lessD (PL.tupleL ⟨zyM _,.refl _,trivial⟩)
theorem zEq (a c:List Int) (b1 b2:Bool) (ha:a.length<1000000000):zae Tryz.prog 36 [.slice 1 (a.map zay) b1,.slice 1 (c.map zay) b2] (.bool (a==c)):=by
 refine zaa zad (fn:=Tryz.f36) (n:=26) (rs:=[.tmp 4]) (by kernel_rfl) rfl rfl rfl zNe (Nat.le_of_ble_eq_true rfl) ?_
 simp only [go_sem,simprocAttr]
 refine zaH (fun hb=>?_) (fun hb=>?_)<;>simp only [hb,go_sem,simprocAttr]
 ·have:¬ (a=c):=fun h=>by subst h;simp at hb
  simp [this]
 have hlen:a.length=c.length:=by simp [bne] at hb;omega
 refine zcr [0,1] a ha (τ:=Unit) (fun done rest _=>c.take done.length=done) (fun done _=>[(5,.p (.int .i64 done.length))]) () (by simp) ?_ ?_ ?_
 ·simp only [go_sem,simprocAttr]<;>simp
 ·intro _ e2
  rw [List.take_of_length_le (by omega)] at e2
  subst e2
  simp only [go_sem,simprocAttr]
  simp
 ·intro done x rest _ e1 e2 hx hlt hnx
  have hlt2:(done.length:Int)<(c.length:Int):=by omega
  obtain ⟨y,hy⟩:∃ y,c[done.length]?=some y:=⟨_,List.getElem?_eq_getElem (by omega)⟩
  simp only [hlt,hlt2,hx,hy,go_sem,simprocAttr]
  refine zaH (fun hb=>?_) (fun hb=>?_)<;>simp only [hb,go_sem,simprocAttr]
  ·have:¬ (a=c):=fun h=>by
    subst h
    rw [hx] at hy;cases hy;simp at hb
   simp [this]
  ·have hxy:x=y:=by simpa using hb
   refine zaA e1 () (by rw [List.length_append,List.length_singleton,List.take_add_one,e2,hy,hxy];rfl) ?_
   simp only [hnx,go_sem,simprocAttr]
theorem zEi (a b:Int):zae Tryz.prog 77 [.int .i64 a,.int .i64 b] (.agg [.int .i64 a,.int .i64 b]):=by
 refine zaa zad (fn:=Tryz.f77) (n:=8) (rs:=[.cell 4 30]) (by kernel_rfl) rfl rfl rfl zMY (Nat.le_of_ble_eq_true rfl) ?_
 simp only [go_sem,simprocAttr]
def zsu:HrShop:=⟨[⟨⟨#[97,108,116,97,114]⟩,⟨100000,101000⟩,1000⟩],[⟨⟨#[99,104,117,114,99,104]⟩,⟨1200,2000⟩,⟨90000,110000⟩⟩,⟨⟨#[108,97,109,112]⟩,⟨1400,2000⟩,⟨0,10000000⟩⟩],100⟩
theorem zb4:∀ l:List PV,PLs l l
 |[]=>trivial
 |x::l=>⟨.refl x,zb4 l⟩
theorem zK6:zae Tryz.prog 43 [] zsu.pv:=by
 refine zae.lessD (q:=.agg [.slice 4 (zsu.kinds.map HrKind.pv) true,.slice 5 (zsu.rules.map HrRule.pv) true,.int .i64 100]) ?_ (PL.aggL rfl ⟨PL.sliceL rfl (zb4 _),PL.sliceL rfl (zb4 _),.refl _,trivial⟩)
 refine zaa zad (fn:=Tryz.f43) (n:=12) (rs:=[.cell 0 36]) (by kernel_rfl) rfl rfl rfl zM8 (Nat.le_of_ble_eq_true rfl) ?_
 simp only [go_sem,simprocAttr]
 repeat' (refine zab (zEi _ _) rfl ?_;simp only [go_sem,simprocAttr])
 exact ⟨rfl,rfl⟩
end Abs
end Go.Proofs.YtahlnclapingiaaGreatDoor
namespace Go.Proofs.YtahlnclapingiaaGreatDoor
namespace Abs
set_option maxRecDepth 100000
theorem zr7 {x:HrK} (hx:HrKOk x):0≤x.promise∧x.promise≤16666∧x.promise*x.rates.hi≤x.k.weight.lo-x.k.rest∧(x.promise<16666→x.k.weight.lo-x.k.rest<x.rates.hi*(x.promise+1)):=by
 have hk:=hx.k
 have h1:=hk.lo;have h4:=hk.rest;have h5:=hk.less;have h6:=hx.pos;have h7:=hx.hi
 have hd:=Frac.down_le (f:=⟨x.least.top,x.least.below*60⟩) (show (0:Int)<x.rates.hi*60 by omega)
 simp only [HrK.least] at hd
 have e:∀ n:Int,n*(x.rates.hi*60)=n*x.rates.hi*60:=fun n=>(Int.mul_assoc _ _ _).symm
 have key:∀ n:Int,n≤Frac.down ⟨60*(x.k.weight.lo-x.k.rest),x.rates.hi*60⟩↔n*x.rates.hi≤x.k.weight.lo-x.k.rest:=by
  intro n
  rw [hd n,e n]
  omega
 rw [HrK.promise,HrK.least]
 dsimp only
 generalize hD:Frac.down ⟨60*(x.k.weight.lo-x.k.rest),x.rates.hi*60⟩=D at key ⊢
 have k0:0≤D:=(key 0).2 (by omega)
 have k1:=(key D).1 (Int.le_refl _)
 have k2:¬ (D+1)*x.rates.hi≤x.k.weight.lo-x.k.rest:=fun h=>by have:=(key (D+1)).2 h;omega
 split
 ·refine ⟨k0,by omega,k1,fun _=>?_⟩
  rw [Int.mul_comm];omega
 ·refine ⟨by omega,by omega,(key _).1 (by omega),fun h=>by omega⟩
def zFV (l:List HrTest) (k w r:Int):PV:=.agg [.slice 3 (l.map HrTest.pv) false,.int .u8 k,.int .u32 w,.int .u32 r]
attribute [go_sem] zFV
end Abs
end Go.Proofs.YtahlnclapingiaaGreatDoor
namespace Go.Proofs.YtahlnclapingiaaGreatDoor
namespace Abs
namespace Ch
set_option maxRecDepth 4000
structure SOk (s:ChShop):Prop where
 wax:(Wx.wxCheck s.wax).2.2=0
 blend:(bdCheck s.blend).2.2=0
 wick:Wk.shopErr s.wick=0
 hour:(hrCheck s.hour).2.2=0
 colour:(Cl.clCheck s.colour).2.2=0
theorem SOk.kinds {s:ChShop} (h:SOk s):s.hour.kinds.length<1000000000:=by
 have h:=h.hour
 unfold hrCheck at h
 split at h
 ·rename_i h1
  simp [gIn] at h1;omega
 ·cases h
theorem zr6 {s:HrShop} {l:List HrTest} {k:Int} (h:(zcj s l k).2=0):0≤(zcj s l k).1∧(zcj s l k).1≤16666:=by
 unfold zcj at h ⊢
 split at h
 ·rename_i h0
  rw [if_pos h0]
  have:=zr7 (zmY h0).1
  exact ⟨this.1,this.2.1⟩
 ·rename_i h0;exact absurd h h0
def zyh (s:ChShop) (b:ChBooks) (ex:List PV) (q:Except Int (Int×Int)) (r:AEnd) (h':Heap):Prop :=
 h'=B7 s b ex∧r=match q with | .error e=>.panic (zdq e) | .ok (k,n)=>.ret (.p (.tuple [.int .i64 k,.int .i64 n]))
theorem ztI (s:ChShop) (b:ChBooks) (ex:List PV) (n:Nat) (hs:SOk s) (hb:BkOk s b n) (kind:List UInt8):zap Tryz.prog 113 [.ptr 2 1 0 0,.p (.str (bs kind))] (B7 s b ex)
  (zyh s b ex (zdl s b kind)):=by
 have hk9:=hs.kinds
 refine za4 zad (fn:=Tryz.f113) (n:=36) (rs:=[.tmp 4,.tmp 5]) (by kernel_rfl) rfl rfl rfl zKt (Nat.le_of_ble_eq_true rfl) ?_
 simp only [ChShop.cells,go_sem,simprocAttr]
 by_cases h0:zam (fun x:HrKind=>x.name==bs kind) s.hour.kinds 0<0
 ·refine zj7 (zFC s.hour.kinds (bs kind) false hk9 h0) rfl (zhb _) ?_
  simp only [zdl,if_pos h0,go_sem,simprocAttr]
  exact ⟨_,[],(List.append_nil _).symm,rfl,zcU s b ex,trivial,rfl,rfl⟩
 refine zab (zGG s.hour.kinds (bs kind) false hk9 (by omega)) rfl ?_
 simp only [go_sem,simprocAttr]
 refine zE4 (zBE s.hour b.tests (zam (fun x:HrKind=>x.name==bs kind) s.hour.kinds 0)) ?_ (.tuple (Flat.cons (.int _ _) (Flat.cons (.int _ _) Flat.nil))) ?_
 ·simp only [go_sem,simprocAttr]
 simp only [go_sem,simprocAttr]
 by_cases h1:(zcj s.hour b.tests (zam (fun x:HrKind=>x.name==bs kind) s.hour.kinds 0)).2=0
 ·simp only [h1,go_sem,simprocAttr]
  refine zak (fun _=>?_) (fun h=>by cases h)
  simp only [zdl,if_neg h0,go_sem,simprocAttr]
  exact ⟨_,[],(List.append_nil _).symm,rfl,zcU s b ex,trivial,rfl,by simp only [h1];rfl⟩
 ·have h1':((zcj s.hour b.tests (zam (fun x:HrKind=>x.name==bs kind) s.hour.kinds 0)).2==0)=false:=by simpa using h1
  simp only [h1',go_sem,simprocAttr]
  refine zak (fun h=>by cases h) (fun _=>?_)
  simp only [zdl,if_neg h0,if_pos h1,go_sem,simprocAttr]
  exact ⟨_,[],(List.append_nil _).symm,rfl,zcU s b ex,trivial,rfl,rfl⟩
theorem zol (s:ChShop) (b:ChBooks) (ex:List PV) (n:Nat) (hs:SOk s) (hb:BkOk s b n) (kind:List UInt8) :
  (∀ e,zdl s b kind=.error e→zap Tryz.prog 113 [.ptr 2 1 0 0,.p (.str (bs kind))] (B7 s b ex) (fun r h'=>r=.panic (zdq e)∧h'=B7 s b ex)) ∧
  (∀ k n,zdl s b kind=.ok (k,n)→(0≤n∧n≤16666)∧zap Tryz.prog 113 [.ptr 2 1 0 0,.p (.str (bs kind))] (B7 s b ex) (fun r h'=>r=.ret (.p (.tuple [.int .i64 k,.int .i64 n]))∧h'=B7 s b ex)):=by
 refine ⟨fun e he=>(ztI s b ex n hs hb kind).mono fun r h' hr=>?_,fun k m hk=>⟨?_,(ztI s b ex n hs hb kind).mono fun r h' hr=>?_⟩⟩
 ·unfold zyh at hr;rw [he] at hr;exact ⟨hr.2,hr.1⟩
 ·unfold zdl at hk
  dsimp only at hk
  split at hk
  ·cases hk
  ·split at hk
   ·cases hk
   ·rename_i _ h2
    cases hk
    exact zr6 (by simpa using h2)
 ·unfold zyh at hr;rw [hk] at hr;exact ⟨hr.2,hr.1⟩
theorem zlj {P:Program} {H:Hints} {Q:Cont} {ops:Array Oper} {rest:List Oper} {dst:Option Tmp} {A:AAct} {f:FuncId} {args:List AV} {e:PV} (hc:zap P f args A.h (fun r h'=>r=.panic e∧h'=A.h))
  (h2:@WQ ⟨Q⟩ (.panic e) A):@WF ⟨P,H,ops,rest,Q,dst⟩ A f args :=
 zbf hc (fun v h hr=>by cases hr.1) (fun v h hr=>by obtain ⟨e,rfl⟩:=hr;cases e;exact h2)
theorem zNu (s:ChShop) (b:ChBooks) (ex:List PV) (n:Nat) (hs:SOk s) (hb:BkOk s b n) (kind:List UInt8) (hours:Int):zap Tryz.prog 115 [.ptr 2 1 0 0,.p (.str (bs kind)),.p (.int .i64 hours)] (B7 s b ex) (zfz s b ex (act s b (.box kind hours))):=by
 have hp:=zol s b ex n hs hb kind
 have hl:=hb.boxes
 refine za4 zad (fn:=Tryz.f115) (n:=41) (rs:=[.tmp 6]) (by kernel_rfl) rfl rfl rfl zKr (Nat.le_of_ble_eq_true rfl) ?_
 simp only [ChShop.cells,go_sem,simprocAttr]
 cases hq:zdl s b kind with
 |error e =>
  refine zlj (hp.1 e hq) ?_
  simp only [go_sem,simprocAttr]
  exact zbJ (e:=e) (by simp only [act,hq]) [] (List.append_nil _).symm
 |ok q =>
  obtain ⟨k,m⟩:=q
  refine zbk (v:=.p (.tuple [.int .i64 k,.int .i64 m])) (h':=B7 s b ex) (hp.2 k m hq).2 ?_
  simp only [go_sem,simprocAttr]
  refine zak (fun h1=>?_) (fun h1=>?_)
  rotate_left
  ·have h1':¬ hours≤m:=by simpa using h1
   simp only [go_sem,simprocAttr]
   exact zbJ (e:=9) (by simp only [act,hq,if_pos h1']) [] (List.append_nil _).symm
  have h1':hours≤m:=by simpa using h1
  simp only [go_sem,simprocAttr]
  have h1n:¬ ¬ hours≤m:=fun h=>h h1'
  refine zak (fun h2=>?_) (fun h2=>?_)
  rotate_left
  ·have h2':¬ b.boxes.length<20:=by simp at h2;omega
   simp only [go_sem,simprocAttr]
   exact zbJ (e:=3) (by simp only [act,hq,if_neg h1n,if_pos h2']) [] (List.append_nil _).symm
  have h2':b.boxes.length<20:=by simp at h2;omega
  have h2n:¬ ¬ b.boxes.length<20:=fun h=>h h2'
  have hrm:b.boxes.length+1≤zar:=by simp only [zar];omega
  simp only [hrm,go_sem,simprocAttr]
  exact zdX (b':={ b with boxes:=b.boxes++[⟨k,hours⟩] }) (ex':=ex) (a:=wOk) (by simp only [act,hq,if_neg h1n,if_neg h2n]) [] (by simp only [List.length_append,List.length_singleton,List.map_append,List.map_cons,List.map_nil,List.append_nil,zkK,go_sem,simprocAttr])
def zfC (x:ChLot):List Word:=[.s (bl x.name),.n x.grams]
def zkc (w:Word):AV:=.p w.pv
theorem zwq (n:Nat) (h:Heap) (l:List Word):zaD (zbe n h) (l.map zkc)=some (l.map Word.pv):=zbV (zcp n h) Word.pv l
theorem zGR (n:Nat) (x:ChLot):below n (zgd x)=True:=eq_true trivial
theorem zBN (n:Nat) (x:ChBatch):below n (zbq x)=True:=eq_true trivial
theorem zEG (n:Nat) (x:HrTest):below n (zis x)=True:=eq_true trivial
theorem zGS (n:Nat) (x:HrBox):below n (zkK x)=True:=eq_true trivial
theorem zEF (n:Nat) (x:Word):below n (zkc x)=True:=eq_true trivial
attribute [go_sem] zwq zGR zBN zEG zGS zEF
theorem zms (l:List ChLot):(l.flatMap zfC).length=2*l.length:=by
 induction l with
 |nil=>rfl
 |cons x r ih=>rw [List.flatMap_cons,List.length_append,ih];simp [zfC];omega
theorem zAz (l:List ChLot):(l.flatMap zfC).flatMap Word.ws=l.flatMap fun x=>[bl x.name,dec x.grams]:=by
 rw [List.flatMap_assoc];rfl
theorem zF1 (s:ChShop) (b:ChBooks) (ex:List PV) (n:Nat) (hs:SOk s) (hb:BkOk s b n):zap Tryz.prog 121 [.ptr 2 1 0 0] (B7 s b ex) (zfz s b ex (act s b .stock)):=by
 have hl:=hb.lots
 refine za4 zad (fn:=Tryz.f121) (n:=31) (rs:=[.tmp 2]) (by kernel_rfl) rfl rfl rfl zKl (Nat.le_of_ble_eq_true rfl) ?_
 simp only [ChShop.cells,go_sem,simprocAttr]
 refine zcQ 3 1 (by simp only [go_sem,simprocAttr]) ?_
 simp only [go_sem,simprocAttr]
 refine zbb [10,11] b.lots (by omega) (τ:=Unit) (fun done rest _=>True) (fun done _=>[(3,.slice 7 (done.flatMap zfC).length 0 (done.flatMap zfC).length),(12,.p (.int .i64 done.length))]) (fun done _=>B7 s b ex++[.row 1 ((done.flatMap zfC).map zkc)]) () trivial ?_ ?_ ?_
 ·simp only [ChShop.cells,List.flatMap_nil,go_sem,simprocAttr]
 ·intro _ _
  by_cases h0:b.lots=[]
  ·have hz:(((b.lots.flatMap zfC).length:Int)==0)=true:=by rw [h0];rfl
   simp only [ChShop.cells,hz,go_sem,simprocAttr]
   exact zdX (b':=b) (ex':=ex) (a:=zCm) (by simp only [act,if_pos h0]) [_] rfl
  ·have hz:(((b.lots.flatMap zfC).length:Int)==0)=false:=by
    rw [beq_eq_false_iff_ne,zms]
    intro h
    exact h0 (List.eq_nil_of_length_eq_zero (by omega))
   simp only [ChShop.cells,hz,go_sem,simprocAttr]
   have hsd:=zix (b.lots.flatMap zfC) false (by rw [zms];omega) (fun w hw=>by
    obtain ⟨x,hx,hw⟩:=List.mem_flatMap.1 hw
    have h1:=hb.grams x hx
    have h2:=hb.names x hx
    have h3:=hb.few
    have h4:(100000:Int)*(n+1)≤100000*41:=by omega
    simp only [zfC,List.mem_cons,List.not_mem_nil,or_false] at hw
    rcases hw with rfl | rfl
    ·show (bl x.name).length≤1000
     unfold bl
     have:x.name.data.toList.length=x.name.size:=by show x.name.data.toList.length=x.name.data.size;exact Array.length_toList
     omega
    ·exact ⟨h1.1,by omega⟩)
   refine zaO hsd ?_ (.str _) ?_
   ·simp only [go_sem,simprocAttr]
   simp only [go_sem,simprocAttr]
   refine zdX (b':=b) (ex':=ex) (a:=joinL ((b.lots.flatMap zfC).flatMap Word.ws)) (by rw [zAz,act,if_neg h0]) [_] rfl
 ·intro done w r _ e1 _ hx hlt hnx
  have hA:zgd w=.p w.pv:=rfl
  have hdl:=zms done
  have hrm:2*done.length+2≤zar:=by rw [e1] at hl;simp at hl;simp only [zar];omega
  simp only [ChShop.cells,hlt,hx,hA,hdl,hrm,go_sem,simprocAttr]
  refine zaA e1 () trivial ?_
  simp only [hnx,List.flatMap_append,List.flatMap_cons,List.flatMap_nil,zfC,List.length_append,List.map_append,List.append_nil,zkc,Word.pv,zxX,List.map_cons,List.map_nil,go_sem,simprocAttr]
  rw [hdl]
end Ch
end Abs
end Go.Proofs.YtahlnclapingiaaGreatDoor
namespace Go.Proofs.YtahlnclapingiaaGreatDoor
namespace Abs
namespace Ch
set_option maxRecDepth 4000
theorem SOk.colours {s:ChShop} (h:SOk s):s.colour.colours.length<1000000000:=by
 have:=(Cl.zns h.colour).len
 omega
def clA (x:ClBatch):AV:=.p x.pv
theorem zKT (n:Nat) (h:Heap) (l:List ClBatch):zaD (zbe n h) (l.map clA)=some (l.map ClBatch.pv):=zbV (zcp n h) ClBatch.pv l
theorem zLe (n:Nat) (x:ClBatch):below n (clA x)=True:=eq_true trivial
attribute [go_sem] zKT zLe
def zfB (l:List ChBatch):List ClBatch:=l.map fun x=>⟨x.colour,x.grams⟩
theorem zzx (s:ChShop) (b:ChBooks) (ex:List PV) (n:Nat) (hs:SOk s) (hb:BkOk s b n) (c:List UInt8) (o:List Nat) (m:Int) (hq:zgC s b c=.ok (o,m)) :
  zap Tryz.prog 214 [.ptr 2 1 0 0,.p (.str (bs c))] (B7 s b ex) (fun r h'=>r=.ret (.p (.tuple [.slice 1 (o.map Cl.zje) false,.int .i64 m]))∧h'=B7 s b ex):=by
 have hl:=hb.batches
 have hc9:=hs.colours
 unfold zgC at hq
 dsimp only at hq
 split at hq
 ·cases hq
 rename_i h0
 split at hq
 ·cases hq
 rename_i h1
 have h1':Cl.zb1 s.colour (zam (fun x:ClColour=>x.name==bs c) s.colour.colours 0) (zcB b)=0:=by simpa using h1
 split at hq
 ·cases hq
 rename_i q h2
 cases hq
 refine zi7 zad (fn:=Tryz.f214) (n:=58) (rs:=[.tmp 4,.tmp 5]) (by kernel_rfl) rfl rfl rfl zCA (Nat.le_of_ble_eq_true rfl) ?_
 simp only [ChShop.cells,go_sem,simprocAttr]
 refine zab (zzT s.colour.colours (bs c) false hc9 (by omega)) rfl ?_
 simp only [go_sem,simprocAttr]
 refine zcQ 7 2 (by simp only [go_sem,simprocAttr]) ?_
 simp only [go_sem,simprocAttr]
 refine zbb [0,6,25,26] b.batches (by omega) (τ:=Unit) (fun done rest _=>True) (fun done _=>[(7,.slice 7 done.length 0 done.length),(27,.p (.int .i64 done.length))]) (fun done _=>B7 s b ex++[.row 2 ((zfB done).map clA)]) () trivial ?_ ?_ ?_
 ·simp only [ChShop.cells,zfB,List.map_nil,go_sem,simprocAttr]
 ·intro _ _
  have hw:zfB b.batches=zcB b:=rfl
  have hwl:(zcB b).length=b.batches.length:=by simp only [zcB,List.length_map]
  have hB:=Cl.zCH s.colour (zam (fun x:ClColour=>x.name==bs c) s.colour.colours 0) (zcB b) (by rw [hwl];omega)
  rw [Cl.zkr,if_pos h1',h2] at hB
  simp only [ChShop.cells,hw,go_sem,simprocAttr]
  refine znm hB ?_ ?_
  ·simp only [hwl,go_sem,simprocAttr]
   rw [List.take_of_length_le (by rw [List.length_map,hwl];exact Nat.le_refl _)]
  simp only [go_sem,simprocAttr]
  refine zak (fun _=>?_) (fun h=>by cases h)
  simp only [go_sem,simprocAttr]
 ·intro done w r _ e1 _ hx hlt hnx
  have hx':=zni hx ex
  have hrm:done.length+1≤zar:=by rw [e1] at hl;simp at hl;simp only [zar];omega
  have hwd:(zfB done).length=done.length:=by simp [zfB]
  simp only [ChShop.cells,hlt,hx',hrm,hwd,go_sem,simprocAttr]
  refine zaA e1 () trivial ?_
  simp only [hnx,zfB,List.length_append,List.map_append,List.append_nil,List.map_cons,List.map_nil,clA,ClBatch.pv,go_sem,simprocAttr]
def zLj (s:ChShop) (b:ChBooks) (ex:List PV) (e:Int) (r:AEnd) (h':Heap):Prop:=r=.panic (zdq e)∧h'=B7 s b ex
theorem zzy (s:ChShop) (b:ChBooks) (ex:List PV) (n:Nat) (hs:SOk s) (hb:BkOk s b n) (c:List UInt8) (e:Int) (hq:zgC s b c=.error e) :
  zap Tryz.prog 214 [.ptr 2 1 0 0,.p (.str (bs c))] (B7 s b ex) (zLj s b ex e):=by
 have hl:=hb.batches
 have hc9:=hs.colours
 refine za4 zad (fn:=Tryz.f214) (n:=58) (rs:=[.tmp 4,.tmp 5]) (by kernel_rfl) rfl rfl rfl zCA (Nat.le_of_ble_eq_true rfl) ?_
 simp only [ChShop.cells,go_sem,simprocAttr]
 by_cases h0:zam (fun x:ClColour=>x.name==bs c) s.colour.colours 0<0
 ·have he:e=4:=by
   unfold zgC at hq
   dsimp only at hq
   rw [if_pos h0] at hq
   cases hq;rfl
  subst he
  refine zj7 (zFF s.colour.colours (bs c) false hc9 h0) rfl (zhb _) ?_
  simp only [go_sem,simprocAttr]
  exact ⟨_,[],(List.append_nil _).symm,rfl,zcU s b ex,trivial,rfl,rfl⟩
 obtain ⟨hp,hne⟩:Cl.zkr s.colour (zam (fun x:ClColour=>x.name==bs c) s.colour.colours 0) (zcB b)=.tuple [.nilslice,.int .i64 0,.int .i64 e]∧(e==0)=false:=by
  unfold zgC at hq
  dsimp only at hq
  rw [if_neg h0] at hq
  split at hq
  ·rename_i h1
   cases hq
   rw [Cl.zkr,if_neg h1]
   exact ⟨rfl,by simpa using h1⟩
  ·rename_i h1
   have h1':Cl.zb1 s.colour (zam (fun x:ClColour=>x.name==bs c) s.colour.colours 0) (zcB b)=0:=by simpa using h1
   split at hq
   ·rename_i h2
    cases hq
    rw [Cl.zkr,if_pos h1',h2]
    exact ⟨rfl,rfl⟩
   ·cases hq
 refine zab (zzT s.colour.colours (bs c) false hc9 (by omega)) rfl ?_
 simp only [go_sem,simprocAttr]
 refine zcQ 7 2 (by simp only [go_sem,simprocAttr]) ?_
 simp only [go_sem,simprocAttr]
 refine zbb [0,6,25,26] b.batches (by omega) (τ:=Unit) (fun done rest _=>True) (fun done _=>[(7,.slice 7 done.length 0 done.length),(27,.p (.int .i64 done.length))]) (fun done _=>B7 s b ex++[.row 2 ((zfB done).map clA)]) () trivial ?_ ?_ ?_
 ·simp only [ChShop.cells,zfB,List.map_nil,go_sem,simprocAttr]
 ·intro _ _
  have hw:zfB b.batches=zcB b:=rfl
  have hwl:(zcB b).length=b.batches.length:=by simp only [zcB,List.length_map]
  have hB:=Cl.zCH s.colour (zam (fun x:ClColour=>x.name==bs c) s.colour.colours 0) (zcB b) (by rw [hwl];omega)
  rw [hp] at hB
  simp only [ChShop.cells,hw,go_sem,simprocAttr]
  refine znm hB ?_ ?_
  ·simp only [hwl,go_sem,simprocAttr]
   rw [List.take_of_length_le (by rw [List.length_map,hwl];exact Nat.le_refl _)]
  simp only [hne,go_sem,simprocAttr]
  refine zak (fun h=>by cases h) (fun _=>?_)
  simp only [go_sem,simprocAttr]
  exact ⟨_,_,rfl,rfl,zcU s b ex,trivial,rfl,rfl⟩
 ·intro done w r _ e1 _ hx hlt hnx
  have hx':=zni hx ex
  have hrm:done.length+1≤zar:=by rw [e1] at hl;simp at hl;simp only [zar];omega
  have hwd:(zfB done).length=done.length:=by simp [zfB]
  simp only [ChShop.cells,hlt,hx',hrm,hwd,go_sem,simprocAttr]
  refine zaA e1 () trivial ?_
  simp only [hnx,zfB,List.length_append,List.map_append,List.append_nil,List.map_cons,List.map_nil,clA,ClBatch.pv,go_sem,simprocAttr]
theorem zma {s:ChShop} {b:ChBooks} {c:List UInt8} {o:List Nat} {m:Int} (hs:SOk s) {n:Nat} (hb:BkOk s b n) (hq:zgC s b c=.ok (o,m)):o.Perm (List.range b.batches.length)∧0≤m∧m≤210000:=by
 unfold zgC at hq
 dsimp only at hq
 split at hq
 ·cases hq
 split at hq
 ·cases hq
 split at hq
 ·cases hq
 rename_i q h2
 cases hq
 have hwl:(zcB b).length=b.batches.length:=by simp only [zcB,List.length_map]
 unfold Cl.zp7 at h2
 rw [hwl] at h2
 have hl:(List.range b.batches.length).length≤7:=by rw [List.length_range];exact hb.batches
 have hS:=Cl.zht (need:=Cl.zeH s.colour (zcB b)) (col:=Cl.zgG (zcB b)) (fun c j n h=>by
  unfold Cl.zeH at h
  split at h
  ·exact Cl.zqv (Cl.zns hs.colour) h
  ·cases h) 7 (zam (fun x:ClColour=>x.name==bs c) s.colour.colours 0) (List.range b.batches.length)
 rw [h2] at hS
 refine ⟨Cl.zrV hl h2,?_,?_⟩
 ·exact (hS o m rfl).1
 ·have:=(hS o m rfl).2;omega
def ze2 (b:ChBooks) (o:List Nat):List Word:=o.map fun i=>.s (zjR b.batches i)
theorem zDq (b:ChBooks) (o:List Nat) (m:Int):(ze2 b o++[Word.n m]).flatMap Word.ws=o.map (zjR b.batches)++[dec m]:=by
 rw [List.flatMap_append]
 congr 1
 induction o with
 |nil=>rfl
 |cons x r ih=>simp only [ze2,List.map_cons,List.flatMap_cons] at ih ⊢;rw [ih];rfl
theorem zxh {s:ChShop} {b:ChBooks} {n:Nat} (hb:BkOk s b n) (i:Nat):(zjR b.batches i).length≤1000:=by
 unfold zjR
 split
 ·rename_i x hx
  have h:=(hb.waits x (List.mem_of_getElem? hx)).2.2
  unfold bl
  have:x.name.data.toList.length=x.name.size:=by show x.name.data.toList.length=x.name.data.size;exact Array.length_toList
  omega
 ·exact Nat.zero_le _
theorem zsx (s:ChShop) (b:ChBooks) (ex:List PV) (n:Nat) (hs:SOk s) (hb:BkOk s b n) (c:List UInt8):zap Tryz.prog 109 [.ptr 2 1 0 0,.p (.str (bs c))] (B7 s b ex) (zfz s b ex (act s b (.plan c))):=by
 have hl:=hb.batches
 refine za4 zad (fn:=Tryz.f109) (n:=42) (rs:=[.tmp 4]) (by kernel_rfl) rfl rfl rfl zKx (Nat.le_of_ble_eq_true rfl) ?_
 simp only [ChShop.cells,go_sem,simprocAttr]
 cases hq:zgC s b c with
 |error e =>
  refine zlj (zzy s b ex n hs hb c e hq) ?_
  simp only [go_sem,simprocAttr]
  exact zbJ (e:=e) (by simp only [act,hq]) [] (List.append_nil _).symm
 |ok q =>
  obtain ⟨o,m⟩:=q
  obtain ⟨f1,f2,f3⟩:=zma hs hb hq
  have fl:o.length=b.batches.length:=by rw [f1.length_eq,List.length_range]
  refine zbk (v:=.p (.tuple [.slice 1 (o.map Cl.zje) false,.int .i64 m])) (h':=B7 s b ex) (zzx s b ex n hs hb c o m hq) ?_
  simp only [go_sem,simprocAttr]
  refine zcQ 7 1 (by simp only [go_sem,simprocAttr]) ?_
  simp only [go_sem,simprocAttr]
  refine zbb [0,6,16,17] o (by omega) (τ:=Unit) (fun done rest _=>True) (fun done _=>[(7,.slice 7 done.length 0 done.length),(18,.p (.int .i64 done.length))]) (fun done _=>B7 s b ex++[.row 1 ((ze2 b done).map zkc)]) () trivial ?_ ?_ ?_
  ·simp only [ChShop.cells,ze2,List.map_nil,go_sem,simprocAttr]
  ·intro _ _
   have hpl:(ze2 b o).length=o.length:=by simp [ze2]
   have hrm:o.length+1≤zar:=by simp only [zar];omega
   simp only [ChShop.cells,hpl,hrm,go_sem,simprocAttr]
   have hsd:=zix (ze2 b o++[.n m]) false (by rw [List.length_append,hpl];simp;omega) (fun w hw=>by
    rcases List.mem_append.1 hw with hw | hw
    ·obtain ⟨i,_,rfl⟩:=List.mem_map.1 hw
     exact zxh hb i
    ·simp at hw;subst hw
     exact ⟨f2,by omega⟩)
   refine zaO hsd ?_ (.str _) ?_
   ·have e:(ze2 b o).map zkc++[AV.p (.iface 3 (.int .i64 m))]=(ze2 b o++[Word.n m]).map zkc:=by rw [List.map_append];rfl
    have e2:o.length+1=(ze2 b o++[Word.n m]).length:=by rw [List.length_append,hpl];rfl
    simp only [e,zwq,go_sem,simprocAttr]
    rw [e2,if_pos rfl]
    show some [PV.slice 1 (List.take (ze2 b o++[Word.n m]).length (List.map Word.pv (ze2 b o++[Word.n m]))) false]=_
    rw [List.take_of_length_le (by rw [List.length_map];exact Nat.le_refl _)]
   simp only [go_sem,simprocAttr]
   exact zdX (b':=b) (ex':=ex) (a:=joinL ((ze2 b o++[Word.n m]).flatMap Word.ws)) (by rw [zDq];simp only [act,hq]) [_] rfl
  ·intro done w r _ e1 _ hx hlt hnx
   have hw:w<b.batches.length:=by
    have:w∈o:=by rw [e1];simp
    have:=f1.mem_iff.1 this
    exact List.mem_range.1 this
   obtain ⟨y,hy⟩:∃ y,b.batches[w]?=some y:=⟨_,List.getElem?_eq_getElem hw⟩
   have hx':=zni hy ex
   have hn:zjR b.batches w=bl y.name:=by rw [zjR,hy]
   have hwB:(w:Int)<(b.batches.length:Int):=by omega
   have hrm:done.length+1≤zar:=by rw [e1] at fl;simp at fl;simp only [zar];omega
   have hpl:(ze2 b done).length=done.length:=by simp [ze2]
   simp only [ChShop.cells,hlt,hx,Cl.zje,hx',hwB,hrm,hpl,go_sem,simprocAttr]
   refine zaA e1 () trivial ?_
   simp only [hnx,ze2,List.length_append,List.map_append,List.append_nil,List.map_cons,List.map_nil,zkc,Word.pv,hn,zxX,go_sem,simprocAttr]
def ziW (l:List ChBatch):Int:=(l.map (·.grams)).sum
theorem zi9 {s:ChShop} {b:ChBooks} {n:Nat} (hb:BkOk s b n):∀ d:List ChBatch,(∀ x,x∈d→x∈b.batches)→0≤ziW d∧ziW d≤100000*d.length
 |[],_=>by simp [ziW]
 |x::r,h=>by
  have ih:=zi9 hb r (fun y hy=>h y (by simp [hy]))
  have hx:=(hb.waits x (h x (by simp))).1
  simp only [ziW,List.map_cons,List.sum_cons,List.length_cons] at ih ⊢
  omega
set_option maxHeartbeats 1000000 in
theorem zKM (s:ChShop) (b:ChBooks) (ex:List PV) (n:Nat) (hs:SOk s) (hb:BkOk s b n) (c:List UInt8):zap Tryz.prog 111 [.ptr 2 1 0 0,.p (.str (bs c))] (B7 s b ex) (zfz s b ex (act s b (.pour c))):=by
 have hl:=hb.batches
 refine za4 zad (fn:=Tryz.f111) (n:=55) (rs:=[.tmp 4]) (by kernel_rfl) rfl rfl rfl zKv (Nat.le_of_ble_eq_true rfl) ?_
 simp only [ChShop.cells,go_sem,simprocAttr]
 cases hq:zgC s b c with
 |error e =>
  refine zlj (zzy s b ex n hs hb c e hq) ?_
  simp only [go_sem,simprocAttr]
  exact zbJ (e:=e) (by simp only [act,hq]) [] (List.append_nil _).symm
 |ok q =>
  obtain ⟨o,m⟩:=q
  obtain ⟨f1,f2,f3⟩:=zma hs hb hq
  refine zbk (v:=.p (.tuple [.slice 1 (o.map Cl.zje) false,.int .i64 m])) (h':=B7 s b ex) (zzx s b ex n hs hb c o m hq) ?_
  simp only [go_sem,simprocAttr]
  refine zbb [0,6,19,20] b.batches (by omega) (τ:=Unit) (fun done rest _=>True) (fun done _=>[(21,.p (.int .i64 done.length))]) (fun done _=>B7 s { b with poured:=b.poured+ziW done } ex) () trivial ?_ ?_ ?_
  ·simp only [ChShop.cells,ziW,List.map_nil,List.sum_nil,Int.add_zero,go_sem,simprocAttr]
  ·intro _ _
   have hsum:=zi9 hb b.batches (fun x hx=>hx)
   have hw1:=hb.poured
   have hw2:=hb.lost
   have hw3:=hb.few
   have hwr:IntKind.i64.wrap (b.lost+m)=b.lost+m:=zaj (by omega) (by omega)
   simp only [ChShop.cells,hwr,go_sem,simprocAttr]
   have hsd:=zix [.n m] true (by simp) (fun w hw=>by
    simp only [List.mem_cons,List.not_mem_nil,or_false] at hw
    subst hw
    exact ⟨f2,by omega⟩)
   refine zab hsd rfl ?_
   simp only [go_sem,simprocAttr]
   exact zD8 (b':={ b with poured:=b.poured+zAv b.batches,batches:=[],lost:=b.lost+m }) (l:=b.batches) (x:=ex) (a:=joinL ([Word.n m].flatMap Word.ws)) (by simp only [act,hq];rfl) rfl [] (List.append_nil _).symm
  ·intro done w r _ e1 _ hx hlt hnx
   have hx':=zni hx ex
   have hsum:=zi9 hb (done++[w]) (fun x hx=>by rw [e1];simp at hx ⊢;rcases hx with h | h;exact .inl h;exact .inr (.inl h))
   have hdw:ziW (done++[w])=ziW done+w.grams:=by simp [ziW]
   have hdl:(done++[w]).length≤7:=by rw [e1] at hl;simp at hl ⊢;omega
   have hw1:=hb.poured
   have hw3:=hb.few
   have hwr:IntKind.i64.wrap (b.poured+ziW done+w.grams)=b.poured+(ziW done+w.grams):=by rw [Int.add_assoc];exact zaj (by omega) (by omega)
   simp only [ChShop.cells,hlt,hx',hwr,go_sem,simprocAttr]
   refine zaA e1 () trivial ?_
   simp only [hnx,hdw,ChShop.cells,go_sem,simprocAttr]
end Ch
end Abs
end Go.Proofs.YtahlnclapingiaaGreatDoor
