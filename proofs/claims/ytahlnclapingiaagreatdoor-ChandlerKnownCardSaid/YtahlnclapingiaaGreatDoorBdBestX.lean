/-
  CONTRACTS: Cheapest, Stays; in the program and in the reference.
  WHAT THE CHANDLER DOES, as plain Lean: what a line says, and what it does to the books. De
  THE LIBRARY'S CONTRACTS AT THIS PROGRAM, further ones: what they ask of its bodies and typ
  CONTRACTS: texts put together with a sign between them; a text that begins as another one.
-/
import Derived.Test.YtahlnclapingiaaGreatDoorBdEndsX
import Derived.Test.YtahlnclapingiaaGreatDoorClGoX
import Derived.Test.YtahlnclapingiaaGreatDoorWxMixX
import Derived.Test.YtahlnclapingiaaGreatDoorHrUseX
import Derived.Test.YtahlnclapingiaaGreatDoorHrReadX
import Derived.Test.YtahlnclapingiaaGreatDoorWkRunX
import Derived.Test.YtahlnclapingiaaGreatDoorChEnd0X
import Derived.Shelf.Strings.OnBuilder
import Derived.KernelRfl
import Derived.Test.YtahlnclapingiaaGreatDoorProg
import Derived.Test.YtahlnclapingiaaGreatDoorHrShelfX
set_option linter.unusedSimpArgs false
set_option linter.unusedVariables false
namespace Go.Proofs.YtahlnclapingiaaGreatDoor
namespace Abs
set_option maxRecDepth 4000
def zpQ (l:List BdWax) (w:BdWish):PV:=.func (.func 356) [] [znh l,znf w]
theorem zA9 {l:List BdWax} {w:BdWish} (hl:BdWaxesOk l) (hw:WishOk l.length w):zCY Tryz.prog (zpQ l w) 1 ((fits l w).map fun r=>r.map zay):=by
 refine ⟨_,_,_,rfl,fun id Inv Fin h0 hid hy hi=>?_⟩
 have hl5:=hl.len
 have gg:=zj4 (lo:=h0) rfl
 have g0:=ziU (lo:=h0) rfl
 have ss:=zj3 (lo:=h0) rfl
 have hrm:((l.length:Nat):Int)≤(zar:Int):=by simp [zar];omega
 refine zan zad (fn:=Tryz.f356) (n:=12) (rs:=[]) (by kernel_rfl) rfl rfl rfl zIl (Nat.le_of_ble_eq_true rfl) ?_
 simp only [hrm,Int.le_refl,List.append_assoc,List.length_append,List.length_singleton,gg,g0,ss,go_sem,simprocAttr]
 have hfill:=zCP hl hw hy (l.length-1) [] 20 h0 (List.replicate l.length 0) [] 0 [] (by simp;omega) (by omega) (by omega) (by simp) (by simp) (by simp) (by omega) (by rw [zBj hl hw];simp) rfl hi
 simp only [zfY,znh,znf,zdt,BdWish.pv,zay,List.map_replicate,List.length_nil,Int.natCast_zero,Int.ofNat_eq_natCast,Int.cast_ofNat_Int] at hfill
 refine zbf hfill (fun v h' hr=>?_) (fun v h' hr=>?_)
 rotate_left
 ·obtain ⟨_,_,_,_,_,hr⟩:=hr
  rcases hr with ⟨hr,_⟩ | ⟨hr,_⟩<;>cases hr
 obtain ⟨lo2,cur2,ext2,rfl,k1,hr⟩:=hr
 have fin:∀ (k:Nat),k≤(fits l w).length→(fits l w).drop k=[]→k=(fits l w).length:=fun k h1 h2=>by
  have:=congrArg List.length h2
  simp at this;omega
 rcases hr with ⟨hr,k2,k3,idx2,k4,k5,k6⟩ | ⟨hr,k2⟩
 ·cases hr
  simp only [go_sem,simprocAttr]
  refine ⟨lo2,_,rfl,k1,.inl ?_⟩
  have:=fin idx2 k4 k5
  simpa [←this] using k6
 ·cases hr
  simp only [go_sem,simprocAttr]
  exact ⟨lo2,_,rfl,k1,.inr k2⟩
theorem zuc (l:List BdWax) (w:BdWish):zae Tryz.prog 313 [zdt l,w.pv] (zpQ l w):=by
 refine zbT zad (fn:=Tryz.f313) (n:=6) (rs:=[.tmp 4]) (by kernel_rfl) rfl rfl rfl zII (Nat.le_of_ble_eq_true rfl) ?_
 simp only [zpQ,go_sem,simprocAttr]
theorem ztJ (ps:Ps) (b1:Bool) (id:Nat) (h:Heap) (hid:h[id]?=some (.row 1 (ps.map fun p=>.p (zay p.2)))) (hl:ps.length≤5) :
  zap Tryz.prog 315 [.p (.slice 7 (ps.map fun p=>p.1.pv) b1),.slice id ps.length 0 ps.length] h (fun r h'=>r=.ret (.p (zjz ps))∧h'=h):=by
 refine zi7 zad (fn:=Tryz.f315) (n:=29) (rs:=[.tmp 4]) (by kernel_rfl) rfl rfl rfl zCu (Nat.le_of_ble_eq_true rfl) ?_
 have hlt0:id<h.length:=(List.getElem?_eq_some_iff.1 hid).1
 have hidt:∀ t,(h++t)[id]?=some (.row 1 (ps.map fun p=>.p (zay p.2))):=fun t=>by rw [List.getElem?_append_left hlt0];exact hid
 simp only [zay] at hidt
 have gg:=zj4 (lo:=h) rfl
 have g0:=ziU (lo:=h) rfl
 have ss:=zj3 (lo:=h) rfl
 have s0:∀ t x,(h++t).set h.length x=h++t.set 0 x:=fun t x=>ss t 0 x
 have hrm:((ps.length:Nat):Int)≤(zar:Int):=by simp [zar];omega
 have hr0:List.replicate ps.length zkj=zev ps []:=by simp [zev]
 simp only [zkj] at hr0
 simp only [hrm,Int.le_refl,hr0,hidt,gg,g0,ss,s0,List.append_assoc,go_sem,simprocAttr]
 refine zB5 [1,5,11,12] ps (by omega) (τ:=Heap) (fun _ _ _=>True) (fun done _=>[(13,.p (.int .i64 done.length))]) (fun done ext=>h++(.row 8 (zev ps done)::ext)) [] trivial (by simp only [go_sem,simprocAttr]) ?_ ?_ ?_
 ·simp only [go_sem,simprocAttr]
 ·intro ext _
  have hz:(zev ps ps)=ps.map fun p=>.p (zbu p):=by simp [zev]
  simp only [zbu] at hz
  simp only [hz,gg,g0,go_sem,simprocAttr]
  rfl
 ·intro done x r ext e1 _ hx hlt hnx
  have h1:=zrR e1
  have h2:=zrS e1
  have h3:=zrQ e1
  simp only [zkj] at h2
  simp only [zbu] at h3
  have ge:=ziU (lo:=ext) rfl
  have se:∀ t x,(ext++t).set ext.length x=ext++t.set 0 x:=fun t x=>zj3 (lo:=ext) rfl t 0 x
  simp only [hlt,hx,h1,h2,h3,hidt,gg,g0,ss,s0,ge,se,List.append_assoc,List.length_append,go_sem,simprocAttr]
  refine zB7 e1 _ trivial rfl ?_
  simp only [hnx,go_sem,simprocAttr]
def zcC (l:List BdWax) (r:List Int):Int:=zbE zfa (l.zip r)
def zbD (pr:List Int→Int):Option (List Int)→List (List Int)→Option (List Int)
 |b,[]=>b
 |none,r::t=>zbD pr (some r) t
 |some b,r::t=>if pr r<pr b then zbD pr (some r) t else zbD pr (some b) t
theorem zhU (pr:List Int→Int):∀ (t:List (List Int)) (b:Option (List Int)) (r:List Int),zbD pr b (t++[r])=zbD pr (zbD pr b t) [r]
 |[],b,r=>by cases b<;>rfl
 |x::t,none,r=>by rw [List.cons_append,zbD,zhU pr t,zbD]
 |x::t,some b,r=>by
  rw [List.cons_append,zbD,zbD]
  split
  ·rw [zhU pr t]
  ·rw [zhU pr t]
theorem zgS (pr:List Int→Int):∀ (t:List (List Int)) (b:Option (List Int)) (r:List Int),zbD pr b t=some r→b=some r∨r∈t
 |[],b,r,h=>by cases b<;>simp_all [zbD]
 |x::t,none,r,h=>by
  rw [zbD] at h
  rcases zgS pr t _ r h with h | h
  ·cases h;exact .inr (by simp)
  ·exact .inr (by simp [h])
 |x::t,some b,r,h=>by
  rw [zbD] at h
  split at h
  ·rcases zgS pr t _ r h with h | h
   ·cases h;exact .inr (by simp)
   ·exact .inr (by simp [h])
  ·rcases zgS pr t _ r h with h | h
   ·exact .inl h
   ·exact .inr (by simp [h])
theorem zmp {α:Type} {l:List α} {k:Nat} {x:α} (h:l[k]?=some x):l.take (k+1)=l.take k++[x]:=by
 rw [List.take_add_one,h];rfl
def za8 (l:List BdWax) (w:BdWish):List Int×Int×Int :=
 if zew l w=0 then
  match zbD (zcC l) none (fits l w) with
  |none=>([],0,9)
  |some b=>(b,zcC l b,0)
 else ([],0,zew l w)
def zlc (v:List Int×Int×Int):PV:=.tuple [.slice 1 (v.1.map zay) false,.int .i64 v.2.1,.int .i64 v.2.2]
def zjd:Option (List Int)→PV
 |none=>.nilslice
 |some b=>.slice 1 (b.map zay) false
def zg9 (l:List BdWax):Option (List Int)→Int
 |none=>0
 |some b=>zcC l b
set_option maxHeartbeats 1000000 in
theorem zzW (l:List BdWax) (w:BdWish):zae Tryz.prog 223 [zdt l,w.pv] (zlc (za8 l w)):=by
 refine zei zad (fn:=Tryz.f223) (n:=37) (rs:=[.cell 4 97,.cell 5 3,.tmp 6]) (by kernel_rfl) rfl rfl rfl zJy (Nat.le_of_ble_eq_true rfl) ?_
 simp only [zuP,zal,go_sem,simprocAttr]
 (first | refine zab (zGA l w) rfl ?_ | refine zau (zGA l w) rfl ?_)
 simp only [go_sem,simprocAttr]
 refine zaH (fun he=>?_) (fun he=>?_)
 ·have he':¬ zew l w=0:=by simpa using he
  simp only [zuP,zal,zlc,za8,if_neg he',go_sem,simprocAttr]
  first | rfl | exact .inl rfl | exact ⟨_,_,rfl,rfl,.inr ⟨rfl,1,rfl⟩,.inl rfl,.inl rfl,trivial⟩ | exact ⟨_,_,rfl,rfl,.inr ⟨rfl,1,rfl⟩,.inl rfl,trivial⟩ | exact ⟨_,_,rfl,rfl,.inl rfl,.inl rfl,trivial⟩ | exact .inl (.inl rfl) | exact .inl (.inr ⟨rfl,1,rfl⟩) | exact .inr ⟨_,_,rfl,rfl,.inl rfl,.inl rfl,trivial⟩ | exact .inr ⟨_,_,rfl,rfl,.inr ⟨rfl,1,rfl⟩,.inl rfl,trivial⟩ | exact ⟨1,rfl⟩ | (simp;done) | (refine .inr ⟨_,_,rfl,rfl,?_⟩;repeat' (first | exact trivial | exact .inl rfl | exact .inr ⟨rfl,1,rfl⟩ | refine ⟨?_,?_⟩))
 have he':zew l w=0:=by simpa using he
 obtain ⟨hl,hw⟩:=zq7 he'
 have hl5:=hl.len
 simp only [go_sem,simprocAttr]
 (first | refine zab (zuc l w) rfl ?_ | refine zau (zuc l w) rfl ?_)
 simp only [zpQ,go_sem,simprocAttr]
 have hspec:za8 l w=match zbD (zcC l) none (fits l w) with | none=>([],0,9) | some b=>(b,zcC l b,0):=by rw [za8,if_pos he']
 rw [hspec]
 have hmem:∀ k b,zbD (zcC l) none ((fits l w).take k)=some b→RecOk l.length b:=fun k b h=>by
  rcases zgS _ _ _ _ h with h | h
  ·cases h
  ·exact (zoK hl (List.mem_of_mem_take h)).1
 refine zES (l:=(fits l w).map fun r=>r.map zay) (fun o k h=>h=[.row 1 [.p (zdt l)],.row 5 [.p w.pv],.row 1 [.p (zjd (zbD (zcC l) none ((fits l w).take k)))],.row 1 [.p (.int .i64 (zg9 l (zbD (zcC l) none ((fits l w).take k))))],.dblock,o]) (fun _ _=>False)
  rfl (by simp only [zpQ,go_sem,simprocAttr]) (zA9 hl hw) zad (by kernel_rfl) rfl (by kernel_rfl) (by kernel_rfl) ?_ ?_ ?_ ?_ (fun _ _ _ h=>h.elim)
 ·rintro o k h rfl;simp
 ·intro o
  simp only [zbD,zjd,zg9,go_sem,simprocAttr]
 ·rintro oR oB oD k xs lo mid j hk rfl _ hj
  rw [List.getElem?_map,Option.map_eq_some_iff] at hk
  obtain ⟨r,hk,rfl⟩:=hk
  have hro:=(zoK hl (List.mem_of_getElem? hk)).1
  have hps:=zlC hl hro.rng
  have hne:¬ (r.map zay=[]):=by
   intro h
   have:=congrArg List.length h
   have h2:=hro.len
   simp at this
   subst this
   simp at h2;omega
  have hne2:r≠[]:=fun h=>hne (by rw [h];rfl)
  rw [zmp hk,zhU]
  have hmk:=hmem k
  generalize zbD (zcC l) none ((fits l w).take k)=bo at hmk
  have htk:(r.map zay).take r.length=r.map zay:=List.take_of_length_le (by simp)
  have hz1:((l.zip r).map fun p=>p.1.pv)=l.map BdWax.pv:=zqi BdWax.pv hro.len
  have hz2:((l.zip r).map fun p=>AV.p (zay p.2))=r.map fun n=>AV.p (zay n):=zqh (fun n=>AV.p (zay n)) hro.len
  have hzl:(l.zip r).length=r.length:=by simp [hro.len]
  have hbl:∀ a0 a1 a2 a3 a4 a5,zap Tryz.prog 315 [.p (zdt l),.slice (j+6) r.length 0 r.length] (a0::a1::a2::a3::a4::a5::mid) (fun r' h'=>r'=.ret (.p (zjz (l.zip r)))∧h'=a0::a1::a2::a3::a4::a5::mid):=fun a0 a1 a2 a3 a4 a5=>by
   have:=ztJ (l.zip r) false (j+6) (a0::a1::a2::a3::a4::a5::mid) (by rw [hz2];simpa [Function.comp_def] using hj) hps.len
   rwa [hz1,hzl] at this
  simp only [zdt,zjz] at hbl
  simp only [go_sem,simprocAttr]
  refine zbk (hbl _ _ _ _ _ _) ?_
  simp only [go_sem,simprocAttr]
  (first | refine zab (znb (l.zip r) false hps) rfl ?_ | refine zau (znb (l.zip r) false hps) rfl ?_)
  simp only [go_sem,simprocAttr]
  have hprice:zbE zfa (l.zip r)=zcC l r:=rfl
  rw [hprice]
  cases bo with
  |none =>
   simp only [zjd,go_sem,simprocAttr]
   refine znm (zy5 r false hne2 (by have:=hro.len;omega)) ?_ ?_
   ·simp only [hj,htk,go_sem,simprocAttr]
   simp only [go_sem,simprocAttr]
   first | refine ⟨_,[],?_,rfl,.inl rfl⟩ | refine ⟨_,[],?_,rfl,rfl⟩
   simp only [zbD,zjd,zg9,List.append_nil,go_sem,simprocAttr]
  |some b =>
   have hbo:=hmk b rfl
   have hbn:¬ (b.map zay=[]):=by
    intro h
    have:=congrArg List.length h
    have h2:=hbo.len
    simp at this
    subst this
    simp at h2;omega
   simp only [zjd,zg9,hbn,go_sem,simprocAttr]
   cases hlt:decide (zcC l r<zcC l b)
   ·have hlt':¬ zcC l r<zcC l b:=by simpa using hlt
    simp only [go_sem,simprocAttr]
    first | refine ⟨_,[],?_,rfl,.inl rfl⟩ | refine ⟨_,[],?_,rfl,rfl⟩
    simp only [if_neg hlt',zbD,zjd,zg9,List.append_nil,go_sem,simprocAttr]
   ·have hlt':zcC l r<zcC l b:=by simpa using hlt
    simp only [go_sem,simprocAttr]
    refine znm (zy5 r false hne2 (by have:=hro.len;omega)) ?_ ?_
    ·simp only [hj,htk,go_sem,simprocAttr]
    simp only [go_sem,simprocAttr]
    first | refine ⟨_,[],?_,rfl,.inl rfl⟩ | refine ⟨_,[],?_,rfl,rfl⟩
    simp only [if_pos hlt',zbD,zjd,zg9,List.append_nil,go_sem,simprocAttr]
 ·rintro o lo mid rfl _
  have hlen:(fits l w).take (((fits l w).map fun r=>r.map zay).length)=fits l w:=by simp
  rw [hlen]
  have hmk:=hmem (fits l w).length
  rw [List.take_length] at hmk
  generalize zbD (zcC l) none (fits l w)=bo at hmk
  simp only [go_sem,simprocAttr]
  cases bo with
  |none =>
   simp only [zjd,zlc,zaX,zuP,zal,go_sem,simprocAttr]
   first | rfl | exact .inl rfl | exact ⟨_,_,rfl,rfl,.inr ⟨rfl,1,rfl⟩,.inl rfl,.inl rfl,trivial⟩ | exact ⟨_,_,rfl,rfl,.inr ⟨rfl,1,rfl⟩,.inl rfl,trivial⟩ | exact ⟨_,_,rfl,rfl,.inl rfl,.inl rfl,trivial⟩ | exact .inl (.inl rfl) | exact .inl (.inr ⟨rfl,1,rfl⟩) | exact .inr ⟨_,_,rfl,rfl,.inl rfl,.inl rfl,trivial⟩ | exact .inr ⟨_,_,rfl,rfl,.inr ⟨rfl,1,rfl⟩,.inl rfl,trivial⟩ | exact ⟨1,rfl⟩ | (simp;done) | (refine .inr ⟨_,_,rfl,rfl,?_⟩;repeat' (first | exact trivial | exact .inl rfl | exact .inr ⟨rfl,1,rfl⟩ | refine ⟨?_,?_⟩))
  |some b =>
   have hbo:=hmk b rfl
   have hbn:¬ (b.map zay=[]):=by
    intro h
    have:=congrArg List.length h
    have h2:=hbo.len
    simp at this
    subst this
    simp at h2;omega
   simp only [zjd,zg9,zlc,hbn,zaX,zuP,zal,go_sem,simprocAttr]
end Abs
end Go.Proofs.YtahlnclapingiaaGreatDoor
namespace Go.Proofs.YtahlnclapingiaaGreatDoor
namespace Abs
namespace Ch
def zqz:List UInt8:=[108,111,116]
def zkW:List UInt8:=[98,97,116,99,104]
def znE:List UInt8:=[100,114,111,112]
def znC:List UInt8:=[112,108,97,110]
def znB:List UInt8:=[112,111,117,114]
def zib:List UInt8:=[112,114,111,109,105,115,101]
def zqA:List UInt8:=[98,111,120]
def znD:List UInt8:=[108,111,111,107]
def znA:List UInt8:=[119,105,99,107]
def zkV:List UInt8:=[98,108,101,110,100]
def zkU:List UInt8:=[115,116,111,99,107]
def zfW:List UInt8:=[116,101,115,116,10]
def kX:List UInt8:=[120]
def wOk:List UInt8:=[111,107]
def wNo:List UInt8:=[110,111]
def zwU:List UInt8:=[111,100,100]
def znq:List UInt8:=[98,114,111,107,101,110]
def zCm:List UInt8:=[110,111,110,101]
def zst:List UInt8:=[112,117,114,101]
def znp:List UInt8:=[105,109,112,117,114,101]
def zlr:List UInt8:=[112,101,114,104,97,112,115]
def joinL:List (List UInt8)→List UInt8
 |[]=>[]
 |[x]=>x
 |x::y::r=>x++32::joinL (y::r)
inductive Cmd where
 |lot (name kind:List UInt8) (grams:Int) (rs:List Int)
 |batch (name colour lot:List UInt8) (grams:Int)
 |drop (name:List UInt8)
 |plan (c:List UInt8)
 |pour (c:List UInt8)
 |test (text:List UInt8)
 |promise (kind:List UInt8)
 |box (kind:List UInt8) (hours:Int)
 |look
 |wick (kind:List UInt8) (a b c d:Int)
 |blend (a b c:Int)
 |stock
def Cmd.written:Cmd→Bool
 |.lot _ _ _ _=>true
 |.batch _ _ _ _=>true
 |.drop _=>true
 |.pour _=>true
 |.test _=>true
 |.box _ _=>true
 |_=>false
def zc5 (l:List UInt8):Option Int:=match zeZ l with | some v=>if 0≤v∧v≤10000000∧dec v=l then some v else none | none=>none
def zbF (l:List UInt8):Option (List UInt8):=if nameOk (bs l)=true then some l else none
def zcD:List (List UInt8)→Option (List Int)
 |[]=>some []
 |w::r=>if w=kX then (zcD r).map (-1::·) else match zc5 w with | some n=>(zcD r).map (n::·) | none=>none
def zdg (v:List UInt8) (ws:List (List UInt8)):Option Cmd :=
 if v=zqz then (match ws with | n::k::g::r=>(match zbF n,zbF k,zc5 g,zcD r with | some n,some k,some g,some r=>some (.lot n k g r) | _,_,_,_=>none) | _=>none)
 else if v=zkW then (match ws with | [n,c,l,g]=>(match zbF n,zbF c,zbF l,zc5 g with | some n,some c,some l,some g=>some (.batch n c l g) | _,_,_,_=>none) | _=>none)
 else if v=znE then (match ws with | [n]=>(zbF n).map .drop | _=>none)
 else if v=znC then (match ws with | [n]=>(zbF n).map .plan | _=>none)
 else if v=znB then (match ws with | [n]=>(zbF n).map .pour | _=>none)
 else if v=zib then (match ws with | [n]=>(zbF n).map .promise | _=>none)
 else if v=zqA then (match ws with | [n,g]=>(match zbF n,zc5 g with | some n,some g=>some (.box n g) | _,_=>none) | _=>none)
 else if v=znD then (match ws with | []=>some .look | _=>none)
 else if v=znA then (match ws with | [n,a,b,c,d]=>(match zbF n,zc5 a,zc5 b,zc5 c,zc5 d with | some n,some a,some b,some c,some d=>some (.wick n a b c d) | _,_,_,_,_=>none) | _=>none)
 else if v=zkV then (match ws with | [a,b,c]=>(match zc5 a,zc5 b,zc5 c with | some a,some b,some c=>some (.blend a b c) | _,_,_=>none) | _=>none)
 else if v=zkU then (match ws with | []=>some .stock | _=>none)
 else none
def say (l:List UInt8):Except Int Cmd :=
 if 400<l.length then .error 3
 else if l.take 5=zfW then .ok (.test (l.drop 5))
 else match zaC 32 l with
  |[]=>.error 6
  |v::ws=>match zdg v ws with | some c=>.ok c | none=>.error 6
def bl (s:ByteArray):List UInt8:=s.data.toList
def zcB (b:ChBooks):List ClBatch:=b.batches.map fun x=>⟨x.colour,x.grams⟩
def zhd (n:Int):List UInt8:=if n=1 then zst else if n=2 then zlr else znp
def zAv (l:List ChBatch):Int:=(l.map (·.grams)).sum
def zee (s:ChShop) (a b c:Int):BdWish:=⟨List.replicate s.blend.length ⟨0,20⟩,⟨a,b⟩,⟨0,c⟩⟩
def zgC (s:ChShop) (b:ChBooks) (c:List UInt8):Except Int (List Nat×Int) :=
 let k:=zam (fun x:ClColour=>x.name==bs c) s.colour.colours 0
 if k<0 then .error 4
 else if Cl.zb1 s.colour k (zcB b)≠0 then .error (Cl.zb1 s.colour k (zcB b))
 else match Cl.zp7 s.colour k (zcB b) with | none=>.error 9 | some q=>.ok q
def zdl (s:ChShop) (b:ChBooks) (kind:List UInt8):Except Int (Int×Int) :=
 let k:=zam (fun x:HrKind=>x.name==bs kind) s.hour.kinds 0
 if k<0 then .error 4
 else if (zcj s.hour b.tests k).2≠0 then .error (zcj s.hour b.tests k).2
 else .ok (k,(zcj s.hour b.tests k).1)
def zjR (l:List ChBatch) (i:Nat):List UInt8:=match l[i]? with | some x=>bl x.name | none=>[]
def act (s:ChShop) (b:ChBooks):Cmd→Except Int (ChBooks×List UInt8)
 |.lot name kind grams rs =>
  let k:=zam (fun x:WxKind=>x.name==bs kind) s.wax.kinds 0
  if b.lots.any (fun x=>x.name==bs name)=true then .error 5
  else if k<0 then .error 4
  else if ¬ (1≤grams∧grams≤100000) then .error 7
  else if (Wx.zaQ s.wax rs k).2.2≠0 then .error (Wx.zaQ s.wax rs k).2.2
  else if ¬ b.lots.length<8 then .error 3
  else .ok ({ b with lots:=b.lots++[⟨bs name,k,grams,rs⟩] },joinL [zhd (Wx.zaQ s.wax rs k).2.1,dec (Wx.zaQ s.wax rs k).1.lo,dec (Wx.zaQ s.wax rs k).1.hi])
 |.batch name colour lot grams =>
  let c:=zam (fun x:ClColour=>x.name==bs colour) s.colour.colours 0
  let i:=zam (fun x:ChLot=>x.name==bs lot) b.lots 0
  if b.batches.any (fun x=>x.name==bs name)=true then .error 5
  else if c<0 then .error 4
  else if i<0 then .error 4
  else if ¬ (1≤grams∧grams≤100000) then .error 7
  else match b.lots[i.toNat]? with
   |none=>.error 4
   |some x =>
    if ¬ grams≤x.grams then .error 9
    else if ¬ b.batches.length<7 then .error 3
    else .ok ({ b with lots:=b.lots.set i.toNat { x with grams:=x.grams-grams },batches:=b.batches++[⟨bs name,c,i,grams⟩] },wOk)
 |.drop name =>
  let i:=zam (fun x:ChBatch=>x.name==bs name) b.batches 0
  if i<0 then .error 4
  else match b.batches[i.toNat]? with
   |none=>.error 4
   |some y=>match b.lots[y.lot.toNat]? with
    |none=>.error 4
    |some x=>.ok ({ b with lots:=b.lots.set y.lot.toNat { x with grams:=x.grams+y.grams },batches:=b.batches.eraseIdx i.toNat },wOk)
 |.plan c=>match zgC s b c with
  |.error e=>.error e
  |.ok (o,n)=>.ok (b,joinL (o.map (zjR b.batches)++[dec n]))
 |.pour c=>match zgC s b c with
  |.error e=>.error e
  |.ok (_,n)=>.ok ({ b with poured:=b.poured+zAv b.batches,batches:=[],lost:=b.lost+n },dec n)
 |.test text =>
  if (zaB s.hour text).2≠0 then .error (zaB s.hour text).2
  else if ¬ b.tests.length<8 then .error 3
  else .ok ({ b with tests:=b.tests++[(zaB s.hour text).1] },
   if (zb2 s.hour (zaB s.hour text).1).2=0 then joinL [dec (zb2 s.hour (zaB s.hour text).1).1.lo,dec (zb2 s.hour (zaB s.hour text).1).1.hi]
   else joinL (zwU::(zfG s.hour (zaB s.hour text).1).1.map dec))
 |.promise kind=>match zdl s b kind with
  |.error e=>.error e
  |.ok (_,n)=>.ok (b,dec n)
 |.box kind hours=>match zdl s b kind with
  |.error e=>.error e
  |.ok (k,n)=>if ¬ hours≤n then .error 9 else if ¬ b.boxes.length<20 then .error 3 else .ok ({ b with boxes:=b.boxes++[⟨k,hours⟩] },wOk)
 |.look=>.ok (b,if (zbl s.hour b.tests b.boxes).1=[] then wOk else joinL (znq::(zbl s.hour b.tests b.boxes).1.map dec))
 |.wick kind a b' c d =>
  let i:=zam (fun x:Wax=>x.name==bs kind) s.wick.waxes 0
  if i<0 then .error 4
  else match s.wick.waxes[i.toNat]? with
   |none=>.error 4
   |some x =>
    if (Wk.zch s.wick ⟨i,a,b',⟨c,d⟩⟩ x).2≠0 then .error (Wk.zch s.wick ⟨i,a,b',⟨c,d⟩⟩ x).2
    else match s.wick.wicks[(Wk.zch s.wick ⟨i,a,b',⟨c,d⟩⟩ x).1.toNat]? with
     |none=>.error 4
     |some w=>.ok (b,bl w.name)
 |.blend a b' c =>
  if (za8 s.blend (zee s a b' c)).2.2≠0 then .error (za8 s.blend (zee s a b' c)).2.2
  else .ok (b,joinL ((za8 s.blend (zee s a b' c)).1.map dec++[dec (za8 s.blend (zee s a b' c)).2.1]))
 |.stock=>.ok (b,if b.lots=[] then zCm else joinL (b.lots.flatMap fun x=>[bl x.name,dec x.grams]))
def zeQ (s:ChShop) (b:ChBooks) (l:List UInt8):Except Int (ChBooks×List UInt8×Bool) :=
 match say l with
 |.error e=>.error e
 |.ok c=>match act s b c with | .error e=>.error e | .ok (b',a)=>.ok (b',a,c.written)
end Ch
end Abs
end Go.Proofs.YtahlnclapingiaaGreatDoor
namespace Go.Proofs.YtahlnclapingiaaGreatDoor
open Go.Shelf
def Tryz.lays156_ren:Go.Shelf.Ren:=⟨fun | 156=>79 | 165=>84 | 166=>20 | 169=>21 | 240=>47 | 241=>163 | 276=>80 | 277=>250 | n=>n,fun | 0=>0 | 3=>3 | 4=>4 | 5=>5 | 9=>9 | 20=>20 | 31=>42 | 37=>67 | 70=>66 | 72=>69 | 75=>74 | 76=>75 | 80=>77 | 127=>122 | 164=>170 | n=>n,fun | n=>n⟩
theorem Tryz.lays156:Go.Proofs.Lays.n156 Tryz.prog Tryz.lays156_ren:={
 mixed:=by kernel_rfl
 f156:=Tryz.func79.trans (congrArg some (by kernel_rfl))
 f165:=Tryz.func84.trans (congrArg some (by kernel_rfl))
 f166:=Tryz.func20.trans (congrArg some (by kernel_rfl))
 f169:=Tryz.func21.trans (congrArg some (by kernel_rfl))
 f240:=Tryz.func47.trans (congrArg some (by kernel_rfl))
 f241:=Tryz.func163.trans (congrArg some (by kernel_rfl))
 f276:=Tryz.func80.trans (congrArg some (by kernel_rfl))
 f277:=Tryz.func250.trans (congrArg some (by kernel_rfl))
 t0:=Tryz.underlying0
 a0:=Tryz.isAgg0
 z0:=Tryz.sizeOf0
 v0:=Tryz.zeroValue0
 t3:=Tryz.underlying3
 a3:=Tryz.isAgg3
 z3:=Tryz.sizeOf3
 v3:=Tryz.zeroValue3
 t4:=Tryz.underlying4
 a4:=Tryz.isAgg4
 z4:=Tryz.sizeOf4
 v4:=Tryz.zeroValue4
 t9:=Tryz.underlying9
 a9:=Tryz.isAgg9
 z9:=Tryz.sizeOf9
 v9:=Tryz.zeroValue9
 t20:=Tryz.underlying20
 a20:=Tryz.isAgg20
 z20:=Tryz.sizeOf20
 v20:=Tryz.zeroValue20
 t31:=Tryz.underlying42
 a31:=Tryz.isAgg42
 z31:=Tryz.sizeOf42
 v31:=Tryz.zeroValue42
 t37:=Tryz.underlying67
 a37:=Tryz.isAgg67
 z37:=Tryz.sizeOf67
 v37:=Tryz.zeroValue67
 t70:=Tryz.underlying66
 a70:=Tryz.isAgg66
 z70:=Tryz.sizeOf66
 v70:=Tryz.zeroValue66
 t72:=Tryz.underlying69
 a72:=Tryz.isAgg69
 z72:=Tryz.sizeOf69
 v72:=Tryz.zeroValue69
 t75:=Tryz.underlying74
 a75:=Tryz.isAgg74
 z75:=Tryz.sizeOf74
 v75:=Tryz.zeroValue74
 t76:=Tryz.underlying75
 a76:=Tryz.isAgg75
 z76:=Tryz.sizeOf75
 v76:=Tryz.zeroValue75
 t127:=Tryz.underlying122
 a127:=Tryz.isAgg122
 z127:=Tryz.sizeOf122
 v127:=Tryz.zeroValue122
 t164:=Tryz.underlying170
 a164:=Tryz.isAgg170
 z164:=Tryz.sizeOf170
 v164:=Tryz.zeroValue170 }
theorem Tryz.lays156X:Go.Proofs.Builder.Extra Tryz.prog Tryz.lays156_ren:={
 sizeBuilder:=by kernel_rfl
 liesBuilder:=by kernel_rfl
 t5:=by kernel_rfl
 a5:=Tryz.isAgg5
 z5:=Tryz.sizeOf5
 v5:=Tryz.zeroValue5
 infoByte:=by kernel_rfl
 cellsByte:=by kernel_rfl
 sizeByte:=by kernel_rfl
 neB5:=Nat.ne_of_beq_eq_false (by kernel_rfl) }
end Go.Proofs.YtahlnclapingiaaGreatDoor
namespace Go.Proofs.YtahlnclapingiaaGreatDoor
namespace Abs
open Go.RowKit Go.Sort
set_option maxRecDepth 100000
theorem zEc {w:World} {b k:Nat} {v:Value} (h:w.cell? ⟨b,k,none⟩=some v):b<w.heap.size:=by
 unfold World.cell? at h
 rcases Nat.lt_or_ge b w.heap.size with h' | h'
 ·exact h'
 ·simp [Array.getElem?_eq_none h'] at h
theorem zLc (l:List (List UInt8)) (sep:List UInt8) (fl:Bool) (hl:l.length≤1000000) (hb:(Lib.join l sep).length≤1000000000) :
  zae Tryz.prog 79 [.slice 1 (l.map fun x=>.str (bs x)) fl,.str (bs sep)] (.str (bs (Lib.join l sep))):=by
 intro M0 w cargs hM hg ha
 obtain ⟨u,v,rfl,hu,hv⟩:=zpi ha
 cases hv
 refine ⟨(fun w'=>zeP Tryz.func79 zMW _ w'),?_⟩
 have hdat:(l.map bs).map (fun x:ByteArray=>x.data.toList)=l:=by rw [List.map_map];simp [Function.comp_def,zdr]
 have fin:∀ (e:Ending) (w':World),e=.returned (.string ⟨(Lib.join ((l.map bs).map (·.data.toList)) (bs sep).data.toList).toArray⟩)∧Below w.heap.size w w'→∃ v',e=Ending.returned v'∧RepP M0 w' v' (.str (bs (Lib.join l sep)))∧Fr [] w w':=by
  rintro e w' ⟨rfl,h⟩
  refine ⟨_,rfl,?_,zgP h⟩
  rw [hdat,zdr]
  exact .str _
 generalize hxs:l.map (fun x=>PV.str (bs x))=xs at hu
 cases hu with
 |slice f hlen hcap hfull hsz hM' hc hr =>
  rename_i b off len cap
  subst hlen
  have hlen2:xs.length=(l.map bs).length:=by rw [←hxs];simp
  cases hl0:l with
  |nil =>
   subst hl0
   simp only [List.map_nil] at hxs
   subst hxs
   exact (Any.strings_Join_none Tryz.lays156 Tryz.lays156X (some ⟨b,off,none⟩) cap (bs sep) w).mono fun e w' h=>fin e w' ⟨h.1,h.2▸Below.refl _ _⟩
  |cons x0 l0 =>
   rw [←hl0]
   have hcells:∀ (j:Nat) x,(l.map bs)[j]?=some x→w.cell? ⟨b,off+j,none⟩=some (.string x):=by
    intro j x hj
    have hjx:xs[j]?=some (.str x):=by
     rw [←hxs,List.getElem?_map]
     rw [List.getElem?_map] at hj
     cases hq:l[j]? with
     |none=>rw [hq] at hj;cases hj
     |some q=>rw [hq] at hj;cases hj;rfl
    have hjl:=(List.getElem?_eq_some_iff.1 hjx).1
    have h1:=hr j 0 _ _ hjx rfl
    have h2:=hc j (by omega)
    rw [h2]
    have h3:f (j*1+0)=f j:=by simp
    rw [h3] at h1
    cases hf:f j<;>rw [hf] at h1<;>cases h1
    rfl
   have hbk:b<w.heap.size:=zEc (hcells 0 (bs x0) (by rw [hl0];rfl))
   have:=Any.strings_Join Tryz.lays156 Tryz.lays156X b off cap (l.map bs) (bs sep) w hcells hbk (by simp;omega) (by rw [←hlen2];exact hcap) (by rw [hdat,zdr];omega)
   rw [←hlen2] at this
   exact this.mono fin
 |empty hfull =>
  rename_i a cap
  have hl0:l=[]:=by cases l with | nil=>rfl | cons x r=>simp at hxs
  subst hl0
  exact (Any.strings_Join_none Tryz.lays156 Tryz.lays156X a cap (bs sep) w).mono fun e w' h=>fin e w' ⟨h.1,h.2▸Below.refl _ _⟩
end Abs
end Go.Proofs.YtahlnclapingiaaGreatDoor
