/-
  CONTRACTS: ranges and names, in the references and in the program.
  CONTRACTS: colour.Check, in the program and in the reference: both come to 'clCheck'. No c
  CONTRACTS: colour: a shop that is looked at, with batches; what a batch needs after a colo
-/
import Derived.Test.YtahlnclapingiaaGreatDoorChEnd0X
set_option linter.unusedSimpArgs false
set_option linter.unusedVariables false
namespace Go.Proofs.YtahlnclapingiaaGreatDoor
namespace Abs
set_option maxRecDepth 4000
def gIn (n lo hi:Int):Bool:=decide (lo≤n)&&decide (n≤hi)
theorem zGD (n lo hi:Int):zae Tryz.prog 125 [.int .i64 n,.int .i64 lo,.int .i64 hi] (.bool (gIn n lo hi)):=by
 refine zaa zad (fn:=Tryz.f125) (n:=15) (rs:=[.tmp 6]) (by kernel_rfl) rfl rfl rfl zKk (Nat.le_of_ble_eq_true rfl) ?_
 simp only [go_sem,simprocAttr]
 refine zaH (fun hb=>?_) (fun hb=>?_)<;>simp only [hb,go_sem,simprocAttr]<;>simp [gIn,hb]
def zlV (lo hi low high:Int):Int:=if gIn lo low high=true∧gIn hi low high=true then (if hi<lo then 2 else 0) else 7
def zqZ (c last:Int):Bool:=(c != 45&&(decide (c<97)||decide (122<c)))||(c==45&&last==45)
def zgb:List UInt8→Int→Bool
 |[],last=>last != 45
 |c::r,last=>if zqZ c.toNat last=true then false else zgb r c.toNat
def nameOk (s:ByteArray):Bool:=zgb s.data.toList 45&&decide ((s.size:Int)≤20)
theorem zuf (s:ByteArray) (i:Nat):s[i]?=s.data.toList[i]?:=by
 by_cases h:i<s.size
 ·have h':i<s.data.toList.length:=by simpa using h
  rw [getElem?_pos s i h,List.getElem?_eq_getElem h']
  simp [ByteArray.getElem_eq_getElem_data]
 ·rw [getElem?_neg s i h,List.getElem?_eq_none]
  simpa using Nat.le_of_not_lt h
attribute [go_sem] zuf
theorem ze0 (s:ByteArray):zae Tryz.prog 99 [.str s] (.bool (nameOk s)):=by
 refine zaa zad (fn:=Tryz.f99) (n:=37) (rs:=[.tmp 2]) (by kernel_rfl) rfl rfl rfl zMJ (Nat.le_of_ble_eq_true rfl) ?_
 simp only [go_sem,simprocAttr]
 refine zfc [0,7] (σ:=List UInt8×List UInt8×Int) (fun q=>s.data.toList=q.1++q.2.1∧zgb s.data.toList 45=zgb q.2.1 q.2.2) (fun q=>q.2.1.length)
  (fun q=>[(3,.p (.int .i32 q.2.2))]) (fun q=>[.strIter s q.1.length]) ([],s.data.toList,45) ⟨rfl,rfl⟩ ?_ ?_
 ·simp only [go_sem,simprocAttr]
 ·rintro ⟨done,rest,last⟩ ⟨e1,e2⟩
  dsimp only at e1 e2
  cases rest with
  |nil =>
   have hlt:¬ (done.length<s.size):=by
    have:=congrArg List.length e1
    simp at this ⊢
    omega
   simp only [hlt,go_sem,simprocAttr]
   refine zaH (fun hb=>?_) (fun hb=>?_)<;>simp only [hb,go_sem,simprocAttr]
   ·simp [nameOk,e2,zgb,hb]
   ·simp [nameOk,e2,zgb,hb]
  |cons c r =>
   obtain ⟨hx,_⟩:=zeb e1
   have hlt:done.length<s.size:=by
    have:=congrArg List.length e1
    simp at this ⊢
    omega
   have hc:(s[done.length]'hlt)=c:=by
    have:=zuf s done.length
    rw [hx,getElem?_pos s done.length hlt] at this
    exact Option.some.inj this
   rcases Nat.lt_or_ge c.toNat 128 with hlow | hhigh
   ·have hd:Utf8.decode s done.length=(c.toNat,1):=by
     rw [decode_ascii s done.length hlt (by rw [hc];exact hlow),hc]
    simp only [hlt,hd,go_sem,simprocAttr]
    repeat' first
     |(refine zaH (fun hb=>?_) (fun hb=>?_)<;>simp only [hb,go_sem,simprocAttr])
    all_goals first
     |(refine zb5 (done++[c],r,(c.toNat:Int)) ⟨by simp [e1],?_⟩ (by simp) ?_
       ·rw [e2];simp_all [zgb,zqZ]
       ·simp only [go_sem,simprocAttr];simp)
     |(simp only [nameOk,e2];simp_all [zgb,zqZ];done)
   ·have hd:=decode_high s done.length hlt (by rw [hc];exact hhigh)
    have h1:(((Utf8.decode s done.length).1:Int) != 45)=true:=by simp;omega
    have h2:decide (((Utf8.decode s done.length).1:Int)<97)=false:=by simp;omega
    have h3:decide ((122:Int)<((Utf8.decode s done.length).1:Int))=true:=by simp;omega
    simp only [hlt,h1,h2,h3,go_sem,simprocAttr]
    have hbad:zqZ c.toNat last=true:=by
     have g1:((c.toNat:Int) != 45)=true:=by simp;omega
     have g3:decide ((122:Int)<(c.toNat:Int))=true:=by simp;omega
     simp [zqZ,g1,g3]
    simp [nameOk,e2,zgb,hbad]
def firstErr {α:Type} (f:List ByteArray→α→Int) (nm:α→ByteArray):List α→List ByteArray→Option (Int×Int)
 |[],_=>none
 |x::r,before=>if f before x=0 then firstErr f nm r (before++[nm x]) else some ((before.length:Int),f before x)
def zat (t:Int×Int×Int):PV:=.tuple [.int .i64 t.1,.int .i64 t.2.1,.int .i64 t.2.2]
def zaq (before:List ByteArray) (s:ByteArray):Int:=if nameOk s=true then (if before.any (fun t=>t==s)=true then 5 else 0) else 6
end Abs
end Go.Proofs.YtahlnclapingiaaGreatDoor
namespace Go.Proofs.YtahlnclapingiaaGreatDoor
namespace Abs
namespace Cl
set_option maxRecDepth 4000
theorem zpY (lo hi n:Int):zae Tryz.prog 271 [.int .i64 n,.ptr 1 [.int .i64 lo] 0 0,.ptr 1 [.int .i64 hi] 0 0] (.bool (!gIn n lo hi)):=by
 refine zaa zad (fn:=Tryz.f271) (n:=13) (rs:=[.tmp 4]) (by kernel_rfl) rfl rfl rfl zJd (Nat.le_of_ble_eq_true rfl) ?_
 simp only [go_sem,simprocAttr]
 refine zaH (fun hb=>?_) (fun hb=>?_)<;>simp only [hb,go_sem,simprocAttr]<;>simp_all [gIn]
 rw [←decide_not];congr 1;simp
theorem zcF (lo hi:Int) (l:List Int) (b:Bool) (hl:l.length<1000000000):zae Tryz.prog 190 [.int .i64 lo,.int .i64 hi,.slice 1 (l.map zay) b] (.bool (l.any fun n=>!gIn n lo hi)):=by
 refine zaa zad (fn:=Tryz.f190) (n:=10) (rs:=[.tmp 6]) (by kernel_rfl) rfl rfl rfl zJV (Nat.le_of_ble_eq_true rfl) ?_
 simp only [go_sem,simprocAttr]
 refine zaO (zfb (fv:=.func (.func 271) [] [.ptr 1 [.int .i64 lo] 0 0,.ptr 1 [.int .i64 hi] 0 0]) l (fun n=>!gIn n lo hi) b 1 rfl hl fun n _=>⟨_,_,_,rfl,zpY lo hi n⟩) ?_ (.bool _) ?_
 ·simp only [go_sem,simprocAttr]
 ·simp only [go_sem,simprocAttr]
def zho (many:Nat) (c:ClColour):Int :=
 if c.shows.length=many then (if (c.shows.any fun n=>!gIn n 0 1000)=true then 7 else zlV c.stay.lo c.stay.hi 0 1000) else 3
def zdj (many:Nat) (before:List ByteArray) (c:ClColour):Int:=if zaq before c.name=0 then zho many c else zaq before c.name
def zfL (s:ClShop):Int:=if gIn s.colours.length 1 6=true then (if gIn s.rinse 0 10000=true then zlV s.keep.lo s.keep.hi 0 1000 else 7) else 3
def clCheck (s:ClShop):Int×Int×Int :=
 if zfL s=0 then (match firstErr (zdj s.colours.length) (·.name) s.colours [] with | some (i,e)=>(2,i,e) | none=>(0,0,0)) else (1,0,zfL s)
theorem zGv {s:ClShop} {done r:List ClColour} {x:ClColour} (h0:zfL s=0) (e2:firstErr (zdj s.colours.length) (·.name) s.colours []=firstErr (zdj s.colours.length) (·.name) (x::r) (done.map (·.name))) :
  (zdj s.colours.length (done.map (·.name)) x=0→firstErr (zdj s.colours.length) (·.name) s.colours []=firstErr (zdj s.colours.length) (·.name) r ((done++[x]).map (·.name))) ∧
  ∀ e,zdj s.colours.length (done.map (·.name)) x=e→e≠0→clCheck s=(2,(done.length:Int),e):=by
 have hE:firstErr (zdj s.colours.length) (·.name) s.colours []=if zdj s.colours.length (done.map (·.name)) x=0 then firstErr (zdj s.colours.length) (·.name) r ((done++[x]).map (·.name)) else some ((done.length:Int),zdj s.colours.length (done.map (·.name)) x):=by
  rw [e2,firstErr];simp
 exact ⟨fun h=>by rw [hE,if_pos h],fun e he hne=>by rw [clCheck,if_pos h0,hE,he,if_neg hne]⟩
theorem zK8 (s:ByteArray) (b c d:PV) (x:ClColour):zae Tryz.prog 192 [x.pv,.ptr 4 [.agg [.str s,b,c,d]] 0 0] (.bool (x.name==s)):=by
 refine zaa zad (fn:=Tryz.f192) (n:=9) (rs:=[.tmp 3]) (by kernel_rfl) rfl rfl rfl zJT (Nat.le_of_ble_eq_true rfl) ?_
 simp only [go_sem,simprocAttr]
set_option maxHeartbeats 2000000 in
theorem ziS (s:ClShop):zae Tryz.prog 91 [s.pv] (zat (clCheck s)):=by
 refine zaa zad (fn:=Tryz.f91) (n:=91) (rs:=[.tmp 2,.tmp 3,.tmp 4]) (by kernel_rfl) rfl rfl rfl zMO (Nat.le_of_ble_eq_true rfl) ?_
 simp only [go_sem,simprocAttr]
 refine zab (zcF 1 6 [_] true (by simp)) rfl ?_
 simp only [List.any_cons,List.any_nil,Bool.or_false,go_sem,simprocAttr]
 cases h1:gIn s.colours.length 1 6
 ·have hh:zfL s=3:=by rw [zfL,h1];rfl
  simp only [zat,clCheck,hh,if_neg,go_sem,simprocAttr]
 simp only [go_sem,simprocAttr]
 refine zab (zcF 0 10000 [_] true (by simp)) rfl ?_
 simp only [List.any_cons,List.any_nil,Bool.or_false,go_sem,simprocAttr]
 cases h2:gIn s.rinse 0 10000
 ·have hh:zfL s=7:=by rw [zfL,h1,h2];rfl
  simp only [zat,clCheck,hh,if_neg,go_sem,simprocAttr]
 simp only [go_sem,simprocAttr]
 refine zab (zcF 0 1000 [_,_] true (by simp)) rfl ?_
 simp only [List.any_cons,List.any_nil,Bool.or_false,←Bool.not_and,go_sem,simprocAttr]
 have hh:zfL s=zlV s.keep.lo s.keep.hi 0 1000:=by rw [zfL,h1,h2];rfl
 unfold zlV at hh
 cases h3:(gIn s.keep.lo 0 1000&&gIn s.keep.hi 0 1000)
 ·rw [if_neg (by rw [←Bool.and_eq_true,h3];decide)] at hh
  simp only [zat,clCheck,hh,if_neg,go_sem,simprocAttr]
 rw [if_pos (by rw [←Bool.and_eq_true,h3])] at hh
 simp only [go_sem,simprocAttr]
 cases h4:decide (s.keep.hi<s.keep.lo)
 rotate_left
 ·rw [if_pos (by simpa using h4)] at hh
  simp only [zat,clCheck,hh,if_neg,go_sem,simprocAttr]
 rw [if_neg (by simpa using h4)] at hh
 have hlk:s.colours.length≤6:=by simp [gIn] at h1;omega
 simp only [go_sem,simprocAttr]
 refine zbb [1,37,38] s.colours (by omega) (τ:=Unit) (fun done rest _=>firstErr (zdj s.colours.length) (·.name) s.colours []=firstErr (zdj s.colours.length) (·.name) rest (done.map (·.name)))
  (fun done _=>[(39,.p (.int .i64 done.length)),(4,.p (.int .i64 0))]) (fun _ _=>[.row 4 [.p s.pv]]) () rfl ?_ ?_ ?_
 ·simp only [go_sem,simprocAttr]<;>simp
 ·intro _ e2
  have:clCheck s=(0,0,0):=by rw [clCheck,if_pos hh,e2];rfl
  simp only [zat,this,go_sem,simprocAttr]
 ·intro done x r _ e1 e2 hx hlt hnx
  obtain ⟨go,fin⟩:=zGv hh e2
  have hle:((done.length:Nat):Int)≤(s.colours.length:Int):=by omega
  have htk:(s.colours.map ClColour.pv).take done.length=done.map ClColour.pv:=by
   rw [e1,List.map_append,List.take_left' (by simp)]
  have hdl:done.length<1000000:=by have:=congrArg List.length e1;simp at this;omega
  have hfl:(done.length==s.colours.length)=false:=by simp;omega
  simp only [hlt,hx,hle,htk,hfl,go_sem,simprocAttr]
  refine zab (ze0 x.name) rfl ?_
  simp only [go_sem,simprocAttr]
  cases hn:nameOk x.name
  ·have he:zaq (done.map (·.name)) x.name=6:=by simp [zaq,hn]
   simp only [zat,fin 6 (by rw [zdj,he];rfl) (by decide),go_sem,simprocAttr]
  simp only [hlt,hx,hle,htk,hfl,go_sem,simprocAttr]
  refine zaO (zqR (fv:=.func (.func 192) [] [.ptr 4 [x.pv] 0 0]) done (fun y=>y.name==x.name) false 4 rfl (by omega) fun y _=>⟨_,_,_,rfl,zK8 x.name _ _ _ y⟩) ?_ (.bool _) ?_
  ·simp only [go_sem,simprocAttr]
  simp only [go_sem,simprocAttr]
  cases h5:(done.any fun y=>y.name==x.name)
  rotate_left
  ·have he:zaq (done.map (·.name)) x.name=5:=by simp only [zaq,hn,List.any_map,Function.comp_def,h5,if_true]
   simp only [zat,fin 5 (by rw [zdj,he];rfl) (by decide),go_sem,simprocAttr]
  have he:zaq (done.map (·.name)) x.name=0:=by simp only [zaq,hn,List.any_map,Function.comp_def,h5,if_true,Bool.false_eq_true,if_false]
  have hb:zdj s.colours.length (done.map (·.name)) x=zho s.colours.length x:=by rw [zdj,if_pos he]
  simp only [go_sem,simprocAttr]
  cases h6:((x.shows.length:Int) != (s.colours.length:Int))
  rotate_left
  ·have h6':¬ x.shows.length=s.colours.length:=by simp at h6;omega
   simp only [zat,fin 3 (by rw [hb,zho,if_neg h6']) (by decide),go_sem,simprocAttr]
  have h6':x.shows.length=s.colours.length:=by simp at h6;omega
  simp only [go_sem,simprocAttr]
  refine zab (zcF 0 1000 x.shows false (by omega)) rfl ?_
  simp only [go_sem,simprocAttr]
  cases h7:(x.shows.any fun n=>!gIn n 0 1000)
  rotate_left
  ·simp only [zat,fin 7 (by rw [hb,zho,if_pos h6',h7];rfl) (by decide),go_sem,simprocAttr]
  simp only [go_sem,simprocAttr]
  refine zab (zcF 0 1000 [_,_] true (by simp)) rfl ?_
  simp only [List.any_cons,List.any_nil,Bool.or_false,←Bool.not_and,go_sem,simprocAttr]
  rw [zho,if_pos h6',h7,if_neg (by decide)] at hb
  unfold zlV at hb
  cases h8:(gIn x.stay.lo 0 1000&&gIn x.stay.hi 0 1000)
  ·rw [if_neg (by rw [←Bool.and_eq_true,h8];decide)] at hb
   simp only [zat,fin 7 hb (by decide),go_sem,simprocAttr]
  rw [if_pos (by rw [←Bool.and_eq_true,h8])] at hb
  simp only [go_sem,simprocAttr]
  cases h9:decide (x.stay.hi<x.stay.lo)
  rotate_left
  ·rw [if_pos (by simpa using h9)] at hb
   simp only [zat,fin 2 hb (by decide),go_sem,simprocAttr]
  rw [if_neg (by simpa using h9)] at hb
  simp only [go_sem,simprocAttr]
  refine zaA e1 () (go hb) ?_
  simp only [hnx,go_sem,simprocAttr]
end Cl
end Abs
end Go.Proofs.YtahlnclapingiaaGreatDoor
namespace Go.Proofs.YtahlnclapingiaaGreatDoor
namespace Abs
namespace Cl
set_option maxRecDepth 4000
theorem znK (b:Bool) (e:Int) (h:Heap):zap Tryz.prog 378 [.p (.bool b),.p (.int .i64 e)] h (fun r h'=>h'=h∧r=if b=true then .ret (.p (.tuple [])) else .panic (.iface 43 (.int .i64 e))):=by
 refine zan zad (fn:=Tryz.f378) (n:=8) (rs:=[]) (by kernel_rfl) rfl rfl rfl zCr (Nat.le_of_ble_eq_true rfl) ?_
 simp only [go_sem,simprocAttr]
 cases b
 ·simp only [go_sem,simprocAttr]
 ·simp only [go_sem,simprocAttr]
theorem zak {H:Hints} {Q:Cont} {ops:Array Oper} {rest:List Oper} {dst:Option Tmp} {A:AAct} {b:Bool} {e:Int} (h1:b=true→@WO ⟨Tryz.prog,H,ops,rest,Q⟩ (A.put dst (.p (.tuple [])) A.h))
  (h2:b=false→@WQ ⟨Q⟩ (.panic (.iface 43 (.int .i64 e))) A):@WF ⟨Tryz.prog,H,ops,rest,Q,dst⟩ A 378 [.p (.bool b),.p (.int .i64 e)]:=by
 refine zbf (znK b e A.h) (fun v h hr=>?_) (fun v h hr=>?_)
 ·obtain ⟨rfl,hr⟩:=hr
  cases b
  ·cases hr
  ·cases hr;exact h1 rfl
 ·obtain ⟨rfl,hr⟩:=hr
  cases b
  ·cases hr;exact h2 rfl
  ·cases hr
theorem zCc {H:Hints} {Q:Cont} {ops:Array Oper} {rest:List Oper} {o:Oper} {hs:Heap} {A:AAct} {e:Int} (h:∀ T,@WQ ⟨Q⟩ (.panic (.iface 43 (.int .i64 e))) { A with tmps:=T }) :
  @WDR ⟨Tryz.prog,H,ops,rest,Q,o⟩ hs A (.call 378 [.p (.bool false),.p (.int .i64 e)]):=by
 refine .inr ⟨_,(znK false e A.h).mono fun r h' hr=>?_,h⟩
 exact ⟨hr.2,hr.1⟩
def zcq (s:ClShop) (b:ClBatch):Int:=if gIn b.colour 0 ((s.colours.length:Int)-1)=true then (if gIn b.grams 1 100000=true then 0 else 7) else 4
def zcP (s:ClShop):List ClBatch→Int
 |[]=>0
 |b::l=>if zcq s b=0 then zcP s l else zcq s b
def zkT (s:ClShop) (l:List ClBatch):Int:=if l.length≤7 then zcP s l else 3
def zb1 (s:ClShop) (zaK:Int) (l:List ClBatch):Int :=
 if (clCheck s).2.2=0 then (if gIn zaK 0 ((s.colours.length:Int)-1)=true then zkT s l else 4) else (clCheck s).2.2
def zre (s:ClShop) (l:List ClBatch) (m:PV):List PV:=[.slice 4 (s.colours.map ClColour.pv) false,.int .i64 s.keep.lo,.int .i64 s.keep.hi,.int .i64 s.rinse,.slice 2 (l.map ClBatch.pv) false,m]
def zw4 (s:ClShop) (l:List ClBatch):PV:=.ptr 6 [.agg (zre s l .any)] 0 0
attribute [go_sem] zre zw4
structure ShopOk (s:ClShop):Prop where
 len:1≤s.colours.length∧s.colours.length≤6
 keep:0≤s.keep.lo∧s.keep.lo≤s.keep.hi∧s.keep.hi≤1000
 rinse:0≤s.rinse∧s.rinse≤10000
 shows:∀ c,c∈s.colours→c.shows.length=s.colours.length∧∀ n,n∈c.shows→0≤n∧n≤1000
 stay:∀ c,c∈s.colours→0≤c.stay.lo∧c.stay.lo≤c.stay.hi∧c.stay.hi≤1000
theorem zc8 {α:Type} {f:List ByteArray→α→Int} {nm:α→ByteArray}:∀ {l:List α} {before:List ByteArray},firstErr f nm l before=none→∀ x,x∈l→∃ bs,f bs x=0
 |[],_,_,x,hx=>by cases hx
 |y::l,before,h,x,hx=>by
  rw [firstErr] at h
  split at h
  ·rename_i h0
   rcases List.mem_cons.1 hx with rfl | hx
   ·exact ⟨_,h0⟩
   ·exact zc8 h x hx
  ·cases h
theorem zd6 {α:Type} {f:List ByteArray→α→Int} {nm:α→ByteArray}:∀ {l:List α} {before:List ByteArray} {i e:Int},firstErr f nm l before=some (i,e)→e≠0
 |[],_,_,_,h=>by cases h
 |y::r,before,i,e,h=>by
  rw [firstErr] at h
  split at h
  ·exact zd6 h
  ·rename_i h0
   cases h;exact h0
theorem zpJ {a b lo hi:Int} (h:zlV a b lo hi=0):lo≤a∧a≤b∧b≤hi:=by
 unfold zlV at h
 split at h
 ·rename_i h1
  simp [gIn] at h1
  split at h
  ·cases h
  ·omega
 ·cases h
theorem zns {s:ClShop} (h:(clCheck s).2.2=0):ShopOk s:=by
 unfold clCheck at h
 split at h
 ·rename_i h1
  unfold zfL at h1
  split at h1
  ·rename_i g1
   split at h1
   ·rename_i g2
    have g3:=zpJ h1
    simp [gIn] at g1 g2
    have hc:∀ c,c∈s.colours→zho s.colours.length c=0:=by
     intro c hc
     split at h
     ·rename_i i e he;exact absurd h (zd6 he)
     ·rename_i he
      obtain ⟨bs,h0⟩:=zc8 he c hc
      unfold zdj at h0
      split at h0
      ·exact h0
      ·contradiction
    refine ⟨by omega,g3,g2,fun c hcm=>?_,fun c hcm=>?_⟩
    ·have:=hc c hcm
     unfold zho at this
     split at this
     ·rename_i e1
      split at this
      ·cases this
      ·rename_i e2
       refine ⟨e1,fun n hn=>?_⟩
       simp only [List.any_eq_true,not_exists,not_and] at e2
       have:=e2 n hn
       simpa [gIn] using this
     ·cases this
    ·have:=hc c hcm
     unfold zho at this
     split at this
     ·split at this
      ·cases this
      ·exact zpJ this
     ·cases this
   ·cases h1
  ·cases h1
 ·contradiction
structure BatchOk (s:ClShop) (b:ClBatch):Prop where
 colour:0≤b.colour∧b.colour<s.colours.length
 grams:1≤b.grams∧b.grams≤100000
theorem zBX {s:ClShop} {b:ClBatch} (h:zcq s b=0):BatchOk s b:=by
 unfold zcq at h
 split at h
 ·rename_i h1
  split at h
  ·rename_i h2
   simp [gIn] at h1 h2
   exact ⟨by omega,h2⟩
  ·cases h
 ·cases h
theorem zp8 {s:ClShop}:∀ {l:List ClBatch},zcP s l=0→∀ b,b∈l→BatchOk s b
 |[],_,b,hb=>by cases hb
 |x::l,h,b,hb=>by
  rw [zcP] at h
  split at h
  ·rename_i h0
   rcases List.mem_cons.1 hb with rfl | hb
   ·exact zBX h0
   ·exact zp8 h b hb
  ·contradiction
def zih (s:ClShop) (before:Int) (b:ClBatch) (r:Nat):Bool :=
 match s.colours[before.toNat]? with
 |some x=>(match x.shows[b.colour.toNat]? with | some n=>before != b.colour&&decide (b.grams*n*1000^r<1000*x.stay.hi*s.keep.hi^r) | none=>false)
 |none=>false
def zhB (can:Nat→Bool):Nat→Nat→Int
 |0,_=>-1
 |c+1,r=>if can r=true then zhB can c (r+1) else r
def zes (s:ClShop) (before:Int) (b:ClBatch):Int:=zhB (zih s before b) 4 0
theorem zCq {k:Int} (h0:0≤k) (h1:k≤1000):∀ r:Nat,0≤k^r∧k^r≤1000^r
 |0=>by simp
 |r+1=>by
  have ih:=zCq h0 h1 r
  rw [Int.pow_succ,Int.pow_succ]
  exact ⟨Int.mul_nonneg ih.1 h0,Int.mul_le_mul ih.2 h1 h0 (Int.le_trans ih.1 ih.2)⟩
theorem znN (n keep:Int) (r:Nat) (hn:0≤n∧n≤1000000000) (hk:0≤keep∧keep≤1000) (hr:r≤3):zae Tryz.prog 405 [.int .i64 n,.int .i64 keep,.int .i64 r] (.int .i64 (n*keep^r)):=by
 refine zaa zad (fn:=Tryz.f405) (n:=15) (rs:=[.tmp 6]) (by kernel_rfl) rfl rfl rfl zHP (Nat.le_of_ble_eq_true rfl) ?_
 simp only [go_sem,simprocAttr]
 have hB:∀ k:Nat,k≤3→0≤n*keep^k∧n*keep^k≤1000000000000000000:=fun k hk3=>by
  have h1:=zCq hk.1 hk.2 k
  have h2:(1000:Int)^k≤1000000000:=by
   match k,hk3 with
   |0,_=>decide
   |1,_=>decide
   |2,_=>decide
   |3,_=>decide
  exact ⟨Int.mul_nonneg hn.1 h1.1,by have:=Int.mul_le_mul hn.2 (Int.le_trans h1.2 h2) h1.1 (by omega:(0:Int)≤1000000000);omega⟩
 refine zcZ [1,7] (σ:=Nat) (fun k=>k≤r) (fun k=>r-k) (fun k=>[(0,.p (.int .i64 (n*keep^k))),(8,.p (.int .i64 k))]) (fun k=>[]) 0 (Nat.zero_le _) rfl ?_ ?_
 ·simp only [go_sem,simprocAttr]
  simp
 intro k hkr
 rcases Nat.eq_or_lt_of_le hkr with rfl | hlt
 ·have hd:decide ((k:Int)<(k:Int))=false:=by simp
  simp only [hd,go_sem,simprocAttr]
 have hd:decide ((k:Int)<(r:Int))=true:=by simp;omega
 have hw:IntKind.i64.wrap ((k:Int)+1)=((k+1:Nat):Int):=za9 (by omega) (by simp [zar];omega) (by omega)
 have hB1:=hB (k+1) (by omega)
 have hm:IntKind.i64.wrap (n*keep^k*keep)=n*keep^(k+1):=by
  rw [Int.pow_succ,←Int.mul_assoc] at hB1 ⊢
  exact zaj (by omega) (by omega)
 simp only [hd,go_sem,simprocAttr]
 refine zaS (k+1) (by omega) (by omega) rfl ?_
 simp only [hw,hm,go_sem,simprocAttr]
theorem zGx (s:ClShop) (l:List ClBatch) (before:Int) (b:ClBatch) (r:Nat) (hs:ShopOk s) (hb:BatchOk s b) (h0:0≤before∧before<s.colours.length) (hr:r≤3) :
  zae Tryz.prog 394 [zw4 s l,.int .i64 before,b.pv,.int .i64 r] (.bool (zih s before b r)):=by
 refine zaa zad (fn:=Tryz.f394) (n:=50) (rs:=[.tmp 8]) (by kernel_rfl) rfl rfl rfl zHY (Nat.le_of_ble_eq_true rfl) ?_
 obtain ⟨i,rfl⟩:∃ i:Nat,before=(i:Int):=⟨before.toNat,by omega⟩
 obtain ⟨j,hj⟩:∃ j:Nat,b.colour=(j:Int):=⟨b.colour.toNat,by have:=hb.colour;omega⟩
 have hbc:=hb.colour
 obtain ⟨x,hx⟩:∃ x,s.colours[i]?=some x:=⟨_,List.getElem?_eq_getElem (by omega)⟩
 have hxm:=List.mem_of_getElem? hx
 have hsl:=(hs.shows x hxm).1
 obtain ⟨n,hn⟩:∃ n,x.shows[j]?=some n:=⟨_,List.getElem?_eq_getElem (by omega)⟩
 have hnb:=(hs.shows x hxm).2 n (List.mem_of_getElem? hn)
 have hst:=hs.stay x hxm
 have hg:=hb.grams
 have il:(i:Int)<(s.colours.length:Int):=h0.2
 have jl:(j:Int)<(x.shows.length:Int):=by omega
 have mB:0≤b.grams*n∧b.grams*n≤100000000:=⟨Int.mul_nonneg (by omega) hnb.1,by have:=Int.mul_le_mul hg.2 hnb.2 hnb.1 (by omega:(0:Int)≤100000);omega⟩
 have w1:IntKind.i64.wrap (b.grams*n)=b.grams*n:=zaj (by omega) (by omega)
 have w2:IntKind.i64.wrap (1000*x.stay.hi)=1000*x.stay.hi:=zaj (by omega) (by omega)
 have hsp:zih s (i:Int) b r=((i:Int) != (j:Int)&&decide (b.grams*n*1000^r<1000*x.stay.hi*s.keep.hi^r)):=by
  simp only [zih,Int.toNat_natCast,hx,hj,hn]
 rw [hsp]
 simp only [hx,il,hj,hn,jl,w1,go_sem,simprocAttr]
 cases hc:((i:Int) != (j:Int))
 ·simp only [hx,il,hj,hn,jl,w1,w2,go_sem,simprocAttr]
 simp only [hx,il,hj,hn,jl,w1,w2,go_sem,simprocAttr]
 (first | refine zab (znN (1000*x.stay.hi) s.keep.hi r (by omega) (by have:=hs.keep;omega) hr) rfl ?_ | refine zau (znN (1000*x.stay.hi) s.keep.hi r (by omega) (by have:=hs.keep;omega) hr) rfl ?_)
 simp only [go_sem,simprocAttr]
 (first | refine zab (znN (b.grams*n) 1000 r (by omega) (by omega) hr) rfl ?_ | refine zau (znN (b.grams*n) 1000 r (by omega) (by omega) hr) rfl ?_)
 simp only [go_sem,simprocAttr]
theorem zEo (s:ClShop) (l:List ClBatch) (before:Int) (b:ClBatch) (hs:ShopOk s) (hb:BatchOk s b) (h0:0≤before∧before<s.colours.length) :
  zae Tryz.prog 381 [zw4 s l,.int .i64 before,b.pv] (.int .i64 (zes s before b)):=by
 refine zaa zad (fn:=Tryz.f381) (n:=19) (rs:=[.tmp 6]) (by kernel_rfl) rfl rfl rfl zH9 (Nat.le_of_ble_eq_true rfl) ?_
 simp only [go_sem,simprocAttr]
 refine zfc [0,1,5] (σ:=Nat) (fun k=>k≤4∧zes s before b=zhB (zih s before b) (4-k) k) (fun k=>4-k) (fun k=>[(8,.p (.int .i64 k))]) (fun k=>[.row 2 [.p b.pv]]) 0 ⟨by decide,rfl⟩ ?_ ?_
 ·simp only [go_sem,simprocAttr]<;>simp
 intro k ⟨hk,e2⟩
 rcases Nat.eq_or_lt_of_le hk with rfl | hlt
 ·rw [show 4-4=0 from rfl,zhB] at e2
  simp only [e2,go_sem,simprocAttr]
 have hd:decide ((k:Int)<4)=true:=by simp;omega
 have hw:IntKind.i64.wrap ((k:Int)+1)=((k+1:Nat):Int):=za9 (by omega) (by simp [zar];omega) (by omega)
 rw [show 4-k=(4-(k+1))+1 by omega,zhB] at e2
 simp only [hd,go_sem,simprocAttr]
 refine zaO (zGx s l before b k hs hb h0 (by omega)) ?_ (.bool _) ?_
 ·simp only [go_sem,simprocAttr]
 simp only [go_sem,simprocAttr]
 cases hc:zih s before b k
 ·rw [hc,if_neg (by decide)] at e2
  simp only [e2,go_sem,simprocAttr]
 ·rw [hc,if_pos rfl] at e2
  simp only [go_sem,simprocAttr]
  refine zb5 (k+1) ⟨by omega,e2⟩ (by omega) ?_
  simp only [hw,go_sem,simprocAttr]
end Cl
end Abs
end Go.Proofs.YtahlnclapingiaaGreatDoor
