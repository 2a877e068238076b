/-
  WHAT THE CHANDLER DOES, as plain Lean: what a line says, and what it does to the books. De
  THE LIBRARY'S CONTRACTS AT THIS PROGRAM, further ones: what they ask of its bodies and typ
  CONTRACTS: texts put together with a sign between them; a text that begins as another one.
-/
import Derived.Test.YtfafnkpfamgbbaaGreatDoorClGoX
import Derived.Test.YtfafnkpfamgbbaaGreatDoorWxMixX
import Derived.Test.YtfafnkpfamgbbaaGreatDoorHrUseX
import Derived.Test.YtfafnkpfamgbbaaGreatDoorHrReadX
import Derived.Test.YtfafnkpfamgbbaaGreatDoorWkRunX
import Derived.Test.YtfafnkpfamgbbaaGreatDoorBdFillX
import Derived.Test.YtfafnkpfamgbbaaGreatDoorAbsCutX
import Derived.Shelf.Strings.OnBuilder
import Derived.KernelRfl
import Derived.Test.YtfafnkpfamgbbaaGreatDoorProg
import Derived.Test.YtfafnkpfamgbbaaGreatDoorHrShelfX
set_option linter.unusedSimpArgs false
set_option linter.unusedVariables false
namespace Go.Proofs.YtfafnkpfamgbbaaGreatDoor
namespace Abs
namespace Ch
def zB:List UInt8:=[108,111,116]
def rp:List UInt8:=[98,97,116,99,104]
def vr:List UInt8:=[100,114,111,112]
def vp:List UInt8:=[112,108,97,110]
def vo:List UInt8:=[112,111,117,114]
def nb:List UInt8:=[112,114,111,109,105,115,101]
def zC:List UInt8:=[98,111,120]
def vq:List UInt8:=[108,111,111,107]
def vn:List UInt8:=[119,105,99,107]
def ro:List UInt8:=[98,108,101,110,100]
def rn:List UInt8:=[115,116,111,99,107]
def jX:List UInt8:=[116,101,115,116,10]
def kX:List UInt8:=[120]
def Ai:List UInt8:=[111,107]
def Qy:List UInt8:=[110,111]
def Hb:List UInt8:=[111,100,100]
def u6:List UInt8:=[98,114,111,107,101,110]
def Nh:List UInt8:=[110,111,110,101]
def BS:List UInt8:=[112,117,114,101]
def u5:List UInt8:=[105,109,112,117,114,101]
def sf:List UInt8:=[112,101,114,104,97,112,115]
def joinL:List (List UInt8)->List UInt8
 |[]=>[]
 |[x]=>x
 |x::y::r=>x++32::joinL (y::r)
inductive Cmd where
 |lot (name kind:List UInt8) (grams:Int) (rs:List Int)
 |batch (name colour lot:List UInt8) (grams:Int)
 |drop (name:List UInt8)
 |plan (c:List UInt8)
 |pour (c:List UInt8)
 |test (text:List UInt8)
 |promise (kind:List UInt8)
 |box (kind:List UInt8) (hours:Int)
 |look
 |wick (kind:List UInt8) (a b c d:Int)
 |blend (a b c:Int)
 |stock
def Cmd.written:Cmd->Bool
 |.lot _ _ _ _=>true
 |.batch _ _ _ _=>true
 |.drop _=>true
 |.pour _=>true
 |.test _=>true
 |.box _ _=>true
 |_=>false
def eM (l:List UInt8):Option Int:=match iK l with | some v=>if 0<=v/\v<=10000000/\bO v=l then some v else none | none=>none
def cF (l:List UInt8):Option (List UInt8):=if nameOk (bs l)=true then some l else none
def d9:List (List UInt8)->Option (List Int)
 |[]=>some []
 |w::r=>if w=kX then (d9 r).map (-1::·) else match eM w with | some n=>(d9 r).map (n::·) | none=>none
def fb (v:List UInt8) (ws:List (List UInt8)):Option Cmd :=
 if v=zB then (match ws with | n::k::g::r=>(match cF n,cF k,eM g,d9 r with | some n,some k,some g,some r=>some (.lot n k g r) | _,_,_,_=>none) | _=>none)
 else if v=rp then (match ws with | [n,c,l,g]=>(match cF n,cF c,cF l,eM g with | some n,some c,some l,some g=>some (.batch n c l g) | _,_,_,_=>none) | _=>none)
 else if v=vr then (match ws with | [n]=>(cF n).map .drop | _=>none)
 else if v=vp then (match ws with | [n]=>(cF n).map .plan | _=>none)
 else if v=vo then (match ws with | [n]=>(cF n).map .pour | _=>none)
 else if v=nb then (match ws with | [n]=>(cF n).map .promise | _=>none)
 else if v=zC then (match ws with | [n,g]=>(match cF n,eM g with | some n,some g=>some (.box n g) | _,_=>none) | _=>none)
 else if v=vq then (match ws with | []=>some .look | _=>none)
 else if v=vn then (match ws with | [n,a,b,c,d]=>(match cF n,eM a,eM b,eM c,eM d with | some n,some a,some b,some c,some d=>some (.wick n a b c d) | _,_,_,_,_=>none) | _=>none)
 else if v=ro then (match ws with | [a,b,c]=>(match eM a,eM b,eM c with | some a,some b,some c=>some (.blend a b c) | _,_,_=>none) | _=>none)
 else if v=rn then (match ws with | []=>some .stock | _=>none)
 else none
def iW (l:List UInt8):Except Int Cmd :=
 if 400<l.length then .error 3
 else if l.take 5=jX then .ok (.test (l.drop 5))
 else match aN 32 l with
  |[]=>.error 6
  |v::ws=>match fb v ws with | some c=>.ok c | none=>.error 6
def bl (s:ByteArray):List UInt8:=s.data.toList
def d7 (b:ChBooks):List ClBatch:=b.batches.map λx=>⟨x.colour,x.grams⟩
def lL (n:Int):List UInt8:=if n=1 then BS else if n=2 then sf else u5
def Lc (l:List ChBatch):Int:=(l.map (·.grams)).sum
def gF (s:ChShop) (a b c:Int):BdWish:=⟨List.replicate s.blend.length ⟨0,20⟩,⟨a,b⟩,⟨0,c⟩⟩
def kP (s:ChShop) (b:ChBooks) (c:List UInt8):Except Int (List Nat×Int) :=
 let k:=au (λx:ClColour=>x.name==bs c) s.colour.colours 0
 if k<0 then .error 4
 else if Cl.dg s.colour k (d7 b)≠0 then .error (Cl.dg s.colour k (d7 b))
 else match Cl.yW s.colour k (d7 b) with | none=>.error 9 | some q=>.ok q
def fh (s:ChShop) (b:ChBooks) (kind:List UInt8):Except Int (Int×Int) :=
 let k:=au (λx:HrKind=>x.name==bs kind) s.hour.kinds 0
 if k<0 then .error 4
 else if (dH s.hour b.tests k).2≠0 then .error (dH s.hour b.tests k).2
 else .ok (k,(dH s.hour b.tests k).1)
def pQ (l:List ChBatch) (i:Nat):List UInt8:=match l[i]? with | some x=>bl x.name | none=>[]
def aU (s:ChShop) (b:ChBooks):Cmd->Except Int (ChBooks×List UInt8)
 |.lot name kind grams rs =>
  let k:=au (λx:WxKind=>x.name==bs kind) s.wax.kinds 0
  if b.lots.any (λx=>x.name==bs name)=true then .error 5
  else if k<0 then .error 4
  else if ¬ (1<=grams/\grams<=100000) then .error 7
  else if (Wx.bm s.wax rs k).2.2≠0 then .error (Wx.bm s.wax rs k).2.2
  else if ¬ b.lots.length<8 then .error 3
  else .ok ({ b with lots:=b.lots++[⟨bs name,k,grams,rs⟩] },joinL [lL (Wx.bm s.wax rs k).2.1,bO (Wx.bm s.wax rs k).1.lo,bO (Wx.bm s.wax rs k).1.hi])
 |.batch name colour lot grams =>
  let c:=au (λx:ClColour=>x.name==bs colour) s.colour.colours 0
  let i:=au (λx:ChLot=>x.name==bs lot) b.lots 0
  if b.batches.any (λx=>x.name==bs name)=true then .error 5
  else if c<0 then .error 4
  else if i<0 then .error 4
  else if ¬ (1<=grams/\grams<=100000) then .error 7
  else match b.lots[i.toNat]? with
   |none=>.error 4
   |some x =>
    if ¬ grams<=x.grams then .error 9
    else if ¬ b.batches.length<7 then .error 3
    else .ok ({ b with lots:=b.lots.set i.toNat { x with grams:=x.grams-grams },batches:=b.batches++[⟨bs name,c,i,grams⟩] },Ai)
 |.drop name =>
  let i:=au (λx:ChBatch=>x.name==bs name) b.batches 0
  if i<0 then .error 4
  else match b.batches[i.toNat]? with
   |none=>.error 4
   |some y=>match b.lots[y.lot.toNat]? with
    |none=>.error 4
    |some x=>.ok ({ b with lots:=b.lots.set y.lot.toNat { x with grams:=x.grams+y.grams },batches:=b.batches.eraseIdx i.toNat },Ai)
 |.plan c=>match kP s b c with
  |.error e=>.error e
  |.ok (o,n)=>.ok (b,joinL (o.map (pQ b.batches)++[bO n]))
 |.pour c=>match kP s b c with
  |.error e=>.error e
  |.ok (_,n)=>.ok ({ b with poured:=b.poured+Lc b.batches,batches:=[],lost:=b.lost+n },bO n)
 |.test text =>
  if (aM s.hour text).2≠0 then .error (aM s.hour text).2
  else if ¬ b.tests.length<8 then .error 3
  else .ok ({ b with tests:=b.tests++[(aM s.hour text).1] },
   if (dh s.hour (aM s.hour text).1).2=0 then joinL [bO (dh s.hour (aM s.hour text).1).1.lo,bO (dh s.hour (aM s.hour text).1).1.hi]
   else joinL (Hb::(jF s.hour (aM s.hour text).1).1.map bO))
 |.promise kind=>match fh s b kind with
  |.error e=>.error e
  |.ok (_,n)=>.ok (b,bO n)
 |.box kind hours=>match fh s b kind with
  |.error e=>.error e
  |.ok (k,n)=>if ¬ hours<=n then .error 9 else if ¬ b.boxes.length<20 then .error 3 else .ok ({ b with boxes:=b.boxes++[⟨k,hours⟩] },Ai)
 |.look=>.ok (b,if (cb s.hour b.tests b.boxes).1=[] then Ai else joinL (u6::(cb s.hour b.tests b.boxes).1.map bO))
 |.wick kind a b' c d =>
  let i:=au (λx:Wax=>x.name==bs kind) s.wick.waxes 0
  if i<0 then .error 4
  else match s.wick.waxes[i.toNat]? with
   |none=>.error 4
   |some x =>
    if (Wk.dE s.wick ⟨i,a,b',⟨c,d⟩⟩ x).2≠0 then .error (Wk.dE s.wick ⟨i,a,b',⟨c,d⟩⟩ x).2
    else match s.wick.wicks[(Wk.dE s.wick ⟨i,a,b',⟨c,d⟩⟩ x).1.toNat]? with
     |none=>.error 4
     |some w=>.ok (b,bl w.name)
 |.blend a b' c =>
  if (bN s.blend (gF s a b' c)).2.2≠0 then .error (bN s.blend (gF s a b' c)).2.2
  else .ok (b,joinL ((bN s.blend (gF s a b' c)).1.map bO++[bO (bN s.blend (gF s a b' c)).2.1]))
 |.stock=>.ok (b,if b.lots=[] then Nh else joinL (b.lots.flatMap λx=>[bl x.name,bO x.grams]))
def iA (s:ChShop) (b:ChBooks) (l:List UInt8):Except Int (ChBooks×List UInt8×Bool) :=
 match iW l with
 |.error e=>.error e
 |.ok c=>match aU s b c with | .error e=>.error e | .ok (b',a)=>.ok (b',a,c.written)
end Ch
end Abs
open Go.Shelf
def Tryz.lays156_ren:Go.Shelf.Ren:=⟨λ| 156=>63 | 165=>86 | 166=>24 | 169=>25 | 240=>42 | 241=>135 | 276=>64 | 277=>203 | n=>n,λ| 0=>0 | 3=>3 | 4=>4 | 5=>5 | 9=>9 | 20=>20 | 31=>42 | 37=>82 | 70=>81 | 72=>84 | 75=>89 | 76=>90 | 80=>92 | 127=>121 | 164=>147 | n=>n,λ| n=>n⟩
theorem Tryz.lays156:Go.Proofs.Lays.n156 Tryz.prog Tryz.lays156_ren:={
 mixed:=by kernel_rfl
 f156:=Tryz.func63.trans (congrArg some (by kernel_rfl))
 f165:=Tryz.func86.trans (congrArg some (by kernel_rfl))
 f166:=Tryz.func24.trans (congrArg some (by kernel_rfl))
 f169:=Tryz.func25.trans (congrArg some (by kernel_rfl))
 f240:=Tryz.func42.trans (congrArg some (by kernel_rfl))
 f241:=Tryz.func135.trans (congrArg some (by kernel_rfl))
 f276:=Tryz.func64.trans (congrArg some (by kernel_rfl))
 f277:=Tryz.func203.trans (congrArg some (by kernel_rfl))
 t0:=Tryz.underlying0
 a0:=Tryz.isAgg0
 z0:=Tryz.sizeOf0
 v0:=Tryz.zeroValue0
 t3:=Tryz.underlying3
 a3:=Tryz.isAgg3
 z3:=Tryz.sizeOf3
 v3:=Tryz.zeroValue3
 t4:=Tryz.underlying4
 a4:=Tryz.isAgg4
 z4:=Tryz.sizeOf4
 v4:=Tryz.zeroValue4
 t9:=Tryz.underlying9
 a9:=Tryz.isAgg9
 z9:=Tryz.sizeOf9
 v9:=Tryz.zeroValue9
 t20:=Tryz.underlying20
 a20:=Tryz.isAgg20
 z20:=Tryz.sizeOf20
 v20:=Tryz.zeroValue20
 t31:=Tryz.underlying42
 a31:=Tryz.isAgg42
 z31:=Tryz.sizeOf42
 v31:=Tryz.zeroValue42
 t37:=Tryz.underlying82
 a37:=Tryz.isAgg82
 z37:=Tryz.sizeOf82
 v37:=Tryz.zeroValue82
 t70:=Tryz.underlying81
 a70:=Tryz.isAgg81
 z70:=Tryz.sizeOf81
 v70:=Tryz.zeroValue81
 t72:=Tryz.underlying84
 a72:=Tryz.isAgg84
 z72:=Tryz.sizeOf84
 v72:=Tryz.zeroValue84
 t75:=Tryz.underlying89
 a75:=Tryz.isAgg89
 z75:=Tryz.sizeOf89
 v75:=Tryz.zeroValue89
 t76:=Tryz.underlying90
 a76:=Tryz.isAgg90
 z76:=Tryz.sizeOf90
 v76:=Tryz.zeroValue90
 t127:=Tryz.underlying121
 a127:=Tryz.isAgg121
 z127:=Tryz.sizeOf121
 v127:=Tryz.zeroValue121
 t164:=Tryz.underlying147
 a164:=Tryz.isAgg147
 z164:=Tryz.sizeOf147
 v164:=Tryz.zeroValue147 }
theorem Tryz.lays156X:Go.Proofs.Builder.Extra Tryz.prog Tryz.lays156_ren:={
 sizeBuilder:=by kernel_rfl
 liesBuilder:=by kernel_rfl
 t5:=by kernel_rfl
 a5:=Tryz.isAgg5
 z5:=Tryz.sizeOf5
 v5:=Tryz.zeroValue5
 infoByte:=by kernel_rfl
 cellsByte:=by kernel_rfl
 sizeByte:=by kernel_rfl
 neB5:=Nat.ne_of_beq_eq_false (by kernel_rfl) }
namespace Abs
open Go.RowKit Go.Sort
set_option maxRecDepth 100000
theorem Pb {w:World} {b k} {v} (h:w.cell? ⟨b,k,none⟩=some v):b<w.heap.size:=by
 unfold World.cell? at h;rcases cJ b w.heap.size with h' | h'
 .exact h'
 .simp [oM h'] at h
theorem WH (l) (sep) (fl) (hl:l.length<=1000000) (hb:(Lib.join l sep).length<=1000000000) :
  ah Tryz.prog 63 [.slice 1 (l.map λx=>.str (bs x)) fl,.str (bs sep)] (.str (bs (Lib.join l sep))):=by
 intro M0 w cargs hM hg ha;obtain ⟨u,v,rfl,hu,hv⟩:=xQ ha;cases hv;refine ⟨(λw'=>iz Tryz.func63 YL _ w'),?_⟩;have hdat:(l.map bs).map (λx:ByteArray=>x.data.toList)=l:=by rw [tD];simp [lK,fp]
 have fin:∀ (e:Ending) (w':World),e=.returned (.string ⟨(Lib.join ((l.map bs).map (·.data.toList)) (bs sep).data.toList).toArray⟩)/\Below w.heap.size w w'->∃ v',e=Ending.returned v'/\RepP M0 w' v' (.str (bs (Lib.join l sep)))/\Fr [] w w':=by
  rintro e w' ⟨rfl,h⟩
  refine ⟨_,rfl,?_,la h⟩;rw [hdat,fp];exact .str _
 generalize hxs:l.map (λx=>PV.str (bs x))=xs at hu
 cases hu with
 |slice f hlen hcap hfull hsz hM' hc hr =>
  rename_i b off len cap;subst hlen;have hlen2:xs.length=(l.map bs).length:=by rw [<-hxs];simp
  cases hl0:l with
  |nil =>
   subst hl0;simp only [cO] at hxs;subst hxs
   exact (Any.strings_Join_none Tryz.lays156 Tryz.lays156X (some ⟨b,off,none⟩) cap (bs sep) w).mono λe w' h=>fin e w' ⟨h.1,h.2▸Below.refl _ _⟩
  |cons x0 l0 =>
   rw [<-hl0];have hcells:∀ (j:Nat) x,(l.map bs)[j]?=some x->w.cell? ⟨b,off+j,none⟩=some (.string x):=by
    intro j x hj;have hjx:xs[j]?=some (.str x):=by
     rw [<-hxs,cg];rw [cg] at hj
     cases hq:l[j]? with
     |none=>rw [hq] at hj;cases hj
     |some q=>rw [hq] at hj;cases hj;rfl
    have hjl:=(ar.1 hjx).1;have h1:=hr j 0 _ _ hjx rfl;have h2:=hc j (by omega);rw [h2];have h3:f (j*1+0)=f j:=by simp
    rw [h3] at h1;cases hf:f j<;>rw [hf] at h1<;>cases h1;rfl
   have hbk:b<w.heap.size:=Pb (hcells 0 (bs x0) (by rw [hl0];rfl));have:=Any.strings_Join Tryz.lays156 Tryz.lays156X b off cap (l.map bs) (bs sep) w hcells hbk (by simp;omega) (by rw [<-hlen2];exact hcap) (by rw [hdat,fp];omega);rw [<-hlen2] at this
   exact this.mono fin
 |empty hfull =>
  rename_i a cap;have hl0:l=[]:=by cases l with | nil=>rfl | cons x r=>simp at hxs
  subst hl0;exact (Any.strings_Join_none Tryz.lays156 Tryz.lays156X a cap (bs sep) w).mono λe w' h=>fin e w' ⟨h.1,h.2▸Below.refl _ _⟩
end Abs
end Go.Proofs.YtfafnkpfamgbbaaGreatDoor
