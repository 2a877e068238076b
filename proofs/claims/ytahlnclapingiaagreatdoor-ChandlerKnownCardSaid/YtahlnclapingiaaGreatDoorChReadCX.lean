/-
  CONTRACTS: chandler: Read. No conditions but those in the theorems' heads.
  LAWS: rows of one's own under other numbers. No conditions but those in the theorems' head
  CONTRACTS: chandler: Replay. No conditions but those in the theorems' heads.
  CONTRACTS: the laws HourChecks, HourTexts, HourKnown, HourRound, HourBoxes.
  WHAT STAYS TRUE OF THE BOOKS: readings and marks are not too many; plain Lean. No conditio
-/
import Derived.Test.YtahlnclapingiaaGreatDoorChApiX
import Derived.Test.YtahlnclapingiaaGreatDoorAbsFrame
import Derived.Test.YtahlnclapingiaaGreatDoorHrLaw0X
import Derived.Test.YtahlnclapingiaaGreatDoorChDoneX
set_option linter.unusedSimpArgs false
set_option linter.unusedVariables false
namespace Go.Proofs.YtahlnclapingiaaGreatDoor
namespace Abs
namespace Ch
set_option maxRecDepth 4000
def ziY (i:Nat) (row:List UInt8):Option (List UInt8) :=
 match (zav 32 row).2 with
 |none=>none
 |some line=>if (zav 32 row).1=dec (i:Int)∧line≠[]∧line.length≤400 then some (repL 47 10 line) else none
def ziG:Nat→List (List UInt8)→Option (List (List UInt8))
 |_,[]=>none
 |_,[last]=>if last=[] then some [] else none
 |i,row::r::rs=>match ziY i row with | none=>none | some x=>(ziG (i+1) (r::rs)).map (x::·)
def zbA (text:List UInt8):List (List UInt8)×Int :=
 match ziG 1 (zaC 10 text) with
 |none=>([],6)
 |some l=>if 40<l.length then ([],3) else (l,0)
def zbK (text:List UInt8):PV:=.tuple [if (zbA text).2=0 then zbt (zbA text).1 else .nilslice,.int .i64 (zbA text).2]
theorem zw8 (i:Nat):ziG i (zaC 10 [])=some []:=rfl
theorem zu6 {i:Nat} {t:List UInt8} (h:(zav 10 t).2=none) (h0:t≠[]):ziG i (zaC 10 t)=none:=by
 rw [zgI h]
 exact if_neg h0
theorem zuY (c:UInt8) (t:List UInt8):∃ a r,zaC c t=a::r:=⟨_,_,zgp c t⟩
theorem zu5 {i:Nat} {t r:List UInt8} (h:(zav 10 t).2=some r):ziG i (zaC 10 t)=(match ziY i (zav 10 t).1 with | none=>none | some x=>(ziG (i+1) (zaC 10 r)).map (x::·)):=by
 rw [zgH h]
 obtain ⟨a,rs,hr⟩:=zuY 10 r
 rw [hr]
 rfl
set_option maxHeartbeats 4000000 in
theorem zxN (text:List UInt8) (hl:text.length≤2000000):zae Tryz.prog 7 [.str (bs text)] (zbK text):=by
 refine zei zad (fn:=Tryz.f7) (n:=58) (rs:=[.tmp 2,.tmp 3]) (by kernel_rfl) rfl rfl rfl ok7 (Nat.le_of_ble_eq_true rfl) ?_
 simp only [go_sem,simprocAttr]
 refine zcQ 2 1 (by simp only [go_sem,simprocAttr]) ?_
 simp only [go_sem,simprocAttr]
 refine zcZ [] (σ:=List (List UInt8)×List UInt8) (fun q=>ziG 1 (zaC 10 text)=(ziG (q.1.length+1) (zaC 10 q.2)).map (q.1++·)∧q.2.length+q.1.length≤text.length) (fun q=>q.2.length)
  (fun q=>[(0,.p (.str (bs q.2))),(2,.slice 0 q.1.length 0 q.1.length),(4,.p (.int .i64 ((q.1.length+1:Nat):Int)))]) (fun q=>[.row 1 (q.1.map fun x=>.p (.str (bs x)))]) ([],text) ⟨by simp,by simp⟩ rfl ?_ ?_
 ·simp only [List.length_nil,go_sem,simprocAttr]
 rintro ⟨done,t⟩ ⟨e1,e2⟩
 dsimp only at e1 e2
 have c0:(⟨#[]⟩:ByteArray)=bs []:=rfl
 have c1:(⟨#[10]⟩:ByteArray)=bs [10]:=rfl
 have c2:(⟨#[32]⟩:ByteArray)=bs [32]:=rfl
 have c3:(⟨#[47]⟩:ByteArray)=bs [47]:=rfl
 by_cases ht:t=[]
 ·subst ht
  have h0:(bs []==bs [])=true:=by rw [zbZ];rfl
  rw [zw8,Option.map_some,List.append_nil] at e1
  simp only [c0,h0,go_sem,simprocAttr]
  have ht:List.take done.length (done.map fun x=>PV.str (bs x))=done.map fun x=>PV.str (bs x):=List.take_of_length_le (by simp)
  have hfz:∀ n h,zaD (zbe n h) (done.map fun x=>AV.p (PV.str (bs x)))=some (done.map fun x=>.str (bs x)):=fun n h=>zbV (zcp n h) (fun x=>PV.str (bs x)) done
  by_cases h40:40<done.length
  ·have hd:decide ((40:Int)<(done.length:Int))=true:=decide_eq_true (by omega)
   have hres:zbK text=.tuple [.nilslice,.int .i64 3]:=by rw [zbK,zbA,e1];simp only [if_pos h40];rfl
   simp only [hd,hres,go_sem,simprocAttr]
  ·have hd:decide ((40:Int)<(done.length:Int))=false:=decide_eq_false (by omega)
   have hres:zbK text=.tuple [zbt done,.int .i64 0]:=by rw [zbK,zbA,e1];simp only [if_neg h40];rfl
   simp only [hd,hfz,ht,hres,zbt,go_sem,simprocAttr]
 ·have h0:(bs t==bs [])=false:=by rw [zbZ];simpa using ht
  simp only [c0,h0,c1,go_sem,simprocAttr]
  refine zab (zk8 t 10 (by omega)) rfl ?_
  simp only [c2,go_sem,simprocAttr]
  have hr1:=zi4 10 t
  refine zab (zk8 (zav 10 t).1 32 (by omega)) rfl ?_
  cases hc:(zav 10 t).2 with
  |none =>
   rw [zu6 hc ht] at e1
   simp only [Option.isSome_none,go_sem,simprocAttr]
   exact .inl (by rw [zbK,zbA,e1];rfl)
  |some r =>
   rw [zu5 hc] at e1
   have hrl:=zl5 10 t r hc
   cases hc2:(zav 32 (zav 10 t).1).2 with
   |none =>
    simp only [Option.isSome_some,Option.isSome_none,go_sem,simprocAttr]
    have hrw:ziY (done.length+1) (zav 10 t).1=none:=by rw [ziY,hc2]
    rw [hrw] at e1
    exact .inl (by rw [zbK,zbA,e1];rfl)
   |some line =>
    simp only [Option.isSome_some,go_sem,simprocAttr]
    refine zab (znP ((done.length+1:Nat):Int) (by omega) (by omega)) rfl ?_
    rw [zha (by omega)]
    have hll:=zl5 32 (zav 10 t).1 line hc2
    by_cases q1:(zav 32 (zav 10 t).1).1=dec ((done.length+1:Nat):Int)
    rotate_left
    ·have b1:(bs (zav 32 (zav 10 t).1).1==bs (dec ((done.length+1:Nat):Int)))=false:=by rw [zbZ];simpa using q1
     have hrw:ziY (done.length+1) (zav 10 t).1=none:=by rw [ziY,hc2];exact if_neg fun h=>q1 h.1
     rw [hrw] at e1
     simp only [b1,go_sem,simprocAttr]
     exact .inl (by rw [zbK,zbA,e1];rfl)
    have b1:(bs (zav 32 (zav 10 t).1).1==bs (dec ((done.length+1:Nat):Int)))=true:=by rw [zbZ];simpa using q1
    by_cases q2:line=[]
    ·have b2:(bs line==bs [])=true:=by rw [zbZ];simpa using q2
     have hrw:ziY (done.length+1) (zav 10 t).1=none:=by rw [ziY,hc2];exact if_neg fun h=>h.2.1 q2
     rw [hrw] at e1
     simp only [b1,c0,b2,go_sem,simprocAttr]
     exact .inl (by rw [zbK,zbA,e1];rfl)
    have b2:(bs line==bs [])=false:=by rw [zbZ];simpa using q2
    by_cases q3:line.length≤400
    rotate_left
    ·have b3:decide ((400:Int)<(line.length:Int))=true:=decide_eq_true (by omega)
     have hrw:ziY (done.length+1) (zav 10 t).1=none:=by rw [ziY,hc2];exact if_neg fun h=>q3 h.2.2
     rw [hrw] at e1
     simp only [b1,c0,b2,zao,b3,go_sem,simprocAttr]
     exact .inl (by rw [zbK,zbA,e1];rfl)
    have b3:decide ((400:Int)<(line.length:Int))=false:=decide_eq_false (by omega)
    have hrw:ziY (done.length+1) (zav 10 t).1=some (repL 47 10 line):=by rw [ziY,hc2];exact if_pos ⟨q1,q2,q3⟩
    rw [hrw] at e1
    simp only [b1,c0,b2,zao,b3,c1,c3,go_sem,simprocAttr]
    refine zab (zoh line 47 10 (by decide) (by omega)) rfl ?_
    have hrm:done.length+1≤zar:=by simp [zar];omega
    have hnx:IntKind.i64.wrap (((done.length+1:Nat):Int)+1)=(((done++[repL 47 10 line]).length+1:Nat):Int):=za9 (by omega) (by simp [zar];omega) (by simp)
    simp only [hrm,List.length_map,go_sem,simprocAttr]
    refine zaS (done++[repL 47 10 line],r) ⟨?_,?_⟩ hrl ?_ ?_
    ·rw [e1]
     simp [Function.comp_def]
    ·show r.length+(done++[repL 47 10 line]).length≤text.length
     rw [List.length_append,List.length_singleton]
     omega
    ·simp
    simp only [hnx,go_sem,simprocAttr]
    rw [List.length_append,List.length_singleton]
end Ch
end Abs
end Go.Proofs.YtahlnclapingiaaGreatDoor
namespace Go.Proofs.YtahlnclapingiaaGreatDoor
namespace Abs
variable {P:Program} {M0:Nat→Prop} {H:Hints} {Q:Cont}
def mv0 (π:Nat→Nat):AV→AV
 |.ptr id v i o=>.ptr (π id) v i o
 |.slice id v off len=>.slice (π id) v off len
 |a=>a
def mvX (π:Nat→Nat):AV→AV
 |.agg cs=>.agg (cs.map (mv0 π))
 |a=>mv0 π a
def mvO (π:Nat→Nat):AObj→AObj
 |.row sz xs=>.row sz (xs.map (mvX π))
 |_=>.dead
def zlv:AV→Bool
 |.p _=>true
 |.ptr _ _ _ _=>true
 |.slice _ _ _ _=>true
 |_=>false
def zpb:AV→Bool
 |.agg cs=>cs.all zlv
 |a=>zlv a
def zCp:AObj→Bool
 |.row _ xs=>xs.all zpb
 |.dead=>true
 |_=>false
theorem zy6 {π:Nat→Nat} {x:AV} {cs:List AV} (hs:zpb x=true) (hx:x.cells=some cs):(mvX π x).cells=some (cs.map (mv0 π))∧∀ c,c∈cs→zlv c=true:=by
 cases x with
 |p q =>
  cases q<;>simp [AV.cells] at hx<;>subst hx<;>refine ⟨by simp [mvX,mv0,AV.cells,Function.comp_def],fun c hc=>?_⟩<;>simp at hc<;>first | (subst hc;rfl) | (obtain ⟨_,_,rfl⟩:=hc;rfl)
 |agg l=>cases hx;exact ⟨rfl,fun c hc=>List.all_eq_true.1 hs c hc⟩
 |ptr a b c d=>cases hx;exact ⟨rfl,fun c hc=>by simp at hc;subst hc;rfl⟩
 |slice a b c d=>cases hx;exact ⟨rfl,fun c hc=>by simp at hc;subst hc;rfl⟩
 |ref a b=>cases hs
 |func a b c=>cases hs
 |tuple l=>cases hs
 |undef=>cases hs
theorem ztm {π:Nat→Nat} {c:AV} (hs:zlv c=true):(mv0 π c).isCell=c.isCell:=by
 cases c<;>first | rfl | cases hs
theorem zyp {A:AAct} {T:Nat→AV} {h':Heap} (π σ:Nat→Nat) (hπ:∀ i,i<A.h.length→π i<A.h.length∧σ (π i)=i) (hσ:∀ i,i<A.h.length→σ i<A.h.length∧π (σ i)=i) (hb:A.bs=0) (hd:A.df=[])
  (hs:∀ o,o∈A.h→zCp o=true) (hh:h'=(List.range A.h.length).map fun j=>mvO π (A.h.getD (σ j) .dead)) (hT:∀ t,(T t=mvX π (A.tmps t)∧zpb (A.tmps t)=true)∨T t=.undef) :
  zdL P A { A with tmps:=T,h:=h' } :=
 ⟨rfl,rfl,fun M0 S0 b cs0 m a w hr=>by
  have hml:m.length=A.h.length:=hr.hok.len
  have hhl:h'.length=A.h.length:=by rw [hh];simp
  obtain ⟨m',hm'⟩:∃ m',m'=(List.range A.h.length).map fun j=>m.getD (σ j) none:=⟨_,rfl⟩
  have hmat:∀ j,j<A.h.length→m'[j]?=some (m.getD (σ j) none):=fun j hj=>by rw [hm',List.getElem?_map,List.getElem?_range hj];rfl
  have hhat:∀ j,j<A.h.length→h'[j]?=some (mvO π (A.h.getD (σ j) .dead)):=fun j hj=>by rw [hh,List.getElem?_map,List.getElem?_range hj];rfl
  have hml':m'.length=A.h.length:=by rw [hm'];simp
  have hown:∀ b,Own m' b→Own m b:=fun b hb=>by
   obtain ⟨j,hj⟩:=List.getElem?_of_mem hb
   have hjl:j<A.h.length:=by have:=(List.getElem?_eq_some_iff.1 hj).1;omega
   rw [hmat j hjl] at hj
   exact List.mem_of_getElem? (zbm (Option.some.inj hj))
  have hown2:∀ b,Own m b→Own m' b:=fun b hb=>by
   obtain ⟨i,hi⟩:=List.getElem?_of_mem hb
   have hil:i<A.h.length:=by have:=(List.getElem?_eq_some_iff.1 hi).1;omega
   have h1:=hmat (π i) (hπ i hil).1
   rw [(hπ i hil).2,List.getD_eq_getElem?_getD,hi] at h1
   exact List.mem_of_getElem? h1
  have mget:∀ i,i<A.h.length→m'.getD (π i) none=m.getD i none:=fun i hi=>by
   rw [List.getD_eq_getElem?_getD,hmat _ (hπ i hi).1,(hπ i hi).2];rfl
  have hget:∀ i o,A.h[i]?=some o→h'[π i]?=some (mvO π o):=fun i o ho=>by
   have hi:=(List.getElem?_eq_some_iff.1 ho).1
   rw [hhat _ (hπ i hi).1,(hπ i hi).2,List.getD_eq_getElem?_getD,ho];rfl
  have live:∀ {id ver:Nat} {X:Nat→Option Nat→Prop},zbR ⟨m,A.h,w⟩ id ver X→zbR ⟨m',h',w⟩ (π id) ver X:=by
   intro id ver X h
   rcases h with h | ⟨sz,xs,h,h1,h2⟩
   ·exact .inl (hget _ _ h)
   ·have hid:=(List.getElem?_eq_some_iff.1 h).1
    refine .inr ⟨sz,xs.map (mvX π),hget _ _ h,by simpa using h1,fun he=>?_⟩
    show X sz (m'.getD (π id) none)
    rw [mget id hid]
    exact h2 (by simpa using he)
  have rep0:∀ {v:Value} {a:AV},zlv a=true→zbr M0 ⟨m,A.h,w⟩ v a→zbr M0 ⟨m',h',w⟩ v (mv0 π a):=by
   intro v a ha h
   cases a with
   |p q=>exact RepP.less (show RepP (Avoid M0 m) w v q from h) fun b hb=>hb.imp id (hown b)
   |ptr id ver i o=>exact ⟨h.1,live h.2⟩
   |slice id ver off len=>exact ⟨h.1,live (X:=sliceAt w v ver off len) h.2⟩
   |ref q id=>cases ha
   |undef=>cases ha
   |agg cs=>cases ha
   |func fn f c=>cases ha
   |tuple vs=>cases ha
  have repS:∀ {v:Value} {a:AV},zlv a=true→zaV M0 ⟨m,A.h,w⟩ v a→zaV M0 ⟨m',h',w⟩ v (mv0 π a):=by
   intro v a ha h
   cases a with
   |p q=>exact rep0 ha h
   |ptr id ver i o=>exact rep0 ha h
   |slice id ver off len=>exact rep0 ha h
   |ref q id=>cases ha
   |undef=>cases ha
   |agg cs=>cases ha
   |func fn f c=>cases ha
   |tuple vs=>cases ha
  have rep:∀ {v:Value} {a:AV},zpb a=true→Rep M0 ⟨m,A.h,w⟩ v a→Rep M0 ⟨m',h',w⟩ v (mvX π a):=by
   intro v a ha h
   cases a with
   |p q=>exact repS (a:=.p q) rfl h
   |ptr id ver i o=>exact repS (a:=.ptr id ver i o) rfl h
   |slice id ver off len=>exact repS (a:=.slice id ver off len) rfl h
   |agg cs =>
    obtain ⟨C,h1,h2,h3,h4⟩:=h
    have hall:∀ c,c∈cs→zlv c=true:=List.all_eq_true.1 ha
    refine ⟨C,h1,fun c hc=>?_,by rw [h3];simp,fun i c hi=>?_⟩
    ·obtain ⟨c0,hc0,rfl⟩:=List.mem_map.1 hc
     rw [ztm (hall c0 hc0)]
     exact h2 c0 hc0
    ·rw [List.getElem?_map] at hi
     cases hq:cs[i]? with
     |none=>rw [hq] at hi;cases hi
     |some c0 =>
      rw [hq] at hi
      cases hi
      exact repS (hall c0 (List.mem_of_getElem? hq)) (h4 i c0 hq)
   |ref q id=>cases ha
   |undef=>cases ha
   |func fn f c=>cases ha
   |tuple vs=>cases ha
  refine ⟨m',?_⟩
  refine ⟨hr.size,fun t=>?_,?_,?_,?_,?_,?_⟩
  ·show Rep M0 ⟨m',h',w⟩ (a.tmps.getD t undef) (T t)
   rcases hT t with ⟨h1,h2⟩ | h1
   ·rw [h1];exact rep h2 (hr.tmps t)
   ·rw [h1];exact trivial
  ·exact
   {len:=by show m'.length=h'.length;omega
    lt:=fun b hb=>hr.hok.lt b (hown b hb)
    m0:=fun b hb=>⟨(hr.hok.m0 b hb).1,fun h=>(hr.hok.m0 b hb).2 (hown b h)⟩
    inj:=fun i j b hi hj=>by
     have hi':m'[i]?=some (some b):=hi
     have hj':m'[j]?=some (some b):=hj
     have hil:i<A.h.length:=by have:=(List.getElem?_eq_some_iff.1 hi').1;omega
     have hjl:j<A.h.length:=by have:=(List.getElem?_eq_some_iff.1 hj').1;omega
     rw [hmat i hil] at hi'
     rw [hmat j hjl] at hj'
     have:=hr.hok.inj (σ i) (σ j) b (zbm (Option.some.inj hi')) (zbm (Option.some.inj hj'))
     rw [←(hσ i hil).2,←(hσ j hjl).2,this]
    obj:=fun id o ho=>by
     have ho':h'[id]?=some o:=ho
     have hid:id<A.h.length:=by have:=(List.getElem?_eq_some_iff.1 ho').1;omega
     rw [hhat id hid] at ho'
     cases ho'
     show ObjOk P M0 ⟨m',h',w⟩ (m'.getD id none) _
     rw [List.getD_eq_getElem?_getD,hmat id hid,Option.getD_some]
     obtain ⟨o,ho⟩:∃ o,A.h[σ id]?=some o:=⟨_,List.getElem?_eq_getElem (hσ id hid).1⟩
     rw [show A.h.getD (σ id) .dead=o by rw [List.getD_eq_getElem?_getD,ho];rfl]
     have hso:=hs o (List.mem_of_getElem? ho)
     have hob:ObjOk P M0 ⟨m,A.h,w⟩ (m.getD (σ id) none) o:=hr.hok.obj _ _ ho
     cases o with
     |row sz xs =>
      rcases hob with ⟨h1,h2⟩ | ⟨b,T',C,h1,h2,h3,h4⟩
      ·exact .inl ⟨h1,by rw [h2];rfl⟩
      ·refine .inr ⟨b,T',C,h1,h2,by simpa using h3,fun i x hx=>?_⟩
       rw [List.getElem?_map] at hx
       cases hq:xs[i]? with
       |none=>rw [hq] at hx;cases hx
       |some x0 =>
        rw [hq] at hx
        cases hx
        obtain ⟨cs,h5,h6,h7⟩:=h4 i x0 hq
        obtain ⟨k1,k2⟩:=zy6 (π:=π) (List.all_eq_true.1 hso x0 (List.mem_of_getElem? hq)) h5
        refine ⟨cs.map (mv0 π),k1,by simpa using h6,fun j c hc=>?_⟩
        rw [List.getElem?_map] at hc
        cases hq2:cs[j]? with
        |none=>rw [hq2] at hc;cases hc
        |some c0 =>
         rw [hq2] at hc
         cases hc
         have hsc:=k2 c0 (List.mem_of_getElem? hq2)
         exact ⟨by rw [ztm hsc];exact (h7 j c0 hq2).1,repS hsc (h7 j c0 hq2).2⟩
     |dead=>exact trivial
     |strIter s p=>cases hso
     |mp es=>cases hso
     |memo f=>cases hso
     |loop n tmps ps assign body st pend=>cases hso
     |dblock=>cases hso
     |bld T' el x=>cases hso
    gl:=hr.hok.gl.fr (fun _ _ _=>rfl) fun b hb=>.inl (hown b hb) }
  ·exact
   {fr:=hr.ev.fr
    sub:=fun x hx=>hr.ev.sub x (hown x hx)
    obj:=fun id o hid _=>by
     have hid':id<A.bs:=hid
     omega }
  ·exact ⟨by show A.bs≤h'.length;omega,hr.le.2⟩
  ·have:=hr.df
   rw [hd] at this
   show DefsRep P M0 _ a.defers A.df
   rw [hd]
   cases hds:a.defers with
   |nil=>exact trivial
   |cons d ds=>rw [hds] at this;exact this.elim
  ·have:=hr.rc
   show RcRep M0 _ b cs0 A.rc
   cases hc:A.rc<;>rw [hc] at this<;>first | exact this | skip
   obtain ⟨h1,h2,v',cs1,h3,h4⟩:=this
   exact ⟨h1,h2,v',cs1,h3,RepP.less h4 fun b hb=>hb.imp id (hown b)⟩⟩
theorem zrx {T:Nat→AV}:∀ (live:List Nat) (t:Nat),(zbU (zbi T live []) t=T t∧t∈live)∨zbU (zbi T live []) t=.undef
 |[],_=>.inr rfl
 |k::r,t=>by
  rw [zpz,zlR]
  by_cases h:t=k
  ·rw [if_pos h]
   subst h
   exact .inl ⟨rfl,List.mem_cons_self⟩
  ·rw [if_neg h]
   rcases zrx r t with ⟨h1,h2⟩ | h1
   ·exact .inl ⟨h1,List.mem_cons_of_mem _ h2⟩
   ·exact .inr h1
theorem zvO {x:Code} {A:AAct} (live:List Nat) (h':Heap) (l:List Nat) (r:List Nat) (n:Nat) (hn:A.h.length=n) (hπ:(List.range n).all (fun i=>decide (l.getD i 0<n)&&decide (r.getD (l.getD i 0) 0=i)&&decide (r.getD i 0<n)&&decide (l.getD (r.getD i 0) 0=i))=true)
  (hb:A.bs=0) (hd:A.df=[]) (hs:A.h.all zCp=true) (hh:h'=(List.range n).map fun j=>mvO (fun i=>l.getD i 0) (A.h.getD (r.getD j 0) .dead)) (hl:∀ t,t∈live→zpb (A.tmps t)=true)
  (k:@W ⟨P,H,.loop x,Q⟩ { n:=A.n,bs:=A.bs,rc:=A.rc,tmps:=zbU (zbi (fun t=>mvX (fun i=>l.getD i 0) (A.tmps t)) live []),h:=h',df:=A.df }):@W ⟨P,H,.loop x,Q⟩ A:=by
 have hall:∀ i,i<n→(l.getD i 0<n∧r.getD (l.getD i 0) 0=i)∧r.getD i 0<n∧l.getD (r.getD i 0) 0=i:=fun i hi=>by
  have:=List.all_eq_true.1 hπ i (List.mem_range.2 hi)
  simp only [Bool.and_eq_true,decide_eq_true_eq] at this
  exact ⟨⟨this.1.1.1,this.1.1.2⟩,this.1.2,this.2⟩
 refine zcI (zyp (fun i=>l.getD i 0) (fun i=>r.getD i 0) (by rw [hn];exact fun i hi=>(hall i hi).1) (by rw [hn];exact fun i hi=>(hall i hi).2) hb hd (List.all_eq_true.1 hs) (by rw [hn];exact hh) (fun t=>?_)) k
 rcases zrx (T:=fun t=>mvX (fun i=>l.getD i 0) (A.tmps t)) live t with ⟨h1,h2⟩ | h1
 ·exact .inl ⟨h1,hl t h2⟩
 ·exact .inr h1
end Abs
end Go.Proofs.YtahlnclapingiaaGreatDoor
namespace Go.Proofs.YtahlnclapingiaaGreatDoor
namespace Abs
def Lss (q v:PV):Prop:=∀ (M:Nat→Prop) (w:World) (u:Value),RepP M w u q→RepP M w u v
theorem Lss.rfl' {q:PV}:Lss q q:=fun _ _ _ h=>h
theorem zow {P:Program} (hD:zcb P) {H:Hints} {f:FuncId} {fn:Func} {c:Code} {pargs:List PV} {v:PV} {rs:List ResultVar} {n:Nat} (hf:P.funcs[f]?=some fn) (hb:fn.body=some c) (hrs:fn.results.toList=rs) (hn:fn.ntmps=n) (hok:zaf H fn=true)
  (hlen:pargs.length≤n) (hw:wp P H c (zhR P rs 0 (fun _ r h=>∃ q,zlX h r=some q∧Lss q v)) (zaK n .no (pargs.map .p) [])):zae P f pargs v:=by
 intro M0 w cargs hM hg ha
 have ha':zbW (Rep M0 ⟨[],[],w⟩) cargs (pargs.map .p):=by
  refine ⟨by simpa using ha.1,fun i c hc=>?_⟩
  simp only [List.getElem?_map,Option.map_eq_some_iff] at hc
  obtain ⟨q,hq,rfl⟩:=hc
  exact zas ((ha.2 i q hq).mono (fun _ _ _=>rfl) (fun b hb=>by
   rcases hb with hb | hb
   ·exact .inl hb
   ·simp [Own] at hb))
 have:=zan hD (h:=[]) (R:=fun r h=>∃ q,zlX h r=some q∧Lss q v) hf hb hrs hn hok (by simpa using hlen) hw M0 [] w cargs (zjx hM hg) ha'
 refine ⟨this.1,this.2.mono fun e w' h=>?_⟩
 obtain ⟨r,h',m',⟨q,hq,hless⟩,hev,hk,hend⟩:=h
 cases e with
 |returned v' =>
  cases r with
  |panic v=>cases hq
  |ret a=>exact ⟨v',rfl,hless _ _ _ (zjW (S:=⟨m',h',w'⟩) hk hend hq),hev.fr⟩
 |panicked ch =>
  cases r with
  |panic v=>cases hq
  |ret a=>exact hend.elim
 |outgrown=>exact hend.elim
theorem zza {a c d e f x y:PV}:Lss (.tuple [.agg [a,.nilslice,c,d,e,f],x,y]) (.tuple [.agg [a,.slice 4 [] false,c,d,e,f],x,y]):=by
 intro M w u h
 cases h with
 |tuple hn hr =>
  refine .tuple hn fun i z hi=>?_
  match i,hi with
  |0,hi =>
   cases hi
   have h0:=hr 0 _ rfl
   generalize Array.getD _ 0 undef=v0 at h0 ⊢
   cases h0 with
   |agg hn hs hr =>
    refine .agg hn (fun z hz=>?_) fun i z hi=>?_
    ·simp only [List.mem_cons,List.not_mem_nil,or_false] at hz hs
     rcases hz with rfl | rfl | hz
     ·exact hs _ (.inl rfl)
     ·rfl
     ·exact hs _ (.inr (.inr hz))
    ·match i,hi with
     |0,hi=>exact hr 0 _ hi
     |1,hi =>
      cases hi
      have h1:=hr 1 _ rfl
      generalize Array.getD _ 1 undef=v1 at h1 ⊢
      cases h1
      exact .empty (by simp)
     |i+2,hi=>exact hr (i+2) _ hi
  |i+1,hi=>exact hr (i+1) _ hi
namespace Ch
set_option maxRecDepth 4000
def zbB (s:ChShop):ChBooks→Nat→List (List UInt8)→ChBooks×Int
 |b,_,[]=>(b,-1)
 |b,i,l::r=>match zeQ s b l with
  |.error _=>(b,(i:Int))
  |.ok (b',_,w)=>if w=true then zbB s b' (i+1) r else (b',(i:Int))
def zcf (s:ChShop) (text:List UInt8):ChBooks×Int×Int :=
 if (zbj s).2.2≠0 then (zb9,0,(zbj s).2.2)
 else if (zbA text).2≠0 then (zb9,0,(zbA text).2)
 else ((zbB s zb9 0 (zbA text).1).1,(zbB s zb9 0 (zbA text).1).2,0)
def zez:PV:=.agg [.nilslice,.nilslice,.nilslice,.nilslice,.int .i64 0,.int .i64 0]
def zf6 (s:ChShop) (text:List UInt8):PV:=.tuple [if (zcf s text).2.2=0 then (zcf s text).1.pv else zez,.int .i64 (zcf s text).2.1,.int .i64 (zcf s text).2.2]
theorem zF5 (s:ChShop) (a a':AObj):zap Tryz.prog 30 [.p s.pv] [a,a'] (fun r h'=>r=.ret (.tuple [.ptr 3 1 0 0,.p (.int .i64 (zbj s).2.2)])∧h'=[a,a',.row 17 [.p s.pv],zqu s]):=by
 refine zan zad (fn:=Tryz.f30) (n:=17) (rs:=[.tmp 2,.tmp 3]) (by kernel_rfl) rfl rfl rfl zFQ (Nat.le_of_ble_eq_true rfl) ?_
 simp only [go_sem,simprocAttr]
 refine zab (zue s) rfl ?_
 simp only [zat,zqu,go_sem,simprocAttr]
def zi5:AObj:=.row 6 [.p zez]
theorem zAN {t:List UInt8} (h:(zbA t).2=0):(zbA t).1.length≤40:=by
 unfold zbA at h ⊢
 split at h
 ·cases h
 ·split at h
  ·cases h
  ·rename_i h1 h2
   rw [if_neg h2]
   exact Nat.le_of_not_lt h2
set_option maxHeartbeats 4000000 in
theorem zEp (s:ChShop) (text:List UInt8) (hl:text.length≤2000000):zae Tryz.prog 10 [s.pv,.str (bs text)] (zf6 s text):=by
 refine zow zad (fn:=Tryz.f10) (n:=58) (rs:=[.cell 4 54,.tmp 5,.tmp 6]) (by kernel_rfl) rfl rfl rfl zNr (Nat.le_of_ble_eq_true rfl) ?_
 simp only [go_sem,simprocAttr]
 refine zbf (zF5 s _ _) (fun v h hr=>?_) (fun v h hr=>by cases hr.1)
 obtain ⟨hv,rfl⟩:=hr
 cases hv
 by_cases hc:(zbj s).2.2=0
 rotate_left
 ·have hcn:((zbj s).2.2 != 0)=true:=by simpa using hc
  have hres:zf6 s text=.tuple [zez,.int .i64 0,.int .i64 (zbj s).2.2]:=by
   have:zcf s text=(zb9,0,(zbj s).2.2):=by rw [zcf,if_pos hc]
   rw [zf6,this]
   simp only [if_neg hc]
  simp only [hcn,hres,zez,go_sem,simprocAttr]
  exact Lss.rfl'
 simp only [hc,go_sem,simprocAttr]
 refine zab (zxN text hl) rfl ?_
 by_cases hr:(zbA text).2=0
 rotate_left
 ·have hcn:((zbA text).2 != 0)=true:=by simpa using hr
  have hres:zf6 s text=.tuple [zez,.int .i64 0,.int .i64 (zbA text).2]:=by
   have:zcf s text=(zb9,0,(zbA text).2):=by rw [zcf,if_neg (by simpa using hc),if_pos hr]
   rw [zf6,this]
   simp only [if_neg hr]
  simp only [zbK,hcn,hres,zez,go_sem,simprocAttr]
  exact Lss.rfl'
 have hres0:zcf s text=((zbB s zb9 0 (zbA text).1).1,(zbB s zb9 0 (zbA text).1).2,0):=by rw [zcf,if_neg (by simpa using hc),if_neg (by simpa using hr)]
 have hres:zf6 s text=.tuple [(zbB s zb9 0 (zbA text).1).1.pv,.int .i64 (zbB s zb9 0 (zbA text).1).2,.int .i64 0]:=by
  rw [zf6,hres0]
  simp only [if_true]
 have hlen:=zAN hr
 have hs:=zsR hc
 simp only [zbK,hr,if_true,zbt,go_sem,simprocAttr]
 rw [hres]
 generalize (zbA text).1=ls at hlen
 have hll:ls.length<1000000000:=by omega
 refine zdf [4,7,32,33,34] 3 4 23 _ (zcY s [.slice 4 0 0 0,.p .nilslice,.p .nilslice,.p .nilslice]) (Nat.zero_le _) (Nat.zero_le _) rfl (zdE 0 rfl rfl rfl) ?_ ?_ rfl ?_
 ·simp only [go_sem,simprocAttr]
 ·simp only [zqu,go_sem,simprocAttr]
 simp only [go_sem,simprocAttr]
 refine zdf [4,7,32,33,34] 3 4 23 _ (zcY s [.slice 4 0 0 0,.slice 5 0 0 0,.p .nilslice,.p .nilslice]) (Nat.zero_le _) (Nat.zero_le _) rfl (zdE 1 rfl rfl rfl) ?_ ?_ rfl ?_
 ·simp only [go_sem,simprocAttr]
 ·simp only [zcY,go_sem,simprocAttr]
 simp only [go_sem,simprocAttr]
 refine zdf [4,7,32,33,34] 3 3 23 _ (zcY s [.slice 4 0 0 0,.slice 5 0 0 0,.slice 6 0 0 0,.p .nilslice]) (Nat.zero_le _) (Nat.zero_le _) rfl (zdE 2 rfl rfl rfl) ?_ ?_ rfl ?_
 ·simp only [go_sem,simprocAttr]
 ·simp only [zcY,go_sem,simprocAttr]
 simp only [go_sem,simprocAttr]
 refine zdf [4,7,32,33,34] 3 2 23 _ (zcY s [.slice 4 0 0 0,.slice 5 0 0 0,.slice 6 0 0 0,.slice 7 0 0 0]) (Nat.zero_le _) (Nat.zero_le _) rfl (zdE 3 rfl rfl rfl) ?_ ?_ rfl ?_
 ·simp only [go_sem,simprocAttr]
 ·simp only [zcY,go_sem,simprocAttr]
 simp only [go_sem,simprocAttr]
 refine zvO [4,7,32,33,34] ([.row 17 [.p s.pv],.row 17 [.p s.pv],.row 23 [zcY s [.slice 3 0 0 0,.slice 4 0 0 0,.slice 5 0 0 0,.slice 6 0 0 0]],.row 4 [],.row 4 [],.row 3 [],.row 2 [],zi5]) [0,7,1,2,3,4,5,6] [0,2,3,4,5,6,7,1] 8 rfl (by decide) rfl rfl (by rfl) (by rfl) (by simp only [List.mem_cons,go_sem,simprocAttr];rintro t (rfl | rfl | rfl | rfl | rfl)<;>rfl) ?_
 have p1:[0,7,1,2,3,4,5,6].getD 1 0=7:=rfl
 have p3:[0,7,1,2,3,4,5,6].getD 3 0=2:=rfl
 simp only [mvX,mv0,p1,p3,go_sem,simprocAttr]
 refine zcI (zkd 0) (zcI (zkd 1) ?_)
 simp only [zcY,go_sem,simprocAttr]
 refine zbb [4,7,32,33] ls hll (τ:=List PV×ChBooks) (fun done rest q=>zbB s zb9 0 ls=zbB s q.2 done.length rest∧BkOk s q.2 done.length) (fun done q=>[(34,.p (.int .i64 done.length))])
  (fun done q=>B7 s q.2 q.1++[zi5]) ([],zb9) ⟨rfl,zCG s⟩ ?_ ?_ ?_
 ·simp only [zb9,List.length_nil,List.map_nil,List.append_nil,zi5,zez,go_sem,simprocAttr]
 ·rintro ⟨ex,b⟩ ⟨e1,_⟩
  dsimp only at e1
  rw [e1,zbB]
  simp only [zi5,zez,zf2,zm2,zk4,zk3,zm3,go_sem,simprocAttr]
  exact Lss.rfl'
 ·rintro done l r ⟨ex,b⟩ e1 ⟨e2,e3⟩ hx hlt hnx
  dsimp only at e2 e3
  have hdl:done.length+1≤40:=by
   have:=congrArg List.length e1
   simp at this;omega
  have hDn:=zCJ s b ex done.length hs e3 l
  have hfr:=zd4 (zcU s b ex) (args:=[.ptr 2 1 0 0,.p (.str (bs l))]) (by simp only [go_sem,simprocAttr]) (hDn.mono fun r h' hr=>⟨zr2 hr,hr⟩) [zi5]
  simp only [hlt,hx,go_sem,simprocAttr]
  refine zbf hfr (fun v h hr=>?_) (fun v h hr=>?_)
  rotate_left
  ·obtain ⟨h',_,_,hr⟩:=hr
   unfold zh0 at hr
   split at hr<;>cases hr.1
  obtain ⟨h',rfl,_,hr⟩:=hr
  unfold zh0 at hr
  cases hdn:zeQ s b l with
  |error e =>
   rw [hdn] at hr
   obtain ⟨hv,rfl⟩:=hr
   cases hv
   have he:zbB s b done.length (l::r)=(b,(done.length:Int)):=by rw [zbB,hdn]
   rw [e2,he]
   simp only [zi5,zez,zf2,zm2,zk4,zk3,zm3,go_sem,simprocAttr]
   exact Lss.rfl'
  |ok q =>
   obtain ⟨b',a,w⟩:=q
   rw [hdn] at hr
   obtain ⟨hv,hx2⟩:=hr
   cases hv
   have hbk:BkOk s b' (done.length+1):=by
    have:=zv0 (s:=s) (q:=(b,[],[])) (l:=l) hs e3 hdl
    rw [zc1] at this
    simp only [hdn] at this
    exact this
   rcases hx2 with ⟨ex',rfl⟩ | ⟨h0,l0,x0,rfl⟩
   ·cases w
    ·have he:zbB s b done.length (l::r)=(b',(done.length:Int)):=by rw [zbB,hdn];rfl
     rw [e2,he]
     simp only [zi5,zez,zf2,zm2,zk4,zk3,zm3,go_sem,simprocAttr]
     exact Lss.rfl'
    ·have he:zbB s b done.length (l::r)=zbB s b' (done.length+1) r:=by rw [zbB,hdn];rfl
     simp only [go_sem,simprocAttr]
     refine zaA e1 (ex',b') ⟨by rw [e2,he];simp,by simpa using hbk⟩ ?_
     simp only [hnx,zi5,zez,go_sem,simprocAttr]
   ·cases w
    ·have he:zbB s b done.length (l::r)=(b',(done.length:Int)):=by rw [zbB,hdn];rfl
     rw [e2,he]
     simp only [zi5,zez,zf2,zm2,zk4,zk3,zm3,go_sem,simprocAttr]
     rw [h0]
     exact zza
    ·have he:zbB s b done.length (l::r)=zbB s b' (done.length+1) r:=by rw [zbB,hdn];rfl
     simp only [go_sem,simprocAttr]
     refine zoV [4,7,32,33,34] 4 2 4 23 _ (.agg ([.slice 3 b'.lots.length 0 b'.lots.length,.slice 4 0 0 0,.slice 5 b'.tests.length 0 b'.tests.length,.slice 6 b'.boxes.length 0 b'.boxes.length,.p (.int .i64 b'.poured),.p (.int .i64 b'.lost)]++s.cells.map .p)) (Nat.zero_le _) (Nat.zero_le _) (by show 4<8;decide) (by decide) rfl (zdE 1 rfl rfl rfl) ?_ ?_ rfl ?_
     ·simp only [ids,zkF,zjU,zi1,go_sem,simprocAttr]
     ·intro o ho
      change o∈B7n s b' l0 x0++[zi5] at ho
      rcases List.mem_append.1 ho with ho | ho
      ·exact zwP s b' l0 x0 o ho
      ·rw [List.mem_singleton.1 ho,zi5,zez]
       intro x hx
       rw [List.mem_singleton.1 hx];trivial
     simp only [go_sem,simprocAttr]
     refine zaA e1 ([],b') ⟨by rw [e2,he];simp,by simpa using hbk⟩ ?_
     simp only [hnx,h0,List.map_nil,List.length_nil,List.append_nil,zi5,zez,go_sem,simprocAttr]
end Ch
end Abs
end Go.Proofs.YtahlnclapingiaaGreatDoor
namespace Go.Proofs.YtahlnclapingiaaGreatDoor
namespace Abs
set_option maxRecDepth 100000
theorem zAL (s:HrShop) (x:List UInt8):(zaB s x).1.marks.length<1000000000:=by
 by_cases h:(zaB s x).2=0
 ·have:=(zdv (zyL h).2.1).1.len
  omega
 ·rw [zAM h];simp [zbH]
end Abs
end Go.Proofs.YtahlnclapingiaaGreatDoor
namespace Go.Proofs.YtahlnclapingiaaGreatDoor
namespace Abs
namespace Ch
structure BkIn (b:ChBooks):Prop where
 reads:∀ x,x∈b.lots→x.readings.length<1000000000
 marks:∀ t,t∈b.tests→t.marks.length<1000000000
theorem zGZ {s:ChShop} {b b':ChBooks} {c:Cmd} {a:List UInt8} (hb:BkIn b) (h:act s b c=.ok (b',a)):BkIn b':=by
 have lset:∀ (i:Nat) (x y:ChLot),b.lots[i]?=some x→y.readings=x.readings→∀ z,z∈b.lots.set i y→z.readings.length<1000000000:=by
  intro i x y hx hy z hz
  rcases zkS hz with hz | rfl
  ·exact hb.reads z hz
  ·rw [hy];exact hb.reads x (List.mem_of_getElem? hx)
 cases c with
 |lot name kind grams rs =>
  simp only [act] at h
  split at h
  ·cases h
  split at h
  ·cases h
  split at h
  ·cases h
  split at h
  ·cases h
  rename_i hw
  split at h
  ·cases h
  have hw':(Wx.zaQ s.wax rs (zam (fun x:WxKind=>x.name==bs kind) s.wax.kinds 0)).2.2=0:=Classical.byContradiction hw
  have hrs:rs.length<1000000000:=by
   unfold Wx.zaQ at hw'
   split at hw'
   ·rename_i h0
    obtain ⟨h1,h2,_⟩:=Wx.zrg h0
    have:=h1.props
    omega
   ·contradiction
  cases h
  refine ⟨fun x hx=>?_,hb.marks⟩
  rcases List.mem_append.1 hx with hx | hx
  ·exact hb.reads x hx
  ·rw [List.mem_singleton.1 hx];exact hrs
 |batch name colour lot grams =>
  simp only [act] at h
  split at h
  ·cases h
  split at h
  ·cases h
  split at h
  ·cases h
  split at h
  ·cases h
  split at h
  ·cases h
  rename_i x hx
  split at h
  ·cases h
  split at h
  ·cases h
  cases h
  exact ⟨lset _ x _ hx rfl,hb.marks⟩
 |drop name =>
  simp only [act] at h
  split at h
  ·cases h
  split at h
  ·cases h
  split at h
  ·cases h
  rename_i x hx
  cases h
  exact ⟨lset _ x _ hx rfl,hb.marks⟩
 |plan c =>
  simp only [act] at h
  split at h
  ·cases h
  ·cases h;exact hb
 |pour c =>
  simp only [act] at h
  split at h
  ·cases h
  ·cases h;exact ⟨hb.reads,hb.marks⟩
 |test text =>
  simp only [act] at h
  split at h
  ·cases h
  split at h
  ·cases h
  cases h
  refine ⟨hb.reads,fun t ht=>?_⟩
  rcases List.mem_append.1 ht with ht | ht
  ·exact hb.marks t ht
  ·rw [List.mem_singleton.1 ht];exact zAL _ _
 |promise kind =>
  simp only [act] at h
  split at h
  ·cases h
  ·cases h;exact hb
 |box kind hours =>
  simp only [act] at h
  split at h
  ·cases h
  split at h
  ·cases h
  split at h
  ·cases h
  cases h;exact ⟨hb.reads,hb.marks⟩
 |look =>
  simp only [act] at h
  cases h;exact hb
 |wick kind a1 b1 c1 d1 =>
  simp only [act] at h
  split at h
  ·cases h
  split at h
  ·cases h
  split at h
  ·cases h
  split at h
  ·cases h
  cases h;exact hb
 |blend a1 b1 c1 =>
  simp only [act] at h
  split at h
  ·cases h
  cases h;exact hb
 |stock =>
  simp only [act] at h
  cases h;exact hb
theorem zDW {s:ChShop} {b:ChBooks} {l:List UInt8} {q:ChBooks×List UInt8×Bool} (hb:BkIn b) (h:zeQ s b l=.ok q):BkIn q.1:=by
 unfold zeQ at h
 split at h
 ·cases h
 ·split at h
  ·cases h
  ·rename_i ha
   cases h
   exact zGZ hb ha
theorem zws {s:ChShop}:∀ (d:List (List UInt8)) (q:ChBooks×List (List UInt8)×List (List UInt8)),BkIn q.1→BkIn (d.foldl (zc1 s) q).1
 |[],q,h=>h
 |l::d,q,h=>by
  refine zws d (zc1 s q l) ?_
  unfold zc1
  split
  ·exact h
  ·rename_i hd
   exact zDW h hd
theorem zFw (s:ChShop) (d:List (List UInt8)):BkIn (zaY s d).1:=zws d _ ⟨fun x hx=>(by cases hx),fun x hx=>(by cases hx)⟩
end Ch
end Abs
end Go.Proofs.YtahlnclapingiaaGreatDoor
