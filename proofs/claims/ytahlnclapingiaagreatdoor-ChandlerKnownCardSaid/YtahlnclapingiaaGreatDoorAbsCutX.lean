/-
  LAWS: a call's own memory is forgotten when it is left; what it wrote in the caller's stay
  CONTRACTS: colour.open. No conditions but those in the theorems' heads.
  THE BEST ORDER OF BATCHES: found batch by batch, and out of all orders; plain Lean. No con
  THE BEST ORDER OF BATCHES, with sets as bits and what a plan is; plain Lean. No conditions
  CONTRACTS: colour in the reference: what a batch needs, what an order loses, errors of bat
  LAWS: a map of which it is known what may stand in it: it is looked at, and forgotten agai
-/
import Derived.Test.YtahlnclapingiaaGreatDoorAbsKill
import Derived.Test.YtahlnclapingiaaGreatDoorLibNameX
import Derived.Test.YtahlnclapingiaaGreatDoorChEnd0X
set_option linter.unusedSimpArgs false
set_option linter.unusedVariables false
namespace Go.Proofs.YtahlnclapingiaaGreatDoor
namespace Abs
variable {P:Program} {M0:Nat→Prop}
theorem zvm {f:FuncId} {args:List AV} {h:Heap} {R:AEnd→Heap→Prop} (k:(∀ o,o∈h→zaI h.length o)→zap P f args h R):zap P f args h R:=by
 intro M0 m w cargs hS hargs
 refine k (fun o ho=>?_) M0 m w cargs hS hargs
 obtain ⟨i,hi⟩:=List.getElem?_of_mem ho
 exact zrz (S:=⟨m,h,w⟩) hS hi
def zs4:AEnd→Prop
 |.ret (.p _)=>True
 |.panic _=>True
 |_=>False
theorem za4 (hD:zcb P) {H:Hints} {f:FuncId} {fn:Func} {c:Code} {args:List AV} {h:Heap} {R:AEnd→Heap→Prop} {rs:List ResultVar} {n:Nat} (hf:P.funcs[f]?=some fn) (hb:fn.body=some c) (hrs:fn.results.toList=rs) (hn:fn.ntmps=n) (hok:zaf H fn=true)
  (hlen:args.length≤n) (hw:wp P H c (zhR P rs h.length (fun _ r h''=>∃ h' t,h''=h'++t∧h'.length=h.length∧(∀ o,o∈h'→zaI h'.length o)∧zs4 r∧R r h')) (zaK n .no args h)):zap P f args h R:=by
 intro M0 m w cargs hS hargs
 have:=zan hD (R:=fun r h''=>∃ h' t,h''=h'++t∧h'.length=h.length∧(∀ o,o∈h'→zaI h'.length o)∧zs4 r∧R r h') hf hb hrs hn hok hlen hw M0 m w cargs hS hargs
 refine ⟨this.1,this.2.mono fun e w' hh=>?_⟩
 obtain ⟨r,h'',m',⟨h',t,rfl,hl,hbel,hp,hR⟩,hev,hk,hend⟩:=hh
 have hkeep:∀ (id:Nat) (o:AObj),id<h'.length→(h'++t)[id]?=some o→zaI h'.length o:=fun id o hid ho=>by
  rw [List.getElem?_append_left hid] at ho
  exact hbel o (List.mem_of_getElem? ho)
 have hcut:=zqD (S:=⟨m',h'++t,w'⟩) hk (l:=h'.length) hkeep
 have ecut:Mem.cut ⟨m',h'++t,w'⟩ h'.length=⟨m'.take h'.length,h',w'⟩:=by simp [Mem.cut]
 rw [ecut] at hcut
 have hav:∀ b,Avoid M0 (m'.take h'.length) b→Avoid M0 m' b:=fun b hb=>by
  rcases hb with hb | hb
  ·exact .inl hb
  ·exact .inr (List.mem_of_mem_take hb)
 refine ⟨r,h',m'.take h'.length,hR,⟨hev.fr,fun b hb=>hev.sub b (List.mem_of_mem_take hb),fun id o hid ho=>?_⟩,hcut,?_⟩
 ·have hid':id<h'.length:=by rw [hl];exact hid
  obtain ⟨o',h1,h2⟩:=hev.obj id o hid ho
  refine ⟨o',?_,?_⟩
  ·have h1':(h'++t)[id]?=some o':=h1
   rw [List.getElem?_append_left hid'] at h1'
   exact h1'
  ·have:(m'.take h'.length).getD id none=m'.getD id none:=by
    rw [List.getD_eq_getElem?_getD,List.getD_eq_getElem?_getD,List.getElem?_take,if_pos hid']
   show ObjEv _ _ ((m'.take h'.length).getD id none) _
   rw [this];exact h2
 ·cases e with
  |returned v' =>
   cases r with
   |panic v=>exact hend.elim
   |ret a =>
    cases a<;>first | exact hp.elim | skip
    rename_i v
    exact RepP.less (show RepP (Avoid M0 m') w' v' v from hend) hav
  |panicked ch =>
   cases r with
   |ret a=>exact hend.elim
   |panic v =>
    obtain ⟨v',h1,h2⟩:=hend
    exact ⟨v',h1,RepP.less (show RepP (Avoid M0 m') w' v' v from h2) hav⟩
  |outgrown=>exact hend.elim
theorem zbp {n m:Nat} (h:n≤m):∀ {a:AV},zb6 n a→zb6 m a:=by
 intro a
 cases a<;>simp only [zb6]<;>first | exact id | omega
theorem zrW {n m:Nat} (h:n≤m) {a:AV} (k:zcH n a):zcH m a:=by
 cases a with
 |func fn first cap=>exact ⟨fun c hc=>zbp h (k.1 c hc),fun c hc=>zbp h (k.2 c hc)⟩
 |p v=>exact trivial
 |ptr id ver i o=>exact zbp (a:=.ptr id ver i o) h k
 |slice id ver i o=>exact zbp (a:=.slice id ver i o) h k
 |agg cs=>exact zbp (a:=.agg cs) h k
 |tuple cs=>exact zbp (a:=.tuple cs) h k
 |ref q id=>exact zbp (a:=.ref q id) h k
 |undef=>exact zbp (a:=.undef) h k
theorem zz6 {n m:Nat} (h:n≤m) {a:AV} (k:zdk n a):zdk m a:=by
 cases a with
 |agg cs=>exact fun c hc=>zrW h (k c hc)
 |func fn first cap=>exact ⟨fun c hc=>zbp h (k.1 c hc),fun c hc=>zbp h (k.2 c hc)⟩
 |p v=>exact trivial
 |ptr id ver i o=>exact zbp (a:=.ptr id ver i o) h k
 |slice id ver i o=>exact zbp (a:=.slice id ver i o) h k
 |tuple cs=>exact zbp (a:=.tuple cs) h k
 |ref q id=>exact zbp (a:=.ref q id) h k
 |undef=>exact zbp (a:=.undef) h k
theorem zun {n m:Nat} (h:n≤m) {a:AV} (k:below n a):below m a:=by
 cases a with
 |tuple cs=>exact fun c hc=>zz6 h (k c hc)
 |agg cs=>exact fun c hc=>zrW h (k c hc)
 |func fn first cap=>exact ⟨fun c hc=>zbp h (k.1 c hc),fun c hc=>zbp h (k.2 c hc)⟩
 |p v=>exact trivial
 |ptr id ver i o=>exact zbp (a:=.ptr id ver i o) h k
 |slice id ver i o=>exact zbp (a:=.slice id ver i o) h k
 |ref q id=>exact zbp (a:=.ref q id) h k
 |undef=>exact zbp (a:=.undef) h k
theorem zve {n m:Nat} (h:n≤m) {o:AObj} (k:zaI n o):zaI m o:=by
 cases o with
 |row sz xs=>exact fun x hx=>zun h (k x hx)
 |loop n tmps ps assign body st pend=>exact fun t=>zun h (k t)
 |bld T e x=>exact zbp h k
 |_=>exact trivial
end Abs
end Go.Proofs.YtahlnclapingiaaGreatDoor
namespace Go.Proofs.YtahlnclapingiaaGreatDoor
namespace Abs
namespace Cl
set_option maxRecDepth 4000
def zgW (s:ClShop) (l:List ClBatch) (m:Nat):AObj:=.row 6 [.agg [.p (.slice 4 (s.colours.map ClColour.pv) false),.p (.int .i64 s.keep.lo),.p (.int .i64 s.keep.hi),.p (.int .i64 s.rinse),.p (.slice 2 (l.map ClBatch.pv) false),.ref .mp m]]
attribute [go_sem] zgW
theorem ztW {e e0:Int} {a b c:AObj} {u:AV} {t:Heap} (hu:u=.p .nilptr∨u=.ptr 6 1 0 0):zfA Tryz.prog 377 [.ptr 3 1 0 0,.ptr 4 1 0 0] (.pan (.iface 43 (.int .i64 e))) (a::b::c::.row 1 [u]::.row 1 [.p (.int .i64 e0)]::t)
  (fun r u h'=>r=.ret (.p (.tuple []))∧u=.recd (.iface 43 (.int .i64 e))∧h'=a::b::c::.row 1 [.p .nilptr]::.row 1 [.p (.int .i64 e)]::t):=by
 refine zdy zad (fn:=Tryz.f377) (n:=8) (rs:=[]) (by kernel_rfl) rfl rfl rfl zCs (Nat.le_of_ble_eq_true rfl) ?_
 rcases hu with rfl | rfl<;>simp only [zHd,zal,zh5,zeI,List.append_nil,go_sem,simprocAttr]
theorem dNo {i j:Nat} {h:Heap}:zfA Tryz.prog 377 [.ptr i 1 0 0,.ptr j 1 0 0] .ret h (fun r u h'=>r=.ret (.p (.tuple []))∧u=.ret∧h'=h):=by
 refine zdy zad (fn:=Tryz.f377) (n:=8) (rs:=[]) (by kernel_rfl) rfl rfl rfl zCs (Nat.le_of_ble_eq_true rfl) ?_
 simp only [zh5,zeI,go_sem,simprocAttr]
theorem zbG {rs:List ResultVar} {R:AEnd→Heap→Prop} {T:Nat→AV} {e e0:Int} {a b c:AObj} {u:AV} {t:Heap} (hu:u=.p .nilptr∨u=.ptr 6 1 0 0) (k:zbd Tryz.prog rs R T [] .ret (a::b::c::.row 1 [.p .nilptr]::.row 1 [.p (.int .i64 e)]::t)) :
  zbd Tryz.prog rs R T [.fn 377 [.ptr 3 1 0 0,.ptr 4 1 0 0]] (.pan (.iface 43 (.int .i64 e))) (a::b::c::.row 1 [u]::.row 1 [.p (.int .i64 e0)]::t):=by
 rw [zfr]
 refine (ztW hu).mono fun r u h' hr=>?_
 obtain ⟨rfl,rfl,rfl⟩:=hr
 exact k
theorem zoC {rs:List ResultVar} {R:AEnd→Heap→Prop} {T:Nat→AV} {h:Heap} (k:zbd Tryz.prog rs R T [] .ret h):zbd Tryz.prog rs R T [.fn 377 [.ptr 3 1 0 0,.ptr 4 1 0 0]] .ret h:=by
 rw [zfr]
 refine dNo.mono fun r u h' hr=>?_
 obtain ⟨rfl,rfl,rfl⟩:=hr
 exact k
theorem zLb (e:Int):zae Tryz.prog 378 [.bool true,.int .i64 e] (.tuple []):=by
 refine zaa zad (fn:=Tryz.f378) (n:=8) (rs:=[]) (by kernel_rfl) rfl rfl rfl zCr (Nat.le_of_ble_eq_true rfl) ?_
 simp only [go_sem,simprocAttr]
theorem ziq {P:Program} {H:Hints} {ops:Array Oper} {rest:List Oper} {Q:Cont} {o:Oper} {hs:Heap} {A:AAct} {f:FuncId} {args:List AV} {pargs:List PV} {v:PV} (hc:zae P f pargs v) (ha:args=pargs.map .p)
  (h:@WD ⟨P,H,ops,rest,Q⟩ hs (A.put o.dst (.p v) A.h)):@WDR ⟨P,H,ops,rest,Q,o⟩ hs A (.call f args):=by
 subst ha
 exact .inl ⟨.p v,fun _ _=>zjk hc,h⟩
theorem zxB (s:ClShop) (l:List ClBatch) (b:ClBatch) (hn:s.colours.length≤6) (a0 a1 a2 a3 a4 a5 a7:AObj):zap Tryz.prog 379 [.ptr 6 1 0 0,.p b.pv] [a0,a1,a2,a3,a4,a5,zgW s l 5,a7]
  (fun r h'=>h'=[a0,a1,a2,a3,a4,a5,zgW s l 5,a7,.row 2 [.p b.pv]]∧r=if zcq s b=0 then .ret (.p (.tuple [])) else .panic (.iface 43 (.int .i64 (zcq s b)))):=by
 refine zan zad (fn:=Tryz.f379) (n:=23) (rs:=[]) (by kernel_rfl) rfl rfl rfl zIb (Nat.le_of_ble_eq_true rfl) ?_
 have hw:IntKind.i64.wrap ((s.colours.length:Int)-1)=(s.colours.length:Int)-1:=zaj (by omega) (by omega)
 simp only [zuO,zal,hw,go_sem,simprocAttr]
 (first | refine zab (zcF 0 ((s.colours.length:Int)-1) [b.colour] true (by simp)) rfl ?_ | refine zau (zcF 0 ((s.colours.length:Int)-1) [b.colour] true (by simp)) rfl ?_)
 simp only [zuO,zal,List.any_cons,List.any_nil,Bool.or_false,Bool.not_not,go_sem,simprocAttr]
 cases h1:gIn b.colour 0 ((s.colours.length:Int)-1)
 ·have hb:zcq s b=4:=by rw [zcq,h1];rfl
  refine zCc fun T=>?_
  simp only [zuO,zal,hb,go_sem,simprocAttr]
 refine ziq (zLb 4) rfl ?_
 simp only [zuO,zal,go_sem,simprocAttr]
 refine zab (zcF 1 100000 [_] true (by simp)) rfl ?_
 simp only [List.any_cons,List.any_nil,Bool.or_false,Bool.not_not,go_sem,simprocAttr]
 cases h2:gIn b.grams 1 100000
 ·have hb:zcq s b=7:=by rw [zcq,h1,h2];rfl
  refine zak (fun h=>by cases h) fun _=>?_
  simp only [hb,go_sem,simprocAttr]
 have hb:zcq s b=0:=by rw [zcq,h1,h2];rfl
 refine zak (fun _=>?_) (fun h=>by cases h)
 simp only [hb,go_sem,simprocAttr]
set_option maxHeartbeats 2000000 in
theorem zxA (s:ClShop) (zaK:Int) (l:List ClBatch) (x:AObj) (hl:l.length<1000000000):zap Tryz.prog 348 [.p s.pv,.p (.slice 2 (l.map ClBatch.pv) false),.slice 1 1 0 1] [x,.row 1 [.p (.int .i64 zaK)]]
  (fun r h'=>(zb1 s zaK l=0∧ShopOk s∧(∀ b,b∈l→BatchOk s b)∧l.length≤7∧r=.ret (.tuple [.ptr 6 1 0 0,.p (.int .i64 0)])∧h'=[x,.row 1 [.p (.int .i64 zaK)],.row 4 [.p s.pv],.row 1 [.ptr 6 1 0 0],.row 1 [.p (.int .i64 0)],.mp [],zgW s l 5]) ∨
   (zb1 s zaK l≠0∧r=.ret (.p (.tuple [.nilptr,.int .i64 (zb1 s zaK l)]))∧∃ t,h'=[x,.row 1 [.p (.int .i64 zaK)],.row 4 [.p s.pv],.row 1 [.p .nilptr],.row 1 [.p (.int .i64 (zb1 s zaK l))]]++t)):=by
 refine zvm fun hbel=>?_
 have hx0:zaI 7 x:=zve (n:=2) (by decide) (hbel x (by simp))
 refine zan zad (fn:=Tryz.f348) (n:=49) (rs:=[.cell 6 412,.cell 7 43]) (by kernel_rfl) rfl rfl rfl zIr (Nat.le_of_ble_eq_true rfl) ?_
 simp only [go_sem,simprocAttr]
 refine zab (ziS s) rfl ?_
 simp only [zat,go_sem,simprocAttr]
 cases h0:((clCheck s).2.2==0)
 ·have h0':¬ (clCheck s).2.2=0:=by simpa using h0
  have ho:zb1 s zaK l=(clCheck s).2.2:=by rw [zb1,if_neg h0']
  refine zak (fun h=>by cases h) fun _=>?_
  simp only [go_sem,simprocAttr]
  refine zbG (.inl rfl) ?_
  simp only [go_sem,simprocAttr]
  exact .inr ⟨by rw [ho];exact h0',by rw [ho],[],by rw [ho];exact ⟨rfl,rfl⟩⟩
 have h0':(clCheck s).2.2=0:=by simpa using h0
 have hs:=zns h0'
 have hsl:=hs.len
 have hw:IntKind.i64.wrap ((s.colours.length:Int)-1)=(s.colours.length:Int)-1:=zaj (by omega) (by omega)
 refine zak (fun _=>?_) (fun h=>by cases h)
 simp only [h0',hw,go_sem,simprocAttr]
 refine zaO (zcF 0 ((s.colours.length:Int)-1) [zaK] false (by simp)) ?_ (.bool _) ?_
 ·simp only [go_sem,simprocAttr]
 simp only [List.any_cons,List.any_nil,Bool.or_false,Bool.not_not,go_sem,simprocAttr]
 cases h1:gIn zaK 0 ((s.colours.length:Int)-1)
 ·have ho:zb1 s zaK l=4:=by rw [zb1,if_pos h0',h1];rfl
  refine zak (fun h=>by cases h) fun _=>?_
  simp only [go_sem,simprocAttr]
  refine zbG (.inl rfl) ?_
  simp only [go_sem,simprocAttr]
  exact .inr ⟨by rw [ho];decide,by rw [ho],[],by rw [ho];exact ⟨rfl,rfl⟩⟩
 have ho1:zb1 s zaK l=zkT s l:=by rw [zb1,if_pos h0',h1];rfl
 refine zak (fun _=>?_) (fun h=>by cases h)
 simp only [go_sem,simprocAttr]
 cases h2:decide ((l.length:Int)≤7)
 ·have h2':¬ l.length≤7:=by simp at h2;omega
  have ho:zb1 s zaK l=3:=by rw [ho1,zkT,if_neg h2']
  refine zak (fun h=>by cases h) fun _=>?_
  simp only [go_sem,simprocAttr]
  refine zbG (.inl rfl) ?_
  simp only [go_sem,simprocAttr]
  exact .inr ⟨by rw [ho];decide,by rw [ho],[],by rw [ho];exact ⟨rfl,rfl⟩⟩
 have h2':l.length≤7:=by simp at h2;omega
 have ho2:zb1 s zaK l=zcP s l:=by rw [ho1,zkT,if_pos h2']
 refine zak (fun _=>?_) (fun h=>by cases h)
 simp only [go_sem,simprocAttr]
 refine zbb [6,7,38,39] l (by omega) (τ:=Unit) (fun done rest _=>zcP s l=zcP s rest) (fun done _=>[(40,.p (.int .i64 done.length))])
  (fun _ _=>[x,.row 1 [.p (.int .i64 zaK)],.row 4 [.p s.pv],.row 1 [.ptr 6 1 0 0],.row 1 [.p (.int .i64 0)],.mp [],zgW s l 5]) () rfl ?_ ?_ ?_
 ·simp only [go_sem,simprocAttr]
  exact ⟨hx0,show 5<7 by decide⟩
 ·intro _ e2
  rw [zcP] at e2
  simp only [go_sem,simprocAttr]
  refine zoC ?_
  simp only [go_sem,simprocAttr]
  exact .inl ⟨ho2.trans e2,hs,zp8 e2,h2'⟩
 ·intro done b r _ e1 e2 hx hlt hnx
  rw [zcP] at e2
  simp only [hlt,hx,go_sem,simprocAttr]
  refine zbf (zxB s l b (by omega) _ _ _ _ _ _ _) (fun v h hr=>?_) (fun v h hr=>?_)
  ·obtain ⟨rfl,hr⟩:=hr
   by_cases hb:zcq s b=0
   ·rw [if_pos hb] at e2 hr
    cases hr
    simp only [go_sem,simprocAttr]
    refine zaA e1 () e2 ?_
    simp only [hnx,go_sem,simprocAttr]
    exact ⟨hx0,show 5<7 by decide⟩
   ·rw [if_neg hb] at hr;cases hr
  ·obtain ⟨rfl,hr⟩:=hr
   by_cases hb:zcq s b=0
   ·rw [if_pos hb] at hr;cases hr
   ·rw [if_neg hb] at e2 hr
    cases hr
    simp only [go_sem,simprocAttr]
    refine zbG (.inr rfl) ?_
    simp only [go_sem,simprocAttr]
    exact .inr ⟨by rw [ho2,e2];exact hb,by rw [ho2,e2],_,by rw [ho2,e2];exact ⟨rfl,rfl⟩⟩
end Cl
end Abs
end Go.Proofs.YtahlnclapingiaaGreatDoor
namespace Go.Proofs.YtahlnclapingiaaGreatDoor
namespace Abs
namespace Cl
section
variable (need:Int→Nat→Option Int) (col:Nat→Int)
def zbg (a b:Option (List Nat×Int)):Option (List Nat×Int) :=
 match a,b with
 |none,b=>b
 |a,none=>a
 |some p,some q=>if q.2<p.2 then some q else some p
def zdT (i:Nat) (n:Option Int) (r:Option (List Nat×Int)):Option (List Nat×Int) :=
 match n,r with
 |some n,some (o,c)=>some (i::o,n+c)
 |_,_=>none
def zcO:Nat→Int→List Nat→Option (List Nat×Int)
 |_,_,[]=>some ([],0)
 |0,_,_::_=>none
 |k+1,c,i::l=>(i::l).foldl (fun a j=>zbg a (zdT j (need c j) (zcO k (col j) ((i::l).erase j)))) none
def zhh:Nat→List Nat→List (List Nat)
 |_,[]=>[[]]
 |0,_::_=>[]
 |k+1,i::l=>(i::l).flatMap fun j=>(zhh k ((i::l).erase j)).map (j::·)
def zeK:Int→List Nat→Option Int
 |_,[]=>some 0
 |c,i::o=>match need c i,zeK (col i) o with | some n,some m=>some (n+m) | _,_=>none
def zc2 (c:Int) (l:List (List Nat)) (a:Option (List Nat×Int)):Option (List Nat×Int):=l.foldl (fun a o=>zbg a ((zeK need col c o).map fun n=>(o,n))) a
theorem zd8 (a:Option (List Nat×Int)):zbg a none=a:=by cases a<;>rfl
theorem zcE (a:Option (List Nat×Int)):zbg none a=a:=by cases a<;>rfl
theorem zul (a b c:Option (List Nat×Int)):zbg (zbg a b) c=zbg a (zbg b c):=by
 cases a with
 |none=>simp [zcE]
 |some p=>cases b with
  |none=>simp [zd8,zcE]
  |some q=>cases c with
   |none=>simp [zd8]
   |some r =>
    simp only [zbg]
    by_cases h1:q.2<p.2
    ·rw [if_pos h1]
     by_cases h2:r.2<q.2
     ·rw [if_pos h2]
      simp only [zbg]
      rw [if_pos h2,if_pos (by omega)]
     ·rw [if_neg h2]
      simp only [zbg]
      rw [if_neg h2,if_pos h1]
    ·rw [if_neg h1]
     by_cases h2:r.2<q.2
     ·rw [if_pos h2]
     ·rw [if_neg h2]
      simp only [zbg]
      rw [if_neg h1,if_neg (by omega)]
theorem zeG (c:Int):∀ (l:List (List Nat)) (a:Option (List Nat×Int)),zc2 need col c l a=zbg a (zc2 need col c l none)
 |[],a=>by simp [zc2,zd8]
 |o::l,a=>by
  have h1:=zeG c l (zbg a ((zeK need col c o).map fun n=>(o,n)))
  have h2:=zeG c l (zbg none ((zeK need col c o).map fun n=>(o,n)))
  simp only [zc2,List.foldl_cons] at h1 h2 ⊢
  rw [h1,h2,zcE,zul]
theorem zva (c:Int) (l m:List (List Nat)) (a:Option (List Nat×Int)):zc2 need col c (l++m) a=zbg (zc2 need col c l a) (zc2 need col c m none):=by
 rw [←zeG]
 simp [zc2,List.foldl_append]
theorem ztX (i:Nat) (n:Option Int) (a b:Option (List Nat×Int)):zdT i n (zbg a b)=zbg (zdT i n a) (zdT i n b):=by
 cases n with
 |none=>cases a<;>cases b<;>simp [zbg,zdT]
 |some n=>cases a with
  |none=>simp [zcE,zdT]
  |some p=>cases b with
   |none=>simp [zd8,zdT]
   |some q =>
    simp only [zbg,zdT]
    by_cases h:q.2<p.2
    ·rw [if_pos h,if_pos (by omega)]
    ·rw [if_neg h,if_neg (by omega)]
theorem zrn (c:Int) (i:Nat):∀ (l:List (List Nat)),zc2 need col c (l.map (i::·)) none=zdT i (need c i) (zc2 need col (col i) l none)
 |[]=>by cases need c i<;>simp [zc2,zdT]
 |o::l=>by
  have ih:=zrn c i l
  rw [List.map_cons]
  rw [show zc2 need col c ((i::o)::l.map (i::·)) none=zc2 need col c (l.map (i::·)) (zbg none ((zeK need col c (i::o)).map fun n=>(i::o,n))) from rfl]
  rw [show zc2 need col (col i) (o::l) none=zc2 need col (col i) l (zbg none ((zeK need col (col i) o).map fun n=>(o,n))) from rfl]
  rw [zeG need col c _ (zbg none _),ih,zeG need col (col i) l (zbg none _),ztX,zcE,zcE,zeK]
  have e:(match need c i,zeK need col (col i) o with | some n,some m=>some (n+m) | _,_=>none).map (fun n=>(i::o,n))=zdT i (need c i) ((zeK need col (col i) o).map fun n=>(o,n)):=by
   cases need c i<;>cases zeK need col (col i) o<;>simp [zdT]
  rw [e]
theorem ziw {α β:Type} {f g:β→α→β}:∀ {l:List α} {b:β},(∀ b x,x∈l→f b x=g b x)→l.foldl f b=l.foldl g b
 |[],_,_=>rfl
 |x::l,b,h=>by rw [List.foldl_cons,List.foldl_cons,h b x (by simp),ziw fun b y hy=>h b y (by simp [hy])]
theorem zrm (c:Int) (f:Nat→List (List Nat)):∀ (l:List Nat) (a:Option (List Nat×Int)),zc2 need col c (l.flatMap f) a=l.foldl (fun a j=>zbg a (zc2 need col c (f j) none)) a
 |[],a=>rfl
 |j::l,a=>by rw [List.flatMap_cons,zva,List.foldl_cons,←zrm c f l,zeG need col c (l.flatMap f) (zbg a _),zeG need col c (f j) a]
theorem zrU:∀ (k:Nat) (c:Int) (l:List Nat),l.length≤k→zc2 need col c (zhh k l) none=zcO need col k c l
 |k,c,[],h=>by cases k<;>simp [zhh,zcO,zc2,zeK,zcE]
 |0,c,i::l,h=>by simp at h
 |k+1,c,i::l,h=>by
  rw [zhh,zcO,zrm]
  refine ziw fun a j hj=>?_
  rw [zrn,zrU k (col j) _ (by rw [List.length_erase_of_mem hj];simp at h ⊢;omega)]
theorem zov (c:Int):∀ (l:List (List Nat)) (o:List Nat) (n:Int),zc2 need col c l none=some (o,n)→o∈l∧zeK need col c o=some n
 |[],o,n,h=>by simp [zc2] at h
 |x::l,o,n,h=>by
  rw [show zc2 need col c (x::l) none=zc2 need col c l (zbg none ((zeK need col c x).map fun n=>(x,n))) from rfl,zeG,zcE] at h
  cases hx:zeK need col c x with
  |none =>
   rw [hx,Option.map_none,zcE] at h
   have:=zov c l o n h
   exact ⟨by simp [this.1],this.2⟩
  |some m =>
   rw [hx,Option.map_some] at h
   cases hl:zc2 need col c l none with
   |none=>rw [hl,zd8] at h;cases h;exact ⟨by simp,hx⟩
   |some q =>
    rw [hl] at h
    simp only [zbg] at h
    split at h
    ·cases h
     have:=zov c l _ _ hl
     exact ⟨by simp [this.1],this.2⟩
    ·cases h;exact ⟨by simp,hx⟩
theorem zn0:∀ (k:Nat) (l o:List Nat),o∈zhh k l→o.Perm l
 |k,[],o,h=>by cases k<;>(simp [zhh] at h;subst h;exact .refl _)
 |0,i::l,o,h=>by simp [zhh] at h
 |k+1,i::l,o,h=>by
  rw [zhh,List.mem_flatMap] at h
  obtain ⟨j,hj,h⟩:=h
  obtain ⟨p,hp,rfl⟩:=List.mem_map.1 h
  exact ((zn0 k _ p hp).cons j).trans (List.perm_cons_erase hj).symm
end
end Cl
end Abs
end Go.Proofs.YtahlnclapingiaaGreatDoor
namespace Go.Proofs.YtahlnclapingiaaGreatDoor
namespace Abs
namespace Cl
def zcG (m:Nat):List Nat:=(List.range 7).filter m.testBit
set_option maxRecDepth 100000 in
theorem zjo:∀ m,m<128→∀ i,i<7→m.testBit i=true→(zcG m).erase i=zcG (m-2^i)∧2^i≤m:=by decide
theorem zuj {m i:Nat}:i∈zcG m↔i<7∧m.testBit i=true:=by simp [zcG]
theorem zrT:zcG 0=[]:=by decide
set_option maxRecDepth 100000 in
theorem zui:∀ m,m<128→zcG m=[]→m=0:=by decide
theorem zl8 (m:Nat):(zcG m).length≤7:=by have:=List.length_filter_le m.testBit (List.range 7);simpa [zcG] using this
def zga:Int:=1099511627776
def zef:Option (List Nat×Int)→Int×Int
 |none=>(zga,-2)
 |some (o,n)=>(n,match o with | []=>-1 | i::_=>(i:Int))
section
variable (need:Int→Nat→Option Int) (col:Nat→Int)
def zfn (c:Int) (f:Nat→Int×Int) (p:Int×Int) (j:Nat):Int×Int :=
 match need c j with
 |none=>p
 |some n=>if n+(f j).1<p.1 then (n+(f j).1,(j:Int)) else p
def zhZ (B:Int) (a:Option (List Nat×Int)):Prop:=∀ o n,a=some (o,n)→0≤n∧n≤B
theorem zmx {B:Int} {a b:Option (List Nat×Int)} (ha:zhZ B a) (hb:zhZ B b):zhZ B (zbg a b):=by
 intro o n h
 cases a with
 |none=>cases b<;>first | exact hb o n h | cases h
 |some p =>
  cases b with
  |none=>exact ha o n h
  |some q =>
   simp only [zbg] at h
   split at h
   ·exact hb o n h
   ·exact ha o n h
theorem znW {α:Type} {B:Int} {f:α→Option (List Nat×Int)}:∀ (l:List α) (a:Option (List Nat×Int)),zhZ B a→(∀ x,x∈l→zhZ B (f x))→zhZ B (l.foldl (fun a x=>zbg a (f x)) a)
 |[],a,ha,_=>ha
 |x::l,a,ha,h=>znW l _ (zmx ha (h x (by simp))) fun y hy=>h y (by simp [hy])
theorem zht (hn:∀ c j n,need c j=some n→0≤n∧n≤30000):∀ (k:Nat) (c:Int) (l:List Nat),zhZ (30000*(k:Int)) (zcO need col k c l)
 |k,c,[]=>by
  intro o n h
  cases k<;>(simp only [zcO,Option.some.injEq,Prod.mk.injEq] at h;omega)
 |0,c,i::l=>by intro o n h;cases h
 |k+1,c,i::l=>by
  rw [zcO]
  refine znW _ none (fun o n h=>by cases h) fun j hj=>?_
  intro o n h
  unfold zdT at h
  split at h
  ·rename_i n1 o1 c1 h1 h2
   have a1:=hn _ _ _ h1
   have a2:=zht hn k (col j) _ o1 c1 h2
   cases h
   omega
  ·cases h
theorem zyY {B:Int} (hB:B+30000<zga) (hn:∀ c j n,need c j=some n→0≤n∧n≤30000) (c:Int) (j:Nat) {a r:Option (List Nat×Int)} {f:Nat→Int×Int} (ha:zhZ (B+30000) a) (hr:zhZ B r) (hf:f j=zef r) :
  zef (zbg a (zdT j (need c j) r))=zfn need c f (zef a) j:=by
 unfold zfn
 cases hc:need c j with
 |none=>simp only [zdT,zd8]
 |some n =>
  have hn':=hn _ _ _ hc
  dsimp only
  rw [hf]
  cases r with
  |none =>
   simp only [zdT,zd8]
   rw [if_neg]
   cases a with
   |none=>simp only [zef];omega
   |some p=>have:=ha p.1 p.2 rfl;simp only [zef];omega
  |some q =>
   have hq:=hr q.1 q.2 rfl
   simp only [zdT]
   cases a with
   |none =>
    simp only [zcE,zef]
    exact (if_pos (show n+q.2<zga by omega)).symm
   |some p =>
    simp only [zbg,zef]
    by_cases hlt:n+q.2<p.2
    ·rw [if_pos hlt]
     exact (if_pos hlt).symm
    ·rw [if_neg hlt]
     exact (if_neg hlt).symm
theorem zpg {B:Int} (hB:B+30000<zga) (hn:∀ c j n,need c j=some n→0≤n∧n≤30000) (c:Int) (r:Nat→Option (List Nat×Int)) (hr:∀ j,zhZ B (r j)):∀ (l:List Nat) (a:Option (List Nat×Int)),zhZ (B+30000) a →
  zef (l.foldl (fun a j=>zbg a (zdT j (need c j) (r j))) a)=l.foldl (zfn need c fun j=>zef (r j)) (zef a)
 |[],a,_=>rfl
 |j::l,a,ha=>by
  rw [List.foldl_cons,List.foldl_cons,←zyY need hB hn c j ha (hr j) rfl]
  refine zpg hB hn c r hr l _ (zmx ha ?_)
  intro o n h
  unfold zdT at h
  split at h
  ·rename_i n1 o1 c1 h1 h2
   have a1:=hn _ _ _ h1
   have a2:=hr j o1 c1 h2
   cases h
   omega
  ·cases h
def zf8 (c:Int) (m:Nat):Int×Int:=zef (zcO need col 7 c (zcG m))
theorem zne:∀ (k:Nat) (c:Int) (l:List Nat),l.length≤k→zcO need col (k+1) c l=zcO need col k c l
 |0,c,[],_=>rfl
 |0,c,_::_,h=>by simp at h
 |k+1,c,[],_=>rfl
 |k+1,c,i::l,h=>by
  rw [zcO,zcO]
  refine ziw fun a j hj=>?_
  rw [zne k (col j) _ (by rw [List.length_erase_of_mem hj];simp at h ⊢;omega)]
theorem znY (c:Int):zf8 need col c 0=(0,-1):=by
 rw [zf8,zrT];rfl
theorem zu9 (hn:∀ c j n,need c j=some n→0≤n∧n≤30000) (c:Int) {m:Nat} (hm:m<128) (h0:m≠0) :
  zf8 need col c m=(zcG m).foldl (zfn need c fun j=>zf8 need col (col j) (m-2^j)) (zga,-2):=by
 have hl:=zl8 m
 unfold zf8
 rw [←zne need col 7 c _ hl]
 cases hb:zcG m with
 |nil=>exact absurd (zui m hm hb) h0
 |cons i l =>
  rw [zcO]
  have hs:=zht need col hn 7
  rw [zpg need (B:=210000) (by unfold zga;omega) hn c (fun j=>zcO need col 7 (col j) ((i::l).erase j)) (fun j o n h=>hs _ _ o n h) (i::l) none (fun o n h=>by cases h)]
  refine ziw fun a j hj=>?_
  rw [←hb] at hj ⊢
  rw [zuj] at hj
  simp only [zfn,(zjo m hm j hj.1 hj.2).1]
theorem zpM {f:Nat→Option (List Nat×Int)}:∀ (l:List Nat) (a:Option (List Nat×Int)) (o:List Nat) (n:Int),l.foldl (fun a j=>zbg a (f j)) a=some (o,n)→a=some (o,n)∨∃ j,j∈l∧f j=some (o,n)
 |[],a,o,n,h=>.inl h
 |j::l,a,o,n,h=>by
  rcases zpM l _ o n h with h | ⟨i,hi,h⟩
  ·cases a with
   |none=>exact .inr ⟨j,by simp,(zcE _).symm.trans h⟩
   |some p =>
    dsimp only at h
    cases hf:f j with
    |none=>simp only [hf,zd8] at h;exact .inl h
    |some q =>
     simp only [hf,zbg] at h
     split at h
     ·exact .inr ⟨j,by simp,hf.trans h⟩
     ·exact .inl h
  ·exact .inr ⟨i,by simp [hi],h⟩
theorem zz2 {k:Nat} {c:Int} {i:Nat} {l:List Nat} {o:List Nat} {n:Int} (h:zcO need col (k+1) c (i::l)=some (o,n)):∃ j o' n',j∈i::l∧o=j::o'∧zcO need col k (col j) ((i::l).erase j)=some (o',n'):=by
 rw [zcO] at h
 rcases zpM _ none o n h with h | ⟨j,hj,h⟩
 ·cases h
 ·unfold zdT at h
  split at h
  ·rename_i n1 o1 c1 h1 h2
   cases h
   exact ⟨j,o1,c1,hj,rfl,h2⟩
  ·cases h
theorem zxc {c:Int} {m:Nat} (hm:m<128) (h0:m≠0) {o:List Nat} {n:Int} (h:zcO need col 7 c (zcG m)=some (o,n)):∃ j o' n',j<7∧m.testBit j=true∧o=j::o'∧(zf8 need col c m).2=(j:Int)∧zcO need col 7 (col j) (zcG (m-2^j))=some (o',n'):=by
 have hl:=zl8 m
 have hp:zf8 need col c m=zef (some (o,n)):=by rw [zf8,h]
 rw [←zne need col 7 c _ hl] at h
 cases hb:zcG m with
 |nil=>exact absurd (zui m hm hb) h0
 |cons i l =>
  rw [hb] at h
  obtain ⟨j,o',n',hj,rfl,h'⟩:=zz2 need col h
  rw [←hb] at hj h'
  rw [zuj] at hj
  rw [(zjo m hm j hj.1 hj.2).1] at h'
  exact ⟨j,o',n',hj.1,hj.2,rfl,by rw [hp];rfl,h'⟩
end
end Cl
end Abs
end Go.Proofs.YtahlnclapingiaaGreatDoor
namespace Go.Proofs.YtahlnclapingiaaGreatDoor
namespace Abs
namespace Cl
set_option maxRecDepth 4000
theorem ztk (can:Nat→Bool):∀ (c r:Nat),zhB can c r=-1∨((r:Int)≤zhB can c r∧zhB can c r<r+c)
 |0,r=>.inl rfl
 |c+1,r=>by
  rw [zhB]
  split
  ·rcases ztk can c (r+1) with h | h
   ·exact .inl h
   ·exact .inr (by omega)
  ·exact .inr (by omega)
theorem zDy (s:ClShop) (c:Int) (b:ClBatch):-1≤zes s c b∧zes s c b≤3:=by
 have:=ztk (zih s c b) 4 0
 unfold zes
 omega
def zlH (s:ClShop) (c:Int) (b:ClBatch):Option Int:=if zes s c b<0 then none else some (zes s c b*s.rinse)
theorem zqv {s:ClShop} (hs:ShopOk s) {c:Int} {b:ClBatch} {n:Int} (h:zlH s c b=some n):0≤n∧n≤30000:=by
 unfold zlH at h
 split at h
 ·cases h
 ·rename_i h0
  cases h
  have h1:=zDy s c b
  have h2:=hs.rinse
  have:=Int.mul_le_mul h1.2 h2.2 h2.1 (by omega:(0:Int)≤3)
  exact ⟨Int.mul_nonneg (by omega) h2.1,by omega⟩
end Cl
end Abs
end Go.Proofs.YtahlnclapingiaaGreatDoor
namespace Go.Proofs.YtahlnclapingiaaGreatDoor
namespace Abs
variable {P:Program} {M0:Nat→Prop}
theorem zs2 {w:World} {b:Nat} {ob:Obj} (h:w.heap[b]?=some ob):w.putObj b ob=w:=by
 obtain ⟨hlt,he⟩:=Array.getElem?_eq_some_iff.1 h
 have:w.heap.setIfInBounds b ob=w.heap:=by
  apply Array.ext
  ·simp
  ·intro i h1 h2
   rw [Array.getElem_setIfInBounds]
   split
   ·rename_i e
    subst e
    exact he.symm
   ·rfl
 unfold World.putObj
 simp only [Array.set!_eq_setIfInBounds,this]
theorem zy7 {S:Mem} (hS:HOk P M0 S) {id:Nat} {φ:PV→PV→Bool} (hid:S.h[id]?=some (.memo φ)) :
  zh1 φ∧∃ es:List (PV×PV),(∀ p,p∈es→φ p.1 p.2=true)∧HOk P M0 ⟨S.m,S.h.set id (.mp es),S.w⟩∧Ev S.h.length S ⟨S.m,S.h.set id (.mp es),S.w⟩:=by
 obtain ⟨hg,es,hf,bl,C,clk,hm,hb,hrel⟩:=hS.obj id _ hid
 have:=ze8 hS (o:=.mp es) (ob:=.map C clk) hm hid hb (zhi hb) (by intro C T f;simp) (.inr (.inr ⟨by simp [AObj.tag],rfl,rfl⟩)) (fun he hx=>⟨bl,C,clk,rfl,hx,hrel.mono fun v a=>he.keepS⟩)
 rw [zs2 hb] at this
 exact ⟨hg,es,hf,this⟩
theorem zlI {S:Mem} (hS:HOk P M0 S) {id:Nat} {es:List (PV×PV)} {φ:PV→PV→Bool} (hg:zh1 φ) (hf:∀ p,p∈es→φ p.1 p.2=true) (hid:S.h[id]?=some (.mp es)) :
  HOk P M0 ⟨S.m,S.h.set id (.memo φ),S.w⟩∧Ev S.h.length S ⟨S.m,S.h.set id (.memo φ),S.w⟩:=by
 obtain ⟨bl,C,clk,hm,hb,hrel⟩:=hS.obj id _ hid
 have:=ze8 hS (o:=.memo φ) (ob:=.map C clk) hm hid hb (zhi hb) (by intro C T f;simp) (.inr (.inr ⟨by simp [AObj.tag],rfl,rfl⟩)) (fun he hx=>⟨hg,es,hf,bl,C,clk,rfl,hx,hrel.mono fun v a=>he.keepS⟩)
 rw [zs2 hb] at this
 exact this
theorem zxy {f:FuncId} {args:List AV} {h:Heap} {R:AEnd→Heap→Prop} {id:Nat} {φ:PV→PV→Bool} (hid:h[id]?=some (.memo φ))
  (k:zh1 φ→∀ es:List (PV×PV),(∀ p,p∈es→φ p.1 p.2=true)→zap P f args (h.set id (.mp es)) (fun r h''=>(h''=h∨h''=h.set id (.mp es))∧R r h)):zap P f args h R:=by
 intro M0 m w cargs hS hargs
 have hidl:=(List.getElem?_eq_some_iff.1 hid).1
 obtain ⟨hg,es,hf,hS',hev⟩:=zy7 hS hid
 have:=k hg es hf M0 m w cargs hS' (hargs.imp fun v a _ hr=>hev.keep hr)
 refine ⟨this.1,this.2.mono fun e w' hh=>?_⟩
 obtain ⟨r,h'',m',⟨hh,hR⟩,hev',hk,hend⟩:=hh
 have hevT:Ev h.length ⟨m,h,w⟩ ⟨m',h'',w'⟩:=hev.trans (by simpa using hev')
 rcases hh with rfl | rfl
 ·exact ⟨r,_,m',hR,hevT,hk,hend⟩
 ·have hid':(h.set id (.mp es))[id]?=some (.mp es):=List.getElem?_set_self hidl
  obtain ⟨hk2,hev2⟩:=zlI hk (φ:=φ) hg hf hid'
  have e1:(h.set id (.mp es)).set id (.memo φ)=h:=by rw [List.set_set];exact zeX hid
  dsimp only at hk2 hev2
  rw [e1] at hk2 hev2
  refine ⟨r,h,m',hR,hevT.trans (by simpa using hev2),hk2,?_⟩
  cases e with
  |returned v' =>
   cases r with
   |panic v=>exact hend.elim
   |ret a=>exact hev2.keep hend
  |panicked ch =>
   cases r with
   |ret a=>exact hend.elim
   |panic v =>
    obtain ⟨v',h1,h2⟩:=hend
    exact ⟨v',h1,hev2.keep (a:=.p v) h2⟩
  |outgrown=>exact hend.elim
theorem zyq {A:AAct} {id:Nat} {es:List (PV×PV)} {φ:PV→PV→Bool} (hg:zh1 φ) (hf:∀ p,p∈es→φ p.1 p.2=true) (hid:A.h[id]?=some (.mp es)):zdL P A { A with h:=A.h.set id (.memo φ) } :=
 ⟨rfl,rfl,fun M0 S0 b cs0 m a w hr=>⟨m,by
  have:=zlI (S:=⟨m,A.h,w⟩) hr.hok hg hf hid
  exact hr.ahead (m':=m) (h':=A.h.set id (.memo φ)) (w':=w) this.2 this.1⟩⟩
variable {H:Hints} {Q:Cont}
end Abs
end Go.Proofs.YtahlnclapingiaaGreatDoor
