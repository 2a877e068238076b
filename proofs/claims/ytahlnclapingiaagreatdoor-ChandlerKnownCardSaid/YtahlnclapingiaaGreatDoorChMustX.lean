/-
  CONTRACTS: chandler: must, find, said. No conditions but those in the theorems' heads.
  CONTRACTS: chandler: said. No conditions but those in the theorems' heads.
  CONTRACTS: hour.Broken, as new memory. No conditions but those in the theorems' heads.
-/
import Derived.Test.YtahlnclapingiaaGreatDoorBdBestX
import Derived.Test.YtahlnclapingiaaGreatDoorHrUseX
set_option linter.unusedSimpArgs false
set_option linter.unusedVariables false
namespace Go.Proofs.YtahlnclapingiaaGreatDoor
namespace Abs
namespace Ch
set_option maxRecDepth 4000
def zkL (P:Program) (f:FuncId) (pargs:List PV) (e:PV):Prop :=
 ∀ (M0:Nat→Prop) (w:World) (cargs:Array Value),(∀ b,M0 b→b<w.heap.size)→GOk P w→zjr M0 w cargs pargs →
  (∀ w',(callFunc f cargs).run P w'=.ok (.enter f cargs) w') ∧
  Calls P f cargs w fun en w'=>∃ v',en=.panicked [{ v:=v',recovered:=false }]∧RepP M0 w' v' e∧Fr [] w w'
theorem zdU {P:Program} {f:FuncId} {pargs:List PV} {e:PV} (h:zap P f (pargs.map .p) [] (fun r _=>r=.panic e)):zkL P f pargs e:=by
 intro M0 w cargs hM hg ha
 have ha':zbW (Rep M0 ⟨[],[],w⟩) cargs (pargs.map .p):=by
  refine ⟨by simpa using ha.1,fun i c hc=>?_⟩
  simp only [List.getElem?_map,Option.map_eq_some_iff] at hc
  obtain ⟨q,hq,rfl⟩:=hc
  exact zas ((ha.2 i q hq).mono (fun _ _ _=>rfl) (fun b hb=>by
   rcases hb with hb | hb
   ·exact .inl hb
   ·simp [Own] at hb))
 have:=h M0 [] w cargs (zjx hM hg) ha'
 refine ⟨this.1,this.2.mono fun en w' hh=>?_⟩
 obtain ⟨r,h',m',rfl,hev,hk,hend⟩:=hh
 cases en with
 |returned v'=>exact hend.elim
 |panicked ch =>
  obtain ⟨v',h1,h2⟩:=hend
  exact ⟨v',by rw [h1],RepP.less h2 (fun b hb=>.inl hb),hev.fr⟩
 |outgrown=>exact hend.elim
theorem zse {P:Program} {f:FuncId} {args:List AV} {pargs:List PV} {e:PV} {h:Heap} (hc:zkL P f pargs e) (ha:zi2 h args=some pargs) (hv:Flat e):zap P f args h (fun r h'=>r=.panic e∧h'=h):=by
 intro M0 m w cargs hS hargs
 obtain ⟨hl,hg⟩:=zqE ha
 have hpa:zjr M0 w cargs pargs:=by
  refine ⟨by rw [hargs.1,hl],fun i c hi=>?_⟩
  obtain ⟨a,h1,h2⟩:=hg i c hi
  exact zjW (S:=⟨m,h,w⟩) hS (hargs.2 i a h1) h2
 obtain ⟨h1,h2⟩:=hc M0 w cargs (fun b hb=>(hS.m0 b hb).1) hS.gl.1 hpa
 refine ⟨h1,h2.mono fun en w' hh=>?_⟩
 obtain ⟨v',rfl,hr,hfr⟩:=hh
 obtain ⟨hk,hev⟩:=zko hS hfr
 exact ⟨.panic e,_,m,⟨rfl,rfl⟩,hev,hk,⟨v',rfl,hv.rep hr⟩⟩
theorem zj7 {P:Program} {H:Hints} {Q:Cont} {ops:Array Oper} {rest:List Oper} {dst:Option Tmp} {A:AAct} {f:FuncId} {args:List AV} {pargs:List PV} {e:PV} (hc:zkL P f pargs e) (ha:zi2 A.h args=some pargs) (hv:Flat e)
  (h2:@WQ ⟨Q⟩ (.panic e) A):@WF ⟨P,H,ops,rest,Q,dst⟩ A f args :=
 zbf (zse hc ha hv) (fun v h hr=>by cases hr.1) (fun v h hr=>by obtain ⟨e,rfl⟩:=hr;cases e;exact h2)
def zdq (e:Int):PV:=.iface 43 (.int .i64 e)
attribute [go_sem] zdq
theorem zhb (e:Int):Flat (zdq e):=.iface (.int _ _)
theorem znK (b:Bool) (e:Int) (h:Heap):zap Tryz.prog 92 [.p (.bool b),.p (.int .i64 e)] h (fun r h'=>h'=h∧r=if b=true then .ret (.p (.tuple [])) else .panic (zdq e)):=by
 refine zan zad (fn:=Tryz.f92) (n:=8) (rs:=[]) (by kernel_rfl) rfl rfl rfl zMN (Nat.le_of_ble_eq_true rfl) ?_
 simp only [go_sem,simprocAttr]
 cases b
 ·simp only [go_sem,simprocAttr]
 ·simp only [go_sem,simprocAttr]
theorem zak {H:Hints} {Q:Cont} {ops:Array Oper} {rest:List Oper} {dst:Option Tmp} {A:AAct} {b:Bool} {e:Int} (h1:b=true→@WO ⟨Tryz.prog,H,ops,rest,Q⟩ (A.put dst (.p (.tuple [])) A.h))
  (h2:b=false→@WQ ⟨Q⟩ (.panic (zdq e)) A):@WF ⟨Tryz.prog,H,ops,rest,Q,dst⟩ A 92 [.p (.bool b),.p (.int .i64 e)]:=by
 refine zbf (znK b e A.h) (fun v h hr=>?_) (fun v h hr=>?_)
 ·obtain ⟨rfl,hr⟩:=hr
  cases b
  ·cases hr
  ·cases hr;exact h1 rfl
 ·obtain ⟨rfl,hr⟩:=hr
  cases b
  ·cases hr;exact h2 rfl
  ·cases hr
theorem zEx (x:WxKind):zae Tryz.prog 203 [x.pv] (.str x.name):=by
 refine zaa zad (fn:=Tryz.f203) (n:=5) (rs:=[.tmp 2]) (by kernel_rfl) rfl rfl rfl zJL (Nat.le_of_ble_eq_true rfl) ?_
 simp only [go_sem,simprocAttr]
theorem zwE (s:ByteArray) (x:WxKind):zae Tryz.prog 295 [x.pv,.ptr 1 [.func (.func 203) [] []] 0 0,.ptr 1 [.str s] 0 0] (.bool (x.name==s)):=by
 refine zaa zad (fn:=Tryz.f295) (n:=10) (rs:=[.tmp 4]) (by kernel_rfl) rfl rfl rfl zIY (Nat.le_of_ble_eq_true rfl) ?_
 simp only [go_sem,simprocAttr]
 refine zau (zEx x) rfl ?_
 simp only [go_sem,simprocAttr]
theorem zGK (l:List WxKind) (s:ByteArray) (b:Bool) (hl:l.length<1000000000) (h0:0≤zam (fun x:WxKind=>x.name==s) l 0) :
  zae Tryz.prog 202 [.slice 2 (l.map WxKind.pv) b,.str s,.func (.func 203) [] []] (.int .i64 (zam (fun x:WxKind=>x.name==s) l 0)):=by
 refine zaa zad (fn:=Tryz.f202) (n:=15) (rs:=[.tmp 6]) (by kernel_rfl) rfl rfl rfl zCD (Nat.le_of_ble_eq_true rfl) ?_
 simp only [go_sem,simprocAttr]
 refine zaO (zkI (fv:=.func (.func 295) [] [.ptr 1 [.func (.func 203) [] []] 0 0,.ptr 1 [.str s] 0 0]) l (fun y=>y.name==s) b 2 rfl hl fun y _=>⟨_,_,_,rfl,zwE s y⟩) ?_ (.int _ _) ?_
 ·simp only [go_sem,simprocAttr]
 have hd:decide (0≤zam (fun x:WxKind=>x.name==s) l 0)=true:=by simpa using h0
 simp only [hd,go_sem,simprocAttr]
 refine zak (fun _=>?_) (fun h=>by cases h)
 simp only [go_sem,simprocAttr]
theorem zFH (l:List WxKind) (s:ByteArray) (b:Bool) (hl:l.length<1000000000) (h0:zam (fun x:WxKind=>x.name==s) l 0<0) :
  zkL Tryz.prog 202 [.slice 2 (l.map WxKind.pv) b,.str s,.func (.func 203) [] []] (zdq 4):=by
 refine zdU ?_
 refine zan zad (fn:=Tryz.f202) (n:=15) (rs:=[.tmp 6]) (by kernel_rfl) rfl rfl rfl zCD (Nat.le_of_ble_eq_true rfl) ?_
 simp only [go_sem,simprocAttr]
 refine zaO (zkI (fv:=.func (.func 295) [] [.ptr 1 [.func (.func 203) [] []] 0 0,.ptr 1 [.str s] 0 0]) l (fun y=>y.name==s) b 2 rfl hl fun y _=>⟨_,_,_,rfl,zwE s y⟩) ?_ (.int _ _) ?_
 ·simp only [go_sem,simprocAttr]
 have hd:decide (0≤zam (fun x:WxKind=>x.name==s) l 0)=false:=by simpa using h0
 simp only [hd,go_sem,simprocAttr]
 refine zak (fun h=>by cases h) (fun _=>?_)
 simp only [go_sem,simprocAttr]
theorem zEw (x:ClColour):zae Tryz.prog 208 [x.pv] (.str x.name):=by
 refine zaa zad (fn:=Tryz.f208) (n:=5) (rs:=[.tmp 2]) (by kernel_rfl) rfl rfl rfl zJH (Nat.le_of_ble_eq_true rfl) ?_
 simp only [go_sem,simprocAttr]
theorem zwD (s:ByteArray) (x:ClColour):zae Tryz.prog 299 [x.pv,.ptr 1 [.func (.func 208) [] []] 0 0,.ptr 1 [.str s] 0 0] (.bool (x.name==s)):=by
 refine zaa zad (fn:=Tryz.f299) (n:=10) (rs:=[.tmp 4]) (by kernel_rfl) rfl rfl rfl zCv (Nat.le_of_ble_eq_true rfl) ?_
 simp only [go_sem,simprocAttr]
 refine zau (zEw x) rfl ?_
 simp only [go_sem,simprocAttr]
theorem zGJ (l:List ClColour) (s:ByteArray) (b:Bool) (hl:l.length<1000000000) (h0:0≤zam (fun x:ClColour=>x.name==s) l 0) :
  zae Tryz.prog 207 [.slice 4 (l.map ClColour.pv) b,.str s,.func (.func 208) [] []] (.int .i64 (zam (fun x:ClColour=>x.name==s) l 0)):=by
 refine zaa zad (fn:=Tryz.f207) (n:=15) (rs:=[.tmp 6]) (by kernel_rfl) rfl rfl rfl zsw (Nat.le_of_ble_eq_true rfl) ?_
 simp only [go_sem,simprocAttr]
 refine zaO (zgT (fv:=.func (.func 299) [] [.ptr 1 [.func (.func 208) [] []] 0 0,.ptr 1 [.str s] 0 0]) l (fun y=>y.name==s) b 4 rfl hl fun y _=>⟨_,_,_,rfl,zwD s y⟩) ?_ (.int _ _) ?_
 ·simp only [go_sem,simprocAttr]
 have hd:decide (0≤zam (fun x:ClColour=>x.name==s) l 0)=true:=by simpa using h0
 simp only [hd,go_sem,simprocAttr]
 refine zak (fun _=>?_) (fun h=>by cases h)
 simp only [go_sem,simprocAttr]
theorem zFG (l:List ClColour) (s:ByteArray) (b:Bool) (hl:l.length<1000000000) (h0:zam (fun x:ClColour=>x.name==s) l 0<0) :
  zkL Tryz.prog 207 [.slice 4 (l.map ClColour.pv) b,.str s,.func (.func 208) [] []] (zdq 4):=by
 refine zdU ?_
 refine zan zad (fn:=Tryz.f207) (n:=15) (rs:=[.tmp 6]) (by kernel_rfl) rfl rfl rfl zsw (Nat.le_of_ble_eq_true rfl) ?_
 simp only [go_sem,simprocAttr]
 refine zaO (zgT (fv:=.func (.func 299) [] [.ptr 1 [.func (.func 208) [] []] 0 0,.ptr 1 [.str s] 0 0]) l (fun y=>y.name==s) b 4 rfl hl fun y _=>⟨_,_,_,rfl,zwD s y⟩) ?_ (.int _ _) ?_
 ·simp only [go_sem,simprocAttr]
 have hd:decide (0≤zam (fun x:ClColour=>x.name==s) l 0)=false:=by simpa using h0
 simp only [hd,go_sem,simprocAttr]
 refine zak (fun h=>by cases h) (fun _=>?_)
 simp only [go_sem,simprocAttr]
theorem zEv (x:ClColour):zae Tryz.prog 302 [x.pv] (.str x.name):=by
 refine zaa zad (fn:=Tryz.f302) (n:=5) (rs:=[.tmp 2]) (by kernel_rfl) rfl rfl rfl zIS (Nat.le_of_ble_eq_true rfl) ?_
 simp only [go_sem,simprocAttr]
theorem zwC (s:ByteArray) (x:ClColour):zae Tryz.prog 299 [x.pv,.ptr 1 [.func (.func 302) [] []] 0 0,.ptr 1 [.str s] 0 0] (.bool (x.name==s)):=by
 refine zaa zad (fn:=Tryz.f299) (n:=10) (rs:=[.tmp 4]) (by kernel_rfl) rfl rfl rfl zCv (Nat.le_of_ble_eq_true rfl) ?_
 simp only [go_sem,simprocAttr]
 refine zau (zEv x) rfl ?_
 simp only [go_sem,simprocAttr]
theorem zzT (l:List ClColour) (s:ByteArray) (b:Bool) (hl:l.length<1000000000) (h0:0≤zam (fun x:ClColour=>x.name==s) l 0) :
  zae Tryz.prog 207 [.slice 4 (l.map ClColour.pv) b,.str s,.func (.func 302) [] []] (.int .i64 (zam (fun x:ClColour=>x.name==s) l 0)):=by
 refine zaa zad (fn:=Tryz.f207) (n:=15) (rs:=[.tmp 6]) (by kernel_rfl) rfl rfl rfl zsw (Nat.le_of_ble_eq_true rfl) ?_
 simp only [go_sem,simprocAttr]
 refine zaO (zgT (fv:=.func (.func 299) [] [.ptr 1 [.func (.func 302) [] []] 0 0,.ptr 1 [.str s] 0 0]) l (fun y=>y.name==s) b 4 rfl hl fun y _=>⟨_,_,_,rfl,zwC s y⟩) ?_ (.int _ _) ?_
 ·simp only [go_sem,simprocAttr]
 have hd:decide (0≤zam (fun x:ClColour=>x.name==s) l 0)=true:=by simpa using h0
 simp only [hd,go_sem,simprocAttr]
 refine zak (fun _=>?_) (fun h=>by cases h)
 simp only [go_sem,simprocAttr]
theorem zFF (l:List ClColour) (s:ByteArray) (b:Bool) (hl:l.length<1000000000) (h0:zam (fun x:ClColour=>x.name==s) l 0<0) :
  zkL Tryz.prog 207 [.slice 4 (l.map ClColour.pv) b,.str s,.func (.func 302) [] []] (zdq 4):=by
 refine zdU ?_
 refine zan zad (fn:=Tryz.f207) (n:=15) (rs:=[.tmp 6]) (by kernel_rfl) rfl rfl rfl zsw (Nat.le_of_ble_eq_true rfl) ?_
 simp only [go_sem,simprocAttr]
 refine zaO (zgT (fv:=.func (.func 299) [] [.ptr 1 [.func (.func 302) [] []] 0 0,.ptr 1 [.str s] 0 0]) l (fun y=>y.name==s) b 4 rfl hl fun y _=>⟨_,_,_,rfl,zwC s y⟩) ?_ (.int _ _) ?_
 ·simp only [go_sem,simprocAttr]
 have hd:decide (0≤zam (fun x:ClColour=>x.name==s) l 0)=false:=by simpa using h0
 simp only [hd,go_sem,simprocAttr]
 refine zak (fun h=>by cases h) (fun _=>?_)
 simp only [go_sem,simprocAttr]
theorem zEu (x:ChLot):zae Tryz.prog 210 [x.pv] (.str x.name):=by
 refine zaa zad (fn:=Tryz.f210) (n:=5) (rs:=[.tmp 2]) (by kernel_rfl) rfl rfl rfl zJG (Nat.le_of_ble_eq_true rfl) ?_
 simp only [go_sem,simprocAttr]
theorem zwB (s:ByteArray) (x:ChLot):zae Tryz.prog 300 [x.pv,.ptr 1 [.func (.func 210) [] []] 0 0,.ptr 1 [.str s] 0 0] (.bool (x.name==s)):=by
 refine zaa zad (fn:=Tryz.f300) (n:=10) (rs:=[.tmp 4]) (by kernel_rfl) rfl rfl rfl zIU (Nat.le_of_ble_eq_true rfl) ?_
 simp only [go_sem,simprocAttr]
 refine zau (zEu x) rfl ?_
 simp only [go_sem,simprocAttr]
theorem zGI (l:List ChLot) (s:ByteArray) (b:Bool) (hl:l.length<1000000000) (h0:0≤zam (fun x:ChLot=>x.name==s) l 0) :
  zae Tryz.prog 209 [.slice 4 (l.map ChLot.pv) b,.str s,.func (.func 210) [] []] (.int .i64 (zam (fun x:ChLot=>x.name==s) l 0)):=by
 refine zaa zad (fn:=Tryz.f209) (n:=15) (rs:=[.tmp 6]) (by kernel_rfl) rfl rfl rfl zCC (Nat.le_of_ble_eq_true rfl) ?_
 simp only [go_sem,simprocAttr]
 refine zaO (zj2 (fv:=.func (.func 300) [] [.ptr 1 [.func (.func 210) [] []] 0 0,.ptr 1 [.str s] 0 0]) l (fun y=>y.name==s) b 4 rfl hl fun y _=>⟨_,_,_,rfl,zwB s y⟩) ?_ (.int _ _) ?_
 ·simp only [go_sem,simprocAttr]
 have hd:decide (0≤zam (fun x:ChLot=>x.name==s) l 0)=true:=by simpa using h0
 simp only [hd,go_sem,simprocAttr]
 refine zak (fun _=>?_) (fun h=>by cases h)
 simp only [go_sem,simprocAttr]
theorem zFE (l:List ChLot) (s:ByteArray) (b:Bool) (hl:l.length<1000000000) (h0:zam (fun x:ChLot=>x.name==s) l 0<0) :
  zkL Tryz.prog 209 [.slice 4 (l.map ChLot.pv) b,.str s,.func (.func 210) [] []] (zdq 4):=by
 refine zdU ?_
 refine zan zad (fn:=Tryz.f209) (n:=15) (rs:=[.tmp 6]) (by kernel_rfl) rfl rfl rfl zCC (Nat.le_of_ble_eq_true rfl) ?_
 simp only [go_sem,simprocAttr]
 refine zaO (zj2 (fv:=.func (.func 300) [] [.ptr 1 [.func (.func 210) [] []] 0 0,.ptr 1 [.str s] 0 0]) l (fun y=>y.name==s) b 4 rfl hl fun y _=>⟨_,_,_,rfl,zwB s y⟩) ?_ (.int _ _) ?_
 ·simp only [go_sem,simprocAttr]
 have hd:decide (0≤zam (fun x:ChLot=>x.name==s) l 0)=false:=by simpa using h0
 simp only [hd,go_sem,simprocAttr]
 refine zak (fun h=>by cases h) (fun _=>?_)
 simp only [go_sem,simprocAttr]
theorem zEt (x:ChBatch):zae Tryz.prog 212 [x.pv] (.str x.name):=by
 refine zaa zad (fn:=Tryz.f212) (n:=5) (rs:=[.tmp 2]) (by kernel_rfl) rfl rfl rfl zJF (Nat.le_of_ble_eq_true rfl) ?_
 simp only [go_sem,simprocAttr]
theorem zwA (s:ByteArray) (x:ChBatch):zae Tryz.prog 301 [x.pv,.ptr 1 [.func (.func 212) [] []] 0 0,.ptr 1 [.str s] 0 0] (.bool (x.name==s)):=by
 refine zaa zad (fn:=Tryz.f301) (n:=10) (rs:=[.tmp 4]) (by kernel_rfl) rfl rfl rfl zIT (Nat.le_of_ble_eq_true rfl) ?_
 simp only [go_sem,simprocAttr]
 refine zau (zEt x) rfl ?_
 simp only [go_sem,simprocAttr]
theorem zGH (l:List ChBatch) (s:ByteArray) (b:Bool) (hl:l.length<1000000000) (h0:0≤zam (fun x:ChBatch=>x.name==s) l 0) :
  zae Tryz.prog 211 [.slice 4 (l.map ChBatch.pv) b,.str s,.func (.func 212) [] []] (.int .i64 (zam (fun x:ChBatch=>x.name==s) l 0)):=by
 refine zaa zad (fn:=Tryz.f211) (n:=15) (rs:=[.tmp 6]) (by kernel_rfl) rfl rfl rfl zCB (Nat.le_of_ble_eq_true rfl) ?_
 simp only [go_sem,simprocAttr]
 refine zaO (zj1 (fv:=.func (.func 301) [] [.ptr 1 [.func (.func 212) [] []] 0 0,.ptr 1 [.str s] 0 0]) l (fun y=>y.name==s) b 4 rfl hl fun y _=>⟨_,_,_,rfl,zwA s y⟩) ?_ (.int _ _) ?_
 ·simp only [go_sem,simprocAttr]
 have hd:decide (0≤zam (fun x:ChBatch=>x.name==s) l 0)=true:=by simpa using h0
 simp only [hd,go_sem,simprocAttr]
 refine zak (fun _=>?_) (fun h=>by cases h)
 simp only [go_sem,simprocAttr]
theorem zFD (l:List ChBatch) (s:ByteArray) (b:Bool) (hl:l.length<1000000000) (h0:zam (fun x:ChBatch=>x.name==s) l 0<0) :
  zkL Tryz.prog 211 [.slice 4 (l.map ChBatch.pv) b,.str s,.func (.func 212) [] []] (zdq 4):=by
 refine zdU ?_
 refine zan zad (fn:=Tryz.f211) (n:=15) (rs:=[.tmp 6]) (by kernel_rfl) rfl rfl rfl zCB (Nat.le_of_ble_eq_true rfl) ?_
 simp only [go_sem,simprocAttr]
 refine zaO (zj1 (fv:=.func (.func 301) [] [.ptr 1 [.func (.func 212) [] []] 0 0,.ptr 1 [.str s] 0 0]) l (fun y=>y.name==s) b 4 rfl hl fun y _=>⟨_,_,_,rfl,zwA s y⟩) ?_ (.int _ _) ?_
 ·simp only [go_sem,simprocAttr]
 have hd:decide (0≤zam (fun x:ChBatch=>x.name==s) l 0)=false:=by simpa using h0
 simp only [hd,go_sem,simprocAttr]
 refine zak (fun h=>by cases h) (fun _=>?_)
 simp only [go_sem,simprocAttr]
theorem zEs (x:HrKind):zae Tryz.prog 216 [x.pv] (.str x.name):=by
 refine zaa zad (fn:=Tryz.f216) (n:=5) (rs:=[.tmp 2]) (by kernel_rfl) rfl rfl rfl zJD (Nat.le_of_ble_eq_true rfl) ?_
 simp only [go_sem,simprocAttr]
theorem zwz (s:ByteArray) (x:HrKind):zae Tryz.prog 304 [x.pv,.ptr 1 [.func (.func 216) [] []] 0 0,.ptr 1 [.str s] 0 0] (.bool (x.name==s)):=by
 refine zaa zad (fn:=Tryz.f304) (n:=10) (rs:=[.tmp 4]) (by kernel_rfl) rfl rfl rfl zIR (Nat.le_of_ble_eq_true rfl) ?_
 simp only [go_sem,simprocAttr]
 refine zau (zEs x) rfl ?_
 simp only [go_sem,simprocAttr]
theorem zGG (l:List HrKind) (s:ByteArray) (b:Bool) (hl:l.length<1000000000) (h0:0≤zam (fun x:HrKind=>x.name==s) l 0) :
  zae Tryz.prog 215 [.slice 4 (l.map HrKind.pv) b,.str s,.func (.func 216) [] []] (.int .i64 (zam (fun x:HrKind=>x.name==s) l 0)):=by
 refine zaa zad (fn:=Tryz.f215) (n:=15) (rs:=[.tmp 6]) (by kernel_rfl) rfl rfl rfl zCz (Nat.le_of_ble_eq_true rfl) ?_
 simp only [go_sem,simprocAttr]
 refine zaO (ziy (fv:=.func (.func 304) [] [.ptr 1 [.func (.func 216) [] []] 0 0,.ptr 1 [.str s] 0 0]) l (fun y=>y.name==s) b 4 rfl hl fun y _=>⟨_,_,_,rfl,zwz s y⟩) ?_ (.int _ _) ?_
 ·simp only [go_sem,simprocAttr]
 have hd:decide (0≤zam (fun x:HrKind=>x.name==s) l 0)=true:=by simpa using h0
 simp only [hd,go_sem,simprocAttr]
 refine zak (fun _=>?_) (fun h=>by cases h)
 simp only [go_sem,simprocAttr]
theorem zFC (l:List HrKind) (s:ByteArray) (b:Bool) (hl:l.length<1000000000) (h0:zam (fun x:HrKind=>x.name==s) l 0<0) :
  zkL Tryz.prog 215 [.slice 4 (l.map HrKind.pv) b,.str s,.func (.func 216) [] []] (zdq 4):=by
 refine zdU ?_
 refine zan zad (fn:=Tryz.f215) (n:=15) (rs:=[.tmp 6]) (by kernel_rfl) rfl rfl rfl zCz (Nat.le_of_ble_eq_true rfl) ?_
 simp only [go_sem,simprocAttr]
 refine zaO (ziy (fv:=.func (.func 304) [] [.ptr 1 [.func (.func 216) [] []] 0 0,.ptr 1 [.str s] 0 0]) l (fun y=>y.name==s) b 4 rfl hl fun y _=>⟨_,_,_,rfl,zwz s y⟩) ?_ (.int _ _) ?_
 ·simp only [go_sem,simprocAttr]
 have hd:decide (0≤zam (fun x:HrKind=>x.name==s) l 0)=false:=by simpa using h0
 simp only [hd,go_sem,simprocAttr]
 refine zak (fun h=>by cases h) (fun _=>?_)
 simp only [go_sem,simprocAttr]
theorem zEr (x:Wax):zae Tryz.prog 220 [x.pv] (.str x.name):=by
 refine zaa zad (fn:=Tryz.f220) (n:=5) (rs:=[.tmp 2]) (by kernel_rfl) rfl rfl rfl zJA (Nat.le_of_ble_eq_true rfl) ?_
 simp only [go_sem,simprocAttr]
theorem zwy (s:ByteArray) (x:Wax):zae Tryz.prog 308 [x.pv,.ptr 1 [.func (.func 220) [] []] 0 0,.ptr 1 [.str s] 0 0] (.bool (x.name==s)):=by
 refine zaa zad (fn:=Tryz.f308) (n:=10) (rs:=[.tmp 4]) (by kernel_rfl) rfl rfl rfl zIN (Nat.le_of_ble_eq_true rfl) ?_
 simp only [go_sem,simprocAttr]
 refine zau (zEr x) rfl ?_
 simp only [go_sem,simprocAttr]
theorem zGF (l:List Wax) (s:ByteArray) (b:Bool) (hl:l.length<1000000000) (h0:0≤zam (fun x:Wax=>x.name==s) l 0) :
  zae Tryz.prog 219 [.slice 8 (l.map Wax.pv) b,.str s,.func (.func 220) [] []] (.int .i64 (zam (fun x:Wax=>x.name==s) l 0)):=by
 refine zaa zad (fn:=Tryz.f219) (n:=15) (rs:=[.tmp 6]) (by kernel_rfl) rfl rfl rfl zCy (Nat.le_of_ble_eq_true rfl) ?_
 simp only [go_sem,simprocAttr]
 refine zaO (zkJ (fv:=.func (.func 308) [] [.ptr 1 [.func (.func 220) [] []] 0 0,.ptr 1 [.str s] 0 0]) l (fun y=>y.name==s) b 8 rfl hl fun y _=>⟨_,_,_,rfl,zwy s y⟩) ?_ (.int _ _) ?_
 ·simp only [go_sem,simprocAttr]
 have hd:decide (0≤zam (fun x:Wax=>x.name==s) l 0)=true:=by simpa using h0
 simp only [hd,go_sem,simprocAttr]
 refine zak (fun _=>?_) (fun h=>by cases h)
 simp only [go_sem,simprocAttr]
theorem zFB (l:List Wax) (s:ByteArray) (b:Bool) (hl:l.length<1000000000) (h0:zam (fun x:Wax=>x.name==s) l 0<0) :
  zkL Tryz.prog 219 [.slice 8 (l.map Wax.pv) b,.str s,.func (.func 220) [] []] (zdq 4):=by
 refine zdU ?_
 refine zan zad (fn:=Tryz.f219) (n:=15) (rs:=[.tmp 6]) (by kernel_rfl) rfl rfl rfl zCy (Nat.le_of_ble_eq_true rfl) ?_
 simp only [go_sem,simprocAttr]
 refine zaO (zkJ (fv:=.func (.func 308) [] [.ptr 1 [.func (.func 220) [] []] 0 0,.ptr 1 [.str s] 0 0]) l (fun y=>y.name==s) b 8 rfl hl fun y _=>⟨_,_,_,rfl,zwy s y⟩) ?_ (.int _ _) ?_
 ·simp only [go_sem,simprocAttr]
 have hd:decide (0≤zam (fun x:Wax=>x.name==s) l 0)=false:=by simpa using h0
 simp only [hd,go_sem,simprocAttr]
 refine zak (fun h=>by cases h) (fun _=>?_)
 simp only [go_sem,simprocAttr]
inductive Word where
 |s (l:List UInt8)
 |n (i:Int)
 |ns (l:List Int)
def Word.pv:Word→PV
 |.s l=>.iface 9 (.str (bs l))
 |.n i=>.iface 3 (.int .i64 i)
 |.ns l=>.iface 97 (.slice 1 (l.map zay) false)
def Word.ws:Word→List (List UInt8)
 |.s l=>[l]
 |.n i=>[dec i]
 |.ns l=>l.map dec
def Word.ok:Word→Prop
 |.s l=>l.length≤1000
 |.n i=>0≤i∧i<1000000000
 |.ns l=>l.length≤1000∧∀ i,i∈l→0≤i∧i<1000000000
theorem zpA:∀ l:List (List UInt8),Lib.join l [32]=joinL l
 |[]=>rfl
 |[x]=>by rw [Lib.join_one];rfl
 |x::y::r=>by
  have ih:=zpA (y::r)
  rw [joinL,←ih,Lib.join_cons,Lib.join_cons]
  simp [Lib.joinTail]
end Ch
end Abs
end Go.Proofs.YtahlnclapingiaaGreatDoor
namespace Go.Proofs.YtahlnclapingiaaGreatDoor
namespace Abs
namespace Ch
set_option maxRecDepth 4000
theorem zha {n:Int} (h:0≤n):zpC n=bs (dec n):=by
 obtain ⟨m,rfl⟩:=Int.eq_ofNat_of_zero_le h
 unfold zpC dec bs
 congr 2
theorem zp0 (n:Int) (h0:0≤n) (h1:n<1000000000):zae Tryz.prog 25 [.int .i64 n] (.str (bs (dec n))):=by
 rw [←zha h0]
 exact znP n (by omega) (by omega)
def zlt (x:List UInt8):AV:=.p (.str (bs x))
attribute [go_sem] zlt
theorem zzz (n:Nat) (h:Heap) (l:List (List UInt8)):zaD (zbe n h) (l.map zlt)=some (l.map fun x=>.str (bs x)):=zbV (zcp n h) (fun x=>PV.str (bs x)) l
theorem zLf:bs [32]=({ data:=#[32] }:ByteArray):=rfl
theorem zFs {w:Word} (h:w.ok):w.ws.length≤1000:=by
 cases w with
 |s l=>simp [Word.ws]
 |n i=>simp [Word.ws]
 |ns l=>simpa [Word.ws] using h.1
theorem ztV {n:Int} (h0:0≤n) (h1:n<1000000000):(dec n).length≤1000:=by
 obtain ⟨m,rfl⟩:=Int.eq_ofNat_of_zero_le h0
 have:=zl4 8 m (by omega)
 unfold dec
 rw [Int.toNat_natCast]
 omega
theorem zC9 {w:Word} (h:w.ok):∀ x,x∈w.ws→x.length≤1000:=by
 intro x hx
 cases w with
 |s l=>simp [Word.ws] at hx;subst hx;exact h
 |n i=>simp [Word.ws] at hx;subst hx;exact ztV h.1 h.2
 |ns l =>
  simp only [Word.ws,List.mem_map] at hx
  obtain ⟨i,hi,rfl⟩:=hx
  have:=h.2 i hi
  exact ztV this.1 this.2
theorem ztE (sep:List UInt8):∀ l:List (List UInt8),(∀ x,x∈l→x.length≤1000)→sep.length≤1→(Lib.join l sep).length≤l.length*1001
 |[],_,_=>by simp [Lib.join_nil]
 |[x],h,_=>by have:=h x (by simp);rw [Lib.join_one];simp;omega
 |x::y::r,h,hs=>by
  have ih:=ztE sep (y::r) (fun z hz=>h z (by simp [hz])) hs
  have h1:=h x (by simp)
  rw [Lib.join_cons] at ih ⊢
  have e:Lib.joinTail sep (y::r)=sep++(y++Lib.joinTail sep r):=by simp [Lib.joinTail]
  rw [e]
  simp only [List.length_append,List.length_cons] at ih ⊢
  omega
theorem zix (l:List Word) (fl:Bool) (hl:l.length≤100) (hok:∀ w,w∈l→w.ok):zae Tryz.prog 45 [.slice 1 (l.map Word.pv) fl] (.str (bs (joinL (l.flatMap Word.ws)))):=by
 have hfl:∀ done:List Word,(∀ w,w∈done→w.ok)→(done.flatMap Word.ws).length≤done.length*1000:=fun done h=>Cl.zlZ done fun w hw=>zFs (h w hw)
 refine zaa zad (fn:=Tryz.f45) (n:=51) (rs:=[.tmp 2]) (by kernel_rfl) rfl rfl rfl zM6 (Nat.le_of_ble_eq_true rfl) ?_
 simp only [go_sem,simprocAttr]
 refine zcQ 3 1 (by simp only [go_sem,simprocAttr]) ?_
 simp only [go_sem,simprocAttr]
 refine zbb [11,12] l (by omega) (τ:=Unit) (fun done rest _=>True) (fun done _=>[(3,.slice 0 (done.flatMap Word.ws).length 0 (done.flatMap Word.ws).length),(13,.p (.int .i64 done.length))]) (fun done _=>[.row 1 ((done.flatMap Word.ws).map zlt)]) () trivial ?_ ?_ ?_
 ·simp only [List.flatMap_nil,go_sem,simprocAttr]
 ·intro _ _
  simp only [go_sem,simprocAttr]
  have hb:=ztE [32] (l.flatMap Word.ws) (fun x hx=>by
   obtain ⟨w,hw,hx⟩:=List.mem_flatMap.1 hx
   exact zC9 (hok w hw) x hx) (by simp)
  have h2:=hfl l hok
  have hj:=zLc (l.flatMap Word.ws) [32] false (by omega) (by omega)
  rw [zpA] at hj
  refine zaO hj ?_ (.str _) ?_
  ·simp only [zzz,zLf,go_sem,simprocAttr]
  simp only [go_sem,simprocAttr]
 ·intro done w r _ e1 _ hx hlt hnx
  have hwo:=hok w (by rw [e1];simp)
  have hdl:=hfl done (fun w hw=>hok w (by rw [e1];simp [hw]))
  have hdn:done.length≤100:=by rw [e1] at hl;simp at hl;omega
  have hrm:(done.flatMap Word.ws).length+1≤zar:=by simp only [zar];omega
  cases w with
  |s x =>
   simp only [hlt,hx,Word.pv,hrm,go_sem,simprocAttr]
   refine zaA e1 () trivial ?_
   simp only [hnx,List.flatMap_append,List.flatMap_cons,List.flatMap_nil,Word.ws,List.length_append,List.map_append,List.append_nil,go_sem,simprocAttr]
  |n i =>
   simp only [hlt,hx,Word.pv,hrm,go_sem,simprocAttr]
   refine zab (zp0 i hwo.1 hwo.2) rfl ?_
   simp only [hrm,go_sem,simprocAttr]
   refine zaA e1 () trivial ?_
   simp only [hnx,List.flatMap_append,List.flatMap_cons,List.flatMap_nil,Word.ws,List.length_append,List.map_append,List.append_nil,go_sem,simprocAttr]
  |ns q =>
   simp only [hlt,hx,Word.pv,hrm,go_sem,simprocAttr]
   have hq:=hwo.1
   refine zbb [11,12,13,36,37] q (by omega) (τ:=Unit) (fun d2 rest _=>True) (fun d2 _=>[(3,.slice 0 ((done.flatMap Word.ws).length+d2.length) 0 ((done.flatMap Word.ws).length+d2.length)),(38,.p (.int .i64 d2.length))]) (fun d2 _=>[.row 1 ((done.flatMap Word.ws).map zlt++(d2.map dec).map zlt)]) () trivial ?_ ?_ ?_
   ·simp only [List.map_nil,List.append_nil,Nat.add_zero,go_sem,simprocAttr]
   ·intro _ _
    simp only [go_sem,simprocAttr]
    refine zaA e1 () trivial ?_
    simp only [hnx,List.flatMap_append,List.flatMap_cons,List.flatMap_nil,Word.ws,List.length_append,List.map_append,List.append_nil,go_sem,simprocAttr]
   ·intro d2 i r2 _ e3 _ hx2 hlt2 hnx2
    have hio:=hwo.2 i (by rw [e3];simp)
    have hd2:d2.length≤1000:=by rw [e3] at hq;simp at hq;omega
    have hrm2:(done.flatMap Word.ws).length+d2.length+1≤zar:=by simp only [zar];omega
    simp only [hlt2,hx2,go_sem,simprocAttr]
    refine zab (zp0 i hio.1 hio.2) rfl ?_
    simp only [hrm2,List.length_append,go_sem,simprocAttr]
    refine zaA e3 () trivial ?_
    simp only [hnx2,List.length_append,List.length_singleton,List.map_append,List.map_cons,List.map_nil,List.append_assoc,Nat.add_assoc,go_sem,simprocAttr]
end Ch
end Abs
end Go.Proofs.YtahlnclapingiaaGreatDoor
namespace Go.Proofs.YtahlnclapingiaaGreatDoor
namespace Abs
set_option maxRecDepth 4000
def zed (v:List Int×Int):PV:=if v.2=0 then zoy v.1 else .nilslice
set_option maxHeartbeats 2000000 in
theorem zDB (s:HrShop) (l:List HrTest) (boxes:List HrBox):zep Tryz.prog 218 [s.pv,.slice 3 (l.map HrTest.pv) false,.slice 2 (boxes.map HrBox.pv) false] (.tuple [zed (zbl s l boxes),.int .i64 (zbl s l boxes).2]):=by
 refine zdD zad (fn:=Tryz.f218) (n:=91) (rs:=[.tmp 6,.tmp 7]) (by kernel_rfl) rfl rfl rfl zJB (Nat.le_of_ble_eq_true rfl) ?_
 simp only [go_sem,simprocAttr]
 refine zab (zxQ s l (-1)) rfl ?_
 simp only [zxl,go_sem,simprocAttr]
 cases h0:decide (zbC s l=0)
 ·have h0':¬ zbC s l=0:=by simpa using h0
  have hsp:zbl s l boxes=([],zbC s l):=by rw [zbl,if_neg h0']
  rw [hsp,if_neg h0']
  have hch:(hrCheck s).2.2=0→zbC s l=4→l.length<1000000000:=by
   intro hc h4
   unfold zbC at h4
   rw [if_pos hc] at h4
   split at h4
   ·cases h4
   ·omega
  cases h4:(zbC s l != 4)
  ·have h4':zbC s l=4:=by simpa using h4
   simp only [go_sem,simprocAttr]
   refine zab (zii s l false (fun hc=>hch hc h4')) rfl ?_
   have hop:(zba s l != 0)=true:=by
    unfold zbC at h4'
    unfold zba
    split at h4'
    ·rename_i hc
     split at h4'
     ·cases h4'
     ·rw [if_pos hc,h4'];rfl
    ·rename_i hc
     rw [if_neg hc,h4'];rfl
   simp only [hop,zed,if_neg h0',go_sem,simprocAttr]
  ·simp only [zed,if_neg h0',go_sem,simprocAttr]
 have h0':zbC s l=0:=by simpa using h0
 have hok:=zpH h0'
 have hkk:=zg0 hok.1
 have hop:zba s l=0:=by rw [zba,if_pos hok.1,hok.2.2]
 rw [if_pos h0']
 simp only [go_sem,simprocAttr]
 refine zab (zii s l false (fun _=>by omega)) rfl ?_
 simp only [hop,go_sem,simprocAttr]
 cases h20:decide ((20:Int)<(boxes.length:Int))
 rotate_left
 ·have h20':20<boxes.length:=by simp at h20;omega
  have hsp:zbl s l boxes=([],3):=by rw [zbl,if_pos h0',if_pos h20']
  rw [hsp]
  simp only [zed,if_neg (show ¬ (3:Int)=0 by decide),go_sem,simprocAttr]
 have h20':¬ 20<boxes.length:=by simp at h20;omega
 have hsp:zbl s l boxes=zbs s l 0 boxes:=by rw [zbl,if_pos h0',if_neg h20']
 rw [hsp]
 have hj:zbs s l 0 boxes=zft [] (zbs s l 0 boxes):=by
  have key:∀ q:List Int×Int,(q.2≠0→q.1=[])→q=zft [] q:=by
   rintro ⟨a,b⟩ h
   simp only [zft,List.nil_append]
   split
   ·rename_i h1;rw [show b=0 from h1]
   ·rename_i h1;rw [show a=[] from h h1]
  refine key _ ?_
  generalize (0:Nat)=i
  cases boxes with
  |nil=>intro h;exact absurd rfl h
  |cons b r =>
   intro h
   rw [zbs] at h ⊢
   split
   ·split
    ·rename_i h1 h2;rw [if_pos h1,if_pos h2] at h;exact absurd rfl h
    ·rfl
   ·rfl
 rw [hj]
 simp only [go_sem,simprocAttr]
 refine zcQ 6 1 (by simp only [go_sem,simprocAttr]) ?_
 simp only [go_sem,simprocAttr]
 refine zcZ [1,3,8,36,37] (σ:=List HrBox×List HrBox×List Int×List (Int×Int)×Heap)
  (fun q=>boxes=q.1++q.2.1∧zft [] (zbs s l 0 boxes)=zft q.2.2.1 (zbs s l q.1.length q.2.1)∧q.2.2.1.length≤q.1.length ∧
   ∀ k v,zfo k q.2.2.2.1=some v→(zaN s l k).2=0∧v=(zaN s l k).1.promise) (fun q=>q.2.1.length)
  (fun q=>[(6,.slice 2 q.2.2.1.length 0 q.2.2.1.length),(38,.p (.int .i64 q.1.length))])
  (fun q=>[.row 3 [.p s.pv],.mp (q.2.2.2.1.map mpE),.row 1 (q.2.2.1.map fun n=>.p (zay n))]++q.2.2.2.2) ([],boxes,[],[],[]) ⟨rfl,rfl,Nat.le_refl _,fun k v h=>by cases h⟩ (by simp only [List.map_nil,List.append_nil,go_sem,simprocAttr]) ?_ ?_
 ·simp only [go_sem,simprocAttr]
 rintro ⟨done,rest,out,es,g⟩ ⟨e1,e2,e3,e4⟩
 dsimp only at e1 e2 e3 e4
 cases rest with
 |nil =>
  have hlt:¬ ((done.length:Int)<(boxes.length:Int)):=by rw [e1];simp
  have e5:zft out (zbs s l done.length [])=(out,0):=by rw [zbs,zft,if_pos rfl,List.append_nil]
  rw [e2,e5]
  have hfz:∀ n h (ms:List Int),zaD (zdF n h) (ms.map fun n=>AV.p (PV.int .i64 n))=some (ms.map zay):=fun n h ms=>zgi n h zay (fun _=>rfl) ms
  simp only [hlt,decide_false,zed,if_pos,zoy,hfz,zmq,go_sem,simprocAttr]
 |cons b r =>
  obtain ⟨hx,hltt⟩:=zeb e1
  have hlen1:=congrArg List.length e1
  simp only [List.length_append,List.length_cons] at hlen1
  have hnx:IntKind.i64.wrap ((done.length:Int)+1)=(((done++[b]).length:Nat):Int):=za9 (by omega) (by simp [zar];omega) (by simp)
  have g0:=zgg (lo:=g) rfl
  have s0:=zhL (lo:=g) rfl
  have gg:=zgf (lo:=g) rfl
  have ss:=zhK (lo:=g) rfl
  have hw:IntKind.i64.wrap ((s.kinds.length:Int)-1)=(s.kinds.length:Int)-1:=zaj (by omega) (by omega)
  simp only [hltt,decide_true,hx,g0,s0,gg,ss,hw,go_sem,simprocAttr]
  refine zab (zeT 0 _ [_] true (by simp)) rfl ?_
  simp only [List.any_cons,List.any_nil,Bool.or_false,go_sem,simprocAttr]
  cases h2:gIn b.kind 0 ((s.kinds.length:Int)-1)
  ·rw [e2,zoG (e:=4) (by rw [ziT,h2];rfl) (by decide)]
   simp only [zed,if_neg (show ¬ (4:Int)=0 by decide),go_sem,simprocAttr]
  simp only [g0,s0,gg,ss,go_sem,simprocAttr]
  refine zab (zeT 0 1000000 [_] true (by simp)) rfl ?_
  simp only [List.any_cons,List.any_nil,Bool.or_false,go_sem,simprocAttr]
  cases h3:gIn b.hours 0 1000000
  ·rw [e2,zoG (e:=7) (by rw [ziT,h2,h3];rfl) (by decide)]
   simp only [zed,if_neg (show ¬ (7:Int)=0 by decide),go_sem,simprocAttr]
  have hbe:ziT s l b=(zaN s l b.kind).2:=by rw [ziT,h2,h3];rfl
  have hgi:=zpt b.kind es
  simp only [g0,s0,gg,ss,hgi,go_sem,simprocAttr]
  have hrm:out.length+1≤zar:=by simp [zar];omega
  cases hm:zfo b.kind es with
  |some v =>
   obtain ⟨hl0,rfl⟩:=e4 _ _ hm
   have hj2:=zwk (out:=out) (i:=done.length) (r:=r) (hbe.trans hl0)
   simp only [g0,s0,gg,ss,go_sem,simprocAttr]
   cases h9:decide ((zaN s l b.kind).1.promise<b.hours)
   ·have h9':¬ (zaN s l b.kind).1.promise<b.hours:=by simpa using h9
    rw [if_neg h9',List.append_nil] at hj2
    simp only [g0,s0,gg,ss,go_sem,simprocAttr]
    refine zaS (done++[b],r,out,es,g++[.row 2 [.p b.pv]]) ⟨by rw [e1];simp,by rw [e2,hj2];simp,by simp;omega,e4⟩ (Nat.lt_succ_self _) (by simp only [List.append_assoc,go_sem,simprocAttr]) ?_
    simp only [hnx,go_sem,simprocAttr]
   ·have h9':(zaN s l b.kind).1.promise<b.hours:=by simpa using h9
    rw [if_pos h9'] at hj2
    simp only [g0,s0,gg,ss,hrm,go_sem,simprocAttr]
    refine zaS (done++[b],r,out++[((done.length:Nat):Int)],es,g++[.row 2 [.p b.pv]]) ⟨by rw [e1];simp,by rw [e2,hj2];simp,by simp;omega,e4⟩ (Nat.lt_succ_self _) (by simp only [List.append_assoc,List.map_append,go_sem,simprocAttr]) ?_
    simp only [hnx,List.length_append,List.length_singleton,go_sem,simprocAttr]
  |none =>
   simp only [g0,s0,gg,ss,go_sem,simprocAttr]
   refine zab (zxQ s l b.kind) rfl ?_
   simp only [g0,s0,gg,ss,List.append_assoc,List.length_append,List.length_singleton,go_sem,simprocAttr]
   cases hl:((zaN s l b.kind).2 != 0)
   rotate_left
   ·have hl':(zaN s l b.kind).2≠0:=by simpa using hl
    rw [e2,zoG hbe hl']
    simp only [zed,if_neg hl',go_sem,simprocAttr]
   have hl0:(zaN s l b.kind).2=0:=by simpa using hl
   have hj2:=zwk (out:=out) (i:=done.length) (r:=r) (hbe.trans hl0)
   have hmp:=zps b.kind (zaN s l b.kind).1.promise es hm
   have hes:∀ k v,zfo k (es++[(b.kind,(zaN s l b.kind).1.promise)])=some v→(zaN s l k).2=0∧v=(zaN s l k).1.promise:=by
    intro k v h
    rw [zmM] at h
    cases hk:zfo k es with
    |some u=>rw [hk] at h;cases h;exact e4 k _ hk
    |none =>
     rw [hk] at h
     dsimp only [Option.or] at h
     split at h
     ·rename_i hkk;cases h;rw [hkk];exact ⟨hl0,rfl⟩
     ·cases h
   simp only [g0,s0,gg,ss,go_sem,simprocAttr]
   refine zab (zrN _ (zmY hl0).1) rfl ?_
   simp only [g0,s0,gg,ss,hmp,go_sem,simprocAttr]
   cases h9:decide ((zaN s l b.kind).1.promise<b.hours)
   ·have h9':¬ (zaN s l b.kind).1.promise<b.hours:=by simpa using h9
    rw [if_neg h9',List.append_nil] at hj2
    simp only [g0,s0,gg,ss,go_sem,simprocAttr]
    refine zaS (done++[b],r,out,es++[(b.kind,(zaN s l b.kind).1.promise)],g++[.row 2 [.p b.pv],.row 6 [.p (zaN s l b.kind).1.pv]]) ⟨by rw [e1];simp,by rw [e2,hj2];simp,by simp;omega,hes⟩ (Nat.lt_succ_self _) (by simp only [List.append_assoc,go_sem,simprocAttr]) ?_
    simp only [hnx,go_sem,simprocAttr]
   ·have h9':(zaN s l b.kind).1.promise<b.hours:=by simpa using h9
    rw [if_pos h9'] at hj2
    simp only [g0,s0,gg,ss,hrm,go_sem,simprocAttr]
    refine zaS (done++[b],r,out++[((done.length:Nat):Int)],es++[(b.kind,(zaN s l b.kind).1.promise)],g++[.row 2 [.p b.pv],.row 6 [.p (zaN s l b.kind).1.pv]]) ⟨by rw [e1];simp,by rw [e2,hj2];simp,by simp;omega,hes⟩ (Nat.lt_succ_self _) (by simp only [List.append_assoc,List.map_append,go_sem,simprocAttr]) ?_
    simp only [hnx,List.length_append,List.length_singleton,go_sem,simprocAttr]
end Abs
end Go.Proofs.YtahlnclapingiaaGreatDoor
