/-
  CONTRACTS: what is checked of a shop, in the program and in the reference: both come to 'c
-/
import Derived.Test.YtahlnclapingiaaGreatDoorLibNameX
set_option linter.unusedSimpArgs false
set_option linter.unusedVariables false
namespace Go.Proofs.YtahlnclapingiaaGreatDoor
namespace Abs
namespace Wk
set_option maxRecDepth 4000
theorem zpY (lo hi n:Int):zae Tryz.prog 260 [.int .i64 n,.ptr 1 [.int .i64 lo] 0 0,.ptr 1 [.int .i64 hi] 0 0] (.bool (!gIn n lo hi)):=by
 refine zaa zad (fn:=Tryz.f260) (n:=13) (rs:=[.tmp 4]) (by kernel_rfl) rfl rfl rfl zJo (Nat.le_of_ble_eq_true rfl) ?_
 simp only [go_sem,simprocAttr]
 refine zaH (fun hb=>?_) (fun hb=>?_)<;>simp only [hb,go_sem,simprocAttr]<;>simp_all [gIn]
 rw [←decide_not];congr 1;simp
theorem zcF (lo hi:Int) (l:List Int) (b:Bool) (hl:l.length<1000000000):zae Tryz.prog 179 [.int .i64 lo,.int .i64 hi,.slice 1 (l.map zay) b] (.bool (l.any fun n=>!gIn n lo hi)):=by
 refine zaa zad (fn:=Tryz.f179) (n:=10) (rs:=[.tmp 6]) (by kernel_rfl) rfl rfl rfl zJ6 (Nat.le_of_ble_eq_true rfl) ?_
 simp only [go_sem,simprocAttr]
 refine zaO (zfb (fv:=.func (.func 260) [] [.ptr 1 [.int .i64 lo] 0 0,.ptr 1 [.int .i64 hi] 0 0]) l (fun n=>!gIn n lo hi) b 1 rfl hl fun n _=>⟨_,_,_,rfl,zpY lo hi n⟩) ?_ (.bool _) ?_
 ·simp only [go_sem,simprocAttr]
 ·simp only [go_sem,simprocAttr]
theorem zBz (s:Span):zae Tryz.prog 261 [s.pv] (.bool (decide (s.hi<s.lo))):=by
 refine zaa zad (fn:=Tryz.f261) (n:=8) (rs:=[.tmp 2]) (by kernel_rfl) rfl rfl rfl zJn (Nat.le_of_ble_eq_true rfl) ?_
 simp only [go_sem,simprocAttr]
theorem znM (l:List Span) (b:Bool) (hl:l.length<1000000000):zae Tryz.prog 180 [.slice 2 (l.map Span.pv) b] (.bool (l.any fun s=>decide (s.hi<s.lo))):=by
 refine zaa zad (fn:=Tryz.f180) (n:=5) (rs:=[.tmp 2]) (by kernel_rfl) rfl rfl rfl zJ5 (Nat.le_of_ble_eq_true rfl) ?_
 simp only [go_sem,simprocAttr]
 refine zab (zij (fv:=.func (.func 261) [] []) l (fun s=>decide (s.hi<s.lo)) b 2 rfl hl fun s _=>⟨_,_,_,rfl,zBz s⟩) rfl ?_
 simp only [go_sem,simprocAttr]
theorem znd (x:Wick):zae Tryz.prog 182 [x.pv] (.str x.name):=by
 refine zaa zad (fn:=Tryz.f182) (n:=5) (rs:=[.tmp 2]) (by kernel_rfl) rfl rfl rfl zJ3 (Nat.le_of_ble_eq_true rfl) ?_
 simp only [go_sem,simprocAttr]
theorem zt6 (s:ByteArray) (x:Wick):zae Tryz.prog 263 [x.pv,.ptr 1 [.func (.func 182) [] []] 0 0,.ptr 1 [.str s] 0 0] (.bool (x.name==s)):=by
 refine zaa zad (fn:=Tryz.f263) (n:=10) (rs:=[.tmp 4]) (by kernel_rfl) rfl rfl rfl zJl (Nat.le_of_ble_eq_true rfl) ?_
 simp only [go_sem,simprocAttr]
 refine zau (znd x) rfl ?_
 simp only [go_sem,simprocAttr]
theorem zqP (l:List Wick) (x:Wick) (b:Bool) (hl:l.length<1000000):zae Tryz.prog 181 [.slice 4 ((l++[x]).map Wick.pv) b,.func (.func 182) [] []] (.int .i64 (zaq (l.map (·.name)) x.name)):=by
 have hw:IntKind.i64.wrap ((((l++[x]).length:Nat):Int)-1)=((l.length:Nat):Int):=by
  rw [zb3 (by simp<;>omega) (by simp [zar]<;>omega)];simp
 have hx:(l++[x])[l.length]?=some x:=by simp
 have hlt:((l.length:Nat):Int)<(((l++[x]).length:Nat):Int):=by simp<;>omega
 have hle:((l.length:Nat):Int)≤(((l++[x]).length:Nat):Int):=by omega
 have htk:((l++[x]).map Wick.pv).take l.length=l.map Wick.pv:=by rw [List.map_append,List.take_left' (by simp)]
 have hfl:(l.length==(l++[x]).length)=false:=by simp
 refine zaa zad (fn:=Tryz.f181) (n:=26) (rs:=[.tmp 4]) (by kernel_rfl) rfl rfl rfl zJ4 (Nat.le_of_ble_eq_true rfl) ?_
 simp only [hw,hx,hlt,go_sem,simprocAttr]
 refine zau (znd x) rfl ?_
 simp only [go_sem,simprocAttr]
 refine zab (ze0 x.name) rfl ?_
 simp only [go_sem,simprocAttr]
 cases hn:nameOk x.name
 ·simp only [go_sem,simprocAttr]
  simp [zaq,hn]
 ·simp only [hle,Option.getD_none,Option.getD_some,htk,hfl,go_sem,simprocAttr]
  refine zaO (zqV (fv:=.func (.func 263) [] [.ptr 1 [.func (.func 182) [] []] 0 0,.ptr 1 [.str x.name] 0 0]) l (fun y=>y.name==x.name) false 4 rfl (by omega) fun y _=>⟨_,_,_,rfl,zt6 x.name y⟩) ?_ (.bool _) ?_
  ·simp only [go_sem,simprocAttr]
  simp only [go_sem,simprocAttr]
  refine zaH (fun hb=>?_) (fun hb=>?_)<;>simp only [hb,go_sem,simprocAttr]
  ·simp only [zaq,hn,List.any_map,Function.comp_def,hb,if_true]
  ·simp only [zaq,hn,List.any_map,Function.comp_def,hb,if_true,Bool.false_eq_true,if_false]
theorem znc (x:Wax):zae Tryz.prog 184 [x.pv] (.str x.name):=by
 refine zaa zad (fn:=Tryz.f184) (n:=5) (rs:=[.tmp 2]) (by kernel_rfl) rfl rfl rfl zJ1 (Nat.le_of_ble_eq_true rfl) ?_
 simp only [go_sem,simprocAttr]
theorem zt5 (s:ByteArray) (x:Wax):zae Tryz.prog 265 [x.pv,.ptr 1 [.func (.func 184) [] []] 0 0,.ptr 1 [.str s] 0 0] (.bool (x.name==s)):=by
 refine zaa zad (fn:=Tryz.f265) (n:=10) (rs:=[.tmp 4]) (by kernel_rfl) rfl rfl rfl zJj (Nat.le_of_ble_eq_true rfl) ?_
 simp only [go_sem,simprocAttr]
 refine zau (znc x) rfl ?_
 simp only [go_sem,simprocAttr]
theorem zqO (l:List Wax) (x:Wax) (b:Bool) (hl:l.length<1000000):zae Tryz.prog 183 [.slice 8 ((l++[x]).map Wax.pv) b,.func (.func 184) [] []] (.int .i64 (zaq (l.map (·.name)) x.name)):=by
 have hw:IntKind.i64.wrap ((((l++[x]).length:Nat):Int)-1)=((l.length:Nat):Int):=by
  rw [zb3 (by simp<;>omega) (by simp [zar]<;>omega)];simp
 have hx:(l++[x])[l.length]?=some x:=by simp
 have hlt:((l.length:Nat):Int)<(((l++[x]).length:Nat):Int):=by simp<;>omega
 have hle:((l.length:Nat):Int)≤(((l++[x]).length:Nat):Int):=by omega
 have htk:((l++[x]).map Wax.pv).take l.length=l.map Wax.pv:=by rw [List.map_append,List.take_left' (by simp)]
 have hfl:(l.length==(l++[x]).length)=false:=by simp
 refine zaa zad (fn:=Tryz.f183) (n:=26) (rs:=[.tmp 4]) (by kernel_rfl) rfl rfl rfl zJ2 (Nat.le_of_ble_eq_true rfl) ?_
 simp only [hw,hx,hlt,go_sem,simprocAttr]
 refine zau (znc x) rfl ?_
 simp only [go_sem,simprocAttr]
 refine zab (ze0 x.name) rfl ?_
 simp only [go_sem,simprocAttr]
 cases hn:nameOk x.name
 ·simp only [go_sem,simprocAttr]
  simp [zaq,hn]
 ·simp only [hle,Option.getD_none,Option.getD_some,htk,hfl,go_sem,simprocAttr]
  refine zaO (zqU (fv:=.func (.func 265) [] [.ptr 1 [.func (.func 184) [] []] 0 0,.ptr 1 [.str x.name] 0 0]) l (fun y=>y.name==x.name) false 8 rfl (by omega) fun y _=>⟨_,_,_,rfl,zt5 x.name y⟩) ?_ (.bool _) ?_
  ·simp only [go_sem,simprocAttr]
  simp only [go_sem,simprocAttr]
  refine zaH (fun hb=>?_) (fun hb=>?_)<;>simp only [hb,go_sem,simprocAttr]
  ·simp only [zaq,hn,List.any_map,Function.comp_def,hb,if_true]
  ·simp only [zaq,hn,List.any_map,Function.comp_def,hb,if_true,Bool.false_eq_true,if_false]
theorem znK (b:Bool) (e:Int) (h:Heap):zap Tryz.prog 178 [.p (.bool b),.p (.int .i64 e)] h (fun r h'=>h'=h∧r=if b=true then .ret (.p (.tuple [])) else .panic (.iface 43 (.int .i64 e))):=by
 refine zan zad (fn:=Tryz.f178) (n:=8) (rs:=[]) (by kernel_rfl) rfl rfl rfl zJ7 (Nat.le_of_ble_eq_true rfl) ?_
 simp only [go_sem,simprocAttr]
 cases b
 ·simp only [go_sem,simprocAttr]
 ·simp only [go_sem,simprocAttr]
theorem zak {H:Hints} {Q:Cont} {ops:Array Oper} {rest:List Oper} {dst:Option Tmp} {A:AAct} {b:Bool} {e:Int} (h1:b=true→@WO ⟨Tryz.prog,H,ops,rest,Q⟩ (A.put dst (.p (.tuple [])) A.h))
  (h2:b=false→@WQ ⟨Q⟩ (.panic (.iface 43 (.int .i64 e))) A):@WF ⟨Tryz.prog,H,ops,rest,Q,dst⟩ A 178 [.p (.bool b),.p (.int .i64 e)]:=by
 refine zbf (znK b e A.h) (fun v h hr=>?_) (fun v h hr=>?_)
 ·obtain ⟨rfl,hr⟩:=hr
  cases b
  ·cases hr
  ·cases hr;exact h1 rfl
 ·obtain ⟨rfl,hr⟩:=hr
  cases b
  ·cases hr;exact h2 rfl
  ·cases hr
theorem ztW {id:Nat} {e e0:Int} {h:Heap} (hid:h[id]?=some (.row 1 [.p (.int .i64 e0)])):zfA Tryz.prog 177 [.ptr id 1 0 0] (.pan (.iface 43 (.int .i64 e))) h
  (fun r u h'=>r=.ret (.p (.tuple []))∧u=.recd (.iface 43 (.int .i64 e))∧h'=h.set id (.row 1 [.p (.int .i64 e)])):=by
 refine zdy zad (fn:=Tryz.f177) (n:=7) (rs:=[]) (by kernel_rfl) rfl rfl rfl zCE (Nat.le_of_ble_eq_true rfl) ?_
 simp only [zh5,zeI,hid,go_sem,simprocAttr]
theorem dNo {id:Nat} {h:Heap}:zfA Tryz.prog 177 [.ptr id 1 0 0] .ret h (fun r u h'=>r=.ret (.p (.tuple []))∧u=.ret∧h'=h):=by
 refine zdy zad (fn:=Tryz.f177) (n:=7) (rs:=[]) (by kernel_rfl) rfl rfl rfl zCE (Nat.le_of_ble_eq_true rfl) ?_
 simp only [zh5,zeI,go_sem,simprocAttr]
theorem zbG {rs:List ResultVar} {R:AEnd→Heap→Prop} {T:Nat→AV} {id:Nat} {e e0:Int} {h:Heap} (hid:h[id]?=some (.row 1 [.p (.int .i64 e0)])) (k:zbd Tryz.prog rs R T [] .ret (h.set id (.row 1 [.p (.int .i64 e)]))) :
  zbd Tryz.prog rs R T [.fn 177 [.ptr id 1 0 0]] (.pan (.iface 43 (.int .i64 e))) h:=by
 rw [zfr]
 refine (ztW hid).mono fun r u h' hr=>?_
 obtain ⟨rfl,rfl,rfl⟩:=hr
 exact k
theorem zoC {rs:List ResultVar} {R:AEnd→Heap→Prop} {T:Nat→AV} {id:Nat} {h:Heap} (k:zbd Tryz.prog rs R T [] .ret h):zbd Tryz.prog rs R T [.fn 177 [.ptr id 1 0 0]] .ret h:=by
 rw [zfr]
 refine dNo.mono fun r u h' hr=>?_
 obtain ⟨rfl,rfl,rfl⟩:=hr
 exact k
def inS (s:Span) (lo hi:Int):Bool:=gIn s.lo lo hi&&gIn s.hi lo hi
def zaJ (s:Span):Bool:=decide (s.hi<s.lo)
def zcA (before:List ByteArray) (x:Wick):Int :=
 if zaq before x.name=0 then (if (gIn x.threads 1 100&&inS x.pull 1 1000)=true then (if zaJ x.pull=true then 2 else 0) else 7) else zaq before x.name
def zdA (before:List ByteArray) (x:Wax):Int :=
 if zaq before x.name=0 then (if (gIn x.chill 0 50&&inS x.flow 1 300&&(inS x.rise 1 1000&&inS x.spread 1 2000))=true then (if (zaJ x.flow||(zaJ x.rise||zaJ x.spread))=true then 2 else 0) else 7) else zaq before x.name
def zd7 (s:Shop):Option (Int×Int)→Int×Int×Int
 |some (i,e)=>(2,i,e)
 |none=>match firstErr zdA (·.name) s.waxes [] with | some (i,e)=>(3,i,e) | none=>(0,0,0)
def zcl (s:Shop):Int×Int×Int :=
 if (gIn s.wicks.length 1 12&&gIn s.waxes.length 1 6)=true then
  if (inS s.flame 0 2000&&inS s.pool 0 2000)=true then
   if (zaJ s.flame||zaJ s.pool)=true then (1,0,2) else zd7 s (firstErr zcA (·.name) s.wicks [])
  else (1,0,7)
 else (1,0,3)
theorem ziS (s:Shop):zae Tryz.prog 89 [s.pv] (zat (zcl s)):=by
 refine zaa zad (fn:=Tryz.f89) (n:=160) (rs:=[.tmp 2,.tmp 3,.cell 4 43]) (by kernel_rfl) rfl rfl rfl zMQ (Nat.le_of_ble_eq_true rfl) ?_
 simp only [go_sem,simprocAttr]
 refine zab (zcF 1 12 [_] true (by simp)) rfl ?_
 simp only [List.any_cons,List.any_nil,Bool.or_false,Bool.not_not,go_sem,simprocAttr]
 cases h1:gIn s.wicks.length 1 12
 ·simp only [go_sem,simprocAttr]
  refine zak (fun h=>(by cases h)) fun _=>?_
  simp only [go_sem,simprocAttr]
  refine zbG rfl ?_
  simp only [zat,zcl,h1,go_sem,simprocAttr]
 simp only [go_sem,simprocAttr]
 refine zab (zcF 1 6 [_] true (by simp)) rfl ?_
 simp only [List.any_cons,List.any_nil,Bool.or_false,Bool.not_not,go_sem,simprocAttr]
 refine zak (fun h2=>?_) fun h2=>?_
 rotate_left
 ·simp only [go_sem,simprocAttr]
  refine zbG rfl ?_
  simp only [zat,zcl,h1,h2,go_sem,simprocAttr]
 simp only [go_sem,simprocAttr]
 refine zab (zcF 0 2000 [_,_,_,_] true (by simp)) rfl ?_
 simp only [List.any_cons,List.any_nil,Bool.or_false,←Bool.not_and,Bool.not_not,go_sem,simprocAttr]
 refine zak (fun h3=>?_) fun h3=>?_
 rotate_left
 ·simp only [go_sem,simprocAttr]
  refine zbG rfl ?_
  have h3':(inS s.flame 0 2000&&inS s.pool 0 2000)=false:=by rw [←h3];simp [inS,Bool.and_assoc]
  simp only [zat,zcl,h1,h2,h3',go_sem,simprocAttr]
 have h3':(inS s.flame 0 2000&&inS s.pool 0 2000)=true:=by rw [←h3];simp [inS,Bool.and_assoc]
 simp only [go_sem,simprocAttr]
 refine zab (znM [s.flame,s.pool] true (by simp)) rfl ?_
 simp only [List.any_cons,List.any_nil,Bool.or_false,go_sem,simprocAttr]
 refine zak (fun h4=>?_) fun h4=>?_
 rotate_left
 ·simp only [go_sem,simprocAttr]
  refine zbG rfl ?_
  have h4':(zaJ s.flame||zaJ s.pool)=true:=(by have:=congrArg (!·) h4;simpa only [zaJ,Bool.not_not,Bool.not_false] using this)
  simp only [zat,zcl,h1,h2,h3',h4',go_sem,simprocAttr]
 have h4':(zaJ s.flame||zaJ s.pool)=false:=by simpa [zaJ] using h4
 have hspec:zcl s=zd7 s (firstErr zcA (·.name) s.wicks []):=by
  simp [zcl,h1,h2,h3',h4']
 rw [hspec]
 have hlw:s.wicks.length≤12:=by simp [gIn] at h1;omega
 have hlx:s.waxes.length≤6:=by simp [gIn] at h2;omega
 simp only [go_sem,simprocAttr]
 refine zfc [1,2,4,50,51] (σ:=List Wick×List Wick) (fun q=>s.wicks=q.1++q.2∧firstErr zcA (·.name) s.wicks []=firstErr zcA (·.name) q.2 (q.1.map (·.name))) (fun q=>q.2.length)
  (fun q=>[(52,.p (.int .i64 q.1.length))]) (fun _=>[.row 6 [.p s.pv],.row 1 [.p (.int .i64 0)]]) ([],s.wicks) ⟨rfl,rfl⟩ ?_ ?_
 ·simp only [go_sem,simprocAttr]<;>simp
 rintro ⟨done,rest⟩ ⟨e1,e2⟩
 dsimp only at e1 e2
 cases rest with
 |cons x r =>
  obtain ⟨hx,hlt⟩:=zeb e1
  have hln:(done++[x]).length≤s.wicks.length:=by rw [e1];simp
  have hdl:done.length<12:=by simp at hln;omega
  have hnx:IntKind.i64.wrap ((done.length:Int)+1)=(((done++[x]).length:Nat):Int):=za9 (by omega) (by simp [zar];omega) (by simp)
  have hle:(((done++[x]).length:Nat):Int)≤(s.wicks.length:Int):=by omega
  have htk:(s.wicks.map Wick.pv).take (done++[x]).length=(done++[x]).map Wick.pv:=by
   rw [e1,show done++x::r=(done++[x])++r by simp,List.map_append,List.take_left' (by simp)]
  have hE:firstErr zcA (·.name) s.wicks []=if zcA (done.map (·.name)) x=0 then firstErr zcA (·.name) r ((done++[x]).map (·.name)) else some ((done.length:Int),zcA (done.map (·.name)) x):=by
   rw [e2,firstErr];simp
  have fin:∀ e,zcA (done.map (·.name)) x=e→e≠0→zd7 s (firstErr zcA (·.name) s.wicks [])=(2,(done.length:Int),e):=by
   intro e he hne
   rw [hE,he,if_neg hne];rfl
  simp only [hlt,decide_true,hx,hnx,hle,Option.getD_none,Option.getD_some,htk,go_sem,simprocAttr]
  refine zab (zqP done x false (by omega)) rfl ?_
  simp only [go_sem,simprocAttr]
  refine zak (fun h5=>?_) fun h5=>?_
  rotate_left
  ·simp only [go_sem,simprocAttr]
   refine zbG rfl ?_
   have h5':zaq (done.map (·.name)) x.name≠0:=by simpa using h5
   simp only [zat,fin _ (by rw [zcA,if_neg h5']) h5',go_sem,simprocAttr]
  have h5':zaq (done.map (·.name)) x.name=0:=by simpa using h5
  simp only [go_sem,simprocAttr]
  refine zab (zcF 1 100 [_] true (by simp)) rfl ?_
  simp only [List.any_cons,List.any_nil,Bool.or_false,Bool.not_not,go_sem,simprocAttr]
  cases h6:gIn x.threads 1 100
  ·simp only [go_sem,simprocAttr]
   refine zak (fun h=>(by cases h)) fun _=>?_
   simp only [go_sem,simprocAttr]
   refine zbG rfl ?_
   simp only [zat,fin 7 (by simp [zcA,h5',h6]) (by decide),go_sem,simprocAttr]
  simp only [go_sem,simprocAttr]
  refine zab (zcF 1 1000 [_,_] true (by simp)) rfl ?_
  simp only [List.any_cons,List.any_nil,Bool.or_false,←Bool.not_and,Bool.not_not,go_sem,simprocAttr]
  refine zak (fun h7=>?_) fun h7=>?_
  rotate_left
  ·simp only [go_sem,simprocAttr]
   refine zbG rfl ?_
   simp only [zat,fin 7 (by simp [zcA,h5',h6,inS,h7]) (by decide),go_sem,simprocAttr]
  simp only [go_sem,simprocAttr]
  refine zab (znM [x.pull] true (by simp)) rfl ?_
  simp only [List.any_cons,List.any_nil,Bool.or_false,go_sem,simprocAttr]
  refine zak (fun h8=>?_) fun h8=>?_
  rotate_left
  ·simp only [go_sem,simprocAttr]
   refine zbG rfl ?_
   simp only [zat,fin 2 (by simp only [Bool.not_eq_false'] at h8;simp [zcA,h5',h6,inS,h7,zaJ,h8]) (by decide),go_sem,simprocAttr]
  simp only [go_sem,simprocAttr]
  refine zb5 (done++[x],r) ⟨by simp [e1],?_⟩ (by simp) ?_
  ·rw [hE,if_pos]
   simp only [Bool.not_eq_true'] at h8
   simp [zcA,h5',h6,inS,h7,zaJ,h8]
  ·simp only [hnx,h5',go_sem,simprocAttr]
 |nil =>
  have hlt:¬ ((done.length:Int)<(s.wicks.length:Int)):=by rw [e1];simp
  have hT:zd7 s (firstErr zcA (·.name) s.wicks [])=zd7 s none:=by rw [e2];rfl
  rw [hT]
  simp only [hlt,decide_false,go_sem,simprocAttr]
  refine zfc [1,2,4,93,94] (σ:=List Wax×List Wax) (fun q=>s.waxes=q.1++q.2∧firstErr zdA (·.name) s.waxes []=firstErr zdA (·.name) q.2 (q.1.map (·.name))) (fun q=>q.2.length)
   (fun q=>[(95,.p (.int .i64 q.1.length))]) (fun _=>[.row 6 [.p s.pv],.row 1 [.p (.int .i64 0)]]) ([],s.waxes) ⟨rfl,rfl⟩ ?_ ?_
  ·simp only [go_sem,simprocAttr]<;>simp
  clear e1 e2 hlt hT
  rintro ⟨done,rest⟩ ⟨e1,e2⟩
  dsimp only at e1 e2
  cases rest with
  |cons x r =>
   obtain ⟨hx,hlt⟩:=zeb e1
   have hln:(done++[x]).length≤s.waxes.length:=by rw [e1];simp
   have hdl:done.length<12:=by simp at hln;omega
   have hnx:IntKind.i64.wrap ((done.length:Int)+1)=(((done++[x]).length:Nat):Int):=za9 (by omega) (by simp [zar];omega) (by simp)
   have hle:(((done++[x]).length:Nat):Int)≤(s.waxes.length:Int):=by omega
   have htk:(s.waxes.map Wax.pv).take (done++[x]).length=(done++[x]).map Wax.pv:=by
    rw [e1,show done++x::r=(done++[x])++r by simp,List.map_append,List.take_left' (by simp)]
   have hE:firstErr zdA (·.name) s.waxes []=if zdA (done.map (·.name)) x=0 then firstErr zdA (·.name) r ((done++[x]).map (·.name)) else some ((done.length:Int),zdA (done.map (·.name)) x):=by
    rw [e2,firstErr];simp
   have fin:∀ e,zdA (done.map (·.name)) x=e→e≠0→zd7 s none=(3,(done.length:Int),e):=by
    intro e he hne
    simp only [zd7]
    rw [hE,he,if_neg hne]
   simp only [hlt,decide_true,hx,hnx,hle,Option.getD_none,Option.getD_some,htk,go_sem,simprocAttr]
   refine zab (zqO done x false (by omega)) rfl ?_
   simp only [go_sem,simprocAttr]
   refine zak (fun h5=>?_) fun h5=>?_
   rotate_left
   ·simp only [go_sem,simprocAttr]
    refine zbG rfl ?_
    have h5':zaq (done.map (·.name)) x.name≠0:=by simpa using h5
    simp only [zat,fin _ (by rw [zdA,if_neg h5']) h5',go_sem,simprocAttr]
   have h5':zaq (done.map (·.name)) x.name=0:=by simpa using h5
   simp only [go_sem,simprocAttr]
   refine zab (zcF 0 50 [_] true (by simp)) rfl ?_
   simp only [List.any_cons,List.any_nil,Bool.or_false,Bool.not_not,go_sem,simprocAttr]
   cases h6:gIn x.chill 0 50
   ·simp only [go_sem,simprocAttr]
    refine zak (fun h=>(by cases h)) fun _=>?_
    simp only [go_sem,simprocAttr]
    refine zbG rfl ?_
    simp only [zat,fin 7 (by simp [zdA,h5',h6]) (by decide),go_sem,simprocAttr]
   simp only [go_sem,simprocAttr]
   refine zab (zcF 1 300 [_,_] true (by simp)) rfl ?_
   simp only [List.any_cons,List.any_nil,Bool.or_false,←Bool.not_and,Bool.not_not,go_sem,simprocAttr]
   refine zak (fun h7=>?_) fun h7=>?_
   rotate_left
   ·simp only [go_sem,simprocAttr]
    refine zbG rfl ?_
    simp only [zat,fin 7 (by simp [zdA,h5',h6,inS,h7]) (by decide),go_sem,simprocAttr]
   simp only [go_sem,simprocAttr]
   refine zab (zcF 1 1000 [_,_] true (by simp)) rfl ?_
   simp only [List.any_cons,List.any_nil,Bool.or_false,←Bool.not_and,Bool.not_not,go_sem,simprocAttr]
   cases h8:(gIn x.rise.lo 1 1000&&gIn x.rise.hi 1 1000)
   ·simp only [go_sem,simprocAttr]
    refine zak (fun h=>(by cases h)) fun _=>?_
    simp only [go_sem,simprocAttr]
    refine zbG rfl ?_
    simp only [zat,fin 7 (by simp [zdA,h5',h6,inS,h7,h8]) (by decide),go_sem,simprocAttr]
   simp only [go_sem,simprocAttr]
   refine zab (zcF 1 2000 [_,_] true (by simp)) rfl ?_
   simp only [List.any_cons,List.any_nil,Bool.or_false,←Bool.not_and,Bool.not_not,go_sem,simprocAttr]
   refine zak (fun h9=>?_) fun h9=>?_
   rotate_left
   ·simp only [go_sem,simprocAttr]
    refine zbG rfl ?_
    simp only [zat,fin 7 (by simp [zdA,h5',h6,inS,h7,h8,h9]) (by decide),go_sem,simprocAttr]
   simp only [go_sem,simprocAttr]
   refine zab (znM [x.flow,x.rise,x.spread] true (by simp)) rfl ?_
   simp only [List.any_cons,List.any_nil,Bool.or_false,go_sem,simprocAttr]
   refine zak (fun h10=>?_) fun h10=>?_
   rotate_left
   ·simp only [go_sem,simprocAttr]
    refine zbG rfl ?_
    simp only [zat,fin 2 (by simp only [Bool.not_eq_false'] at h10;simp only [zdA,h5',h6,inS,h7,h8,h9,zaJ,h10,Bool.and_self,if_true]) (by decide),go_sem,simprocAttr]
   simp only [go_sem,simprocAttr]
   refine zb5 (done++[x],r) ⟨by simp [e1],?_⟩ (by simp) ?_
   ·rw [hE,if_pos]
    simp only [Bool.not_eq_true'] at h10
    simp only [zdA,h5',h6,inS,h7,h8,h9,zaJ,h10,Bool.and_self,if_true,Bool.false_eq_true,if_false]
   ·simp only [hnx,h5',go_sem,simprocAttr]
  |nil =>
   have hlt:¬ ((done.length:Int)<(s.waxes.length:Int)):=by rw [e1];simp
   simp only [hlt,decide_false,go_sem,simprocAttr]
   refine zoC ?_
   have hT:zd7 s none=(0,0,0):=by
    simp only [zd7]
    rw [e2];rfl
   simp only [zat,hT,go_sem,simprocAttr]
end Wk
end Abs
end Go.Proofs.YtahlnclapingiaaGreatDoor
