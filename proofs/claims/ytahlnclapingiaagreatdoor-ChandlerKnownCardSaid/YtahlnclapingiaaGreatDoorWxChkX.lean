/-
  CONTRACTS: wax.Check, in the program and in the reference: both come to 'wxCheck'. No cond
  LAWS: builders of one's own: what is written into them, what they are read as. No conditio
  LAWS: iterators with memory of their own that yield immutable values. No conditions but th
-/
import Derived.Test.YtahlnclapingiaaGreatDoorLibNameX
import Derived.Test.YtahlnclapingiaaGreatDoorClGoX
import Derived.Test.YtahlnclapingiaaGreatDoorAbsKill
import Derived.Lib.UnsafeStr
set_option linter.unusedSimpArgs false
set_option linter.unusedVariables false
namespace Go.Proofs.YtahlnclapingiaaGreatDoor
namespace Abs
namespace Wx
set_option maxRecDepth 4000
theorem zpY (lo hi n:Int):zae Tryz.prog 252 [.int .i64 n,.ptr 1 [.int .i64 lo] 0 0,.ptr 1 [.int .i64 hi] 0 0] (.bool (!gIn n lo hi)):=by
 refine zaa zad (fn:=Tryz.f252) (n:=13) (rs:=[.tmp 4]) (by kernel_rfl) rfl rfl rfl zJw (Nat.le_of_ble_eq_true rfl) ?_
 simp only [go_sem,simprocAttr]
 refine zaH (fun hb=>?_) (fun hb=>?_)<;>simp only [hb,go_sem,simprocAttr]<;>simp_all [gIn]
 rw [←decide_not];congr 1;simp
theorem zcF (lo hi:Int) (l:List Int) (b:Bool) (hl:l.length<1000000000):zae Tryz.prog 165 [.int .i64 lo,.int .i64 hi,.slice 1 (l.map zay) b] (.bool (l.any fun n=>!gIn n lo hi)):=by
 refine zaa zad (fn:=Tryz.f165) (n:=10) (rs:=[.tmp 6]) (by kernel_rfl) rfl rfl rfl zKj (Nat.le_of_ble_eq_true rfl) ?_
 simp only [go_sem,simprocAttr]
 refine zaO (zfb (fv:=.func (.func 252) [] [.ptr 1 [.int .i64 lo] 0 0,.ptr 1 [.int .i64 hi] 0 0]) l (fun n=>!gIn n lo hi) b 1 rfl hl fun n _=>⟨_,_,_,rfl,zpY lo hi n⟩) ?_ (.bool _) ?_
 ·simp only [go_sem,simprocAttr]
 ·simp only [go_sem,simprocAttr]
theorem znd (x:WxProp):zae Tryz.prog 167 [x.pv] (.str x.name):=by
 refine zaa zad (fn:=Tryz.f167) (n:=5) (rs:=[.tmp 2]) (by kernel_rfl) rfl rfl rfl zKh (Nat.le_of_ble_eq_true rfl) ?_
 simp only [go_sem,simprocAttr]
theorem zt6 (s:ByteArray) (x:WxProp):zae Tryz.prog 254 [x.pv,.ptr 1 [.func (.func 167) [] []] 0 0,.ptr 1 [.str s] 0 0] (.bool (x.name==s)):=by
 refine zaa zad (fn:=Tryz.f254) (n:=10) (rs:=[.tmp 4]) (by kernel_rfl) rfl rfl rfl zJu (Nat.le_of_ble_eq_true rfl) ?_
 simp only [go_sem,simprocAttr]
 refine zau (znd x) rfl ?_
 simp only [go_sem,simprocAttr]
theorem zqP (l:List WxProp) (x:WxProp) (b:Bool) (hl:l.length<1000000):zae Tryz.prog 166 [.slice 2 ((l++[x]).map WxProp.pv) b,.func (.func 167) [] []] (.int .i64 (zaq (l.map (·.name)) x.name)):=by
 have hw:IntKind.i64.wrap ((((l++[x]).length:Nat):Int)-1)=((l.length:Nat):Int):=by
  rw [zb3 (by simp<;>omega) (by simp [zar]<;>omega)];simp
 have hx:(l++[x])[l.length]?=some x:=by simp
 have hlt:((l.length:Nat):Int)<(((l++[x]).length:Nat):Int):=by simp<;>omega
 have hle:((l.length:Nat):Int)≤(((l++[x]).length:Nat):Int):=by omega
 have htk:((l++[x]).map WxProp.pv).take l.length=l.map WxProp.pv:=by rw [List.map_append,List.take_left' (by simp)]
 have hfl:(l.length==(l++[x]).length)=false:=by simp
 refine zaa zad (fn:=Tryz.f166) (n:=26) (rs:=[.tmp 4]) (by kernel_rfl) rfl rfl rfl zKi (Nat.le_of_ble_eq_true rfl) ?_
 simp only [hw,hx,hlt,go_sem,simprocAttr]
 refine zau (znd x) rfl ?_
 simp only [go_sem,simprocAttr]
 refine zab (ze0 x.name) rfl ?_
 simp only [go_sem,simprocAttr]
 cases hn:nameOk x.name
 ·simp only [go_sem,simprocAttr]
  simp [zaq,hn]
 ·simp only [hle,htk,hfl,go_sem,simprocAttr]
  refine zaO (zqT (fv:=.func (.func 254) [] [.ptr 1 [.func (.func 167) [] []] 0 0,.ptr 1 [.str x.name] 0 0]) l (fun y=>y.name==x.name) false 2 rfl (by omega) fun y _=>⟨_,_,_,rfl,zt6 x.name y⟩) ?_ (.bool _) ?_
  ·simp only [go_sem,simprocAttr]
  simp only [go_sem,simprocAttr]
  refine zaH (fun hb=>?_) (fun hb=>?_)<;>simp only [hb,go_sem,simprocAttr]
  ·simp only [zaq,hn,List.any_map,Function.comp_def,hb,if_true]
  ·simp only [zaq,hn,List.any_map,Function.comp_def,hb,if_true,Bool.false_eq_true,if_false]
theorem znc (x:WxKind):zae Tryz.prog 169 [x.pv] (.str x.name):=by
 refine zaa zad (fn:=Tryz.f169) (n:=5) (rs:=[.tmp 2]) (by kernel_rfl) rfl rfl rfl zKf (Nat.le_of_ble_eq_true rfl) ?_
 simp only [go_sem,simprocAttr]
theorem zt5 (s:ByteArray) (x:WxKind):zae Tryz.prog 256 [x.pv,.ptr 1 [.func (.func 169) [] []] 0 0,.ptr 1 [.str s] 0 0] (.bool (x.name==s)):=by
 refine zaa zad (fn:=Tryz.f256) (n:=10) (rs:=[.tmp 4]) (by kernel_rfl) rfl rfl rfl zJs (Nat.le_of_ble_eq_true rfl) ?_
 simp only [go_sem,simprocAttr]
 refine zau (znc x) rfl ?_
 simp only [go_sem,simprocAttr]
theorem zqO (l:List WxKind) (x:WxKind) (b:Bool) (hl:l.length<1000000):zae Tryz.prog 168 [.slice 2 ((l++[x]).map WxKind.pv) b,.func (.func 169) [] []] (.int .i64 (zaq (l.map (·.name)) x.name)):=by
 have hw:IntKind.i64.wrap ((((l++[x]).length:Nat):Int)-1)=((l.length:Nat):Int):=by
  rw [zb3 (by simp<;>omega) (by simp [zar]<;>omega)];simp
 have hx:(l++[x])[l.length]?=some x:=by simp
 have hlt:((l.length:Nat):Int)<(((l++[x]).length:Nat):Int):=by simp<;>omega
 have hle:((l.length:Nat):Int)≤(((l++[x]).length:Nat):Int):=by omega
 have htk:((l++[x]).map WxKind.pv).take l.length=l.map WxKind.pv:=by rw [List.map_append,List.take_left' (by simp)]
 have hfl:(l.length==(l++[x]).length)=false:=by simp
 refine zaa zad (fn:=Tryz.f168) (n:=26) (rs:=[.tmp 4]) (by kernel_rfl) rfl rfl rfl zKg (Nat.le_of_ble_eq_true rfl) ?_
 simp only [hw,hx,hlt,go_sem,simprocAttr]
 refine zau (znc x) rfl ?_
 simp only [go_sem,simprocAttr]
 refine zab (ze0 x.name) rfl ?_
 simp only [go_sem,simprocAttr]
 cases hn:nameOk x.name
 ·simp only [go_sem,simprocAttr]
  simp [zaq,hn]
 ·simp only [hle,htk,hfl,go_sem,simprocAttr]
  refine zaO (zqS (fv:=.func (.func 256) [] [.ptr 1 [.func (.func 169) [] []] 0 0,.ptr 1 [.str x.name] 0 0]) l (fun y=>y.name==x.name) false 2 rfl (by omega) fun y _=>⟨_,_,_,rfl,zt5 x.name y⟩) ?_ (.bool _) ?_
  ·simp only [go_sem,simprocAttr]
  simp only [go_sem,simprocAttr]
  refine zaH (fun hb=>?_) (fun hb=>?_)<;>simp only [hb,go_sem,simprocAttr]
  ·simp only [zaq,hn,List.any_map,Function.comp_def,hb,if_true]
  ·simp only [zaq,hn,List.any_map,Function.comp_def,hb,if_true,Bool.false_eq_true,if_false]
def zjO (p:WxProp):Int:=if gIn p.error 0 10000=true then 0 else 7
def znr (s:Span):Bool:=gIn s.lo 0 100000&&gIn s.hi 0 100000
def zfs (many:Nat) (k:WxKind):Int:=if k.props.length=many then (if (k.props.any fun s=>!znr s)=true then 7 else if (k.props.any fun s=>decide (s.hi<s.lo))=true then 2 else 0) else 3
def zb8 (before:List ByteArray) (p:WxProp):Int:=if zaq before p.name=0 then zjO p else zaq before p.name
def kindErr (many:Nat) (before:List ByteArray) (k:WxKind):Int:=if zaq before k.name=0 then zfs many k else zaq before k.name
def tail (t:WxTable):Option (Int×Int)→Int×Int×Int
 |some (i,e)=>(2,i,e)
 |none=>match firstErr (kindErr t.props.length) (·.name) t.kinds [] with | some (i,e)=>(3,i,e) | none=>(0,0,0)
def wxCheck (t:WxTable):Int×Int×Int :=
 if (gIn t.props.length 1 5&&gIn t.kinds.length 1 8)=true then
  if gIn t.purity 1 1000=true then tail t (firstErr zb8 (·.name) t.props []) else (1,0,7)
 else (1,0,3)
theorem zDm {t:WxTable} {done r:List WxProp} {x:WxProp} (e2:firstErr zb8 (·.name) t.props []=firstErr zb8 (·.name) (x::r) (done.map (·.name))) :
  (zb8 (done.map (·.name)) x=0→firstErr zb8 (·.name) t.props []=firstErr zb8 (·.name) r ((done++[x]).map (·.name))) ∧
  ∀ e,zb8 (done.map (·.name)) x=e→e≠0→tail t (firstErr zb8 (·.name) t.props [])=(2,(done.length:Int),e):=by
 have hE:firstErr zb8 (·.name) t.props []=if zb8 (done.map (·.name)) x=0 then firstErr zb8 (·.name) r ((done++[x]).map (·.name)) else some ((done.length:Int),zb8 (done.map (·.name)) x):=by
  rw [e2,firstErr];simp
 exact ⟨fun h=>by rw [hE,if_pos h],fun e he hne=>by rw [hE,he,if_neg hne];rfl⟩
theorem zDF {t:WxTable} {done r:List WxKind} {x:WxKind} (e2:firstErr (kindErr t.props.length) (·.name) t.kinds []=firstErr (kindErr t.props.length) (·.name) (x::r) (done.map (·.name))) :
  (kindErr t.props.length (done.map (·.name)) x=0→firstErr (kindErr t.props.length) (·.name) t.kinds []=firstErr (kindErr t.props.length) (·.name) r ((done++[x]).map (·.name))) ∧
  ∀ e,kindErr t.props.length (done.map (·.name)) x=e→e≠0→tail t none=(3,(done.length:Int),e):=by
 have hE:firstErr (kindErr t.props.length) (·.name) t.kinds []=if kindErr t.props.length (done.map (·.name)) x=0 then firstErr (kindErr t.props.length) (·.name) r ((done++[x]).map (·.name)) else some ((done.length:Int),kindErr t.props.length (done.map (·.name)) x):=by
  rw [e2,firstErr];simp
 exact ⟨fun h=>by rw [hE,if_pos h],fun e he hne=>by simp only [tail];rw [hE,he,if_neg hne]⟩
theorem zK3 (s:Span):zae Tryz.prog 171 [s.pv] (.bool (!znr s)):=by
 refine zaa zad (fn:=Tryz.f171) (n:=9) (rs:=[.tmp 2]) (by kernel_rfl) rfl rfl rfl zKd (Nat.le_of_ble_eq_true rfl) ?_
 simp only [go_sem,simprocAttr]
 refine zab (zcF 0 100000 [_,_] true (by simp)) rfl ?_
 simp only [List.any_cons,List.any_nil,Bool.or_false,←Bool.not_and,znr,go_sem,simprocAttr]
theorem zK2 (s:Span):zae Tryz.prog 172 [s.pv] (.bool (decide (s.hi<s.lo))):=by
 refine zaa zad (fn:=Tryz.f172) (n:=8) (rs:=[.tmp 2]) (by kernel_rfl) rfl rfl rfl zKc (Nat.le_of_ble_eq_true rfl) ?_
 simp only [go_sem,simprocAttr]
set_option maxHeartbeats 1000000 in
theorem ziS (t:WxTable):zae Tryz.prog 87 [t.pv] (zat (wxCheck t)):=by
 refine zaa zad (fn:=Tryz.f87) (n:=90) (rs:=[.tmp 2,.tmp 3,.tmp 4]) (by kernel_rfl) rfl rfl rfl zMS (Nat.le_of_ble_eq_true rfl) ?_
 simp only [go_sem,simprocAttr]
 refine zab (zcF 1 5 [_] true (by simp)) rfl ?_
 simp only [List.any_cons,List.any_nil,Bool.or_false,go_sem,simprocAttr]
 cases h1:gIn t.props.length 1 5
 ·simp only [zat,wxCheck,h1,go_sem,simprocAttr]
 simp only [go_sem,simprocAttr]
 refine zab (zcF 1 8 [_] true (by simp)) rfl ?_
 simp only [List.any_cons,List.any_nil,Bool.or_false,go_sem,simprocAttr]
 cases h2:gIn t.kinds.length 1 8
 ·simp only [zat,wxCheck,h1,h2,go_sem,simprocAttr]
 simp only [go_sem,simprocAttr]
 refine zab (zcF 1 1000 [_] true (by simp)) rfl ?_
 simp only [List.any_cons,List.any_nil,Bool.or_false,go_sem,simprocAttr]
 cases h3:gIn t.purity 1 1000
 ·simp only [zat,wxCheck,h1,h2,h3,go_sem,simprocAttr]
 have hspec:wxCheck t=tail t (firstErr zb8 (·.name) t.props []):=by simp only [wxCheck,h1,h2,h3,Bool.and_self,if_true]
 rw [hspec]
 have hlp:t.props.length≤5:=by simp [gIn] at h1;omega
 have hlk:t.kinds.length≤8:=by simp [gIn] at h2;omega
 simp only [go_sem,simprocAttr]
 refine zbb [1,28,29] t.props (by omega) (τ:=Unit) (fun done rest _=>firstErr zb8 (·.name) t.props []=firstErr zb8 (·.name) rest (done.map (·.name)))
  (fun done _=>[(30,.p (.int .i64 done.length)),(4,.p (.int .i64 0))]) (fun _ _=>[.row 3 [.p t.pv]]) () rfl ?_ ?_ ?_
 ·simp only [go_sem,simprocAttr]<;>simp
 ·intro _ e2
  have hT:tail t (firstErr zb8 (·.name) t.props [])=tail t none:=by rw [e2];rfl
  rw [hT]
  simp only [go_sem,simprocAttr]
  refine zbb [1,52,53] t.kinds (by omega) (τ:=Unit) (fun done rest _=>firstErr (kindErr t.props.length) (·.name) t.kinds []=firstErr (kindErr t.props.length) (·.name) rest (done.map (·.name)))
   (fun done _=>[(54,.p (.int .i64 done.length)),(4,.p (.int .i64 0))]) (fun _ _=>[.row 3 [.p t.pv]]) () rfl ?_ ?_ ?_
  ·simp only [go_sem,simprocAttr]<;>simp
  ·intro _ e2
   have hT:tail t none=(0,0,0):=by
    simp only [tail]
    rw [e2];rfl
   simp only [zat,hT,go_sem,simprocAttr]
  ·intro done x r _ e1 e2 hx hlt hnx
   obtain ⟨go,fin⟩:=zDF e2
   have hle:(((done++[x]).length:Nat):Int)≤(t.kinds.length:Int):=by rw [e1];simp<;>omega
   have htk:(t.kinds.map WxKind.pv).take (done++[x]).length=(done++[x]).map WxKind.pv:=by
    rw [e1,show done++x::r=(done++[x])++r by simp,List.map_append,List.take_left' (by simp)]
   have hdl:done.length<1000000:=by have:=congrArg List.length e1;simp at this;omega
   simp only [hlt,hx,hnx,hle,htk,go_sem,simprocAttr]
   refine zab (zqO done x false hdl) rfl ?_
   simp only [go_sem,simprocAttr]
   cases h5:(zaq (done.map (·.name)) x.name != 0)
   rotate_left
   ·have h5':zaq (done.map (·.name)) x.name≠0:=by simpa using h5
    simp only [h5,zat,fin _ (by rw [kindErr,if_neg h5']) h5',go_sem,simprocAttr]
   have h5':zaq (done.map (·.name)) x.name=0:=by simpa using h5
   have hb:kindErr t.props.length (done.map (·.name)) x=zfs t.props.length x:=by rw [kindErr,if_pos h5']
   simp only [go_sem,simprocAttr]
   cases h6:((x.props.length:Int) != (t.props.length:Int))
   rotate_left
   ·have h6':¬ x.props.length=t.props.length:=by simp at h6;omega
    simp only [zat,fin 3 (by rw [hb,zfs,if_neg h6']) (by decide),go_sem,simprocAttr]
   have h6':x.props.length=t.props.length:=by simp at h6;omega
   simp only [go_sem,simprocAttr]
   refine zab (zij (fv:=.func (.func 171) [] []) x.props (fun s=>!znr s) false 2 rfl (by omega) fun s _=>⟨_,_,_,rfl,zK3 s⟩) rfl ?_
   simp only [go_sem,simprocAttr]
   cases h7:(x.props.any fun s=>!znr s)
   rotate_left
   ·simp only [zat,fin 7 (by rw [hb,zfs,if_pos h6',h7];rfl) (by decide),go_sem,simprocAttr]
   simp only [go_sem,simprocAttr]
   refine zab (zij (fv:=.func (.func 172) [] []) x.props (fun s=>decide (s.hi<s.lo)) false 2 rfl (by omega) fun s _=>⟨_,_,_,rfl,zK2 s⟩) rfl ?_
   simp only [go_sem,simprocAttr]
   cases h8:(x.props.any fun s=>decide (s.hi<s.lo))
   rotate_left
   ·simp only [zat,fin 2 (by rw [hb,zfs,if_pos h6',h7,h8];rfl) (by decide),go_sem,simprocAttr]
   simp only [h5,h5',go_sem,simprocAttr]
   refine zaA e1 () (go (by rw [hb,zfs,if_pos h6',h7,h8];rfl)) ?_
   simp only [hnx,h5',go_sem,simprocAttr]
 ·intro done x r _ e1 e2 hx hlt hnx
  obtain ⟨go,fin⟩:=zDm e2
  have hle:(((done++[x]).length:Nat):Int)≤(t.props.length:Int):=by rw [e1];simp<;>omega
  have htk:(t.props.map WxProp.pv).take (done++[x]).length=(done++[x]).map WxProp.pv:=by
   rw [e1,show done++x::r=(done++[x])++r by simp,List.map_append,List.take_left' (by simp)]
  have hdl:done.length<1000000:=by have:=congrArg List.length e1;simp at this;omega
  simp only [hlt,hx,hnx,hle,htk,go_sem,simprocAttr]
  refine zab (zqP done x false hdl) rfl ?_
  simp only [go_sem,simprocAttr]
  cases h5:(zaq (done.map (·.name)) x.name != 0)
  rotate_left
  ·have h5':zaq (done.map (·.name)) x.name≠0:=by simpa using h5
   simp only [h5,zat,fin _ (by rw [zb8,if_neg h5']) h5',go_sem,simprocAttr]
  have h5':zaq (done.map (·.name)) x.name=0:=by simpa using h5
  have hb:zb8 (done.map (·.name)) x=zjO x:=by rw [zb8,if_pos h5']
  simp only [go_sem,simprocAttr]
  refine zab (zcF 0 10000 [_] true (by simp)) rfl ?_
  simp only [List.any_cons,List.any_nil,Bool.or_false,go_sem,simprocAttr]
  cases h6:gIn x.error 0 10000
  ·simp only [zat,fin 7 (by rw [hb,zjO,h6];rfl) (by decide),go_sem,simprocAttr]
  simp only [h5,h5',go_sem,simprocAttr]
  refine zaA e1 () (go (by rw [hb,zjO,h6];rfl)) ?_
  simp only [hnx,h5',go_sem,simprocAttr]
end Wx
end Abs
end Go.Proofs.YtahlnclapingiaaGreatDoor
namespace Go.Proofs.YtahlnclapingiaaGreatDoor
namespace Abs
variable {P:Program} {M0:Nat→Prop}
structure OnlyB (b:Nat) (w w':World):Prop where
 os:w'.os=w.os
 tape:w'.tape=w.tape
 output:w'.output=w.output
 size:w'.heap.size=w.heap.size
 block:∀ k,k≠b→w'.heap[k]?=w.heap[k]?
theorem OnlyB.refl (b:Nat) (w:World):OnlyB b w w:=⟨rfl,rfl,rfl,rfl,fun _ _=>rfl⟩
theorem zgY (w:World) (b i:Nat) (v:Value):OnlyB b w (w.setCell ⟨b,i,none⟩ v) :=
 ⟨rfl,rfl,rfl,by simp [World.setCell],fun k hk=>Go.RowKit.Below.heap_setCell _ _ _ _ hk⟩
theorem zp6 {S:Mem} (hS:HOk P M0 S) {i b:Nat} {T e:TypeId} {x x':AV} {p p' v v':Value} {w':World} (hid:S.h[i]?=some (.bld T e x)) (hm:S.m.getD i none=some b)
  (hb:S.w.heap[b]?=some (.cells #[p,v] T (0,0))) (hw:OnlyB b S.w w') (hb':w'.heap[b]?=some (.cells #[p',v'] T (0,0))) (hp:p'=.pointer none∨p'=.pointer (some ⟨b,0,none⟩))
  (hx:x'=.p .nilslice∨∃ j n,x'=.slice j n 0 n) (hr:zbr M0 S v' x') (hs:∀ a n c,v'=.slice (some a) n c→∃ N,S.w.shape? a.block=some (e,N)) :
  HOk P M0 ⟨S.m,S.h.set i (.bld T e x'),w'⟩∧Ev S.h.length S ⟨S.m,S.h.set i (.bld T e x'),w'⟩:=by
 have hidlt:=(List.getElem?_eq_some_iff.1 hid).1
 have hown:Own S.m b:=List.mem_of_getElem? (zbm hm)
 have hsh:∀ c,w'.shape? c=S.w.shape? c:=by
  intro c
  by_cases hc:c=b
  ·subst hc
   simp [World.shape?,hb,hb']
  ·simp only [World.shape?,hw.block c hc]
 have he:Ev S.h.length S ⟨S.m,S.h.set i (.bld T e x'),w'⟩ :=
  {fr:=⟨hw.os,hw.tape,hw.output,Nat.le_of_eq hw.size.symm,fun c _ hn=>hw.block c (fun h=>hn (h▸hown)),fun c _=>hsh c⟩
   sub:=fun c h=>.inl h
   obj:=fun y oy hy hoy=>by
    by_cases hyi:y=i
    ·subst hyi
     rw [hid] at hoy;cases hoy
     exact ⟨.bld T e x',by simp [hidlt],.inr (.inr ⟨by simp [AObj.tag],rfl,rfl⟩)⟩
    ·exact ⟨oy,by simp [List.getElem?_set_ne (Ne.symm hyi),hoy],ObjEv.refl _ _⟩ }
 refine ⟨?_,he⟩
 exact
  {len:=by simpa using hS.len
   lt:=fun c h=>Nat.lt_of_lt_of_le (hS.lt c h) he.fr.size
   m0:=fun c h=>⟨Nat.lt_of_lt_of_le (hS.m0 c h).1 he.fr.size,(hS.m0 c h).2⟩
   inj:=hS.inj
   gl:=he.glob hS.gl
   obj:=fun y oy hoy=>by
    by_cases hyi:y=i
    ·subst hyi
     have hoy':(S.h.set y (.bld T e x'))[y]?=some oy:=hoy
     rw [List.getElem?_set_self hidlt] at hoy'
     cases hoy'
     exact ⟨b,p',v',hm,hb',hp,hx,he.rep0 hr (zdw hr),fun a n c hv=>let ⟨N,hN⟩:=hs a n c hv;⟨N,(hsh _).trans hN⟩⟩
    ·have hoy':(S.h.set i (.bld T e x'))[y]?=some oy:=hoy
     rw [List.getElem?_set_ne (Ne.symm hyi)] at hoy'
     refine (hS.obj y oy hoy').keep he fun c hc=>hw.block c fun h=>hyi ?_
     subst h
     exact hS.inj y i c (zbm hc) (zbm hm) }
theorem zh3 {h:Heap} {i:Nat} {o:AObj} (hid:h[i]?=some o):h.set i o=h:=zeX hid
theorem zuw {S:Mem} (hS:HOk P M0 S) {T U e ty:TypeId} {x:AV} {v v2:Value} {s:ByteArray} {w2:World} (hx:x=.p .nilslice∨∃ j n xs,x=.slice j n 0 n∧S.h[j]?=some (.row 1 xs)∧xs.length=n∧n+s.size≤zar)
  (hs0:s.size≤zar) (hr:zbr M0 S v x) (hT:zaM P T=some e) (hU:zcw P U=true) (hsz:za7 P e=some 1) (hby:zgl P e=some 1) (hz:zdp P e 1=true)
  (hsh:∀ a n c,v=.slice (some a) n c→∃ N,S.w.shape? a.block=some (e,N)) (hrun:(Builtin.append_ #[T,U] ty #[v,.string s]).run P S.w=.ok v2 w2) (hev:∀ b,b<S.w.heap.size→w2.shape? b=S.w.shape? b) :
  ∀ a n c,v2=.slice (some a) n c→∃ N,w2.shape? a.block=some (e,N):=by
 have hTu:=zbh hT
 have hUu:(∃ f,P.underlying U=some (.slice f))∨P.underlying U=some .string:=.inr (zcW hU)
 have hstr:Rep M0 S (.string s) (.p (.str s)):=RepP.str s
 obtain ⟨D,hlen,hD,hDs,hDel⟩:=zgz (P:=P) hS (y:=.p (.str s)) (sz:=1) (ys:=s.data.toList.map fun b:UInt8=>AV.p (PV.int .u8 (b.toNat:Int))) hstr (by unfold zfy;exact if_pos rfl)
 have hyl:(s.data.toList.map fun b:UInt8=>AV.p (PV.int .u8 (b.toNat:Int))).length=s.size:=by rw [List.length_map];exact Array.length_toList
 rw [hyl] at hlen hD hDs
 have key:∀ (base:Option Addr) (n cap:Nat) (O:Array Value),n+s.size≤zar→cap<n+s.size→v=.slice base n cap→(Builtin.firstCells 1 n (.slice base n cap)).run P S.w.drew=.ok O S.w.drew →
   ∀ a n c,v2=.slice (some a) n c→∃ N,w2.shape? a.block=some (e,N):=by
  intro base n cap O hroom hlt hv hO a n' c hv2
  subst hv
  obtain ⟨nc,R,hnc,hR,hrun2⟩:=zfU (ty:=ty) hTu hUu hsz hby (by omega) hz hroom hlt S.w hlen hO (hD _ rfl)
  rw [hrun2] at hrun
  cases hrun
  cases hv2
  refine ⟨(O++D++R).size,?_⟩
  show (S.w.drew.alloc _).shape? S.w.drew.heap.size=_
  unfold World.shape?
  rw [zaU]
 have nil:v=.slice none 0 0→∀ a n c,v2=.slice (some a) n c→∃ N,w2.shape? a.block=some (e,N):=by
  intro hv
  rcases Nat.eq_zero_or_pos s.size with h0 | h0
  ·subst hv
   intro a n c hv2
   have:=zgr (ty:=ty) hTu hUu hsz S.w (by rw [hlen,h0]) (by have:=hD S.w rfl;rw [h0] at this;exact this)
   rw [this] at hrun
   cases hrun
   cases hv2
  ·exact key none 0 0 #[] (by omega) (by omega) hv rfl
 rcases hx with rfl | ⟨j,n,xs,rfl,hj,hn,hroom⟩
 ·have h':RepP (Avoid M0 S.m) S.w v .nilslice:=hr
  cases h'
  exact nil rfl
 ·obtain ⟨O,hlo,hO,hOs,hOel⟩:=zgz (P:=P) (y:=.slice j n 0 n) (v:=v) (ys:=xs) (sz:=1) hS hr (by simp [zfy,hj,hn,sub,List.take_of_length_le (Nat.le_of_eq hn)])
  rcases zbz hr.2 hj hn with ⟨h1,h2,h3,_⟩ | ⟨b,cap,T',N,hm,rfl,hcap,hsh2,hfit,hreach⟩ | ⟨_,rfl,h0⟩
  ·omega
  ·rcases Nat.lt_or_ge cap (n+s.size) with hlt | hge
   ·have:=hO S.w.drew rfl
    rw [hn] at this
    exact key _ n cap O hroom hlt rfl (by simpa using this)
   ·obtain ⟨C,T2,hb2,hsize2,hel2⟩:=zcV hS hj hm
    have hNC:N=C.size:=by
     unfold World.shape? at hsh2
     rw [hb2] at hsh2
     simp at hsh2
     exact hsh2.2.symm
    have hrun2:=zhv (ty:=ty) (cap:=cap) hTu hUu hsz hge S.w hlen (hD _ rfl) (by simpa using hb2) (by rw [hDs];omega) (ziP hyl (by rw [hDs]) hDel)
    have hv:(Value.slice (some ⟨b,0*1,none⟩) n cap)=.slice (some ⟨b,0,none⟩) n cap:=by rw [Nat.zero_mul]
    rw [hv,hrun2] at hrun
    intro a n' c hv2
    cases hrun
    cases hv2
    obtain ⟨N',hN'⟩:=hsh _ _ _ rfl
    exact ⟨N',(hev _ (zjG hN')).trans hN'⟩
  ·subst h0
   exact nil rfl
end Abs
end Go.Proofs.YtahlnclapingiaaGreatDoor
namespace Go.Proofs.YtahlnclapingiaaGreatDoor
namespace Abs
variable {P:Program} {H:Hints} {Q:Cont}
def zyk (P:Program) (fv:PV) (n:Nat) (l:List (List PV)):Prop :=
 (∀ a,a∈l→a.length=n)∧∃ (g:FuncId) (first cap:List PV),fv=.func (.func g) first cap∧∀ (id:Nat) (Inv:Nat→Heap→Prop) (Fin:Heap→Prop) (h0:Heap),id<h0.length →
  (∀ (k:Nat) (xs:List PV) (lo mid:Heap),l[k]?=some xs→Inv k lo→lo.length=h0.length →
   zkM P id (xs.map .p) (lo++mid) (fun r h'=>∃ lo' ext,h'=lo'++mid++ext∧lo'.length=h0.length ∧
    ((r=.ret (.p (.bool true))∧Inv (k+1) lo')∨(r=.ret (.p (.bool false))∧Fin lo')))) →
  Inv 0 h0→zap P g (first.map .p++[.ref .yl id]++cap.map .p) h0 (fun r h'=>r=.ret (.p (.tuple []))∧∃ lo mid,h'=lo++mid∧lo.length=h0.length∧(Inv l.length lo∨Fin lo))
theorem zwL {ps:Array Tmp} {assign body:Code} {g:Operand} {A:AAct} {fv:PV} {l:List (List PV)} (Inv:AObj→Nat→Heap→Prop) (Fin:Code→Heap→Prop)
  (hrc:A.rc=.no) (hg:A.eval g=.p fv) (hit:zyk P fv ps.size l) (hD:zcb P) (hps:zh7 A.n ps=true) (hoka:zbL H A.n assign=true) (hokb:zbL H A.n body=true)
  (hat:∀ o k h,Inv o k h→h[A.h.length+1]?=some o) (h0:∀ o,Inv o 0 (A.h++[.dblock,o]))
  (hround:∀ (oR oB:AObj) (oD:Code→AObj) (k:Nat) (xs:List PV) (lo mid:Heap),l[k]?=some xs→Inv oR k lo→lo.length=A.h.length+2 →
   @W ⟨P,H,assign,zld oR oB (A.h.length+1) (lo++mid).length (fun B=>wp P H body (ziF oB oR oD (A.h.length+1) (lo++mid).length
    (fun r h'=>∃ lo' ext,h'=lo'++mid++ext∧lo'.length=A.h.length+2∧((r=.ret (.p (.bool true))∧Inv oR (k+1) lo')∨(r=.ret (.p (.bool false))∧∃ c,Fin c lo'∧lo'[A.h.length+1]?=some (oD c))))) B)⟩
    {n:=A.n,bs:=(lo++mid).length,rc:=.rnd,tmps:=zdB A.tmps ps.toList (xs.map .p),h:=lo++mid,df:=[] })
  (hend:∀ o lo mid,Inv o l.length lo→lo.length=A.h.length+2→@WQ ⟨Q⟩ .normal { A with h:=(lo++mid).set (A.h.length+1) .dead,df:=.collected A.h.length::A.df })
  (hfin:∀ c lo mid,Fin c lo→lo.length=A.h.length+2→zmU Q { A with h:=(lo++mid).set (A.h.length+1) .dead,df:=.collected A.h.length::A.df } c):@W ⟨P,H,.rangeFunc g ps assign body,Q⟩ A:=by
 obtain ⟨hn,gf,first,cap,rfl,hi⟩:=hit
 have hoR:∃ oR,oR=AObj.loop A.n A.tmps ps assign body .ready none:=⟨_,rfl⟩
 obtain ⟨oR,hR⟩:=hoR
 refine znT (f:=gf) (args:=first.map .p++[.ref .yl (A.h.length+1)]++cap.map .p)
  (R:=fun r h=>r=.ret (.p (.tuple []))∧∃ lo mid,h=lo++mid∧lo.length=A.h.length+2∧(Inv oR l.length lo∨∃ c,Fin c lo∧lo[A.h.length+1]?=some (.loop A.n A.tmps ps assign body .done (some c))))
  hrc (by rw [hg];rfl) ?_ (fun v h hr=>?_) fun v h hr=>(by cases hr.1)
 ·rw [←hR]
  have hl2:(A.h++[.dblock,oR]).length=A.h.length+2:=by simp
  have key:=hi (A.h.length+1) (Inv oR) (fun lo=>∃ c,Fin c lo∧lo[A.h.length+1]?=some (.loop A.n A.tmps ps assign body .done (some c))) (A.h++[.dblock,oR]) (by simp) (fun k xs lo mid hv hI hlo=>?_) (h0 oR)
  ·rw [hl2] at key
   exact key
  rw [hl2] at hlo ⊢
  have hat':=hat _ _ _ hI
  have hat2:(lo++mid)[A.h.length+1]?=some oR:=by rw [List.getElem?_append_left (by omega)];exact hat'
  rw [hR] at hat2
  refine zjj hD (H:=H) hat2 hps (by rw [List.length_map];exact (hn xs (List.mem_of_getElem? hv)).symm) hoka hokb ?_
  have:=hround oR (.loop A.n A.tmps ps assign body .busy none) (fun j=>.loop A.n A.tmps ps assign body .done (some j)) k xs lo mid hv hI hlo
  refine ze6 assign (fun e B hB=>?_) this
  cases e with
  |normal =>
   obtain ⟨b1,b2,b3⟩:=hB
   rw [hR] at b2
   refine ⟨b1,b2,ze6 body (fun e C hC=>?_) b3⟩
   cases e with
   |normal =>
    obtain ⟨c1,c2,c3⟩:=hC
    refine ⟨c1,⟨_,_,c2⟩,?_⟩
    rw [←hR]
    obtain ⟨lo',ext,d1,d2,d3⟩:=c3
    refine ⟨lo',ext,d1,d2,?_⟩
    rcases d3 with d3 | ⟨d3,_⟩
    ·exact .inl d3
    ·cases d3
   |exit id =>
    obtain ⟨c1,c2,c3⟩:=hC
    refine ⟨c1,⟨_,_,c2⟩,?_⟩
    obtain ⟨lo',ext,d1,d2,d3⟩:=c3
    refine ⟨lo',ext,d1,d2,?_⟩
    rcases d3 with ⟨d3,_⟩ | ⟨d3,c,f1,f2⟩
    ·cases d3
    ·exact .inr ⟨rfl,c,f1,f2⟩
   |ret =>
    obtain ⟨c1,c2,c3⟩:=hC
    refine ⟨c1,⟨_,_,c2⟩,?_⟩
    obtain ⟨lo',ext,d1,d2,d3⟩:=c3
    refine ⟨lo',ext,d1,d2,?_⟩
    rcases d3 with ⟨d3,_⟩ | ⟨d3,c,f1,f2⟩
    ·cases d3
    ·exact .inr ⟨rfl,c,f1,f2⟩
   |panic v =>
    obtain ⟨_,_,c3⟩:=hC
    obtain ⟨lo',ext,d1,d2,d3⟩:=c3
    rcases d3 with ⟨d3,_⟩ | ⟨d3,_⟩<;>cases d3
  |exit id=>exact hB
  |ret=>exact hB
  |panic v=>exact hB
 ·obtain ⟨hr,lo,mid,rfl,hlo,hI⟩:=hr
  rcases hI with hI | ⟨c,f1,f2⟩
  ·have hat':(lo++mid)[A.h.length+1]?=some oR:=by rw [List.getElem?_append_left (by omega)];exact hat _ _ _ hI
   rw [hR] at hat'
   rw [hat']
   exact ⟨by simp,hend _ _ _ hI hlo⟩
  ·have hat':(lo++mid)[A.h.length+1]?=some (.loop A.n A.tmps ps assign body .done (some c)):=by rw [List.getElem?_append_left (by omega)];exact f2
   rw [hat']
   have:=hfin c lo mid f1 hlo
   refine ⟨by simp,?_⟩
   cases c<;>first | exact this.elim | exact this
theorem zgf {lo:Heap} {n0:Nat} (h:lo.length=n0) (t:Heap) (j:Nat):(lo++t)[n0+j]?=t[j]?:=by rw [List.getElem?_append_right (by omega)];congr 1;omega
theorem zgg {lo:Heap} {n0:Nat} (h:lo.length=n0) (t:Heap):(lo++t)[n0]?=t[0]?:=zgf h t 0
theorem zhK {lo:Heap} {n0:Nat} (h:lo.length=n0) (t:Heap) (j:Nat) (x:AObj):(lo++t).set (n0+j) x=lo++t.set j x:=by
 rw [List.set_append_right _ _ (by omega)];congr 2;omega
theorem zhL {lo:Heap} {n0:Nat} (h:lo.length=n0) (t:Heap) (x:AObj):(lo++t).set n0 x=lo++t.set 0 x:=zhK h t 0 x
end Abs
end Go.Proofs.YtahlnclapingiaaGreatDoor
