/-
  CONTRACTS: strings.Builder: a text written into one of one's own, and what it holds. No co
  CONTRACTS: look: a kind with its rates. No conditions but those in the theorems' heads.
-/
import Derived.Test.YtahlnclapingiaaGreatDoorHrShelfX
import Derived.Test.YtahlnclapingiaaGreatDoorWxChkX
import Derived.Lib.Walk
import Derived.Lib.Builder
import Derived.Lib.UnsafeStr
import Derived.WalkKit
import Derived.Laws.Externs
import Derived.Test.YtahlnclapingiaaGreatDoorHrFracX
set_option linter.unusedSimpArgs false
set_option linter.unusedVariables false
namespace Go.Proofs.YtahlnclapingiaaGreatDoor
namespace Abs
open Go.RowKit
set_option maxRecDepth 100000
theorem zwH:(Tryz.prog.info? 69).map (·.size)=some 2:=by kernel_rfl
theorem zEI:liesAt Tryz.prog Tryz.prog.depth 69 (2 / Tryz.prog.cellsOf 69) 0 69 1=true:=by kernel_rfl
set_option maxHeartbeats 1000000 in
theorem zmm (b:Nat) (w:World) (h0:w.cell? ⟨b,0,none⟩=some (.pointer (some ⟨b,0,none⟩))) :
  Calls Tryz.prog 47 #[.pointer (some ⟨b,0,none⟩)] w fun e w'=>e=.returned (.tuple #[])∧w'=w:=by
 obtain ⟨j,hj,_⟩:=Option.map_eq_some_iff.1 zwH
 go_enter Tryz.func47,Tryz.ntmps47
 go_wp2
 rw [Lib.run_neq_ptr_same w _ Tryz.underlying66 hj]
 go_wp2
 go_end0
 exact ⟨rfl,rfl⟩
set_option maxHeartbeats 1000000 in
theorem zlb (b:Nat) (w:World) (h0:w.cell? ⟨b,0,none⟩=some (.pointer none)) (hsh:w.shape? b=some (69,2)) (hfz:w.frozen? ⟨b,0,none⟩=false) :
  Calls Tryz.prog 47 #[.pointer (some ⟨b,0,none⟩)] w fun e w'=>e=.returned (.tuple #[])∧w'=w.setCell ⟨b,0,none⟩ (.pointer (some ⟨b,0,none⟩)):=by
 obtain ⟨j,hj,hjs⟩:=Option.map_eq_some_iff.1 zwH
 go_enter Tryz.func47,Tryz.ntmps47
 go_wp2
 rw [Lib.run_to_unsafe w ⟨b,0,none⟩ Tryz.underlying66 Tryz.underlying170 hj (by rw [hjs];decide) hsh (Nat.zero_lt_succ 1)]
 simp only [Result.andThen]
 rw [Oper.upon_value]
 go_wp2
 rw [run_callFunc_extern Tryz.func80 (by kernel_rfl) (by kernel_rfl) (by kernel_rfl) (e:=Extern.AbiNoEscape.same) (by kernel_rfl)]
 rw [Lib.run_noEscape]
 simp only [Result.andThen]
 rw [Oper.upon_value]
 go_wp2
 rw [Lib.run_from_unsafe w ⟨b,0,none⟩ Tryz.underlying170 Tryz.underlying66 hj hsh zEI]
 simp only [Result.andThen]
 rw [Oper.upon_value]
 go_wp2
 go_end0
 exact ⟨rfl,rfl⟩
theorem zds {w:World} {b:Nat} {cs:Array Value} {T:TypeId} {fr:Nat×Nat} (hb:w.heap[b]?=some (.cells cs T fr)) (j:Nat):w.cell? ⟨b,j,none⟩=cs[j]?:=by
 simp [World.cell?,hb]
theorem zBR (b:Nat) (w:World) (p v:Value) (hb:w.heap[b]?=some (.cells #[p,v] 69 (0,0))) (hp:p=.pointer none∨p=.pointer (some ⟨b,0,none⟩)) :
  Calls Tryz.prog 47 #[.pointer (some ⟨b,0,none⟩)] w fun e w'=>e=.returned (.tuple #[])∧OnlyB b w w'∧w'.heap[b]?=some (.cells #[.pointer (some ⟨b,0,none⟩),v] 69 (0,0)):=by
 rcases hp with rfl | rfl
 ·refine (zlb b w (by rw [zds hb];rfl) (by simp [World.shape?,hb]) (by simp [World.frozen?,hb])).mono ?_
  rintro e w' ⟨rfl,rfl⟩
  refine ⟨rfl,zgY _ _ _ _,?_⟩
  simp [World.setCell,Array.getElem?_modify,hb]
 ·refine (zmm b w (by rw [zds hb];rfl)).mono ?_
  rintro e w' ⟨rfl,rfl⟩
  exact ⟨rfl,OnlyB.refl _ _,hb⟩
theorem znU {P:Program} {ops:Array Oper} {rest:List Oper} {o:Oper} {a:Act} {w:World} {Q:Exit→Act→World→Prop} (hgd:o.guard=none) (sl x:Operand) (t u:TypeId)
  (ho:o.op=.call { callee:=.builtin .append,args:=#[sl,x],argTypes:=#[t,u] }) (v y v':Value) (w':World) (hs:a.eval sl=v) (hx:a.eval x=y)
  (hr:∀ ty,(Builtin.append_ #[t,u] ty #[v,y]).run P w=.ok v' w') (h:wpList P ops Q rest (a.put o.dst v') w'):wpList P ops Q (o::rest) a w:=by
 refine wpList_plain hgd fun K hK=>?_
 unfold Oper.wp execOp
 simp only [ho,resolve,invoke,builtin,Sem.run_bind,Sem.run_pure,Result.andThen_ok,List.map_toArray,List.map_cons,List.map_nil,hs,hx,hr o.type]
 exact hK _ _ h
set_option maxHeartbeats 2000000 in
theorem zBP (b:Nat) (w:World) (p v:Value) (s:ByteArray) (R:World→Prop) (hb:w.heap[b]?=some (.cells #[p,v] 69 (0,0))) (hp:p=.pointer none∨p=.pointer (some ⟨b,0,none⟩))
  (hv:∀ w1,OnlyB b w w1→w1.heap[b]?=some (.cells #[.pointer (some ⟨b,0,none⟩),v] 69 (0,0))→∃ w2 v2 p2 v0,(∀ ty,(Builtin.append_ #[67,9] ty #[v,.string s]).run Tryz.prog w1=.ok v2 w2)∧w2.heap[b]?=some (.cells #[p2,v0] 69 (0,0)) ∧
   (∃ a n c,v2=.slice a n c)∧R (w2.setCell ⟨b,1,none⟩ v2)) :
  Calls Tryz.prog 20 #[.pointer (some ⟨b,0,none⟩),.string s] w fun e w'=>e=.returned (.tuple #[.int .i64 s.size,.nilIface])∧R w':=by
 go_enter Tryz.func20,Tryz.ntmps20
 go_wp2_with (go_at_call 47;refine (zBR b _ p v hb hp).mono ?_)
 rintro e w1 ⟨rfl,ho,hb1⟩
 obtain ⟨w2,v2,p2,v0,hap,hb2,⟨a,n,c,rfl⟩,hR⟩:=hv w1 ho hb1
 have c0:w1.cell? ⟨b,0,none⟩=some (.pointer (some ⟨b,0,none⟩)):=by rw [zds hb1];rfl
 have c1:w1.cell? ⟨b,1,none⟩=some v:=by rw [zds hb1];rfl
 have d0:w2.cell? ⟨b,0,none⟩=some p2:=by rw [zds hb2];rfl
 have d1:w2.cell? ⟨b,1,none⟩=some v0:=by rw [zds hb2];rfl
 have f1:w2.frozen? ⟨b,1,none⟩=false:=by simp [World.frozen?,hb2]
 go_wp2_with (at_builtin;refine znU rfl _ _ 67 9 rfl v (.string s) (.slice a n c) w2 rfl rfl hap ?_)
 go_ret2
 exact ⟨rfl,hR⟩
def zdH (s:ByteArray):List AV:=s.data.toList.map fun b:UInt8=>AV.p (PV.int .u8 (b.toNat:Int))
theorem zfw (s:ByteArray):(zdH s).length=s.size:=by unfold zdH;rw [List.length_map];exact Array.length_toList
theorem zHB:zcw Tryz.prog 9=true:=by kernel_rfl
theorem zrC {h h1:Heap} {i:Nat} {x x':AV} {s:ByteArray} (hi:h[i]?=some (.bld 69 5 x)) (hs0:s.size≤zar)
  (hx:x=.p .nilslice∨∃ j n xs,x=.slice j n 0 n∧h[j]?=some (.row 1 xs)∧xs.length=n∧n+s.size≤zar)
  (hap:zli Tryz.prog 67 9 x (.p (.str s)) h=.val x' h1) (hi1:h1[i]?=some (.bld 69 5 x)) (hx':x'=.p .nilslice∨∃ j n,x'=.slice j n 0 n) :
  zap Tryz.prog 20 [.ref .bl i,.p (.str s)] h (fun r h'=>r=.ret (.p (.tuple [.int .i64 s.size,.niliface]))∧h'=h1.set i (.bld 69 5 x')):=by
 intro M0 m w cargs hS ha
 have hn:=ha.1
 have ha0:=ha.2 0 _ rfl
 have ha1:=ha.2 1 _ rfl
 obtain ⟨c0,c1,rfl⟩:∃ c0 c1,cargs=#[c0,c1]:=⟨cargs.getD 0 undef,cargs.getD 1 undef,by
  apply Array.ext
  ·simpa using hn
  ·intro i h1 h2
   have:i=0∨i=1:=by simp at h2;omega
   rcases this with rfl | rfl<;>simp [h1]⟩
 have ha1':RepP (Avoid M0 m) w c1 (.str s):=ha1
 cases ha1'
 obtain ⟨b,p,v,hm,hb,hp,hxf,hr,hsh⟩:=hS.obj i _ hi
 have hm':m.getD i none=some b:=hm
 obtain rfl:c0=.pointer (some ⟨b,0,none⟩):=by
  rcases ha0.2 with hd | ⟨_,b',hb',hv⟩
  ·have hd':h[i]?=some .dead:=hd
   rw [hi] at hd';cases hd'
  ·have hb2:m.getD i none=some b':=hb'
   rw [hm'] at hb2
   cases hb2
   exact hv
 have hb0:w.heap[b]?=some (.cells #[p,v] 69 (0,0)):=hb
 refine ⟨(fun w'=>zeP Tryz.func20 zNi _ w'),?_⟩
 refine (zBP b w p v s (fun w'=>∃ m',Ev h.length ⟨m,h,w⟩ ⟨m',h1.set i (.bld 69 5 x'),w'⟩∧HOk Tryz.prog M0 ⟨m',h1.set i (.bld 69 5 x'),w'⟩) hb0 hp ?_).mono ?_
 ·intro w1 ho hb1
  obtain ⟨k1,e1⟩:=zp6 (S:=⟨m,h,w⟩) hS hi hm' hb0 ho hb1 (.inr rfl) hxf hr hsh
  rw [show (Mem.mk m h w).h.set i (.bld 69 5 x)=h from zh3 hi] at k1 e1
  have hr1:zbr M0 ⟨m,h,w1⟩ v x:=e1.rep0 hr (zdw hr)
  have hvx:Rep M0 ⟨m,h,w1⟩ v x:=by
   rcases hxf with rfl | ⟨j,n,rfl⟩
   ·exact hr1
   ·exact hr1
  have hap1:=zrY (P:=Tryz.prog) (T:=67) (U:=9) (ty:=0) k1 hvx (show Rep M0 ⟨m,h,w1⟩ (.string s) (.p (.str s)) from RepP.str s)
  rw [show (Mem.mk m h w1).h=h from rfl,hap] at hap1
  obtain ⟨S2,v2,hS2,hrun,e2,k2,hr2⟩:=hap1
  obtain ⟨m2,h2,w2⟩:=S2
  obtain rfl:h1=h2:=hS2.symm
  have hrun':∀ ty,(Builtin.append_ #[67,9] ty #[v,.string s]).run Tryz.prog w1=.ok v2 w2:=fun ty=>hrun
  obtain ⟨b2,p2,v0,hm2,hb2,hp2,_,_,_⟩:=k2.obj i _ hi1
  have hbb:b2=b:=by
   obtain ⟨o',ho',hoe⟩:=e2.obj i _ (List.getElem?_eq_some_iff.1 hi).1 hi
   have ho2:h1[i]?=some o':=ho'
   rw [hi1] at ho2
   cases ho2
   rcases hoe with he | ⟨_,_,_,he,_⟩ | ⟨_,_,he⟩
   ·cases he
   ·cases he
   ·have:m2.getD i none=m.getD i none:=he
    rw [hm'] at this
    have hm2':m2.getD i none=some b2:=hm2
    rw [this] at hm2'
    cases hm2'
    rfl
  subst hbb
  have hb2':w2.heap[b2]?=some (.cells #[p2,v0] 69 (0,0)):=hb2
  have hsl:∃ a n c,v2=.slice a n c:=by
   rcases hx' with rfl | ⟨j,n,rfl⟩
   ·have h':RepP (Avoid M0 m2) w2 v2 .nilslice:=hr2
    cases h'
    exact ⟨_,_,_,rfl⟩
   ·exact hr2.1
  have hsh2:=zuw (P:=Tryz.prog) (T:=67) (U:=9) (e:=5) (ty:=0) k1 hx hs0 hr1 (by kernel_rfl) zHB (by kernel_rfl) (by kernel_rfl) (by kernel_rfl)
   (fun a n c hv=>by
    obtain ⟨N,hN⟩:=hsh a n c hv
    exact ⟨N,(e1.fr.shape _ (zjG hN)).trans hN⟩) (hrun' 0) (fun c hc=>e2.fr.shape c hc)
  have hr2':zbr M0 ⟨m2,h1,w2⟩ v2 x':=by
   rcases hx' with rfl | ⟨j,n,rfl⟩
   ·exact hr2
   ·exact hr2
  refine ⟨w2,v2,p2,v0,hrun',hb2',hsl,m2,?_⟩
  obtain ⟨k3,e3⟩:=zp6 (S:=⟨m2,h1,w2⟩) (w':=w2.setCell ⟨b2,1,none⟩ v2) (p':=p2) (v':=v2) (x':=x') k2 hi1 hm2 hb2' (zgY _ _ _ _) (by simp [World.setCell,Array.getElem?_modify,hb2']) hp2 hx' hr2' hsh2
  exact ⟨(e1.trans e2).trans (e3.mono (e2.len (Nat.le_refl _))),k3⟩
 ·rintro e w' ⟨rfl,m',hev,hk⟩
  exact ⟨.ret (.p (.tuple [.int .i64 s.size,.niliface])),_,m',⟨rfl,rfl⟩,hev,hk,znv (.int _ _) .niliface⟩
theorem zte (w:World) (p:Addr) (n:Nat):OnlyB p.block w (w.freeze p n):=by
 unfold World.freeze
 split
 ·exact OnlyB.refl _ _
 ·exact ⟨rfl,rfl,rfl,by simp,fun k hk=>by simp only [Array.getElem?_modify];rw [if_neg (Ne.symm hk)]⟩
theorem ztN (w:World) (p:Addr) (n c:Nat):(w.freeze p n).shape? c=w.shape? c:=by
 unfold World.freeze
 split
 ·rfl
 ·unfold World.shape?
  simp only [Array.getElem?_modify]
  by_cases hc:p.block=c
  ·rw [if_pos hc]
   subst hc
   cases w.heap[p.block]? with
   |none=>rfl
   |some o=>cases o<;>rfl
  ·rw [if_neg hc]
theorem zDe:Tryz.prog.cellsOf 5=1:=by kernel_rfl
set_option maxHeartbeats 2000000 in
theorem zxY (b g cap N:Nat) (w:World) (p:Value) (l:List UInt8) (h0:l≠[]) (hb:w.heap[b]?=some (.cells #[p,.slice (some ⟨g,0,none⟩) l.length cap] 69 (0,0)))
  (hg:w.shape? g=some (5,N)) (hN:l.length≤N) (hc:l.length≤cap) (h63:l.length≤9223372036854775807) (hcell:∀ j x,l[j]?=some x→w.cell? ⟨g,j,none⟩=some (.int .u8 x.toNat)) :
  Calls Tryz.prog 21 #[.pointer (some ⟨b,0,none⟩)] w fun e w'=>e=.returned (.string ⟨l.toArray⟩)∧w'=w.drew.freeze ⟨g,0,none⟩ l.length:=by
 have hl0:l.length≠0:=by simpa using h0
 have c1:w.drew.cell? ⟨b,1,none⟩=some (.slice (some ⟨g,0,none⟩) l.length cap):=by
  have:w.drew.heap[b]?=some (.cells #[p,.slice (some ⟨g,0,none⟩) l.length cap] 69 (0,0)):=hb
  rw [zds this];rfl
 have hSD:(Builtin.unsafeSliceData_ #[67] 122 #[.slice (some ⟨g,0,none⟩) l.length cap]).run Tryz.prog w.drew=.ok (.pointer (some ⟨g,0,none⟩)) w.drew :=
  Lib.run_unsafeSliceData_row _ _ _ _ _ _ (by omega)
 have hUS:(Builtin.unsafeString_ #[122,3] 9 #[.pointer (some ⟨g,0,none⟩),.int .i64 l.length]).run Tryz.prog w.drew=.ok (.string ⟨l.toArray⟩) (w.drew.freeze ⟨g,0,none⟩ l.length) :=
  Lib.run_unsafeString_row w.drew 122 3 9 5 Tryz.underlying122 zDe g N hg l h0 hN h63 (fun j x hx=>by rw [zcT,Nat.zero_add];exact hcell j x hx)
 go_enter Tryz.func21,Tryz.ntmps21
 go_wp2
 go_region
 all_goals (go_wp2;go_ret;exact ⟨rfl,rfl⟩)
set_option maxHeartbeats 2000000 in
theorem zxZ (b:Nat) (w:World) (p:Value) (hb:w.heap[b]?=some (.cells #[p,.slice none 0 0] 69 (0,0))) :
  Calls Tryz.prog 21 #[.pointer (some ⟨b,0,none⟩)] w fun e w'=>e=.returned (.string .empty)∧w'=w.drew:=by
 have c1:w.drew.cell? ⟨b,1,none⟩=some (.slice none 0 0):=by
  have:w.drew.heap[b]?=some (.cells #[p,.slice none 0 0] 69 (0,0)):=hb
  rw [zds this];rfl
 have hUS:∀ W:World,(Builtin.unsafeString_ #[122,3] 9 #[.pointer none,.int .i64 0]).run Tryz.prog W=.ok (.string .empty) W:=fun W=>Lib.run_unsafeString_none W _ _ _ none
 have hSD:(Builtin.unsafeSliceData_ #[67] 122 #[.slice none 0 0]).run Tryz.prog w.drew=.ok (.pointer none) w.drew:=rfl
 go_enter Tryz.func21,Tryz.ntmps21
 go_wp2
 go_region
 all_goals (go_wp2;go_ret;exact ⟨rfl,rfl⟩)
theorem zlU {h:Heap} {i j:Nat} {s:ByteArray} (hi:h[i]?=some (.bld 69 5 (.slice j s.size 0 s.size))) (hj:h[j]?=some (.row 1 (zdH s))) (h0:s.size≠0) (h63:s.size≤9223372036854775807) :
  zap Tryz.prog 21 [.ref .bl i] h (fun r h'=>r=.ret (.p (.str s))∧h'=h.set j .dead):=by
 intro M0 m w cargs hS ha
 have hn:=ha.1
 have ha0:=ha.2 0 _ rfl
 obtain ⟨c0,rfl⟩:∃ c0,cargs=#[c0]:=⟨cargs.getD 0 undef,by
  apply Array.ext
  ·simpa using hn
  ·intro i h1 h2
   have:i=0:=by simp at h2;omega
   subst this
   simp [h1]⟩
 obtain ⟨b,p,v,hm,hb,hp,hxf,hr,hsh⟩:=hS.obj i _ hi
 have hm':m.getD i none=some b:=hm
 obtain rfl:c0=.pointer (some ⟨b,0,none⟩):=by
  rcases ha0.2 with hd | ⟨_,b',hb',hv⟩
  ·have hd':h[i]?=some .dead:=hd
   rw [hi] at hd';cases hd'
  ·have hb2:m.getD i none=some b':=hb'
   rw [hm'] at hb2
   cases hb2
   exact hv
 have hb0:w.heap[b]?=some (.cells #[p,v] 69 (0,0)):=hb
 refine ⟨fun w'=>Go.Proofs.enters_of Tryz.func21 (by kernel_rfl) rfl _ w',?_⟩
 have hlen:s.data.toList.length=s.size:=Array.length_toList
 rcases zbz hr.2 hj (zfw s) with ⟨h1,h2,h3,_⟩ | ⟨g,cap,T',N,hmg,rfl,hcap,hsh2,hfit,hreach⟩ | ⟨_,rfl,h00⟩
 ·exact absurd h1 h0
 ·obtain ⟨C,T2,hb2,hsize2,hel2⟩:=zcV hS hj hmg
  have hgs:w.shape? g=some (5,C.size):=by
   obtain ⟨N',hN'⟩:=hsh _ _ _ rfl
   have hN2:w.shape? g=some (5,N'):=hN'
   have hb3:w.heap[g]?=some (.cells C T2 (0,0)):=hb2
   unfold World.shape? at hN2 ⊢
   rw [hb3] at hN2 ⊢
   simp at hN2 ⊢
   exact hN2.1
  have hsz:s.size≤C.size:=by
   have:(zdH s).length*1≤C.size:=hsize2
   rw [zfw] at this
   omega
  have hv:(Value.slice (some ⟨g,0*1,none⟩) s.size cap)=.slice (some ⟨g,0,none⟩) s.data.toList.length cap:=by rw [Nat.zero_mul,hlen]
  rw [hv] at hb0
  have hcells:∀ (k:Nat) (x:UInt8),s.data.toList[k]?=some x→w.cell? ⟨g,k,none⟩=some (.int .u8 x.toNat):=by
   intro k x hx
   obtain ⟨cs,a1,a2,a3⟩:=hel2 k (.p (.int .u8 x.toNat)) (by simp [zdH,hx])
   cases a1
   have a4:=(a3 0 _ rfl).2
   have a5:RepP (Avoid M0 m) w (C.getD (k*1+0) undef) (.int .u8 x.toNat):=a4
   have hk:k<C.size:=by have:=(List.getElem?_eq_some_iff.1 hx).1;omega
   have hb3:w.heap[g]?=some (.cells C T2 (0,0)):=hb2
   rw [zeR hb3 k hk]
   rw [Nat.mul_one,Nat.add_zero] at a5
   generalize C.getD k undef=z at a5 ⊢
   cases a5
   rfl
  refine (zxY b g cap C.size w p s.data.toList (by intro hc;rw [hc] at hlen;simp at hlen;omega) hb0 hgs (by omega) (by rw [hlen];exact hcap.1) (by omega) hcells).mono ?_
  rintro e w' ⟨rfl,rfl⟩
  have hof:OnlyB g w (w.drew.freeze ⟨g,0,none⟩ s.data.toList.length):=by
   have:=zte w.drew ⟨g,0,none⟩ s.data.toList.length
   exact ⟨this.os,this.tape,this.output,this.size,this.block⟩
  obtain ⟨hk,hev⟩:=zu0 (S:=⟨m,h,w⟩) hS j (w':=w.drew.freeze ⟨g,0,none⟩ s.data.toList.length)
   ⟨hof.os,hof.tape,hof.output,Nat.le_of_eq hof.size.symm,fun c _ hc=>hof.block c (fun e=>hc (e▸List.mem_of_getElem? (zbm hmg))),fun c _=>ztN w.drew _ _ c⟩
   (fun x bl hx hbl=>hof.block bl fun e=>hx (hS.inj x j bl (zbm hbl) (e▸zbm hmg)))
  exact ⟨.ret (.p (.str s)),_,m,⟨rfl,rfl⟩,hev,hk,RepP.str s⟩
 ·exact absurd h00 h0
theorem zzw {h:Heap} {i:Nat} (hi:h[i]?=some (.bld 69 5 (.p .nilslice))):zap Tryz.prog 21 [.ref .bl i] h (fun r h'=>r=.ret (.p (.str .empty))∧h'=h):=by
 intro M0 m w cargs hS ha
 have hn:=ha.1
 have ha0:=ha.2 0 _ rfl
 obtain ⟨c0,rfl⟩:∃ c0,cargs=#[c0]:=⟨cargs.getD 0 undef,by
  apply Array.ext
  ·simpa using hn
  ·intro i h1 h2
   have:i=0:=by simp at h2;omega
   subst this
   simp [h1]⟩
 obtain ⟨b,p,v,hm,hb,hp,hxf,hr,hsh⟩:=hS.obj i _ hi
 have hm':m.getD i none=some b:=hm
 obtain rfl:c0=.pointer (some ⟨b,0,none⟩):=by
  rcases ha0.2 with hd | ⟨_,b',hb',hv⟩
  ·have hd':h[i]?=some .dead:=hd
   rw [hi] at hd';cases hd'
  ·have hb2:m.getD i none=some b':=hb'
   rw [hm'] at hb2
   cases hb2
   exact hv
 have hv:RepP (Avoid M0 m) w v .nilslice:=hr
 cases hv
 have hb0:w.heap[b]?=some (.cells #[p,.slice none 0 0] 69 (0,0)):=hb
 refine ⟨fun w'=>Go.Proofs.enters_of Tryz.func21 (by kernel_rfl) rfl _ w',(zxZ b w p hb0).mono ?_⟩
 rintro e w' ⟨rfl,rfl⟩
 exact ⟨.ret (.p (.str .empty)),_,m,⟨rfl,rfl⟩,Ev.drew _ ⟨m,h,w⟩,HOk.drew hS,RepP.str _⟩
end Abs
end Go.Proofs.YtahlnclapingiaaGreatDoor
namespace Go.Proofs.YtahlnclapingiaaGreatDoor
namespace Abs
set_option maxRecDepth 4000
structure HrKindOk (k:HrKind):Prop where
 lo:1≤k.weight.lo
 le:k.weight.lo≤k.weight.hi
 hi:k.weight.hi≤10000000
 rest:0≤k.rest
 less:k.rest<k.weight.lo
 name:nameOk k.name=true
theorem zc8 {α:Type} {f:List ByteArray→α→Int} {nm:α→ByteArray}:∀ {l:List α} {before:List ByteArray},firstErr f nm l before=none→∀ (a:List α) (x:α) (r:List α),l=a++x::r→f (before++a.map nm) x=0
 |[],_,_,a,x,r,e=>by simp at e
 |y::l,before,h,a,x,r,e=>by
  rw [firstErr] at h
  split at h
  ·rename_i h0
   cases a with
   |nil =>
    obtain ⟨hz,_⟩:=List.cons.inj e
    subst hz
    simpa using h0
   |cons z a =>
    obtain ⟨hz,e'⟩:=List.cons.inj e
    subst hz
    have:=zc8 h a x r e'
    simpa using this
  ·cases h
theorem zd6 {α:Type} {f:List ByteArray→α→Int} {nm:α→ByteArray}:∀ {l:List α} {before:List ByteArray} {i e:Int},firstErr f nm l before=some (i,e)→e≠0
 |[],_,_,_,h=>by cases h
 |y::r,before,i,e,h=>by
  rw [firstErr] at h
  split at h
  ·exact zd6 h
  ·rename_i h0
   cases h;exact h0
theorem zAC {α:Type} {l:List α} {x:α} (h:x∈l):∃ a r,l=a++x::r:=List.append_of_mem h
theorem zg1 {s:HrShop} (h:(hrCheck s).2.2=0):firstErr zbo (·.name) s.kinds []=none∧firstErr zbY (·.name) s.rules []=none∧0≤s.margin∧s.margin≤500:=by
 unfold hrCheck at h
 split at h
 ·split at h
  ·rename_i h2
   unfold zgN at h
   split at h
   ·rename_i i e he
    exact absurd h (zd6 he)
   ·rename_i he
    split at h
    ·rename_i i e he2
     exact absurd h (zd6 he2)
    ·rename_i he2
     exact ⟨he,he2,by simpa [gIn] using h2⟩
  ·cases h
 ·cases h
theorem ztl {before:List ByteArray} {s:ByteArray} (h:zaq before s=0):nameOk s=true∧∀ b,b∈before→b≠s:=by
 unfold zaq at h
 split at h
 ·rename_i h1
  split at h
  ·cases h
  ·rename_i h2
   refine ⟨h1,fun b hb e=>h2 ?_⟩
   rw [List.any_eq_true]
   exact ⟨b,hb,(zks _ _).2 e⟩
 ·cases h
theorem zkm {s:HrShop} (h:(hrCheck s).2.2=0) {k:HrKind} (hk:k∈s.kinds):HrKindOk k:=by
 obtain ⟨a,r,e⟩:=zAC hk
 have:=zc8 (zg1 h).1 a k r e
 unfold zbo at this
 split at this
 ·rename_i h0
  unfold zeO at this
  split at this
  ·rename_i h1
   split at this
   ·cases this
   ·rename_i h2
    simp [gIn] at h1 h2
    exact ⟨by omega,by omega,by omega,by omega,by omega,(ztl h0).1⟩
  ·cases this
 ·contradiction
theorem zmO {s:HrShop} (h:(hrCheck s).2.2=0) {i j:Nat} {a b:HrKind} (hi:s.kinds[i]?=some a) (hj:s.kinds[j]?=some b) (hn:a.name=b.name):i=j:=by
 have key:∀ (i j:Nat) (a b:HrKind),s.kinds[i]?=some a→s.kinds[j]?=some b→a.name=b.name→i<j→False:=by
  intro i j a b hi hj hn hij
  have hjl:=(List.getElem?_eq_some_iff.1 hj).1
  have e:s.kinds=s.kinds.take j++b::s.kinds.drop (j+1):=by
   have h1:=List.drop_eq_getElem_cons hjl
   rw [(List.getElem?_eq_some_iff.1 hj).2] at h1
   rw [←h1,List.take_append_drop]
  have:=zc8 (zg1 h).1 _ b _ e
  unfold zbo at this
  split at this
  ·rename_i h0
   refine (ztl h0).2 a.name ?_ hn
   rw [List.nil_append,List.mem_map]
   refine ⟨a,List.mem_of_getElem? (i:=i) ?_,rfl⟩
   rw [List.getElem?_take,if_pos hij];exact hi
  ·contradiction
 rcases Nat.lt_trichotomy i j with h1 | h1 | h1
 ·exact (key i j a b hi hj hn h1).elim
 ·exact h1
 ·exact (key j i b a hj hi hn.symm h1).elim
theorem zmX {t:HrTest} (hok:TestOk t):0≤(zbP t).1.lo∧0≤(zbP t).1.hi∧(zbP t).1.lo≤601200000∧(zbP t).1.hi≤601200000:=by
 have hb:=zpf hok
 have key:∀ p,p∈zcK t→p.1.down≤601200000∧p.2.up≤601200000:=by
  intro p hp
  obtain ⟨q,hq,rfl⟩:=(zy8 t p).1 hp
  have hB:=zg7 hok _ hp
  obtain ⟨b1,b2⟩:q.1∈t.marks∧q.2∈t.marks:=by
   have key:∀ l:List HrMark,∀ q,q∈prs l→q.1∈l∧q.2∈l:=by
    intro l
    induction l with
    |nil=>intro q hq;cases hq
    |cons x r ih =>
     intro q hq
     rw [prs,List.mem_append,List.mem_map] at hq
     rcases hq with ⟨y,hy,rfl⟩ | hq
     ·exact ⟨by simp,by simp [hy]⟩
     ·have:=ih q hq;exact ⟨by simp [this.1],by simp [this.2]⟩
   exact key _ q hq
  have m1:=hok.all _ b1
  have m2:=hok.all _ b2
  have he:=hok.err
  have hd:0<q.2.minute-q.1.minute:=hB.2.2.1
  refine ⟨?_,(Frac.up_le hB.2.2.2 _).2 ?_⟩
  ·refine Int.le_of_lt_add_one (Int.lt_of_not_ge fun h=>?_)
   have h:=(Frac.down_le hB.2.2.1 _).1 h
   simp only [zgv] at h
   have:(601200000+1)*1≤(601200000+1)*(q.2.minute-q.1.minute):=Int.mul_le_mul_of_nonneg_left (by omega) (by omega)
   omega
  ·simp only [zgv]
   have:(601200000)*1≤(601200000)*(q.2.minute-q.1.minute):=Int.mul_le_mul_of_nonneg_left (by omega) (by omega)
   omega
 obtain ⟨⟨⟨p,hp,e1⟩,_⟩,⟨q,hq,e2⟩,_⟩:=hb
 have k1:=(key p hp).1
 have k2:=(key q hq).2
 rw [e1] at k1
 rw [e2] at k2
 simp only [zbP,mx0]
 refine ⟨?_,?_,?_,?_⟩<;>split<;>omega
theorem zqC {t:HrTest} (hok:TestOk t) (hp:zeh t=true):(zbP t).1.lo≤(zbP t).1.hi:=by
 have hr:=zot hok
 have hle:(zcg t).1.le (zcg t).2:=by
  rw [zeh,zbP] at hp
  dsimp only at hp
  rw [Bool.not_eq_true',Frac.lt_false] at hp
  exact hp
 have h1:(zcg t).1.down≤(zcg t).2.up:=by
  have a1:(zcg t).1.down*(zcg t).1.below≤(zcg t).1.top:=(Frac.down_le hr.2.2.1 _).1 (Int.le_refl _)
  have a2:(zcg t).2.top≤(zcg t).2.up*(zcg t).2.below:=(Frac.up_le hr.2.2.2 _).1 (Int.le_refl _)
  have b1:Frac.le ⟨(zcg t).1.down,1⟩ (zcg t).1:=(Frac.int_le _ _).2 a1
  have b2:Frac.le (zcg t).2 ⟨(zcg t).2.up,1⟩:=(Frac.le_int _ _).2 a2
  have:=Frac.le_trans Int.one_pos hr.2.2.2 Int.one_pos (Frac.le_trans Int.one_pos hr.2.2.1 hr.2.2.2 b1 hle) b2
  simpa [Frac.le] using this
 simp only [zbP,mx0]
 split<;>split<;>omega
structure HrK where
 k:HrKind
 rates:Span
def HrK.pv (x:HrK):PV:=.agg [.str x.k.name,.int .i64 x.k.weight.lo,.int .i64 x.k.weight.hi,.int .i64 x.k.rest,.int .i64 x.rates.lo,.int .i64 x.rates.hi]
attribute [go_sem] HrK.pv
def zgk:HrKind:=⟨⟨#[]⟩,⟨0,0⟩,0⟩
def zfp (r q:Span):Span:=if r.lo<0 then q else ⟨if q.lo<r.lo then q.lo else r.lo,if r.hi<q.hi then q.hi else r.hi⟩
def zjS (at':Int):Span→List HrTest→Span
 |r,[]=>r
 |r,t::l=>zjS at' (if t.kind=at'∧zeh t=true then zfp r (zbP t).1 else r) l
def zcv (s:HrShop) (l:List HrTest) (at':Int):Span:=zjS at' ⟨-1,0⟩ l
def zc0 (m:Int) (r:Span):Span:=⟨Frac.down ⟨r.lo*(1000-m),1000⟩,Frac.up ⟨r.hi*(1000+m),1000⟩⟩
def zaN (s:HrShop) (l:List HrTest) (at':Int):HrK×Int :=
 if zbC s l=0 then
  match (if gIn at' 0 ((s.kinds.length:Int)-1)=true then s.kinds[at'.toNat]? else none) with
  |none=>(⟨zgk,⟨0,0⟩⟩,4)
  |some k =>
   if (zcv s l at').lo<0 then (⟨k,zcv s l at'⟩,9)
   else if (zc0 s.margin (zcv s l at')).hi=0 then (⟨k,zc0 s.margin (zcv s l at')⟩,8)
   else (⟨k,zc0 s.margin (zcv s l at')⟩,0)
 else (⟨zgk,⟨0,0⟩⟩,zbC s l)
def zuK (r:Span):Prop:=(r=⟨-1,0⟩)∨(0≤r.lo∧0≤r.hi∧r.lo≤601200000∧r.hi≤601200000)
theorem zpu {r q:Span} (hr:zuK r) (hq:0≤q.lo∧0≤q.hi∧q.lo≤601200000∧q.hi≤601200000):zuK (zfp r q):=by
 unfold zfp
 rcases hr with rfl | hr
 ·rw [if_pos (by decide)];exact .inr hq
 ·rw [if_neg (by omega)]
  refine .inr ⟨?_,?_,?_,?_⟩<;>dsimp only<;>split<;>omega
theorem zjE {nk:Int}:∀ {l:List HrTest},zby nk l=0→∀ t,t∈l→za6 nk t=0
 |[],_,_,h=>by cases h
 |x::l,h,t,ht=>by
  rw [zby] at h
  split at h
  ·rename_i h0
   rcases List.mem_cons.1 ht with rfl | ht
   ·exact h0
   ·exact zjE h t ht
  ·contradiction
theorem zpH {s:HrShop} {l:List HrTest} (h:zbC s l=0):(hrCheck s).2.2=0∧l.length≤8∧zby s.kinds.length l=0:=by
 unfold zbC at h
 split at h
 ·rename_i h0
  split at h
  ·cases h
  ·exact ⟨h0,by omega,h⟩
 ·contradiction
set_option maxHeartbeats 2000000 in
theorem zxQ (s:HrShop) (l:List HrTest) (at':Int):zae Tryz.prog 305 [s.pv,.slice 3 (l.map HrTest.pv) false,.int .i64 at'] (.tuple [(zaN s l at').1.pv,.int .i64 (zaN s l at').2]):=by
 refine zaa zad (fn:=Tryz.f305) (n:=121) (rs:=[.cell 6 353,.tmp 7]) (by kernel_rfl) rfl rfl rfl zIQ (Nat.le_of_ble_eq_true rfl) ?_
 simp only [go_sem,simprocAttr]
 refine zab (zae.argless (args':=[s.pv,.nilslice]) (zii s [] false (by simp)) ⟨.inl rfl,.inr ⟨rfl,3,rfl⟩,trivial⟩) rfl ?_
 simp only [go_sem,simprocAttr]
 have hop:zba s []=(hrCheck s).2.2:=by
  unfold zba
  split
  ·rename_i h;rw [h];rfl
  ·rfl
 cases h0:(zba s []==0)
 ·have h0':¬ (hrCheck s).2.2=0:=by rw [←hop];simpa using h0
  have h0n:((hrCheck s).2.2 != 0)=true:=by simpa using h0'
  have h0b:((hrCheck s).2.2==0)=false:=by simpa using h0'
  have hsp:zaN s l at'=(⟨zgk,⟨0,0⟩⟩,(hrCheck s).2.2):=by
   have:zbC s l=(hrCheck s).2.2:=by rw [zbC,if_neg h0']
   rw [zaN,this,if_neg h0']
  rw [hsp]
  simp only [hop,h0n,h0b,zgk,go_sem,simprocAttr]
 have h0':(hrCheck s).2.2=0:=by rw [←hop];simpa using h0
 have hk:=zg0 h0'
 have hm:=zg1 h0'
 have hz:zba s []=0:=by rw [hop,h0']
 simp only [hz,go_sem,simprocAttr]
 cases h8:decide ((8:Int)<(l.length:Int))
 rotate_left
 ·have h8':8<l.length:=by simp at h8;omega
  have hsp:zaN s l at'=(⟨zgk,⟨0,0⟩⟩,3):=by
   have:zbC s l=3:=by rw [zbC,if_pos h0',if_pos h8']
   rw [zaN,this,if_neg (by decide)]
  rw [hsp]
  simp only [zgk,go_sem,simprocAttr]
 have h8':¬ 8<l.length:=by simp at h8;omega
 have hts:zbC s l=zby s.kinds.length l:=by rw [zbC,if_pos h0',if_neg h8']
 have hol:zba s l=zby s.kinds.length l:=by rw [zba,if_pos h0']
 simp only [hz,go_sem,simprocAttr]
 refine zab (zii s l false (fun _=>by omega)) rfl ?_
 simp only [hol,go_sem,simprocAttr]
 cases h1:(zby s.kinds.length l != 0)
 rotate_left
 ·have h1':¬ zby s.kinds.length l=0:=by simpa using h1
  have hsp:zaN s l at'=(⟨zgk,⟨0,0⟩⟩,zby s.kinds.length l):=by rw [zaN,hts,if_neg h1']
  rw [hsp]
  simp only [zgk,go_sem,simprocAttr]
 have h1':zby s.kinds.length l=0:=by simpa using h1
 have hw:IntKind.i64.wrap ((s.kinds.length:Int)-1)=(s.kinds.length:Int)-1:=zaj (by omega) (by omega)
 simp only [hw,go_sem,simprocAttr]
 refine zab (zeT 0 _ [_] true (by simp)) rfl ?_
 simp only [List.any_cons,List.any_nil,Bool.or_false,go_sem,simprocAttr]
 cases h2:gIn at' 0 ((s.kinds.length:Int)-1)
 ·have hsp:zaN s l at'=(⟨zgk,⟨0,0⟩⟩,4):=by rw [zaN,hts,if_pos h1',h2];rfl
  rw [hsp]
  simp only [zgk,go_sem,simprocAttr]
 obtain ⟨g1,g2⟩:0≤at'∧at'≤(s.kinds.length:Int)-1:=by simpa [gIn] using h2
 obtain ⟨n,rfl⟩:=Int.eq_ofNat_of_zero_le g1
 have hn:n<s.kinds.length:=by omega
 obtain ⟨k,hkn⟩:∃ k,s.kinds[n]?=some k:=⟨_,List.getElem?_eq_getElem hn⟩
 have hko:=zkm h0' (List.mem_of_getElem? hkn)
 have hlt:(n:Int)<(s.kinds.length:Int):=by omega
 have hsp:zaN s l n=(if (zcv s l n).lo<0 then (⟨k,zcv s l n⟩,9) else if (zc0 s.margin (zcv s l n)).hi=0 then (⟨k,zc0 s.margin (zcv s l n)⟩,8) else (⟨k,zc0 s.margin (zcv s l n)⟩,0)):=by
  rw [zaN,hts,if_pos h1',if_pos h2,Int.toNat_natCast,hkn]
 rw [hsp]
 simp only [hlt,hkn,go_sem,simprocAttr]
 refine zcZ [2,3,6,48,49] (σ:=List HrTest×List HrTest×Span×Heap)
  (fun q=>l=q.1++q.2.1∧zcv s l n=zjS n q.2.2.1 q.2.1∧zuK q.2.2.1) (fun q=>q.2.1.length)
  (fun q=>[(50,.p (.int .i64 q.1.length))]) (fun q=>[.row 3 [.p s.pv],.row 6 [.p (HrK.pv ⟨k,q.2.2.1⟩)]]++q.2.2.2) ([],l,⟨-1,0⟩,[]) ⟨rfl,rfl,.inl rfl⟩ (by simp only [go_sem,simprocAttr]) ?_ ?_
 ·simp only [go_sem,simprocAttr]
 rintro ⟨done,rest,r,g⟩ ⟨e1,e2,e3⟩
 dsimp only at e1 e2 e3
 cases rest with
 |nil =>
  have hlt:¬ ((done.length:Int)<(l.length:Int)):=by rw [e1];simp
  rw [zjS] at e2
  rw [e2]
  simp only [hlt,decide_false,go_sem,simprocAttr]
  cases h3:decide (r.lo<0)
  rotate_left
  ·have h3':r.lo<0:=by simpa using h3
   simp only [if_pos h3',go_sem,simprocAttr]
  have h3':¬ r.lo<0:=by simpa using h3
  have hrB:0≤r.lo∧0≤r.hi∧r.lo≤601200000∧r.hi≤601200000:=e3.resolve_left (by rintro rfl;exact h3' (by decide))
  have q1:=zxi (a:=r.lo) (b:=1000-s.margin) (by omega) (by omega) (by omega) (by omega)
  have q2:=zxi (a:=r.hi) (b:=1000+s.margin) (by omega) (by omega) (by omega) (by omega)
  have w1:IntKind.i64.wrap (1000-s.margin)=1000-s.margin:=zaj (by omega) (by omega)
  have w2:IntKind.i64.wrap (1000+s.margin)=1000+s.margin:=zaj (by omega) (by omega)
  have w3:IntKind.i64.wrap (r.lo*(1000-s.margin))=r.lo*(1000-s.margin):=zaj (by omega) (by omega)
  have w4:IntKind.i64.wrap (r.hi*(1000+s.margin))=r.hi*(1000+s.margin):=zaj (by omega) (by omega)
  rw [if_neg h3']
  simp only [w1,w3,go_sem,simprocAttr]
  refine zab (zgB ⟨r.lo*(1000-s.margin),1000⟩ (by show (0:Int)<1000;decide) q1.1 q1.2) rfl ?_
  simp only [w2,w4,go_sem,simprocAttr]
  refine zab (cUp ⟨r.hi*(1000+s.margin),1000⟩ (by show (0:Int)<1000;decide) q2.1 q2.2) rfl ?_
  simp only [go_sem,simprocAttr]
  cases h4:((zc0 s.margin r).hi==0)
  ·have h4':¬ (zc0 s.margin r).hi=0:=by simpa using h4
   rw [if_neg h4']
   simp only [zc0] at h4
   simp only [h4,zc0,go_sem,simprocAttr]
  ·have h4':(zc0 s.margin r).hi=0:=by simpa using h4
   rw [if_pos h4']
   simp only [zc0] at h4
   simp only [h4,zc0,go_sem,simprocAttr]
 |cons t rest =>
  obtain ⟨hx,hltt⟩:=zeb e1
  have hlen1:=congrArg List.length e1
  simp only [List.length_append,List.length_cons] at hlen1
  have hnx:IntKind.i64.wrap ((done.length:Int)+1)=(((done++[t]).length:Nat):Int):=za9 (by omega) (by simp [zar];omega) (by simp)
  have htok:=(zdv (zjE h1' t (by rw [e1];simp))).1
  have hrl:=zmX htok
  rw [zjS] at e2
  have g0:=zgg (lo:=g) rfl
  have s0:=zhL (lo:=g) rfl
  have gg:=zgf (lo:=g) rfl
  have ss:=zhK (lo:=g) rfl
  simp only [hltt,decide_true,hx,g0,s0,gg,ss,go_sem,simprocAttr]
  refine zab (zpX t htok) rfl ?_
  simp only [g0,s0,gg,ss,List.append_assoc,List.length_append,List.length_singleton,go_sem,simprocAttr]
  cases h5:(t.kind != (n:Int))
  rotate_left
  ·have h5':¬ (t.kind=(n:Int)∧zeh t=true):=fun h=>by simp [h.1] at h5
   rw [if_neg h5'] at e2
   simp only [go_sem,simprocAttr]
   refine zaS (done++[t],rest,r,g++[_,_]) ⟨by rw [e1];simp,e2,e3⟩ (Nat.lt_succ_self _) rfl ?_
   simp only [hnx,go_sem,simprocAttr]
  have h5k:t.kind=(n:Int):=by simpa using h5
  simp only [go_sem,simprocAttr]
  cases h6:(zbP t).2
  ·have h6':¬ (t.kind=(n:Int)∧zeh t=true):=fun h=>by rw [zeh,h6] at h;simp at h
   rw [if_neg h6'] at e2
   simp only [go_sem,simprocAttr]
   refine zaS (done++[t],rest,r,g++[_,_]) ⟨by rw [e1];simp,e2,e3⟩ (Nat.lt_succ_self _) rfl ?_
   simp only [hnx,go_sem,simprocAttr]
  rw [if_pos ⟨h5k,by rw [zeh,h6]⟩] at e2
  simp only [go_sem,simprocAttr]
  cases h7:decide (r.lo<0)
  ·have h7':¬ r.lo<0:=by simpa using h7
   simp only [g0,s0,gg,ss,List.append_assoc,List.length_append,List.length_singleton,go_sem,simprocAttr]
   refine zaS (done++[t],rest,zfp r (zbP t).1,g++[_,_]) ⟨by rw [e1];simp,e2,zpu e3 hrl⟩ (Nat.lt_succ_self _) (by simp only [zfp,if_neg h7',go_sem,simprocAttr];exact ⟨rfl,rfl⟩) ?_
   simp only [hnx,go_sem,simprocAttr]
  ·have h7':r.lo<0:=by simpa using h7
   simp only [g0,s0,gg,ss,List.append_assoc,List.length_append,List.length_singleton,Int.lt_irrefl,go_sem,simprocAttr]
   refine zaS (done++[t],rest,zfp r (zbP t).1,g++[_,_]) ⟨by rw [e1];simp,e2,zpu e3 hrl⟩ (Nat.lt_succ_self _) (by simp only [zfp,if_pos h7',go_sem,simprocAttr];exact ⟨rfl,rfl⟩) ?_
   simp only [hnx,go_sem,simprocAttr]
end Abs
end Go.Proofs.YtahlnclapingiaaGreatDoor
