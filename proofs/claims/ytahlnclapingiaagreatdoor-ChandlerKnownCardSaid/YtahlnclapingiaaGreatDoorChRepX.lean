/-
  CONTRACTS: slices.Repeat of one span. No conditions but those in the theorems' heads.
  CONTRACTS: chandler: wick, blend. No conditions but those in the theorems' heads.
  CONTRACTS: chandler: a call with rows handed over; words, names, numbers. No conditions bu
  CONTRACTS: strings.CutPrefix. No conditions but those in the theorems' heads.
  CONTRACTS: chandler: what lines do, as functions with their words. No conditions but those
-/
import Derived.Test.YtahlnclapingiaaGreatDoorBdBestX
import Derived.Test.YtahlnclapingiaaGreatDoorChBk4X
import Derived.Test.YtahlnclapingiaaGreatDoorHrShelfX
import Derived.Test.YtahlnclapingiaaGreatDoorHrUseX
import Derived.Test.YtahlnclapingiaaGreatDoorAbsFrame
set_option linter.unusedSimpArgs false
set_option linter.unusedVariables false
namespace Go.Proofs.YtahlnclapingiaaGreatDoor
namespace Abs
namespace Ch
set_option maxRecDepth 4000
theorem zGC (n:Int) (h1:1≤n) (h5:n≤5):zae Tryz.prog 355 [.int .u64 1,.int .u64 n] (.tuple [.int .u64 0,.int .u64 n]):=by
 have hn:n=1∨n=2∨n=3∨n=4∨n=5:=by omega
 have f0:zcS .shr .u64 0 32=some (.int .u64 0):=rfl
 have f1:zcS .shr .u64 1 32=some (.int .u64 0):=rfl
 have w0:IntKind.u64.wrap 0=0:=rfl
 have w1:IntKind.u64.wrap 1=1:=rfl
 rcases hn with rfl | rfl | rfl | rfl | rfl
 ·have f2:zcS .shr .u64 1 32=some (.int .u64 0):=rfl
  have w2:IntKind.u64.wrap 1=1:=rfl
  refine zaa zad (fn:=Tryz.f355) (n:=51) (rs:=[.tmp 4,.tmp 5]) (by kernel_rfl) rfl rfl rfl zpn (Nat.le_of_ble_eq_true rfl) ?_
  simp only [f1,f0,f2,w0,w1,w2,Int.one_mul,Int.zero_mul,Int.mul_zero,Int.zero_add,Int.add_zero,go_sem,simprocAttr]
 ·have f2:zcS .shr .u64 2 32=some (.int .u64 0):=rfl
  have w2:IntKind.u64.wrap 2=2:=rfl
  refine zaa zad (fn:=Tryz.f355) (n:=51) (rs:=[.tmp 4,.tmp 5]) (by kernel_rfl) rfl rfl rfl zpn (Nat.le_of_ble_eq_true rfl) ?_
  simp only [f1,f0,f2,w0,w1,w2,Int.one_mul,Int.zero_mul,Int.mul_zero,Int.zero_add,Int.add_zero,go_sem,simprocAttr]
 ·have f2:zcS .shr .u64 3 32=some (.int .u64 0):=rfl
  have w2:IntKind.u64.wrap 3=3:=rfl
  refine zaa zad (fn:=Tryz.f355) (n:=51) (rs:=[.tmp 4,.tmp 5]) (by kernel_rfl) rfl rfl rfl zpn (Nat.le_of_ble_eq_true rfl) ?_
  simp only [f1,f0,f2,w0,w1,w2,Int.one_mul,Int.zero_mul,Int.mul_zero,Int.zero_add,Int.add_zero,go_sem,simprocAttr]
 ·have f2:zcS .shr .u64 4 32=some (.int .u64 0):=rfl
  have w2:IntKind.u64.wrap 4=4:=rfl
  refine zaa zad (fn:=Tryz.f355) (n:=51) (rs:=[.tmp 4,.tmp 5]) (by kernel_rfl) rfl rfl rfl zpn (Nat.le_of_ble_eq_true rfl) ?_
  simp only [f1,f0,f2,w0,w1,w2,Int.one_mul,Int.zero_mul,Int.mul_zero,Int.zero_add,Int.add_zero,go_sem,simprocAttr]
 ·have f2:zcS .shr .u64 5 32=some (.int .u64 0):=rfl
  have w2:IntKind.u64.wrap 5=5:=rfl
  refine zaa zad (fn:=Tryz.f355) (n:=51) (rs:=[.tmp 4,.tmp 5]) (by kernel_rfl) rfl rfl rfl zpn (Nat.le_of_ble_eq_true rfl) ?_
  simp only [f1,f0,f2,w0,w1,w2,Int.one_mul,Int.zero_mul,Int.mul_zero,Int.zero_add,Int.add_zero,go_sem,simprocAttr]
theorem zt7 (n:Int) (h1:1≤n) (h5:n≤5):zae Tryz.prog 311 [.int .u64 1,.int .u64 n] (.tuple [.int .u64 0,.int .u64 n]):=by
 refine zaa zad (fn:=Tryz.f311) (n:=30) (rs:=[.tmp 4,.tmp 5]) (by kernel_rfl) rfl rfl rfl zIK (Nat.le_of_ble_eq_true rfl) ?_
 simp only [go_sem,simprocAttr]
 refine zab (zGC n h1 h5) rfl ?_
 simp only [go_sem,simprocAttr]
def zd3:Hints:=zcy [(38,.low),(45,.app 41),(5000001,.nop)]
theorem zpm:zaf zd3 Tryz.f222=true:=by kernel_rfl
theorem ztp:Nat.min 1 1=1∧Nat.min 1 2=1∧Nat.min 1 3=1∧Nat.min 1 4=1∧Nat.min 2 1=1∧Nat.min 2 2=2∧Nat.min 2 3=2∧Nat.min 4 1=1:=by decide
theorem iw:IntKind.i64.wrap 1=1∧IntKind.i64.wrap (1+1)=2∧IntKind.i64.wrap (2+1)=3∧IntKind.i64.wrap (2+2)=4∧IntKind.i64.wrap (4+1)=5:=by decide
def zh2:PV:=.agg [.int .i64 0,.int .i64 20]
theorem zA0:zep Tryz.prog 222 [.slice 2 [.agg [.int .i64 0,.int .i64 20]] true,.int .i64 1] (.slice 2 (List.replicate 1 zh2) false):=by
 obtain ⟨m1,m2,m3,m4,m5,m6,m7,m8⟩:=ztp
 obtain ⟨i1,i2,i3,i4,i5⟩:=iw
 refine zdD zad (fn:=Tryz.f222) (n:=48) (rs:=[.tmp 4]) (by kernel_rfl) rfl rfl rfl zpm (Nat.le_of_ble_eq_true rfl) ?_
 simp only [zd3,zal,go_sem,simprocAttr]
 refine zab (zt7 1 (by decide) (by decide)) rfl ?_
 have hrm:(1:Int)≤(zar:Int):=by decide
 simp only [zd3,zal,hrm,go_sem,simprocAttr]
 refine zaR ?_
 simp only [zd3,zal,zh2,List.replicate_succ,List.replicate_zero,go_sem,simprocAttr]
 trace_state
theorem zAZ:zep Tryz.prog 222 [.slice 2 [.agg [.int .i64 0,.int .i64 20]] true,.int .i64 2] (.slice 2 (List.replicate 2 zh2) false):=by
 obtain ⟨m1,m2,m3,m4,m5,m6,m7,m8⟩:=ztp
 obtain ⟨i1,i2,i3,i4,i5⟩:=iw
 refine zdD zad (fn:=Tryz.f222) (n:=48) (rs:=[.tmp 4]) (by kernel_rfl) rfl rfl rfl zpm (Nat.le_of_ble_eq_true rfl) ?_
 simp only [zd3,zal,go_sem,simprocAttr]
 refine zab (zt7 2 (by decide) (by decide)) rfl ?_
 have hrm:(2:Int)≤(zar:Int):=by decide
 simp only [zd3,zal,hrm,go_sem,simprocAttr]
 refine zaR ?_
 simp only [zd3,zal,go_sem,simprocAttr]
 refine And.intro (.inr ⟨0,_,rfl,rfl⟩) ?_
 simp only [m1,m2,m3,m4,m5,m6,m7,m8,i1,i2,i3,i4,i5,go_sem,simprocAttr]
 refine zaR ?_
 simp only [zd3,zal,zh2,List.replicate_succ,List.replicate_zero,go_sem,simprocAttr]
theorem zAY:zep Tryz.prog 222 [.slice 2 [.agg [.int .i64 0,.int .i64 20]] true,.int .i64 3] (.slice 2 (List.replicate 3 zh2) false):=by
 obtain ⟨m1,m2,m3,m4,m5,m6,m7,m8⟩:=ztp
 obtain ⟨i1,i2,i3,i4,i5⟩:=iw
 refine zdD zad (fn:=Tryz.f222) (n:=48) (rs:=[.tmp 4]) (by kernel_rfl) rfl rfl rfl zpm (Nat.le_of_ble_eq_true rfl) ?_
 simp only [zd3,zal,go_sem,simprocAttr]
 refine zab (zt7 3 (by decide) (by decide)) rfl ?_
 have hrm:(3:Int)≤(zar:Int):=by decide
 simp only [zd3,zal,hrm,go_sem,simprocAttr]
 refine zaR ?_
 simp only [zd3,zal,go_sem,simprocAttr]
 refine And.intro (.inr ⟨0,_,rfl,rfl⟩) ?_
 simp only [m1,m2,m3,m4,m5,m6,m7,m8,i1,i2,i3,i4,i5,go_sem,simprocAttr]
 refine zaR ?_
 simp only [zd3,zal,go_sem,simprocAttr]
 refine And.intro (.inr ⟨0,_,rfl,rfl⟩) ?_
 simp only [m1,m2,m3,m4,m5,m6,m7,m8,i1,i2,i3,i4,i5,go_sem,simprocAttr]
 refine zaR ?_
 simp only [zd3,zal,zh2,List.replicate_succ,List.replicate_zero,go_sem,simprocAttr]
theorem zAX:zep Tryz.prog 222 [.slice 2 [.agg [.int .i64 0,.int .i64 20]] true,.int .i64 4] (.slice 2 (List.replicate 4 zh2) false):=by
 obtain ⟨m1,m2,m3,m4,m5,m6,m7,m8⟩:=ztp
 obtain ⟨i1,i2,i3,i4,i5⟩:=iw
 refine zdD zad (fn:=Tryz.f222) (n:=48) (rs:=[.tmp 4]) (by kernel_rfl) rfl rfl rfl zpm (Nat.le_of_ble_eq_true rfl) ?_
 simp only [zd3,zal,go_sem,simprocAttr]
 refine zab (zt7 4 (by decide) (by decide)) rfl ?_
 have hrm:(4:Int)≤(zar:Int):=by decide
 simp only [zd3,zal,hrm,go_sem,simprocAttr]
 refine zaR ?_
 simp only [zd3,zal,go_sem,simprocAttr]
 refine And.intro (.inr ⟨0,_,rfl,rfl⟩) ?_
 simp only [m1,m2,m3,m4,m5,m6,m7,m8,i1,i2,i3,i4,i5,go_sem,simprocAttr]
 refine zaR ?_
 simp only [zd3,zal,go_sem,simprocAttr]
 refine And.intro (.inr ⟨0,_,rfl,rfl⟩) ?_
 simp only [m1,m2,m3,m4,m5,m6,m7,m8,i1,i2,i3,i4,i5,go_sem,simprocAttr]
 refine zaR ?_
 simp only [zd3,zal,zh2,List.replicate_succ,List.replicate_zero,go_sem,simprocAttr]
theorem zAW:zep Tryz.prog 222 [.slice 2 [.agg [.int .i64 0,.int .i64 20]] true,.int .i64 5] (.slice 2 (List.replicate 5 zh2) false):=by
 obtain ⟨m1,m2,m3,m4,m5,m6,m7,m8⟩:=ztp
 obtain ⟨i1,i2,i3,i4,i5⟩:=iw
 refine zdD zad (fn:=Tryz.f222) (n:=48) (rs:=[.tmp 4]) (by kernel_rfl) rfl rfl rfl zpm (Nat.le_of_ble_eq_true rfl) ?_
 simp only [zd3,zal,go_sem,simprocAttr]
 refine zab (zt7 5 (by decide) (by decide)) rfl ?_
 have hrm:(5:Int)≤(zar:Int):=by decide
 simp only [zd3,zal,hrm,go_sem,simprocAttr]
 refine zaR ?_
 simp only [zd3,zal,go_sem,simprocAttr]
 refine And.intro (.inr ⟨0,_,rfl,rfl⟩) ?_
 simp only [m1,m2,m3,m4,m5,m6,m7,m8,i1,i2,i3,i4,i5,go_sem,simprocAttr]
 refine zaR ?_
 simp only [zd3,zal,go_sem,simprocAttr]
 refine And.intro (.inr ⟨0,_,rfl,rfl⟩) ?_
 simp only [m1,m2,m3,m4,m5,m6,m7,m8,i1,i2,i3,i4,i5,go_sem,simprocAttr]
 refine zaR ?_
 simp only [zd3,zal,go_sem,simprocAttr]
 refine And.intro (.inr ⟨0,_,rfl,rfl⟩) ?_
 simp only [m1,m2,m3,m4,m5,m6,m7,m8,i1,i2,i3,i4,i5,go_sem,simprocAttr]
 refine zaR ?_
 simp only [zd3,zal,zh2,List.replicate_succ,List.replicate_zero,go_sem,simprocAttr]
theorem zDA (n:Nat) (h1:1≤n) (h5:n≤5):zep Tryz.prog 222 [.slice 2 [.agg [.int .i64 0,.int .i64 20]] true,.int .i64 n] (.slice 2 (List.replicate n zh2) false):=by
 match n,h1,h5 with
 |1,_,_=>exact zA0
 |2,_,_=>exact zAZ
 |3,_,_=>exact zAY
 |4,_,_=>exact zAX
 |5,_,_=>exact zAW
end Ch
end Abs
end Go.Proofs.YtahlnclapingiaaGreatDoor
namespace Go.Proofs.YtahlnclapingiaaGreatDoor
namespace Abs
namespace Ch
set_option maxRecDepth 4000
theorem SOk.wickwaxes {s:ChShop} (h:SOk s):s.wick.waxes.length<1000000000:=by
 have:=(Wk.zmy h.wick).lx
 omega
theorem zwY {s:Shop} {c:Candle} {x:Wax} (h:(Wk.zch s c x).2=0):Wk.valid s (Wk.zch s c x).1:=by
 unfold Wk.zch at h ⊢
 split at h
 ·rename_i h0
  rw [if_pos h0]
  split at h
  ·cases h
  ·rename_i h1
   rw [if_neg h1]
   rcases Wk.zl9 s (Wk.zdO s c x s.wicks 0) (-1) (Wk.zit s c x s.wicks 0 (by simp)) (.inl rfl) with e | e
   ·rw [e] at h1;exact absurd (by decide) h1
   ·exact e
 ·rename_i h0
  exact absurd h h0
set_option maxHeartbeats 1000000 in
theorem zKJ (s:ChShop) (b:ChBooks) (ex:List PV) (n:Nat) (hs:SOk s) (hb:BkOk s b n) (kind:List UInt8) (a b' c d:Int):zap Tryz.prog 118 [.ptr 2 1 0 0,.p (.str (bs kind)),.p (.agg [.int .i64 a,.int .i64 b',.int .i64 c,.int .i64 d])] (B7 s b ex) (zfz s b ex (act s b (.wick kind a b' c d))):=by
 refine za4 zad (fn:=Tryz.f118) (n:=52) (rs:=[.tmp 6]) (by kernel_rfl) rfl rfl rfl zKo (Nat.le_of_ble_eq_true rfl) ?_
 simp only [ChShop.cells,go_sem,simprocAttr]
 rcases zkn (fun x:Wax=>x.name==bs kind) s.wick.waxes 0 with h3 | ⟨j,x,hj,hx,_⟩
 ·refine zj7 (zFB s.wick.waxes (bs kind) false hs.wickwaxes h3) rfl (zhb _) ?_
  simp only [go_sem,simprocAttr]
  exact zbJ (e:=4) (by simp only [act,if_pos h3]) [_] rfl
 rw [Nat.zero_add] at hj
 have hnj:¬ (j:Int)<0:=by omega
 have hfd:=zGF s.wick.waxes (bs kind) false hs.wickwaxes (by omega)
 rw [hj] at hfd
 refine zab hfd rfl ?_
 simp only [ChShop.cells,go_sem,simprocAttr]
 have hT:=Wk.zsi s.wick ⟨(j:Int),a,b',⟨c,d⟩⟩ x (fun h0=>by
  obtain ⟨x',hx'⟩:=Wk.zAE h0
  have:=hx'.hx
  dsimp only at this
  rw [Int.toNat_natCast,hx] at this
  cases this
  exact hx')
 refine zau hT rfl ?_
 by_cases h4:(Wk.zch s.wick ⟨(j:Int),a,b',⟨c,d⟩⟩ x).2=0
 rotate_left
 ·have h4':((Wk.zch s.wick ⟨(j:Int),a,b',⟨c,d⟩⟩ x).2==0)=false:=by simpa using h4
  simp only [h4',go_sem,simprocAttr]
  refine zak (fun h=>by cases h) (fun _=>?_)
  simp only [go_sem,simprocAttr]
  exact zbJ (e:=(Wk.zch s.wick ⟨(j:Int),a,b',⟨c,d⟩⟩ x).2) (by simp only [act,hj,if_neg hnj,Int.toNat_natCast,hx,if_pos h4]) [_] rfl
 have h4n:¬ (Wk.zch s.wick ⟨(j:Int),a,b',⟨c,d⟩⟩ x).2≠0:=fun h=>h h4
 have hv:=zwY h4
 simp only [h4,go_sem,simprocAttr]
 refine zak (fun _=>?_) (fun h=>by cases h)
 obtain ⟨k,hk⟩:=Int.eq_ofNat_of_zero_le hv.1
 have hkl:k<s.wick.wicks.length:=by have:=hv.2;omega
 obtain ⟨w,hw⟩:∃ w,s.wick.wicks[k]?=some w:=⟨_,List.getElem?_eq_getElem hkl⟩
 have hkB:(k:Int)<(s.wick.wicks.length:Int):=by omega
 simp only [ChShop.cells,hk,hkB,hw,go_sem,simprocAttr]
 have hact:act s b (.wick kind a b' c d)=.ok (b,bl w.name):=by
  simp only [act,hj,if_neg hnj,Int.toNat_natCast,hx,if_neg h4n,hk,hw]
 have:=zdX (s:=s) (b:=b) (ex:=ex) (ex':=ex) hact (hh:=B7 s b ex++[.row 4 [.p (.agg [.int .i64 a,.int .i64 b',.int .i64 c,.int .i64 d])]]) [_] rfl
 rw [zxX] at this
 exact this
theorem zGV {l:List BdWax} (h:(bdCheck l).2.2=0):1≤l.length∧l.length≤5:=by
 unfold bdCheck at h
 split at h
 ·rename_i h1
  simp [gIn] at h1;omega
 ·cases h
theorem zvp {l:List BdWax} {w:BdWish} (h:(za8 l w).2.2=0):((za8 l w).1.length≤1000∧∀ n,n∈(za8 l w).1→0≤n∧n<1000000000)∧0≤(za8 l w).2.1∧(za8 l w).2.1<1000000000:=by
 unfold za8 at h ⊢
 split at h
 ·rename_i h0
  rw [if_pos h0]
  obtain ⟨hl,hw⟩:=zq7 h0
  split at h
  ·cases h
  ·rename_i r hr
   dsimp only
   have hm:r∈fits l w:=by
    rcases zgS _ _ _ _ hr with h | h
    ·cases h
    ·exact h
   have hro:=(zoK hl hm).1
   have hb:=(zvX (zlC hl hro.rng)).2.2.2.2.1
   have h5:=hl.len
   have h6:=hro.len
   have hp:zbE zfa (l.zip r)=zcC l r:=rfl
   refine ⟨⟨by omega,fun n hn=>?_⟩,?_,?_⟩
   ·have:=hro.rng n hn;omega
   ·rw [←hp];exact hb.1
   ·rw [←hp];omega
 ·rename_i h0
  exact absurd h h0
theorem zDa (s:ChShop) (a b' c:Int):(zee s a b' c).pv=.agg [.slice 2 (List.replicate s.blend.length zh2) false,.int .i64 a,.int .i64 b',.int .i64 0,.int .i64 c]:=by
 simp only [BdWish.pv,zee,List.map_replicate,Span.pv,zh2]
set_option maxHeartbeats 1000000 in
theorem ztJ (s:ChShop) (b:ChBooks) (ex:List PV) (n:Nat) (hs:SOk s) (hb:BkOk s b n) (a b' c:Int):zap Tryz.prog 120 [.ptr 2 1 0 0,.p (.agg [.int .i64 a,.int .i64 b',.int .i64 c])] (B7 s b ex) (zfz s b ex (act s b (.blend a b' c))):=by
 refine za4 zad (fn:=Tryz.f120) (n:=49) (rs:=[.tmp 4]) (by kernel_rfl) rfl rfl rfl zKm (Nat.le_of_ble_eq_true rfl) ?_
 simp only [ChShop.cells,go_sem,simprocAttr]
 have hbl:=zGV hs.blend
 have hR:=zDA s.blend.length hbl.1 hbl.2
 refine znm hR rfl ?_
 simp only [go_sem,simprocAttr]
 refine zau (zzW s.blend (zee s a b' c)) (by rw [zDa];rfl) ?_
 by_cases h4:(za8 s.blend (zee s a b' c)).2.2=0
 rotate_left
 ·have h4':((za8 s.blend (zee s a b' c)).2.2==0)=false:=by simpa using h4
  simp only [zlc,h4',go_sem,simprocAttr]
  refine zak (fun h=>by cases h) (fun _=>?_)
  simp only [go_sem,simprocAttr]
  exact zbJ (e:=(za8 s.blend (zee s a b' c)).2.2) (by simp only [act,if_pos h4]) [_,_] rfl
 have h4n:¬ (za8 s.blend (zee s a b' c)).2.2≠0:=fun h=>h h4
 obtain ⟨c1,c2⟩:=zvp h4
 simp only [zlc,h4,go_sem,simprocAttr]
 refine zak (fun _=>?_) (fun h=>by cases h)
 simp only [go_sem,simprocAttr]
 have hsd:=zix [.ns (za8 s.blend (zee s a b' c)).1,.n (za8 s.blend (zee s a b' c)).2.1] true (by simp) (fun w hw=>by
  simp only [List.mem_cons,List.not_mem_nil,or_false] at hw
  rcases hw with rfl | rfl
  ·exact c1
  ·exact c2)
 refine zab hsd rfl ?_
 simp only [go_sem,simprocAttr]
 exact zdX (b':=b) (ex':=ex) (a:=joinL ([Word.ns (za8 s.blend (zee s a b' c)).1,.n (za8 s.blend (zee s a b' c)).2.1].flatMap Word.ws)) (by simp only [act,if_neg h4n];rfl) [_,_] rfl
end Ch
end Abs
end Go.Proofs.YtahlnclapingiaaGreatDoor
namespace Go.Proofs.YtahlnclapingiaaGreatDoor
namespace Abs
theorem zvk {P:Program} {f:FuncId} {args args':List AV} {h:Heap} {R:AEnd→Heap→Prop} (K:Nat→Bool) (hl:args'.length=args.length)
  (ha:∀ (i:Nat) (a':AV),args'[i]?=some a'→args[i]?=some a'∨∃ a q,args[i]?=some a∧a'=.p q∧frz (zd0 (fun i=>!K i) h) a=some q)
  (hc:zap P f args' (zd0 K h) R):zap P f args h R:=by
 intro M0 m w cargs hS hargs
 have e0:=zwv ⟨m,h,w⟩ K h.length
 have hk:=ztH hS K
 have hargs':zbW (Rep M0 (Mem.kill K ⟨m,h,w⟩)) cargs args':=by
  refine ⟨by rw [hargs.1,hl],fun i a' hi=>?_⟩
  rcases ha i a' hi with h1 | ⟨a,q,h1,rfl,h2⟩
  ·exact e0.keep (hargs.2 i a' h1)
  ·exact ztK (S:=⟨m,h,w⟩) hS K (hargs.2 i a h1) h2
 have:=hc M0 (zet K m) w cargs hk hargs'
 refine ⟨this.1,this.2.mono fun e w' hh=>?_⟩
 obtain ⟨r,h',m',hR,hev,hk',hend⟩:=hh
 have hlen:(zd0 K h).length=h.length:=by simp [zd0]
 rw [hlen] at hev
 exact ⟨r,h',m',hR,e0.trans hev,hk',hend⟩
theorem zic {n:Nat} {a:AV} (h:zb6 n a):zi1 (·≠n) a:=by
 cases a<;>first | exact Nat.ne_of_lt h | exact trivial
theorem zwo {n:Nat} {a:AV} (h:zcH n a):zjU (·≠n) a:=by
 cases a<;>first | exact Nat.ne_of_lt h | exact trivial | exact ⟨fun c hc=>zic (h.1 c hc),fun c hc=>zic (h.2 c hc)⟩
theorem zDG {n:Nat} {a:AV} (h:zdk n a):zkF (·≠n) a:=by
 cases a<;>first | exact Nat.ne_of_lt h | exact trivial | exact fun c hc=>zwo (h c hc) | exact ⟨fun c hc=>zic (h.1 c hc),fun c hc=>zic (h.2 c hc)⟩
theorem zpF {n:Nat} {a:AV} (h:below n a):ids (·≠n) a:=by
 cases a<;>first | exact Nat.ne_of_lt h | exact trivial | exact fun c hc=>zDG (h c hc) | exact fun c hc=>zwo (h c hc) | exact ⟨fun c hc=>zic (h.1 c hc),fun c hc=>zic (h.2 c hc)⟩
theorem zrp {n:Nat} {o:AObj} (h:zaI n o):ziJ (·≠n) o:=by
 cases o<;>first | exact trivial | exact fun x hx=>zpF (h x hx) | exact fun t=>zpF (h t) | exact zic h
theorem zjh {T:Nat→AV}:∀ (live:List Nat) (t:Nat),(zbU (zbi T live []) t=T t∧t∈live)∨zbU (zbi T live []) t=.undef
 |[],t=>.inr rfl
 |x::r,t=>by
  unfold zbi zbU
  by_cases h:t=x
  ·subst h;rw [if_pos rfl];exact .inl ⟨rfl,by simp⟩
  ·rw [if_neg h]
   rcases zjh r t with ⟨h1,h2⟩ | h1
   ·exact .inl ⟨h1,by simp [h2]⟩
   ·exact .inr h1
theorem zq3 {P:Program} {H:Hints} {Q:Cont} {x:Code} {A:AAct} (live:List Nat) (i sz:Nat) (hi:A.bs≤i) (hb:A.bs≤A.h.length) (hx:A.h[i]?=some (.row 1 [.p .nilslice])) (hl:∀ t,t∈live→below A.h.length (A.tmps t)) (ho:∀ o,o∈A.h→zaI A.h.length o) (hd:A.df=[])
  (k:@W ⟨P,H,.loop x,Q⟩ { n:=A.n,bs:=A.bs,rc:=A.rc,tmps:=zbU (zbi A.tmps live []),h:=A.h.set i (.row 1 [.slice A.h.length 0 0 0])++[.row sz []],df:=A.df }):@W ⟨P,H,.loop x,Q⟩ A:=by
 have hil:i<A.h.length:=(List.getElem?_eq_some_iff.1 hx).1
 have hw:=zlo (P:=P) (A:={ A with h:=A.h++[.row sz []] }) (T:=zbU (zbi A.tmps live [])) A.h.length i sz 1 [.p .nilslice] [.slice A.h.length 0 0 0] hb hi (by simp) (by omega)
  (by rw [List.getElem?_append_left hil];exact hx) rfl (fun n x y h1 h2=>by
   match n,h1,h2 with
   |0,h1,h2 =>
    cases h1;cases h2
    refine ⟨_,_,rfl,rfl,rfl,fun j c d h3 h4=>?_⟩
    match j,h3,h4 with
    |0,h3,h4=>cases h3;cases h4;exact .inr ⟨rfl,rfl⟩
    |j+1,h3,h4=>cases h3
   |n+1,h1,h2=>simp at h1) (fun t=>by
   rcases zjh (T:=A.tmps) live t with ⟨h1,h2⟩ | h1
   ·exact .inl ⟨h1,zpF (hl t h2)⟩
   ·exact .inr h1) (fun id o hid ho'=>by
   have hlt:id<A.h.length:=by
    have:=(List.getElem?_eq_some_iff.1 ho').1
    simp at this;omega
   rw [List.getElem?_append_left hlt] at ho'
   exact zrp (ho o (List.mem_of_getElem? ho'))) hd
 have e:((A.h++[AObj.row sz []]).set A.h.length (.row sz [])).set i (.row 1 [.slice A.h.length 0 0 0])=A.h.set i (.row 1 [.slice A.h.length 0 0 0])++[.row sz []]:=by
  rw [List.set_append_right _ _ (Nat.le_refl _),Nat.sub_self]
  show (A.h++[AObj.row sz []]).set i _=_
  rw [List.set_append_left _ _ hil]
 refine zcI (zsF sz) (zcI hw ?_)
 dsimp only
 rw [e]
 exact k
namespace Ch
set_option maxRecDepth 4000
def za3 (l:List (List UInt8)):AObj:=.row 1 [.p (zaE l)]
theorem zpI (w:List UInt8) (ws:List (List UInt8)) (id:Nat) (h:Heap) (hid:h[id]?=some (za3 (w::ws))) :
  zap Tryz.prog 97 [.ptr id 1 0 0] h (fun r h'=>r=.ret (.p (.str (bs w)))∧h'=h.set id (za3 ws)):=by
 unfold za3 zaE at hid ⊢
 have h0:(0:Int)<((ws.length+1:Nat):Int):=by omega
 have h0d:decide ((0:Int)<((ws.length+1:Nat):Int))=true:=decide_eq_true h0
 refine zan zad (fn:=Tryz.f97) (n:=13) (rs:=[.tmp 1]) (by kernel_rfl) rfl rfl rfl zFO (Nat.le_of_ble_eq_true rfl) ?_
 simp only [hid,h0d,go_sem,simprocAttr]
 refine zak (fun _=>?_) (fun h=>by cases h)
 have h1:(1:Int)≤((ws.length+1:Nat):Int):=by omega
 have htk:List.take (ws.length+1) (PV.str (bs w)::ws.map fun x=>PV.str (bs x))=PV.str (bs w)::ws.map fun x=>PV.str (bs x):=List.take_of_length_le (by simp)
 simp only [hid,h0,h1,htk,go_sem,simprocAttr]
theorem zwp (id:Nat) (h:Heap) (hid:h[id]?=some (za3 [])) :
  zap Tryz.prog 97 [.ptr id 1 0 0] h (fun r h'=>r=.panic (zdq 6)∧h'=h):=by
 unfold za3 zaE at hid
 refine zan zad (fn:=Tryz.f97) (n:=13) (rs:=[.tmp 1]) (by kernel_rfl) rfl rfl rfl zFO (Nat.le_of_ble_eq_true rfl) ?_
 simp only [hid,go_sem,simprocAttr]
 refine zak (fun h=>by cases h) (fun _=>?_)
 simp only [go_sem,simprocAttr]
def zeA (id:Nat):AObj:=.row 1 [.func (.func 97) [] [.ptr id 1 0 0]]
theorem zKN (w:List UInt8) (ws:List (List UInt8)) (id jd:Nat) (h:Heap) (hid:h[id]?=some (za3 (w::ws))) (hjd:h[jd]?=some (zeA id)) (hn:zbF w=some w) :
  zap Tryz.prog 98 [.ptr jd 1 0 0] h (fun r h'=>r=.ret (.p (.str (bs w)))∧h'=h.set id (za3 ws)):=by
 have hnm:nameOk (bs w)=true:=by
  unfold zbF at hn
  split at hn
  ·assumption
  ·cases hn
 unfold zeA at hjd
 refine zan zad (fn:=Tryz.f98) (n:=9) (rs:=[.tmp 1]) (by kernel_rfl) rfl rfl rfl zFN (Nat.le_of_ble_eq_true rfl) ?_
 simp only [hjd,go_sem,simprocAttr]
 refine zbk (zpI w ws id h hid) ?_
 simp only [go_sem,simprocAttr]
 refine zab (ze0 (bs w)) rfl ?_
 simp only [hnm,go_sem,simprocAttr]
 refine zak (fun _=>?_) (fun h=>by cases h)
 simp only [go_sem,simprocAttr]
theorem zAV {w v:List UInt8} (h:zbF w=some v):v=w:=by
 unfold zbF at h
 split at h
 ·cases h;rfl
 ·cases h
theorem zDI (l:List (List UInt8)) (id jd:Nat) (h:Heap) (hid:h[id]?=some (za3 l)) (hjd:h[jd]?=some (zeA id)) (hn:∀ w ws,l=w::ws→zbF w=none) :
  zap Tryz.prog 98 [.ptr jd 1 0 0] h (fun r h'=>r=.panic (zdq 6)∧∃ o,h'=h.set id o):=by
 unfold zeA at hjd
 refine zan zad (fn:=Tryz.f98) (n:=9) (rs:=[.tmp 1]) (by kernel_rfl) rfl rfl rfl zFN (Nat.le_of_ble_eq_true rfl) ?_
 simp only [hjd,go_sem,simprocAttr]
 cases l with
 |nil =>
  refine zlj (zwp id h hid) ?_
  simp only [go_sem,simprocAttr]
  exact ⟨_,(zeX hid).symm⟩
 |cons w ws =>
  have hnm:nameOk (bs w)=false:=by
   have:=hn w ws rfl
   unfold zbF at this
   split at this
   ·cases this
   ·rename_i h;simpa using h
  refine zbk (zpI w ws id h hid) ?_
  simp only [go_sem,simprocAttr]
  refine zab (ze0 (bs w)) rfl ?_
  simp only [hnm,go_sem,simprocAttr]
  refine zak (fun h=>by cases h) (fun _=>?_)
  simp only [go_sem,simprocAttr]
  exact ⟨_,rfl⟩
theorem zy2 {w:List UInt8} {v:Int} (h:zc5 w=some v):zeZ w=some v∧0≤v∧v≤10000000∧dec v=w:=by
 unfold zc5 at h
 split at h
 ·rename_i x hx
  split at h
  ·rename_i hc
   cases h
   exact ⟨hx,hc⟩
  ·cases h
 ·cases h
theorem zDH (w:List UInt8) (ws:List (List UInt8)) (id jd:Nat) (h:Heap) (v:Int) (hl:w.length≤1000000) (hid:h[id]?=some (za3 (w::ws))) (hjd:h[jd]?=some (zeA id)) (hn:zc5 w=some v) :
  zap Tryz.prog 100 [.ptr jd 1 0 0] h (fun r h'=>r=.ret (.p (.int .i64 v))∧h'=h.set id (za3 ws)):=by
 obtain ⟨n1,n2,n3,n4⟩:=zy2 hn
 have hp:zfJ (bs w)=.tuple [.int .i64 v,.niliface]:=by
  unfold zeZ at n1
  rw [zfJ,zdr]
  cases ha:Lib.atoiAll w<;>rw [ha] at n1<;>first | cases n1;done | skip
  cases n1;rfl
 unfold zeA at hjd
 refine zan zad (fn:=Tryz.f100) (n:=30) (rs:=[.tmp 1]) (by kernel_rfl) rfl rfl rfl zCF (Nat.le_of_ble_eq_true rfl) ?_
 simp only [hjd,go_sem,simprocAttr]
 refine zbk (zpI w ws id h hid) ?_
 simp only [go_sem,simprocAttr]
 refine zab (zsz (bs w) (by rw [zao];omega)) rfl ?_
 simp only [hp,n2,n3,go_sem,simprocAttr]
 refine zab (zp0 v n2 (by omega)) rfl ?_
 have hb:(bs (dec v)==bs w)=true:=by rw [n4,zbZ];exact beq_self_eq_true _
 simp only [hb,go_sem,simprocAttr]
 refine zak (fun _=>?_) (fun h=>by cases h)
 simp only [go_sem,simprocAttr]
theorem zzv (l:List (List UInt8)) (id jd:Nat) (h:Heap) (hl:∀ w,w∈l→w.length≤1000000) (hid:h[id]?=some (za3 l)) (hjd:h[jd]?=some (zeA id)) (hn:∀ w ws,l=w::ws→zc5 w=none) :
  zap Tryz.prog 100 [.ptr jd 1 0 0] h (fun r h'=>r=.panic (zdq 6)∧∃ o,h'=h.set id o):=by
 unfold zeA at hjd
 refine zan zad (fn:=Tryz.f100) (n:=30) (rs:=[.tmp 1]) (by kernel_rfl) rfl rfl rfl zCF (Nat.le_of_ble_eq_true rfl) ?_
 simp only [hjd,go_sem,simprocAttr]
 cases l with
 |nil =>
  refine zlj (zwp id h hid) ?_
  simp only [go_sem,simprocAttr]
  exact ⟨_,(zeX hid).symm⟩
 |cons w ws =>
  have hnw:=hn w ws rfl
  have hlw:=hl w (by simp)
  refine zbk (zpI w ws id h hid) ?_
  simp only [go_sem,simprocAttr]
  refine zab (zsz (bs w) (by rw [zao];omega)) rfl ?_
  cases hnl:zeZ w with
  |none =>
   have hx:∃ v,zfJ (bs w)=.tuple [.int .i64 v,.iface 338 .any]:=by
    unfold zeZ at hnl
    rw [zfJ,zdr]
    cases ha:Lib.atoiAll w<;>rw [ha] at hnl<;>first | cases hnl;done | exact ⟨_,rfl⟩
   obtain ⟨v,hx⟩:=hx
   simp only [hx,go_sem,simprocAttr]
   refine zak (fun h=>by cases h) (fun _=>?_)
   simp only [go_sem,simprocAttr]
   exact ⟨_,rfl⟩
  |some v =>
   have hp:zfJ (bs w)=.tuple [.int .i64 v,.niliface]:=by
    unfold zeZ at hnl
    rw [zfJ,zdr]
    cases ha:Lib.atoiAll w<;>rw [ha] at hnl<;>first | cases hnl;done | skip
    cases hnl;rfl
   by_cases h0:0≤v
   rotate_left
   ·have h0':decide (0≤v)=false:=by simpa using h0
    simp only [hp,h0',go_sem,simprocAttr]
    refine zak (fun h=>by cases h) (fun _=>?_)
    simp only [go_sem,simprocAttr]
    exact ⟨_,rfl⟩
   by_cases h1:v≤10000000
   rotate_left
   ·have h1':decide (v≤10000000)=false:=by simpa using h1
    simp only [hp,h0,h1',go_sem,simprocAttr]
    refine zak (fun h=>by cases h) (fun _=>?_)
    simp only [go_sem,simprocAttr]
    exact ⟨_,rfl⟩
   simp only [hp,h0,h1,go_sem,simprocAttr]
   refine zab (zp0 v h0 (by omega)) rfl ?_
   have hb:(bs (dec v)==bs w)=false:=by
    rw [zbZ]
    cases hd:(dec v==w) with
    |false=>rfl
    |true =>
     rw [zc5,hnl] at hnw
     simp only [h0,h1,true_and,eq_of_beq hd,if_true] at hnw
     cases hnw
   simp only [hb,go_sem,simprocAttr]
   refine zak (fun h=>by cases h) (fun _=>?_)
   simp only [go_sem,simprocAttr]
   exact ⟨_,rfl⟩
theorem zfd {H:Hints} {Q:Cont} {ops:Array Oper} {rest:List Oper} {dst:Option Tmp} {A:AAct} (l:List (List UInt8)) (id jd:Nat) (hid:A.h[id]?=some (za3 l)) (hjd:A.h[jd]?=some (zeA id))
  (h1:∀ w ws,l=w::ws→zbF w=some w→@WO ⟨Tryz.prog,H,ops,rest,Q⟩ (A.put dst (.p (.str (bs w))) (A.h.set id (za3 ws))))
  (h2:(∀ w ws,l=w::ws→zbF w=none)→∀ o,@WQ ⟨Q⟩ (.panic (zdq 6)) { A with h:=A.h.set id o }):@WF ⟨Tryz.prog,H,ops,rest,Q,dst⟩ A 98 [.ptr jd 1 0 0]:=by
 by_cases hn:∀ w ws,l=w::ws→zbF w=none
 ·refine zbf (zDI l id jd A.h hid hjd hn) (fun v h hr=>by cases hr.1) (fun v h hr=>?_)
  obtain ⟨e,o,rfl⟩:=hr
  cases e
  exact h2 hn o
 ·cases l with
  |nil=>exact absurd (fun w ws h=>by cases h) hn
  |cons w ws =>
   have hw:zbF w=some w:=by
    cases hc:zbF w with
    |none=>exact absurd (fun w' ws' h=>by cases h;exact hc) hn
    |some v=>rw [zAV hc]
   exact zbk (zKN w ws id jd A.h hid hjd hw) (h1 w ws rfl hw)
theorem zdM {H:Hints} {Q:Cont} {ops:Array Oper} {rest:List Oper} {dst:Option Tmp} {A:AAct} (l:List (List UInt8)) (id jd:Nat) (hl:∀ w,w∈l→w.length≤1000000) (hid:A.h[id]?=some (za3 l)) (hjd:A.h[jd]?=some (zeA id))
  (h1:∀ w ws v,l=w::ws→zc5 w=some v→@WO ⟨Tryz.prog,H,ops,rest,Q⟩ (A.put dst (.p (.int .i64 v)) (A.h.set id (za3 ws))))
  (h2:(∀ w ws,l=w::ws→zc5 w=none)→∀ o,@WQ ⟨Q⟩ (.panic (zdq 6)) { A with h:=A.h.set id o }):@WF ⟨Tryz.prog,H,ops,rest,Q,dst⟩ A 100 [.ptr jd 1 0 0]:=by
 by_cases hn:∀ w ws,l=w::ws→zc5 w=none
 ·refine zbf (zzv l id jd A.h hl hid hjd hn) (fun v h hr=>by cases hr.1) (fun v h hr=>?_)
  obtain ⟨e,o,rfl⟩:=hr
  cases e
  exact h2 hn o
 ·cases l with
  |nil=>exact absurd (fun w ws h=>by cases h) hn
  |cons w ws =>
   cases hc:zc5 w with
   |none=>exact absurd (fun w' ws' h=>by cases h;exact hc) hn
   |some v=>exact zbk (zDH w ws id jd A.h v (hl w (by simp)) hid hjd hc) (h1 w ws v rfl hc)
end Ch
end Abs
end Go.Proofs.YtahlnclapingiaaGreatDoor
namespace Go.Proofs.YtahlnclapingiaaGreatDoor
namespace Abs
set_option maxRecDepth 100000
theorem zxT (l p:List UInt8) (hl:l.length<1000000000) (hp:p.length<1000000000):zae Tryz.prog 273 [.str (bs l),.str (bs p)] (.bool (decide (l.take p.length=p))):=by
 refine zaa zad (fn:=Tryz.f273) (n:=18) (rs:=[.tmp 4]) (by kernel_rfl) rfl rfl rfl zJb (Nat.le_of_ble_eq_true rfl) ?_
 by_cases hle:p.length≤l.length
 ·have e1:decide ((((bs p).size:Nat):Int)≤(((bs l).size:Nat):Int))=true:=by rw [zao,zao];simp;omega
  have e3:((((bs p).size:Nat):Int))≤(((bs l).size:Nat):Int):=by rw [zao,zao];omega
  have e4:(bs l).extract 0 (bs p).size=bs (l.take p.length):=by rw [zcN,List.drop_zero,zao]
  have e5:(bs (l.take p.length)==bs p)=decide (l.take p.length=p):=by
   rw [zbZ,Bool.eq_iff_iff]
   simp
  simp only [e1,e3,e4,e5,go_sem,simprocAttr]
 ·have e1:decide ((((bs p).size:Nat):Int)≤(((bs l).size:Nat):Int))=false:=by rw [zao,zao];simp;omega
  have e2:decide (l.take p.length=p)=false:=by
   rw [decide_eq_false_iff_not]
   intro h
   have:=congrArg List.length h
   rw [List.length_take] at this
   omega
  simp only [e1,e2,go_sem,simprocAttr]
theorem zqQ (l p:List UInt8) (hl:l.length<1000000000) (hp:p.length<1000000000):zae Tryz.prog 193 [.str (bs l),.str (bs p)] (.tuple [.str (bs (if l.take p.length=p then l.drop p.length else l)),.bool (decide (l.take p.length=p))]):=by
 refine zaa zad (fn:=Tryz.f193) (n:=15) (rs:=[.tmp 4,.tmp 5]) (by kernel_rfl) rfl rfl rfl zJS (Nat.le_of_ble_eq_true rfl) ?_
 simp only [go_sem,simprocAttr]
 refine zab (zxT l p hl hp) rfl ?_
 by_cases h:l.take p.length=p
 ·have hle:p.length≤l.length:=by
   have:=congrArg List.length h
   rw [List.length_take] at this
   omega
  have e3:((((bs p).size:Nat):Int))≤(((bs l).size:Nat):Int):=by rw [zao,zao];omega
  have e4:(bs l).extract (bs p).size (bs l).size=bs (l.drop p.length):=by
   rw [zcN,zao,zao,List.take_length]
  have e5:decide (l.take p.length=p)=true:=decide_eq_true h
  simp only [e5,e3,e4,if_pos h,go_sem,simprocAttr]
 ·have e5:decide (l.take p.length=p)=false:=decide_eq_false h
  simp only [e5,if_neg h,go_sem,simprocAttr]
theorem zxU (l p:List UInt8) (hl:l.length<1000000000) (hp:p.length<1000000000):zae Tryz.prog 93 [.str (bs l),.str (bs p)] (.tuple [.str (bs (if l.take p.length=p then l.drop p.length else l)),.bool (decide (l.take p.length=p))]):=by
 refine zaa zad (fn:=Tryz.f93) (n:=11) (rs:=[.tmp 4,.tmp 5]) (by kernel_rfl) rfl rfl rfl zMM (Nat.le_of_ble_eq_true rfl) ?_
 simp only [go_sem,simprocAttr]
 refine zab (zqQ l p hl hp) rfl ?_
 simp only [go_sem,simprocAttr]
end Abs
end Go.Proofs.YtahlnclapingiaaGreatDoor
namespace Go.Proofs.YtahlnclapingiaaGreatDoor
namespace Abs
namespace Ch
set_option maxRecDepth 4000
def H7 (s:ChShop) (b:ChBooks) (ex:List PV) (t:Heap):Heap:=B7 s b ex++t
def ze4 (s:ChShop) (b:ChBooks) (ex:List PV) (t:Heap) (q:Except Int (ChBooks×List UInt8)) (r:AEnd) (h'':Heap):Prop:=∃ h' t',h''=h'++t'∧zfz s b ex q r h'∧t'.length=t.length∧t'.take 3=t.take 3
theorem zuL {s:ChShop} {b:ChBooks} {ex:List PV} {q:Except Int (ChBooks×List UInt8)} {r:AEnd} {h':Heap} (h:zfz s b ex q r h'):h'.length=7:=by
 unfold zfz at h
 split at h
 ·rw [h.2];rfl
 ·rcases h.2 with ⟨_,h⟩ | ⟨_,_,_,h⟩<;>rw [h]<;>rfl
theorem zff {f:FuncId} {args:List AV} {s:ChShop} {b:ChBooks} {ex:List PV} {q:Except Int (ChBooks×List UInt8)} (hc:zap Tryz.prog f args (B7 s b ex) (zfz s b ex q)) (ha:∀ a,a∈args→below 7 a) (t:Heap):zap Tryz.prog f args (H7 s b ex t) (ze4 s b ex t q):=by
 refine (zd4 (zcU s b ex) ha (hc.mono fun r h' hr=>⟨zuL hr,hr⟩) t).mono fun r h'' hr=>?_
 obtain ⟨h',e,_,hr⟩:=hr
 exact ⟨h',t,e,hr,rfl,rfl⟩
theorem zeW {s:ChShop} {b:ChBooks} {ex:List PV} {t:Heap} {q:Except Int (ChBooks×List UInt8)} {v:AV} {h:Heap} (hr:ze4 s b ex t q (.ret v) h):∃ a,v=.p (.str (bs a)):=by
 obtain ⟨h',t',_,hp,_⟩:=hr
 unfold zfz at hp
 split at hp
 ·cases hp.1
 ·rename_i b' a
  cases hp.1
  exact ⟨a,rfl⟩
theorem zKY (s:ChShop) (b:ChBooks) (ex:List PV) (t:Heap) (n:Nat) (hs:SOk s) (hb:BkOk s b n) (i j:Nat) (text:List UInt8) (hi:(H7 s b ex t)[i]?=some (.row 1 [.ptr 2 1 0 0])) (hj:(H7 s b ex t)[j]?=some (.row 1 [.p (.str (bs text))])) :
  zap Tryz.prog 94 [.ptr i 1 0 0,.ptr j 1 0 0] (H7 s b ex t) (ze4 s b ex t (act s b (.test text))):=by
 refine zan zad (fn:=Tryz.f94) (n:=6) (rs:=[.tmp 2]) (by kernel_rfl) rfl rfl rfl zML (Nat.le_of_ble_eq_true rfl) ?_
 simp only [hi,hj,go_sem,simprocAttr]
 refine zbf (zff (zKK s b ex n hs hb text) (by simp only [go_sem,simprocAttr]) t) (fun v h hr=>?_) (fun v h hr=>?_)
 ·obtain ⟨a,rfl⟩:=zeW hr
  simp only [go_sem,simprocAttr]
  exact hr
 ·simp only [go_sem,simprocAttr]
  exact hr
theorem zGp (s:ChShop) (b:ChBooks) (ex:List PV) (t:Heap) (n:Nat) (hs:SOk s) (hb:BkOk s b n) (i j:Nat) (w:List UInt8) (hi:(H7 s b ex t)[i]?=some (.row 1 [.ptr 2 1 0 0])) (hj:(H7 s b ex t)[j]?=some (.row 1 [.p (.str (bs w))])) :
  zap Tryz.prog 106 [.ptr i 1 0 0,.ptr j 1 0 0] (H7 s b ex t) (ze4 s b ex t (act s b (.drop w))):=by
 refine zan zad (fn:=Tryz.f106) (n:=6) (rs:=[.tmp 2]) (by kernel_rfl) rfl rfl rfl zKA (Nat.le_of_ble_eq_true rfl) ?_
 simp only [hi,hj,go_sem,simprocAttr]
 refine zbf (zff (zKQ s b ex n hs hb w) (by simp only [go_sem,simprocAttr]) t) (fun v h hr=>?_) (fun v h hr=>?_)
 ·obtain ⟨a,rfl⟩:=zeW hr
  simp only [go_sem,simprocAttr]
  exact hr
 ·simp only [go_sem,simprocAttr]
  exact hr
theorem zGo (s:ChShop) (b:ChBooks) (ex:List PV) (t:Heap) (n:Nat) (hs:SOk s) (hb:BkOk s b n) (i j:Nat) (w:List UInt8) (hi:(H7 s b ex t)[i]?=some (.row 1 [.ptr 2 1 0 0])) (hj:(H7 s b ex t)[j]?=some (.row 1 [.p (.str (bs w))])) :
  zap Tryz.prog 108 [.ptr i 1 0 0,.ptr j 1 0 0] (H7 s b ex t) (ze4 s b ex t (act s b (.plan w))):=by
 refine zan zad (fn:=Tryz.f108) (n:=6) (rs:=[.tmp 2]) (by kernel_rfl) rfl rfl rfl zKy (Nat.le_of_ble_eq_true rfl) ?_
 simp only [hi,hj,go_sem,simprocAttr]
 refine zbf (zff (zsx s b ex n hs hb w) (by simp only [go_sem,simprocAttr]) t) (fun v h hr=>?_) (fun v h hr=>?_)
 ·obtain ⟨a,rfl⟩:=zeW hr
  simp only [go_sem,simprocAttr]
  exact hr
 ·simp only [go_sem,simprocAttr]
  exact hr
theorem zGn (s:ChShop) (b:ChBooks) (ex:List PV) (t:Heap) (n:Nat) (hs:SOk s) (hb:BkOk s b n) (i j:Nat) (w:List UInt8) (hi:(H7 s b ex t)[i]?=some (.row 1 [.ptr 2 1 0 0])) (hj:(H7 s b ex t)[j]?=some (.row 1 [.p (.str (bs w))])) :
  zap Tryz.prog 110 [.ptr i 1 0 0,.ptr j 1 0 0] (H7 s b ex t) (ze4 s b ex t (act s b (.pour w))):=by
 refine zan zad (fn:=Tryz.f110) (n:=6) (rs:=[.tmp 2]) (by kernel_rfl) rfl rfl rfl zKw (Nat.le_of_ble_eq_true rfl) ?_
 simp only [hi,hj,go_sem,simprocAttr]
 refine zbf (zff (zKM s b ex n hs hb w) (by simp only [go_sem,simprocAttr]) t) (fun v h hr=>?_) (fun v h hr=>?_)
 ·obtain ⟨a,rfl⟩:=zeW hr
  simp only [go_sem,simprocAttr]
  exact hr
 ·simp only [go_sem,simprocAttr]
  exact hr
theorem zGt (s:ChShop) (b:ChBooks) (ex:List PV) (t:Heap) (n:Nat) (hs:SOk s) (hb:BkOk s b n) (i j k l m:Nat) (name colour lot:List UInt8) (grams:Int) (hi:(H7 s b ex t)[i]?=some (.row 1 [.ptr 2 1 0 0])) (hj:(H7 s b ex t)[j]?=some (.row 1 [.p (.str (bs name))]))
  (hk:(H7 s b ex t)[k]?=some (.row 1 [.p (.str (bs colour))])) (hl:(H7 s b ex t)[l]?=some (.row 1 [.p (.str (bs lot))])) (hm:(H7 s b ex t)[m]?=some (.row 1 [.p (.int .i64 grams)])) :
  zap Tryz.prog 104 [.ptr i 1 0 0,.ptr j 1 0 0,.ptr k 1 0 0,.ptr l 1 0 0,.ptr m 1 0 0] (H7 s b ex t) (ze4 s b ex t (act s b (.batch name colour lot grams))):=by
 refine zan zad (fn:=Tryz.f104) (n:=12) (rs:=[.tmp 5]) (by kernel_rfl) rfl rfl rfl zKB (Nat.le_of_ble_eq_true rfl) ?_
 simp only [hi,hj,hk,hl,hm,go_sem,simprocAttr]
 refine zbf (zff (zF8 s b ex n hs hb name colour lot grams) (by simp only [go_sem,simprocAttr]) t) (fun v h hr=>?_) (fun v h hr=>?_)
 ·obtain ⟨a,rfl⟩:=zeW hr
  simp only [go_sem,simprocAttr]
  exact hr
 ·simp only [go_sem,simprocAttr]
  exact hr
theorem zNx (s:ChShop) (b:ChBooks) (ex:List PV) (t:Heap) (n:Nat) (hs:SOk s) (hb:BkOk s b n) (i j k:Nat) (kind:List UInt8) (hours:Int) (hi:(H7 s b ex t)[i]?=some (.row 1 [.ptr 2 1 0 0])) (hj:(H7 s b ex t)[j]?=some (.row 1 [.p (.str (bs kind))]))
  (hk:(H7 s b ex t)[k]?=some (.row 1 [.p (.int .i64 hours)])) :
  zap Tryz.prog 114 [.ptr i 1 0 0,.ptr j 1 0 0,.ptr k 1 0 0] (H7 s b ex t) (ze4 s b ex t (act s b (.box kind hours))):=by
 refine zan zad (fn:=Tryz.f114) (n:=8) (rs:=[.tmp 3]) (by kernel_rfl) rfl rfl rfl zKs (Nat.le_of_ble_eq_true rfl) ?_
 simp only [hi,hj,hk,go_sem,simprocAttr]
 refine zbf (zff (zNu s b ex n hs hb kind hours) (by simp only [go_sem,simprocAttr]) t) (fun v h hr=>?_) (fun v h hr=>?_)
 ·obtain ⟨a,rfl⟩:=zeW hr
  simp only [go_sem,simprocAttr]
  exact hr
 ·simp only [go_sem,simprocAttr]
  exact hr
theorem zKX (s:ChShop) (b:ChBooks) (ex:List PV) (t:Heap) (n:Nat) (hs:SOk s) (hb:BkOk s b n) (i j k:Nat) (kind:List UInt8) (a b' c d:Int) (hi:(H7 s b ex t)[i]?=some (.row 1 [.ptr 2 1 0 0])) (hj:(H7 s b ex t)[j]?=some (.row 1 [.p (.str (bs kind))]))
  (hk:(H7 s b ex t)[k]?=some (.row 4 [.p (.agg [.int .i64 a,.int .i64 b',.int .i64 c,.int .i64 d])])) :
  zap Tryz.prog 117 [.ptr i 1 0 0,.ptr j 1 0 0,.ptr k 1 0 0] (H7 s b ex t) (ze4 s b ex t (act s b (.wick kind a b' c d))):=by
 refine zan zad (fn:=Tryz.f117) (n:=8) (rs:=[.tmp 3]) (by kernel_rfl) rfl rfl rfl zKp (Nat.le_of_ble_eq_true rfl) ?_
 simp only [hi,hj,hk,go_sem,simprocAttr]
 refine zbf (zff (zKJ s b ex n hs hb kind a b' c d) (by simp only [go_sem,simprocAttr]) t) (fun v h hr=>?_) (fun v h hr=>?_)
 ·obtain ⟨a,rfl⟩:=zeW hr
  simp only [go_sem,simprocAttr]
  exact hr
 ·simp only [go_sem,simprocAttr]
  exact hr
theorem zGs (s:ChShop) (b:ChBooks) (ex:List PV) (t:Heap) (n:Nat) (hs:SOk s) (hb:BkOk s b n) (i k:Nat) (a b' c:Int) (hi:(H7 s b ex t)[i]?=some (.row 1 [.ptr 2 1 0 0]))
  (hk:(H7 s b ex t)[k]?=some (.row 3 [.p (.agg [.int .i64 a,.int .i64 b',.int .i64 c])])) :
  zap Tryz.prog 119 [.ptr i 1 0 0,.ptr k 1 0 0] (H7 s b ex t) (ze4 s b ex t (act s b (.blend a b' c))):=by
 refine zan zad (fn:=Tryz.f119) (n:=6) (rs:=[.tmp 2]) (by kernel_rfl) rfl rfl rfl zKn (Nat.le_of_ble_eq_true rfl) ?_
 simp only [hi,hk,go_sem,simprocAttr]
 refine zbf (zff (ztJ s b ex n hs hb a b' c) (by simp only [go_sem,simprocAttr]) t) (fun v h hr=>?_) (fun v h hr=>?_)
 ·obtain ⟨a,rfl⟩:=zeW hr
  simp only [go_sem,simprocAttr]
  exact hr
 ·simp only [go_sem,simprocAttr]
  exact hr
theorem zBt (s:ChShop) (b:ChBooks) (ex:List PV) (t:Heap) (n:Nat) (hs:SOk s) (hb:BkOk s b n) (i j:Nat) (kind:List UInt8) (hi:(H7 s b ex t)[i]?=some (.row 1 [.ptr 2 1 0 0])) (hj:(H7 s b ex t)[j]?=some (.row 1 [.p (.str (bs kind))])) :
  zap Tryz.prog 112 [.ptr i 1 0 0,.ptr j 1 0 0] (H7 s b ex t) (ze4 s b ex t (act s b (.promise kind))):=by
 have hp:=zol s b ex n hs hb kind
 have hfr:∀ {R:AEnd→Heap→Prop},zap Tryz.prog 113 [.ptr 2 1 0 0,.p (.str (bs kind))] (B7 s b ex) (fun r h'=>R r h'∧h'=B7 s b ex)→zap Tryz.prog 113 [.ptr 2 1 0 0,.p (.str (bs kind))] (H7 s b ex t) (fun r h'=>h'=H7 s b ex t∧R r (B7 s b ex)):=fun {R} hc=>by
  refine (zd4 (zcU s b ex) (by simp only [go_sem,simprocAttr]) (hc.mono fun r h' hr=>⟨by rw [hr.2],hr⟩) t).mono fun r h'' hr=>?_
  obtain ⟨h',e,_,hr,e2⟩:=hr
  subst e2
  exact ⟨e,hr⟩
 refine zan zad (fn:=Tryz.f112) (n:=15) (rs:=[.tmp 2]) (by kernel_rfl) rfl rfl rfl zKu (Nat.le_of_ble_eq_true rfl) ?_
 simp only [hi,hj,go_sem,simprocAttr]
 cases hq:zdl s b kind with
 |error e =>
  refine zbf (hfr (hp.1 e hq)) (fun v h hr=>by cases hr.2) (fun v h hr=>?_)
  obtain ⟨rfl,hr⟩:=hr
  cases hr
  simp only [go_sem,simprocAttr]
  exact ⟨_,t,rfl,by simp only [act,hq];exact ⟨rfl,rfl⟩,rfl,rfl⟩
 |ok q =>
  obtain ⟨k,m⟩:=q
  obtain ⟨hm,hc⟩:=hp.2 k m hq
  refine zbf (hfr hc) (fun v h hr=>?_) (fun v h hr=>by cases hr.2)
  obtain ⟨rfl,hr⟩:=hr
  cases hr
  simp only [go_sem,simprocAttr]
  have hsd:=zix [.n m] true (by simp) (fun w hw=>by
   simp only [List.mem_cons,List.not_mem_nil,or_false] at hw
   subst hw
   exact ⟨hm.1,by omega⟩)
  refine zab hsd rfl ?_
  simp only [go_sem,simprocAttr]
  exact ⟨_,t,rfl,by simp only [act,hq];exact ⟨rfl,.inl ⟨_,rfl⟩⟩,rfl,rfl⟩
theorem zNw (s:ChShop) (b:ChBooks) (ex:List PV) (t:Heap) (n:Nat) (hs:SOk s) (hb:BkOk s b n) (i j k l m r:Nat) (name kind:List UInt8) (grams:Int) (rs:List Int) (hrs:rs.length<1000000000) (hi:(H7 s b ex t)[i]?=some (.row 1 [.ptr 2 1 0 0])) (hj:(H7 s b ex t)[j]?=some (.row 1 [.p (.str (bs name))]))
  (hk:(H7 s b ex t)[k]?=some (.row 1 [.p (.str (bs kind))])) (hl:(H7 s b ex t)[l]?=some (.row 1 [.p (.int .i64 grams)])) (hm:(H7 s b ex t)[m]?=some (.row 1 [.slice r rs.length 0 rs.length])) (hr7:10≤r) (hr:(H7 s b ex t)[r]?=some (.row 1 (rs.map fun v=>.p (zay v)))) :
  zap Tryz.prog 102 [.ptr i 1 0 0,.ptr j 1 0 0,.ptr k 1 0 0,.ptr l 1 0 0,.ptr m 1 0 0] (H7 s b ex t) (ze4 s b ex t (act s b (.lot name kind grams rs))):=by
 have hcall:zap Tryz.prog 103 [.ptr 2 1 0 0,.p (.str (bs name)),.p (.str (bs kind)),.p (.int .i64 grams),.slice r rs.length 0 rs.length] (H7 s b ex t) (ze4 s b ex t (act s b (.lot name kind grams rs))):=by
  have e:zd0 (fun x=>x==r) (H7 s b ex t)=H7 s b ex (t.set (r-7) .dead):=by
   rw [ztC]
   unfold H7
   rw [List.set_append_right _ _ (show (B7 s b ex).length≤r by show 7≤r;omega)];rfl
  refine zvk (args':=[.ptr 2 1 0 0,.p (.str (bs name)),.p (.str (bs kind)),.p (.int .i64 grams),.p (.slice 1 (rs.map zay) false)]) (fun x=>x==r) rfl (fun x a' hx=>?_) ?_
  ·match x,hx with
   |0,hx=>exact .inl hx
   |1,hx=>exact .inl hx
   |2,hx=>exact .inl hx
   |3,hx=>exact .inl hx
   |4,hx =>
    cases hx
    refine .inr ⟨_,_,rfl,rfl,?_⟩
    have hk:(zd0 (fun i=>!(i==r)) (H7 s b ex t))[r]?=some (.row 1 (rs.map fun v=>.p (zay v))):=by rw [zhG (by simp)];exact hr
    have hf:∀ (n:Nat) (h:Heap),zaD (zbe n h) (rs.map fun v=>.p (zay v))=some (rs.map zay):=fun n h=>zbV (zcp n h) zay rs
    unfold frz zbe
    rw [hk]
    simp only [zgO,hf]
    rw [if_pos (by simp)]
    show some (PV.slice 1 (List.drop 0 (List.take (0+rs.length) (rs.map zay))) false)=_
    rw [List.drop_zero,List.take_of_length_le (by simp)]
   |n+5,hx=>simp at hx
  ·rw [e]
   refine (zff (zNt s b ex n hs hb name kind grams rs hrs) (by simp only [go_sem,simprocAttr]) _).mono fun x h' hx=>?_
   obtain ⟨h1,t1,e1,p1,l1,k1⟩:=hx
   refine ⟨h1,t1,e1,p1,by rw [l1,List.length_set],by rw [k1];exact List.take_set_of_le (by omega)⟩
 refine zan zad (fn:=Tryz.f102) (n:=12) (rs:=[.tmp 5]) (by kernel_rfl) rfl rfl rfl zKC (Nat.le_of_ble_eq_true rfl) ?_
 simp only [hi,hj,hk,hl,hm,go_sem,simprocAttr]
 refine zbf hcall (fun v h hr=>?_) (fun v h hr=>?_)
 ·obtain ⟨a,rfl⟩:=zeW hr
  simp only [go_sem,simprocAttr]
  exact hr
 ·simp only [go_sem,simprocAttr]
  exact hr
end Ch
end Abs
end Go.Proofs.YtahlnclapingiaaGreatDoor
