/-
  CONTRACTS: chandler: test. No conditions but those in the theorems' heads.
  CONTRACTS: chandler: lot. No conditions but those in the theorems' heads.
  CONTRACTS: chandler: batch. No conditions but those in the theorems' heads.
  CONTRACTS: chandler: drop. No conditions but those in the theorems' heads.
-/
import Derived.Test.YtahlnclapingiaaGreatDoorHrLaw0X
set_option linter.unusedSimpArgs false
set_option linter.unusedVariables false
namespace Go.Proofs.YtahlnclapingiaaGreatDoor
namespace Abs
namespace Ch
set_option maxRecDepth 4000
theorem zw7 {s:HrShop} {a:List UInt8} (h:(zaB s a).2=0):za6 s.kinds.length (zaB s a).1=0∧zba s []=0:=by
 unfold zaB at h ⊢
 split at h
 ·rename_i h0
  rw [if_pos h0]
  split at h
  ·cases h
  ·rename_i h1
   rw [if_neg h1]
   split at h
   ·cases h
   ·rename_i t ht
    split at h
    ·rename_i hg
     rw [if_pos hg]
     refine ⟨?_,h0⟩
     unfold zhO at hg
     simp only [Bool.and_eq_true,beq_iff_eq] at hg
     exact hg.1
    ·cases h
 ·rename_i h0;exact absurd h h0
theorem ztd {s:HrShop} (h:zba s []=0):(hrCheck s).2.2=0:=by
 unfold zba at h
 split at h
 ·assumption
 ·exact h
theorem zu4 {nk:Int} {t:HrTest} (h:za6 nk t=0):zbK t=t.pv:=by
 have:=(zdv h).1.two
 unfold zbK
 cases hm:t.marks with
 |nil=>rw [hm] at this;simp at this
 |cons m r=>simp only [HrTest.pv,hm]
theorem zFR {s:HrShop} {t:HrTest} {nk:Int} (h:za6 nk t=0):(zfG s t).1.length≤1000∧∀ i,i∈(zfG s t).1→0≤i∧i<1000000000:=by
 have hl:=(zdv h).1.len
 have hg:∀ (l:List HrMark) (i:Nat),(zhA t i l).length≤l.length∧∀ j,j∈zhA t i l→0≤j∧j<i+l.length:=by
  intro l
  induction l with
  |nil=>intro i;exact ⟨Nat.le_refl _,fun j hj=>by cases hj⟩
  |cons m r ih =>
   intro i
   have:=ih (i+1)
   rw [zhA]
   refine ⟨?_,fun j hj=>?_⟩
   ·rw [List.length_append,List.length_cons]
    have:(if zeh (wo t i)=true then [(i:Int)] else []).length≤1:=by split<;>simp
    omega
   ·rcases List.mem_append.1 hj with hj | hj
    ·split at hj
     ·simp at hj;subst hj;simp;omega
     ·simp at hj
    ·have:=this.2 j hj
     simp at this ⊢;omega
 unfold zfG
 split
 ·unfold znJ
  split
  ·simp
  ·have:=hg t.marks 0
   refine ⟨Nat.le_trans this.1 (by omega),fun i hi=>?_⟩
   have:=this.2 i hi
   simp at this
   omega
 ·simp
theorem zwQ (s:ChShop) (b:ChBooks) (ex:List PV) (t:HrTest):B7 s { b with tests:=b.tests++[t] } ex =
  [.dead,.dead,.row 23 [.agg ([.slice 3 b.lots.length 0 b.lots.length,.slice 4 (b.batches.length+ex.length) 0 b.batches.length,.slice 5 (b.tests.length+1) 0 (b.tests.length+1),.slice 6 b.boxes.length 0 b.boxes.length,.p (.int .i64 b.poured),.p (.int .i64 b.lost)]++s.cells.map .p)],
  .row 4 (b.lots.map zgd),.row 4 (b.batches.map zbq++ex.map .p),.row 3 (b.tests.map zis++[.p t.pv]),.row 2 (b.boxes.map zkK)]:=by
 simp only [B7,List.length_append,List.length_singleton,List.map_append,List.map_cons,List.map_nil,zis]
def zqg:Hints:=zcy [(53,.low),(1007052,.sto),(32,.low),(40,.app 37),(5000001,.app 5)]
theorem zFJ:zaf zqg Tryz.f95=true:=by kernel_rfl
set_option maxHeartbeats 1000000 in
theorem zKK (s:ChShop) (b:ChBooks) (ex:List PV) (n:Nat) (hs:SOk s) (hb:BkOk s b n) (text:List UInt8):zap Tryz.prog 95 [.ptr 2 1 0 0,.p (.str (bs text))] (B7 s b ex) (zfz s b ex (act s b (.test text))):=by
 have hl:=hb.tests
 refine za4 zad (fn:=Tryz.f95) (n:=79) (rs:=[.tmp 4]) (by kernel_rfl) rfl rfl rfl zFJ (Nat.le_of_ble_eq_true rfl) ?_
 simp only [ChShop.cells,go_sem,simprocAttr]
 refine zab (zwF s.hour text) rfl ?_
 by_cases he:(zaB s.hour text).2=0
 rotate_left
 ·have he':((zaB s.hour text).2==0)=false:=by simpa using he
  simp only [zbK,he',go_sem,simprocAttr]
  refine zak (fun h=>by cases h) (fun _=>?_)
  simp only [go_sem,simprocAttr]
  exact zbJ (e:=(zaB s.hour text).2) (by simp only [act,if_pos he]) [_] rfl
 obtain ⟨g1,g2⟩:=zw7 he
 have hpv:=zu4 g1
 simp only [hpv,he,HrTest.pv,go_sem,simprocAttr]
 refine zak (fun _=>?_) (fun h=>by cases h)
 simp only [go_sem,simprocAttr]
 refine zak (fun h2=>?_) (fun h2=>?_)
 rotate_left
 ·have h2':¬ b.tests.length<8:=by simp at h2;omega
  simp only [go_sem,simprocAttr]
  exact zbJ (e:=3) (by simp only [act,if_neg (not_not_intro he),if_pos h2']) [_] rfl
 have h2':b.tests.length<8:=by simp at h2;omega
 have h2n:¬ ¬ b.tests.length<8:=fun h=>h h2'
 have hrm:b.tests.length+1≤zar:=by simp only [zar];omega
 simp only [hrm,zqg,zal,go_sem,simprocAttr]
 refine And.intro (.inr ⟨5,_,rfl,rfl⟩) ?_
 refine zau (zLa s.hour (zaB s.hour text).1) rfl ?_
 have hact:act s b (.test text)=.ok ({ b with tests:=b.tests++[(zaB s.hour text).1] },
   if (zb2 s.hour (zaB s.hour text).1).2=0 then joinL [dec (zb2 s.hour (zaB s.hour text).1).1.lo,dec (zb2 s.hour (zaB s.hour text).1).1.hi]
   else joinL (zwU::(zfG s.hour (zaB s.hour text).1).1.map dec)):=by simp only [act,if_neg (not_not_intro he),if_neg h2n]
 by_cases hr:(zb2 s.hour (zaB s.hour text).1).2=0
 ·simp only [zqg,zal,hr,Span.pv,go_sem,simprocAttr]
  have hrg:0≤(zb2 s.hour (zaB s.hour text).1).1.lo∧(zb2 s.hour (zaB s.hour text).1).1.lo<1000000000∧0≤(zb2 s.hour (zaB s.hour text).1).1.hi∧(zb2 s.hour (zaB s.hour text).1).1.hi<1000000000:=by
   have:=zmX (zdv g1).1
   unfold zb2
   split
   ·split
    ·dsimp only;omega
    ·dsimp only;omega
   ·dsimp only;omega
  have hsd:=zix [.n (zb2 s.hour (zaB s.hour text).1).1.lo,.n (zb2 s.hour (zaB s.hour text).1).1.hi] true (by simp) (fun w hw=>by
   simp only [List.mem_cons,List.not_mem_nil,or_false] at hw
   rcases hw with rfl | rfl
   ·exact ⟨hrg.1,hrg.2.1⟩
   ·exact ⟨hrg.2.2.1,hrg.2.2.2⟩)
  refine And.intro rfl ?_
  refine zab hsd rfl ?_
  simp only [go_sem,simprocAttr]
  rw [if_pos hr] at hact
  exact zdX (ex':=ex) (a:=joinL ([Word.n (zb2 s.hour (zaB s.hour text).1).1.lo,.n (zb2 s.hour (zaB s.hour text).1).1.hi].flatMap Word.ws)) hact [_,_] (congrArg (·++[_,_]) (zwQ s b ex (zaB s.hour text).1).symm)
 ·have hr':((zb2 s.hour (zaB s.hour text).1).2==0)=false:=by simpa using hr
  simp only [zqg,zal,hr',Span.pv,go_sem,simprocAttr]
  refine And.intro rfl ?_
  refine zau (zGE s.hour (zaB s.hour text).1) rfl ?_
  simp only [zqg,zal,zoy,go_sem,simprocAttr]
  obtain ⟨o1,o2⟩:=zFR (s:=s.hour) g1
  have hsd:=zix [.s zwU,.ns (zfG s.hour (zaB s.hour text).1).1] true (by simp) (fun w hw=>by
   simp only [List.mem_cons,List.not_mem_nil,or_false] at hw
   rcases hw with rfl | rfl
   ·show (3:Nat)≤1000;decide
   ·exact ⟨o1,o2⟩)
  refine zab hsd rfl ?_
  simp only [go_sem,simprocAttr]
  rw [if_neg hr] at hact
  exact zdX (ex':=ex) (a:=joinL ([Word.s zwU,.ns (zfG s.hour (zaB s.hour text).1).1].flatMap Word.ws)) (by simpa [Word.ws] using hact) [_,_] (congrArg (·++[_,_]) (zwQ s b ex (zaB s.hour text).1).symm)
end Ch
end Abs
end Go.Proofs.YtahlnclapingiaaGreatDoor
namespace Go.Proofs.YtahlnclapingiaaGreatDoor
namespace Abs
namespace Ch
set_option maxRecDepth 4000
theorem zFt (t:WxTable) (rs:List Int) (k:Nat):Wx.zg4 (Wx.zCo t rs k):=by
 have key:∀ (l:List (Nat×Nat)) (p:Span),Wx.zg4 p→Wx.zg4 (Wx.joinL (fun q=>(Wx.zmJ (Wx.zeJ t rs q)).map (Wx.zeB k q)) l p):=by
  intro l
  induction l with
  |nil=>intro p h;exact h
  |cons q l ih =>
   intro p h
   rw [Wx.joinL]
   refine ih _ ?_
   unfold Wx.zmJ
   by_cases hc:(Wx.zeJ t rs q).lo≤(Wx.zeJ t rs q).hi
   ·rw [if_pos hc]
    have hi:=Wx.zto hc
    refine Wx.zwl h ?_
    unfold Wx.zeB
    split
    ·omega
    ·split
     ·dsimp only;omega
     ·dsimp only;omega
   ·rw [if_neg hc]
    exact h
 exact key _ _ (by unfold Wx.zg4;decide)
theorem zw1 {t:WxTable} {rs:List Int} {k:Int} (h:(Wx.zaQ t rs k).2.2=0):(0≤(Wx.zaQ t rs k).1.lo∧(Wx.zaQ t rs k).1.lo<1000000000)∧0≤(Wx.zaQ t rs k).1.hi∧(Wx.zaQ t rs k).1.hi<1000000000:=by
 have hB:=zFt t rs k.toNat
 unfold Wx.zg4 at hB
 unfold Wx.zaQ at h ⊢
 split
 ·split
  ·unfold Wx.zhf
   split
   ·dsimp only;omega
   ·split
    ·dsimp only;omega
    ·split<;>dsimp only<;>omega
  ·dsimp only;omega
 ·dsimp only;omega
theorem SOk.waxkinds {s:ChShop} (h:SOk s):s.wax.kinds.length<1000000000:=by
 have:=(Wx.zsN h.wax).kinds
 omega
theorem zBF (s:ByteArray) (x:ChLot):zae Tryz.prog 201 [x.pv,.ptr 1 [.str s] 0 0] (.bool (x.name==s)):=by
 refine zaa zad (fn:=Tryz.f201) (n:=8) (rs:=[.tmp 3]) (by kernel_rfl) rfl rfl rfl zJM (Nat.le_of_ble_eq_true rfl) ?_
 simp only [go_sem,simprocAttr]
theorem zxV (s:ByteArray) (x:ChBatch):zae Tryz.prog 206 [x.pv,.ptr 1 [.str s] 0 0] (.bool (x.name==s)):=by
 refine zaa zad (fn:=Tryz.f206) (n:=8) (rs:=[.tmp 3]) (by kernel_rfl) rfl rfl rfl zJI (Nat.le_of_ble_eq_true rfl) ?_
 simp only [go_sem,simprocAttr]
theorem zuT (s:ChShop) (b:ChBooks) (ex:List PV) (t:ChLot):B7 s { b with lots:=b.lots++[t] } ex =
  [.dead,.dead,.row 23 [.agg ([.slice 3 (b.lots.length+1) 0 (b.lots.length+1),.slice 4 (b.batches.length+ex.length) 0 b.batches.length,.slice 5 b.tests.length 0 b.tests.length,.slice 6 b.boxes.length 0 b.boxes.length,.p (.int .i64 b.poured),.p (.int .i64 b.lost)]++s.cells.map .p)],
  .row 4 (b.lots.map zgd++[.p t.pv]),.row 4 (b.batches.map zbq++ex.map .p),.row 3 (b.tests.map zis),.row 2 (b.boxes.map zkK)]:=by
 simp only [B7,List.length_append,List.length_singleton,List.map_append,List.map_cons,List.map_nil,zgd]
def zuN:Hints:=zcy [(64,.low),(76,.app 69),(5000001,.app 6)]
theorem zHH:zaf zuN Tryz.f103=true:=by kernel_rfl
set_option maxHeartbeats 1000000 in
theorem zNt (s:ChShop) (b:ChBooks) (ex:List PV) (n:Nat) (hs:SOk s) (hb:BkOk s b n) (name kind:List UInt8) (grams:Int) (rs:List Int) (hrs:rs.length<1000000000):zap Tryz.prog 103 [.ptr 2 1 0 0,.p (.str (bs name)),.p (.str (bs kind)),.p (.int .i64 grams),.p (.slice 1 (rs.map zay) false)] (B7 s b ex) (zfz s b ex (act s b (.lot name kind grams rs))):=by
 have hl:=hb.lots
 refine za4 zad (fn:=Tryz.f103) (n:=95) (rs:=[.tmp 10]) (by kernel_rfl) rfl rfl rfl zHH (Nat.le_of_ble_eq_true rfl) ?_
 simp only [ChShop.cells,go_sem,simprocAttr]
 refine zaO (zp3 (fv:=.func (.func 201) [] [.ptr 1 [.str (bs name)] 0 0]) b.lots (fun y=>y.name==bs name) false 4 rfl (by omega) fun y _=>⟨_,_,_,rfl,zBF (bs name) y⟩) ?_ (.bool _) ?_
 ·simp only [go_sem,simprocAttr]
 simp only [go_sem,simprocAttr]
 refine zak (fun h1=>?_) (fun h1=>?_)
 rotate_left
 ·have h1':(b.lots.any fun y=>y.name==bs name)=true:=by simpa using h1
  simp only [go_sem,simprocAttr]
  exact zbJ (e:=5) (by simp only [act,if_pos h1']) [_] rfl
 have h1':¬ (b.lots.any fun y=>y.name==bs name)=true:=by
  intro h;rw [h] at h1;cases h1
 simp only [ChShop.cells,go_sem,simprocAttr]
 by_cases h2:zam (fun x:WxKind=>x.name==bs kind) s.wax.kinds 0<0
 ·refine zj7 (zFH s.wax.kinds (bs kind) false hs.waxkinds h2) rfl (zhb _) ?_
  simp only [go_sem,simprocAttr]
  exact zbJ (e:=4) (by simp only [act,if_neg h1',if_pos h2]) [_] rfl
 refine zab (zGK s.wax.kinds (bs kind) false hs.waxkinds (by omega)) rfl ?_
 by_cases h3:1≤grams∧grams≤100000
 rotate_left
 ·have ha:act s b (.lot name kind grams rs)=.error 7:=by simp only [act,if_neg h1',if_neg h2,if_pos h3]
  by_cases hg:1≤grams
  ·have hg2:decide (grams≤100000)=false:=by simpa using fun h=>h3 ⟨hg,h⟩
   have hg1:decide (1≤grams)=true:=by simpa using hg
   simp only [hg1,hg2,go_sem,simprocAttr]
   refine zak (fun h=>by cases h) (fun _=>?_)
   simp only [go_sem,simprocAttr]
   exact zbJ (e:=7) ha [_] rfl
  ·have hg1:decide (1≤grams)=false:=by simpa using hg
   simp only [hg1,go_sem,simprocAttr]
   refine zak (fun h=>by cases h) (fun _=>?_)
   simp only [go_sem,simprocAttr]
   exact zbJ (e:=7) ha [_] rfl
 have h3n:¬ ¬ (1≤grams∧grams≤100000):=fun h=>h h3
 simp only [h3.1,h3.2,go_sem,simprocAttr]
 refine zak (fun _=>?_) (fun h=>by cases h)
 simp only [ChShop.cells,go_sem,simprocAttr]
 refine zab (Wx.zK5 s.wax rs (zam (fun x:WxKind=>x.name==bs kind) s.wax.kinds 0) hrs) rfl ?_
 by_cases h4:(Wx.zaQ s.wax rs (zam (fun x:WxKind=>x.name==bs kind) s.wax.kinds 0)).2.2=0
 rotate_left
 ·have h4':((Wx.zaQ s.wax rs (zam (fun x:WxKind=>x.name==bs kind) s.wax.kinds 0)).2.2==0)=false:=by simpa using h4
  simp only [h4',Span.pv,go_sem,simprocAttr]
  refine zak (fun h=>by cases h) (fun _=>?_)
  simp only [go_sem,simprocAttr]
  exact zbJ (e:=(Wx.zaQ s.wax rs (zam (fun x:WxKind=>x.name==bs kind) s.wax.kinds 0)).2.2) (by simp only [act,if_neg h1',if_neg h2,if_neg h3n,if_pos h4]) [_,_] rfl
 have h4n:¬ (Wx.zaQ s.wax rs (zam (fun x:WxKind=>x.name==bs kind) s.wax.kinds 0)).2.2≠0:=fun h=>h h4
 obtain ⟨r1,r2⟩:=zw1 h4
 simp only [h4,Span.pv,go_sem,simprocAttr]
 refine zak (fun _=>?_) (fun h=>by cases h)
 simp only [go_sem,simprocAttr]
 refine zak (fun h5=>?_) (fun h5=>?_)
 rotate_left
 ·have h5':¬ b.lots.length<8:=by simp at h5;omega
  simp only [go_sem,simprocAttr]
  exact zbJ (e:=3) (by simp only [act,if_neg h1',if_neg h2,if_neg h3n,if_neg h4n,if_pos h5']) [_,_] rfl
 have h5':b.lots.length<8:=by simp at h5;omega
 have h5n:¬ ¬ b.lots.length<8:=fun h=>h h5'
 have hrm:b.lots.length+1≤zar:=by simp only [zar];omega
 have hact:act s b (.lot name kind grams rs)=.ok ({ b with lots:=b.lots++[⟨bs name,zam (fun x:WxKind=>x.name==bs kind) s.wax.kinds 0,grams,rs⟩] },joinL [zhd (Wx.zaQ s.wax rs (zam (fun x:WxKind=>x.name==bs kind) s.wax.kinds 0)).2.1,dec (Wx.zaQ s.wax rs (zam (fun x:WxKind=>x.name==bs kind) s.wax.kinds 0)).1.lo,dec (Wx.zaQ s.wax rs (zam (fun x:WxKind=>x.name==bs kind) s.wax.kinds 0)).1.hi]):=by
  simp only [act,if_neg h1',if_neg h2,if_neg h3n,if_neg h4n,if_neg h5n]
 simp only [hrm,zuN,zal,go_sem,simprocAttr]
 refine And.intro (.inr ⟨3,_,rfl,rfl⟩) ?_
 have hsd:∀ w:List UInt8,w.length≤1000→zae Tryz.prog 45 [.slice 1 ([Word.s w,.n (Wx.zaQ s.wax rs (zam (fun x:WxKind=>x.name==bs kind) s.wax.kinds 0)).1.lo,.n (Wx.zaQ s.wax rs (zam (fun x:WxKind=>x.name==bs kind) s.wax.kinds 0)).1.hi].map Word.pv) true] _:=fun w hw=>zix [.s w,.n (Wx.zaQ s.wax rs (zam (fun x:WxKind=>x.name==bs kind) s.wax.kinds 0)).1.lo,.n (Wx.zaQ s.wax rs (zam (fun x:WxKind=>x.name==bs kind) s.wax.kinds 0)).1.hi] true (by simp) (fun x hx=>by
  simp only [List.mem_cons,List.not_mem_nil,or_false] at hx
  rcases hx with rfl | rfl | rfl
  ·exact hw
  ·exact r1
  ·exact r2)
 by_cases v1:(Wx.zaQ s.wax rs (zam (fun x:WxKind=>x.name==bs kind) s.wax.kinds 0)).2.1=1
 ·have hv:zhd (Wx.zaQ s.wax rs (zam (fun x:WxKind=>x.name==bs kind) s.wax.kinds 0)).2.1=zst:=by rw [zhd,if_pos v1]
  simp only [v1,zuN,zal,go_sem,simprocAttr]
  refine zab (hsd zst (by decide)) rfl ?_
  simp only [go_sem,simprocAttr]
  exact zdX (ex':=ex) (a:=joinL ([Word.s zst,.n (Wx.zaQ s.wax rs (zam (fun x:WxKind=>x.name==bs kind) s.wax.kinds 0)).1.lo,.n (Wx.zaQ s.wax rs (zam (fun x:WxKind=>x.name==bs kind) s.wax.kinds 0)).1.hi].flatMap Word.ws)) (by rw [hact,hv];rfl) [_,_] (congrArg (·++[_,_]) (zuT s b ex ⟨bs name,zam (fun x:WxKind=>x.name==bs kind) s.wax.kinds 0,grams,rs⟩).symm)
 have v1':((Wx.zaQ s.wax rs (zam (fun x:WxKind=>x.name==bs kind) s.wax.kinds 0)).2.1==1)=false:=by simpa using v1
 by_cases v2:(Wx.zaQ s.wax rs (zam (fun x:WxKind=>x.name==bs kind) s.wax.kinds 0)).2.1=2
 ·have hv:zhd (Wx.zaQ s.wax rs (zam (fun x:WxKind=>x.name==bs kind) s.wax.kinds 0)).2.1=zlr:=by rw [zhd,if_neg v1,if_pos v2]
  simp only [v1',v2,zuN,zal,go_sem,simprocAttr]
  refine zab (hsd zlr (by decide)) rfl ?_
  simp only [go_sem,simprocAttr]
  exact zdX (ex':=ex) (a:=joinL ([Word.s zlr,.n (Wx.zaQ s.wax rs (zam (fun x:WxKind=>x.name==bs kind) s.wax.kinds 0)).1.lo,.n (Wx.zaQ s.wax rs (zam (fun x:WxKind=>x.name==bs kind) s.wax.kinds 0)).1.hi].flatMap Word.ws)) (by rw [hact,hv];rfl) [_,_] (congrArg (·++[_,_]) (zuT s b ex ⟨bs name,zam (fun x:WxKind=>x.name==bs kind) s.wax.kinds 0,grams,rs⟩).symm)
 have v2':((Wx.zaQ s.wax rs (zam (fun x:WxKind=>x.name==bs kind) s.wax.kinds 0)).2.1==2)=false:=by simpa using v2
 have hv:zhd (Wx.zaQ s.wax rs (zam (fun x:WxKind=>x.name==bs kind) s.wax.kinds 0)).2.1=znp:=by rw [zhd,if_neg v1,if_neg v2]
 simp only [v1',v2',zuN,zal,go_sem,simprocAttr]
 refine zab (hsd znp (by decide)) rfl ?_
 simp only [go_sem,simprocAttr]
 exact zdX (ex':=ex) (a:=joinL ([Word.s znp,.n (Wx.zaQ s.wax rs (zam (fun x:WxKind=>x.name==bs kind) s.wax.kinds 0)).1.lo,.n (Wx.zaQ s.wax rs (zam (fun x:WxKind=>x.name==bs kind) s.wax.kinds 0)).1.hi].flatMap Word.ws)) (by rw [hact,hv];rfl) [_,_] (congrArg (·++[_,_]) (zuT s b ex ⟨bs name,zam (fun x:WxKind=>x.name==bs kind) s.wax.kinds 0,grams,rs⟩).symm)
end Ch
end Abs
end Go.Proofs.YtahlnclapingiaaGreatDoor
namespace Go.Proofs.YtahlnclapingiaaGreatDoor
namespace Abs
namespace Ch
set_option maxRecDepth 4000
theorem zkn {α:Type} (p:α→Bool):∀ (l:List α) (k:Nat),zam p l k<0∨∃ (j:Nat) (x:α),zam p l k=((k+j:Nat):Int)∧l[j]?=some x∧p x=true
 |[],k=>.inl (by simp [zam])
 |y::l,k=>by
  rw [zam]
  split
  ·rename_i h
   exact .inr ⟨0,y,by simp,rfl,h⟩
  ·rcases zkn p l (k+1) with h | ⟨j,x,h1,h2,h3⟩
   ·exact .inl h
   ·exact .inr ⟨j+1,x,by rw [h1];congr 1;omega,by simpa using h2,h3⟩
theorem zAm (s:ChShop) (b:ChBooks) (ex:List PV) (ls:List ChLot) (t:ChBatch):B7 s { b with lots:=ls,batches:=b.batches++[t] } ex =
  [.dead,.dead,.row 23 [.agg ([.slice 3 ls.length 0 ls.length,.slice 4 (b.batches.length+1+ex.length) 0 (b.batches.length+1),.slice 5 b.tests.length 0 b.tests.length,.slice 6 b.boxes.length 0 b.boxes.length,.p (.int .i64 b.poured),.p (.int .i64 b.lost)]++s.cells.map .p)],
  .row 4 (ls.map zgd),.row 4 (b.batches.map zbq++[.p t.pv]++ex.map .p),.row 3 (b.tests.map zis),.row 2 (b.boxes.map zkK)]:=by
 simp only [B7,List.length_append,List.length_singleton,List.map_append,List.map_cons,List.map_nil,zbq]
theorem zf2 (l:List ChBatch) (ex:List PV):(l.map ChBatch.pv++ex).take l.length=l.map ChBatch.pv:=List.take_left' (by simp)
theorem zFi (s:ChShop) (b:ChBooks) (ls:List ChLot) (t:ChBatch):B7 s { b with lots:=ls,batches:=b.batches++[t] } [] =
  [.dead,.dead,.row 23 [.agg ([.slice 3 ls.length 0 ls.length,.slice 4 (b.batches.length+1) 0 (b.batches.length+1),.slice 5 b.tests.length 0 b.tests.length,.slice 6 b.boxes.length 0 b.boxes.length,.p (.int .i64 b.poured),.p (.int .i64 b.lost)]++s.cells.map .p)],
  .row 4 (ls.map zgd),.row 4 (b.batches.map zbq++[.p t.pv]),.row 3 (b.tests.map zis),.row 2 (b.boxes.map zkK)]:=by
 rw [zAm,List.map_nil,List.append_nil];rfl
def zCh:Hints:=zcy [(77,.low),(89,.app 82),(5000001,.app 6)]
theorem zHI:zaf zCh Tryz.f105=true:=by kernel_rfl
set_option maxHeartbeats 1000000 in
theorem zF8 (s:ChShop) (b:ChBooks) (ex:List PV) (n:Nat) (hs:SOk s) (hb:BkOk s b n) (name colour lot:List UInt8) (grams:Int):zap Tryz.prog 105 [.ptr 2 1 0 0,.p (.str (bs name)),.p (.str (bs colour)),.p (.str (bs lot)),.p (.int .i64 grams)] (B7 s b ex) (zfz s b ex (act s b (.batch name colour lot grams))):=by
 have hl:=hb.batches
 have hll:=hb.lots
 refine za4 zad (fn:=Tryz.f105) (n:=93) (rs:=[.tmp 10]) (by kernel_rfl) rfl rfl rfl zHI (Nat.le_of_ble_eq_true rfl) ?_
 simp only [ChShop.cells,go_sem,simprocAttr]
 refine zaO (zp2 (fv:=.func (.func 206) [] [.ptr 1 [.str (bs name)] 0 0]) b.batches (fun y=>y.name==bs name) false 4 rfl (by omega) fun y _=>⟨_,_,_,rfl,zxV (bs name) y⟩) ?_ (.bool _) ?_
 ·simp only [go_sem,simprocAttr]
  rw [zf2]
 simp only [go_sem,simprocAttr]
 refine zak (fun h1=>?_) (fun h1=>?_)
 rotate_left
 ·have h1':(b.batches.any fun y=>y.name==bs name)=true:=by simpa using h1
  simp only [go_sem,simprocAttr]
  exact zbJ (e:=5) (by simp only [act,if_pos h1']) [_] rfl
 have h1':¬ (b.batches.any fun y=>y.name==bs name)=true:=by
  intro h;rw [h] at h1;cases h1
 simp only [ChShop.cells,go_sem,simprocAttr]
 by_cases h2:zam (fun x:ClColour=>x.name==bs colour) s.colour.colours 0<0
 ·refine zj7 (zFG s.colour.colours (bs colour) false hs.colours h2) rfl (zhb _) ?_
  simp only [go_sem,simprocAttr]
  exact zbJ (e:=4) (by simp only [act,if_neg h1',if_pos h2]) [_] rfl
 refine zab (zGJ s.colour.colours (bs colour) false hs.colours (by omega)) rfl ?_
 simp only [ChShop.cells,go_sem,simprocAttr]
 rcases zkn (fun x:ChLot=>x.name==bs lot) b.lots 0 with h3 | ⟨j,x,hj,hx,_⟩
 ·refine zj7 (zFE b.lots (bs lot) false (by omega) h3) ?_ (zhb _) ?_
  ·simp only [go_sem,simprocAttr]
  simp only [go_sem,simprocAttr]
  exact zbJ (e:=4) (by simp only [act,if_neg h1',if_neg h2,if_pos h3]) [_] rfl
 rw [Nat.zero_add] at hj
 have hjl:j<b.lots.length:=(List.getElem?_eq_some_iff.1 hx).1
 have hjB:(j:Int)<(b.lots.length:Int):=by omega
 have h3:¬ zam (fun x:ChLot=>x.name==bs lot) b.lots 0<0:=by rw [hj];omega
 have h3j:¬ (j:Int)<0:=by omega
 have hfd:=zGI b.lots (bs lot) false (by omega) (by omega)
 rw [hj] at hfd
 refine zaO hfd ?_ (.int _ _) ?_
 ·simp only [go_sem,simprocAttr]
 by_cases h4:1≤grams∧grams≤100000
 rotate_left
 ·have ha:act s b (.batch name colour lot grams)=.error 7:=by simp only [act,if_neg h1',if_neg h2,if_neg h3,if_pos h4]
  by_cases hg:1≤grams
  ·have hg2:decide (grams≤100000)=false:=by simpa using fun h=>h4 ⟨hg,h⟩
   have hg1:decide (1≤grams)=true:=by simpa using hg
   simp only [hg1,hg2,go_sem,simprocAttr]
   refine zak (fun h=>by cases h) (fun _=>?_)
   simp only [go_sem,simprocAttr]
   exact zbJ (e:=7) ha [_] rfl
  ·have hg1:decide (1≤grams)=false:=by simpa using hg
   simp only [hg1,go_sem,simprocAttr]
   refine zak (fun h=>by cases h) (fun _=>?_)
   simp only [go_sem,simprocAttr]
   exact zbJ (e:=7) ha [_] rfl
 have h4n:¬ ¬ (1≤grams∧grams≤100000):=fun h=>h h4
 have hA:zgd x=.p x.pv:=rfl
 simp only [h4.1,h4.2,go_sem,simprocAttr]
 refine zak (fun _=>?_) (fun h=>by cases h)
 simp only [ChShop.cells,hjB,hx,hA,go_sem,simprocAttr]
 refine zak (fun h5=>?_) (fun h5=>?_)
 rotate_left
 ·have h5':¬ grams≤x.grams:=by simpa using h5
  simp only [go_sem,simprocAttr]
  exact zbJ (e:=9) (by simp only [act,if_neg h1',if_neg h2,if_neg h3,if_neg h4n,hj,if_neg h3j,Int.toNat_natCast,hx,if_pos h5']) [_] rfl
 have h5':grams≤x.grams:=by simpa using h5
 have h5n:¬ ¬ grams≤x.grams:=fun h=>h h5'
 simp only [go_sem,simprocAttr]
 refine zak (fun h6=>?_) (fun h6=>?_)
 rotate_left
 ·have h6':¬ b.batches.length<7:=by simp at h6;omega
  simp only [go_sem,simprocAttr]
  exact zbJ (e:=3) (by simp only [act,if_neg h1',if_neg h2,if_neg h3,if_neg h4n,hj,if_neg h3j,Int.toNat_natCast,hx,if_neg h5n,if_pos h6']) [_] rfl
 have h6':b.batches.length<7:=by simp at h6;omega
 have h6n:¬ ¬ b.batches.length<7:=fun h=>h h6'
 have hg:=hb.grams x (List.mem_of_getElem? hx)
 have hw:IntKind.i64.wrap (x.grams-grams)=x.grams-grams:=zaj (by omega) (by have:=hb.few;omega)
 have hact:act s b (.batch name colour lot grams)=.ok ({ b with lots:=b.lots.set j { x with grams:=x.grams-grams },batches:=b.batches++[⟨bs name,zam (fun x:ClColour=>x.name==bs colour) s.colour.colours 0,(j:Int),grams⟩] },wOk):=by
  simp only [act,if_neg h1',if_neg h2,if_neg h3,if_neg h4n,hj,if_neg h3j,Int.toNat_natCast,hx,if_neg h5n,if_neg h6n]
 have hrm:b.batches.length+1≤zar:=by simp only [zar];omega
 have hset:(b.lots.map zgd).set j (.p (.agg [.str x.name,.int .i64 x.kind,.int .i64 (x.grams-grams),.slice 1 (x.readings.map zay) false]))=(b.lots.set j { x with grams:=x.grams-grams }).map zgd:=by rw [List.map_set];rfl
 have hsl:(b.lots.set j { x with grams:=x.grams-grams }).length=b.lots.length:=List.length_set
 simp only [ChShop.cells,hjB,hx,hA,hw,hset,go_sem,simprocAttr]
 cases ex with
 |nil =>
  simp only [zCh,zal,List.map_nil,List.append_nil,List.length_nil,Nat.add_zero,hrm,go_sem,simprocAttr]
  refine And.intro (.inr ⟨4,_,rfl,rfl⟩) ?_
  refine zdX (ex':=[]) hact [.row 1 [.p (.str (bs name))]] ?_
  rw [zFi,hsl];rfl
 |cons e ex =>
  have hc1:(b.batches.map zbq++AV.p e::ex.map AV.p).length=b.batches.length+(ex.length+1):=by simp
  have hc2:(b.batches.length=b.batches.length+(ex.length+1))=False:=eq_false (by omega)
  have hc3:(b.batches.map zbq++AV.p e::ex.map AV.p).take b.batches.length=b.batches.map zbq:=List.take_left' (by simp)
  have hc4:(b.batches.map zbq++AV.p e::ex.map AV.p).drop (b.batches.length+1)=ex.map AV.p:=by
   rw [List.drop_append]
   simp
  have hc5:b.batches.length+1≤b.batches.length+(ex.length+1):=by omega
  simp only [zCh,zal,List.length_cons,hrm,hc1,hc2,hc3,hc4,hc5,go_sem,simprocAttr]
  refine And.intro (.inr ⟨4,_,rfl,rfl⟩) ?_
  refine zdX (ex':=ex) hact [.row 1 [.p (.str (bs name))]] ?_
  rw [zAm,hsl,show b.batches.length+1+ex.length=b.batches.length+(ex.length+1) by omega];rfl
end Ch
end Abs
end Go.Proofs.YtahlnclapingiaaGreatDoor
namespace Go.Proofs.YtahlnclapingiaaGreatDoor
namespace Abs
namespace Ch
set_option maxRecDepth 4000
def ziA:PV:=.agg [.str .empty,.int .i64 0,.int .i64 0,.int .i64 0]
theorem zDJ (l:List ChBatch) (ex:List PV) (i id:Nat) (h:Heap) (hid:h[id]?=some (.row 4 (l.map zbq++ex.map .p))) (hi:i<l.length) (hlen:l.length≤7) :
  zap Tryz.prog 213 [.slice id (l.length+ex.length) 0 l.length,.p (.int .i64 i),.p (.int .i64 (i+1:Nat))] h
   (fun r h'=>r=.ret (.slice id (l.length+ex.length) 0 (l.length-1))∧h'=h.set id (.row 4 ((l.eraseIdx i).map zbq++.p ziA::ex.map .p))):=by
 refine zan zad (fn:=Tryz.f213) (n:=33) (rs:=[.tmp 6]) (by kernel_rfl) rfl rfl rfl zJE (Nat.le_of_ble_eq_true rfl) ?_
 have h1:(i:Int)≤((i+1:Nat):Int):=by omega
 have h2:((i+1:Nat):Int)≤(l.length:Int):=by omega
 have h2e:((i+1:Nat):Int)≤((l.length+ex.length:Nat):Int):=by omega
 have h3:((i:Int)==((i+1:Nat):Int))=false:=by simp;omega
 have h0:(0:Int)≤(i:Int):=by omega
 have h4:(0:Int)+(l.length:Int)≤((l.length+ex.length:Nat):Int):=by omega
 have h4b:(l.length:Int)≤((l.length+ex.length:Nat):Int):=by omega
 have h5:(i:Int)≤(l.length:Int):=by omega
 have h5e:(i:Int)≤((l.length+ex.length:Nat):Int):=by omega
 have h6:i+1+(l.length-(i+1))≤l.length+ex.length:=by omega
 have h7:¬ (i=l.length+ex.length):=by omega
 have hys:List.take (l.length-(i+1)) (List.drop (i+1) (l.map zbq++ex.map .p))=(l.drop (i+1)).map zbq:=by
  rw [List.drop_append_of_le_length (by rw [List.length_map];omega),←List.map_drop,List.take_left' (by simp)]
 have h8:i+(l.length-(i+1))=l.length-1:=by omega
 have h9:l.length-1≤l.length+ex.length:=by omega
 obtain ⟨z,hz⟩:∃ z,List.drop (l.length-1) (l.map zbq++ex.map .p)=z::ex.map AV.p:=by
  have:(List.drop (l.length-1) (l.map zbq)).length=1:=by simp;omega
  match hd:List.drop (l.length-1) (l.map zbq),this with
  |[z],_ =>
   refine ⟨z,?_⟩
   rw [List.drop_append_of_le_length (by rw [List.length_map];omega),hd];rfl
 have htk0:List.take i (l.map zbq++ex.map AV.p)=(l.take i).map zbq:=by rw [List.take_append_of_le_length (by rw [List.length_map];omega),List.map_take]
 have her:(l.take i).map zbq++((l.drop (i+1)).map zbq++z::ex.map AV.p)=(l.eraseIdx i).map zbq++z::ex.map AV.p:=by
  rw [←List.append_assoc,←List.map_append,List.eraseIdx_eq_take_drop_succ]
 have hel:(l.eraseIdx i).length=l.length-1:=by rw [List.length_eraseIdx,if_pos hi]
 have hgs:∀ x,(h.set id x)[id]?=some x:=fun x=>by rw [List.getElem?_set_self (List.getElem?_eq_some_iff.1 hid).1]
 have h10:((l.length-1:Nat):Int)≤(l.length:Int):=by omega
 have h10e:((l.length-1:Nat):Int)≤((l.length+ex.length:Nat):Int):=by omega
 have h11:(0:Int)≤((l.length-1:Nat):Int):=by omega
 have h12:l.length-1+1=l.length:=by omega
 have h13:l.length-(l.length-1)=1:=by omega
 have h14:l.length-1+(l.length-(l.length-1))≤l.length+ex.length:=by omega
 have h15:¬ ((l.length:Int)≤((l.length-1:Nat):Int)):=by omega
 have h16:l.length≤l.length+ex.length:=by omega
 have hle2:((l.eraseIdx i).map zbq++z::ex.map AV.p).length=l.length+ex.length:=by simp [hel];omega
 have hle3:(l.length-1+(ex.length+1))=l.length+ex.length:=by omega
 have htk:List.take (l.length-1) (List.map zbq (l.eraseIdx i)++z::ex.map AV.p)=List.map zbq (l.eraseIdx i):=List.take_left' (by rw [List.length_map,hel])
 have hdr:List.drop l.length (List.map zbq (l.eraseIdx i)++z::ex.map AV.p)=ex.map AV.p:=by
  rw [List.drop_append,List.drop_of_length_le (by rw [List.length_map,hel];omega),List.length_map,hel,h13];rfl
 simp only [h15,htk,hdr,hid,h0,h1,h2,h2e,h3,h4,h4b,h5,h5e,h6,h7,hys,h8,h9,hz,htk0,her,hel,hgs,h10,h10e,h11,h12,h13,h14,h16,hle2,zwJ,Nat.sub_zero,Nat.zero_add,List.length_drop,List.append_assoc,List.set_set,Nat.le_refl,List.replicate_succ,List.replicate_zero,ziA,go_sem,simprocAttr]
 rfl
theorem zFh (s:ChShop) (b:ChBooks) (ex:List PV) (ls:List ChLot) (j:Nat) (hj:j<b.batches.length):B7 s { b with lots:=ls,batches:=b.batches.eraseIdx j } (ziA::ex) =
  [.dead,.dead,.row 23 [.agg ([.slice 3 ls.length 0 ls.length,.slice 4 (b.batches.length+ex.length) 0 (b.batches.length-1),.slice 5 b.tests.length 0 b.tests.length,.slice 6 b.boxes.length 0 b.boxes.length,.p (.int .i64 b.poured),.p (.int .i64 b.lost)]++s.cells.map .p)],
  .row 4 (ls.map zgd),.row 4 ((b.batches.eraseIdx j).map zbq++.p ziA::ex.map .p),.row 3 (b.tests.map zis),.row 2 (b.boxes.map zkK)]:=by
 have h1:(b.batches.eraseIdx j).length=b.batches.length-1:=by rw [List.length_eraseIdx,if_pos hj]
 have h2:b.batches.length-1+(ex.length+1)=b.batches.length+ex.length:=by omega
 simp only [B7,h1,List.length_cons,h2,List.map_cons]
set_option maxHeartbeats 1000000 in
theorem zKQ (s:ChShop) (b:ChBooks) (ex:List PV) (n:Nat) (hs:SOk s) (hb:BkOk s b n) (name:List UInt8):zap Tryz.prog 107 [.ptr 2 1 0 0,.p (.str (bs name))] (B7 s b ex) (zfz s b ex (act s b (.drop name))):=by
 have hl:=hb.batches
 have hll:=hb.lots
 refine za4 zad (fn:=Tryz.f107) (n:=55) (rs:=[.tmp 4]) (by kernel_rfl) rfl rfl rfl zKz (Nat.le_of_ble_eq_true rfl) ?_
 simp only [ChShop.cells,go_sem,simprocAttr]
 rcases zkn (fun x:ChBatch=>x.name==bs name) b.batches 0 with h3 | ⟨j,y,hj,hy,_⟩
 ·refine zj7 (zFD b.batches (bs name) false (by omega) h3) ?_ (zhb _) ?_
  ·simp only [go_sem,simprocAttr]
   rw [zf2]
  simp only [go_sem,simprocAttr]
  exact zbJ (e:=4) (by simp only [act,if_pos h3]) [] (List.append_nil _).symm
 rw [Nat.zero_add] at hj
 have hjl:j<b.batches.length:=(List.getElem?_eq_some_iff.1 hy).1
 have hjB:(j:Int)<(b.batches.length:Int):=by omega
 have hnj:¬ (j:Int)<0:=by omega
 have hfd:=zGH b.batches (bs name) false (by omega) (by omega)
 rw [hj] at hfd
 refine zaO hfd ?_ (.int _ _) ?_
 ·simp only [go_sem,simprocAttr]
  rw [zf2]
 have hy':=zni hy ex
 obtain ⟨⟨g1,g2⟩,⟨g3,g4⟩,_⟩:=hb.waits y (List.mem_of_getElem? hy)
 obtain ⟨k,hk⟩:=Int.eq_ofNat_of_zero_le g3
 have hkl:k<b.lots.length:=by omega
 obtain ⟨x,hx⟩:∃ x,b.lots[k]?=some x:=⟨_,List.getElem?_eq_getElem hkl⟩
 have hkB:(k:Int)<(b.lots.length:Int):=by omega
 have hA:zgd x=.p x.pv:=rfl
 have hg:=hb.grams x (List.mem_of_getElem? hx)
 have hw:IntKind.i64.wrap (x.grams+y.grams)=x.grams+y.grams:=zaj (by omega) (by have:=hb.few;omega)
 have hw2:IntKind.i64.wrap ((j:Int)+1)=((j+1:Nat):Int):=by rw [zaj (by omega) (by omega)];rfl
 have hset:(b.lots.map zgd).set k (.p (.agg [.str x.name,.int .i64 x.kind,.int .i64 (x.grams+y.grams),.slice 1 (x.readings.map zay) false]))=(b.lots.set k { x with grams:=x.grams+y.grams }).map zgd:=by rw [List.map_set];rfl
 have hsl:(b.lots.set k { x with grams:=x.grams+y.grams }).length=b.lots.length:=List.length_set
 have hact:act s b (.drop name)=.ok ({ b with lots:=b.lots.set k { x with grams:=x.grams+y.grams },batches:=b.batches.eraseIdx j },wOk):=by
  simp only [act,hj,if_neg hnj,Int.toNat_natCast,hy,hk,hx]
 simp only [ChShop.cells,hjB,hy',hk,hkB,hx,hA,hw,hset,hw2,go_sem,simprocAttr]
 refine zbk (zDJ b.batches ex j 4 _ rfl hjl hl) ?_
 simp only [ChShop.cells,go_sem,simprocAttr]
 refine zdX (ex':=ziA::ex) hact [] ?_
 rw [zFh _ _ _ _ _ hjl,hsl];rfl
end Ch
end Abs
end Go.Proofs.YtahlnclapingiaaGreatDoor
