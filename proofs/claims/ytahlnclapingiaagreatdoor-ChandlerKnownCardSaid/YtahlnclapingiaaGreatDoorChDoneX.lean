/-
  CONTRACTS: chandler: done. No conditions but those in the theorems' heads.
  WHAT STAYS TRUE OF THE BOOKS, line by line; plain Lean. No conditions but those in the the
  THE ERRORS OF LINES; plain Lean. No conditions but those in the theorems' heads.
  CONTRACTS: chandler.Check and its reference. No conditions but those in the theorems' head
  CONTRACTS: chandler: open, work. No conditions but those in the theorems' heads.
-/
import Derived.Test.YtahlnclapingiaaGreatDoorChRd3
import Derived.Test.YtahlnclapingiaaGreatDoorHrLaw0X
import Derived.Test.YtahlnclapingiaaGreatDoorChBk4X
set_option linter.unusedSimpArgs false
set_option linter.unusedVariables false
namespace Go.Proofs.YtahlnclapingiaaGreatDoor
namespace Abs
namespace Ch
set_option maxRecDepth 4000
def zh0 (s:ChShop) (b:ChBooks) (ex:List PV) (q:Except Int (ChBooks×List UInt8×Bool)) (r:AEnd) (h':Heap):Prop :=
 match q with
 |.error e=>r=.ret (.p (.tuple [.str .empty,.bool false,.int .i64 e]))∧h'=B7 s b ex
 |.ok (b',a,w)=>r=.ret (.p (.tuple [.str (bs a),.bool w,.int .i64 0]))∧((∃ ex',h'=B7 s b' ex')∨(b'.batches=[]∧∃ l x,h'=B7n s b' l x))
theorem ztW {e:Int} {a0 a1 a2 a3 a4 a5 a6:AObj} {t:Heap}:zfA Tryz.prog 53 [.ptr 7 1 0 0,.ptr 8 1 0 0,.ptr 9 1 0 0] (.pan (zdq e)) (a0::a1::a2::a3::a4::a5::a6::.row 1 [.p (.str .empty)]::.row 1 [.p (.bool false)]::.row 1 [.p (.int .i64 0)]::t)
  (fun r u h'=>r=.ret (.p (.tuple []))∧u=.recd (zdq e)∧h'=a0::a1::a2::a3::a4::a5::a6::.row 1 [.p (.str .empty)]::.row 1 [.p (.bool false)]::.row 1 [.p (.int .i64 e)]::t):=by
 refine zdy zad (fn:=Tryz.f53) (n:=9) (rs:=[]) (by kernel_rfl) rfl rfl rfl zFP (Nat.le_of_ble_eq_true rfl) ?_
 simp only [H53,zal,zh5,zeI,List.append_nil,go_sem,simprocAttr]
 rfl
theorem dNo {i j k:Nat} {h:Heap}:zfA Tryz.prog 53 [.ptr i 1 0 0,.ptr j 1 0 0,.ptr k 1 0 0] .ret h (fun r u h'=>r=.ret (.p (.tuple []))∧u=.ret∧h'=h):=by
 refine zdy zad (fn:=Tryz.f53) (n:=9) (rs:=[]) (by kernel_rfl) rfl rfl rfl zFP (Nat.le_of_ble_eq_true rfl) ?_
 simp only [zh5,zeI,go_sem,simprocAttr]
def zjs:Hints:=zcy [(12,.low),(13,.low),(14,.cal),(15,.low),(16,.low),(1004014,.sto),(5000000,.slot 2 4),(5000001,.app 7),(6000004,.nop),(6000005,.nop),(6000006,.nop)]
theorem zFL:zaf zjs Tryz.f31=true:=by kernel_rfl
theorem zET {P:Program} {Q:Cont} {A:AAct} (i:Nat) (o0 o1 o2 o3 o4 o5 o6 o7:Oper):@W ⟨P,zjs,.region i ⟨[o0,o1,o2,o3,o4,o5,o6,o7]⟩ true,Q⟩ A=@WD ⟨P,zjs,⟨[o0,o1,o2,o3,o4,o5,o6,o7]⟩,[o0,o1,o3,o4,o2,o5,o6,o7],Q⟩ (zhT zjs [o0,o1,o2,o3,o4,o5,o6,o7] A) (zjl zjs [o0,o1,o2,o3,o4,o5,o6,o7] A):=by
 rw [zwM];rfl
theorem zA5 (h:Heap) (x:AObj):zdm h.length (h++[x])=h.map (fun _=>.dead)++[x]:=by
 unfold zdm
 apply List.ext_getElem?
 intro i
 rw [List.getElem?_mapIdx]
 rcases Nat.lt_trichotomy i h.length with hi | hi | hi
 ·rw [List.getElem?_append_left hi,List.getElem?_append_left (by simpa using hi),List.getElem?_map]
  cases h[i]? with
  |none=>rfl
  |some o=>simp [Nat.ne_of_lt hi]
 ·subst hi
  rw [List.getElem?_append_right (Nat.le_refl _),List.getElem?_append_right (by simp)]
  simp
 ·rw [List.getElem?_eq_none (by simp;omega),List.getElem?_eq_none (by simp;omega)];rfl
theorem zsC {t:Heap} (h:t.take 3=D3):t=D3++t.drop 3:=by rw [←h,List.take_append_drop]
theorem zpv {rs:List ResultVar} {R:AEnd→Heap→Prop} {T:Nat→AV} {e:Int} {a0 a1 a2 a3 a4 a5 a6:AObj} {t:Heap} (k:zbd Tryz.prog rs R T [] .ret (a0::a1::a2::a3::a4::a5::a6::.row 1 [.p (.str .empty)]::.row 1 [.p (.bool false)]::.row 1 [.p (.int .i64 e)]::t)) :
  zbd Tryz.prog rs R T [.fn 53 [.ptr 7 1 0 0,.ptr 8 1 0 0,.ptr 9 1 0 0]] (.pan (zdq e)) (a0::a1::a2::a3::a4::a5::a6::.row 1 [.p (.str .empty)]::.row 1 [.p (.bool false)]::.row 1 [.p (.int .i64 0)]::t):=by
 rw [zfr]
 refine ztW.mono fun r u h' hr=>?_
 obtain ⟨rfl,rfl,rfl⟩:=hr
 exact k
theorem zrv {rs:List ResultVar} {R:AEnd→Heap→Prop} {T:Nat→AV} {i j k:Nat} {h:Heap} (hk:zbd Tryz.prog rs R T [] .ret h):zbd Tryz.prog rs R T [.fn 53 [.ptr i 1 0 0,.ptr j 1 0 0,.ptr k 1 0 0]] .ret h:=by
 rw [zfr]
 refine dNo.mono fun r u h' hr=>?_
 obtain ⟨rfl,rfl,rfl⟩:=hr
 exact hk
theorem zCe {P:Program} {H:Hints} {ops:Array Oper} {rest:List Oper} {Q:Cont} {o:Oper} {hs:Heap} {A:AAct} {f:FuncId} {args:List AV} {R:AEnd→Heap→Prop} (hc:zap P f args A.h R)
  (h1:∀ v h',R (.ret v) h'→zbn hs h'∧@WD ⟨P,H,ops,rest,Q⟩ hs (A.put o.dst v h')) (h2:∀ v h',R (.panic v) h'→∀ T,kept H T A.tmps→@WQ ⟨Q⟩ (.panic v) { A with tmps:=T,h:=h' }):@WDL ⟨P,H,ops,rest,Q,o⟩ hs A (.call f args):=by
 refine hc.mono fun r h' hr=>?_
 cases r with
 |ret v=>exact h1 v h' hr
 |panic v=>exact h2 v h' hr
theorem zDf {h h':Heap} (x:AObj) (hl:h'.length=h.length):zbn (h.map (fun _=>AObj.dead)++[x]) (h'++[x]):=by
 intro id o ho hd
 rcases Nat.lt_or_ge id h.length with hi | hi
 ·rw [List.getElem?_append_left (by simpa using hi),List.getElem?_map] at ho
  cases hh:h[id]? with
  |none=>rw [hh] at ho;cases ho
  |some y=>rw [hh] at ho;cases ho;cases hd
 ·rw [List.getElem?_append_right (by simpa using hi)] at ho
  rw [List.getElem?_append_right (by omega),hl]
  simpa using ho
set_option maxHeartbeats 2000000 in
theorem zCJ (s:ChShop) (b:ChBooks) (ex:List PV) (n:Nat) (hs:SOk s) (hb:BkOk s b n) (line:List UInt8):zap Tryz.prog 31 [.ptr 2 1 0 0,.p (.str (bs line))] (B7 s b ex) (zh0 s b ex (zeQ s b line)):=by
 refine za4 zad (fn:=Tryz.f31) (n:=17) (rs:=[.cell 4 9,.cell 5 4,.cell 6 43]) (by kernel_rfl) rfl rfl rfl zFL (Nat.le_of_ble_eq_true rfl) ?_
 simp only [go_sem,simprocAttr]
 refine zbf (zKL s b ex n hs hb line) (fun v h hr=>?_) (fun v h hr=>?_)
 rotate_left
 ·unfold zme at hr
  cases hq:say line with
  |ok c=>rw [hq] at hr;obtain ⟨_,_,_,_,_,hr,_⟩:=hr;cases hr
  |error e =>
   rw [hq] at hr
   obtain ⟨hr,t,h3,rfl⟩:=hr
   cases hr
   have hd:zeQ s b line=.error e:=by rw [zeQ,hq]
   rw [zsC h3]
   unfold H7
   simp only [go_sem,simprocAttr]
   refine zpv ?_
   simp only [go_sem,simprocAttr]
   exact ⟨B7 s b ex,_,rfl,rfl,zcU s b ex,trivial,by unfold zh0;rw [hd];exact ⟨rfl,rfl⟩⟩
 unfold zme at hr
 cases hq:say line with
 |error e=>rw [hq] at hr;cases hr.1
 |ok c =>
  rw [hq] at hr
  obtain ⟨F,first,caps,t,h3',hv,hh,hbo,hba,hc⟩:=hr
  cases hv
  have gg:=zj4 (lo:=h) rfl
  have g0:=ziU (lo:=h) rfl
  have ss:=zj3 (lo:=h) rfl
  have s0:∀ t x,(h++t).set h.length x=h++t.set 0 x:=fun t x=>ss t 0 x
  simp only [zjs,gg,g0,ss,s0,go_sem,simprocAttr]
  have gd:∀ (u:Heap),(h.map (fun _=>AObj.dead)++u)[h.length]?=u[0]?:=fun u=>ziU (lo:=h.map fun _=>.dead) (by simp) u
  simp only [zET,go_sem,simprocAttr]
  simp only [zjs,gg,g0,ss,s0,zA5,List.append_nil,gd,go_sem,simprocAttr]
  have hlen:∀ r h',ze4 s b ex t (act s b c) r h'→h'.length=h.length:=fun r h' hp=>by
   obtain ⟨h1,t1,e1,p1,l1,_⟩:=hp
   rw [e1,hh,List.length_append,zuL p1,l1]
   unfold H7
   rw [List.length_append];rfl
  have hd7:∀ u:Heap,(h.map (fun _=>AObj.dead)++u)[7]?=some .dead:=fun u=>by
   have hl:7<h.length:=by
    rw [hh];unfold H7
    rw [zsC h3',List.length_append]
    show 7<7+_
    simp [D3]
   rw [List.getElem?_append_left (by simpa using hl),List.getElem?_map,List.getElem?_eq_getElem hl];rfl
  have hfr:=zd4 hbo hba (hc.mono fun r h' hp=>⟨hlen r h' hp,hp⟩) [AObj.row 2 [AV.agg [AV.p (PV.bool c.written),AV.func (Fn.func F) first caps]]]
  refine zCe hfr (fun v h2 hr=>?_) (fun v h2 hr T hT=>?_)
  ·obtain ⟨h3,rfl,hl3,hp⟩:=hr
   refine ⟨zDf _ hl3,?_⟩
   obtain ⟨h1,t1,rfl,p1,l1,k1⟩:=hp
   rw [h3'] at k1
   rw [zsC k1]
   cases ha:act s b c with
   |error e=>rw [ha] at p1;cases p1.1
   |ok q =>
    obtain ⟨b',a⟩:=q
    rw [ha] at p1
    obtain ⟨hv,hx⟩:=p1
    cases hv
    have hd:zeQ s b line=.ok (b',a,c.written):=by unfold zeQ;rw [hq];dsimp only;rw [ha]
    rcases hx with ⟨ex',rfl⟩ | ⟨h0,l,x,rfl⟩
    ·simp only [zjs,hd7,go_sem,simprocAttr]
     refine zrv ?_
     simp only [go_sem,simprocAttr]
     exact ⟨B7 s b' ex',_,rfl,rfl,zcU s b' ex',trivial,by unfold zh0;rw [hd];exact ⟨rfl,.inl ⟨_,rfl⟩⟩⟩
    ·simp only [zjs,hd7,go_sem,simprocAttr]
     refine zrv ?_
     simp only [go_sem,simprocAttr]
     exact ⟨B7n s b' l x,_,rfl,rfl,zr3 s b' l x,trivial,by unfold zh0;rw [hd];exact ⟨rfl,.inr ⟨h0,_,_,rfl⟩⟩⟩
  ·obtain ⟨h3,rfl,hl3,hp⟩:=hr
   obtain ⟨h1,t1,rfl,p1,l1,k1⟩:=hp
   rw [h3'] at k1
   rw [zsC k1]
   cases ha:act s b c with
   |ok q=>rw [ha] at p1;cases p1.1
   |error e =>
    rw [ha] at p1
    obtain ⟨hv,rfl⟩:=p1
    cases hv
    have hd:zeQ s b line=.error e:=by unfold zeQ;rw [hq];dsimp only;rw [ha]
    have hT4:=hT 4 rfl
    have hT5:=hT 5 rfl
    have hT6:=hT 6 rfl
    simp only [go_sem,simprocAttr] at hT4 hT5 hT6
    simp only [go_sem,simprocAttr]
    refine zpv ?_
    simp only [hT4,hT5,hT6,go_sem,simprocAttr]
    exact ⟨B7 s b ex,_,rfl,rfl,zcU s b ex,trivial,by unfold zh0;rw [hd];exact ⟨rfl,rfl⟩⟩
end Ch
end Abs
end Go.Proofs.YtahlnclapingiaaGreatDoor
namespace Go.Proofs.YtahlnclapingiaaGreatDoor
namespace Abs
namespace Ch
def zyn:Cmd→Prop
 |.lot name _ _ _=>name.length≤20
 |.batch name _ _ _=>name.length≤20
 |_=>True
theorem zrr {w v:List UInt8} (h:zbF w=some v):v.length≤20:=by
 unfold zbF at h
 split at h
 ·rename_i hn
  cases h
  unfold nameOk at hn
  rw [Bool.and_eq_true,decide_eq_true_eq,zao] at hn
  omega
 ·cases h
theorem zDj {v:List UInt8} {ws:List (List UInt8)} {c:Cmd} (h:zdg v ws=some c):zyn c:=by
 unfold zdg at h
 split at h
 ·split at h
  ·split at h
   ·rename_i h1 _ _ _
    cases h
    exact zrr h1
   ·cases h
  ·cases h
 split at h
 ·split at h
  ·split at h
   ·rename_i h1 _ _ _
    cases h
    exact zrr h1
   ·cases h
  ·cases h
 split at h
 ·split at h
  ·simp only [Option.map_eq_some_iff] at h;obtain ⟨_,_,rfl⟩:=h;trivial
  ·cases h
 split at h
 ·split at h
  ·simp only [Option.map_eq_some_iff] at h;obtain ⟨_,_,rfl⟩:=h;trivial
  ·cases h
 split at h
 ·split at h
  ·simp only [Option.map_eq_some_iff] at h;obtain ⟨_,_,rfl⟩:=h;trivial
  ·cases h
 split at h
 ·split at h
  ·simp only [Option.map_eq_some_iff] at h;obtain ⟨_,_,rfl⟩:=h;trivial
  ·cases h
 split at h
 ·split at h
  ·split at h
   ·cases h;trivial
   ·cases h
  ·cases h
 split at h
 ·split at h
  ·cases h;trivial
  ·cases h
 split at h
 ·split at h
  ·split at h
   ·cases h;trivial
   ·cases h
  ·cases h
 split at h
 ·split at h
  ·split at h
   ·cases h;trivial
   ·cases h
  ·cases h
 split at h
 ·split at h
  ·cases h;trivial
  ·cases h
 ·cases h
theorem zFv {l:List UInt8} {c:Cmd} (h:say l=.ok c):zyn c:=by
 unfold say at h
 split at h
 ·cases h
 ·split at h
  ·cases h;trivial
  ·split at h
   ·cases h
   ·split at h
    ·rename_i h1
     cases h
     exact zDj h1
    ·cases h
theorem zzY (l:List UInt8):(bs l).size=l.length:=zao l
theorem BkOk.mono {s:ChShop} {b:ChBooks} {n m:Nat} (h:BkOk s b n) (hm:n≤m) (hf:m≤40):BkOk s b m :=
 {h with
  grams:=fun x hx=>by have:=h.grams x hx;exact ⟨this.1,by omega⟩
  poured:=by have:=h.poured;exact ⟨this.1,by omega⟩
  lost:=by have:=h.lost;exact ⟨this.1,by omega⟩
  few:=hf }
theorem zkS {α:Type} {l:List α} {i:Nat} {a x:α} (h:x∈l.set i a):x∈l∨x=a:=List.mem_or_eq_of_mem_set h
theorem zGY {s:ChShop} {b b':ChBooks} {n:Nat} {c:Cmd} {a:List UInt8} (hs:SOk s) (hb:BkOk s b n) (hf:n+1≤40) (hc:zyn c) (h:act s b c=.ok (b',a)):BkOk s b' (n+1):=by
 have hm:=hb.mono (Nat.le_succ n) hf
 cases c with
 |lot name kind grams rs =>
  simp only [act] at h
  split at h
  ·cases h
  split at h
  ·cases h
  split at h
  ·cases h
  rename_i hg
  split at h
  ·cases h
  split at h
  ·cases h
  rename_i hl
  have hg':1≤grams∧grams≤100000:=Classical.byContradiction hg
  have hl':b.lots.length<8:=Classical.byContradiction hl
  cases h
  refine { hm with lots:=?_,grams:=?_,names:=?_,waits:=?_ }
  ·simp;omega
  ·intro x hx
   rcases List.mem_append.1 hx with hx | hx
   ·exact hm.grams x hx
   ·rw [List.mem_singleton.1 hx];dsimp only;omega
  ·intro x hx
   rcases List.mem_append.1 hx with hx | hx
   ·exact hm.names x hx
   ·rw [List.mem_singleton.1 hx];dsimp only;rw [zzY];exact hc
  ·intro x hx
   have:=hm.waits x hx
   exact ⟨this.1,⟨this.2.1.1,by simp;omega⟩,this.2.2⟩
 |batch name colour lot grams =>
  simp only [act] at h
  split at h
  ·cases h
  split at h
  ·cases h
  split at h
  ·cases h
  rename_i hi
  split at h
  ·cases h
  rename_i hg
  split at h
  ·cases h
  rename_i x hx
  split at h
  ·cases h
  rename_i hx2
  split at h
  ·cases h
  rename_i hl
  have hg':1≤grams∧grams≤100000:=Classical.byContradiction hg
  have hl':b.batches.length<7:=Classical.byContradiction hl
  have hx':grams≤x.grams:=Classical.byContradiction hx2
  have hxg:=hm.grams x (List.mem_of_getElem? hx)
  have hil:=(List.getElem?_eq_some_iff.1 hx).1
  cases h
  refine { hm with lots:=?_,batches:=?_,grams:=?_,names:=?_,waits:=?_ }
  ·simp;exact hm.lots
  ·simp;omega
  ·intro y hy
   rcases zkS hy with hy | rfl
   ·exact hm.grams y hy
   ·dsimp only;omega
  ·intro y hy
   rcases zkS hy with hy | rfl
   ·exact hm.names y hy
   ·exact hm.names x (List.mem_of_getElem? hx)
  ·intro y hy
   rw [List.length_set]
   rcases List.mem_append.1 hy with hy | hy
   ·exact hm.waits y hy
   ·rw [List.mem_singleton.1 hy]
    dsimp only
    exact ⟨hg',⟨by omega,by omega⟩,by rw [zzY];exact hc⟩
 |drop name =>
  simp only [act] at h
  split at h
  ·cases h
  split at h
  ·cases h
  rename_i y hy
  split at h
  ·cases h
  rename_i x hx
  have hxg:=hb.grams x (List.mem_of_getElem? hx)
  have hyw:=hm.waits y (List.mem_of_getElem? hy)
  cases h
  refine { hm with lots:=?_,batches:=?_,grams:=?_,names:=?_,waits:=?_ }
  ·simp;exact hm.lots
  ·have:=hm.batches;rw [List.length_eraseIdx];split<;>omega
  ·intro z hz
   rcases zkS hz with hz | rfl
   ·exact hm.grams z hz
   ·dsimp only;omega
  ·intro z hz
   rcases zkS hz with hz | rfl
   ·exact hm.names z hz
   ·exact hm.names x (List.mem_of_getElem? hx)
  ·intro z hz
   rw [List.length_set]
   exact hm.waits z (List.mem_of_mem_eraseIdx hz)
 |plan c =>
  simp only [act] at h
  split at h
  ·cases h
  ·cases h;exact hm
 |pour c =>
  simp only [act] at h
  split at h
  ·cases h
  ·rename_i o m hq
   have hbf:=zma hs hb hq
   have hsum:=zi9 hb b.batches fun x hx=>hx
   have hp:=hb.poured
   have hl:=hb.lost
   have hbl:=hb.batches
   have e:zAv b.batches=ziW b.batches:=rfl
   cases h
   refine { hm with batches:=?_,waits:=?_,poured:=?_,lost:=?_ }
   ·exact Nat.zero_le _
   ·intro x hx;cases hx
   ·dsimp only;rw [e];omega
   ·dsimp only;omega
 |test text =>
  simp only [act] at h
  split at h
  ·cases h
  split at h
  ·cases h
  rename_i hl
  have hl':b.tests.length<8:=Classical.byContradiction hl
  cases h
  exact { hm with tests:=by simp;omega }
 |promise kind =>
  simp only [act] at h
  split at h
  ·cases h
  ·cases h;exact hm
 |box kind hours =>
  simp only [act] at h
  split at h
  ·cases h
  split at h
  ·cases h
  split at h
  ·cases h
  rename_i hl
  have hl':b.boxes.length<20:=Classical.byContradiction hl
  cases h
  exact { hm with boxes:=by simp;omega }
 |look=>simp only [act] at h;cases h;exact hm
 |wick kind a b c d =>
  simp only [act] at h
  split at h
  ·cases h
  split at h
  ·cases h
  split at h
  ·cases h
  split at h
  ·cases h
  ·cases h;exact hm
 |blend a b c =>
  simp only [act] at h
  split at h
  ·cases h
  ·cases h;exact hm
 |stock=>simp only [act] at h;cases h;exact hm
end Ch
end Abs
end Go.Proofs.YtahlnclapingiaaGreatDoor
namespace Go.Proofs.YtahlnclapingiaaGreatDoor
namespace Abs
namespace Ch
def InE (e:Int):Prop:=0≤e∧e≤12
theorem InE.ite {p:Prop} [Decidable p] {a b:Int} (h1:InE a) (h2:InE b):InE (if p then a else b):=by split<;>assumption
theorem zGm (s:Shop) (c:Candle):InE (Wk.zcz s c):=by
 unfold Wk.zcz
 repeat (first | apply InE.ite | exact ⟨by decide,by decide⟩)
theorem zGg {s:Shop} {c:Candle} {x:Wax} (h:Wk.shopErr s=0):InE (Wk.zch s c x).2:=by
 unfold Wk.zch
 split
 ·split<;>(unfold InE;dsimp only;decide)
 ·dsimp only
  unfold Wk.zdY
  rw [if_pos h]
  split
  ·exact zGm s c
  ·unfold InE;decide
theorem zGh (nk:Int) (t:HrTest):InE (za6 nk t):=by
 unfold za6
 repeat (first | apply InE.ite | exact ⟨by decide,by decide⟩)
theorem zqI (nk:Int):∀ l:List HrTest,InE (zby nk l)
 |[]=>by unfold InE zby;decide
 |t::r=>by
  rw [zby]
  split
  ·exact zqI nk r
  ·exact zGh nk t
theorem zGk {s:HrShop} {l:List HrTest} {k:Int} (h:(hrCheck s).2.2=0):InE (zcj s l k).2:=by
 have hl:InE (zaN s l k).2:=by
  unfold zaN
  split
  ·split
   ·unfold InE;decide
   ·split
    ·unfold InE;dsimp only;decide
    ·split<;>(unfold InE;dsimp only;decide)
  ·dsimp only
   unfold zbC
   rw [if_pos h]
   split
   ·unfold InE;decide
   ·exact zqI _ _
 unfold zcj
 split
 ·unfold InE;dsimp only;decide
 ·exact hl
theorem zGj {s:HrShop} {a:List UInt8} (h:(hrCheck s).2.2=0):InE (zaB s a).2:=by
 unfold zaB
 split
 ·split
  ·unfold InE;dsimp only;decide
  ·split
   ·unfold InE;dsimp only;decide
   ·split<;>(unfold InE;dsimp only;decide)
 ·dsimp only
  unfold zba
  rw [if_pos h]
  exact zqI _ _
theorem zDT (s:ClShop) (b:ClBatch):InE (Cl.zcq s b):=by
 unfold Cl.zcq
 repeat (first | apply InE.ite | exact ⟨by decide,by decide⟩)
theorem zrJ (s:ClShop):∀ l:List ClBatch,InE (Cl.zcP s l)
 |[]=>by unfold InE Cl.zcP;decide
 |b::r=>by
  rw [Cl.zcP]
  split
  ·exact zrJ s r
  ·exact zDT s b
theorem zGl {s:ClShop} {k:Int} {l:List ClBatch} (h:(Cl.clCheck s).2.2=0):InE (Cl.zb1 s k l):=by
 unfold Cl.zb1
 rw [if_pos h]
 split
 ·unfold Cl.zkT
  split
  ·exact zrJ s l
  ·unfold InE;decide
 ·unfold InE;decide
theorem zGi {t:WxTable} {rs:List Int} {k:Int} (h:(Wx.wxCheck t).2.2=0):InE (Wx.zaQ t rs k).2.2:=by
 unfold Wx.zaQ
 split
 ·split
  ·unfold Wx.zhf
   split
   ·unfold InE;dsimp only;decide
   ·split
    ·unfold InE;dsimp only;decide
    ·split<;>(unfold InE;dsimp only;decide)
  ·unfold InE;dsimp only;decide
 ·dsimp only
  unfold Wx.zct
  rw [if_pos h]
  split
  ·split<;>(unfold InE;decide)
  ·unfold InE;decide
theorem zDS {l:List BdWax} {w:BdWish} (h:bdE l=0):InE (za8 l w).2.2:=by
 unfold za8
 split
 ·split<;>(unfold InE;dsimp only;decide)
 ·dsimp only
  unfold zew
  rw [if_pos h]
  split
  ·unfold lvl
   repeat (first | apply InE.ite | exact ⟨by decide,by decide⟩)
  ·unfold InE;decide
theorem zkQ {e:Int} (h:InE e) (h0:e≠0):1≤e∧e≤12:=by unfold InE at h;omega
theorem zum {s:ChShop} {b:ChBooks} {c:List UInt8} {e:Int} (hs:SOk s) (h:zgC s b c=.error e):1≤e∧e≤12:=by
 unfold zgC at h
 dsimp only at h
 split at h
 ·cases h;decide
 ·split at h
  ·rename_i h0
   cases h
   exact zkQ (zGl hs.colour) h0
  ·split at h
   ·cases h;decide
   ·cases h
theorem zs6 {s:ChShop} {b:ChBooks} {k:List UInt8} {e:Int} (hs:SOk s) (h:zdl s b k=.error e):1≤e∧e≤12:=by
 unfold zdl at h
 dsimp only at h
 split at h
 ·cases h;decide
 ·split at h
  ·rename_i h0
   cases h
   exact zkQ (zGk hs.hour) h0
  ·cases h
theorem zEN {s:ChShop} {b:ChBooks} {c:Cmd} {e:Int} (hs:SOk s) (h:act s b c=.error e):1≤e∧e≤12:=by
 cases c with
 |lot name kind grams rs =>
  simp only [act] at h
  split at h
  ·cases h;decide
  split at h
  ·cases h;decide
  split at h
  ·cases h;decide
  split at h
  ·rename_i h0
   cases h
   exact zkQ (zGi hs.wax) h0
  split at h
  ·cases h;decide
  ·cases h
 |batch name colour lot grams =>
  simp only [act] at h
  split at h
  ·cases h;decide
  split at h
  ·cases h;decide
  split at h
  ·cases h;decide
  split at h
  ·cases h;decide
  split at h
  ·cases h;decide
  split at h
  ·cases h;decide
  split at h
  ·cases h;decide
  ·cases h
 |drop name =>
  simp only [act] at h
  split at h
  ·cases h;decide
  split at h
  ·cases h;decide
  split at h
  ·cases h;decide
  ·cases h
 |plan c =>
  simp only [act] at h
  split at h
  ·rename_i h0;cases h;exact zum hs h0
  ·cases h
 |pour c =>
  simp only [act] at h
  split at h
  ·rename_i h0;cases h;exact zum hs h0
  ·cases h
 |test text =>
  simp only [act] at h
  split at h
  ·rename_i h0;cases h;exact zkQ (zGj hs.hour) h0
  split at h
  ·cases h;decide
  ·cases h
 |promise kind =>
  simp only [act] at h
  split at h
  ·rename_i h0;cases h;exact zs6 hs h0
  ·cases h
 |box kind hours =>
  simp only [act] at h
  split at h
  ·rename_i h0;cases h;exact zs6 hs h0
  split at h
  ·cases h;decide
  split at h
  ·cases h;decide
  ·cases h
 |look=>simp only [act] at h;cases h
 |wick kind a b c d =>
  simp only [act] at h
  split at h
  ·cases h;decide
  split at h
  ·cases h;decide
  split at h
  ·rename_i h0;cases h;exact zkQ (zGg hs.wick) h0
  split at h
  ·cases h;decide
  ·cases h
 |blend a b c =>
  simp only [act] at h
  split at h
  ·rename_i h0;cases h;exact zkQ (zDS hs.blend) h0
  ·cases h
 |stock=>simp only [act] at h;cases h
end Ch
end Abs
end Go.Proofs.YtahlnclapingiaaGreatDoor
namespace Go.Proofs.YtahlnclapingiaaGreatDoor
namespace Abs
namespace Ch
set_option maxRecDepth 4000
def zbj (s:ChShop):Int×Int×Int :=
 if (Wx.wxCheck s.wax).2.2=0 then
  if (bdCheck s.blend).2.2=0 then
   if (Wk.zcl s.wick).2.2=0 then
    if (hrCheck s.hour).2.2=0 then
     if (Cl.clCheck s.colour).2.2=0 then (0,0,0) else (5,0,(Cl.clCheck s.colour).2.2)
    else (4,0,(hrCheck s.hour).2.2)
   else (3,0,(Wk.zcl s.wick).2.2)
  else (2,0,(bdCheck s.blend).2.2)
 else (1,0,(Wx.wxCheck s.wax).2.2)
theorem zsR {s:ChShop} (h:(zbj s).2.2=0):SOk s:=by
 unfold zbj at h
 split at h
 ·rename_i h0
  split at h
  ·rename_i h1
   split at h
   ·rename_i h2
    split at h
    ·rename_i h3
     split at h
     ·rename_i h4
      exact ⟨h0,h1,h2,h3,h4⟩
     ·contradiction
    ·contradiction
   ·contradiction
  ·contradiction
 ·contradiction
theorem iw5:IntKind.i64.wrap (0+1)=1∧IntKind.i64.wrap (1+1)=2∧IntKind.i64.wrap (2+1)=3∧IntKind.i64.wrap (3+1)=4∧IntKind.i64.wrap (4+1)=5:=by decide
theorem zue (s:ChShop):zae Tryz.prog 52 [s.pv] (zat (zbj s)):=by
 refine zaa zad (fn:=Tryz.f52) (n:=73) (rs:=[.tmp 2,.tmp 3,.tmp 4]) (by kernel_rfl) rfl rfl rfl zM2 (Nat.le_of_ble_eq_true rfl) ?_
 simp only [ChShop.cells,go_sem,simprocAttr]
 refine zab (Wx.ziS s.wax) rfl ?_
 simp only [zat,go_sem,simprocAttr]
 refine zab (zoQ s.blend) rfl ?_
 simp only [zat,go_sem,simprocAttr]
 refine zab (Wk.ziS s.wick) rfl ?_
 simp only [zat,go_sem,simprocAttr]
 refine zab (zub s.hour) rfl ?_
 simp only [zat,go_sem,simprocAttr]
 refine zab (Cl.ziS s.colour) rfl ?_
 simp only [zat,go_sem,simprocAttr]
 refine zaR ?_
 by_cases h0:(Wx.wxCheck s.wax).2.2=0
 rotate_left
 ·have hb:((Wx.wxCheck s.wax).2.2 != 0)=true:=by simpa using h0
  have hs:zbj s=(1,0,(Wx.wxCheck s.wax).2.2):=by unfold zbj;rw [if_neg h0]
  simp only [hb,iw5,hs,zat,go_sem,simprocAttr]
 simp only [h0,iw5,go_sem,simprocAttr]
 refine zaR ?_
 by_cases h1:(bdCheck s.blend).2.2=0
 rotate_left
 ·have hb:((bdCheck s.blend).2.2 != 0)=true:=by simpa using h1
  have hs:zbj s=(2,0,(bdCheck s.blend).2.2):=by unfold zbj;rw [if_pos h0,if_neg h1]
  simp only [hb,iw5,hs,zat,go_sem,simprocAttr]
 simp only [h1,iw5,go_sem,simprocAttr]
 refine zaR ?_
 by_cases h2:(Wk.zcl s.wick).2.2=0
 rotate_left
 ·have hb:((Wk.zcl s.wick).2.2 != 0)=true:=by simpa using h2
  have hs:zbj s=(3,0,(Wk.zcl s.wick).2.2):=by unfold zbj;rw [if_pos h0,if_pos h1,if_neg h2]
  simp only [hb,iw5,hs,zat,go_sem,simprocAttr]
 simp only [h2,iw5,go_sem,simprocAttr]
 refine zaR ?_
 by_cases h3:(hrCheck s.hour).2.2=0
 rotate_left
 ·have hb:((hrCheck s.hour).2.2 != 0)=true:=by simpa using h3
  have hs:zbj s=(4,0,(hrCheck s.hour).2.2):=by unfold zbj;rw [if_pos h0,if_pos h1,if_pos h2,if_neg h3]
  simp only [hb,iw5,hs,zat,go_sem,simprocAttr]
 simp only [h3,iw5,go_sem,simprocAttr]
 refine zaR ?_
 by_cases h4:(Cl.clCheck s.colour).2.2=0
 rotate_left
 ·have hb:((Cl.clCheck s.colour).2.2 != 0)=true:=by simpa using h4
  have hs:zbj s=(5,0,(Cl.clCheck s.colour).2.2):=by unfold zbj;rw [if_pos h0,if_pos h1,if_pos h2,if_pos h3,if_neg h4]
  simp only [hb,iw5,hs,zat,go_sem,simprocAttr]
 simp only [h4,iw5,go_sem,simprocAttr]
 refine zaR ?_
 have hs:zbj s=(0,0,0):=by unfold zbj;rw [if_pos h0,if_pos h1,if_pos h2,if_pos h3,if_pos h4]
 simp only [iw5,hs,zat,go_sem,simprocAttr]
end Ch
end Abs
end Go.Proofs.YtahlnclapingiaaGreatDoor
namespace Go.Proofs.YtahlnclapingiaaGreatDoor
namespace Abs
theorem zdf {P:Program} {H:Hints} {Q:Cont} {x:Code} {A:AAct} (live:List Nat) (i sz s:Nat) (u v:AV) (hi:A.bs≤i) (hb:A.bs≤A.h.length) (hx:A.h[i]?=some (.row s [u])) (hn:zpp A.h.length u v) (hl:∀ t,t∈live→below A.h.length (A.tmps t)) (ho:∀ o,o∈A.h→zaI A.h.length o) (hd:A.df=[])
  (k:@W ⟨P,H,.loop x,Q⟩ { n:=A.n,bs:=A.bs,rc:=A.rc,tmps:=zbU (zbi A.tmps live []),h:=A.h.set i (.row s [v])++[.row sz []],df:=A.df }):@W ⟨P,H,.loop x,Q⟩ A:=by
 have hil:i<A.h.length:=(List.getElem?_eq_some_iff.1 hx).1
 have hw:=zlo (P:=P) (A:={ A with h:=A.h++[.row sz []] }) (T:=zbU (zbi A.tmps live [])) A.h.length i sz s [u] [v] hb hi (by simp) (by omega)
  (by rw [List.getElem?_append_left hil];exact hx) rfl (fun n x y h1 h2=>by
   match n,h1,h2 with
   |0,h1,h2=>cases h1;cases h2;exact hn
   |n+1,h1,h2=>simp at h1) (fun t=>by
   rcases zjh (T:=A.tmps) live t with ⟨h1,h2⟩ | h1
   ·exact .inl ⟨h1,zpF (hl t h2)⟩
   ·exact .inr h1) (fun id o hid ho'=>by
   have hlt:id<A.h.length:=by
    have:=(List.getElem?_eq_some_iff.1 ho').1
    simp at this;omega
   rw [List.getElem?_append_left hlt] at ho'
   exact zrp (ho o (List.mem_of_getElem? ho'))) hd
 have e:((A.h++[AObj.row sz []]).set A.h.length (.row sz [])).set i (.row s [v])=A.h.set i (.row s [v])++[.row sz []]:=by
  rw [List.set_append_right _ _ (Nat.le_refl _),Nat.sub_self]
  show (A.h++[AObj.row sz []]).set i _=_
  rw [List.set_append_left _ _ hil]
 refine zcI (zsF sz) (zcI hw ?_)
 dsimp only
 rw [e]
 exact k
theorem zoV {P:Program} {Q:Cont} {σ:Type} {V:σ→Prop} {I:σ→AAct} {μ:σ→Nat} {s0:σ} {A:AAct} (live:List Nat) (k i sz s:Nat) (u v:AV) (hk:A.bs≤k) (hi:A.bs≤i) (hkl:k<A.h.length) (hik:i≠k) (hx:A.h[i]?=some (.row s [u])) (hn:zpp k u v)
  (hl:∀ t,t∈live→ids (·≠k) (A.tmps t)) (ho:∀ o,o∈A.h→ziJ (·≠k) o) (hd:A.df=[])
  (kk:@WQ ⟨zcR (zd1 P V I μ s0) Q⟩ .normal { n:=A.n,bs:=A.bs,rc:=A.rc,tmps:=zbU (zbi A.tmps live []),h:=(A.h.set k (.row sz [])).set i (.row s [v]),df:=A.df }):@WQ ⟨zcR (zd1 P V I μ s0) Q⟩ .normal A:=by
 refine zEX (zlo (T:=zbU (zbi A.tmps live [])) k i sz s [u] [v] hk hi hkl hik hx rfl (fun n x y h1 h2=>by
   match n,h1,h2 with
   |0,h1,h2=>cases h1;cases h2;exact hn
   |n+1,h1,h2=>simp at h1) (fun t=>by
   rcases zjh (T:=A.tmps) live t with ⟨h1,h2⟩ | h1
   ·exact .inl ⟨h1,hl t h2⟩
   ·exact .inr h1) (fun id o hid ho'=>ho o (List.mem_of_getElem? ho')) hd) kk
theorem zkd {P:Program} {A:AAct} (id:Nat):zdL P A { A with h:=A.h.set id .dead } :=
 ⟨rfl,rfl,fun M0 S0 b cs0 m a w hr=>⟨zet (fun i=>i==id) m,by
  rw [←ztC]
  exact hr.ahead (m':=zet (fun i=>i==id) m) (h':=zd0 (fun i=>i==id) A.h) (w':=w) (zwv ⟨m,A.h,w⟩ (fun i=>i==id) _) (ztH hr.hok _)⟩⟩
theorem zdE {k:Nat} {u v:AV} {cs:List AV} (j:Nat) (hu:u.cells=some cs) (hv:v.cells=some (cs.set j (.slice k 0 0 0))) (hj:cs[j]?=some (.p .nilslice)):zpp k u v:=by
 refine ⟨cs,_,hu,hv,by simp,fun i c d h1 h2=>?_⟩
 by_cases hi:j=i
 ·subst hi
  rw [List.getElem?_set_self (List.getElem?_eq_some_iff.1 hj).1] at h2
  cases h2
  rw [hj] at h1
  cases h1
  exact .inr ⟨rfl,rfl⟩
 ·rw [List.getElem?_set_ne hi,h1] at h2
  cases h2
  exact .inl rfl
namespace Ch
set_option maxRecDepth 4000
def zb9:ChBooks:=⟨[],[],[],[],0,0⟩
def zqu (s:ChShop):AObj:=.row 23 [.p (.agg ([.nilslice,.nilslice,.nilslice,.nilslice,.int .i64 0,.int .i64 0]++s.cells))]
theorem zxA (s:ChShop) (a:AObj):zap Tryz.prog 30 [.p s.pv] [a] (fun r h'=>r=.ret (.tuple [.ptr 2 1 0 0,.p (.int .i64 (zbj s).2.2)])∧h'=[a,.row 17 [.p s.pv],zqu s]):=by
 refine zan zad (fn:=Tryz.f30) (n:=17) (rs:=[.tmp 2,.tmp 3]) (by kernel_rfl) rfl rfl rfl zFQ (Nat.le_of_ble_eq_true rfl) ?_
 simp only [go_sem,simprocAttr]
 refine zab (zue s) rfl ?_
 simp only [zat,zqu,go_sem,simprocAttr]
def zc1 (s:ChShop) (q:ChBooks×List (List UInt8)×List (List UInt8)) (l:List UInt8):ChBooks×List (List UInt8)×List (List UInt8) :=
 match zeQ s q.1 l with
 |.error e=>(q.1,q.2.1++[joinL [wNo,dec e]],q.2.2)
 |.ok (b,a,w)=>(b,q.2.1++[a],if w=true then q.2.2++[l] else q.2.2)
def zaY (s:ChShop) (ls:List (List UInt8)):ChBooks×List (List UInt8)×List (List UInt8):=ls.foldl (zc1 s) (zb9,[],[])
def za5 (s:ChShop) (ls:List (List UInt8)):Int:=if (zbj s).2.2=0 then (if 40<ls.length then 3 else 0) else (zbj s).2.2
theorem zAA (s:ChShop) (q:ChBooks×List (List UInt8)×List (List UInt8)) (l:List UInt8):(zc1 s q l).2.1.length=q.2.1.length+1∧(zc1 s q l).2.2.length≤q.2.2.length+1:=by
 unfold zc1
 split
 ·simp
 ·dsimp only
  refine ⟨by simp,?_⟩
  split<;>simp
theorem ztO (s:ChShop):∀ (d:List (List UInt8)) (q:ChBooks×List (List UInt8)×List (List UInt8)),(d.foldl (zc1 s) q).2.1.length=q.2.1.length+d.length∧(d.foldl (zc1 s) q).2.2.length≤q.2.2.length+d.length
 |[],q=>⟨rfl,Nat.le_refl _⟩
 |l::d,q=>by
  have h1:=zAA s q l
  have h2:=ztO s d (zc1 s q l)
  rw [List.foldl_cons,List.length_cons]
  omega
theorem zv0 {s:ChShop} {q:ChBooks×List (List UInt8)×List (List UInt8)} {l:List UInt8} {n:Nat} (hs:SOk s) (hb:BkOk s q.1 n) (hn:n+1≤40):BkOk s (zc1 s q l).1 (n+1):=by
 unfold zc1
 split
 ·exact hb.mono (Nat.le_succ n) hn
 ·rename_i b a w hd
  dsimp only
  unfold zeQ at hd
  split at hd
  ·cases hd
  ·rename_i c hc
   split at hd
   ·cases hd
   ·rename_i b' a' ha
    cases hd
    exact zGY hs hb hn (zFv hc) ha
theorem zwr {s:ChShop} (hs:SOk s):∀ (d:List (List UInt8)) (q:ChBooks×List (List UInt8)×List (List UInt8)) (n:Nat),BkOk s q.1 n→n+d.length≤40→BkOk s (d.foldl (zc1 s) q).1 (n+d.length)
 |[],q,n,h,_=>h
 |l::d,q,n,h,hn=>by
  rw [List.length_cons] at hn ⊢
  have h1:=zv0 (l:=l) hs h (by omega)
  have h2:=zwr hs d (zc1 s q l) (n+1) h1 (by omega)
  rw [List.foldl_cons,show n+(d.length+1)=n+1+d.length by omega]
  exact h2
theorem zCG (s:ChShop):BkOk s zb9 0 :=
 ⟨by decide,by decide,by decide,by decide,fun x hx=>(by cases hx),fun x hx=>(by cases hx),fun x hx=>(by cases hx),by decide,by decide,by decide⟩
theorem zv1 (s:ChShop) (d:List (List UInt8)):(zaY s d).2.1.length=d.length∧(zaY s d).2.2.length≤d.length:=by
 have:=ztO s d (zb9,[],[])
 simpa [zaY] using this
theorem zyH {s:ChShop} (hs:SOk s) {d:List (List UInt8)} (hd:d.length≤40):BkOk s (zaY s d).1 d.length:=by
 have:=zwr hs d (zb9,[],[]) 0 (zCG s) (by omega)
 rw [Nat.zero_add] at this
 exact this
theorem zwP (s:ChShop) (b:ChBooks) (l:List ChBatch) (ex:List PV):∀ o,o∈B7n s b l ex→ziJ (·≠4) o:=by
 intro o ho
 simp only [B7n,List.mem_cons,List.not_mem_nil,or_false] at ho
 rcases ho with rfl | rfl | rfl | rfl | rfl | rfl | rfl
 ·trivial
 ·trivial
 ·intro x hx
  simp only [List.mem_singleton] at hx
  subst hx
  intro c hc
  simp only [ChShop.cells,List.map_cons,List.map_nil,List.mem_append,List.mem_cons,List.not_mem_nil,or_false] at hc
  rcases hc with (rfl | rfl | rfl | rfl | rfl | rfl) | hc
  ·show 3≠4;decide
  ·trivial
  ·show 5≠4;decide
  ·show 6≠4;decide
  ·trivial
  ·trivial
  ·rcases hc with rfl | rfl | rfl | rfl | rfl | rfl | rfl | rfl | rfl | rfl | rfl | rfl | rfl | rfl | rfl | rfl | rfl<;>trivial
 ·intro x hx
  obtain ⟨y,_,rfl⟩:=List.mem_map.1 hx
  trivial
 ·intro x hx
  rcases List.mem_append.1 hx with hx | hx
  ·obtain ⟨y,_,rfl⟩:=List.mem_map.1 hx
   trivial
  ·obtain ⟨y,_,rfl⟩:=List.mem_map.1 hx
   trivial
 ·intro x hx
  obtain ⟨y,_,rfl⟩:=List.mem_map.1 hx
  trivial
 ·intro x hx
  obtain ⟨y,_,rfl⟩:=List.mem_map.1 hx
  trivial
theorem zsX {s:ChShop} {b:ChBooks} {l:List ChBatch} {ex:List PV} (u v:List AV) (hu:∀ x,x∈u→ids (·≠4) x) (hv:∀ x,x∈v→ids (·≠4) x):∀ o,o∈B7n s b l ex++[.row 1 u,.row 1 v]→ziJ (·≠4) o:=by
 intro o ho
 rcases List.mem_append.1 ho with ho | ho
 ·exact zwP s b l ex o ho
 ·simp only [List.mem_cons,List.not_mem_nil,or_false] at ho
  rcases ho with rfl | rfl
  ·exact hu
  ·exact hv
theorem zr2 {s:ChShop} {b:ChBooks} {ex:List PV} {q:Except Int (ChBooks×List UInt8×Bool)} {r:AEnd} {h':Heap} (h:zh0 s b ex q r h'):h'.length=7:=by
 unfold zh0 at h
 split at h
 ·rw [h.2];rfl
 ·rcases h.2 with ⟨_,h⟩ | ⟨_,_,_,h⟩<;>rw [h]<;>rfl
theorem zDi {l:List UInt8} {e:Int} (h:say l=.error e):1≤e∧e≤12:=by
 unfold say at h
 split at h
 ·cases h;decide
 ·split at h
  ·cases h
  ·split at h
   ·cases h;decide
   ·split at h
    ·cases h
    ·cases h;decide
theorem zBq {s:ChShop} {b:ChBooks} {l:List UInt8} {e:Int} (hs:SOk s) (h:zeQ s b l=.error e):1≤e∧e≤12:=by
 unfold zeQ at h
 split at h
 ·rename_i h1
  cases h
  exact zDi h1
 ·split at h
  ·rename_i h1
   cases h
   exact zEN hs h1
  ·cases h
def zbt (l:List (List UInt8)):PV:=.slice 1 (l.map fun x=>.str (bs x)) false
def zf1 (s:ChShop) (ls:List (List UInt8)):PV :=
 if za5 s ls=0 then .tuple [.ptr 23 [.agg ((zaY s ls).1.cells++s.cells)] 0 0,zbt (zaY s ls).2.1,zbt (zaY s ls).2.2,.int .i64 0]
 else .tuple [.nilptr,.nilslice,.nilslice,.int .i64 (za5 s ls)]
def zcY (s:ChShop) (l:List AV):AV:=.agg (l++[.p (.int .i64 0),.p (.int .i64 0)]++s.cells.map .p)
set_option maxHeartbeats 2000000 in
theorem zxM (s:ChShop) (ls:List (List UInt8)):zae Tryz.prog 18 [s.pv,zbt ls] (zf1 s ls):=by
 refine zei zad (fn:=Tryz.f18) (n:=61) (rs:=[.tmp 4,.tmp 5,.tmp 6,.tmp 7]) (by kernel_rfl) rfl rfl rfl zNk (Nat.le_of_ble_eq_true rfl) ?_
 simp only [go_sem,simprocAttr]
 refine zbf (zxA s _) (fun v h hr=>?_) (fun v h hr=>by cases hr.1)
 obtain ⟨hv,rfl⟩:=hr
 cases hv
 simp only [zbt,go_sem,simprocAttr]
 by_cases hc:(zbj s).2.2=0
 rotate_left
 ·have hc':((zbj s).2.2==0)=false:=by simpa using hc
  have hcn:((zbj s).2.2 != 0)=true:=by simpa using hc
  have he:za5 s ls=(zbj s).2.2:=by rw [za5,if_neg hc]
  simp only [hc',hcn,zf1,he,if_neg hc,go_sem,simprocAttr]
 by_cases h40:40<ls.length
 ·have hd:decide ((40:Int)<(ls.length:Int))=true:=decide_eq_true (by omega)
  have he:za5 s ls=3:=by rw [za5,if_pos hc,if_pos h40]
  simp only [hc,hd,zf1,he,go_sem,simprocAttr]
 have hd:decide ((40:Int)<(ls.length:Int))=false:=decide_eq_false (by omega)
 have he:za5 s ls=0:=by rw [za5,if_pos hc,if_neg h40]
 have hs:=zsR hc
 have hl:ls.length<1000000000:=by omega
 simp only [hc,hd,go_sem,simprocAttr]
 refine zdf [4,28,29,5,6,30] 2 4 23 _ (zcY s [.slice 3 0 0 0,.p .nilslice,.p .nilslice,.p .nilslice]) (Nat.zero_le _) (Nat.zero_le _) rfl (zdE 0 rfl rfl rfl) ?_ ?_ rfl ?_
 ·simp only [go_sem,simprocAttr]
 ·simp only [zqu,go_sem,simprocAttr]
 simp only [go_sem,simprocAttr]
 refine zdf [4,28,29,5,6,30] 2 4 23 _ (zcY s [.slice 3 0 0 0,.slice 4 0 0 0,.p .nilslice,.p .nilslice]) (Nat.zero_le _) (Nat.zero_le _) rfl (zdE 1 rfl rfl rfl) ?_ ?_ rfl ?_
 ·simp only [go_sem,simprocAttr]
 ·simp only [zcY,go_sem,simprocAttr]
 simp only [go_sem,simprocAttr]
 refine zdf [4,28,29,5,6,30] 2 3 23 _ (zcY s [.slice 3 0 0 0,.slice 4 0 0 0,.slice 5 0 0 0,.p .nilslice]) (Nat.zero_le _) (Nat.zero_le _) rfl (zdE 2 rfl rfl rfl) ?_ ?_ rfl ?_
 ·simp only [go_sem,simprocAttr]
 ·simp only [zcY,go_sem,simprocAttr]
 simp only [go_sem,simprocAttr]
 refine zdf [4,28,29,5,6,30] 2 2 23 _ (zcY s [.slice 3 0 0 0,.slice 4 0 0 0,.slice 5 0 0 0,.slice 6 0 0 0]) (Nat.zero_le _) (Nat.zero_le _) rfl (zdE 3 rfl rfl rfl) ?_ ?_ rfl ?_
 ·simp only [go_sem,simprocAttr]
 ·simp only [zcY,go_sem,simprocAttr]
 simp only [go_sem,simprocAttr]
 refine zcQ 5 1 (by simp only [go_sem,simprocAttr]) ?_
 simp only [go_sem,simprocAttr]
 refine zcQ 6 1 (by simp only [go_sem,simprocAttr]) ?_
 refine zcI (zkd 0) (zcI (zkd 1) ?_)
 simp only [zcY,go_sem,simprocAttr]
 have hrun:∀ d,(zaY s d).2.1.length=d.length∧(zaY s d).2.2.length≤d.length:=fun d=>zv1 s d
 have hbk:∀ d:List (List UInt8),d.length≤40→BkOk s (zaY s d).1 d.length:=fun d hd=>zyH hs hd
 refine zbb [4,28,29] ls hl (τ:=List PV) (fun done rest _=>True) (fun done ex=>[(5,.slice 7 (zaY s done).2.1.length 0 (zaY s done).2.1.length),(6,.slice 8 (zaY s done).2.2.length 0 (zaY s done).2.2.length),(30,.p (.int .i64 done.length))])
  (fun done ex=>B7 s (zaY s done).1 ex++[.row 1 ((zaY s done).2.1.map zlt),.row 1 ((zaY s done).2.2.map zlt)]) [] trivial ?_ ?_ ?_
 ·simp only [zaY,zb9,List.foldl_nil,List.length_nil,List.map_nil,List.append_nil,zcY,go_sem,simprocAttr]
 ·intro ex _
  have t1:∀ l:List (List UInt8),List.take l.length (l.map fun x=>PV.str (bs x))=l.map fun x=>PV.str (bs x):=fun l=>List.take_of_length_le (by simp)
  have hres:zf1 s ls=.tuple [.ptr 23 [.agg ((zaY s ls).1.cells++s.cells)] 0 0,zbt (zaY s ls).2.1,zbt (zaY s ls).2.2,.int .i64 0]:=by rw [zf1,if_pos he]
  simp only [zzz,t1,zf2,hres,zbt,go_sem,simprocAttr]
 ·intro done l r ex e1 _ hx hlt hnx
  have hdl:done.length+1≤40:=by
   have:=congrArg List.length e1
   simp at this;omega
  obtain ⟨r1,r2⟩:=hrun done
  have hst:zaY s (done++[l])=zc1 s (zaY s done) l:=by rw [zaY,List.foldl_append];rfl
  have hDn:=zCJ s (zaY s done).1 ex done.length hs (hbk done (by omega)) l
  have hfr:=zd4 (zcU s (zaY s done).1 ex) (args:=[.ptr 2 1 0 0,.p (.str (bs l))]) (by simp only [go_sem,simprocAttr]) (hDn.mono fun r h' hr=>⟨zr2 hr,hr⟩) [.row 1 ((zaY s done).2.1.map zlt),.row 1 ((zaY s done).2.2.map zlt)]
  have hrm1:(zaY s done).2.1.length+1≤zar:=by simp only [zar];omega
  have hrm2:(zaY s done).2.2.length+1≤zar:=by simp only [zar];omega
  simp only [hlt,hx,go_sem,simprocAttr]
  refine zbf hfr (fun v h hr=>?_) (fun v h hr=>?_)
  rotate_left
  ·obtain ⟨h',_,_,hr⟩:=hr
   unfold zh0 at hr
   split at hr<;>cases hr.1
  obtain ⟨h',rfl,_,hr⟩:=hr
  unfold zh0 at hr
  cases hdn:zeQ s (zaY s done).1 l with
  |error e =>
   rw [hdn] at hr
   obtain ⟨hv,rfl⟩:=hr
   cases hv
   have he:=zBq hs hdn
   have hs2:zc1 s (zaY s done) l=((zaY s done).1,(zaY s done).2.1++[joinL [wNo,dec e]],(zaY s done).2.2):=by rw [zc1,hdn]
   have hne:(e != 0)=true:=by rw [bne_iff_ne];omega
   have hsd:=zix [.s wNo,.n e] true (by simp) (fun w hw=>by
    simp only [List.mem_cons,List.not_mem_nil,or_false] at hw
    rcases hw with rfl | rfl
    ·show (2:Nat)≤1000;decide
    ·exact ⟨by omega,by omega⟩)
   simp only [hne,go_sem,simprocAttr]
   refine zab hsd rfl ?_
   simp only [hrm1,go_sem,simprocAttr]
   refine zaA e1 ex trivial ?_
   simp only [hnx,hst,hs2,List.length_append,List.length_singleton,List.map_append,List.map_cons,List.map_nil,Word.ws,List.flatMap_cons,List.flatMap_nil,List.append_nil,go_sem,simprocAttr]
  |ok q =>
   obtain ⟨b',a,w⟩:=q
   rw [hdn] at hr
   obtain ⟨hv,hx2⟩:=hr
   cases hv
   have hs2:zc1 s (zaY s done) l=(b',(zaY s done).2.1++[a],if w=true then (zaY s done).2.2++[l] else (zaY s done).2.2):=by rw [zc1,hdn]
   rcases hx2 with ⟨ex',rfl⟩ | ⟨h0,l0,x0,rfl⟩
   ·cases w
    ·simp only [hrm1,go_sem,simprocAttr]
     refine zaA e1 ex' trivial ?_
     simp only [hnx,hst,hs2,List.length_append,List.length_singleton,List.map_append,List.map_cons,List.map_nil,go_sem,simprocAttr]
    ·simp only [hrm1,hrm2,go_sem,simprocAttr]
     refine zaA e1 ex' trivial ?_
     simp only [hnx,hst,hs2,List.length_append,List.length_singleton,List.map_append,List.map_cons,List.map_nil,go_sem,simprocAttr]
   ·cases w
    ·simp only [hrm1,go_sem,simprocAttr]
     refine zoV [4,28,29,5,6,30] 4 2 4 23 _ (.agg ([.slice 3 b'.lots.length 0 b'.lots.length,.slice 4 0 0 0,.slice 5 b'.tests.length 0 b'.tests.length,.slice 6 b'.boxes.length 0 b'.boxes.length,.p (.int .i64 b'.poured),.p (.int .i64 b'.lost)]++s.cells.map .p)) (Nat.zero_le _) (Nat.zero_le _) (by show 4<9;decide) (by decide) rfl (zdE 1 rfl rfl rfl) ?_ (zsX _ _ ?_ ?_) rfl ?_
     ·simp only [ids,zkF,zjU,zi1,go_sem,simprocAttr]
     ·intro x hx
      rcases List.mem_append.1 hx with hx | hx
      ·obtain ⟨y,_,rfl⟩:=List.mem_map.1 hx;trivial
      ·rw [List.mem_singleton.1 hx];trivial
     ·intro x hx;obtain ⟨y,_,rfl⟩:=List.mem_map.1 hx;trivial
     simp only [go_sem,simprocAttr]
     refine zaA e1 [] trivial ?_
     simp only [hnx,hst,hs2,h0,List.length_append,List.length_singleton,List.map_append,List.map_cons,List.map_nil,List.length_nil,List.append_nil,go_sem,simprocAttr]
    ·simp only [hrm1,hrm2,go_sem,simprocAttr]
     refine zoV [4,28,29,5,6,30] 4 2 4 23 _ (.agg ([.slice 3 b'.lots.length 0 b'.lots.length,.slice 4 0 0 0,.slice 5 b'.tests.length 0 b'.tests.length,.slice 6 b'.boxes.length 0 b'.boxes.length,.p (.int .i64 b'.poured),.p (.int .i64 b'.lost)]++s.cells.map .p)) (Nat.zero_le _) (Nat.zero_le _) (by show 4<9;decide) (by decide) rfl (zdE 1 rfl rfl rfl) ?_ (zsX _ _ ?_ ?_) rfl ?_
     ·simp only [ids,zkF,zjU,zi1,go_sem,simprocAttr]
     ·intro x hx
      rcases List.mem_append.1 hx with hx | hx
      ·obtain ⟨y,_,rfl⟩:=List.mem_map.1 hx;trivial
      ·rw [List.mem_singleton.1 hx];trivial
     ·intro x hx
      rcases List.mem_append.1 hx with hx | hx
      ·obtain ⟨y,_,rfl⟩:=List.mem_map.1 hx;trivial
      ·rw [List.mem_singleton.1 hx];trivial
     simp only [go_sem,simprocAttr]
     refine zaA e1 [] trivial ?_
     simp only [hnx,hst,hs2,h0,List.length_append,List.length_singleton,List.map_append,List.map_cons,List.map_nil,List.length_nil,List.append_nil,go_sem,simprocAttr]
end Ch
end Abs
end Go.Proofs.YtahlnclapingiaaGreatDoor
