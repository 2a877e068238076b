/-
  LAWS: rows of the call's own memory that are handed to a call for good: they become immuta
-/
import Derived.Test.YtahlnclapingiaaGreatDoorAbsEvX
set_option linter.unusedSimpArgs false
set_option linter.unusedVariables false
namespace Go.Proofs.YtahlnclapingiaaGreatDoor
namespace Abs
variable {P:Program} {H:Hints} {Q:Cont} {M0:Nat→Prop}
def zd0 (K:Nat→Bool) (h:Heap):Heap:=h.mapIdx fun i o=>if K i=true then .dead else o
def zet (K:Nat→Bool) (m:List (Option Nat)):List (Option Nat):=m.mapIdx fun i μ=>if K i=true then none else μ
def Mem.kill (K:Nat→Bool) (S:Mem):Mem:=⟨zet K S.m,zd0 K S.h,S.w⟩
theorem ziL (K:Nat→Bool) (h:Heap) (i:Nat):(zd0 K h)[i]?=(h[i]?).map fun o=>if K i=true then .dead else o:=by
 unfold zd0;rw [List.getElem?_mapIdx]
theorem zmS (K:Nat→Bool) (m:List (Option Nat)) (i:Nat):(zet K m)[i]?=(m[i]?).map fun o=>if K i=true then none else o:=by
 unfold zet;rw [List.getElem?_mapIdx]
theorem zhG {K:Nat→Bool} {h:Heap} {i:Nat} (hk:K i=false):(zd0 K h)[i]?=h[i]?:=by
 rw [ziL,hk];simp
theorem zhH {K:Nat→Bool} {h:Heap} {i:Nat} {o:AObj} (hk:K i=true) (ho:h[i]?=some o):(zd0 K h)[i]?=some .dead:=by
 rw [ziL,hk,ho];rfl
theorem zjg {K:Nat→Bool} {m:List (Option Nat)} {i:Nat} (hk:K i=false):(zet K m).getD i none=m.getD i none:=by
 rw [List.getD_eq_getElem?_getD,List.getD_eq_getElem?_getD,zmS,hk];simp
theorem zmR {K:Nat→Bool} {m:List (Option Nat)} {i b:Nat} (h:(zet K m)[i]?=some (some b)):m[i]?=some (some b)∧K i=false:=by
 rw [zmS] at h
 cases hk:K i with
 |true =>
  rw [hk] at h
  cases hm:m[i]?<;>rw [hm] at h<;>cases h
 |false =>
  rw [hk] at h
  refine ⟨?_,rfl⟩
  cases hm:m[i]? with
  |none=>rw [hm] at h;cases h
  |some μ=>rw [hm] at h;simpa using h
theorem zeY {K:Nat→Bool} {m:List (Option Nat)} {b:Nat} (h:Own (zet K m) b):∃ i,m[i]?=some (some b)∧K i=false:=by
 obtain ⟨i,hi⟩:=List.getElem?_of_mem h
 exact ⟨i,zmR hi⟩
theorem zgL {m:List (Option Nat)} {i b:Nat} (h:m[i]?=some (some b)):Own m b:=List.mem_of_getElem? h
theorem zbR.kill {S:Mem} {K:Nat→Bool} {id ver:Nat} {X:Nat→Option Nat→Prop} (h:zbR S id ver X):zbR (S.kill K) id ver X:=by
 unfold zbR at *
 have e1:(S.kill K).h[id]?=(zd0 K S.h)[id]?:=rfl
 have e2:(S.kill K).m.getD id none=(zet K S.m).getD id none:=rfl
 rw [e1,e2]
 cases hk:K id with
 |true =>
  left
  rcases h with h | ⟨sz,xs,h,_⟩
  ·exact zhH hk h
  ·exact zhH hk h
 |false =>
  rw [zhG hk,zjg hk]
  exact h
section
variable {M1:Nat→Prop} {S:Mem} {K:Nat→Bool} (hM:∀ b,Avoid M1 (zet K S.m) b→Avoid M0 S.m b)
include hM
theorem zbr.kill {v:Value} {a:AV} (h:zbr M0 S v a):zbr M1 (S.kill K) v a:=by
 cases a with
 |p q=>exact RepP.less (show RepP (Avoid M0 S.m) S.w v q from h) hM
 |ptr id ver i o=>exact ⟨h.1,zbR.kill h.2⟩
 |slice id ver off len=>exact ⟨h.1,zbR.kill (S:=S) h.2⟩
 |ref k id =>
  refine ⟨h.1,?_⟩
  have e1:(S.kill K).h[id]?=(zd0 K S.h)[id]?:=rfl
  have e2:(S.kill K).m.getD id none=(zet K S.m).getD id none:=rfl
  rw [e1,e2]
  cases hk:K id with
  |true =>
   left
   rcases h.2 with h | ⟨⟨o,h,_⟩,_⟩
   ·exact zhH hk h
   ·exact zhH hk h
  |false =>
   rw [zhG hk,zjg hk]
   exact h.2
 |undef=>exact trivial
 |agg cs=>exact h.elim
 |func fn f c=>exact h.elim
 |tuple vs=>exact h.elim
theorem zaV.kill {v:Value} {a:AV} (h:zaV M0 S v a):zaV M1 (S.kill K) v a:=by
 cases a with
 |func fn f c =>
  obtain ⟨F,C,rfl,h1,h2⟩:=h
  exact ⟨F,C,rfl,h1.imp fun v c hc hr=>zbr.kill hM hr,h2.imp fun v c hc hr=>zbr.kill hM hr⟩
 |p q=>exact zbr.kill (M0:=M0) (a:=.p q) hM h
 |ptr id ver i o=>exact zbr.kill (M0:=M0) (a:=.ptr id ver i o) hM h
 |slice id ver off len=>exact zbr.kill (M0:=M0) (a:=.slice id ver off len) hM h
 |ref k id=>exact zbr.kill (M0:=M0) (a:=.ref k id) hM h
 |undef=>exact trivial
 |agg cs=>exact h.elim
 |tuple vs=>exact h.elim
theorem zbX.kill {v:Value} {a:AV} (h:zbX M0 S v a):zbX M1 (S.kill K) v a:=by
 cases a with
 |agg cs =>
  obtain ⟨C,rfl,h1,h2⟩:=h
  exact ⟨C,rfl,h1,h2.imp fun v c hc hr=>zaV.kill hM hr⟩
 |p q=>exact zaV.kill (M0:=M0) (a:=.p q) hM h
 |ptr id ver i o=>exact zaV.kill (M0:=M0) (a:=.ptr id ver i o) hM h
 |slice id ver off len=>exact zaV.kill (M0:=M0) (a:=.slice id ver off len) hM h
 |ref k id=>exact zaV.kill (M0:=M0) (a:=.ref k id) hM h
 |func fn f c=>exact zaV.kill (M0:=M0) (a:=.func fn f c) hM h
 |undef=>exact trivial
 |tuple vs=>exact h.elim
theorem Rep.kill {v:Value} {a:AV} (h:Rep M0 S v a):Rep M1 (S.kill K) v a:=by
 cases a with
 |tuple cs =>
  obtain ⟨C,rfl,h2⟩:=h
  exact ⟨C,rfl,h2.imp fun v c hc hr=>zbX.kill hM hr⟩
 |p q=>exact zbX.kill (M0:=M0) (a:=.p q) hM h
 |ptr id ver i o=>exact zbX.kill (M0:=M0) (a:=.ptr id ver i o) hM h
 |slice id ver off len=>exact zbX.kill (M0:=M0) (a:=.slice id ver off len) hM h
 |ref k id=>exact zbX.kill (M0:=M0) (a:=.ref k id) hM h
 |func fn f c=>exact zbX.kill (M0:=M0) (a:=.func fn f c) hM h
 |agg cs=>exact zbX.kill (M0:=M0) (a:=.agg cs) hM h
 |undef=>exact trivial
theorem HOk.kill (hS:HOk P M0 S) (h1:∀ b,M1 b→b<S.w.heap.size∧¬ Own (zet K S.m) b):HOk P M1 (S.kill K) where
 len:=by simp [Mem.kill,zet,zd0,hS.len]
 lt:=fun b h=>let ⟨i,hi,_⟩:=zeY h;hS.lt b (zgL hi)
 m0:=h1
 gl:=hS.gl.fr (fun _ _ _=>rfl) fun b hb=>let ⟨i,hi,_⟩:=zeY hb;.inl (zgL hi)
 inj:=fun i j b hi hj=>hS.inj i j b (zmR hi).1 (zmR hj).1
 obj:=fun id o hid=>by
  have e2:(S.kill K).m.getD id none=(zet K S.m).getD id none:=rfl
  have hid':(zd0 K S.h)[id]?=some o:=hid
  cases hk:K id with
  |true =>
   rw [ziL,hk] at hid'
   cases hm:S.h[id]? with
   |none=>rw [hm] at hid';cases hid'
   |some o'=>rw [hm] at hid';cases hid';exact trivial
  |false =>
   rw [zhG hk] at hid'
   rw [e2,zjg hk]
   have:=hS.obj id o hid'
   cases o with
   |row sz xs =>
    rcases this with h | ⟨b,T,C,h1,h2,h3,h4⟩
    ·exact .inl h
    ·refine .inr ⟨b,T,C,h1,h2,h3,fun i x hx=>?_⟩
     obtain ⟨cs,h5,h6,h7⟩:=h4 i x hx
     exact ⟨cs,h5,h6,fun j c hc=>⟨(h7 j c hc).1,zaV.kill hM (h7 j c hc).2⟩⟩
   |loop n tmps ps assign body st pend =>
    obtain ⟨b,r,h1,h2,h3,h4,h5⟩:=this
    exact ⟨b,r,h1,h2,h3,fun t=>Rep.kill hM (h4 t),h5⟩
   |strIter s p=>exact this
   |mp es =>
    obtain ⟨b,C,clk,h1,h2,h3⟩:=this
    exact ⟨b,C,clk,h1,h2,h3.mono fun v a=>zaV.kill hM⟩
   |memo f =>
    obtain ⟨hg,es,hf,b,C,clk,h1,h2,h3⟩:=this
    exact ⟨hg,es,hf,b,C,clk,h1,h2,h3.mono fun v a=>zaV.kill hM⟩
   |dblock=>exact this
   |bld T el x =>
    obtain ⟨b,p,v,h1,h2,h3,h4,h5,h6⟩:=this
    exact ⟨b,p,v,h1,h2,h3,h4,zbr.kill hM h5,h6⟩
   |dead=>exact trivial
end
theorem zwv (S:Mem) (K:Nat→Bool) (base:Nat):Ev base S (S.kill K) where
 fr:=Fr.refl _ _
 sub:=fun b hb=>let ⟨i,hi,_⟩:=zeY (K:=K) hb;.inl (zgL hi)
 obj:=fun id o _ ho=>by
  cases hk:K id with
  |true=>exact ⟨.dead,zhH hk ho,.inl rfl⟩
  |false =>
   refine ⟨o,(zhG hk).trans ho,?_⟩
   have e2:(S.kill K).m.getD id none=S.m.getD id none:=zjg hk
   rw [e2];exact ObjEv.refl _ _
theorem ztH {S:Mem} (hS:HOk P M0 S) (K:Nat→Bool):HOk P M0 (S.kill K) :=
 HOk.kill (M0:=M0) (M1:=M0) (fun _ hb=>hb.imp id fun h=>let ⟨_,hi,_⟩:=zeY h;zgL hi) hS
  (fun b hb=>⟨(hS.m0 b hb).1,fun h=>(hS.m0 b hb).2 (let ⟨_,hi,_⟩:=zeY h;zgL hi)⟩)
theorem ztK {S:Mem} (hS:HOk P M0 S) (K:Nat→Bool) {v:Value} {a:AV} {q:PV} (hr:Rep M0 S v a) (hf:frz (zd0 (fun i=>!K i) S.h) a=some q):RepP (Avoid M0 (zet K S.m)) S.w v q:=by
 have hM:∀ b,Avoid (Avoid M0 (zet K S.m)) (zet (fun i=>!K i) S.m) b→Avoid M0 S.m b:=by
  rintro b ((hb | hb) | hb)
  ·exact .inl hb
  ·obtain ⟨_,hi,_⟩:=zeY hb;exact .inr (zgL hi)
  ·obtain ⟨_,hi,_⟩:=zeY hb;exact .inr (zgL hi)
 have hk:=HOk.kill hM hS (fun b hb=>by
  rcases hb with hb | hb
  ·exact ⟨(hS.m0 b hb).1,fun h=>(hS.m0 b hb).2 (let ⟨_,hi,_⟩:=zeY h;zgL hi)⟩
  ·obtain ⟨i,hi,hki⟩:=zeY hb
   refine ⟨hS.lt b (zgL hi),fun h=>?_⟩
   obtain ⟨j,hj,hkj⟩:=zeY h
   have:=hS.inj i j b hi hj
   subst this
   rw [hki] at hkj
   cases hkj)
 exact zjW (S:=S.kill fun i=>!K i) hk (Rep.kill hM hr) hf
def zpl (id:Nat):AV→Prop
 |.p _=>True
 |.slice i _ _ _=>i=id
 |.ptr i _ _ _=>i=id
 |_=>False
theorem ztC (id:Nat) (h:Heap):zd0 (fun i=>i==id) h=h.set id .dead:=by
 apply List.ext_getElem?
 intro i
 rw [ziL,List.getElem?_set]
 by_cases hi:i=id
 ·subst hi
  cases hh:h[i]? with
  |none =>
   have:¬ i<h.length:=by simpa using hh
   simp [this]
  |some o =>
   have:i<h.length:=(List.getElem?_eq_some_iff.1 hh).1
   simp [this]
 ·have:(i==id)=false:=by simpa using hi
  rw [this,if_neg (Ne.symm hi)]
  simp
theorem zy1 (id:Nat):(∀ a,a∈([]:List AV)→zpl id a)=True:=by simp
theorem zxe (id:Nat) (x:AV) (l:List AV):(∀ a,a∈x::l→zpl id a)=(zpl id x∧∀ a,a∈l→zpl id a):=by simp
def zc3:PV→Bool
 |.bool _=>true
 |.int _ _=>true
 |.str _=>true
 |.agg cs=>flatL cs
 |.tuple cs=>flatL cs
 |.nilslice=>true
 |.nilptr=>true
 |.nilfunc=>true
 |.niliface=>true
 |.any=>true
 |.iface _ v=>zc3 v
 |_=>false
where flatL:List PV→Bool
 |[]=>true
 |c::l=>zc3 c&&flatL l
theorem zqF:∀ (q:PV),zc3 q=true→Flat q
 |.bool b,_=>.bool b
 |.int k n,_=>.int k n
 |.str s,_=>.str s
 |.agg cs,h=>by
  rw [zc3] at h
  exact .agg (key cs h)
 |.nilslice,_=>.nilslice
 |.nilptr,_=>.nilptr
 |.nilfunc,_=>.nilfunc
 |.niliface,_=>.niliface
 |.any,_=>.any
 |.tuple cs,h=>by
  rw [zc3] at h
  exact .tuple (key cs h)
 |.slice _ _ _,h=>by simp [zc3] at h
 |.ptr _ _ _ _,h=>by simp [zc3] at h
 |.func _ _ _,h=>by simp [zc3] at h
 |.iface _ v,h=>.iface (zqF v (by rw [zc3] at h;exact h))
where key:∀ (cs:List PV),zc3.flatL cs=true→∀ (i:Nat) (c:PV),cs[i]?=some c→Flat c
 |[],_=>Flat.nil
 |c::l,h=>by
  rw [zc3.flatL,Bool.and_eq_true] at h
  exact Flat.cons (zqF c h.1) (key l h.2)
def zdF:Nat→Heap→AV→Option PV
 |_,_,.p v=>if zc3 v=true then some v else none
 |0,_,_=>none
 |n+1,h,.slice id ver off len=>(zgO (zdF n h) ver h[id]?).map fun q=>.slice q.1 ((q.2.take (off+len)).drop off) false
 |n+1,h,.agg cs=>(zaD (zdF n h) cs).map .agg
 |n+1,h,.tuple cs=>(zaD (zdF n h) cs).map .tuple
 |_,_,_=>none
theorem ziO (n:Nat) (h:Heap) (v:PV):zdF n h (.p v)=if zc3 v=true then some v else none:=by cases n<;>rfl
theorem zlW:∀ (n:Nat) (h:Heap) (a:AV) (q:PV),zdF n h a=some q→zbe n h a=some q:=by
 intro n
 induction n with
 |zero =>
  intro h a q e
  cases a with
  |p v=>rw [ziO] at e;split at e<;>cases e;rw [zcp]
  |_=>cases e
 |succ n ih =>
  intro h a q e
  cases a with
  |p v=>rw [ziO] at e;split at e<;>cases e;rw [zcp]
  |slice id ver off len =>
   unfold zdF at e
   unfold zbe
   simp only [Option.map_eq_some_iff] at e ⊢
   obtain ⟨r,h1,h2⟩:=e
   obtain ⟨xs,h3,h4,h5⟩:=ziN h1
   refine ⟨r,?_,h2⟩
   rw [h3,zgO,if_pos h4,zc7 (ih h) h5];rfl
  |agg cs =>
   unfold zdF at e
   unfold zbe
   simp only [Option.map_eq_some_iff] at e ⊢
   obtain ⟨r,h1,h2⟩:=e
   exact ⟨r,zc7 (ih h) h1,h2⟩
  |tuple cs =>
   unfold zdF at e
   unfold zbe
   simp only [Option.map_eq_some_iff] at e ⊢
   obtain ⟨r,h1,h2⟩:=e
   exact ⟨r,zc7 (ih h) h1,h2⟩
  |_=>cases e
theorem zxD {n:Nat} {h:Heap} {a:AV} {q:PV} {cs:List AV} (e:zdF n h a=some q) (hc:a.cells=some cs) :
  ∀ (j:Nat) (c:PV),q.cells[j]?=some c→∃ x m,cs[j]?=some x∧m≤n∧zdF m h x=some c:=by
 intro j c hj
 cases a with
 |p v =>
  rw [ziO] at e
  split at e
  ·rename_i hf
   cases e
   have hcs:cs=q.cells.map .p:=by
    cases q with
    |tuple l=>cases hc
    |_=>cases hc;rfl
   refine ⟨.p c,n,by rw [hcs,List.getElem?_map,hj];rfl,Nat.le_refl _,?_⟩
   rw [ziO]
   have:zc3 c=true:=by
    cases q with
    |agg l =>
     have key:∀ (l:List PV),zc3.flatL l=true→∀ x,x∈l→zc3 x=true:=by
      intro l
      induction l with
      |nil=>intro _ x hx;cases hx
      |cons y l ih =>
       intro hl x hx
       rw [zc3.flatL,Bool.and_eq_true] at hl
       rcases List.mem_cons.1 hx with rfl | hx
       ·exact hl.1
       ·exact ih hl.2 x hx
     rw [zc3] at hf
     exact key l hf c (List.mem_of_getElem? hj)
    |_ =>
     have hj':[_][j]?=some c:=hj
     cases j with
     |zero=>cases hj';exact hf
     |succ j=>cases hj'
   rw [if_pos this]
  ·cases e
 |slice id ver off len =>
  cases hc
  cases n with
  |zero=>cases e
  |succ n =>
   have hq:q.cells=[q]:=znZ (zhm (a:=.slice id ver off len) rfl (zlW _ _ _ _ e))
   rw [hq] at hj
   cases j with
   |zero=>cases hj;exact ⟨_,n+1,rfl,Nat.le_refl _,e⟩
   |succ j=>cases hj
 |agg l =>
  cases hc
  cases n with
  |zero=>cases e
  |succ n =>
   unfold zdF at e
   simp only [Option.map_eq_some_iff] at e
   obtain ⟨r,h1,rfl⟩:=e
   obtain ⟨_,h3⟩:=zcL h1
   obtain ⟨x,h4,h5⟩:=h3 j c hj
   exact ⟨x,n,h4,by omega,h5⟩
 |tuple l=>cases hc
 |undef=>cases n<;>cases e
 |ptr _ _ _ _=>cases n<;>cases e
 |func _ _ _=>cases n<;>cases e
 |ref _ _=>cases n<;>cases e
theorem zDO {S:Mem} (hS:HOk P M0 S) {M:Nat→Prop} (hM:∀ b,Own S.m b→¬ M b):∀ (n:Nat) (v:Value) (a:AV) (q:PV),Rep M0 S v a→zdF n S.h a=some q→RepP M S.w v q:=by
 intro n
 induction n using Nat.strongRecOn with
 |_ n ih =>
  intro v a q hr e
  cases a with
  |p v' =>
   rw [ziO] at e
   split at e
   ·rename_i hf
    cases e
    exact (zqF _ hf).rep (show RepP (Avoid M0 S.m) S.w v q from hr)
   ·cases e
  |slice id ver off len =>
   cases n with
   |zero=>cases e
   |succ n =>
    unfold zdF at e
    simp only [Option.map_eq_some_iff] at e
    obtain ⟨⟨sz,l⟩,h1,rfl⟩:=e
    obtain ⟨xs,hid,hv,hl⟩:=ziN h1
    dsimp only at hid hl ⊢
    have hnil:len=0→(l.take (off+len)).drop off=[]:=by
     intro e;subst e
     apply List.eq_nil_of_length_eq_zero
     simp
    rcases zbz hr.2 hid hv with ⟨h0,_,_,a,cap,rfl⟩ | ⟨b,cap,T',n',hm,rfl,⟨h1,h2⟩,_,_⟩ | ⟨_,rfl,h0⟩
    ·rw [hnil h0];exact .empty (by simp)
    ·obtain ⟨C,T,hb,hsize,hel⟩:=zcV hS hid hm
     obtain ⟨hxl,hfr⟩:=zcL hl
     have helem:∀ (i:Nat) (q:PV),l[i]?=some q→(q.cells.length=sz∧∀ c,c∈q.cells→c.isCell=true)∧∀ (j:Nat) (c:PV),q.cells[j]?=some c→RepP M S.w (C.getD (i*sz+j) undef) c:=by
      intro i q hi
      obtain ⟨a,h0,hfa⟩:=hfr i q hi
      obtain ⟨cs,g1,g2,g3⟩:=hel i a h0
      obtain ⟨g4,g5⟩:=zpL (zlW _ _ _ _ hfa) g1
      have g6:=zxD hfa g1
      refine ⟨⟨by omega,fun c hc=>?_⟩,fun j c hj=>?_⟩
      ·obtain ⟨j,hj⟩:=List.getElem?_of_mem hc
       obtain ⟨x,m,k1,_,k3⟩:=g5 j c hj
       exact zhm (g3 j x k1).1 k3
      ·obtain ⟨x,m,k1,k2,k3⟩:=g6 j c hj
       exact ih m (by omega) _ x c (zjK (g3 j x k1).1 (g3 j x k1).2) k3
     have hMb:¬ M b:=hM b (zgL (zbm hm))
     have:=zlB (M:=M) (w:=S.w) (b:=b) (off:=0) (sz:=sz) (l:=off) (r:=off+len) (xs:=l) (fun k=>C.getD k undef) (by omega) (by omega)
      (fun x hx=>let ⟨i,hi⟩:=List.getElem?_of_mem hx;(helem i x hi).1) (fun _=>hMb) (fun k hk=>by rw [Nat.zero_add];exact zeR hb k (by rw [←hxl] at hk;omega)) (fun i j x c hx hj=>(helem i x hx).2 j c hj) (cap:=cap) (full:=false) (by omega) (by simp)
     simpa using this
    ·rw [hnil h0];exact .empty (by simp)
  |agg cs =>
   cases n with
   |zero=>cases e
   |succ n =>
    obtain ⟨C,rfl,hc,h1,h2⟩:=hr
    have e0:=zlW _ _ _ _ e
    unfold zdF at e
    simp only [Option.map_eq_some_iff] at e
    obtain ⟨l,hl,rfl⟩:=e
    obtain ⟨h3,h4⟩:=zcL hl
    refine .agg (by omega) (fun c hcl=>?_) fun i c hi=>?_
    ·obtain ⟨i,hi⟩:=List.getElem?_of_mem hcl
     obtain ⟨a,h5,h6⟩:=h4 i c hi
     exact zhm (hc a (List.mem_of_getElem? h5)) (zlW _ _ _ _ h6)
    ·obtain ⟨a,h5,h6⟩:=h4 i c hi
     exact ih n (by omega) _ a c (zjK (hc a (List.mem_of_getElem? h5)) (h2 i a h5)) h6
  |tuple cs =>
   cases n with
   |zero=>cases e
   |succ n =>
    obtain ⟨C,rfl,h1,h2⟩:=hr
    unfold zdF at e
    simp only [Option.map_eq_some_iff] at e
    obtain ⟨l,hl,rfl⟩:=e
    obtain ⟨h3,h4⟩:=zcL hl
    refine .tuple (by omega) fun i c hi=>?_
    obtain ⟨a,h5,h6⟩:=h4 i c hi
    exact ih n (by omega) _ a c (zh4 (h2 i a h5)) h6
  |undef=>cases n<;>cases e
  |ptr _ _ _ _=>cases n<;>cases e
  |func _ _ _=>cases n<;>cases e
  |ref _ _=>cases n<;>cases e
def zep (P:Program) (f:FuncId) (pargs:List PV) (v:PV):Prop :=
 ∀ (M0:Nat→Prop) (w:World) (cargs:Array Value),(∀ b,M0 b→b<w.heap.size)→GOk P w→zjr M0 w cargs pargs →
  (∀ w',(callFunc f cargs).run P w'=.ok (.enter f cargs) w') ∧
  Calls P f cargs w fun e w'=>∃ v',e=.returned v'∧RepP (fun b=>b<w.heap.size) w' v' v∧Fr [] w w'
theorem zep.pure {f:FuncId} {pargs:List PV} {v:PV} (h:zep P f pargs v):zae P f pargs v:=by
 intro M0 w cargs hM hg ha
 obtain ⟨h1,h2⟩:=h M0 w cargs hM hg ha
 refine ⟨h1,h2.mono fun e w' he=>?_⟩
 obtain ⟨v',rfl,hv,hfr⟩:=he
 exact ⟨v',rfl,RepP.less hv hM,hfr⟩
def zxE (h:Heap):AEnd→Option PV
 |.ret a=>zdF 8 h a
 |_=>none
theorem zdD (hD:zcb P) {H:Hints} {f:FuncId} {fn:Func} {c:Code} {pargs:List PV} {v:PV} {rs:List ResultVar} {n:Nat} (hf:P.funcs[f]?=some fn) (hb:fn.body=some c) (hrs:fn.results.toList=rs) (hn:fn.ntmps=n) (hok:zaf H fn=true)
  (hlen:pargs.length≤n) (hw:wp P H c (zhR P rs 0 (fun _ r h=>zxE h r=some v)) (zaK n .no (pargs.map .p) [])):zep P f pargs v:=by
 intro M0 w cargs hM hg ha
 have ha':zbW (Rep M0 ⟨[],[],w⟩) cargs (pargs.map .p):=by
  refine ⟨by simpa using ha.1,fun i c hc=>?_⟩
  simp only [List.getElem?_map,Option.map_eq_some_iff] at hc
  obtain ⟨q,hq,rfl⟩:=hc
  exact zas ((ha.2 i q hq).mono (fun _ _ _=>rfl) (fun b hb=>by
   rcases hb with hb | hb
   ·exact .inl hb
   ·simp [Own] at hb))
 have:=zan hD (h:=[]) (R:=fun r h=>zxE h r=some v) hf hb hrs hn hok (by simpa using hlen) hw M0 [] w cargs (zjx hM hg) ha'
 refine ⟨this.1,this.2.mono fun e w' h=>?_⟩
 obtain ⟨r,h',m',hR,hev,hk,hend⟩:=h
 have hown:∀ b,Own m' b→¬ b<w.heap.size:=fun b hb=>by
  rcases hev.sub b hb with h | h
  ·simp [Own] at h
  ·exact Nat.not_lt.2 h
 cases e with
 |returned v' =>
  cases r with
  |panic v=>cases hR
  |ret a=>exact ⟨v',rfl,zDO (S:=⟨m',h',w'⟩) hk hown 8 v' a v hend hR,hev.fr⟩
 |panicked ch =>
  cases r with
  |panic v=>cases hR
  |ret a=>exact hend.elim
 |outgrown=>exact hend.elim
theorem zrA {f:FuncId} {args:List AV} {pargs:List PV} {v:PV} {h:Heap} (hc:zep P f pargs v) (ha:zi2 h args=some pargs):zap P f args h (fun r h'=>r=.ret (.p v)∧h'=h):=by
 intro M0 m w cargs hS hargs
 obtain ⟨hl,hg⟩:=zqE ha
 have hpa:zjr M0 w cargs pargs:=by
  refine ⟨by rw [hargs.1,hl],fun i c hi=>?_⟩
  obtain ⟨a,h1,h2⟩:=hg i c hi
  exact zjW (S:=⟨m,h,w⟩) hS (hargs.2 i a h1) h2
 obtain ⟨h1,h2⟩:=hc M0 w cargs (fun b hb=>(hS.m0 b hb).1) hS.gl.1 hpa
 refine ⟨h1,h2.mono fun e w' hh=>?_⟩
 obtain ⟨v',rfl,hr,hfr⟩:=hh
 obtain ⟨hk,hev⟩:=zko hS hfr
 refine ⟨.ret (.p v),_,m,⟨rfl,rfl⟩,hev,hk,?_⟩
 exact RepP.less hr fun b hb=>by
  rcases hb with hb | hb
  ·exact (hS.m0 b hb).1
  ·exact hS.lt b hb
theorem znm {ops:Array Oper} {rest:List Oper} {dst:Option Tmp} {A:AAct} {f:FuncId} {args:List AV} {pargs:List PV} {v:PV} (hc:zep P f pargs v) (ha:zi2 A.h args=some pargs)
  (h:@WO ⟨P,H,ops,rest,Q⟩ (A.put dst (.p v) A.h)):@WF ⟨P,H,ops,rest,Q,dst⟩ A f args:=zbk (zrA hc ha) h
theorem zE3 {ops:Array Oper} {rest:List Oper} {o:Oper} {hs h0:Heap} {A:AAct} {f:FuncId} {args:List AV} {pargs:List PV} {v:PV} (hc:zep P f pargs v) (ha:zi2 h0 args=some pargs)
  (h:@WD ⟨P,H,ops,rest,Q⟩ hs (A.put o.dst (.p v) A.h)):@WDQ ⟨P,H,ops,rest,Q,o⟩ hs h0 A (.call f args) :=
 ⟨.p v,fun _ hs=>zrA hc (ztM hs ha),h⟩
theorem zgi {α:Type} (n:Nat) (h:Heap) (f:α→PV) (hf:∀ x,zc3 (f x)=true):∀ l:List α,zaD (zdF n h) (l.map fun x=>.p (f x))=some (l.map f)
 |[]=>rfl
 |x::r=>by rw [List.map_cons,zaD,zgi n h f hf r,ziO,if_pos (hf x)];rfl
theorem zjX {α:Type} (n:Nat) (h:Heap) (f:α→PV) (hf:∀ x,zc3 (f x)=true) (m:List AV):∀ l:List α,zaD (zdF n h) ((l.map fun x=>.p (f x))++m)=(zaD (zdF n h) m).map (l.map f++·)
 |[]=>by cases hm:zaD (zdF n h) m<;>simp [hm]
 |x::r=>by
  rw [List.map_cons,List.cons_append,zaD,zjX n h f hf m r,ziO,if_pos (hf x)]
  cases zaD (zdF n h) m<;>rfl
theorem zsg {α:Type} (n:Nat) (h:Heap) (f:α→PV) (hf:∀ x,zc3 (f x)=true) (l:List α):zaD (zdF n h) ((l.map f).map .p)=some (l.map f):=by
 rw [List.map_map];exact zgi n h f hf l
theorem zsh {α:Type} (n:Nat) (h:Heap) (f:α→PV) (hf:∀ x,zc3 (f x)=true) (m:List AV) (l:List α):zaD (zdF n h) ((l.map f).map .p++m)=(zaD (zdF n h) m).map (l.map f++·):=by
 rw [List.map_map];exact zjX n h f hf m l
attribute [go_sem] zsg zsh zc3 zc3.flatL zdF ziO zxE zgi zjX
theorem zrz {S:Mem} (hS:HOk P M0 S) {id:Nat} {o:AObj} (ho:S.h[id]?=some o):zaI S.h.length o:=by
 have:=hS.obj id o ho
 cases o with
 |row sz xs =>
  intro x hx
  rcases this with ⟨_,rfl⟩ | ⟨b,T,C,h1,h2,h3,h4⟩
  ·cases hx
  ·obtain ⟨i,hi⟩:=List.getElem?_of_mem hx
   obtain ⟨cs,h5,h6,h7⟩:=h4 i x hi
   have one:∀ c,cs=[c]→zcH S.h.length c:=fun c hc=>by
    subst hc
    exact zcJ (h7 0 c rfl).2
   cases x with
   |p q=>exact trivial
   |agg l =>
    cases h5
    intro c hc
    obtain ⟨j,hj⟩:=List.getElem?_of_mem hc
    exact zcJ (h7 j c hj).2
   |tuple l=>cases h5
   |undef=>cases h5
   |ptr _ _ _ _=>cases h5;exact one _ rfl
   |slice _ _ _ _=>cases h5;exact one _ rfl
   |ref _ _=>cases h5;exact one _ rfl
   |func _ _ _=>cases h5;exact one _ rfl
 |loop n tmps ps assign body st pend =>
  obtain ⟨b,r,h1,h2,h3,h4,h5⟩:=this
  exact fun t=>zrj (h4 t)
 |strIter s p=>exact trivial
 |mp es=>exact trivial
 |memo f=>exact trivial
 |dblock=>exact trivial
 |bld T el x =>
  obtain ⟨b,p,v,h1,h2,h3,h4,h5,h6⟩:=this
  exact zdw h5
 |dead=>exact trivial
theorem zi7 (hD:zcb P) {H:Hints} {f:FuncId} {fn:Func} {c:Code} {args:List AV} {h:Heap} {v:PV} {rs:List ResultVar} {n:Nat} (hf:P.funcs[f]?=some fn) (hb:fn.body=some c) (hrs:fn.results.toList=rs) (hn:fn.ntmps=n) (hok:zaf H fn=true)
  (hlen:args.length≤n) (hw:wp P H c (zhR P rs h.length (fun _ r h'=>∃ t,h'=h++t∧zlX (List.replicate h.length .dead++t) r=some v)) (zaK n .no args h)):zap P f args h (fun r h'=>r=.ret (.p v)∧h'=h):=by
 intro M0 m w cargs hS hargs
 have:=zan hD (R:=fun r h'=>∃ t,h'=h++t∧zlX (List.replicate h.length .dead++t) r=some v) hf hb hrs hn hok hlen hw M0 m w cargs hS hargs
 refine ⟨this.1,this.2.mono fun e w' hh=>?_⟩
 obtain ⟨r,h',m',⟨t,rfl,hR⟩,hev,hk,hend⟩:=hh
 cases e with
 |returned v' =>
  cases r with
  |panic v=>cases hR
  |ret a =>
   have hkeep:∀ (id:Nat) (o:AObj),id<h.length→(h++t)[id]?=some o→zaI h.length o:=fun id o hid ho=>by
    rw [List.getElem?_append_left hid] at ho
    exact zrz (S:=⟨m,h,w⟩) hS ho
   have hcut:=zqD (S:=⟨m',h++t,w'⟩) hk (l:=h.length) hkeep
   have ecut:Mem.cut ⟨m',h++t,w'⟩ h.length=⟨m'.take h.length,h,w'⟩:=by simp [Mem.cut]
   rw [ecut] at hcut
   have e1:zd0 (fun i=>!decide (h.length≤i)) (h++t)=List.replicate h.length .dead++t:=by
    apply List.ext_getElem?
    intro i
    rw [ziL]
    by_cases hi:i<h.length
    ·rw [List.getElem?_append_left hi,List.getElem?_append_left (by simpa using hi),List.getElem?_eq_getElem hi]
     have:decide (h.length≤i)=false:=by simpa using hi
     simp [this,hi]
    ·rw [List.getElem?_append_right (by omega),List.getElem?_append_right (by simpa using Nat.le_of_not_lt hi)]
     have:decide (h.length≤i)=true:=by simpa using hi
     simp [this]
   have hrep:=ztK (S:=⟨m',h++t,w'⟩) hk (fun i=>decide (h.length≤i)) (v:=v') (a:=a) (q:=v) hend (by rw [e1];exact hR)
   refine ⟨.ret (.p v),h,m'.take h.length,⟨rfl,rfl⟩,⟨hev.fr,fun b hb=>hev.sub b (List.mem_of_mem_take hb),fun id o hid ho=>?_⟩,hcut,?_⟩
   ·have hid':id<h.length:=hid
    obtain ⟨o',h1,h2⟩:=hev.obj id o hid ho
    refine ⟨o',?_,?_⟩
    ·have h1':(h++t)[id]?=some o':=h1
     rw [List.getElem?_append_left hid'] at h1'
     exact h1'
    ·have:(m'.take h.length).getD id none=m'.getD id none:=by
      rw [List.getD_eq_getElem?_getD,List.getD_eq_getElem?_getD,List.getElem?_take,if_pos hid']
     show ObjEv _ _ ((m'.take h.length).getD id none) _
     rw [this];exact h2
   ·exact RepP.less hrep fun b hb=>by
     rcases hb with hb | hb
     ·exact .inl hb
     ·obtain ⟨i,hi⟩:=List.getElem?_of_mem hb
      rw [List.getElem?_take] at hi
      split at hi
      ·rename_i hil
       refine .inr (List.mem_of_getElem? (i:=i) ?_)
       rw [zmS,hi]
       have:decide (h.length≤i)=false:=by simpa using hil
       simp [this]
      ·cases hi
 |panicked ch =>
  cases r with
  |panic v=>cases hR
  |ret a=>exact hend.elim
 |outgrown=>exact hend.elim
theorem zs0 (n:Nat) (t:Heap) (j:Nat):(List.replicate n AObj.dead++t)[n+j]?=t[j]?:=by rw [List.getElem?_append_right (by simp)];simp
theorem zyK (n:Nat) (t:Heap):(List.replicate n AObj.dead++t)[n]?=t[0]?:=zs0 n t 0
attribute [go_sem] zs0 zyK
section
variable {α τ:Type}
theorem zB5 {x:Code} {A:AAct} (live:List Nat) (l:List α) (hl:l.length<1000000000) (Inv:List α→List α→τ→Prop) (M:List α→τ→List (Nat×AV)) (hp:List α→τ→Heap) (t0:τ) (hi:Inv [] l t0)
  (hh:A.h=hp [] t0) (h0:∀ p,p∈zbi A.tmps live (M [] t0)→A.tmps p.1=p.2)
  (hnil:∀ t,Inv l [] t→@W ⟨P,H,x,zcR (zd1 P (zkw l Inv) (fun s=>zdi A live (zfT M s) (zfT hp s)) (fun s=>s.2.1.length) (l,[],t)) Q⟩
   {n:=A.n,bs:=A.bs,rc:=A.rc,tmps:=zbU (zbi A.tmps live (M l t)),h:=hp l t,df:=A.df })
  (hcons:∀ done y r t,l=done++y::r→Inv done (y::r) t→l[done.length]?=some y→((done.length:Int)<(l.length:Int))→IntKind.i64.wrap ((done.length:Int)+1)=(((done++[y]).length:Nat):Int) →
   @W ⟨P,H,x,zcR (zd1 P (zkw l Inv) (fun s=>zdi A live (zfT M s) (zfT hp s)) (fun s=>s.2.1.length) (done,y::r,t)) Q⟩
    {n:=A.n,bs:=A.bs,rc:=A.rc,tmps:=zbU (zbi A.tmps live (M done t)),h:=hp done t,df:=A.df }):@W ⟨P,H,.loop x,Q⟩ A:=by
 refine zcZ live (zkw l Inv) (fun s=>s.2.1.length) (zfT M) (zfT hp) ([],l,t0) ⟨rfl,hi⟩ hh h0 ?_
 rintro ⟨done,rest,t⟩ ⟨e1,e2⟩
 dsimp only at e1 e2
 cases rest with
 |nil =>
  rw [List.append_nil] at e1
  subst e1
  exact hnil t e2
 |cons y r =>
  have hlen:done.length<l.length:=by rw [e1];simp
  have hg:l[done.length]?=some y:=by rw [e1];simp
  refine hcons done y r t e1 e2 hg (by omega) ?_
  have e:((done.length:Int)+1)=(((done++[y]).length:Nat):Int):=by simp
  rw [e]
  exact IntWalk.i64_in _ ⟨by omega,by simp<;>omega⟩
theorem zB7 {l:List α} {Inv:List α→List α→τ→Prop} {M:List α→τ→List (Nat×AV)} {hp:List α→τ→Heap} {live:List Nat} {done r:List α} {y:α} {t:τ} {A B:AAct}
  (e1:l=done++y::r) (t':τ) (hinv:Inv (done++[y]) r t') (hh:B.h=hp (done++[y]) t') (h3:∀ p,p∈zbi A.tmps live (M (done++[y]) t')→B.tmps p.1=p.2)
  (hn:B.n=A.n:=by rfl) (hb:B.bs=A.bs:=by rfl) (hr:B.rc=A.rc:=by rfl) (hd:B.df=A.df:=by rfl) :
  @WQ ⟨zcR (zd1 P (zkw l Inv) (fun s=>zdi A live (zfT M s) (zfT hp s)) (fun s=>s.2.1.length) (done,y::r,t)) Q⟩ .normal B :=
 ⟨(done++[y],r,t'),⟨by simp [e1],hinv⟩,by simp,zlp hn hb hr hd hh h3⟩
end
attribute [go_sem] zpl zy1 zxe
end Abs
end Go.Proofs.YtahlnclapingiaaGreatDoor
namespace Go.Proofs.YtahlnclapingiaaGreatDoor
namespace Abs
variable {P:Program}
inductive PL:PV→PV→Prop
 |refl (v:PV):PL v v
 |nil (sz:Nat):PL .nilslice (.slice sz [] false)
 |agg {a b:List PV} (hl:a.length=b.length) (hc:∀ c,c∈b→c.isCell=true) (h:∀ (i:Nat) (q c:PV),a[i]?=some q→b[i]?=some c→PL q c):PL (.agg a) (.agg b)
 |slice {sz:Nat} {xs ys:List PV} {full:Bool} (hl:xs.length=ys.length) (hc:∀ y,y∈ys→y.cells.length=sz∧∀ c,c∈y.cells→c.isCell=true) (h:∀ (i:Nat) (q c:PV),xs[i]?=some q→ys[i]?=some c→PL q c) :
   PL (.slice sz xs full) (.slice sz ys false)
 |tuple {a b:List PV} (hl:a.length=b.length) (h:∀ (i:Nat) (q c:PV),a[i]?=some q→b[i]?=some c→PL q c):PL (.tuple a) (.tuple b)
theorem PL.cells {q v:PV} (h:PL q v):q.cells.length=v.cells.length∧∀ (j:Nat) (c d:PV),q.cells[j]?=some c→v.cells[j]?=some d→PL c d:=by
 cases h with
 |refl v=>exact ⟨rfl,fun j c d h1 h2=>by rw [h1] at h2;cases h2;exact .refl _⟩
 |nil sz=>exact ⟨rfl,fun j c d h1 h2=>by cases j<;>cases h1;cases h2;exact .nil sz⟩
 |agg hl hc h=>exact ⟨hl,h⟩
 |slice hl hc h=>exact ⟨rfl,fun j c d h1 h2=>by cases j<;>cases h1;cases h2;exact .slice hl hc h⟩
 |tuple hl h=>exact ⟨rfl,fun j c d h1 h2=>by cases j<;>cases h1;cases h2;exact .tuple hl h⟩
theorem PL.single {q y:PV} (h:PL q y) (hq:∀ l,q≠.agg l):y.cells=[y]:=by
 cases h with
 |refl v=>cases q with
  |agg l=>exact absurd rfl (hq l)
  |_=>rfl
 |nil _=>rfl
 |agg _ _ _=>exact absurd rfl (hq _)
 |slice _ _ _=>rfl
 |tuple _ _=>rfl
theorem PL.rep {M:Nat→Prop} {w:World} {q v:PV} (h:PL q v):∀ {u:Value},RepP M w u q→RepP M w u v:=by
 induction h with
 |refl v=>intro u hr;exact hr
 |nil sz=>intro u hr;cases hr;exact .empty (by simp)
 |@agg a b hl hc h ih =>
  intro u hr
  cases hr with
  |agg hn hs hr =>
   refine .agg (by omega) hc fun i c hi=>?_
   have hlt:i<a.length:=by have:=(List.getElem?_eq_some_iff.1 hi).1;omega
   exact ih i _ c (List.getElem?_eq_getElem hlt) hi (hr i _ (List.getElem?_eq_getElem hlt))
 |@tuple a b hl h ih =>
  intro u hr
  cases hr with
  |tuple hn hr =>
   refine .tuple (by omega) fun i c hi=>?_
   have hlt:i<a.length:=by have:=(List.getElem?_eq_some_iff.1 hi).1;omega
   exact ih i _ c (List.getElem?_eq_getElem hlt) hi (hr i _ (List.getElem?_eq_getElem hlt))
 |@slice sz xs ys full hl hc h ih =>
  intro u hr
  cases hr with
  |empty hf =>
   have:ys=[]:=List.length_eq_zero_iff.1 hl.symm
   subst this
   exact .empty (by simp)
  |slice f hlen hcap hfull hsz hm hcell hrep =>
   rw [hl] at hm hcell
   refine .slice f (by omega) hcap (by simp) hc hm hcell fun i j y c hy hj=>?_
   have hlt:i<xs.length:=by have:=(List.getElem?_eq_some_iff.1 hy).1;omega
   have hx:xs[i]?=some xs[i]:=List.getElem?_eq_getElem hlt
   have hp:=h i _ y hx hy
   obtain ⟨g1,g2⟩:=hp.cells
   have hsx:=hsz _ (List.getElem_mem hlt)
   have hsy:=hc y (List.mem_of_getElem? hy)
   cases hxx:xs[i] with
   |agg a =>
    rw [hxx] at hp hsx hx
    obtain ⟨b,rfl⟩:∃ b,y=.agg b:=by
     generalize hq:PV.agg a=q at hp
     cases hp with
     |refl v=>exact ⟨a,hq.symm⟩
     |agg _ _ _=>exact ⟨_,rfl⟩
     |nil _=>cases hq
     |slice _ _ _=>cases hq
     |tuple _ _=>cases hq
    have hv:RepP M w (.agg (Array.ofFn fun k:Fin sz=>f (i*sz+k.val))) (.agg a):=by
     refine .agg (by have:=hsx.1;simp [PV.cells] at this;simp [this]) hsx.2 fun k c hk=>?_
     have hk':k<sz:=by have:=(List.getElem?_eq_some_iff.1 hk).1;have:=hsx.1;simp [PV.cells] at this;omega
     have:=hrep i k (.agg a) c hx hk
     simpa [hk'] using this
    have hv2:=ih i _ _ hx hy hv
    cases hv2 with
    |agg hn hs hr2 =>
     have hk':j<sz:=by have:=(List.getElem?_eq_some_iff.1 hj).1;have:=hsy.1;omega
     have:=hr2 j c hj
     simpa [hk'] using this
   |_ =>
    have hyc:y.cells=[y]:=hp.single fun l=>by rw [hxx];simp
    have hxc:xs[i].cells=[xs[i]]:=by rw [hxx];rfl
    rw [hyc] at hj
    cases j with
    |zero =>
     cases hj
     exact ih i _ _ hx hy (hrep i 0 _ _ hx (by rw [hxc];rfl))
    |succ j=>cases hj
theorem zae.lessD {f:FuncId} {args:List PV} {q v:PV} (hc:zae P f args q) (h:PL q v):zae P f args v:=by
 intro M0 w cargs hM hg ha
 obtain ⟨h1,h2⟩:=hc M0 w cargs hM hg ha
 refine ⟨h1,h2.mono fun e w' he=>?_⟩
 obtain ⟨v',rfl,hv,hfr⟩:=he
 exact ⟨v',rfl,h.rep hv,hfr⟩
def PLs:List PV→List PV→Prop
 |[],[]=>True
 |q::a,c::b=>PL q c∧PLs a b
 |_,_=>False
theorem PLs.get:∀ {a b:List PV},PLs a b→a.length=b.length∧∀ (i:Nat) (q c:PV),a[i]?=some q→b[i]?=some c→PL q c
 |[],[],_=>⟨rfl,by simp⟩
 |q::a,c::b,h=>by
  obtain ⟨h1,h2⟩:=PLs.get h.2
  refine ⟨by simp [h1],fun i x y hx hy=>?_⟩
  cases i with
  |zero=>cases hx;cases hy;exact h.1
  |succ i=>exact h2 i x y (by simpa using hx) (by simpa using hy)
 |[],_::_,h=>h.elim
 |_::_,[],h=>h.elim
def zcY (l:List PV):Bool:=l.all PV.isCell
def zGf (sz:Nat) (l:List PV):Bool:=l.all fun y=>y.cells.length==sz&&y.cells.all PV.isCell
theorem PL.aggL {a b:List PV} (hc:zcY b=true) (h:PLs a b):PL (.agg a) (.agg b):=.agg h.get.1 (fun c hcb=>List.all_eq_true.1 hc c hcb) h.get.2
theorem PL.sliceL {sz:Nat} {xs ys:List PV} {full:Bool} (hc:zGf sz ys=true) (h:PLs xs ys):PL (.slice sz xs full) (.slice sz ys false) :=
 .slice h.get.1 (fun y hy=>by
  have:=List.all_eq_true.1 hc y hy
  simp at this
  exact ⟨this.1,fun c hc=>this.2 c hc⟩) h.get.2
theorem PL.tupleL {a b:List PV} (h:PLs a b):PL (.tuple a) (.tuple b):=.tuple h.get.1 h.get.2
end Abs
end Go.Proofs.YtahlnclapingiaaGreatDoor
