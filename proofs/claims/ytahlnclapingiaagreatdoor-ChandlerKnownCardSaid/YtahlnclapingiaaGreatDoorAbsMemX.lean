/-
  LAWS: cells of values; new objects, stores, growth of the call's own memory.
  LAWS: stores into the call's own memory, and its growth.
  LAWS: operations of the abstract machine and the model's: variables, fields, indexes.
-/
import Derived.Test.YtahlnclapingiaaGreatDoorAbsRep
set_option linter.unusedSimpArgs false
set_option linter.unusedVariables false
namespace Go.Proofs.YtahlnclapingiaaGreatDoor
namespace Abs
def zdW (M0:Nat→Prop) (S:Mem) (g:Nat→Value) (cs:List AV):Prop :=
 ∀ (j:Nat) (c:AV),cs[j]?=some c→c.isCell=true∧zaV M0 S (g j) c
theorem zjK {M0:Nat→Prop} {S:Mem} {v:Value} {c:AV} (hc:c.isCell=true) (h:zaV M0 S v c):Rep M0 S v c:=by
 cases c with
 |agg cs=>simp [AV.isCell] at hc
 |tuple cs=>simp [AV.isCell] at hc
 |undef=>simp [AV.isCell] at hc
 |_=>exact h
theorem zh4 {M0:Nat→Prop} {S:Mem} {v:Value} {c:AV} (h:zbX M0 S v c):Rep M0 S v c:=by
 cases c with
 |tuple cs=>exact False.elim h
 |_=>exact h
theorem zhz {M0:Nat→Prop} {S:Mem} {v:Value} {c:AV} (hc:c.isCell=true) (h:zaV M0 S v c):v.oneCell'=true:=by
 cases c with
 |p q =>
  have h':RepP (Avoid M0 S.m) S.w v q:=h
  cases h' with
  |agg=>simp [AV.isCell,PV.isCell] at hc
  |tuple=>simp [AV.isCell,PV.isCell] at hc
  |_=>rfl
 |ptr id ver i o=>obtain ⟨⟨a,rfl⟩,_⟩:=h;rfl
 |slice id ver off len=>obtain ⟨⟨a,_,_,rfl⟩,_⟩:=h;rfl
 |ref k id=>obtain ⟨⟨a,rfl⟩,_⟩:=h;cases k<;>rfl
 |func fn f c=>obtain ⟨F,C,rfl,_⟩:=h;rfl
 |agg cs=>simp [AV.isCell] at hc
 |tuple cs=>simp [AV.isCell] at hc
 |undef=>simp [AV.isCell] at hc
theorem zDL {α:Type} (C:Array α) (i:Nat) (d:α) (h:i<C.size):C.getD i d=C[i]:=by simp [Array.getD,h]
theorem getD_some {α:Type} {C:Array α} {i:Nat} {d x:α} (h:C[i]?=some x):C.getD i d=x:=by
 obtain ⟨h1,h2⟩:=Array.getElem?_eq_some_iff.1 h
 rw [zDL _ _ _ h1,h2]
theorem zeD {M0:Nat→Prop} {S:Mem} {v:Value} {x:AV} {cs:List AV} (h:Rep M0 S v x) (hx:x.cells=some cs) :
  v.cells.size=cs.length∧zdW M0 S (fun j=>v.cells.getD j undef) cs:=by
 have one:∀ {c:AV},c.isCell=true→zaV M0 S v c→v.cells=#[v]:=by
  intro c hc hr
  have:=zhz hc hr
  cases v<;>first | rfl | simp [Value.oneCell'] at this
 have single:∀ {c:AV},c.isCell=true→zaV M0 S v c→v.cells.size=[c].length∧zdW M0 S (fun j=>v.cells.getD j undef) [c]:=by
  intro c hc hr
  rw [one hc hr]
  refine ⟨rfl,fun j d hj=>?_⟩
  cases j with
  |zero=>simp at hj;subst hj;exact ⟨hc,hr⟩
  |succ j=>simp at hj
 cases x with
 |p q =>
  cases q with
  |agg l =>
   simp [AV.cells,PV.cells] at hx
   subst hx
   have h':RepP (Avoid M0 S.m) S.w v (.agg l):=h
   cases h' with
   |agg hn hs hr =>
    refine ⟨by simpa [Value.cells] using hn,fun j c hj=>?_⟩
    simp only [List.getElem?_map,Option.map_eq_some_iff] at hj
    obtain ⟨q,hq,rfl⟩:=hj
    exact ⟨hs q (List.mem_of_getElem? hq),hr j q hq⟩
  |tuple l=>simp [AV.cells] at hx
  |_=>(simp [AV.cells,PV.cells] at hx;subst hx;exact single rfl h)
 |agg l =>
  simp [AV.cells] at hx
  subst hx
  obtain ⟨C,rfl,h1,h2,h3⟩:=h
  exact ⟨h2,fun j c hj=>⟨h1 c (List.mem_of_getElem? hj),h3 j c hj⟩⟩
 |tuple l=>simp [AV.cells] at hx
 |undef=>simp [AV.cells] at hx
 |_=>(simp [AV.cells] at hx;subst hx;exact single rfl h)
theorem zeF:∀ {cs:List AV} {l:List PV},zdx cs=some l→cs=l.map .p
 |[],l,h=>by simp [zdx] at h;subst h;rfl
 |c::r,l,h=>by
  cases c with
  |p v =>
   simp only [zdx] at h
   split at h
   ·rename_i l' hl
    cases h
    rw [zeF hl];rfl
   ·cases h
  |_=>simp [zdx] at h
theorem zmN {M0:Nat→Prop} {S:Mem} {C:Array Value} {cs:List AV} (hn:C.size=cs.length) (h:zdW M0 S (fun j=>C.getD j undef) cs):zbX M0 S (.agg C) (zjf cs):=by
 unfold zjf
 cases hp:zdx cs with
 |some l =>
  have:=zeF hp
  subst this
  refine .agg (by simpa using hn) (fun c hc=>?_) (fun i c hi=>?_)
  ·obtain ⟨i,hi⟩:=List.getElem?_of_mem hc
   exact (h i (.p c) (by simp [hi])).1
  ·exact (h i (.p c) (by simp [hi])).2
 |none=>exact ⟨C,rfl,fun c hc=>(let ⟨i,hi⟩:=List.getElem?_of_mem hc;(h i c hi).1),hn,fun i c hi=>(h i c hi).2⟩
theorem zvg {M0:Nat→Prop} {S:Mem} {C:Array Value} {cs:List AV} (h:zbW (zbX M0 S) C cs):Rep M0 S (.tuple C) (zjv cs):=by
 unfold zjv
 cases hp:zdx cs with
 |some l =>
  have:=zeF hp
  subst this
  exact .tuple (by simpa using h.1) (fun i c hi=>h.2 i (.p c) (by simp [hi]))
 |none=>exact ⟨C,rfl,h⟩
theorem zas {M0:Nat→Prop} {S:Mem} {v:Value} {q:PV} (h:RepP (Avoid M0 S.m) S.w v q):Rep M0 S v (.p q):=h
variable {P:Program}
theorem zfk {T:TypeId} {g:Bool} (h:zbc P T=some g) (w:World):(isAgg T).run P w=.ok g w:=by
 unfold zbc at h
 unfold isAgg
 cases hu:P.underlying T with
 |none=>simp [hu] at h
 |some d =>
  rw [Sem.run_bind,run_underlying hu w]
  cases d<;>simp [hu] at h<;>subst h<;>rfl
theorem zaW {T:TypeId} {n:Nat} (h:za7 P T=some n) (w:World):(sizeOf T).run P w=.ok n w:=by
 unfold za7 at h
 cases hi:P.info? T with
 |none=>simp [hi] at h
 |some i=>simp [hi] at h;subst h;simp [sizeOf,typeInfo,hi]
theorem zly {T:TypeId} {n:Nat} (h:zgl P T=some n) (w:World):∃ i,(typeInfo T).run P w=.ok i w∧i.bytes=n:=by
 unfold zgl at h
 cases hi:P.info? T with
 |none=>simp [hi] at h
 |some i=>simp [hi] at h;exact ⟨i,by simp [typeInfo,hi],h⟩
theorem zcT (b o n:Nat):(⟨b,o,none⟩:Addr).add n=⟨b,o+n,none⟩:=by
 unfold Addr.add
 split
 ·rename_i h;subst h;rfl
 ·rfl
theorem zsW {T:TypeId} {g:Bool} {n:Nat} (hg:zbc P T=some g) (hn:za7 P T=some n) (w:World) (b at_:Nat) (f:Nat→Value)
  (hc:g=true→∀ j,j<n→w.cell? ⟨b,at_+j,none⟩=some (f j)) (h1:g=false→w.cell? ⟨b,at_,none⟩=some (f 0)) :
  (loadVar T ⟨b,at_,none⟩).run P w=.ok (if g then .agg ((List.range n).map f).toArray else f 0) w:=by
 unfold loadVar
 rw [Sem.run_bind,zfk hg w]
 cases g with
 |true =>
  have:=run_loadCells (P:=P) w ⟨b,at_,none⟩ n f (fun j hj=>by rw [zcT];exact hc rfl j hj)
  simp [Sem.run_bind,zaW hn w,this]
 |false=>simp [h1 rfl]
theorem zd9 (f:Nat→Value) (n j:Nat) (h:j<n):(((List.range n).map f).toArray).getD j undef=f j:=by
 simp [h]
theorem zt1 {M0:Nat→Prop} {S:Mem} {g:Nat→Value} {cs:List AV} (h:zdW M0 S g cs) (o n:Nat):zdW M0 S (fun j=>g (o+j)) (sub o n cs):=by
 intro j c hj
 unfold sub at hj
 rw [List.getElem?_take] at hj
 split at hj
 ·rw [List.getElem?_drop] at hj
  exact h (o+j) c hj
 ·cases hj
theorem zm9 {v:AV} {cs:List AV} (h:v.cells=some cs):(∃ l,v=.p (.agg l))∨(∃ l,v=.agg l)∨v.isCell=true∧cs=[v]:=by
 cases v with
 |p q =>
  cases q with
  |agg l=>exact .inl ⟨l,rfl⟩
  |tuple l=>simp [AV.cells] at h
  |_=>(simp [AV.cells,PV.cells] at h;subst h;exact .inr (.inr ⟨rfl,rfl⟩))
 |agg l=>exact .inr (.inl ⟨l,rfl⟩)
 |tuple l=>simp [AV.cells] at h
 |undef=>simp [AV.cells] at h
 |_=>(simp [AV.cells] at h;subst h;exact .inr (.inr ⟨rfl,rfl⟩))
theorem zta {M0:Nat→Prop} {S:Mem} {g:Nat→Value} {x y:AV} {cs:List AV} {ag:Bool} {n o:Nat} (hx:x.cells=some cs) (h:zdW M0 S g cs) (hp:x.part ag n o=some y) :
  (∀ j,j<n→ag=true→o+j<cs.length)∧(ag=false→o<cs.length)∧Rep M0 S (if ag then .agg ((List.range n).map fun j=>g (o+j)).toArray else g o) y:=by
 unfold AV.part at hp
 rw [hx] at hp
 cases ag with
 |false =>
  simp only [Bool.false_eq_true,↓reduceIte] at hp
  obtain ⟨h1,h2⟩:=h o y hp
  exact ⟨fun _ _ e=>by simp at e,fun _=>(List.getElem?_eq_some_iff.1 hp).1,zjK h1 h2⟩
 |true =>
  simp only [↓reduceIte] at hp ⊢
  refine ⟨?_,fun e=>by simp at e,?_⟩
  ·intro j hj _
   split at hp
   ·rename_i hc;omega
   ·split at hp
    ·rename_i hc;omega
    ·cases hp
  ·split at hp
   ·rename_i hc
    obtain ⟨hl,rfl⟩:=hc
    subst hl
    simp only [Nat.zero_add]
    rcases zm9 hx with ⟨l,rfl⟩ | ⟨l,rfl⟩ | ⟨hcell,_⟩
    ·cases hp
     simp [AV.cells,PV.cells] at hx
     subst hx
     refine zas (.agg (by simp) (fun c hc=>?_) (fun i c hi=>?_))
     ·obtain ⟨i,hi⟩:=List.getElem?_of_mem hc
      exact (h i (.p c) (by simp [hi])).1
     ·have hlt:=(List.getElem?_eq_some_iff.1 hi).1
      rw [zd9 _ _ _ (by simpa using hlt)]
      exact (h i (.p c) (by simp [hi])).2
    ·cases hp
     simp [AV.cells] at hx
     subst hx
     refine ⟨_,rfl,fun c hc=>(let ⟨i,hi⟩:=List.getElem?_of_mem hc;(h i c hi).1),by simp,fun i c hi=>?_⟩
     have hlt:=(List.getElem?_eq_some_iff.1 hi).1
     rw [zd9 _ _ _ hlt]
     exact (h i c hi).2
    ·cases x with
     |p q=>cases q<;>first | (simp at hp;done) | (simp [AV.isCell,PV.isCell] at hcell;done)
     |agg l=>simp [AV.isCell] at hcell
     |_=>simp at hp
   ·split at hp
    ·rename_i hle
     cases hp
     refine zh4 (zmN (by simp [sub];omega) fun j c hj=>?_)
     have hlt:=(List.getElem?_eq_some_iff.1 hj).1
     have hjn:j<n:=by simp [sub] at hlt;omega
     show c.isCell=true∧zaV M0 S (((List.range n).map fun j=>g (o+j)).toArray.getD j undef) c
     rw [zd9 _ _ _ hjn]
     exact zt1 h o n j c hj
    ·cases hp
theorem zlE {m:List (Option Nat)} {b x:Nat}:Own (m++[some x]) b↔Own m b∨b=x:=by
 simp [Own]
theorem zde (w:World) (o:Obj) (b:Nat) (h:b<w.heap.size):(w.alloc o).heap[b]?=w.heap[b]?:=by
 show (w.heap.push o)[b]?=_
 rw [Array.getElem?_push,if_neg (by omega)]
theorem zaU (w:World) (o:Obj):(w.alloc o).heap[w.heap.size]?=some o:=by
 show (w.heap.push o)[w.heap.size]?=some o
 simp
theorem zuZ (w:World) (o:Obj) (b:Nat) (h:b<w.heap.size):(w.alloc o).shape? b=w.shape? b:=by
 unfold World.shape?
 rw [zde w o b h]
theorem Fr.alloc (m:List (Option Nat)) (w:World) (o:Obj):Fr m w (w.alloc o) :=
 ⟨rfl,rfl,rfl,by simp,fun b hb _=>zde w o b hb,fun b hb=>zuZ w o b hb⟩
theorem Fr.drew (m:List (Option Nat)) (w:World):Fr m w w.drew:=⟨rfl,rfl,rfl,Nat.le_refl _,fun _ _ _=>rfl,fun _ _=>rfl⟩
theorem Fr.trans {m m':List (Option Nat)} {a b c:World} (h:Fr m a b) (k:Fr m' b c) (hs:∀ x,x<a.heap.size→Own m' x→Own m x):Fr m a c :=
 ⟨k.os.trans h.os,k.tape.trans h.tape,k.output.trans h.output,Nat.le_trans h.size k.size,
  fun x hx hn=>(k.block x (Nat.lt_of_lt_of_le hx h.size) (fun ho=>hn (hs x hx ho))).trans (h.block x hx hn),
  fun x hx=>(k.shape x (Nat.lt_of_lt_of_le hx h.size)).trans (h.shape x hx)⟩
theorem ObjOk.keep {M0:Nat→Prop} {S S':Mem} (e:Ev S.h.length S S') {μ:Option Nat} {o:AObj} (h:ObjOk P M0 S μ o)
  (hb:∀ b,μ=some b→S'.w.heap[b]?=S.w.heap[b]?):ObjOk P M0 S' μ o:=by
 cases o with
 |row sz xs =>
  rcases h with h | ⟨b,T,C,h1,h2,h3,h4⟩
  ·exact .inl h
  ·refine .inr ⟨b,T,C,h1,(hb b h1).trans h2,h3,fun i x hx=>?_⟩
   obtain ⟨cs,h5,h6,h7⟩:=h4 i x hx
   exact ⟨cs,h5,h6,fun j c hc=>⟨(h7 j c hc).1,e.keepS (h7 j c hc).2⟩⟩
 |strIter s p =>
  obtain ⟨b,h1,h2⟩:=h
  exact ⟨b,h1,(hb b h1).trans h2⟩
 |mp es =>
  obtain ⟨b,C,clk,h1,h2,h3⟩:=h
  exact ⟨b,C,clk,h1,(hb b h1).trans h2,h3.mono fun v a=>e.keepS⟩
 |memo f =>
  obtain ⟨hg,es,hf,b,C,clk,h1,h2,h3⟩:=h
  exact ⟨hg,es,hf,b,C,clk,h1,(hb b h1).trans h2,h3.mono fun v a=>e.keepS⟩
 |loop n tmps ps assign body st pend =>
  obtain ⟨b,r,h1,h2,h3,h4,h5⟩:=h
  exact ⟨b,r,h1,(hb b h1).trans h2,h3,fun t=>e.keep (h4 t),h5⟩
 |dblock =>
  obtain ⟨b,h1,h2⟩:=h
  exact ⟨b,h1,(hb b h1).trans h2⟩
 |bld T el x =>
  obtain ⟨b,p,v,h1,h2,h3,h4,h5,h6⟩:=h
  exact ⟨b,p,v,h1,(hb b h1).trans h2,h3,h4,e.rep0 h5 (zdw h5),fun a n c hv=>let ⟨N,hN⟩:=h6 a n c hv;⟨N,(e.fr.shape _ (zjG hN)).trans hN⟩⟩
 |dead=>exact trivial
def Mem.new (S:Mem) (o:AObj) (ob:Obj):Mem:=⟨S.m++[some S.w.heap.size],S.h++[o],S.w.alloc ob⟩
theorem Ev.new (base:Nat) (M0:Nat→Prop) {S:Mem} (hS:HOk P M0 S) (hb:base≤S.h.length) (o:AObj) (ob:Obj):Ev base S (S.new o ob) where
 fr:=Fr.alloc _ _ _
 sub:=fun b h=>by
  rcases zlE.1 h with h | rfl
  ·exact .inl h
  ·exact .inr (Nat.le_refl _)
 obj:=fun id o' hid ho=>by
  refine ⟨o',?_,?_⟩
  ·show (S.h++[o])[id]?=_
   rw [List.getElem?_append_left (by omega)];exact ho
  ·have:(S.new o ob).m.getD id none=S.m.getD id none:=by
    show (S.m++[some S.w.heap.size]).getD id none=_
    have:=hS.len
    simp [List.getElem?_append_left (show id<S.m.length by omega)]
   rw [this]
   exact ObjEv.refl _ _
theorem HOk.new {M0:Nat→Prop} {S:Mem} (hS:HOk P M0 S) {o:AObj} {ob:Obj} (ho:ObjOk P M0 (S.new o ob) (some S.w.heap.size) o):HOk P M0 (S.new o ob) where
 len:=by simp [Mem.new,hS.len]
 lt:=fun b h=>by
  have:(S.new o ob).w.heap.size=S.w.heap.size+1:=by simp [Mem.new]
  rcases zlE.1 h with h | rfl
  ·have:=hS.lt b h;omega
  ·omega
 m0:=fun b h=>by
  obtain ⟨h1,h2⟩:=hS.m0 b h
  refine ⟨by simp [Mem.new];omega,fun hn=>?_⟩
  rcases zlE.1 hn with hn | rfl
  ·exact h2 hn
  ·omega
 inj:=fun i j b hi hj=>by
  have hlen:=hS.len
  have key:∀ k,(S.new o ob).m[k]?=some (some b)→(S.m[k]?=some (some b)∧b<S.w.heap.size)∨(k=S.m.length∧b=S.w.heap.size):=by
   intro k hk
   have hk':(S.m++[some S.w.heap.size])[k]?=some (some b):=hk
   rcases Nat.lt_or_ge k S.m.length with h | h
   ·rw [List.getElem?_append_left h] at hk'
    exact .inl ⟨hk',hS.lt b (List.mem_of_getElem? hk')⟩
   ·rw [List.getElem?_append_right h] at hk'
    have h0:k-S.m.length=0:=by
     have:=(List.getElem?_eq_some_iff.1 hk').1
     simp at this;omega
    rw [h0] at hk'
    simp at hk'
    exact .inr ⟨by omega,hk'.symm⟩
  rcases key i hi with ⟨h1,h2⟩ | ⟨h1,h2⟩<;>rcases key j hj with ⟨h3,h4⟩ | ⟨h3,h4⟩
  ·exact hS.inj i j b h1 h3
  ·omega
  ·omega
  ·omega
 obj:=fun id o' hid=>by
  have hlen:=hS.len
  have hid':(S.h++[o])[id]?=some o':=hid
  rcases Nat.lt_or_ge id S.h.length with h | h
  ·rw [List.getElem?_append_left h] at hid'
   have e:=Ev.new S.h.length M0 hS (Nat.le_refl _) o ob
   have hm:(S.new o ob).m.getD id none=S.m.getD id none:=by
    show (S.m++[some S.w.heap.size]).getD id none=_
    simp [List.getElem?_append_left (show id<S.m.length by omega)]
   rw [hm]
   refine (hS.obj id o' hid').keep e fun b hb=>zde _ _ _ ?_
   refine hS.lt b ?_
   have:S.m[id]?=some (some b):=by
    rw [List.getD_eq_getElem?_getD] at hb
    cases hq:S.m[id]? with
    |none=>simp [hq] at hb
    |some z=>simp [hq] at hb;rw [hb]
   exact List.mem_of_getElem? this
  ·have h0:id=S.h.length:=by
    have:=(List.getElem?_eq_some_iff.1 hid').1
    simp at this;omega
   subst h0
   rw [List.getElem?_append_right (Nat.le_refl _)] at hid'
   simp at hid'
   subst hid'
   have hm:(S.new o ob).m.getD S.h.length none=some S.w.heap.size:=by
    show (S.m++[some S.w.heap.size]).getD S.h.length none=_
    rw [←hlen];simp
   rw [hm]
   exact ho
 gl:=(Ev.new 0 M0 hS (Nat.zero_le _) o ob).glob hS.gl
def Mem.drew (S:Mem):Mem:=⟨S.m,S.h,S.w.drew⟩
theorem Ev.drew (base:Nat) (S:Mem):Ev base S S.drew:=⟨Fr.drew _ _,fun _ h=>.inl h,fun _ o _ h=>⟨o,h,ObjEv.refl _ _⟩⟩
theorem HOk.drew {M0:Nat→Prop} {S:Mem} (hS:HOk P M0 S):HOk P M0 S.drew :=
 ⟨hS.len,hS.lt,hS.m0,hS.inj,fun id o h=>(hS.obj id o h).keep (Ev.drew _ S) fun _ _=>rfl,(Ev.drew 0 S).glob hS.gl⟩
end Abs
end Go.Proofs.YtahlnclapingiaaGreatDoor
namespace Go.Proofs.YtahlnclapingiaaGreatDoor
namespace Abs
variable {P:Program}
theorem zu1 (w:World) (b:Nat) (C:Array Value) (T:TypeId) (fr:Nat×Nat) (hb:w.heap[b]?=some (.cells C T fr)):w.setRow b C=w:=by
 have hv:w.heap[b]'((Array.getElem?_eq_some_iff.1 hb).1)=.cells C T fr:=(Array.getElem?_eq_some_iff.1 hb).2
 unfold World.setRow
 cases w with
 |mk heap tape drawn os output =>
  congr 1
  apply Array.ext
  ·simp
  ·intro k h1 h2
   simp only [Array.getElem_modify]
   split
   ·rename_i hk;subst hk;simp at hv;simp [hv]
   ·rfl
def ovr (C:Array Value) (o:Nat):List Value→Array Value
 |[]=>C
 |v::r=>ovr (C.setIfInBounds o v) (o+1) r
theorem zeg:∀ (vs:List Value) (C:Array Value) (o:Nat),(ovr C o vs).size=C.size
 |[],_,_=>rfl
 |v::r,C,o=>by rw [ovr,zeg r];simp
theorem zem:∀ (vs:List Value) (C:Array Value) (o k:Nat),o+vs.length≤C.size →
  (ovr C o vs).getD k undef=if o≤k∧k<o+vs.length then vs.getD (k-o) undef else C.getD k undef
 |[],C,o,k,_=>by
  have:¬ (o≤k∧k<o+([]:List Value).length):=by simp
  rw [if_neg this,ovr]
 |v::r,C,o,k,h=>by
  have h':o+(r.length+1)≤C.size:=by simpa using h
  rw [ovr,zem r (C.setIfInBounds o v) (o+1) k (by simp;omega)]
  by_cases h1:o+1≤k∧k<o+1+r.length
  ·rw [if_pos h1,if_pos (by simp;omega),show k-o=(k-(o+1))+1 by omega]
   simp
  ·rw [if_neg h1]
   by_cases h2:k=o
   ·subst h2
    rw [if_pos (by simp)]
    simp [show k<C.size by omega]
   ·rw [if_neg (by simp;omega)]
    simp [Ne.symm h2]
theorem zeC (b:Nat) (T:TypeId):∀ (vs:List Value) (off i:Nat) (C:Array Value) (w:World),w.heap[b]?=some (.cells C T (0,0))→off+i+vs.length≤C.size →
  (∀ v∈vs,v.oneCell'=true)→(storeCells ⟨b,off,none⟩ vs i).run P w=.ok () (w.setRow b (ovr C (off+i) vs))
 |[],off,i,C,w,hb,_,_=>by
  rw [ovr,zu1 w b C T _ hb]
  rfl
 |v::r,off,i,C,w,hb,hl,h1=>by
  have hl':off+i+(r.length+1)≤C.size:=by simpa using hl
  have hcell:w.cell? ⟨b,off+i,none⟩=some C[off+i]:=by simp [World.cell?,hb,show off+i<C.size by omega]
  have hfro:w.frozen? ⟨b,off+i,none⟩=false:=by simp [World.frozen?,hb]
  have hst:(store ((⟨b,off,none⟩:Addr).add i) v).run P w=.ok () (w.setRow b (C.setIfInBounds (off+i) v)):=by
   rw [zcT,run_store P w _ v _ (h1 v (by simp)),hcell]
   simp [hfro,setCell_eq_setRow w b (off+i) C T (0,0) v hb]
  have ih:=zeC b T r off (i+1) (C.setIfInBounds (off+i) v) (w.setRow b (C.setIfInBounds (off+i) v)) (setRow_heap w b C _ T _ hb) (by simp;omega) (fun x hx=>h1 x (by simp [hx]))
  simp only [storeCells,Sem.run_bind,hst,Result.andThen_ok,ih,setRow_setRow,ovr,Nat.add_assoc]
def Mem.set (S:Mem) (id:Nat) (o:AObj) (b:Nat) (C:Array Value):Mem:=⟨S.m,S.h.set id o,S.w.setRow b C⟩
theorem zgK {m:List (Option Nat)} {id b:Nat} (h:m.getD id none=some b):Own m b∧m[id]?=some (some b):=by
 rw [List.getD_eq_getElem?_getD] at h
 cases hq:m[id]? with
 |none=>simp [hq] at h
 |some z=>simp [hq] at h;subst h;exact ⟨List.mem_of_getElem? hq,rfl⟩
theorem zjF (w:World) (b:Nat) (C C':Array Value) (T:TypeId) (fr:Nat×Nat) (hb:w.heap[b]?=some (.cells C T fr)) (hC:C'.size=C.size) (x:Nat) :
  (w.setRow b C').shape? x=w.shape? x:=by
 unfold World.shape?
 by_cases h:x=b
 ·subst h
  rw [setRow_heap w x C C' T fr hb,hb]
  simp [hC]
 ·rw [setRow_other w b x C' h]
theorem Ev.set (base:Nat) {S:Mem} {id sz b:Nat} {xs xs':List AV} {C C':Array Value} {T:TypeId} (hid:S.h[id]?=some (.row sz xs)) (hm:S.m.getD id none=some b)
  (hb:S.w.heap[b]?=some (.cells C T (0,0))) (hC:C'.size=C.size) (hlen:xs.length≤xs'.length):Ev base S (S.set id (.row sz xs') b C') where
 fr:=⟨rfl,rfl,rfl,by simp [Mem.set],
  fun x _ hn=>setRow_other _ _ _ _ (fun e=>hn (e▸(zgK hm).1)),
  fun x _=>zjF _ _ _ _ _ _ hb hC x⟩
 sub:=fun _ h=>.inl h
 obj:=fun j o hj ho=>by
  by_cases h:j=id
  ·subst h
   have:o=.row sz xs:=by rw [hid] at ho;exact (Option.some.inj ho).symm
   subst this
   refine ⟨.row sz xs',by simp [Mem.set,(List.getElem?_eq_some_iff.1 hid).1],.inr (.inl ⟨sz,xs,xs',rfl,rfl,?_⟩)⟩
   rcases Nat.lt_or_ge xs.length xs'.length with h' | h'
   ·exact .inr h'
   ·exact .inl ⟨by omega,rfl⟩
  ·exact ⟨o,by simp [Mem.set,List.getElem?_set_ne (Ne.symm h),ho],ObjEv.refl _ _⟩
def zbS (M0:Nat→Prop) (S:Mem) (sz:Nat) (C:Array Value) (xs:List AV):Prop :=
 ∀ (i:Nat) (x:AV),xs[i]?=some x→∃ cs,x.cells=some cs∧cs.length=sz∧∀ (j:Nat) (c:AV),cs[j]?=some c→c.isCell=true∧zaV M0 S (C.getD (i*sz+j) undef) c
theorem zbS.keep {M0:Nat→Prop} {S S':Mem} (e:Ev S.h.length S S') {sz:Nat} {C:Array Value} {xs:List AV} (h:zbS M0 S sz C xs):zbS M0 S' sz C xs :=
 fun i x hx=>let ⟨cs,h1,h2,h3⟩:=h i x hx;⟨cs,h1,h2,fun j c hc=>⟨(h3 j c hc).1,e.keepS (h3 j c hc).2⟩⟩
theorem HOk.set {M0:Nat→Prop} {S:Mem} (hS:HOk P M0 S) {id sz b:Nat} {xs xs':List AV} {C C':Array Value} {T:TypeId} (hid:S.h[id]?=some (.row sz xs)) (hm:S.m.getD id none=some b)
  (hb:S.w.heap[b]?=some (.cells C T (0,0))) (hC:C'.size=C.size) (hlen:xs.length≤xs'.length) (hroom:xs'.length*sz≤C'.size) (hel:zbS M0 S sz C' xs') :
  HOk P M0 (S.set id (.row sz xs') b C'):=by
 have e:=Ev.set S.h.length hid hm hb hC hlen
 refine ⟨by simp [Mem.set,hS.len],fun x hx=>?_,fun x hx=>?_,hS.inj,fun j o hj=>?_,e.glob hS.gl⟩
 ·have:=hS.lt x hx
  simpa [Mem.set] using this
 ·obtain ⟨h1,h2⟩:=hS.m0 x hx
  exact ⟨by simpa [Mem.set] using h1,h2⟩
 ·by_cases h:j=id
  ·subst h
   have:o=.row sz xs':=by
    have:(S.h.set j (.row sz xs'))[j]?=some o:=hj
    simp [(List.getElem?_eq_some_iff.1 hid).1] at this
    exact this.symm
   subst this
   refine .inr ⟨b,T,C',hm,setRow_heap _ _ _ _ _ _ hb,hroom,hel.keep e⟩
  ·have ho:S.h[j]?=some o:=by
    have:(S.h.set id (.row sz xs'))[j]?=some o:=hj
    rwa [List.getElem?_set_ne (Ne.symm h)] at this
   refine (hS.obj j o ho).keep e fun x hx=>setRow_other _ _ _ _ fun hxb=>h ?_
   subst hxb
   exact hS.inj j id x (zgK hx).2 (zgK hm).2
def Mem.regrow (S:Mem) (id:Nat) (o:AObj) (ob:Obj):Mem:=⟨S.m.set id (some S.w.heap.size),S.h.set id o,S.w.alloc ob⟩
theorem zqt {m:List (Option Nat)} {id x b:Nat} (h:Own (m.set id (some x)) b):Own m b∨b=x:=by
 unfold Own at h ⊢
 rcases List.mem_or_eq_of_mem_set h with h | h
 ·exact .inl h
 ·exact .inr (by simpa using h)
theorem Ev.regrow (base:Nat) {S:Mem} {id sz:Nat} {xs xs':List AV} {ob:Obj} (hid:S.h[id]?=some (.row sz xs)) (hlen:xs.length<xs'.length) :
  Ev base S (S.regrow id (.row sz xs') ob) where
 fr:=Fr.alloc _ _ _
 sub:=fun b h=>by
  rcases zqt h with h | rfl
  ·exact .inl h
  ·exact .inr (Nat.le_refl _)
 obj:=fun j o hj ho=>by
  by_cases h:j=id
  ·subst h
   have:o=.row sz xs:=by rw [hid] at ho;exact (Option.some.inj ho).symm
   subst this
   exact ⟨.row sz xs',by simp [Mem.regrow,(List.getElem?_eq_some_iff.1 hid).1],.inr (.inl ⟨sz,xs,xs',rfl,rfl,.inr hlen⟩)⟩
  ·refine ⟨o,by simp [Mem.regrow,List.getElem?_set_ne (Ne.symm h),ho],?_⟩
   have:(S.regrow id (.row sz xs') ob).m.getD j none=S.m.getD j none:=by
    simp [Mem.regrow,List.getD_eq_getElem?_getD,List.getElem?_set_ne (Ne.symm h)]
   rw [this]
   exact ObjEv.refl _ _
theorem HOk.regrow {M0:Nat→Prop} {S:Mem} (hS:HOk P M0 S) {id sz:Nat} {xs xs':List AV} {C:Array Value} {T:TypeId} (hid:S.h[id]?=some (.row sz xs))
  (hlen:xs.length<xs'.length) (hroom:xs'.length*sz≤C.size) (hel:zbS M0 S sz C xs'):HOk P M0 (S.regrow id (.row sz xs') (.cells C T)):=by
 have e:=Ev.regrow S.h.length (ob:=.cells C T) hid hlen
 have hidlt:=(List.getElem?_eq_some_iff.1 hid).1
 have hml:=hS.len
 refine ⟨by simp [Mem.regrow,hS.len],fun x hx=>?_,fun x hx=>?_,fun i j x hi hj=>?_,fun j o hj=>?_,e.glob hS.gl⟩
 ·rcases zqt hx with h | rfl
  ·have:=hS.lt x h;simp [Mem.regrow];omega
  ·simp [Mem.regrow]
 ·obtain ⟨h1,h2⟩:=hS.m0 x hx
  refine ⟨by simp [Mem.regrow];omega,fun hn=>?_⟩
  rcases zqt hn with h | rfl
  ·exact h2 h
  ·omega
 ·have key:∀ k:Nat,(S.m.set id (some S.w.heap.size))[k]?=some (some x)→(k≠id∧S.m[k]?=some (some x)∧x<S.w.heap.size)∨(k=id∧x=S.w.heap.size):=by
   intro k hk
   by_cases h:k=id
   ·subst h
    rw [List.getElem?_set_self (by omega)] at hk
    exact .inr ⟨rfl,by simpa using hk.symm⟩
   ·rw [List.getElem?_set_ne (Ne.symm h)] at hk
    exact .inl ⟨h,hk,hS.lt x (List.mem_of_getElem? hk)⟩
  rcases key i hi with ⟨h1,h2,h3⟩ | ⟨h1,h2⟩<;>rcases key j hj with ⟨h4,h5,h6⟩ | ⟨h4,h5⟩
  ·exact hS.inj i j x h2 h5
  ·omega
  ·omega
  ·omega
 ·by_cases h:j=id
  ·subst h
   have:o=.row sz xs':=by
    have:(S.h.set j (.row sz xs'))[j]?=some o:=hj
    simp [hidlt] at this
    exact this.symm
   subst this
   refine .inr ⟨S.w.heap.size,T,C,?_,zaU _ _,hroom,hel.keep e⟩
   simp [Mem.regrow,List.getD_eq_getElem?_getD,List.getElem?_set_self (show j<S.m.length by omega)]
  ·have ho:S.h[j]?=some o:=by
    have:(S.h.set id (.row sz xs'))[j]?=some o:=hj
    rwa [List.getElem?_set_ne (Ne.symm h)] at this
   have hm:(S.regrow id (.row sz xs') (.cells C T)).m.getD j none=S.m.getD j none:=by
    simp [Mem.regrow,List.getD_eq_getElem?_getD,List.getElem?_set_ne (Ne.symm h)]
   rw [hm]
   exact (hS.obj j o ho).keep e fun x hx=>zde _ _ _ (hS.lt x (zgK hx).1)
end Abs
end Go.Proofs.YtahlnclapingiaaGreatDoor
namespace Go.Proofs.YtahlnclapingiaaGreatDoor
namespace Abs
variable {P:Program} {M0:Nat→Prop} {S:Mem}
def zaw (P:Program) (M0:Nat→Prop) (S:Mem) (s:Sem Value):OR→Prop
 |.val v h=>∃ (S':Mem) (v':Value),S'.h=h∧s.run P S.w=.ok v' S'.w∧Ev S.h.length S S'∧HOk P M0 S'∧Rep M0 S' v' v
 |.stuck=>True
 |_=>False
def zqe (P:Program) (M0:Nat→Prop) (S:Mem) (s:Sem Unit):OR→Prop
 |.skip h=>∃ S':Mem,S'.h=h∧s.run P S.w=.ok () S'.w∧Ev S.h.length S S'∧HOk P M0 S'
 |.stuck=>True
 |_=>False
theorem zaw.pure (hS:HOk P M0 S) {s:Sem Value} {v:AV} {v':Value} (hr:s.run P S.w=.ok v' S.w) (h:Rep M0 S v' v):zaw P M0 S s (.val v S.h) :=
 ⟨S,v',rfl,hr,Ev.refl _ _,hS,h⟩
theorem zaw.opt (hS:HOk P M0 S) {s:Sem Value} {v:Option AV} (h:∀ x,v=some x→∃ v',s.run P S.w=.ok v' S.w∧Rep M0 S v' x):zaw P M0 S s (zej S.h v):=by
 cases v with
 |none=>exact trivial
 |some x=>obtain ⟨v',h1,h2⟩:=h x rfl;exact zaw.pure hS h1 h2
theorem zbz {id ver sz:Nat} {xs:List AV} {X:Nat→Option Nat→Prop} (h:zbR S id ver X) (hid:S.h[id]?=some (.row sz xs)) (hv:xs.length=ver):X sz (S.m.getD id none):=by
 rcases h with h | ⟨sz',xs',h,_,hx⟩
 ·rw [hid] at h;cases h
 ·rw [hid] at h;cases h;exact hx hv
theorem zcV (hS:HOk P M0 S) {id sz b:Nat} {xs:List AV} (hid:S.h[id]?=some (.row sz xs)) (hm:S.m.getD id none=some b) :
  ∃ C T,S.w.heap[b]?=some (.cells C T (0,0))∧xs.length*sz≤C.size∧zbS M0 S sz C xs:=by
 have:=hS.obj id _ hid
 rw [hm] at this
 rcases this with ⟨h,_⟩ | ⟨b',T,C,h1,h2,h3,h4⟩
 ·cases h
 ·cases h1
  exact ⟨C,T,h2,h3,h4⟩
theorem zeR {w:World} {b:Nat} {C:Array Value} {T:TypeId} {fr:Nat×Nat} (h:w.heap[b]?=some (.cells C T fr)) (k:Nat) (hk:k<C.size):w.cell? ⟨b,k,none⟩=some (C.getD k undef):=by
 simp [World.cell?,h,hk]
theorem zel {i n sz j:Nat} (hi:i<n) (hj:j<sz):i*sz+j<n*sz:=by
 have h1:(i+1)*sz≤n*sz:=Nat.mul_le_mul_right sz hi
 rw [Nat.add_mul,Nat.one_mul] at h1
 omega
theorem zou {x:PV} {sz:Nat} (h:x.cells.length=sz∧∀ c,c∈x.cells→c.isCell=true):(AV.p x).cells=some (x.cells.map .p):=by
 cases x with
 |tuple l=>have:=h.2 (.tuple l) (by simp [PV.cells]);simp [PV.isCell] at this
 |_=>rfl
theorem zlx (hcells:Nat→Value) {T:TypeId} {x y:AV} {cs:List AV} {o b at_:Nat} (hx:x.cells=some cs) (hrep:zdW M0 S hcells cs)
  (hcell:∀ j,o+j<cs.length→S.w.cell? ⟨b,at_+j,none⟩=some (hcells (o+j))) (hz:zfV P T x o=some y) :
  ∃ v',(loadVar T ⟨b,at_,none⟩).run P S.w=.ok v' S.w∧Rep M0 S v' y:=by
 unfold zfV at hz
 split at hz
 ·rename_i ag n hag hn
  obtain ⟨h1,h2,h3⟩:=zta hx hrep hz
  exact ⟨_,zsW hag hn S.w b at_ (fun j=>hcells (o+j)) (fun e j hj=>hcell j (h1 j hj e)) (fun e=>by simpa using hcell 0 (h2 e)),by simpa using h3⟩
 ·cases hz
theorem zDD (hS:HOk P M0 S) {T:TypeId} {x:AV} {v:Value} (hx:Rep M0 S v x):zaw P M0 S (Instr.loadAt T v) (zhY P T x S.h):=by
 unfold zhY
 split
 ·rename_i sz xs i o
  split
  ·rename_i y hy
   have h:RepP (Avoid M0 S.m) S.w v (.ptr sz xs i o):=hx
   cases h with
   |ptr f hat hsz hM hc hr =>
    rename_i b off at_
    refine zaw.opt hS fun z hz=>?_
    have hi:=(List.getElem?_eq_some_iff.1 hy).1
    have hsy:=hsz y (List.mem_of_getElem? hy)
    have hrep:zdW M0 S (fun j=>f (i*sz+j)) (y.cells.map .p):=by
     intro j c hj
     simp only [List.getElem?_map,Option.map_eq_some_iff] at hj
     obtain ⟨q,hq,rfl⟩:=hj
     exact ⟨hsy.2 q (List.mem_of_getElem? hq),hr i j y q hy hq⟩
    have hlen:(y.cells.map AV.p).length=sz:=by simpa using hsy.1
    obtain ⟨v',h1,h2⟩:=zlx (P:=P) (fun j=>f (i*sz+j)) (b:=b) (at_:=at_) (zou hsy) hrep (fun j hj=>by
     rw [←hc (i*sz+(o+j)) (zel hi (by omega)),hat]
     simp only [Nat.add_assoc]) hz
    exact ⟨v',by simpa [Instr.loadAt,Instr.sureAddr] using h1,h2⟩
  ·exact trivial
 ·rename_i id ver i o
  split
  ·rename_i sz xs hid
   split
   ·rename_i hv
    split
    ·rename_i y hy
     refine zaw.opt hS fun z hz=>?_
     obtain ⟨b,hm,rfl⟩:=zbz hx.2 hid hv
     obtain ⟨C,T',hb,hsize,hel⟩:=zcV hS hid hm
     obtain ⟨cs,h5,h6,h7⟩:=hel i y hy
     have hi:=(List.getElem?_eq_some_iff.1 hy).1
     obtain ⟨v',h1,h2⟩:=zlx (P:=P) (fun j=>C.getD (i*sz+j) undef) (b:=b) (at_:=i*sz+o) h5 h7 (fun j hj=>by
      rw [Nat.add_assoc]
      exact zeR hb _ (Nat.lt_of_lt_of_le (zel hi (by omega)) hsize)) hz
     exact ⟨v',by simpa [Instr.loadAt,Instr.sureAddr] using h1,h2⟩
    ·exact trivial
   ·exact trivial
  ·exact trivial
 ·exact trivial
theorem zvq (cs:List AV):(zjf cs).cells=some cs:=by
 unfold zjf
 cases hp:zdx cs with
 |some l=>rw [zeF hp];rfl
 |none=>rfl
theorem zjN {α:Type} (cs new:List α) (o j:Nat) (h:o+new.length≤cs.length) :
  (zfm cs o new)[j]?=if o≤j∧j<o+new.length then new[j-o]? else cs[j]?:=by
 unfold zfm
 have h1:(cs.take o).length=o:=by simp;omega
 by_cases a:j<o
 ·rw [if_neg (by omega),List.append_assoc,List.getElem?_append_left (by omega),List.getElem?_take,if_pos a]
 ·by_cases b:j<o+new.length
  ·rw [if_pos ⟨by omega,b⟩,List.getElem?_append_left (by simp;omega),List.getElem?_append_right (by omega),h1]
  ·rw [if_neg (by omega),List.getElem?_append_right (by simp;omega),List.getElem?_drop]
   congr 1
   simp [h1];omega
theorem zhw {α:Type} (cs new:List α) (o:Nat) (h:o+new.length≤cs.length):(zfm cs o new).length=cs.length:=by
 unfold zfm
 simp;omega
theorem zdu (C:Array Value) (j:Nat):C.toList.getD j undef=C.getD j undef:=by
 simp [List.getD_eq_getElem?_getD]
theorem zAy (hS:HOk P M0 S) {T:TypeId} {x y:AV} {v u:Value} (hx:Rep M0 S v x) (hy:Rep M0 S u y):zqe P M0 S (Instr.storeAt T v u) (zdK P T x y S.h):=by
 unfold zdK
 split
 ·rename_i id ver i o n hn
  split
  ·rename_i sz xs hid
   split
   ·rename_i hv
    split
    ·rename_i e he
     split
     ·rename_i e' he'
      obtain ⟨b,hm,rfl⟩:=zbz hx.2 hid hv
      obtain ⟨C,T',hb,hsize,hel⟩:=zcV hS hid hm
      obtain ⟨cs,h5,h6,h7⟩:=hel i e he
      have hi:=(List.getElem?_eq_some_iff.1 he).1
      unfold AV.withCells at he'
      rw [h5] at he'
      cases hyc:y.cells with
      |none=>simp [hyc] at he'
      |some new =>
       simp only [hyc] at he'
       split at he'
       ·rename_i hnew
        obtain ⟨hun,hur⟩:=zeD hy hyc
        have hle:o+n≤sz:=by
         split at he'
         ·rename_i hc;omega
         ·split at he'
          ·rename_i hc;omega
          ·cases he'
        have he2:e'.cells=some (zfm cs o new)∧(zfm cs o new).length=sz:=by
         split at he'
         ·rename_i hc
          cases he'
          obtain ⟨hc1,rfl⟩:=hc
          refine ⟨?_,by rw [zhw _ _ _ (by omega)];omega⟩
          rw [hyc]
          congr 1
          apply List.ext_getElem?
          intro j
          rw [zjN _ _ _ _ (by omega)]
          by_cases hj:j<new.length
          ·rw [if_pos ⟨by omega,by omega⟩];simp
          ·rw [if_neg (by omega),List.getElem?_eq_none (by omega),List.getElem?_eq_none (by omega)]
         ·split at he'
          ·cases he'
           exact ⟨zvq _,by rw [zhw _ _ _ (by omega)];omega⟩
          ·cases he'
        have hvl:u.cells.toList.length=n:=by simp;omega
        have hin:i*sz+sz≤xs.length*sz:=by
         have:(i+1)*sz≤xs.length*sz:=Nat.mul_le_mul_right sz hi
         rwa [Nat.add_mul,Nat.one_mul] at this
        have hbound:i*sz+o+u.cells.toList.length≤C.size:=by omega
        have hone:∀ z∈u.cells.toList,z.oneCell'=true:=by
         intro z hz
         obtain ⟨j,hj⟩:=List.getElem?_of_mem hz
         have hjl:=(List.getElem?_eq_some_iff.1 hj).1
         have hjn:j<new.length:=by omega
         obtain ⟨h8,h9⟩:=hur j new[j] (by simp [hjn])
         have:u.cells.getD j undef=z:=by rw [←zdu,List.getD_eq_getElem?_getD,hj];rfl
         simp only [this] at h9
         exact zhz h8 h9
        have hrun:=zeC (P:=P) b T' u.cells.toList (i*sz+o) 0 C S.w hb (by omega) hone
        simp only [Nat.add_zero] at hrun
        refine ⟨S.set id (.row sz (xs.set i e')) b (ovr C (i*sz+o) u.cells.toList),rfl,?_,Ev.set _ hid hm hb (zeg _ _ _) (by simp),HOk.set hS hid hm hb (zeg _ _ _) (by simp) (by simp [zeg];omega) ?_⟩
        ·unfold Instr.storeAt storeVar
         simp only [Instr.sureAddr,Sem.run_bind,Sem.run_pure,Result.andThen_ok,zaW hn]
         rw [if_neg (by omega)]
         simpa [Mem.set] using hrun
        ·intro k z hk
         by_cases hki:k=i
         ·subst hki
          rw [List.getElem?_set_self hi] at hk
          cases hk
          refine ⟨_,he2.1,he2.2,fun j c hc=>?_⟩
          have hjl:=(List.getElem?_eq_some_iff.1 hc).1
          rw [zjN _ _ _ _ (by omega)] at hc
          rw [zem _ _ _ _ hbound]
          split at hc
          ·rename_i hj
           rw [if_pos (by omega)]
           have:=hur (j-o) c hc
           rw [show k*sz+j-(k*sz+o)=j-o by omega,zdu]
           exact this
          ·rename_i hj
           rw [if_neg (by omega)]
           exact h7 j c hc
         ·rw [List.getElem?_set_ne (Ne.symm hki)] at hk
          obtain ⟨cs',g1,g2,g3⟩:=hel k z hk
          refine ⟨cs',g1,g2,fun j c hc=>?_⟩
          have hjl:=(List.getElem?_eq_some_iff.1 hc).1
          have hkl:=(List.getElem?_eq_some_iff.1 hk).1
          rw [zem _ _ _ _ hbound,if_neg ?_]
          ·exact g3 j c hc
          ·intro hh
           rcases Nat.lt_or_ge k i with h' | h'
           ·have:(k+1)*sz≤i*sz:=Nat.mul_le_mul_right sz h'
            rw [Nat.add_mul,Nat.one_mul] at this
            omega
           ·have:(i+1)*sz≤k*sz:=Nat.mul_le_mul_right sz (by omega)
            rw [Nat.add_mul,Nat.one_mul] at this
            omega
       ·cases he'
     ·exact trivial
    ·exact trivial
   ·exact trivial
  ·exact trivial
 ·exact trivial
theorem zoa {T:TypeId} {f off:Nat} {t:TypeId} (h:zac P T f=some (off,t)) :
  ∃ fs fd,P.underlying T=some (.struct fs)∧fs[f]?=some fd∧fd.offset=off∧fd.type=t:=by
 unfold zac at h
 split at h
 ·rename_i fs hu
  simp only [Option.map_eq_some_iff,Prod.mk.injEq] at h
  obtain ⟨fd,h1,h2,h3⟩:=h
  exact ⟨fs,fd,hu,h1,h2,h3⟩
 ·cases h
theorem zge {h:Heap} {id ver sz:Nat} (e:zdR h id ver=some sz):∃ xs,h[id]?=some (.row sz xs)∧xs.length=ver:=by
 unfold zdR at e
 split at e
 ·rename_i sz' xs hid
  split at e
  ·rename_i hv;cases e;exact ⟨xs,hid,hv⟩
  ·cases e
 ·cases e
theorem zlN {id ver i o' sz:Nat} {xs:List AV} {b:Nat} (hid:S.h[id]?=some (.row sz xs)) (hv:xs.length=ver) (hm:S.m.getD id none=some b) :
  Rep M0 S (.pointer (some ⟨b,i*sz+o',none⟩)) (.ptr id ver i o') :=
 ⟨⟨_,rfl⟩,.inr ⟨sz,xs,hid,by omega,fun _=>⟨b,hm,rfl⟩⟩⟩
theorem ztP (hS:HOk P M0 S) {T:TypeId} {x:AV} {v:Value} {f:Nat} (hx:Rep M0 S v x):zaw P M0 S (Instr.fieldAt T v f) (zgD P T x f S.h):=by
 unfold zgD
 split
 ·exact trivial
 ·rename_i off t hf
  obtain ⟨fs,fd,hu,hfd,rfl,rfl⟩:=zoa hf
  split
  ·exact trivial
  ·rename_i n hsz
   split
   ·exact trivial
   ·rename_i hn0
    have run:∀ (b at_:Nat),(Instr.fieldAt T (.pointer (some ⟨b,at_,none⟩)) f).run P S.w=.ok (.pointer (some ⟨b,at_+fd.offset,none⟩)) S.w:=by
     intro b at_
     simp [Instr.fieldAt,run_underlying hu,hfd,Instr.sureAddr,fieldPlace,zaW hsz,hn0,zcT]
    split
    ·rename_i sz xs i o
     have h:RepP (Avoid M0 S.m) S.w v (.ptr sz xs i o):=hx
     cases h with
     |ptr g hat hs hM hc hr =>
      refine zaw.pure hS (run _ _) (zas (.ptr g ?_ hs hM hc hr))
      rw [hat,Nat.add_assoc]
    ·rename_i id ver i o
     split
     ·rename_i sz hl
      obtain ⟨xs,hid,hv⟩:=zge hl
      obtain ⟨b,hm,rfl⟩:=zbz hx.2 hid hv
      refine zaw.pure hS (run _ _) ?_
      rw [Nat.add_assoc]
      exact zlN hid hv hm
     ·exact trivial
    ·exact trivial
theorem zbh {T e:TypeId} (h:zaM P T=some e):P.underlying T=some (.slice e):=by
 unfold zaM at h
 split at h
 ·rename_i e' hu;cases h;exact hu
 ·cases h
theorem zgV {T e:TypeId} {n:Nat} (h:zbQ P T=some (n,e)):P.underlying T=some (.array n e):=by
 unfold zbQ at h
 split at h
 ·rename_i n' e' hu;cases h;exact hu
 ·cases h
theorem zec {v:Value} {k:IntKind} {i:Int} (h:Rep M0 S v (.p (.int k i))):v=.int k i:=by
 have h':RepP (Avoid M0 S.m) S.w v (.int k i):=h
 cases h' with
 |int k n=>rfl
theorem zik {v:Value} {b:Bool} (h:Rep M0 S v (.p (.bool b))):v=.bool b:=by
 have h':RepP (Avoid M0 S.m) S.w v (.bool b):=h
 cases h' with
 |bool b=>rfl
theorem ztG (hS:HOk P M0 S) {T:TypeId} {x ix:AV} {v vi:Value} (hx:Rep M0 S v x) (hi:Rep M0 S vi ix):zaw P M0 S (Instr.indexAt T v vi) (zd2 P T x ix S.h):=by
 unfold zd2
 split
 ·rename_i k i
  have:=zec hi
  subst this
  split
  ·rename_i sz xs full
   split
   ·rename_i e he
    split
    ·rename_i hc
     obtain ⟨hsz,h0,hlt⟩:=hc
     have hu:=zbh he
     have h:RepP (Avoid M0 S.m) S.w v (.slice sz xs full):=hx
     cases h with
     |slice f hlen hcap hfull hs hM hcell hr =>
      rename_i b off len cap
      subst hlen
      refine zaw.pure hS (v':=.pointer (some ⟨b,off+i.toNat*sz,none⟩)) ?_ (zas (.ptr f (by omega) hs hM hcell hr))
      simp [Instr.indexAt,asIntOf,run_underlying hu,h0,hlt,zaW hsz,zcT]
     |empty hfull=>simp at hlt;omega
    ·exact trivial
   ·exact trivial
  ·rename_i id ver off len
   split
   ·rename_i e sz xs he hid
    split
    ·rename_i hc
     obtain ⟨hsz,hv,h0,hlt⟩:=hc
     have hu:=zbh he
     have hl:=zbz hx.2 hid hv
     rcases hl with ⟨h1,_⟩ | ⟨b,cap,T',n,hm,rfl,hlc,hsh,hroom⟩ | ⟨_,_,h1⟩
     ·omega
     ·refine zaw.pure hS (v':=.pointer (some ⟨b,(off+i.toNat)*sz+0,none⟩)) ?_ (zlN hid hv hm)
      simp [Instr.indexAt,asIntOf,run_underlying hu,h0,hlt,zaW hsz,zcT,Nat.add_mul]
     ·omega
    ·exact trivial
   ·exact trivial
  ·rename_i sz xs j o
   split
   ·rename_i n e he
    split
    ·rename_i s hs
     split
     ·rename_i hc
      obtain ⟨h0,hlt⟩:=hc
      have hu:=zgV he
      have h:RepP (Avoid M0 S.m) S.w v (.ptr sz xs j o):=hx
      cases h with
      |ptr g hat hsz hM hcell hr =>
       rename_i b off at_
       refine zaw.pure hS (v':=.pointer (some ⟨b,at_+i.toNat*s,none⟩)) ?_ (zas (.ptr g (by rw [hat,Nat.add_assoc]) hsz hM hcell hr))
       simp [Instr.indexAt,asIntOf,run_underlying hu,h0,hlt,zaW hs,zcT,Instr.sureAddr]
     ·exact trivial
    ·exact trivial
   ·exact trivial
  ·rename_i id ver j o
   split
   ·rename_i n e he
    split
    ·rename_i s sz hs hl
     split
     ·rename_i hc
      obtain ⟨h0,hlt⟩:=hc
      have hu:=zgV he
      obtain ⟨xs,hid,hv⟩:=zge hl
      obtain ⟨b,hm,rfl⟩:=zbz hx.2 hid hv
      refine zaw.pure hS (v':=.pointer (some ⟨b,j*sz+(o+i.toNat*s),none⟩)) ?_ (zlN hid hv hm)
      simp [Instr.indexAt,asIntOf,run_underlying hu,h0,hlt,zaW hs,zcT,Instr.sureAddr,Nat.add_assoc]
     ·exact trivial
    ·exact trivial
   ·exact trivial
  ·exact trivial
 ·exact trivial
theorem zcW {T:TypeId} (h:zcw P T=true):P.underlying T=some .string:=by
 unfold zcw at h
 split at h
 ·assumption
 ·cases h
theorem zrh {T:TypeId} {x y:AV} {v:Value} {o:Nat} {C:Array Value} (hv:v=.agg C) (hx:Rep M0 S v x) (hag:x.cells.isSome) (hz:zfV P T x o=some y) :
  ∃ v',(part T C o).run P S.w=.ok v' S.w∧Rep M0 S v' y:=by
 subst hv
 obtain ⟨cs,hcs⟩:=Option.isSome_iff_exists.1 hag
 obtain ⟨hn,hrep⟩:=zeD hx hcs
 simp only [Value.cells] at hn hrep
 unfold zfV at hz
 split at hz
 ·rename_i ag n hg hsz
  obtain ⟨h1,h2,h3⟩:=zta hcs hrep hz
  cases ag with
  |true =>
   refine ⟨.agg (C.extract o (o+n)),?_,?_⟩
   ·simp [part,zfk hg,zaW hsz]
   ·have hle:n=0∨o+n≤C.size:=by
     rcases Nat.eq_zero_or_pos n with h | h
     ·exact .inl h
     ·have:=h1 (n-1) (by omega) rfl;exact .inr (by omega)
    have:C.extract o (o+n)=((List.range n).map fun j=>C.getD (o+j) undef).toArray:=by
     apply Array.ext
     ·simp;omega
     ·intro k hk1 hk2
      have hkn:k<n:=by simpa using hk2
      simp [show o+k<C.size by rcases hle with h | h<;>omega]
    rw [this]
    simpa using h3
  |false =>
   have ho:=h2 rfl
   refine ⟨C.getD o undef,?_,by simpa using h3⟩
   simp [part,zfk hg,show o<C.size by omega]
 ·cases hz
theorem zq1 {v:Value} {x:AV} (hx:Rep M0 S v x) (h:(∃ l,x=.p (.agg l))∨∃ l,x=.agg l):∃ C,v=.agg C:=by
 rcases h with ⟨l,rfl⟩ | ⟨l,rfl⟩
 ·have h':RepP (Avoid M0 S.m) S.w v (.agg l):=hx
  cases h' with
  |agg=>exact ⟨_,rfl⟩
 ·obtain ⟨C,rfl,_⟩:=hx
  exact ⟨C,rfl⟩
theorem zBk (hS:HOk P M0 S) {T:TypeId} {x:AV} {v:Value} {f:Nat} (hx:Rep M0 S v x):zaw P M0 S (Instr.field T v f) (zlg P T x f S.h):=by
 unfold zlg
 split
 ·exact trivial
 ·rename_i off t hf
  obtain ⟨fs,fd,hu,hfd,rfl,rfl⟩:=zoa hf
  have key:((∃ l,x=.p (.agg l))∨∃ l,x=.agg l)→zaw P M0 S (Instr.field T v f) (zej S.h (zfV P fd.type x fd.offset)):=by
   intro hk
   refine zaw.opt hS fun y hy=>?_
   obtain ⟨C,hv⟩:=zq1 hx hk
   obtain ⟨v',h1,h2⟩:=zrh hv hx (by rcases hk with ⟨l,rfl⟩ | ⟨l,rfl⟩<;>rfl) hy
   exact ⟨v',by simp [Instr.field,run_underlying hu,hfd,hv,asAgg,h1],h2⟩
  split
  ·exact key (.inl ⟨_,rfl⟩)
  ·exact key (.inr ⟨_,rfl⟩)
  ·exact trivial
theorem zA7 (hS:HOk P M0 S) {T:TypeId} {x ix:AV} {v vi:Value} (hx:Rep M0 S v x) (hi:Rep M0 S vi ix):zaw P M0 S (Instr.index T v vi) (znk P T x ix S.h):=by
 unfold znk
 split
 ·rename_i k i
  have:=zec hi
  subst this
  have key:((∃ l,x=.p (.agg l))∨∃ l,x=.agg l)→∀ n e s,zbQ P T=some (n,e)→za7 P e=some s→(0≤i∧i<n) →
    zaw P M0 S (Instr.index T v (.int k i)) (zej S.h (zfV P e x (i.toNat*s))):=by
   intro hk n e s he hs hc
   obtain ⟨h0,hlt⟩:=hc
   refine zaw.opt hS fun y hy=>?_
   obtain ⟨C,hv⟩:=zq1 hx hk
   obtain ⟨v',h1,h2⟩:=zrh hv hx (by rcases hk with ⟨l,rfl⟩ | ⟨l,rfl⟩<;>rfl) hy
   exact ⟨v',by simp [Instr.index,asIntOf,run_underlying (zgV he),hv,h0,hlt,zaW hs,h1],h2⟩
  split
  ·rename_i s
   split
   ·rename_i hc
    obtain ⟨hst,h0⟩:=hc
    split
    ·rename_i b hb
     have h':RepP (Avoid M0 S.m) S.w v (.str s):=hx
     cases h' with
     |str s =>
      refine zaw.pure hS (v':=.int .u8 b.toNat) ?_ (zas (.int _ _))
      simp [Instr.index,asIntOf,run_underlying (zcW hst),h0,hb]
    ·exact trivial
   ·exact trivial
  ·split
   ·split
    ·split
     ·rename_i n e he _ s hs hc
      exact key (.inl ⟨_,rfl⟩) n e s he hs hc
     ·exact trivial
    ·exact trivial
   ·exact trivial
  ·split
   ·split
    ·split
     ·rename_i n e he _ s hs hc
      exact key (.inr ⟨_,rfl⟩) n e s he hs hc
     ·exact trivial
    ·exact trivial
   ·exact trivial
  ·exact trivial
 ·exact trivial
end Abs
end Go.Proofs.YtahlnclapingiaaGreatDoor
