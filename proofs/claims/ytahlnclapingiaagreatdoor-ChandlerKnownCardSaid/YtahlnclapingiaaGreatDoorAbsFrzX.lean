/-
  LAWS: pure contracts, with arguments in the caller's own memory; weaker states.
  LAWS: states that say less: forgotten temporaries, forgotten memory, an empty row in place
-/
import Derived.Test.YtahlnclapingiaaGreatDoorAbsEval
set_option linter.unusedSimpArgs false
set_option linter.unusedVariables false
namespace Go.Proofs.YtahlnclapingiaaGreatDoor
namespace Abs
variable {P:Program} {M0:Nat→Prop}
inductive Flat:PV→Prop
 |bool (b:Bool):Flat (.bool b)
 |int (k:IntKind) (n:Int):Flat (.int k n)
 |str (s:ByteArray):Flat (.str s)
 |agg {cs:List PV} (h:∀ (i:Nat) (c:PV),cs[i]?=some c→Flat c):Flat (.agg cs)
 |tuple {cs:List PV} (h:∀ (i:Nat) (c:PV),cs[i]?=some c→Flat c):Flat (.tuple cs)
 |nilslice:Flat .nilslice
 |nilptr:Flat .nilptr
 |nilfunc:Flat .nilfunc
 |iface {t:TypeId} {q:PV} (h:Flat q):Flat (.iface t q)
 |niliface:Flat .niliface
 |any:Flat .any
theorem Flat.nil (i:Nat) (c:PV) (h:([]:List PV)[i]?=some c):Flat c:=by simp at h
theorem Flat.cons {q:PV} {l:List PV} (hq:Flat q) (hl:∀ (i:Nat) (c:PV),l[i]?=some c→Flat c) (i:Nat) (c:PV) (h:(q::l)[i]?=some c):Flat c:=by
 cases i with
 |zero=>cases h;exact hq
 |succ i=>exact hl i c (by simpa using h)
theorem Flat.rep {q:PV} (hf:Flat q) {M M':Nat→Prop} {w w':World} {v:Value} (h:RepP M w v q):RepP M' w' v q:=by
 induction hf generalizing v with
 |bool b=>cases h;exact .bool b
 |int k n=>cases h;exact .int k n
 |str s=>cases h;exact .str s
 |agg _ ih=>cases h with | agg hn hs hr=>exact .agg hn hs fun i c hi=>ih i c hi (hr i c hi)
 |tuple _ ih=>cases h with | tuple hn hr=>exact .tuple hn fun i c hi=>ih i c hi (hr i c hi)
 |nilslice=>cases h;exact .nilslice
 |nilptr=>cases h;exact .nilptr
 |nilfunc=>cases h;exact .nilfunc
 |iface _ ih=>cases h with | iface hr=>exact .iface (ih hr)
 |niliface=>cases h;exact .niliface
 |any=>cases h<;>constructor
def zaD (F:AV→Option PV):List AV→Option (List PV)
 |[]=>some []
 |a::l=>match F a,zaD F l with | some q,some r=>some (q::r) | _,_=>none
def zgO (F:AV→Option PV) (ver:Nat):Option AObj→Option (Nat×List PV)
 |some (.row sz xs)=>if xs.length=ver then (zaD F xs).map fun l=>(sz,l) else none
 |_=>none
def zbe:Nat→Heap→AV→Option PV
 |_,_,.p v=>some v
 |0,_,_=>none
 |n+1,h,.ptr id ver i o=>(zgO (zbe n h) ver h[id]?).map fun q=>.ptr q.1 q.2 i o
 |n+1,h,.slice id ver off len=>(zgO (zbe n h) ver h[id]?).map fun q=>.slice q.1 ((q.2.take (off+len)).drop off) false
 |n+1,h,.func fn first cap=>match zaD (zbe n h) first,zaD (zbe n h) cap with | some a,some b=>some (.func fn a b) | _,_=>none
 |n+1,h,.agg cs=>(zaD (zbe n h) cs).map .agg
 |n+1,h,.tuple cs=>(zaD (zbe n h) cs).map .tuple
 |_+1,_,.ref .mp _=>some .any
 |_,_,_=>none
def frz (h:Heap) (a:AV):Option PV:=zbe 8 h a
def zi2 (h:Heap) (l:List AV):Option (List PV):=zaD (frz h) l
theorem zcp (n:Nat) (h:Heap) (v:PV):zbe n h (.p v)=some v:=by cases n<;>rfl
theorem zbV {α:Type} {F:AV→Option PV} (hF:∀ v,F (.p v)=some v) (f:α→PV):∀ l:List α,zaD F (l.map fun x=>.p (f x))=some (l.map f)
 |[]=>rfl
 |x::r=>by rw [List.map_cons,zaD,zbV hF f r,hF];rfl
theorem ztL {α:Type} (n:Nat) (h:Heap) (f:α→PV) (l:List α):zaD (zbe n h) (l.map fun x=>.p (f x))=some (l.map f):=zbV (zcp n h) f l
theorem zcL {F:AV→Option PV}:∀ {l:List AV} {qs:List PV},zaD F l=some qs→l.length=qs.length∧∀ (i:Nat) (q:PV),qs[i]?=some q→∃ a,l[i]?=some a∧F a=some q
 |[],qs,e=>by cases e;exact ⟨rfl,by simp⟩
 |a::l,qs,e=>by
  unfold zaD at e
  split at e
  ·rename_i q r h1 h2
   cases e
   obtain ⟨h3,h4⟩:=zcL h2
   refine ⟨by simp [h3],fun i q' hi=>?_⟩
   cases i with
   |zero=>cases hi;exact ⟨a,rfl,h1⟩
   |succ i=>exact h4 i q' (by simpa using hi)
  ·cases e
theorem ziN {F:AV→Option PV} {ver:Nat} {o:Option AObj} {q:Nat×List PV} (e:zgO F ver o=some q):∃ xs,o=some (.row q.1 xs)∧xs.length=ver∧zaD F xs=some q.2:=by
 unfold zgO at e
 split at e
 ·rename_i sz xs
  split at e
  ·rename_i hv
   simp only [Option.map_eq_some_iff] at e
   obtain ⟨l,h1,rfl⟩:=e
   exact ⟨xs,rfl,hv,h1⟩
  ·cases e
 ·cases e
theorem zhm {n:Nat} {h:Heap} {a:AV} {q:PV} (ha:a.isCell=true) (e:zbe n h a=some q):q.isCell=true:=by
 cases a with
 |p v=>rw [zcp] at e;cases e;exact ha
 |agg cs=>cases ha
 |tuple cs=>cases ha
 |undef=>cases ha
 |ref k id=>cases n<;>cases k<;>first | (cases e;rfl) | cases e
 |ptr id ver i o =>
  cases n with
  |zero=>cases e
  |succ n =>
   unfold zbe at e
   simp only [Option.map_eq_some_iff] at e
   obtain ⟨q',_,rfl⟩:=e
   rfl
 |slice id ver off len =>
  cases n with
  |zero=>cases e
  |succ n =>
   unfold zbe at e
   simp only [Option.map_eq_some_iff] at e
   obtain ⟨q',_,rfl⟩:=e
   rfl
 |func fn first cap =>
  cases n with
  |zero=>cases e
  |succ n =>
   unfold zbe at e
   split at e
   ·cases e;rfl
   ·cases e
theorem znZ {q:PV} (h:q.isCell=true):q.cells=[q]:=by cases q<;>first | rfl | cases h
theorem zpL {n:Nat} {h:Heap} {a:AV} {q:PV} {cs:List AV} (e:zbe n h a=some q) (hc:a.cells=some cs) :
  q.cells.length=cs.length∧∀ (j:Nat) (c:PV),q.cells[j]?=some c→∃ x m,cs[j]?=some x∧m≤n∧zbe m h x=some c:=by
 have single:a.isCell=true→cs=[a]→q.cells.length=cs.length∧∀ (j:Nat) (c:PV),q.cells[j]?=some c→∃ x m,cs[j]?=some x∧m≤n∧zbe m h x=some c:=by
  intro ha hcs
  have hq:=zhm ha e
  rw [znZ hq,hcs]
  refine ⟨rfl,fun j c hj=>?_⟩
  cases j with
  |zero=>cases hj;exact ⟨a,n,rfl,Nat.le_refl _,e⟩
  |succ j=>simp at hj
 cases a with
 |p v =>
  rw [zcp] at e;cases e
  have hcs:cs=q.cells.map .p:=by
   cases q with
   |tuple l=>simp [AV.cells] at hc
   |_=>(simp [AV.cells] at hc;exact hc.symm)
  subst hcs
  refine ⟨by simp,fun j c hj=>⟨.p c,n,by simp [hj],Nat.le_refl _,zcp _ _ _⟩⟩
 |agg l =>
  cases n with
  |zero=>cases e
  |succ n =>
   unfold zbe at e
   simp only [Option.map_eq_some_iff] at e
   obtain ⟨qs,h1,rfl⟩:=e
   simp only [AV.cells,Option.some.injEq] at hc
   subst hc
   obtain ⟨h2,h3⟩:=zcL h1
   refine ⟨h2.symm,fun j c hj=>?_⟩
   obtain ⟨x,h4,h5⟩:=h3 j c hj
   exact ⟨x,n,h4,by omega,h5⟩
 |tuple l=>cases hc
 |undef=>cases hc
 |ptr id ver i o=>cases hc;exact single rfl rfl
 |slice id ver i o=>cases hc;exact single rfl rfl
 |func fn a b=>cases hc;exact single rfl rfl
 |ref k id=>cases hc;exact single rfl rfl
theorem zv2 {S:Mem} (hS:HOk P M0 S) {n id sz b:Nat} {xs:List AV} {l:List PV} (ih:∀ m,m≤n→∀ (v:Value) (a:AV) (q:PV),Rep M0 S v a→zbe m S.h a=some q→RepP M0 S.w v q)
  (hid:S.h[id]?=some (.row sz xs)) (hm:S.m.getD id none=some b) (hl:zaD (zbe n S.h) xs=some l) :
  ∃ C T,S.w.heap[b]?=some (.cells C T (0,0))∧l.length=xs.length∧l.length*sz≤C.size∧(∀ x,x∈l→x.cells.length=sz∧∀ c,c∈x.cells→c.isCell=true)∧¬ M0 b ∧
   (∀ k,k<l.length*sz→S.w.cell? ⟨b,0+k,none⟩=some (C.getD k undef))∧∀ (i j:Nat) (x c:PV),l[i]?=some x→x.cells[j]?=some c→RepP M0 S.w (C.getD (i*sz+j) undef) c:=by
 obtain ⟨C,T,hb,hsize,hel⟩:=zcV hS hid hm
 obtain ⟨hxl,hfr⟩:=zcL hl
 have helem:∀ (i:Nat) (q:PV),l[i]?=some q→(q.cells.length=sz∧∀ c,c∈q.cells→c.isCell=true)∧∀ (j:Nat) (c:PV),q.cells[j]?=some c→RepP M0 S.w (C.getD (i*sz+j) undef) c:=by
  intro i q hi
  obtain ⟨a,h0,hfa⟩:=hfr i q hi
  obtain ⟨cs,h1,h2,h3⟩:=hel i a h0
  obtain ⟨h4,h5⟩:=zpL hfa h1
  refine ⟨⟨by omega,fun c hc=>?_⟩,fun j c hj=>?_⟩
  ·obtain ⟨j,hj⟩:=List.getElem?_of_mem hc
   obtain ⟨x,m,h6,_,h8⟩:=h5 j c hj
   exact zhm (h3 j x h6).1 h8
  ·obtain ⟨x,m,h6,h7,h8⟩:=h5 j c hj
   exact ih m h7 _ x c (zjK (h3 j x h6).1 (h3 j x h6).2) h8
 refine ⟨C,T,hb,hxl.symm,by rw [←hxl];exact hsize,fun x hx=>?_,fun hm0=>(hS.m0 b hm0).2 (List.mem_of_getElem? (zbm hm)),fun k hk=>?_,fun i j x c hx hj=>(helem i x hx).2 j c hj⟩
 ·obtain ⟨i,hi⟩:=List.getElem?_of_mem hx
  exact (helem i x hi).1
 ·rw [Nat.zero_add]
  exact zeR hb k (by rw [←hxl] at hk;omega)
theorem zDN {S:Mem} (hS:HOk P M0 S):∀ (n:Nat) (v:Value) (a:AV) (q:PV),Rep M0 S v a→zbe n S.h a=some q→RepP M0 S.w v q:=by
 intro n
 induction n using Nat.strongRecOn with
 |_ n ih =>
  intro v a q hr e
  cases a with
  |p v'=>rw [zcp] at e;cases e;exact RepP.less (show RepP (Avoid M0 S.m) S.w v q from hr) fun b hb=>.inl hb
  |ref k id =>
   cases n<;>cases k<;>first | (cases e;obtain ⟨⟨b,hb⟩,_⟩:=hr;rw [hb];exact .anyMap) | cases e
  |undef=>cases n<;>cases e
  |ptr id ver i o =>
   cases n with
   |zero=>cases e
   |succ n =>
    unfold zbe at e
    simp only [Option.map_eq_some_iff] at e
    obtain ⟨⟨sz,l⟩,h1,rfl⟩:=e
    obtain ⟨xs,hid,hv,hl⟩:=ziN h1
    obtain ⟨b,hm,rfl⟩:=zbz hr.2 hid hv
    obtain ⟨C,T,hb,h1,h2,h3,h4,h5,h6⟩:=zv2 hS (fun m hm=>ih m (by omega)) hid hm hl
    exact .ptr (off:=0) (fun k=>C.getD k undef) (by omega) h3 (fun _=>h4) h5 h6
  |slice id ver off len =>
   cases n with
   |zero=>cases e
   |succ n =>
    unfold zbe at e
    simp only [Option.map_eq_some_iff] at e
    obtain ⟨⟨sz,l⟩,h1,rfl⟩:=e
    obtain ⟨xs,hid,hv,hl⟩:=ziN h1
    dsimp only at hid hl ⊢
    have hnil:len=0→(l.take (off+len)).drop off=[]:=by
     intro e;subst e
     apply List.eq_nil_of_length_eq_zero
     simp
    rcases zbz hr.2 hid hv with ⟨h0,_,_,a,cap,rfl⟩ | ⟨b,cap,T',n',hm,rfl,⟨h1,h2⟩,_,_⟩ | ⟨_,rfl,h0⟩
    ·rw [hnil h0];exact .empty (by simp)
    ·obtain ⟨C,T,hb,h3,h4,h5,h6,h7,h8⟩:=zv2 hS (fun m hm=>ih m (by omega)) hid hm hl
     have:=zlB (M:=M0) (w:=S.w) (b:=b) (off:=0) (sz:=sz) (l:=off) (r:=off+len) (xs:=l) (fun k=>C.getD k undef) (by omega) (by omega) h5 (fun _=>h6) h7 h8 (cap:=cap) (full:=false) (by omega) (by simp)
     simpa using this
    ·rw [hnil h0];exact .empty (by simp)
  |func fn first cap =>
   cases n with
   |zero=>cases e
   |succ n =>
    obtain ⟨F,C,rfl,h1,h2⟩:=hr
    unfold zbe at e
    split at e
    ·rename_i x y hx hy
     cases e
     obtain ⟨h3,h4⟩:=zcL hx
     obtain ⟨h5,h6⟩:=zcL hy
     refine .func (by rw [h1.1,h3]) (by rw [h2.1,h5]) (fun i c hi=>?_) fun i c hi=>?_
     ·obtain ⟨a,h7,h8⟩:=h4 i c hi
      exact ih n (by omega) _ a c (zf7 (h1.2 i a h7)) h8
     ·obtain ⟨a,h7,h8⟩:=h6 i c hi
      exact ih n (by omega) _ a c (zf7 (h2.2 i a h7)) h8
    ·cases e
  |agg cs =>
   cases n with
   |zero=>cases e
   |succ n =>
    obtain ⟨C,rfl,hc,h1,h2⟩:=hr
    unfold zbe at e
    simp only [Option.map_eq_some_iff] at e
    obtain ⟨l,hl,rfl⟩:=e
    obtain ⟨h3,h4⟩:=zcL hl
    refine .agg (by omega) (fun c hcl=>?_) fun i c hi=>?_
    ·obtain ⟨i,hi⟩:=List.getElem?_of_mem hcl
     obtain ⟨a,h5,h6⟩:=h4 i c hi
     exact zhm (hc a (List.mem_of_getElem? h5)) h6
    ·obtain ⟨a,h5,h6⟩:=h4 i c hi
     exact ih n (by omega) _ a c (zjK (hc a (List.mem_of_getElem? h5)) (h2 i a h5)) h6
  |tuple cs =>
   cases n with
   |zero=>cases e
   |succ n =>
    obtain ⟨C,rfl,h1,h2⟩:=hr
    unfold zbe at e
    simp only [Option.map_eq_some_iff] at e
    obtain ⟨l,hl,rfl⟩:=e
    obtain ⟨h3,h4⟩:=zcL hl
    refine .tuple (by omega) fun i c hi=>?_
    obtain ⟨a,h5,h6⟩:=h4 i c hi
    exact ih n (by omega) _ a c (zh4 (h2 i a h5)) h6
theorem zjW {S:Mem} (hS:HOk P M0 S) {v:Value} {a:AV} {q:PV} (hr:Rep M0 S v a) (h:frz S.h a=some q):RepP M0 S.w v q:=zDN hS 8 v a q hr h
theorem zqE {h:Heap} {l:List AV} {qs:List PV} (e:zi2 h l=some qs):l.length=qs.length∧∀ (i:Nat) (q:PV),qs[i]?=some q→∃ a,l[i]?=some a∧frz h a=some q:=zcL e
theorem zrB {f:FuncId} {args:List AV} {pargs:List PV} {v:PV} {h:Heap} (hc:zae P f pargs v) (ha:zi2 h args=some pargs) (hv:Flat v):zap P f args h (fun r h'=>r=.ret (.p v)∧h'=h):=by
 intro M0 m w cargs hS hargs
 obtain ⟨hl,hg⟩:=zqE ha
 have hpa:zjr M0 w cargs pargs:=by
  refine ⟨by rw [hargs.1,hl],fun i c hi=>?_⟩
  obtain ⟨a,h1,h2⟩:=hg i c hi
  exact zjW (S:=⟨m,h,w⟩) hS (hargs.2 i a h1) h2
 obtain ⟨h1,h2⟩:=hc M0 w cargs (fun b hb=>(hS.m0 b hb).1) hS.gl.1 hpa
 refine ⟨h1,h2.mono fun e w' hh=>?_⟩
 obtain ⟨v',rfl,hr,hfr⟩:=hh
 obtain ⟨hk,hev⟩:=zko hS hfr
 exact ⟨.ret (.p v),_,m,⟨rfl,rfl⟩,hev,hk,hv.rep hr⟩
theorem zc7 {F G:AV→Option PV} (hFG:∀ a q,F a=some q→G a=some q):∀ {l:List AV} {qs:List PV},zaD F l=some qs→zaD G l=some qs
 |[],qs,e=>e
 |a::l,qs,e=>by
  unfold zaD at e ⊢
  split at e
  ·rename_i q r h1 h2
   rw [hFG _ _ h1,zc7 hFG h2]
   exact e
  ·cases e
theorem zpK {F G:AV→Option PV} (hFG:∀ a q,F a=some q→G a=some q) {h u:Heap} (hs:zbn h u) {id ver:Nat} {q:Nat×List PV} (e:zgO F ver h[id]?=some q):zgO G ver u[id]?=some q:=by
 obtain ⟨xs,h1,h2,h3⟩:=ziN e
 rw [zkZ hs h1]
 show (if xs.length=ver then (zaD G xs).map fun l=>(q.1,l) else none)=some q
 rw [if_pos h2,zc7 hFG h3]
 rfl
theorem zBf {h u:Heap} (hs:zbn h u):∀ (n:Nat) (a:AV) (q:PV),zbe n h a=some q→zbe n u a=some q:=by
 intro n
 induction n with
 |zero=>intro a q e;cases a<;>first | exact e | cases e
 |succ n ih =>
  intro a q e
  cases a with
  |p v=>exact e
  |ptr id ver i o =>
   unfold zbe at e ⊢
   simp only [Option.map_eq_some_iff] at e ⊢
   obtain ⟨q',h1,h2⟩:=e
   exact ⟨q',zpK ih hs h1,h2⟩
  |slice id ver i o =>
   unfold zbe at e ⊢
   simp only [Option.map_eq_some_iff] at e ⊢
   obtain ⟨q',h1,h2⟩:=e
   exact ⟨q',zpK ih hs h1,h2⟩
  |func fn first cap =>
   unfold zbe at e ⊢
   split at e
   ·rename_i x y hx hy
    rw [zc7 ih hx,zc7 ih hy]
    exact e
   ·cases e
  |agg cs =>
   unfold zbe at e ⊢
   simp only [Option.map_eq_some_iff] at e ⊢
   obtain ⟨q',h1,h2⟩:=e
   exact ⟨q',zc7 ih h1,h2⟩
  |tuple cs =>
   unfold zbe at e ⊢
   simp only [Option.map_eq_some_iff] at e ⊢
   obtain ⟨q',h1,h2⟩:=e
   exact ⟨q',zc7 ih h1,h2⟩
  |ref k id=>cases k<;>first | exact e | cases e
  |undef=>cases e
theorem ztM {h u:Heap} (hs:zbn h u) {l:List AV} {qs:List PV} (e:zi2 h l=some qs):zi2 u l=some qs:=zc7 (zBf hs 8) e
theorem zaO {H:Hints} {ops:Array Oper} {rest:List Oper} {Q:Cont} {dst:Option Tmp} {A:AAct} {f:FuncId} {args:List AV} {pargs:List PV} {v:PV} (hc:zae P f pargs v) (ha:zi2 A.h args=some pargs) (hv:Flat v)
  (h:@WO ⟨P,H,ops,rest,Q⟩ (A.put dst (.p v) A.h)):@WF ⟨P,H,ops,rest,Q,dst⟩ A f args:=by
 refine (zrB hc ha hv).mono fun r h' hr=>?_
 obtain ⟨rfl,rfl⟩:=hr
 exact h
theorem zE4 {H:Hints} {ops:Array Oper} {rest:List Oper} {Q:Cont} {o:Oper} {hs h0:Heap} {A:AAct} {f:FuncId} {args:List AV} {pargs:List PV} {v:PV} (hc:zae P f pargs v) (ha:zi2 h0 args=some pargs) (hv:Flat v)
  (h:@WD ⟨P,H,ops,rest,Q⟩ hs (A.put o.dst (.p v) A.h)):@WDQ ⟨P,H,ops,rest,Q,o⟩ hs h0 A (.call f args) :=
 ⟨.p v,fun _ hs=>zrB hc (ztM hs ha) hv,h⟩
end Abs
end Go.Proofs.YtahlnclapingiaaGreatDoor
namespace Go.Proofs.YtahlnclapingiaaGreatDoor
namespace Abs
variable {P:Program} {M0:Nat→Prop}
theorem zdL.refl (A:AAct):zdL P A A:=⟨rfl,rfl,fun _ _ _ _ m _ _ h=>⟨m,h⟩⟩
theorem zdL.trans {A B C:AAct} (h:zdL P A B) (k:zdL P B C):zdL P A C :=
 ⟨k.1.trans h.1,k.2.1.trans h.2.1,fun M0 S0 b cs0 m a w hr=>let ⟨m1,h1⟩:=h.2.2 M0 S0 b cs0 m a w hr;k.2.2 M0 S0 b cs0 m1 a w h1⟩
theorem zyo {A:AAct} {T:Nat→AV} (h:∀ t,T t=A.tmps t∨T t=.undef):zdL P A { A with tmps:=T } :=
 ⟨rfl,rfl,fun M0 S0 b cs0 m a w hr=>⟨m,hr.size,fun t=>by
  show Rep M0 ⟨m,A.h,w⟩ _ (T t)
  rcases h t with e | e
  ·rw [e];exact hr.tmps t
  ·rw [e];exact trivial,hr.hok,hr.ev,hr.le,hr.df,hr.rc⟩⟩
def Mem.cut (S:Mem) (l:Nat):Mem:=⟨S.m.take l,S.h.take l,S.w⟩
theorem znx {S:Mem} {l b:Nat} (h:Own (S.cut l).m b):Own S.m b:=List.mem_of_mem_take h
theorem zrX {S:Mem} {l b:Nat} (h:Avoid M0 (S.cut l).m b):Avoid M0 S.m b:=h.imp id znx
theorem zk6 {S:Mem} {l id:Nat} (h:id<l):(S.cut l).h[id]?=S.h[id]?:=by
 show (S.h.take l)[id]?=_
 rw [List.getElem?_take,if_pos h]
theorem zpT {S:Mem} {l id:Nat} (h:id<l):(S.cut l).m.getD id none=S.m.getD id none:=by
 show (S.m.take l).getD id none=_
 rw [List.getD_eq_getElem?_getD,List.getD_eq_getElem?_getD,List.getElem?_take,if_pos h]
theorem zbR.cut {S:Mem} {l id ver:Nat} {X:Nat→Option Nat→Prop} (h:zbR S id ver X) (hid:id<l):zbR (S.cut l) id ver X:=by
 unfold zbR at *
 rw [zk6 hid,zpT hid]
 exact h
theorem zbr.cut {S:Mem} {l:Nat} {v:Value} {a:AV} (h:zbr M0 S v a) (hb:zb6 l a):zbr M0 (S.cut l) v a:=by
 cases a with
 |p q=>exact RepP.less (show RepP (Avoid M0 S.m) S.w v q from h) fun b hb=>zrX hb
 |ptr id ver i o=>exact ⟨h.1,h.2.cut hb⟩
 |slice id ver off len=>exact ⟨h.1,zbR.cut (S:=S) h.2 hb⟩
 |ref k id =>
  refine ⟨h.1,?_⟩
  rw [zk6 hb,zpT hb]
  exact h.2
 |undef=>exact trivial
 |agg cs=>exact h.elim
 |func fn f c=>exact h.elim
 |tuple vs=>exact h.elim
theorem zaV.cut {S:Mem} {l:Nat} {v:Value} {a:AV} (h:zaV M0 S v a) (hb:zcH l a):zaV M0 (S.cut l) v a:=by
 cases a with
 |func fn f c =>
  obtain ⟨F,C,rfl,h1,h2⟩:=h
  exact ⟨F,C,rfl,h1.imp fun v c hc hr=>zbr.cut hr (hb.1 c hc),h2.imp fun v c hc hr=>zbr.cut hr (hb.2 c hc)⟩
 |p q=>exact zbr.cut (M0:=M0) (a:=.p q) h hb
 |ptr id ver i o=>exact zbr.cut (M0:=M0) (a:=.ptr id ver i o) h hb
 |slice id ver off len=>exact zbr.cut (M0:=M0) (a:=.slice id ver off len) h hb
 |ref k id=>exact zbr.cut (M0:=M0) (a:=.ref k id) h hb
 |undef=>exact trivial
 |agg cs=>exact h.elim
 |tuple vs=>exact h.elim
theorem zbX.cut {S:Mem} {l:Nat} {v:Value} {a:AV} (h:zbX M0 S v a) (hb:zdk l a):zbX M0 (S.cut l) v a:=by
 cases a with
 |agg cs =>
  obtain ⟨C,rfl,h1,h2⟩:=h
  exact ⟨C,rfl,h1,h2.imp fun v c hc hr=>zaV.cut hr (hb c hc)⟩
 |p q=>exact zaV.cut (M0:=M0) (a:=.p q) h hb
 |ptr id ver i o=>exact zaV.cut (M0:=M0) (a:=.ptr id ver i o) h hb
 |slice id ver off len=>exact zaV.cut (M0:=M0) (a:=.slice id ver off len) h hb
 |ref k id=>exact zaV.cut (M0:=M0) (a:=.ref k id) h hb
 |func fn f c=>exact zaV.cut (M0:=M0) (a:=.func fn f c) h hb
 |undef=>exact trivial
 |tuple vs=>exact h.elim
theorem Rep.cut {S:Mem} {l:Nat} {v:Value} {a:AV} (h:Rep M0 S v a) (hb:below l a):Rep M0 (S.cut l) v a:=by
 cases a with
 |tuple cs =>
  obtain ⟨C,rfl,h2⟩:=h
  exact ⟨C,rfl,h2.imp fun v c hc hr=>zbX.cut hr (hb c hc)⟩
 |p q=>exact zbX.cut (M0:=M0) (a:=.p q) h hb
 |ptr id ver i o=>exact zbX.cut (M0:=M0) (a:=.ptr id ver i o) h hb
 |slice id ver off len=>exact zbX.cut (M0:=M0) (a:=.slice id ver off len) h hb
 |ref k id=>exact zbX.cut (M0:=M0) (a:=.ref k id) h hb
 |func fn f c=>exact zbX.cut (M0:=M0) (a:=.func fn f c) h hb
 |undef=>exact trivial
 |agg cs=>exact zbX.cut (M0:=M0) (a:=.agg cs) h hb
def zaI (l:Nat):AObj→Prop
 |.row _ xs=>∀ x,x∈xs→below l x
 |.loop _ tmps _ _ _ _ _=>∀ t,below l (tmps t)
 |.bld _ _ x=>zb6 l x
 |_=>True
def zjY (l:Nat):ADef→Prop
 |.fn _ args=>∀ a,a∈args→below l a
 |.collected id=>id<l
theorem zvH {l:Nat} {x c:AV} {cs:List AV} (hx:x.cells=some cs) (hb:below l x) (hc:c∈cs) (hcell:c.isCell=true):zcH l c:=by
 rcases zm9 hx with ⟨l',rfl⟩ | ⟨l',rfl⟩ | ⟨h1,rfl⟩
 ·simp only [AV.cells,PV.cells,Option.some.injEq] at hx
  subst hx
  simp only [List.mem_map] at hc
  obtain ⟨q,_,rfl⟩:=hc
  exact trivial
 ·simp only [AV.cells,Option.some.injEq] at hx
  subst hx
  exact hb c hc
 ·simp only [List.mem_singleton] at hc
  subst hc
  cases c<;>first | exact hb | exact trivial | cases h1
theorem zqD {S:Mem} (hS:HOk P M0 S) {l:Nat} (ho:∀ (id:Nat) (o:AObj),id<l→S.h[id]?=some o→zaI l o):HOk P M0 (S.cut l) where
 len:=by simp [Mem.cut,hS.len]
 lt:=fun b h=>hS.lt b (znx h)
 m0:=fun b h=>⟨(hS.m0 b h).1,fun hn=>(hS.m0 b h).2 (znx hn)⟩
 gl:=hS.gl.fr (fun _ _ _=>rfl) fun b hb=>.inl (znx hb)
 inj:=fun i j b hi hj=>by
  have key:∀ k:Nat,(S.cut l).m[k]?=some (some b)→S.m[k]?=some (some b):=by
   intro k hk
   have hk':(S.m.take l)[k]?=some (some b):=hk
   rw [List.getElem?_take] at hk'
   split at hk'
   ·exact hk'
   ·cases hk'
  exact hS.inj i j b (key i hi) (key j hj)
 obj:=fun id o hid=>by
  have hlt:id<l:=by
   have:=(List.getElem?_eq_some_iff.1 hid).1
   simp [Mem.cut] at this
   omega
  rw [zk6 hlt] at hid
  rw [zpT hlt]
  have hb:=ho id o hlt hid
  have:=hS.obj id o hid
  cases o with
  |row sz xs =>
   rcases this with h | ⟨b,T,C,h1,h2,h3,h4⟩
   ·exact .inl h
   ·refine .inr ⟨b,T,C,h1,h2,h3,fun i x hx=>?_⟩
    obtain ⟨cs,h5,h6,h7⟩:=h4 i x hx
    exact ⟨cs,h5,h6,fun j c hc=>⟨(h7 j c hc).1,zaV.cut (h7 j c hc).2 (zvH h5 (hb x (List.mem_of_getElem? hx)) (List.mem_of_getElem? hc) (h7 j c hc).1)⟩⟩
  |loop n tmps ps assign body st pend =>
   obtain ⟨b,r,h1,h2,h3,h4,h5⟩:=this
   exact ⟨b,r,h1,h2,h3,fun t=>Rep.cut (h4 t) (hb t),h5⟩
  |strIter s p=>exact this
  |mp es =>
   obtain ⟨b,C,clk,h1,h2,h3⟩:=this
   exact ⟨b,C,clk,h1,h2,h3.monoP fun v q hq=>zaV.cut hq trivial⟩
  |memo f =>
   obtain ⟨hg,es,hf,b,C,clk,h1,h2,h3⟩:=this
   exact ⟨hg,es,hf,b,C,clk,h1,h2,h3.monoP fun v q hq=>zaV.cut hq trivial⟩
  |dblock=>exact this
  |bld T el x =>
   obtain ⟨b,p,v,h1,h2,h3,h4,h5,h6⟩:=this
   exact ⟨b,p,v,h1,h2,h3,h4,zbr.cut h5 hb,h6⟩
  |dead=>exact trivial
theorem ztT {S:Mem} {l:Nat}:∀ {ds:List Deferred} {xs:List ADef},DefsRep P M0 S ds xs→(∀ x,x∈xs→zjY l x)→DefsRep P M0 (S.cut l) ds xs
 |[],[],_,_=>trivial
 |d::ds,x::xs,h,hb=>by
  refine ⟨?_,ztT h.2 fun y hy=>hb y (by simp [hy])⟩
  have hx:=hb x (by simp)
  have h1:=h.1
  cases x with
  |fn g args =>
   obtain ⟨fv,cap,dargs,cargs,h2,h3,h4⟩:=h1
   exact ⟨fv,cap,dargs,cargs,h2,h3,h4.imp fun v c hc hr=>Rep.cut hr (hx c hc)⟩
  |collected id =>
   obtain ⟨bl,h2,h3⟩:=h1
   refine ⟨bl,h2,?_⟩
   rw [zk6 hx,zpT hx]
   exact h3
 |[],_::_,h,_=>h.elim
 |_::_,[],h,_=>h.elim
theorem zAs {A:AAct} {T:Nat→AV} (l:Nat) (hl:A.bs≤l) (hlen:l≤A.h.length) (ht:∀ t,(T t=A.tmps t∧below l (A.tmps t))∨T t=.undef)
  (ho:∀ (id:Nat) (o:AObj),id<l→A.h[id]?=some o→zaI l o) (hd:∀ x,x∈A.df→zjY l x):zdL P A { A with tmps:=T,h:=A.h.take l } :=
 ⟨rfl,rfl,fun M0 S0 b cs0 m a w hr=>⟨m.take l,hr.size,fun t=>by
   show Rep M0 (Mem.cut ⟨m,A.h,w⟩ l) _ (T t)
   rcases ht t with ⟨e,hb⟩ | e
   ·rw [e];exact Rep.cut (hr.tmps t) hb
   ·rw [e];exact trivial,
  zqD (S:=⟨m,A.h,w⟩) hr.hok ho,
  {fr:=hr.ev.fr
   sub:=fun x hx=>hr.ev.sub x (List.mem_of_mem_take hx)
   obj:=fun id o hid ho'=>by
    obtain ⟨o',h1,h2⟩:=hr.ev.obj id o hid ho'
    have hidl:id<l:=by have:id<A.bs:=hid;omega
    refine ⟨o',?_,?_⟩
    ·exact (zk6 (S:=⟨m,A.h,w⟩) hidl).trans h1
    ·have:=zpT (S:=⟨m,A.h,w⟩) hidl
     show ObjEv _ _ ((Mem.cut ⟨m,A.h,w⟩ l).m.getD id none) _
     rw [this];exact h2 },
  ⟨by show A.bs≤(A.h.take l).length;simp;omega,hr.le.2⟩,ztT (S:=⟨m,A.h,w⟩) hr.df hd,by
   have:=hr.rc
   cases hc:A.rc<;>rw [hc] at this<;>first | exact this | skip
   obtain ⟨h1,h2,v',cs1,h3,h4⟩:=this
   exact ⟨h1,h2,v',cs1,h3,RepP.less h4 fun b hb=>zrX (S:=⟨m,A.h,w⟩) (l:=l) hb⟩⟩⟩
theorem zsG {A:AAct} {T:Nat→AV} (sz:Nat) (ht:∀ t,T t=A.tmps t∨(A.tmps t=.p .nilslice∧T t=.slice A.h.length 0 0 0)):zdL P A { A with tmps:=T,h:=A.h++[.row sz []] } :=
 ⟨rfl,rfl,fun M0 S0 b cs0 m a w hr=>⟨m++[none],by
  have hk:=zn3 (S:=⟨m,A.h,w⟩) hr.hok sz
  have hev:=Ev.nil (S:=⟨m,A.h,w⟩) hr.hok sz
  have hr1:=hr.ahead (m':=m++[none]) (h':=A.h++[.row sz []]) (w':=w) hev hk
  refine ⟨hr1.size,fun t=>?_,hr1.hok,hr1.ev,hr1.le,hr1.df,hr1.rc⟩
  show Rep M0 ⟨m++[none],A.h++[.row sz []],w⟩ _ (T t)
  rcases ht t with e | ⟨e1,e2⟩
  ·rw [e];exact hr1.tmps t
  ·rw [e2]
   have h1:=hr.tmps t
   rw [e1] at h1
   have h2:RepP (Avoid M0 m) w (a.tmps.getD t undef) .nilslice:=h1
   generalize a.tmps.getD t undef=v at h2 ⊢
   cases h2
   refine ⟨⟨none,0,0,rfl⟩,.inr ⟨sz,[],by simp,Nat.le_refl _,fun _=>.inr (.inr ⟨?_,rfl,rfl⟩)⟩⟩
   have:=hr.hok.len
   show (m++[none]).getD A.h.length none=none
   rw [List.getD_eq_getElem?_getD,←show m.length=A.h.length from this]
   simp⟩⟩
def zlX (h:Heap):AEnd→Option PV
 |.ret a=>frz h a
 |_=>none
theorem zbT (hD:zcb P) {H:Hints} {f:FuncId} {fn:Func} {c:Code} {pargs:List PV} {v:PV} {rs:List ResultVar} {n:Nat} (hf:P.funcs[f]?=some fn) (hb:fn.body=some c) (hrs:fn.results.toList=rs) (hn:fn.ntmps=n) (hok:zaf H fn=true)
  (hlen:pargs.length≤n) (hw:wp P H c (zhR P rs 0 (fun _ r h=>zlX h r=some v)) (zaK n .no (pargs.map .p) [])):zae P f pargs v:=by
 intro M0 w cargs hM hg ha
 have ha':zbW (Rep M0 ⟨[],[],w⟩) cargs (pargs.map .p):=by
  refine ⟨by simpa using ha.1,fun i c hc=>?_⟩
  simp only [List.getElem?_map,Option.map_eq_some_iff] at hc
  obtain ⟨q,hq,rfl⟩:=hc
  exact zas ((ha.2 i q hq).mono (fun _ _ _=>rfl) (fun b hb=>by
   rcases hb with hb | hb
   ·exact .inl hb
   ·simp [Own] at hb))
 have:=zan hD (h:=[]) (R:=fun r h=>zlX h r=some v) hf hb hrs hn hok (by simpa using hlen) hw M0 [] w cargs (zjx hM hg) ha'
 refine ⟨this.1,this.2.mono fun e w' h=>?_⟩
 obtain ⟨r,h',m',hR,hev,hk,hend⟩:=h
 cases e with
 |returned v' =>
  cases r with
  |panic v=>cases hR
  |ret a=>exact ⟨v',rfl,zjW (S:=⟨m',h',w'⟩) hk hend hR,hev.fr⟩
 |panicked ch =>
  cases r with
  |panic v=>cases hR
  |ret a=>exact hend.elim
 |outgrown=>exact hend.elim
end Abs
end Go.Proofs.YtahlnclapingiaaGreatDoor
namespace Go.Proofs.YtahlnclapingiaaGreatDoor
namespace Abs
variable {P:Program} {H:Hints} {ops:Array Oper} {Q Q':Ex→AAct→Prop}
theorem zro {A:AAct} {dst:Option Tmp} {K K':AAct→Prop} {r:OR} (h:∀ B,K B→K' B) (hq:∀ e B,Q e B→Q' e B) (k:orK P A dst K Q r):orK P A dst K' Q' r:=by
 cases r with
 |call f args =>
  intro M0 m w cargs hS ha
  obtain ⟨h1,h2⟩:=k M0 m w cargs hS ha
  refine ⟨h1,h2.mono fun _ _ hb=>?_⟩
  obtain ⟨r,h',m',hR,rest⟩:=hb
  exact ⟨r,h',m',by cases r<;>first | exact h _ hR | exact hq _ _ hR,rest⟩
 |yld l args =>
  refine ⟨k.1,fun M0 m w cargs bl hS ha hbl=>?_⟩
  obtain ⟨f,tmps,as,bd,h1,h2⟩:=k.2 M0 m w cargs bl hS ha hbl
  refine ⟨f,tmps,as,bd,h1,fun c cs=>?_⟩
  obtain ⟨e,w',⟨r,h',m',hR,rest⟩,hs⟩:=h2 c cs
  exact ⟨e,w',⟨r,h',m',by cases r<;>first | exact h _ hR | exact hq _ _ hR,rest⟩,hs⟩
 |panic v=>exact hq _ _ k
 |val v h'=>exact zh9 (Q:=Q') h k
 |skip h'=>exact zh9 (Q:=Q') h k
 |dfr d=>exact zh9 (Q:=Q') h k
 |recover=>exact zh9 (Q:=Q') h k
 |stuck=>exact k
theorem zo1 {X Y X' Y':Unit→Prop} {o:Option Bool} (h1:X ()→X' ()) (h2:Y ()→Y' ()) (k:zke X Y o):zke X' Y' o:=by
 cases o with
 |none=>exact k
 |some b=>exact ⟨fun e=>h1 (k.1 e),fun e=>h2 (k.2 e)⟩
theorem zln (hq:∀ e B,Q e B→Q' e B):∀ (l:List Oper) {A:AAct},zer P H ops Q l A→zer P H ops Q' l A
 |[],_,k=>hq _ _ k
 |o::rest,A,k=>by
  rw [zer] at k ⊢
  exact zo1 (fun k=>zro (fun B hB=>zln hq rest hB) hq k) (fun k=>zln hq rest k) k
theorem zAb {h:Heap} {K K':AV→Heap→Prop} {r:OR} (hk:∀ v h,K v h→K' v h) (k:zq0 h K r):zq0 h K' r:=by
 cases r<;>first | exact k.elim | exact ⟨k.1,hk _ _ k.2⟩
theorem zs1 {h:Heap} {K K':AV→Prop} {r:OR} (hk:∀ v,K v→K' v) (k:quK P h K r):quK P h K' r:=by
 obtain ⟨v,h1,h2⟩:=zju.1 k
 exact zju.2 ⟨v,h1,hk v h2⟩
theorem zw2 {hs h:Heap} {j sz:Nat} {K K':AV→Heap→Prop} {z:Option AV} (hk:∀ v h,K v h→K' v h) (k:zkg hs h j sz K z):zkg hs h j sz K' z:=by
 cases z with
 |none=>exact k
 |some z=>exact ⟨k.1,k.2.1,k.2.2.1,hk _ _ k.2.2.2⟩
theorem zw3 {K K':Heap→Prop} {r:OR} (hk:∀ h,K h→K' h) (k:zja K r):zja K' r:=by
 cases r<;>first | exact k.elim | exact hk _ k
theorem zyC {hs h:Heap} {e:Operand→AV} {K K':Heap→Prop} {o:Op} (hk:∀ h,K h→K' h) (k:zmt P hs h e K o):zmt P hs h e K' o:=by
 cases o with
 |store T a x =>
  have k1:(match e a with | .ptr id ver i o=>zen hs id=true∧zja K (zdK P T (.ptr id ver i o) (e x) h) | _=>False):=k
  show (match e a with | .ptr id ver i o=>zen hs id=true∧zja K' (zdK P T (.ptr id ver i o) (e x) h) | _=>False)
  generalize e a=z at k1 ⊢
  cases z<;>first | exact k1.elim | exact ⟨k1.1,zw3 hk k1.2⟩
 |_=>exact k.elim
theorem zy3 {h:Heap} {e:Operand→AV} {K K':Prop} {o:Op} (hk:K→K') (k:zmK P h e K o):zmK P h e K' o:=by
 cases o<;>first | exact k.elim | exact ⟨k.1,hk k.2⟩
theorem zz9 {hs h:Heap} {K K':AV→Heap→Prop} {r:OR} (hk:∀ v h,K v h→K' v h) (k:zoS hs h K r):zoS hs h K' r:=by
 cases r<;>first | exact k.elim | exact ⟨k.1,hk _ _ k.2⟩
theorem zyz {A:AAct} {K K':AV→Prop} {r:OR} (hq:∀ e B,Q e B→Q' e B) (hk:∀ v,K v→K' v) (k:zom P Q A K r):zom P Q' A K' r:=by
 cases r<;>first | exact k.elim | skip
 rcases k with ⟨v,h1,h2⟩ | ⟨v,h1,h2⟩
 ·exact .inl ⟨v,h1,hk v h2⟩
 ·exact .inr ⟨v,h1,fun T=>hq _ _ (h2 T)⟩
theorem zxL {hs:Heap} {A:AAct} {K K':AV→Heap→Prop} {r:OR} (hq:∀ e B,Q e B→Q' e B) (hk:∀ v h,K v h→K' v h) (k:zj0 P H Q hs A K r):zj0 P H Q' hs A K' r:=by
 cases r<;>first | exact k.elim | skip
 intro M0 m w cargs hS ha
 obtain ⟨h1,h2⟩:=k M0 m w cargs hS ha
 refine ⟨h1,h2.mono fun _ _ hb=>?_⟩
 obtain ⟨r,h',m',hR,rest⟩:=hb
 exact ⟨r,h',m',by cases r<;>first | exact ⟨hR.1,hk _ _ hR.2⟩ | exact fun T hT=>hq _ _ (hR T hT),rest⟩
theorem zcm (hq:∀ e B,Q e B→Q' e B):∀ (l:List Oper) {hs:Heap} {A:AAct},za0 P H ops Q l hs A→za0 P H ops Q' l hs A
 |[],_,_,k=>hq _ _ k
 |o::rest,hs,A,k=>by
  rw [za0] at k ⊢
  refine zo1 (fun k=>?_) (fun k=>zcm hq rest k) k
  cases hc:za1 H o<;>rw [hc] at k
  ·exact zro (K:=fun B=>za0 P H ops Q rest B.h B) (K':=fun B=>za0 P H ops Q' rest B.h B) (fun B hB=>zcm hq rest hB) hq k
  ·exact zAb (fun v h hh=>zcm hq rest hh) k
  ·exact zs1 (fun v hh=>zcm hq rest hh) k
  ·exact zs1 (fun v hh=>zcm hq rest hh) k
  ·exact zw2 (fun v h hh=>zcm hq rest hh) k
  ·exact zyC (fun h hh=>zcm hq rest hh) k
  ·exact zy3 (fun hh=>zcm hq rest hh) k
  ·exact zz9 (fun v h hh=>zcm hq rest hh) k
  ·exact zyz hq (fun v hh=>zcm hq rest hh) k
  ·exact zxL hq (fun v h hh=>zcm hq rest hh) k
theorem ziE {K K':AAct→Prop} (h:∀ B,K B→K' B) (hq:∀ e B,Q e B→Q' e B):∀ e B,zcR K Q e B→zcR K' Q' e B
 |.normal,_,k=>h _ k
 |.exit _,_,k=>hq _ _ k
 |.ret,_,k=>hq _ _ k
 |.panic _,_,k=>hq _ _ k
theorem zvC {id:Nat} (hq:∀ e B,Q e B→Q' e B):∀ e B,zgU id Q e B→zgU id Q' e B
 |.normal,_,k=>hq _ _ k
 |.exit j,B,k=>by
  have k':if j=id then Q .normal B else Q (.exit j) B:=k
  show if j=id then Q' .normal B else Q' (.exit j) B
  by_cases h:j=id
  ·rw [if_pos h] at k' ⊢;exact hq _ _ k'
  ·rw [if_neg h] at k' ⊢;exact hq _ _ k'
 |.ret,_,k=>hq _ _ k
 |.panic _,_,k=>hq _ _ k
theorem ztu (hq:∀ e B,Q e B→Q' e B) {A:AAct} {l:Nat} {o:Option AObj} (k:zhj Q A l o):zhj Q' A l o:=by
 unfold zhj at k ⊢
 split at k
 ·refine ⟨k.1,?_⟩
  have:=k.2
  unfold zlS at this ⊢
  split at this<;>first | exact this.elim | exact hq _ _ this
 ·exact k.elim
theorem ze6:∀ (c:Code) {Q Q':Ex→AAct→Prop} {A:AAct},(∀ e B,Q e B→Q' e B)→wp P H c Q A→wp P H c Q' A:=by
 intro c
 induction c with
 |skip=>intro Q Q' A hq k;exact hq _ _ k
 |region id ops draw =>
  intro Q Q' A hq k
  cases draw with
  |false=>exact zln hq _ k
  |true=>exact zcm hq _ k
 |seq x y ihx ihy=>intro Q Q' A hq k;exact ihx (ziE (fun B hB=>ihy hq hB) hq) k
 |cond c x y ihx ihy =>
  intro Q Q' A hq k
  unfold wp zsy at k ⊢
  split at k
  ·exact ⟨fun e=>ihx hq (k.1 e),fun e=>ihy hq (k.2 e)⟩
  ·exact k.elim
 |block id x ihx=>intro Q Q' A hq k;exact ihx (zvC hq) k
 |loop x ihx =>
  intro Q Q' A hq k
  exact fun X hX=>k X fun B hB=>hX B (ihx (ziE (fun B hB=>hB) hq) hB)
 |rangeFunc g ps assign body _ _ =>
  intro Q Q' A hq k
  have gen:∀ {X Y:Prop} {c:Rc},(X→Y)→zl3 X c→zl3 Y c:=fun hx hc=>by
   rename_i c
   cases c<;>first | exact False.elim hc | exact hx hc
  refine gen (fun k=>?_) k
  unfold zmH at k ⊢
  split at k
  ·rename_i gf args hg
   intro M0 m w cargs hS ha
   obtain ⟨h1,h2⟩:=k M0 m w cargs hS ha
   refine ⟨h1,h2.mono fun _ _ hb=>?_⟩
   obtain ⟨r,h',m',hR,rest⟩:=hb
   refine ⟨r,h',m',?_,rest⟩
   cases r with
   |ret v=>exact ztu hq hR
   |panic v=>exact hq _ _ hR
  ·exact k.elim
 |exit id=>intro Q Q' A hq k;exact hq _ _ k
 |ret=>intro Q Q' A hq k;exact hq _ _ k
 |scope x ihx=>intro Q Q' A hq k;exact ihx hq k
 |label id=>intro Q Q' A hq k;exact hq _ _ k
 |_=>intro Q Q' A hq k;exact k.elim
theorem zqj {x:Code} {A:AAct} (k:wp P H x (zcR (fun B=>wp P H (.loop x) Q B) Q) A):wp P H (.loop x) Q A:=by
 intro X hX
 refine ⟨A,zdL.refl A,hX A (ze6 x (ziE (fun B hB=>?_) fun _ _ h=>h) k)⟩
 exact hB X hX
theorem zuV {x:Code} {A:AAct} {σ:Type} (I:σ→AAct) (μ:σ→Nat) (s0:σ) (h0:zdL P A (I s0)) (hs:∀ s,wp P H x (zcR (fun B=>∃ s',μ s'<μ s∧zdL P B (I s')) Q) (I s)):wp P H (.loop x) Q A:=by
 intro X hX
 have key:∀ (j:Nat) (s:σ),μ s=j→X (I s):=by
  intro j
  induction j using Nat.strongRecOn with
  |_ j ih =>
   intro s hj
   refine hX _ (ze6 x (ziE (fun B hB=>?_) fun _ _ h=>h) (hs s))
   obtain ⟨s',h1,h2⟩:=hB
   exact ⟨_,h2,ih (μ s') (hj▸h1) s' rfl⟩
 exact ⟨_,h0,key _ s0 rfl⟩
def zbU:List (Nat×AV)→Nat→AV
 |[],_=>.undef
 |(k,v)::l,t=>if t=k then v else zbU l t
theorem zzi (t:Nat):zbU [] t=.undef:=rfl
theorem zlR (k:Nat) (v:AV) (l:List (Nat×AV)) (t:Nat):zbU ((k,v)::l) t=if t=k then v else zbU l t:=rfl
theorem zoE:∀ (l:List (Nat×AV)) (t:Nat),zbU l t=.undef∨(t,zbU l t)∈l
 |[],_=>.inl rfl
 |(k,v)::l,t=>by
  rw [zlR]
  by_cases h:t=k
  ·subst h;rw [if_pos rfl];exact .inr (by simp)
  ·rw [if_neg h]
   rcases zoE l t with h1 | h1
   ·exact .inl h1
   ·exact .inr (List.mem_cons_of_mem _ h1)
theorem zyr {A:AAct} (l:List (Nat×AV)) (h:∀ p,p∈l→A.tmps p.1=p.2):zdL P A { A with tmps:=zbU l } :=
 zyo fun t=>by
  rcases zoE l t with h1 | h1
  ·exact .inr h1
  ·exact .inl (h _ h1).symm
def zd1 {σ:Type} (P:Program) (V:σ→Prop) (I:σ→AAct) (μ:σ→Nat) (s:σ):AAct→Prop:=fun B=>∃ s',V s'∧μ s'<μ s∧zdL P B (I s')
theorem zAe {σ:Type} {x:Code} {A:AAct} (V:σ→Prop) (I:σ→AAct) (μ:σ→Nat) (s0:σ) (hv:V s0) (h0:zdL P A (I s0)) (hs:∀ s,V s→@W ⟨P,H,x,zcR (zd1 P V I μ s) Q⟩ (I s)):@W ⟨P,H,.loop x,Q⟩ A:=by
 refine zuV (σ:={ s:σ // V s }) (fun s=>I s.1) (fun s=>μ s.1) ⟨s0,hv⟩ h0 fun s=>?_
 refine ze6 x (ziE (fun B hB=>?_) fun _ _ h=>h) (hs s.1 s.2)
 obtain ⟨s',h1,h2,h3⟩:=hB
 exact ⟨⟨s',h1⟩,h2,h3⟩
theorem zaR {x:Code} {A:AAct} (k:@W ⟨P,H,x,zcR (wp P H (.loop x) Q) Q⟩ A):@W ⟨P,H,.loop x,Q⟩ A:=zqj k
theorem zKS (a:TypeId) (l:List TypeId):(List.toArray (a::l)).getD 0 0=a:=rfl
theorem zKR (a b:TypeId) (l:List TypeId):(List.toArray (a::b::l)).getD 1 0=b:=rfl
end Abs
end Go.Proofs.YtahlnclapingiaaGreatDoor
