/-
  LAWS: objects that are no rows are replaced: loops over functions, walks over texts.
-/
import Derived.Test.YtahlnclapingiaaGreatDoorAbsOpsE
import Derived.RangeFuncRecord
import Derived.WideKeyRuns
set_option linter.unusedSimpArgs false
set_option linter.unusedVariables false
namespace Go.Proofs.YtahlnclapingiaaGreatDoor
namespace Abs
variable {P:Program} {M0:Nat→Prop}
theorem zbm {m:List (Option Nat)} {id b:Nat} (h:m.getD id none=some b):m[id]?=some (some b):=by
 rw [List.getD_eq_getElem?_getD] at h
 cases hq:m[id]? with
 |none=>simp [hq] at h
 |some z=>simp [hq] at h;rw [h]
theorem zsS {w:World} {bl:Nat} {x ob:Obj} (hx:w.heap[bl]?=some x) (h1:w.shape? bl=none) (h2:∀ C T f,ob≠.cells C T f) (c:Nat):(w.putObj bl ob).shape? c=w.shape? c:=by
 by_cases hc:c=bl
 ·subst hc
  rw [h1]
  unfold World.shape?
  rw [World.putObj_heap_same (Array.getElem?_eq_some_iff.1 hx).1]
  cases ob<;>first | rfl | exact absurd rfl (h2 _ _ _)
 ·unfold World.shape?
  rw [World.putObj_heap_other hc]
theorem ze8 {S:Mem} (hS:HOk P M0 S) {id bl:Nat} {o0 o:AObj} {x ob:Obj} (hid:S.m.getD id none=some bl) (h0:S.h[id]?=some o0) (hx:S.w.heap[bl]?=some x)
  (h1:S.w.shape? bl=none) (h2:∀ C T f,ob≠.cells C T f) (hev:ObjEv (some bl) o0 (some bl) o)
  (hob:Ev S.h.length S ⟨S.m,S.h.set id o,S.w.putObj bl ob⟩→(S.w.putObj bl ob).heap[bl]?=some ob→ObjOk P M0 ⟨S.m,S.h.set id o,S.w.putObj bl ob⟩ (some bl) o) :
  HOk P M0 ⟨S.m,S.h.set id o,S.w.putObj bl ob⟩∧Ev S.h.length S ⟨S.m,S.h.set id o,S.w.putObj bl ob⟩:=by
 have hlt:=(Array.getElem?_eq_some_iff.1 hx).1
 have hidlt:=(List.getElem?_eq_some_iff.1 h0).1
 have hown:Own S.m bl:=List.mem_of_getElem? (zbm hid)
 have he:Ev S.h.length S ⟨S.m,S.h.set id o,S.w.putObj bl ob⟩ :=
  {fr:=⟨rfl,rfl,rfl,by simp [World.putObj],fun c _ hn=>World.putObj_heap_other (fun e=>hn (e▸hown)),fun c _=>zsS hx h1 h2 c⟩
   sub:=fun c h=>.inl h
   obj:=fun y oy hy hoy=>by
    by_cases hyi:y=id
    ·subst hyi
     rw [h0] at hoy;cases hoy
     refine ⟨o,by simp [hidlt],?_⟩
     show ObjEv (S.m.getD y none) _ (S.m.getD y none) _
     rw [hid];exact hev
    ·exact ⟨oy,by simp [List.getElem?_set_ne (Ne.symm hyi),hoy],ObjEv.refl _ _⟩ }
 refine ⟨?_,he⟩
 exact
  {len:=by simpa using hS.len
   lt:=fun c h=>Nat.lt_of_lt_of_le (hS.lt c h) he.fr.size
   m0:=fun c h=>⟨Nat.lt_of_lt_of_le (hS.m0 c h).1 he.fr.size,(hS.m0 c h).2⟩
   inj:=hS.inj
   obj:=fun y oy hoy=>by
    by_cases hyi:y=id
    ·subst hyi
     have hoy':(S.h.set y o)[y]?=some oy:=hoy
     rw [List.getElem?_set_self hidlt] at hoy'
     cases hoy'
     show ObjOk P M0 _ (S.m.getD y none) _
     rw [hid]
     exact hob he (World.putObj_heap_same hlt)
    ·have hoy':(S.h.set id o)[y]?=some oy:=hoy
     rw [List.getElem?_set_ne (Ne.symm hyi)] at hoy'
     refine (hS.obj y oy hoy').keep he fun c hc=>World.putObj_heap_other fun e=>hyi ?_
     subst e
     exact hS.inj y id c (zbm hc) (zbm hid)
   gl:=he.glob hS.gl }
theorem zlM {w:World} {bl:Nat} {r:Loop} (h:w.heap[bl]?=some (.loop r)):w.shape? bl=none:=by
 unfold World.shape?;rw [h]
theorem zqJ {w:World} {bl:Nat} {ds:Option (List Deferred)} (h:w.heap[bl]?=some (.deferred ds)):w.shape? bl=none:=by
 unfold World.shape?;rw [h]
theorem zxt {w:World} {bl pos:Nat} {s:ByteArray} (h:w.heap[bl]?=some (.stringIter s pos)):w.shape? bl=none:=by
 unfold World.shape?;rw [h]
theorem zAO {S:Mem} (hS:HOk P M0 S) {T:TypeId} {v:Value} {x:AV} (hx:Rep M0 S v x):zaw P M0 S (Instr.range T v) (zp9 P T x S.h):=by
 unfold zp9
 split
 ·rename_i s
  split
  ·rename_i hT
   have h1:RepP (Avoid M0 S.m) S.w v (.str s):=hx
   cases h1
   have hu:P.underlying T=some .string:=by
    unfold zcw at hT
    split at hT
    ·assumption
    ·cases hT
   have hrun:=run_range_string (P:=P) S.w T s hu
   refine ⟨S.new (.strIter s 0) (.stringIter s 0),_,rfl,hrun,Ev.new _ M0 hS (Nat.le_refl _) _ _,hS.new ⟨_,rfl,zaU _ _⟩,?_⟩
   refine ⟨⟨S.w.heap.size,rfl⟩,.inr ⟨⟨.strIter s 0,by simp [Mem.new],rfl⟩,S.w.heap.size,?_,rfl⟩⟩
   have:=hS.len
   simp [Mem.new,←this]
  ·exact trivial
 ·exact trivial
theorem zDx {S:Mem} (hS:HOk P M0 S) {b:Bool} {T:TypeId} {v:Value} {x:AV} (hx:Rep M0 S v x):zaw P M0 S (Instr.next v b T) (zsA b x S.h):=by
 unfold zsA
 split
 ·rename_i id
  split
  ·rename_i s pos hid
   obtain ⟨_,hd | ⟨_,bl,hm,hv⟩⟩:=hx
   ·rw [hid] at hd;cases hd
   ·have hv':v=.pointer (some ⟨bl,0,none⟩):=hv
    subst hv'
    obtain ⟨bl',hm',hb⟩:=hS.obj id _ hid
    rw [hm] at hm';cases hm'
    have hlt:=(Array.getElem?_eq_some_iff.1 hb).1
    split
    ·rename_i hp
     obtain ⟨hk,hev⟩:=ze8 hS (o:=.strIter s (pos+(Utf8.decode s pos).2)) (ob:=.stringIter s (pos+(Utf8.decode s pos).2)) hm hid hb (zxt hb) (by intro C T f;simp)
      (.inr (.inr ⟨by simp [AObj.tag],rfl,rfl⟩)) (fun _ hx=>⟨bl,rfl,hx⟩)
     refine ⟨_,.tuple #[.bool true,.int .i64 pos,.int .i32 (Utf8.decode s pos).1],rfl,?_,hev,hk,?_⟩
     ·simp only [Instr.next,getObj,setObj,Sem.run_bind,Sem.run,hb,Result.andThen,hp,if_true]
      simp [goInt,Sem.run,World.putObj,hb]
     ·refine RepP.tuple rfl fun i c hi=>?_
      match i,hi with
      |0,hi=>cases hi;exact .bool _
      |1,hi=>cases hi;exact .int _ _
      |2,hi=>cases hi;exact .int _ _
    ·rename_i hp
     refine ⟨S,.tuple #[.bool false],rfl,?_,Ev.refl _ _,hS,?_⟩
     ·simp [Instr.next,getObj,Sem.run,hb,hp]
     ·refine RepP.tuple rfl fun i c hi=>?_
      match i,hi with
      |0,hi=>cases hi;exact .bool _
  ·exact trivial
 ·exact trivial
theorem zhi {w:World} {bl clk:Nat} {C:Array MapEntry} (h:w.heap[bl]?=some (.map C clk)):w.shape? bl=none:=by
 unfold World.shape?;rw [h]
theorem zxk {S:Mem} (hS:HOk P M0 S) {T:TypeId}:zaw P M0 S (Instr.makeMap T none) (.val (.ref .mp S.h.length) (S.h++[.mp []])):=by
 refine ⟨S.new (.mp []) (.map #[] 0),.map (some S.w.heap.size),rfl,rfl,Ev.new _ M0 hS (Nat.le_refl _) _ _,hS.new ⟨_,#[],0,rfl,zaU _ _,trivial⟩,?_⟩
 refine ⟨⟨S.w.heap.size,rfl⟩,.inr ⟨⟨.mp [],by simp [Mem.new],rfl⟩,S.w.heap.size,?_,rfl⟩⟩
 have:=hS.len
 simp [Mem.new,←this]
def zno (d:TypeDesc) (kv:Value) (k:PV):Prop:=(∃ kk j a,d=.int kk∧kv=.int j a∧k=.int j a)∨∃ s,d=.string∧kv=.string s∧k=.str s
theorem zsU {d:TypeDesc} {kv qv:Value} {k q:PV} {M:Nat→Prop} {w:World} {b:Bool} (hk:zno d kv k) (hq:RepP M w qv q) (h:ze3 k q=some b):Instr.sameNow d kv qv=some b:=by
 rcases hk with ⟨kk,j,a,rfl,rfl,rfl⟩ | ⟨s,rfl,rfl,rfl⟩
 ·cases q<;>first | (cases h;done) | skip
  cases hq
  exact h
 ·cases q<;>first | (cases h;done) | skip
  cases hq
  exact h
theorem zAH {d:TypeDesc} {kv qv:Value} {k q:PV} {M:Nat→Prop} {w:World} (hk:zno d kv k) (hq:RepP M w qv q) (h:ze3 k q=some true):qv=kv:=by
 rcases hk with ⟨kk,j,a,rfl,rfl,rfl⟩ | ⟨s,rfl,rfl,rfl⟩
 ·cases q<;>first | (cases h;done) | skip
  cases hq
  simp only [ze3] at h
  split at h
  ·rename_i e
   subst e
   rw [eq_of_beq (Option.some.inj h)]
  ·cases h
 ·cases q<;>first | (cases h;done) | skip
  cases hq
  rename_i s'
  have h':(s==s')=true:=Option.some.inj h
  cases s with | mk x=>cases s' with | mk y=>rw [show x=y from eq_of_beq (show (x==y)=true from h')]
theorem zt0 {b:Bool} {K:TypeId} {d:TypeDesc} {kv:Value} {k:PV} (hk:zno d kv k) (hu:P.underlying K=some d) (w:World):(Instr.checkKey b 10000 K kv).run P w=.ok () w:=by
 unfold Instr.checkKey
 rcases hk with ⟨kk,j,a,rfl,rfl,rfl⟩ | ⟨s,rfl,rfl,rfl⟩
 ·simp only [Sem.run_bind,run_underlying hu,Result.andThen_ok];rfl
 ·simp only [Sem.run_bind,run_underlying hu,Result.andThen_ok];rfl
theorem zsV {d:TypeDesc} {kv:Value} {k:PV} (hk:zno d kv k):Instr.sameBits 10000 kv kv=true:=by
 rcases hk with ⟨kk,j,a,rfl,rfl,rfl⟩ | ⟨s,rfl,rfl,rfl⟩
 ·simp [Instr.sameBits]
 ·unfold Instr.sameBits
  cases s with | mk x=>exact (beq_self_eq_true x:(x==x)=true)
theorem zna {T:TypeId} {k:CK} {M:Nat→Prop} {w:World} {X:Array Value} {a:List PV} {n:Nat} {x:PV} (h:zpV P T=some k) (hX:zfg M w X a) (hx:a[n]?=some x):(part T X n).run P w=.ok (X.getD n undef) w:=by
 have hn:n<X.size:=by have:=(List.getElem?_eq_some_iff.1 hx).1;rw [hX.1];exact this
 have hag:zbc P T=some false:=by
  unfold zpV at h
  unfold zbc
  split at h<;>first | (cases h;done) | (rename_i hu;rw [hu])
 simp [part,zfk hag,hn,Array.getD_eq_getD_getElem?]
theorem zBo {k:CK} {x:PV} {s:Bool} (h:eqK k x x=some s):k=ztZ x:=by
 cases k<;>cases x<;>simp_all [eqK,ztZ]
theorem zrI:∀ {ks:List CK} {a:List PV} {t:Bool},zck ks a a=some t→ks=a.map ztZ
 |[],[],_,_=>rfl
 |[],_::_,_,h=>by cases h
 |_::_,[],_,h=>by cases h
 |k::ks,x::a,t,h=>by
  rw [zck] at h
  split at h
  ·rename_i s u h1 h2
   rw [List.map_cons,←zBo h1,←zrI h2]
  ·cases h
theorem zmD {M:Nat→Prop} {w:World} (e:Nat) {X Y:Array Value} {a b:List PV} (hX:zfg M w X a) (hY:zfg M w Y b):∀ (fs:List Field) (n:Nat) (ks:List CK) (t:Bool),zmE P fs n=some ks→zck ks (a.drop n) (b.drop n)=some t →
  (Op.eqFields (e+1) X Y fs).run P w=.ok t w
 |[],n,ks,t,h,ht=>by
  simp only [zmE,Option.some.injEq] at h
  subst h
  cases ha:a.drop n<;>cases hb:b.drop n<;>rw [ha,hb] at ht<;>simp only [zck,reduceCtorEq,Option.some.injEq] at ht
  subst ht
  rfl
 |f::fs,n,ks,t,h,ht=>by
  rw [zmE] at h
  split at h
  ·rename_i hf
   obtain ⟨hname,hoff⟩:=hf
   split at h
   ·rename_i k r hk hr
    cases h
    cases ha:a.drop n with
    |nil=>rw [ha] at ht;cases ht
    |cons x a' =>
     cases hb:b.drop n with
     |nil=>rw [ha,hb] at ht;cases ht
     |cons y b' =>
      rw [ha,hb,zck] at ht
      split at ht
      ·rename_i s u h1 h2
       cases ht
       have hax:a[n]?=some x:=by have:(a.drop n)[0]?=some x:=by rw [ha];rfl
                                 simpa using this
       have hby:b[n]?=some y:=by have:(b.drop n)[0]?=some y:=by rw [hb];rfl
                                 simpa using this
       have ha1:a.drop (n+1)=a':=by have:=congrArg List.tail ha;simpa using this
       have hb1:b.drop (n+1)=b':=by have:=congrArg List.tail hb;simpa using this
       have ih:=zmD e hX hY fs (n+1) r u hr (by rw [ha1,hb1];exact h2)
       have px:=zna (w:=w) hk hX hax
       have py:=zna (w:=w) hk hY hby
       have rx:=hX.2 n x hax
       have ry:=hY.2 n y hby
       have heq:(Op.equalIn (e+1) f.type (X.getD n undef) (Y.getD n undef)).run P w=.ok s w:=by
        generalize X.getD n undef=vx at rx ⊢
        generalize Y.getD n undef=vy at ry ⊢
        unfold zpV at hk
        split at hk
        ·rename_i hu
         cases hk
         cases x<;>cases y<;>simp only [eqK,reduceCtorEq,Option.some.injEq] at h1
         cases rx;cases ry
         rw [run_equalIn_bool' w e f.type _ _ hu,h1]
        ·rename_i q hu
         cases hk
         cases x<;>cases y<;>simp only [eqK,reduceCtorEq] at h1
         split at h1
         ·rename_i hkk
          subst hkk
          cases h1
          cases rx;cases ry
          rw [run_equalIn_int w e f.type _ _ _ _ hu]
         ·cases h1
        ·rename_i hu
         cases hk
         cases x<;>cases y<;>simp only [eqK,reduceCtorEq,Option.some.injEq] at h1
         cases rx;cases ry
         rw [run_equalIn_string w e f.type _ _ hu,←beq_toListBytes,h1]
        ·cases hk
       simp only [Op.eqFields]
       rw [if_pos hname,hoff]
       simp only [Sem.run_bind,px,py,Result.andThen_ok,heq]
       cases s with
       |true=>simpa using ih
       |false=>simp
      ·cases ht
   ·cases h
  ·cases h
def zuU (P:Program) (M:Nat→Prop) (w:World) (K:TypeId) (kv:Value) (k:PV):Prop :=
 ∃ fs ks C a,P.underlying K=some (.struct fs)∧¬ P.stoodInHeld K=true∧zmE P fs.toList 0=some ks∧kv=.agg C∧k=.agg a∧zfg M w C a∧(zck ks a a).isSome=true
def zka (P:Program) (M:Nat→Prop) (w:World) (K:TypeId) (kv:Value) (k:PV):Prop:=(∃ d,P.underlying K=some d∧zno d kv k)∨zuU P M w K kv k
theorem zmT {K:TypeId} {k:PV} {M:Nat→Prop} {w:World} {kv:Value} (h:zlQ P K k=true) (hr:RepP M w kv k):zka P M w K kv k:=by
 unfold zlQ at h
 split at h
 ·rename_i j a hk
  cases hr
  unfold zjT at hk
  split at hk
  ·rename_i kk hu
   exact .inl ⟨_,hu,.inl ⟨kk,j,a,rfl,rfl,rfl⟩⟩
  ·cases hk
  ·split at hk
   ·cases hk
   ·split at hk<;>cases hk
  ·cases hk
 ·rename_i s hk
  cases hr
  unfold zjT at hk
  split at hk
  ·cases hk
  ·rename_i hu
   exact .inl ⟨_,hu,.inr ⟨s,rfl,rfl,rfl⟩⟩
  ·split at hk
   ·cases hk
   ·split at hk<;>cases hk
  ·cases hk
 ·rename_i ks a hk
  unfold zjT at hk
  split at hk
  ·cases hk
  ·cases hk
  ·rename_i fs hu
   split at hk
   ·cases hk
   ·rename_i hst
    split at hk
    ·rename_i ks' hrow
     cases hk
     cases hr with
     |@agg C _ hn _ hrr=>exact .inr ⟨fs,ks,C,a,hu,hst,hrow,rfl,rfl,⟨hn,hrr⟩,h⟩
    ·cases hk
  ·cases hk
 ·cases h
theorem zr0 {K:TypeId} {kv qv:Value} {k q:PV} {M:Nat→Prop} {w:World} {b:Bool} (hk:zuU P M w K kv k) (hq:RepP M w qv q) (h:ze3 k q=some b):(Op.equal K kv qv).run P w=.ok b w:=by
 obtain ⟨fs,ks,C,a,hu,hst,hrow,rfl,rfl,hC,hs⟩:=hk
 cases q<;>first | (cases h;done) | skip
 rename_i a2
 obtain ⟨t,ht⟩:=Option.isSome_iff_exists.1 hs
 have hks:=zrI ht
 cases hq with
 |@agg D _ hn _ hrr =>
  rw [ze3,←hks] at h
  have hfo:P.fieldsOf K=fs:=by simp [Program.fieldsOf,hu]
  show (Op.equalIn (9999+1) K _ _).run P w=_
  rw [run_equalIn_struct w 9999 K C D (by rw [hfo];exact hu) (by simpa using hst),hfo]
  exact zmD 9998 hC ⟨hn,hrr⟩ fs.toList 0 ks b hrow (by simpa using h)
theorem zAc {bb:Bool} {K:TypeId} {kv:Value} {k:PV} {M:Nat→Prop} {w:World} (hk:zuU P M w K kv k):(Instr.checkKey bb 10000 K kv).run P w=.ok () w:=by
 obtain ⟨fs,ks,C,a,hu,hst,hrow,rfl,rfl,hC,hs⟩:=hk
 obtain ⟨t,ht⟩:=Option.isSome_iff_exists.1 hs
 rw [show (10000:Nat)=9999+1 from rfl,Instr.checkKey]
 simp only [Sem.run_bind,run_underlying hu,Result.andThen_ok]
 rw [←Array.forIn_toList]
 have:∀ (L:List Field) (n:Nat) (ks:List CK) (t:Bool),zmE P L n=some ks→zck ks (a.drop n) (a.drop n)=some t →
   (forIn (m:=Sem) L PUnit.unit fun f _=>if f.name ≠ "_" then do
     let x←part f.type C f.offset
     Instr.checkKey bb 9999 f.type x
     pure (ForInStep.yield PUnit.unit)
    else pure (ForInStep.yield PUnit.unit)).run P w=.ok PUnit.unit w:=by
  intro L
  induction L with
  |nil=>intro n ks t _ _;simp
  |cons f L ih =>
   intro n ks t h ht
   rw [zmE] at h
   split at h
   ·rename_i hf
    obtain ⟨hname,hoff⟩:=hf
    split at h
    ·rename_i k r hk hr
     cases h
     cases ha:a.drop n with
     |nil=>rw [ha] at ht;cases ht
     |cons x a' =>
      rw [ha,zck] at ht
      split at ht
      ·rename_i s u h1 h2
       have hax:a[n]?=some x:=by have:(a.drop n)[0]?=some x:=by rw [ha];rfl
                                 simpa using this
       have ha1:a.drop (n+1)=a':=by have:=congrArg List.tail ha;simpa using this
       have ih':=ih (n+1) r u hr (by rw [ha1];exact h2)
       have px:=zna (w:=w) hk hC hax
       have rx:=hC.2 n x hax
       have hck:(Instr.checkKey bb 9999 f.type (C.getD n undef)).run P w=.ok () w:=by
        generalize C.getD n undef=vx at rx ⊢
        rw [show (9999:Nat)=9998+1 from rfl,Instr.checkKey]
        unfold zpV at hk
        split at hk
        ·rename_i hu'
         cases hk
         cases x<;>simp only [eqK,reduceCtorEq,Option.some.injEq] at h1
         cases rx
         simp only [Sem.run_bind,run_underlying hu',Result.andThen_ok];rfl
        ·rename_i q hu'
         cases hk
         cases x<;>simp only [eqK,reduceCtorEq] at h1
         cases rx
         simp only [Sem.run_bind,run_underlying hu',Result.andThen_ok];rfl
        ·rename_i hu'
         cases hk
         cases x<;>simp only [eqK,reduceCtorEq,Option.some.injEq] at h1
         cases rx
         simp only [Sem.run_bind,run_underlying hu',Result.andThen_ok];rfl
        ·cases hk
       simp only [List.forIn_cons,Sem.run_bind,hname,ne_eq,not_false_eq_true,if_true,hoff,Result.andThen_ok,px,hck,Sem.run_pure]
       simpa using ih'
      ·cases ht
    ·cases h
   ·cases h
 have hh:=this fs.toList 0 ks t hrow (by simpa using ht)
 simp at hh ⊢
 rw [hh];rfl
theorem zrH:∀ {ks:List CK} {a b:List PV},zck ks a b=some true→a.length=b.length∧∀ (i:Nat) (x y:PV),a[i]?=some x→b[i]?=some y→∃ k,eqK k x y=some true
 |[],[],[],_=>⟨rfl,fun i x y h=>by simp at h⟩
 |[],[],_::_,h=>by cases h
 |[],_::_,_,h=>by cases h
 |_::_,[],_,h=>by cases h
 |_::_,_::_,[],h=>by cases h
 |k::ks,x::a,y::b,h=>by
  rw [zck] at h
  split at h
  ·rename_i s u h1 h2
   have h:(s&&u)=true:=Option.some.inj h
   rw [Bool.and_eq_true] at h
   obtain ⟨rfl,rfl⟩:=h
   obtain ⟨hl,he⟩:=zrH h2
   refine ⟨by simp [hl],fun i x' y' hx hy=>?_⟩
   cases i with
   |zero=>simp at hx hy;subst hx;subst hy;exact ⟨k,h1⟩
   |succ i=>exact he i x' y' (by simpa using hx) (by simpa using hy)
  ·cases h
theorem zzL {M:Nat→Prop} {w:World} {vx vy:Value} {x y:PV} {k:CK} {n:Nat} (h:eqK k x y=some true) (hx:RepP M w vx x) (hy:RepP M w vy y):Instr.sameBits n vy vx=true:=by
 cases k<;>cases x<;>cases y<;>simp only [eqK,reduceCtorEq,Option.some.injEq] at h
 ·cases hx;cases hy;simp [Instr.sameBits,eq_of_beq h]
 ·split at h
  ·rename_i hk
   subst hk
   cases hx;cases hy
   simp [Instr.sameBits,eq_of_beq (Option.some.inj h)]
  ·cases h
 ·cases hx;cases hy
  unfold Instr.sameBits
  rename_i s t
  cases s with | mk x=>cases t with | mk y=>rw [show x=y from eq_of_beq (show (x==y)=true from h)];exact (beq_self_eq_true y:(y==y)=true)
theorem zd5 {bb:Bool} {K:TypeId} {kv:Value} {k:PV} {M:Nat→Prop} {w:World} (hk:zka P M w K kv k):(Instr.checkKey bb 10000 K kv).run P w=.ok () w:=by
 rcases hk with ⟨d,hd,hk⟩ | hk
 ·exact zt0 hk hd w
 ·exact zAc hk
def ziz (P:Program) (K:TypeId) (kv:Value) (C:List MapEntry) (i:Nat) (q:Option (Nat×Value)) (w:World):Prop :=
 (∃ d,P.underlying K=some d∧Instr.findNow d kv C i=some q)∨((∃ fs,P.underlying K=some (.struct fs))∧(Instr.findAsking K kv C i).run P w=.ok q w)
theorem ziz.run {K:TypeId} {kv:Value} {C:List MapEntry} {q:Option (Nat×Value)} {w:World} (h:ziz P K kv C 0 q w):(Instr.findKey K kv C).run P w=.ok q w:=by
 rcases h with ⟨d,hd,h⟩ | ⟨⟨fs,hu⟩,h⟩
 ·unfold Instr.findKey
  simp only [Sem.run_bind,run_underlying hd,Result.andThen_ok]
  rw [h];rfl
 ·rw [run_findKey_eq w (by rw [hu]) kv C]
  exact h
theorem zl0 {M:Nat→Prop} {K:TypeId} {kv qv:Value} {k q:PV} {w:World} (hk:zka P M w K kv k) (hq:RepP M w qv q) (hb:ze3 k q=some false) {e:MapEntry} (he:e.key=qv) {C:List MapEntry} {i:Nat} {r:Option (Nat×Value)}
  (hr:ziz P K kv C (i+1) r w):ziz P K kv (e::C) i r w:=by
 subst he
 rcases hk with ⟨d,hd,hk⟩ | hk
 ·rcases hr with ⟨d',hd',hr⟩ | ⟨⟨fs,hu⟩,_⟩
  ·rw [hd] at hd';cases hd'
   refine .inl ⟨d,hd,?_⟩
   rw [Instr.findNow,zsU hk hq hb]
   exact hr
  ·rw [hd] at hu;cases hu
   rcases hk with ⟨_,_,_,h,_⟩ | ⟨_,h,_⟩<;>cases h
 ·have heq:=zr0 hk hq hb
  obtain ⟨fs,ks,C0,a,hu,h1,h2,h3,h4,h5⟩:=hk
  have hr2:(Instr.findAsking K kv C (i+1)).run P w=.ok r w:=by
   rcases hr with ⟨d',hd',hr⟩ | ⟨_,hr⟩
   ·rw [hu] at hd';cases hd'
    cases C with
    |nil=>cases hr;rfl
    |cons e2 C2=>subst h3;simp [Instr.findNow,Instr.sameNow] at hr
   ·exact hr
  refine .inr ⟨⟨fs,hu⟩,?_⟩
  rw [Instr.findAsking]
  simp only [Sem.run_bind,heq,Result.andThen_ok]
  simpa using hr2
theorem zrG {M:Nat→Prop} {K:TypeId} {kv qv:Value} {k q:PV} {w:World} (hk:zka P M w K kv k) (hq:RepP M w qv q) (hb:ze3 k q=some true) {e:MapEntry} (he:e.key=qv) {C:List MapEntry} {i:Nat} :
  ziz P K kv (e::C) i (some (i,e.val)) w:=by
 subst he
 rcases hk with ⟨d,hd,hk⟩ | hk
 ·refine .inl ⟨d,hd,?_⟩
  rw [Instr.findNow,zsU hk hq hb]
 ·have heq:=zr0 hk hq hb
  obtain ⟨fs,ks,C0,a,hu,h1,h2,h3,h4,h5⟩:=hk
  refine .inr ⟨⟨fs,hu⟩,?_⟩
  rw [Instr.findAsking]
  simp only [Sem.run_bind,heq,Result.andThen_ok]
  simp
theorem zoL {R:Value→AV→Prop} {M:Nat→Prop} {w:World} (hR:∀ v q,R v (.p q)→RepP M w v q) {K:TypeId} {kv:Value} {k:PV} (hk:zka P M w K kv k) :
  ∀ {C:List MapEntry} {es:List (PV×PV)} {r:Option PV} (i:Nat),zdN R C es→zgc k es=some r →
   match r with | none=>ziz P K kv C i none w | some v=>∃ j u,ziz P K kv C i (some (j,u)) w∧R u (.p v)
 |[],[],r,i,_,h=>by
  cases h
  rcases hk with ⟨d,hd,hk⟩ | hk
  ·exact .inl ⟨d,hd,rfl⟩
  ·obtain ⟨fs,ks,C,a,hu,_⟩:=hk
   exact .inl ⟨_,hu,rfl⟩
 |[],_::_,_,_,hm,_=>hm.elim
 |_::_,[],_,_,hm,_=>hm.elim
 |e::C,(q,v)::es,r,i,hm,h=>by
  rw [zgc] at h
  split at h
  ·rename_i hq
   cases h
   exact ⟨i,e.val,zrG hk (hR _ _ hm.1) hq rfl,hm.2.1⟩
  ·rename_i hq
   have ih:=zoL hR hk (i+1) hm.2.2 h
   cases r with
   |none=>exact zl0 hk (hR _ _ hm.1) hq rfl ih
   |some v=>obtain ⟨j,u,h1,h2⟩:=ih;exact ⟨j,u,zl0 hk (hR _ _ hm.1) hq rfl h1,h2⟩
  ·cases h
theorem zBi {K:TypeId} {kv qv:Value} {k q:PV} {M:Nat→Prop} {w:World} (hk:zka P M w K kv k) (hq:RepP M w qv q) (h:ze3 k q=some true):Instr.sameBits 10000 qv kv=true:=by
 rcases hk with ⟨d,hd,hk⟩ | hk
 ·rw [zAH hk hq h];exact zsV hk
 ·obtain ⟨fs,ks,C,a,hu,h1,h2,rfl,rfl,hC,hs⟩:=hk
  cases q<;>first | (cases h;done) | skip
  rename_i b
  cases hq with
  |@agg D _ hn _ hrr =>
   obtain ⟨hl,he⟩:=zrH h
   have hs1:D.size=C.size:=by rw [hn,hC.1,hl]
   rw [show (10000:Nat)=9999+1 from rfl,Instr.sameBits,hs1,beq_self_eq_true,Bool.true_and,List.all_eq_true]
   intro p hp
   obtain ⟨i,hi,rfl⟩:=List.getElem_of_mem hp
   rw [List.getElem_zip]
   have hi':i<D.size∧i<C.size:=by simp at hi;omega
   have ha:i<a.length:=by rw [←hC.1];exact hi'.2
   have hb:i<b.length:=by omega
   obtain ⟨k,hk⟩:=he i a[i] b[i] (List.getElem?_eq_getElem ha) (List.getElem?_eq_getElem hb)
   have g1:=hC.2 i _ (List.getElem?_eq_getElem ha)
   have g2:=hrr i _ (List.getElem?_eq_getElem hb)
   have e1:C.getD i undef=C.toList[i]'(by simpa using hi'.2):=by simp [Array.getD_eq_getD_getElem?,hi'.2]
   have e2:D.getD i undef=D.toList[i]'(by simpa using hi'.1):=by simp [Array.getD_eq_getD_getElem?,hi'.1]
   rw [e1] at g1
   rw [e2] at g2
   exact zzL hk g1 g2
theorem zqp {R:Value→AV→Prop} {M:Nat→Prop} {w:World} (hR:∀ v q,R v (.p q)→RepP M w v q) {K:TypeId} {kv u:Value} {k v:PV} (hk:zka P M w K kv k) (hkr:R kv (.p k)) (hu:R u (.p v)) :
  ∀ {C:List MapEntry} {es es':List (PV×PV)} (i:Nat),zdN R C es→zhE k v es=some es' →
   (∃ j x e,ziz P K kv C i (some (i+j,x)) w∧C[j]?=some e∧Instr.sameBits 10000 e.key kv=true∧zdN R (C.modify j fun e=>{ e with key:=kv,val:=u }) es') ∨
   (ziz P K kv C i none w∧∀ n,zdN R (C++[{ key:=kv,val:=u,born:=n }]) es')
 |[],[],es',i,_,h=>by
  cases h
  refine .inr ⟨?_,fun n=>⟨hkr,hu,trivial⟩⟩
  rcases hk with ⟨d,hd,hk⟩ | hk
  ·exact .inl ⟨d,hd,rfl⟩
  ·obtain ⟨fs,ks,C,a,hu,_⟩:=hk
   exact .inl ⟨_,hu,rfl⟩
 |[],_::_,_,_,hm,_=>hm.elim
 |_::_,[],_,_,hm,_=>hm.elim
 |e::C,(q,x)::es,es',i,hm,h=>by
  rw [zhE] at h
  split at h
  ·rename_i hq
   cases h
   refine .inl ⟨0,e.val,e,zrG hk (hR _ _ hm.1) hq rfl,rfl,zBi hk (hR _ _ hm.1) hq,?_⟩
   exact ⟨hkr,hu,hm.2.2⟩
  ·rename_i hq
   simp only [Option.map_eq_some_iff] at h
   obtain ⟨r,h1,rfl⟩:=h
   rcases zqp hR hk hkr hu (i+1) hm.2.2 h1 with ⟨j,y,e',h2,h3,h4,h5⟩ | ⟨h2,h3⟩
   ·refine .inl ⟨j+1,y,e',?_,by simpa using h3,h4,?_⟩
    ·have e0:i+(j+1)=i+1+j:=by omega
     rw [e0];exact zl0 hk (hR _ _ hm.1) hq rfl h2
    ·rw [List.modify_succ_cons]
     exact ⟨hm.1,hm.2.1,h5⟩
   ·exact .inr ⟨zl0 hk (hR _ _ hm.1) hq rfl h2,fun n=>⟨hm.1,hm.2.1,h3 n⟩⟩
  ·cases h
theorem zrt {T K E:TypeId} (h:zoB P T=some (K,E)):P.underlying T=some (.map K E):=by
 unfold zoB at h
 split at h
 ·rename_i hu;cases h;exact hu
 ·cases h
theorem ztn {S:Mem} (hS:HOk P M0 S) {v:Value} {id:Nat} {es:List (PV×PV)} (hx:Rep M0 S v (.ref .mp id)) (hid:S.h[id]?=some (.mp es)) :
  ∃ bl C clk,v=.map (some bl)∧S.m.getD id none=some bl∧S.w.heap[bl]?=some (.map C clk)∧zdN (zaV M0 S) C.toList es:=by
 obtain ⟨_,hd | ⟨_,bl,hm,hv⟩⟩:=hx
 ·rw [hid] at hd;cases hd
 ·obtain ⟨bl',C,clk,hm',hb,hrel⟩:=hS.obj id _ hid
  rw [hm] at hm';cases hm'
  exact ⟨bl,C,clk,hv,hm,hb,hrel⟩
theorem zzb {S:Mem} (hS:HOk P M0 S) {T:TypeId} {v u:Value} {x y:AV} {ok:Bool} (hx:Rep M0 S v x) (hy:Rep M0 S u y):zaw P M0 S (Instr.lookup T v u ok) (zjA P T x y ok S.h):=by
 unfold zjA
 split
 ·rename_i K E id k hT
  have hu:=zrt hT
  split
  ·rename_i es z hid hz
   split
   ·rename_i hko
    have hyr:RepP (Avoid M0 S.m) S.w u k:=hy
    have hk:=zmT hko hyr
    obtain ⟨bl,C,clk,rfl,hm,hb,hrel⟩:=ztn hS hx hid
    obtain ⟨zv,hz1,hz2⟩:=zfh hz S.w
    have hrun:∀ q,ziz P K u C.toList 0 q S.w→(Instr.lookup T (.map (some bl)) u ok).run P S.w=.ok (match q with
      |some (_,x)=>if ok then .tuple #[x,.bool true] else x
      |none=>if ok then .tuple #[zv,.bool false] else zv) S.w:=fun q hq=>by
     unfold Instr.lookup
     simp only [Sem.run_bind,run_underlying hu,Result.andThen_ok,getObj,Sem.run,hb,zd5 hk]
     simp [Sem.run_bind,zd5 hk,hq.run]
     cases q with
     |none=>simp [hz1,Sem.run_bind]
     |some x=>rfl
    have hRR:∀ (v:Value) (q:PV),zaV M0 S v (.p q)→RepP (Avoid M0 S.m) S.w v q:=fun v q h=>h
    split
    ·rename_i q hg
     obtain ⟨j,x,h1,h2⟩:=zoL hRR hk 0 hrel hg
     refine ⟨S,_,rfl,hrun _ h1,Ev.refl _ _,hS,?_⟩
     have h3:=hRR _ _ h2
     cases ok
     ·exact zas h3
     ·refine zas (RepP.tuple rfl fun i c hi=>?_)
      match i,hi with
      |0,hi=>cases hi;exact h3
      |1,hi=>cases hi;exact .bool _
    ·rename_i hg
     have h1:=zoL hRR hk 0 hrel hg
     refine ⟨S,_,rfl,hrun _ h1,Ev.refl _ _,hS,?_⟩
     have h3:RepP (Avoid M0 S.m) S.w zv z:=zdz hz2
     cases ok
     ·exact zas h3
     ·refine zas (RepP.tuple rfl fun i c hi=>?_)
      match i,hi with
      |0,hi=>cases hi;exact h3
      |1,hi=>cases hi;exact .bool _
    ·exact trivial
   ·exact trivial
  ·exact trivial
 ·exact trivial
theorem zxj {S:Mem} (hS:HOk P M0 S) {v:Value} {id:Nat} {f:PV→PV→Bool} (hx:Rep M0 S v (.ref .mp id)) (hid:S.h[id]?=some (.memo f)) :
  zh1 f∧∃ es:List (PV×PV),(∀ p,p∈es→f p.1 p.2=true)∧∃ bl C clk,v=.map (some bl)∧S.m.getD id none=some bl∧S.w.heap[bl]?=some (.map C clk)∧zdN (zaV M0 S) C.toList es:=by
 obtain ⟨_,hd | ⟨_,bl,hm,hv⟩⟩:=hx
 ·rw [hid] at hd;cases hd
 ·obtain ⟨hg,es,hf,bl',C,clk,hm',hb,hrel⟩:=hS.obj id _ hid
  rw [hm] at hm';cases hm'
  exact ⟨hg,es,hf,bl,C,clk,hv,hm,hb,hrel⟩
theorem ztq {f:PV→PV→Bool} (hg:zh1 f) {k v:PV} (hk:f k v=true):∀ {es:List (PV×PV)},(∀ p,p∈es→f p.1 p.2=true)→∃ es',zhE k v es=some es'∧∀ p,p∈es'→f p.1 p.2=true
 |[],_=>⟨[(k,v)],rfl,fun p hp=>by rw [List.mem_singleton.1 hp];exact hk⟩
 |(q,u)::r,h=>by
  obtain ⟨b,hb,_⟩:=hg k q v u hk (h (q,u) (by simp))
  rw [zhE,hb]
  cases b with
  |true =>
   refine ⟨_,rfl,fun p hp=>?_⟩
   rcases List.mem_cons.1 hp with rfl | hp
   ·exact hk
   ·exact h p (by simp [hp])
  |false =>
   obtain ⟨es',h1,h2⟩:=ztq hg hk (es:=r) fun p hp=>h p (by simp [hp])
   refine ⟨(q,u)::es',by simp [h1],fun p hp=>?_⟩
   rcases List.mem_cons.1 hp with rfl | hp
   ·exact h _ (by simp)
   ·exact h2 p hp
theorem ztr {S:Mem} (hS:HOk P M0 S) {T:TypeId} {v u c:Value} {x y z:AV} (hx:Rep M0 S v x) (hy:Rep M0 S u y) (hz:Rep M0 S c z):zqe P M0 S (Instr.mapUpdate T v u c) (zjp P T x y z S.h):=by
 unfold zjp
 split
 ·rename_i K E id k q hT
  have hu:=zrt hT
  split
  ·rename_i es hid
   split
   ·rename_i hko
    have hyr:RepP (Avoid M0 S.m) S.w u k:=hy
    have hk:=zmT hko hyr
    obtain ⟨bl,C,clk,rfl,hm,hb,hrel⟩:=ztn hS hx hid
    have hRR:∀ (v:Value) (q:PV),zaV M0 S v (.p q)→RepP (Avoid M0 S.m) S.w v q:=fun v q h=>h
    split
    ·rename_i es' hp
     rcases zqp hRR hk (show zaV M0 S u (.p k) from hyr) (show zaV M0 S c (.p q) from hz) 0 hrel hp with ⟨j,x,e,h1,h2,h3,h4⟩ | ⟨h1,h2⟩
     ·rw [Nat.zero_add] at h1
      obtain ⟨hk',hev⟩:=ze8 hS (o:=.mp es') (ob:=.map (C.modify j fun e=>{ e with key:=u,val:=c }) clk) hm hid hb (zhi hb) (by intro C T f;simp)
       (.inr (.inr ⟨by simp [AObj.tag],rfl,rfl⟩)) (fun he hx=>⟨bl,_,clk,rfl,hx,by rw [Array.toList_modify];exact h4.mono fun v a=>he.keepS⟩)
      refine ⟨_,rfl,?_,hev,hk'⟩
      unfold Instr.mapUpdate
      simp only [Sem.run_bind,run_underlying hu,Result.andThen_ok,getObj,Sem.run,hb,zd5 hk]
      simp [Sem.run_bind,zd5 hk,h1.run]
      have hC:C[j]?=some e:=by simpa using h2
      have hks:(Instr.keyThatStays e.key u).run P S.w=.ok u S.w:=by
       unfold Instr.keyThatStays
       rw [if_pos h3];rfl
      rw [hC]
      simp only [Option.map_some,Option.getD_some,hks,Result.andThen_ok]
      simp [setObj,Sem.run,World.putObj,hb]
     ·obtain ⟨hk',hev⟩:=ze8 hS (o:=.mp es') (ob:=.map (C.push { key:=u,val:=c,born:=clk }) (clk+1)) hm hid hb (zhi hb) (by intro C T f;simp)
       (.inr (.inr ⟨by simp [AObj.tag],rfl,rfl⟩)) (fun he hx=>⟨bl,_,_,rfl,hx,by rw [Array.toList_push];exact (h2 clk).mono fun v a=>he.keepS⟩)
      refine ⟨_,rfl,?_,hev,hk'⟩
      unfold Instr.mapUpdate
      simp only [Sem.run_bind,run_underlying hu,Result.andThen_ok,getObj,Sem.run,hb,zd5 hk]
      simp [Sem.run_bind,zd5 hk,h1.run]
      simp [setObj,Sem.run,World.putObj,hb]
    ·exact trivial
   ·exact trivial
  ·rename_i f hid
   split
   ·rename_i hko
    obtain ⟨hko,hfk⟩:=hko
    have hyr:RepP (Avoid M0 S.m) S.w u k:=hy
    have hk:=zmT hko hyr
    obtain ⟨hg,es,hf,bl,C,clk,rfl,hm,hb,hrel⟩:=zxj hS hx hid
    obtain ⟨es',hp,hf'⟩:=ztq hg hfk hf
    have hRR:∀ (v:Value) (q:PV),zaV M0 S v (.p q)→RepP (Avoid M0 S.m) S.w v q:=fun v q h=>h
    rcases zqp hRR hk (show zaV M0 S u (.p k) from hyr) (show zaV M0 S c (.p q) from hz) 0 hrel hp with ⟨j,x,e,h1,h2,h3,h4⟩ | ⟨h1,h2⟩
    ·rw [Nat.zero_add] at h1
     obtain ⟨hk',hev⟩:=ze8 hS (o:=.memo f) (ob:=.map (C.modify j fun e=>{ e with key:=u,val:=c }) clk) hm hid hb (zhi hb) (by intro C T f;simp)
      (.inr (.inr ⟨by simp [AObj.tag],rfl,rfl⟩)) (fun he hx=>⟨hg,es',hf',bl,_,clk,rfl,hx,by rw [Array.toList_modify];exact h4.mono fun v a=>he.keepS⟩)
     refine ⟨_,zeX hid,?_,hev,hk'⟩
     unfold Instr.mapUpdate
     simp only [Sem.run_bind,run_underlying hu,Result.andThen_ok,getObj,Sem.run,hb,zd5 hk]
     simp [Sem.run_bind,zd5 hk,h1.run]
     have hC:C[j]?=some e:=by simpa using h2
     have hks:(Instr.keyThatStays e.key u).run P S.w=.ok u S.w:=by
      unfold Instr.keyThatStays
      rw [if_pos h3];rfl
     rw [hC]
     simp only [Option.map_some,Option.getD_some,hks,Result.andThen_ok]
     simp [setObj,Sem.run,World.putObj,hb]
    ·obtain ⟨hk',hev⟩:=ze8 hS (o:=.memo f) (ob:=.map (C.push { key:=u,val:=c,born:=clk }) (clk+1)) hm hid hb (zhi hb) (by intro C T f;simp)
      (.inr (.inr ⟨by simp [AObj.tag],rfl,rfl⟩)) (fun he hx=>⟨hg,es',hf',bl,_,_,rfl,hx,by rw [Array.toList_push];exact (h2 clk).mono fun v a=>he.keepS⟩)
     refine ⟨_,zeX hid,?_,hev,hk'⟩
     unfold Instr.mapUpdate
     simp only [Sem.run_bind,run_underlying hu,Result.andThen_ok,getObj,Sem.run,hb,zd5 hk]
     simp [Sem.run_bind,zd5 hk,h1.run]
     simp [setObj,Sem.run,World.putObj,hb]
   ·exact trivial
  ·exact trivial
 ·exact trivial
theorem zr4 {S:Mem} (hS:HOk P M0 S) {T A:TypeId} {ok:Bool} {v:Value} {x:AV} (hx:Rep M0 S v x):zaw P M0 S (Instr.typeAssert v T A ok) (zfP P A ok x S.h):=by
 unfold zfP
 split
 ·rename_i t q hA
  split
  ·rename_i ht
   subst ht
   have h1:RepP (Avoid M0 S.m) S.w v (.iface t q):=hx
   cases h1 with
   |@iface _ v' _ h2 =>
    unfold zdn at hA
    split at hA
    ·cases hA
    ·rename_i d hd hu
     refine ⟨S,if ok then .tuple #[v',.bool true] else v',rfl,?_,Ev.refl _ _,hS,?_⟩
     ·unfold Instr.typeAssert
      simp only [Sem.run_bind,run_underlying hu,Result.andThen_ok]
      cases d<;>first | (cases ok<;>simp;done) | exact absurd rfl (hd _)
     ·cases ok
      ·exact zas h2
      ·refine zas (RepP.tuple rfl fun i c hi=>?_)
       match i,hi with
       |0,hi=>cases hi;exact h2
       |1,hi=>cases hi;exact .bool _
    ·cases hA
  ·rename_i ht
   split
   ·rename_i hok
    subst hok
    split
    ·rename_i z hz
     obtain ⟨zv,hz1,hz2⟩:=zfh hz S.w
     have h1:RepP (Avoid M0 S.m) S.w v (.iface t q):=hx
     cases h1 with
     |@iface _ v' _ h2 =>
      unfold zdn at hA
      split at hA
      ·cases hA
      ·rename_i d hd hu
       refine ⟨S,.tuple #[zv,.bool false],rfl,?_,Ev.refl _ _,hS,?_⟩
       ·unfold Instr.typeAssert
        simp only [Sem.run_bind,run_underlying hu,Result.andThen_ok]
        cases d<;>first | (simp [ht,Sem.run_bind,hz1];done) | exact absurd rfl (hd _)
       ·refine zas (RepP.tuple rfl fun i c hi=>?_)
        match i,hi with
        |0,hi=>cases hi;exact zdz hz2
        |1,hi=>cases hi;exact .bool _
      ·cases hA
    ·exact trivial
   ·exact trivial
 ·exact trivial
end Abs
end Go.Proofs.YtahlnclapingiaaGreatDoor
