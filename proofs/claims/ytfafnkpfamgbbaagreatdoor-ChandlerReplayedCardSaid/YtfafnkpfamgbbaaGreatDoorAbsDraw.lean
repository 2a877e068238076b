/-
  LAWS: regions of any order: what the order of the text comes to, every order comes to.
  L
-/
import Derived.Test.YtfafnkpfamgbbaaGreatDoorAbsFunX
import Derived.Orders
set_option linter.unusedSimpArgs false
set_option linter.unusedVariables false
namespace Go.Proofs.YtfafnkpfamgbbaaGreatDoor
namespace Abs
variable {P:Program} {H:Hints} {ops:Array Oper} {Q:Ex->AAct->Prop}
theorem lC {mu} {e e'} {h} (o) (he:∀ x∈o.op.operands,e x=e' x):bY P mu o e h=bY P mu o e' h:=by
 obtain ⟨dst,op,type,pos,after,guard⟩:=o;have pairs:∀ ps:Array (Nat×Operand),(∀ x∈ps.map (·.2),e x=e' x)->(ps.toList.map λq=>(q.1,e q.2))=(ps.toList.map λq=>(q.1,e' q.2)):=λps hp =>
  Ny λq hm=>by
   simp only [hp q.2 (Array.mem_map.2 ⟨q,D0.1 hm,rfl⟩)]
 have lists:∀ xs:Array Operand,(∀ x∈xs,e x=e' x)->xs.toList.map e=xs.toList.map e':=λxs hp =>
  Ny λx hm=>hp x (D0.1 hm)
 cases op<;>simp only [Op.operands] at he<;>simp only [bY]
 case build t ps=>rw [pairs ps λx hx=>he x (by simpa using hx)]
 case buildSlice t n ps=>rw [pairs ps λx hx=>he x (by simpa using hx)]
 case makeFunc fn first cap=>rw [lists first λx hx=>he x (by simp [hx]),lists cap λx hx=>he x (by simp [hx])]
 case slice t x lo hi mx =>
  have h0:e x=e' x:=he x (by simp);have h1:lo.map e=lo.map e':=by cases lo with | none=>rfl | some y=>simp only [lD,he y (by simp)]
  have h2:hi.map e=hi.map e':=by cases hi with | none=>rfl | some y=>simp only [lD,he y (by simp)]
  have h3:mx.map e=mx.map e':=by cases mx with | none=>rfl | some y=>simp only [lD,he y (by simp)]
  rw [h0,h1,h2,h3]
 case call c =>
  have ha:c.args.toList.map e=c.args.toList.map e':=lists c.args λx hx=>he x (by simp [Call.operands,hx])
  cases hc:c.callee with
  |value f=>simp only [ha,he f (by simp [Call.operands,hc])]
  |builtin b=>simp only [ha]
  |invoke r mm=>rfl
 case defer c =>
  have ha:c.args.toList.map e=c.args.toList.map e':=lists c.args λx hx=>he x (by simp [Call.operands,hx])
  cases hc:c.callee with
  |value f=>simp only [ha,he f (by simp [Call.operands,hc])]
  |builtin b=>rfl
  |invoke r mm=>rfl
 case makeMap t r =>
  cases r with
  |none=>rfl
  |some y=>simp only [lD,he y (by simp)]
 all_goals (first | rfl | (simp_all;done))
theorem OK {A:AAct} {dst} {v} {h} {x} (hx:∀ d,dst=some d->x≠.tmp d):(A.put dst v h).eval x=A.eval x:=by
 cases dst with
 |none=>rfl
 |some d =>
  cases x with
  |tmp t =>
   have:t≠d:=λe=>hx d rfl (e▸rfl)
   simp [AAct.put,AAct.eval,vo,this]
  |_=>rfl
theorem kK {A} {dst} {v} {h} {o} (hd:∀ d,dst=some d->d∉o.looksAt ops):bC ops (A.put dst v h) o=bC ops A o:=by
 cases dst with
 |none=>rfl
 |some d =>
  unfold bC
  cases hg:o.guard with
  |none=>rfl
  |some gw =>
   obtain ⟨g,want⟩:=gw;simp only;unfold qR
   cases ht:(ops[g]?).bind (·.dst) with
   |none=>rfl
   |some t =>
    have hne:t≠d:=λe=>hd d rfl (by subst e;simp [Oper.looksAt,hg,ht]);simp [AAct.put,vo,hne]
theorem EV (A:AAct) {x y} (v u) (h1 h2 h3) (h:∀ d,x=some d->y≠some d):(A.put x v h1).put y u h2=(A.put y u h3).put x v h2:=by
 cases x with
 |none=>cases y<;>rfl
 |some d =>
  cases y with
  |none=>rfl
  |some e =>
   have hne:d≠e:=λhe=>h d rfl (he▸rfl);simp only [AAct.put,AAct.mk.injEq,true_and,and_true];funext s;simp only [vo];by_cases h1:s=d
   .by_cases h2:s=e
    .exact absurd (h1.symm.trans h2) hne
    .simp [h1,hne]
   .simp [h1]
theorem cB.refl (h):cB h h:=λ_ _ e _=>e
theorem cB.trans {a b c} (h:cB a b) (k:cB b c):cB a c:=λid o e hd=>k id o (h id o e hd) hd
theorem cB.app (h u):cB h (h++u):=λid o e _=>by
 rw [be (aE.1 e).1];exact e
theorem s9 {h u} (hs:cB h u) {id sz:Nat} {xs} (hl:h[id]?=some (.row sz xs)):u[id]?=some (.row sz xs):=hs id _ hl rfl
theorem sF {h u} (hs:cB h u) {id ver sz} (hl:gQ h id ver=some sz):gQ u id ver=some sz:=by
 obtain ⟨xs,h1,h2⟩:=lm hl;simp [gQ,s9 hs h1,h2]
def eT (F:Heap->OR) (h u:Heap):Prop:=(∀ v,F h=.val v h->F u=.val v u)/\∀ f a,F h=.call f a->F u=.call f a
theorem eT.const {F} {h u} (k:(∃ v,∀ h,F h=.val v h)\/(∃ f a,∀ h,F h=.call f a)\/((∀ v,F h≠.val v h)/\∀ f a,F h≠.call f a)):eT F h u:=by
 rcases k with ⟨v,k⟩ | ⟨f,a,k⟩ | ⟨k1,k2⟩
 .refine ⟨λv' e=>?_,λf a e=>?_⟩
  .rw [k] at e;cases e;exact k _
  .rw [k] at e;cases e
 .refine ⟨λv' e=>?_,λf a e=>?_⟩
  .rw [k] at e;cases e
  .rw [k] at e;cases e;exact k _
 .exact ⟨λv e=>absurd e (k1 v),λf a e=>absurd e (k2 f a)⟩
theorem aN {h} {X:AV->Prop} {Y:FuncId->List AV->Prop}:(∀ v,OR.stuck=OR.val v h->X v)/\∀ f a,OR.stuck=OR.call f a->Y f a :=
 ⟨λ_ e=>(by cases e),λ_ _ e=>(by cases e)⟩
theorem sW (v) (h u):eT (λh=>iz h v) h u:=by
 cases v with
 |none=>exact .const (.inr (.inr ⟨λv=>by simp [iz],λf a=>by simp [iz]⟩))
 |some v=>exact .const (.inl ⟨v,λ_=>rfl⟩)
theorem rp (v) (h u):eT (λh=>sE h v) h u:=by
 cases v with
 |none=>exact .const (.inr (.inr ⟨λv=>by simp [sE],λf a=>by simp [sE]⟩))
 |some v=>exact .const (.inl ⟨.p v,λ_=>rfl⟩)
theorem aY (h u):eT (λ_=>.stuck) h u:=.const (.inr (.inr ⟨λv=>by simp,λf a=>by simp⟩))
theorem bK (v) (h u):eT (λh=>.val v h) h u:=.const (.inl ⟨v,λ_=>rfl⟩)
theorem N6 (T) (x) (h u) (hs:cB h u):eT (oe P T x) h u:=by
 cases x with
 |p q =>
  cases q with
  |ptr sz xs i o =>
   show eT (λh=>match xs[i]? with | some v=>iz h (kU P T (.p v) o) | none=>.stuck) h u
   cases xs[i]? with
   |none=>exact aY h u
   |some v=>exact sW _ h u
  |_=>exact aY h u
 |ptr id ver i o =>
  unfold eT oe;dsimp only
  cases hid:h[id]? with
  |none=>exact aN
  |some ob =>
   cases ob with
   |row sz xs =>
    rw [s9 hs hid];dsimp only;split
    .cases xs[i]? with
     |none=>exact aN
     |some v=>exact sW _ h u
    .exact aN
   |_=>exact aN
 |_=>exact aY h u
theorem EY {id ver} {v} (h u) (hs:cB h u):eT (λh=>match gQ h id ver with | some _=>.val v h | none=>.stuck) h u:=by
 unfold eT;dsimp only
 cases hl:gQ h id ver with
 |none=>exact aN
 |some sz=>rw [sF hs hl];exact ⟨λv e=>(by cases e;rfl),λf a e=>(by cases e)⟩
theorem DB (T) (x) (f) (h u) (hs:cB h u):eT (lX P T x f) h u:=by
 unfold lX
 cases af P T f with
 |none=>exact aY h u
 |some q =>
  obtain ⟨off,t⟩:=q;dsimp only
  cases ca P t with
  |none=>exact aY h u
  |some n =>
   dsimp only;by_cases hn:n=0
   .simp only [hn,if_true];exact aY h u
   .simp only [hn,if_false]
    cases x with
    |p q=>cases q<;>first | exact bK _ h u | exact aY h u
    |ptr id ver i o=>exact EY h u hs
    |_=>exact aY h u
theorem LJ (T) (x) (f) (h u):eT (tA P T x f) h u:=by
 unfold tA
 cases af P T f with
 |none=>exact aY h u
 |some q =>
  obtain ⟨off,t⟩:=q
  cases x with
  |p q=>cases q<;>first | exact sW _ h u | exact aY h u
  |agg cs=>exact sW _ h u
  |_=>exact aY h u
theorem dt {c} [Decidable c] {F} {h u} (k:eT F h u):eT (λh=>if c then F h else .stuck) h u:=by
 by_cases hc:c
 .simp only [hc,if_true];exact k
 .simp only [hc,if_false];exact aY h u
theorem DA (T) (x ix) (h u) (hs:cB h u):eT (ia P T x ix) h u:=by
 cases ix with
 |p qi =>
  cases qi with
  |int k i =>
   cases x with
   |p q =>
    cases q with
    |slice sz xs full =>
     unfold eT ia;dsimp only
     cases bu P T with
     |none=>exact aN
     |some e=>exact dt (bK _ h u)
    |ptr sz xs j o =>
     unfold eT ia;dsimp only
     cases dI P T with
     |none=>exact aN
     |some q =>
      obtain ⟨n,e⟩:=q;dsimp only
      cases ca P e with
      |none=>exact aN
      |some s=>exact dt (bK _ h u)
    |_=>exact aY h u
   |slice id ver off len =>
    unfold eT ia;dsimp only
    cases bu P T with
    |none=>exact aN
    |some e =>
     cases hid:h[id]? with
     |none=>exact aN
     |some ob =>
      cases ob with
      |row sz xs =>
       rw [s9 hs hid]
       exact dt (bK _ h u)
      |_=>exact aN
   |ptr id ver j o =>
    unfold eT ia;dsimp only
    cases dI P T with
    |none=>exact aN
    |some q =>
     obtain ⟨n,e⟩:=q;dsimp only
     cases ca P e with
     |none=>exact aN
     |some s =>
      cases hl:gQ h id ver with
      |none=>exact aN
      |some z=>rw [sF hs hl];exact dt (bK _ h u)
   |_=>exact aY h u
  |_=>exact aY h u
 |_=>exact aY h u
theorem JO (T) (x k) (ok) (h u) (hs:cB h u):eT (qT P T x k ok) h u:=by
 unfold eT qT
 cases yL P T with
 |none=>exact aN
 |some q =>
  obtain ⟨K,E⟩:=q
  cases x with
  |ref t id =>
   cases t with
   |mp =>
    cases k with
    |p k =>
     dsimp only
     cases hid:h[id]? with
     |none=>exact aN
     |some ob =>
      cases ob with
      |mp es =>
       rw [hs id _ hid rfl]
       cases ak P E with
       |none=>exact aN
       |some z =>
        dsimp only;by_cases hk:uw P K k=true
        .simp only [if_pos hk]
         cases lk k es with
         |none=>exact aN
         |some r=>cases r<;>exact bK _ h u
        .simp only [if_neg hk];exact aN
      |_=>exact aN
    |_=>exact aN
   |_=>exact aN
  |_=>exact aN
theorem LI (T) (x ix) (h u):eT (wL P T x ix) h u:=by
 have agg:∀ (x:AV) (i:Int),eT (λh=>match dI P T with
   |some (n,e)=>match ca P e with | some s=>if 0<=i/\i<n then iz h (kU P e x (i.toNat*s)) else .stuck | none=>.stuck
   |none=>.stuck) h u:=by
  intro x i
  cases dI P T with
  |none=>exact aY h u
  |some q =>
   obtain ⟨n,e⟩:=q;dsimp only
   cases ca P e with
   |none=>exact aY h u
   |some s=>exact dt (sW _ h u)
 cases ix with
 |p qi =>
  cases qi with
  |int k i =>
   cases x with
   |p q =>
    cases q with
    |str s =>
     refine dt ?_
     cases s[i.toNat]? with
     |none=>exact aY h u
     |some b=>exact bK _ h u
    |agg cs=>exact agg _ i
    |_=>exact aY h u
   |agg cs=>exact agg _ i
   |_=>exact aY h u
  |_=>exact aY h u
 |_=>exact aY h u
theorem LG (T) (x) (lo hi mx) (h u) (hs:cB h u):eT (tz P T x lo hi mx) h u:=by
 unfold eT tz
 cases mF lo with
 |none=>exact aN
 |some l =>
  cases mF hi with
  |none=>exact aN
  |some r =>
   cases mF mx with
   |none=>exact aN
   |some m =>
    cases x with
    |p q =>
     cases q with
     |slice sz xs full =>
      dsimp only
      cases bu P T with
      |none=>exact aN
      |some e =>
       cases mK l r xs.length with
       |none=>exact aN
       |some ab =>
        cases m with
        |none=>exact dt (bK _ h u)
        |some m=>exact dt (dt (bK _ h u))
     |str s =>
      dsimp only
      cases mK l r s.size with
      |none=>exact aN
      |some ab =>
       cases m with
       |none=>exact dt (bK _ h u)
       |some m=>exact aN
     |nilslice =>
      dsimp only
      cases bu P T with
      |none=>exact aN
      |some e =>
       cases mK l r 0 with
       |none=>exact aN
       |some ab =>
        cases m with
        |none=>exact dt (bK _ h u)
        |some m=>exact aN
     |_=>exact aN
    |slice id ver off len =>
     dsimp only
     cases bu P T with
     |none=>exact aN
     |some e =>
      cases hid:h[id]? with
      |none=>exact aN
      |some ob =>
       cases ob with
       |row sz xs =>
        rw [s9 hs hid]
        cases mK l r len with
        |none =>
         cases m with
         |none=>exact dt (bK _ h u)
         |some m=>exact dt (bK _ h u)
        |some ab =>
         cases m with
         |none=>exact dt (bK _ h u)
         |some m=>exact dt (bK _ h u)
       |_=>exact aN
    |_=>exact aN
theorem Q5 (T) (x) (h u) (hs:cB h u):eT (zf P T x) h u:=by
 cases x with
 |p q =>
  cases q with
  |str s=>exact dt (bK _ h u)
  |slice sz xs full=>exact dt (bK _ h u)
  |nilslice=>exact dt (bK _ h u)
  |agg cs =>
   unfold eT zf;dsimp only
   cases dI P T with
   |none=>exact aN
   |some q=>exact bK _ h u
  |_=>exact aY h u
 |slice id ver off len =>
  unfold eT zf;dsimp only
  cases hl:gQ h id ver with
  |none=>simp only [Jk,fA,and_false,if_false];exact aN
  |some z=>rw [sF hs hl];exact dt (bK _ h u)
 |_=>exact aY h u
theorem Q6 (op) (T) (c) (x y) (h u):eT (B8 P op T c x y) h u:=by
 unfold B8;split
 .split
  .exact rp _ h u
  .split
   .exact rp _ h u
   .exact aY h u
 .exact rp _ h u
 .split
  .exact rp _ h u
  .exact rp _ h u
  .exact aY h u
theorem TB (op) (x) (h u):eT (I2 op x) h u:=by
 unfold I2;split
 .exact bK _ h u
 .exact bK _ h u
 .exact aY h u
theorem G6 (a b) (x) (h u):eT (oQ P a b x) h u:=by
 unfold oQ;split
 .split
  .exact bK _ h u
  .exact aY h u
 .exact dt (bK _ h u)
 .rename_i y ys full
  cases hn:s7 (y::ys) with
  |some ns=>exact dt (bK _ h u)
  |none=>exact dt (aY h u)
 .exact aY h u
theorem G5 (x) (i) (h u):eT (oP x i) h u:=by
 unfold oP;split
 .split
  .exact bK _ h u
  .exact aY h u
 .split
  .exact bK _ h u
  .exact aY h u
 .exact aY h u
theorem LK (T) (ps) (h u):eT (tB P T ps) h u:=by
 unfold tB;split
 .split
  .split
   .exact bK _ h u
   .exact aY h u
  .split
   .split
    .split
     .exact bK _ h u
     .exact aY h u
    .exact aY h u
   .exact aY h u
 .exact aY h u
theorem Bt (T) (mu) (n) (ps) (h u):eT (kN P T mu n ps) h u:=by
 unfold eT kN
 cases bu P T with
 |none=>exact aN
 |some e =>
  dsimp only
  cases ca P e with
  |none=>exact aN
  |some sz =>
   dsimp only
   cases rQ 0 sz ps with
   |none=>exact aN
   |some xs =>
    dsimp only;by_cases hc:xs.length=n/\sz≠0/\n*sz<=16777216/\gm P e sz=true
    .simp only [hc,and_self,not_false_eq_true,ne_eq,if_true]
     cases mu with
     |false =>
      cases gB xs with
      |some l=>exact bK _ h u
      |none=>exact ⟨λv e=>(by injection e with e1 e2;exact absurd (congrArg List.length e2) (by simp)),λf a e=>(by cases e)⟩
     |true=>exact ⟨λv e=>(by injection e with e1 e2;exact absurd (congrArg List.length e2) (by simp)),λf a e=>(by cases e)⟩
    .simp only [hc,if_false];exact aN
theorem JP (f) (args) (h u):eT (λ_=>fQ f args) h u:=by
 refine ⟨λv e=>?_,λf a e=>e⟩;dsimp only at e;unfold fQ at e;split at e<;>cases e
theorem Bs (A) (ok) (x) (h u):eT (kL P A ok x) h u:=by
 unfold eT kL;split
 .split
  .exact ⟨λv e=>(by cases e;rfl),λf a e=>(by cases e)⟩
  .split
   .split
    .exact ⟨λv e=>(by cases e;rfl),λf a e=>(by cases e)⟩
    .exact aN
   .exact aN
 .exact aN
theorem LH {mu} {o} (e) (hq:eR o.op=true) (h u) (hs:cB h u):eT (bY P mu o e) h u:=by
 obtain ⟨dst,op,type,pos,after,guard⟩:=o;cases op<;>first | (simp only [eR,fA] at hq;done) | skip
 case move x=>exact bK _ h u
 case assign x=>exact bK _ h u
 case pick c a b =>
  unfold eT bY;dsimp only;split
  .exact bK _ h u
  .exact aN
 case build t ps=>exact LK _ _ h u
 case buildSlice t n ps=>exact Bt _ _ _ _ h u
 case load t a=>exact N6 _ _ h u hs
 case nilCheck x =>
  unfold eT bY;dsimp only;split
  .exact bK _ h u
  .exact EY h u hs
  .exact aN
 case binOp op t x y ty=>exact Q6 _ _ _ _ _ h u
 case unOp op t x=>exact TB _ _ h u
 case convert a b x=>exact G6 _ _ _ h u
 case makeInterface t x =>
  unfold eT bY;dsimp only;split
  .split
   .exact bK _ h u
   .exact aN
  .exact aN
 case makeFunc f a c=>exact dt (bK _ h u)
 case slice t x lo hi mx=>exact LG _ _ _ _ _ h u hs
 case fieldAddr t x f=>exact DB _ _ _ h u hs
 case field t x f=>exact LJ _ _ _ h u
 case indexAddr t x i=>exact DA _ _ _ h u hs
 case index t x i=>exact LI _ _ _ h u
 case extract x i=>exact G5 _ _ h u
 case lookup t x k ok=>exact JO _ _ _ _ h u hs
 case typeAssert x t a ok=>exact Bs _ _ _ h u
 case call c =>
  unfold eT bY;dsimp only
  cases hc:c.callee with
  |value f=>exact JP _ _ h u
  |invoke r mm=>simp [eR,hc] at hq
  |builtin b =>
   dsimp only;cases b<;>first | (simp [eR,hc] at hq;done) | skip
   all_goals
    unfold rR;split
    .exact dt (Q5 _ _ h u hs)
    .simp_all
    .exact bK _ h u
    .exact bK _ h u
    .simp_all
    .simp_all
    .simp_all
    .exact aN
end Abs
end Go.Proofs.YtfafnkpfamgbbaaGreatDoor
namespace Go.Proofs.YtfafnkpfamgbbaaGreatDoor
namespace Abs
variable {P:Program} {H:Hints} {ops:Array Oper} {Q:Ex->AAct->Prop}
def eM (P:Program) (H:Hints) (ops:Array Oper) (Q:Ex->AAct->Prop) (o:Oper) (K:Heap->AAct->Prop) (hs:Heap) (A:AAct):Prop :=
 r7 (λ_=>Ut
   (λ_=>kT P A o.dst (λB=>K B.h B) Q (bY P (aQ H) o A.eval A.h))
   (λ_=>B5 A.h (λv h=>K hs (A.put o.dst v h)) (bY P (aQ H) o A.eval A.h))
   (λ_=>xJ P A.h (λv=>K hs (A.put o.dst v A.h)) (bY P (aQ H) o A.eval A.h))
   (λ_=>xJ P hs (λv=>K hs (A.put o.dst v A.h)) (bY P (aQ H) o A.eval hs))
   (λj sz=>r9 hs A.h j sz (λv h=>K hs (A.put o.dst v h)) (gO P A.eval o.op))
   (λ_=>vv P hs A.h A.eval (λh=>K hs (A.put o.dst (.p (.tuple [])) h)) o.op)
   (λ_=>vS P A.h A.eval (K hs (A.put o.dst (.p (.tuple [])) A.h)) o.op)
   (λ_=>zd hs A.h (λv h=>K hs (A.put o.dst v h)) (bY P (aQ H) o A.eval A.h))
   (λ_=>yq P Q A (λv=>K hs (A.put o.dst v A.h)) (bY P (aQ H) o A.eval A.h))
   (λ_=>rJ P H Q hs A (λv h=>K hs (A.put o.dst v h)) (bY P (aQ H) o A.eval A.h))
   (bV H o))
  (λ_=>K hs (A.put o.dst (.p (.tuple [])) A.h)) (bC ops A o)
theorem GV (o) (rest) (hs) (A):bU P H ops Q (o::rest) hs A=eM P H ops Q o (bU P H ops Q rest) hs A:=by
 rw [bU];rfl
inductive HE where
 |app (t:Heap)
 |set (id:Nat) (o:AObj)
def HE.ap:HE->Heap->Heap
 |.app t,h=>h++t
 |.set id o,h=>h.set id o
def Qv (P:Program) (h:Heap) (r:OR) (v:AV):Prop :=
 r=.val v h\/∃ f args,r=.call f args/\∀ h',cB h h'->aC P f args h' (λr h''=>r=.ret v/\h''=h')
def GJ (P:Program) (H:Hints) (o:Oper) (hs:Heap) (v:AV) (E:HE) (A:AAct):Prop :=
 ∃ j sz z,bV H o=.slot j sz/\gO P A.eval o.op=some z/\z.cells.map (·.length)=some sz/\iG hs (hs.length-1-j)=true/\A.h[hs.length-1-j]?=some (.row sz []) /\
  v=.ptr (hs.length-1-j) 1 0 0/\E=.set (hs.length-1-j) (.row sz [z])
def QA (P:Program) (H:Hints) (o:Oper) (hs:Heap) (v:AV) (E:HE) (A:AAct):Prop :=
 bV H o=.sto/\∃ T a x id ver i k ob,o.op=.store T a x/\A.eval a=.ptr id ver i k/\iG hs id=true/\gK P T (.ptr id ver i k) (A.eval x) A.h=.skip (A.h.set id ob)/\v=.p (.tuple [])/\E=.set id ob
def QC (P:Program) (H:Hints) (o:Oper) (v:AV) (E:HE) (A:AAct):Prop :=
 bV H o=.nop/\v=.p (.tuple [])/\E=.app []/\∃ T a x,o.op=.store T a x/\gK P T (A.eval a) (A.eval x) A.h=.skip A.h
def QG (P:Program) (H:Hints) (o:Oper) (hs:Heap) (v:AV) (E:HE) (A:AAct):Prop :=
 ∃ t,bV H o=.app t/\((∃ l,E=.app l)\/∃ id ob,E=.set id ob/\iG hs id=true)/\bY P (aQ H) o A.eval A.h=.val v (E.ap A.h)
def QB (P:Program) (H:Hints) (o:Oper) (v:AV) (E:HE) (A:AAct):Prop :=
 bV H o=.thr/\E=.app []/\∃ f args,bY P (aQ H) o A.eval A.h=.call f args/\∀ h',cB A.h h'->aC P f args h' (λr h''=>r=.ret v/\h''=h')
def TS (P:Program) (H:Hints) (ops:Array Oper) (Q:Ex->AAct->Prop) (o:Oper) (A:AAct):Prop :=
 bC ops A o=some true/\bV H o=.thr/\∃ f args v,bY P (aQ H) o A.eval A.h=.call f args/\aC P f args A.h (λr h''=>r=.panic v/\h''=A.h)/\∀ T,Q (.panic v) { A with tmps:=T }
def QS (P:Program) (H:Hints) (ops:Array Oper) (o:Oper) (hs:Heap) (v:AV) (E:HE) (A:AAct):Prop :=
 (bC ops A o=some false/\v=.p (.tuple [])/\E=.app []) \/
 (bC ops A o=some true /\
  ((bV H o=.quiet/\E=.app []/\Qv P A.h (bY P (aQ H) o A.eval A.h) v) \/
   (bV H o=.low/\E=.app []/\Qv P hs (bY P (aQ H) o A.eval hs) v) \/
   (bV H o=.alloc/\∃ t,E=.app t/\bY P (aQ H) o A.eval A.h=.val v (A.h++t)) \/
   GJ P H o hs v E A\/QA P H o hs v E A\/QC P H o v E A\/QG P H o hs v E A\/QB P H o v E A))
theorem KW {T} {id ver i k} {y} {h h'} (e:gK P T (.ptr id ver i k) y h=.skip h'):∃ ob,h'=h.set id ob:=by
 unfold gK at e;split at e
 .rename_i n hx _;split at e
  .split at e
   .split at e
    .split at e
     .cases hx;cases e;exact ⟨_,rfl⟩
     .cases e
    .cases e
   .cases e
  .cases e
 .cases e
theorem qN {h} {K} {r}:xJ P h K r↔∃ v,Qv P h r v/\K v:=by
 constructor
 .intro k;cases r<;>first | exact k.elim | skip
  case val v h'=>obtain ⟨rfl,k⟩:=k;exact ⟨v,.inl rfl,k⟩
  case call f args=>obtain ⟨v,k1,k2⟩:=k;exact ⟨v,.inr ⟨f,args,rfl,k1⟩,k2⟩
 .rintro ⟨v,rfl | ⟨f,args,rfl,k1⟩,k2⟩
  .exact ⟨rfl,k2⟩
  .exact ⟨v,k1,k2⟩
theorem kH {o} {K} {hs} {A} {v} {E} (q:QS P H ops o hs v E A) (k:K hs (A.put o.dst v (E.ap A.h))):eM P H ops Q o K hs A:=by
 unfold eM;rcases q with ⟨hw,rfl,rfl⟩ | ⟨hw,q⟩
 .rw [hw];refine ⟨λh=>(by cases h),λ_=>?_⟩;simpa [HE.ap] using k
 .rw [hw];refine ⟨λ_=>?_,λh=>(by cases h)⟩;rcases q with ⟨hc,rfl,q⟩ | ⟨hc,rfl,q⟩ | ⟨hc,t,rfl,q⟩ | ⟨j,sz,z,hc,h1,h2,h3,h4,rfl,rfl⟩ | ⟨hc,T,a,x,id,ver,i,kk,ob,h1,h2,h3,h4,rfl,rfl⟩ | ⟨hc,rfl,rfl,T,a,x,h1,h2⟩ | ⟨t,hc,hE,hq⟩ | ⟨hc,rfl,f,args,h1,h2⟩
  .rw [hc];exact qN.2 ⟨v,q,by simpa [HE.ap] using k⟩
  .rw [hc];exact qN.2 ⟨v,q,by simpa [HE.ap] using k⟩
  .rw [hc,q];exact ⟨⟨t,rfl⟩,k⟩
  .rw [hc];refine (show r9 hs A.h j sz (λv h=>K hs (A.put o.dst v h)) (gO P A.eval o.op) from ?_);rw [h1];exact ⟨h2,h3,h4,k⟩
  .rw [hc];refine (show vv P hs A.h A.eval (λh=>K hs (A.put o.dst (.p (.tuple [])) h)) o.op from ?_);rw [h1];show (match A.eval a with | .ptr id ver i o=>iG hs id=true/\qp _ (gK P T (.ptr id ver i o) (A.eval x) A.h) | _=>False);rw [h2];refine ⟨h3,?_⟩;rw [h4];exact k
  .rw [hc];refine (show vS P A.h A.eval (K hs (A.put o.dst (.p (.tuple [])) A.h)) o.op from ?_);rw [h1];exact ⟨h2,by simpa [HE.ap] using k⟩
  .rw [hc,hq];refine ⟨?_,k⟩;rcases hE with ⟨l,rfl⟩ | ⟨id,ob,rfl,hd⟩
   .exact .inl ⟨l,rfl⟩
   .exact .inr ⟨id,ob,rfl,hd⟩
  .rw [hc,h1];exact .inl ⟨v,h2,by simpa [HE.ap] using k⟩
theorem sA {o} {K} {hs} {A} (q:TS P H ops Q o A):eM P H ops Q o K hs A:=by
 obtain ⟨hw,hc,f,args,v,h1,h2,h3⟩:=q;unfold eM;rw [hw];refine ⟨λ_=>?_,λh=>(by cases h)⟩;rw [hc,h1];exact .inr ⟨v,h2,h3⟩
theorem ny {o} {K} {hs} {A} (hc:bV H o=.thr) (k:eM P H ops Q o K hs A) :
  (∃ v E,QS P H ops o hs v E A/\K hs (A.put o.dst v (E.ap A.h)))\/TS P H ops Q o A:=by
 unfold eM at k
 cases hw:bC ops A o with
 |none=>rw [hw] at k;exact k.elim
 |some b =>
  rw [hw] at k
  cases b with
  |false=>exact .inl ⟨_,.app [],.inl ⟨hw,rfl,rfl⟩,by simpa [HE.ap] using k.2 rfl⟩
  |true =>
   have k1:=k.1 rfl;rw [hc] at k1;have k2:yq P Q A (λv=>K hs (A.put o.dst v A.h)) (bY P (aQ H) o A.eval A.h):=k1;cases hr:bY P (aQ H) o A.eval A.h<;>rw [hr] at k2<;>first | exact k2.elim | skip
   rename_i f args;rcases k2 with ⟨v,h1,h2⟩ | ⟨v,h1,h2⟩
   .exact .inl ⟨v,.app [],.inr ⟨hw,.inr (.inr (.inr (.inr (.inr (.inr (.inr ⟨hc,rfl,f,args,hr,h1⟩))))))⟩,by simpa [HE.ap] using h2⟩
   .exact .inr ⟨hw,hc,f,args,v,hr,h1,h2⟩
theorem MI {hs} {A} {K K'} {r} (hk:∀ v h,K v h->K' v h) (k:rJ P H Q hs A K r):rJ P H Q hs A K' r:=by
 cases r<;>first | exact k.elim | skip
 intro M0 m w cargs hS ha;obtain ⟨h1,h2⟩:=k M0 m w cargs hS ha;refine ⟨h1,h2.mono λ_ _ hb=>?_⟩;obtain ⟨r,h',m',hR,rest⟩:=hb;exact ⟨r,h',m',by cases r<;>first | exact ⟨hR.1,hk _ _ hR.2⟩ | exact hR,rest⟩
theorem n9 {o} {K} {hs} {A} (hc:bV H o=.cal) (k:eM P H ops Q o K hs A) :
  (∃ v E,QS P H ops o hs v E A/\K hs (A.put o.dst v (E.ap A.h)))\/(bC ops A o=some true/\rJ P H Q hs A (λv h=>K hs (A.put o.dst v h)) (bY P (aQ H) o A.eval A.h)):=by
 unfold eM at k
 cases hw:bC ops A o with
 |none=>rw [hw] at k;exact k.elim
 |some b =>
  rw [hw] at k
  cases b with
  |false=>exact .inl ⟨_,.app [],.inl ⟨hw,rfl,rfl⟩,by simpa [HE.ap] using k.2 rfl⟩
  |true =>
   have k1:=k.1 rfl;rw [hc] at k1;exact .inr ⟨rfl,k1⟩
theorem vw {o} {K} {hs} {A} (hc:bV H o=.cal) (hw:bC ops A o=some true) (k:rJ P H Q hs A (λv h=>K hs (A.put o.dst v h)) (bY P (aQ H) o A.eval A.h)):eM P H ops Q o K hs A:=by
 unfold eM;rw [hw];refine ⟨λ_=>?_,λh=>(by cases h)⟩;rw [hc];exact k
theorem oZ {o} {K} {hs} {A} (hb:(bV H o≠.bar/\bV H o≠.thr/\bV H o≠.cal)\/bC ops A o=some false) (k:eM P H ops Q o K hs A) :
  ∃ v E,QS P H ops o hs v E A/\K hs (A.put o.dst v (E.ap A.h)):=by
 unfold eM at k
 cases hw:bC ops A o with
 |none=>rw [hw] at k;exact k.elim
 |some b =>
  rw [hw] at k
  cases b with
  |false=>exact ⟨_,.app [],.inl ⟨hw,rfl,rfl⟩,by simpa [HE.ap] using k.2 rfl⟩
  |true =>
   have k1:=k.1 rfl
   cases hc:bV H o with
   |bar =>
    rcases hb with hb | hb
    .exact absurd hc hb.1
    .rw [hw] at hb;cases hb
   |thr =>
    rcases hb with hb | hb
    .exact absurd hc hb.2.1
    .rw [hw] at hb;cases hb
   |cal =>
    rcases hb with hb | hb
    .exact absurd hc hb.2.2
    .rw [hw] at hb;cases hb
   |alloc =>
    rw [hc] at k1;cases hr:bY P (aQ H) o A.eval A.h<;>rw [hr] at k1<;>first | exact k1.elim | skip
    rename_i v h';obtain ⟨⟨t,rfl⟩,k2⟩:=k1
    exact ⟨v,.app t,.inr ⟨hw,.inr (.inr (.inl ⟨hc,t,rfl,hr⟩))⟩,k2⟩
   |quiet =>
    rw [hc] at k1;obtain ⟨v,q,k2⟩:=qN.1 k1
    exact ⟨v,.app [],.inr ⟨hw,.inl ⟨hc,rfl,q⟩⟩,by simpa [HE.ap] using k2⟩
   |low =>
    rw [hc] at k1;obtain ⟨v,q,k2⟩:=qN.1 k1
    exact ⟨v,.app [],.inr ⟨hw,.inr (.inl ⟨hc,rfl,q⟩)⟩,by simpa [HE.ap] using k2⟩
   |slot j sz =>
    rw [hc] at k1;have k2:r9 hs A.h j sz (λv h=>K hs (A.put o.dst v h)) (gO P A.eval o.op):=k1
    cases hz:gO P A.eval o.op with
    |none=>rw [hz] at k2;exact k2.elim
    |some z =>
     rw [hz] at k2;obtain ⟨h1,h2,h3,k3⟩:=k2
     exact ⟨_,.set _ _,.inr ⟨hw,.inr (.inr (.inr (.inl ⟨j,sz,z,hc,hz,h1,h2,h3,rfl,rfl⟩)))⟩,k3⟩
   |sto =>
    rw [hc] at k1;have k2:vv P hs A.h A.eval (λh=>K hs (A.put o.dst (.p (.tuple [])) h)) o.op:=k1;unfold vv at k2;split at k2
    .rename_i T a x hop;split at k2
     .rename_i id ver i kk ha;obtain ⟨h1,k3⟩:=k2;unfold qp at k3;split at k3
      .rename_i h' hst;obtain ⟨ob,rfl⟩:=KW hst;exact ⟨_,.set id ob,.inr ⟨hw,.inr (.inr (.inr (.inr (.inl ⟨hc,T,a,x,id,ver,i,kk,ob,hop,ha,h1,hst,rfl,rfl⟩))))⟩,k3⟩
      .exact k3.elim
     .exact k2.elim
    .exact k2.elim
   |nop =>
    rw [hc] at k1;have k2:vS P A.h A.eval (K hs (A.put o.dst (.p (.tuple [])) A.h)) o.op:=k1;unfold vS at k2;split at k2
    .rename_i T a x hop;exact ⟨_,.app [],.inr ⟨hw,.inr (.inr (.inr (.inr (.inr (.inl ⟨hc,rfl,rfl,T,a,x,hop,k2.1⟩)))))⟩,by simpa [HE.ap] using k2.2⟩
    .exact k2.elim
   |app t =>
    rw [hc] at k1;have k2:zd hs A.h (λv h=>K hs (A.put o.dst v h)) (bY P (aQ H) o A.eval A.h):=k1;cases hr:bY P (aQ H) o A.eval A.h<;>rw [hr] at k2<;>first | exact k2.elim | skip
    rename_i v h';obtain ⟨⟨l,rfl⟩ | ⟨id,ob,rfl,hd⟩,k3⟩:=k2
    .exact ⟨v,.app l,.inr ⟨hw,.inr (.inr (.inr (.inr (.inr (.inr (.inl ⟨t,hc,.inl ⟨l,rfl⟩,hr⟩))))))⟩,k3⟩
    .exact ⟨v,.set id ob,.inr ⟨hw,.inr (.inr (.inr (.inr (.inr (.inr (.inl ⟨t,hc,.inr ⟨id,ob,rfl,hd⟩,hr⟩))))))⟩,k3⟩
theorem oA {A} {dst} {K K'} {r} (h:∀ B,K B->K' B) (k:kT P A dst K Q r):kT P A dst K' Q r:=by
 cases r with
 |val v h'=>exact h _ k
 |skip h'=>exact h _ k
 |call f args =>
  intro M0 m w cargs hS ha;obtain ⟨h1,h2⟩:=k M0 m w cargs hS ha;refine ⟨h1,h2.mono λ_ _ hb=>?_⟩;obtain ⟨r,h',m',hR,rest⟩:=hb
  exact ⟨r,h',m',by cases r<;>first | exact h _ hR | exact hR,rest⟩
 |yld l args =>
  refine ⟨k.1,λM0 m w cargs bl hS ha hbl=>?_⟩;obtain ⟨f,tmps,asx,bd,h1,h2⟩:=k.2 M0 m w cargs bl hS ha hbl;refine ⟨f,tmps,asx,bd,h1,λc cs=>?_⟩;obtain ⟨e,w',⟨r,h',m',hR,rest⟩,hs⟩:=h2 c cs
  exact ⟨e,w',⟨r,h',m',by cases r<;>first | exact h _ hR | exact hR,rest⟩,hs⟩
 |dfr d =>
  simp only [kT] at k |-;have gen:∀ {X Y:Prop} {c:Rc},(X->Y)->uG X c->uG Y c:=λhx hc=>by
   rename_i c;cases c<;>first | exact False.elim hc | exact hx hc
  exact gen (h _) k
 |recover =>
  simp only [kT] at k |-;have gen:∀ {X Y:AAct->PV->Prop} {c:Rc},(∀ B v,X B v->Y B v)->N1 A X c->N1 A Y c:=λhx hc=>by
   rename_i c;cases c<;>first | exact False.elim hc | exact hx _ _ hc
  exact gen (λ_ _=>h _) k
 |panic v=>exact k
 |stuck=>exact k
theorem zE {o} {K K'} {hs} {A} (h:∀ hs A,K hs A->K' hs A) (k:eM P H ops Q o K hs A):eM P H ops Q o K' hs A:=by
 by_cases ht:bV H o=.thr
 .rcases ny ht k with ⟨v,E,q,k1⟩ | q
  .exact kH q (h _ _ k1)
  .exact sA q
 by_cases hcl:bV H o=.cal
 .rcases n9 hcl k with ⟨v,E,q,k1⟩ | ⟨hw,k1⟩
  .exact kH q (h _ _ k1)
  .exact vw hcl hw (MI (λv h' hk=>h _ _ hk) k1)
 by_cases hb:bV H o≠.bar\/bC ops A o=some false
 .obtain ⟨v,E,q,k1⟩:=oZ (hb.imp (λh=>⟨h,ht,hcl⟩) id) k;exact kH q (h _ _ k1)
 .have hb1:bV H o=.bar:=Classical.byContradiction λhn=>hb (.inl hn);unfold eM at k |-
  cases hw:bC ops A o with
  |none=>rw [hw] at k;exact k.elim
  |some b =>
   rw [hw,hb1] at k;rw [hb1]
   cases b with
   |false=>exact absurd (.inr hw) hb
   |true =>
    have k1:kT P A o.dst (λB=>K B.h B) Q (bY P (aQ H) o A.eval A.h):=k.1 rfl;exact ⟨λ_=>oA (K':=λB=>K' B.h B) (λB=>h B.h B) k1,λh=>(by cases h)⟩
theorem Kn {o} (h:bV H o=.quiet):eR o.op=true:=by
 unfold bV at h;split at h
 .unfold tX at h;split at h
  .split at h<;>cases h
  .cases h
 .split at h
  .split at h
   .cases h
   .split at h
    .assumption
    .cases h
  .cases h
  .split at h<;>cases h
  .split at h<;>cases h
  .split at h<;>cases h
  .split at h<;>cases h
  .split at h<;>cases h
  .cases h
theorem OQ {o} (h:bV H o=.low):eR o.op=true:=by
 unfold bV at h;split at h
 .unfold tX at h;split at h
  .split at h<;>cases h
  .cases h
 .split at h
  .split at h
   .cases h
   .split at h<;>cases h
  .cases h
  .split at h
   .assumption
   .cases h
  .split at h<;>cases h
  .split at h<;>cases h
  .split at h<;>cases h
  .split at h<;>cases h
  .cases h
theorem Mu {o} {j sz} (h:bV H o=.slot j sz):yS o.op=true:=by
 unfold bV at h;split at h
 .unfold tX at h;split at h
  .split at h<;>cases h
  .cases h
 .split at h
  .split at h
   .cases h
   .split at h<;>cases h
  .cases h
  .split at h<;>cases h
  .split at h
   .assumption
   .cases h
  .split at h<;>cases h
  .split at h<;>cases h
  .split at h<;>cases h
  .cases h
theorem p8 {e e'} {o:Oper} (he:∀ x∈o.op.operands,e x=e' x):gO P e o.op=gO P e' o.op:=by
 unfold gO;split
 .rfl
 .rename_i T x hop;rw [he x (by rw [hop];simp [Op.operands])]
 .rfl
theorem lS {A:AAct} {dst} {v} {h} {o:Oper} (hd:∀ d,dst=some d->d∉o.looksAt ops):∀ x∈o.op.operands,(A.put dst v h).eval x=A.eval x:=by
 intro x hx;refine OK λd hd' hxd=>hd d hd' ?_;subst hxd;exact List.mem_append_left _ (List.mem_filterMap.2 ⟨.tmp d,by simpa using hx,rfl⟩)
theorem QS.same {o} {hs} {v} {E} {A B} (q:QS P H ops o hs v E A) (hw:bC ops B o=bC ops A o) (he:∀ x∈o.op.operands,B.eval x=A.eval x) (hh:B.h=A.h):QS P H ops o hs v E B:=by
 have hop:∀ h,bY P (aQ H) o B.eval h=bY P (aQ H) o A.eval h:=λh=>lC o he;unfold QS GJ QA QC QG QB at *
 rw [hw,hh,p8 he];simp only [hop];rcases q with q | ⟨q1,q | q | q | q | ⟨hc,T,a,x,id,ver,i,kk,ob,h1,h2,h3,h4,h5⟩ | ⟨hc,h1,h2,T,a,x,h3,h4⟩ | q⟩
 .exact .inl q
 .exact .inr ⟨q1,.inl q⟩
 .exact .inr ⟨q1,.inr (.inl q)⟩
 .exact .inr ⟨q1,.inr (.inr (.inl q))⟩
 .exact .inr ⟨q1,.inr (.inr (.inr (.inl q)))⟩
 .refine .inr ⟨q1,.inr (.inr (.inr (.inr (.inl ⟨hc,T,a,x,id,ver,i,kk,ob,h1,?_,h3,?_,h5⟩))))⟩
  .rw [he a (by rw [h1];simp [Op.operands])];exact h2
  .rw [he x (by rw [h1];simp [Op.operands])];exact h4
 .refine .inr ⟨q1,.inr (.inr (.inr (.inr (.inr (.inl ⟨hc,h1,h2,T,a,x,h3,?_⟩)))))⟩;rw [he a (by rw [h3];simp [Op.operands]),he x (by rw [h3];simp [Op.operands])];exact h4
 .exact .inr ⟨q1,.inr (.inr (.inr (.inr (.inr (.inr q)))))⟩
theorem RY {o o'} {hs} {v} {E} {A} {K} (hp:pE H ops o o'=true) (q:QS P H ops o hs v E A)
  (k:eM P H ops Q o' K hs (A.put o.dst v (E.ap A.h))):eM P H ops Q o' (λhs' A'=>QS P H ops o hs' v E A'/\K hs' (A'.put o.dst v (E.ap A'.h))) hs A:=by
 unfold pE at hp;simp only [cK] at hp;obtain ⟨hall,hap,hkp⟩:=hp;obtain ⟨a1,a2,a3⟩:=Oper.apart_spec hap;have hb2:bV H o'≠.bar:=by
  intro hb;have hall':∀ c,lh c .bar=false:=by intro c;cases c<;>rfl
  rw [hb,hall'] at hall;simp [qC] at hall
 by_cases hcl:bV H o'=.cal/\bC ops (A.put o.dst v (E.ap A.h)) o'=some true
 .obtain ⟨hcl,hwt⟩:=hcl;have hlow:bV H o=.low:=by
   rw [hcl] at hall;cases hc:bV H o<;>rw [hc] at hall<;>first | rfl | (simp [lh,xm,qC] at hall)
  have hE:E=.app []/\∀ A',bC ops A' o=bC ops A o->(∀ x∈o.op.operands,A'.eval x=A.eval x)->QS P H ops o hs v E A':=by
   rcases q with ⟨hw,hv,hE⟩ | ⟨hw,⟨hc',_⟩ | ⟨hc',hE,hq⟩ | ⟨hc',_⟩ | ⟨_,_,_,hc',_⟩ | ⟨hc',_⟩ | ⟨hc',_⟩ | ⟨_,hc',_⟩ | ⟨hc',_⟩⟩
   .exact ⟨hE,λA' h1 _=>.inl ⟨h1.trans hw,hv,hE⟩⟩
   .rw [hlow] at hc';cases hc'
   .refine ⟨hE,λA' h1 h2=>.inr ⟨h1.trans hw,.inr (.inl ⟨hc',hE,?_⟩)⟩⟩;rw [lC o h2];exact hq
   all_goals (rw [hlow] at hc';cases hc')
  obtain ⟨rfl,hqs⟩:=hE;rcases n9 hcl k with ⟨v',E',q',k'⟩ | ⟨_,kc⟩
  .rcases q' with ⟨hw',_⟩ | ⟨_,⟨hc',_⟩ | ⟨hc',_⟩ | ⟨hc',_⟩ | ⟨_,_,_,hc',_⟩ | ⟨hc',_⟩ | ⟨hc',_⟩ | ⟨_,hc',_⟩ | ⟨hc',_⟩⟩
   .rw [hwt] at hw';cases hw'
   all_goals (rw [hcl] at hc';cases hc')
  .have e1:(A.put o.dst v (HE.ap (.app []) A.h)).h=A.h:=by rw [ja];simp [HE.ap]
   have e2:bY P (aQ H) o' (A.put o.dst v (HE.ap (.app []) A.h)).eval A.h=bY P (aQ H) o' A.eval A.h:=lC o' (lS a1);refine vw hcl ((kK a1).symm.trans hwt) ?_;rw [e1,e2] at kc;cases hr:bY P (aQ H) o' A.eval A.h<;>rw [hr] at kc<;>first | exact kc.elim | skip
   rename_i f args;have kc2:aC P f args A.h (BH (λu h=>cB hs h/\K hs ((A.put o.dst v (HE.ap (.app []) A.h)).put o'.dst u h)) (λu h=>∀ T,J3 H T (A.put o.dst v (HE.ap (.app []) A.h)).tmps->Q (.panic u) { A.put o.dst v (HE.ap (.app []) A.h) with tmps:=T,h:=h })):=by
    have:aC P f args (A.put o.dst v (HE.ap (.app []) A.h)).h (BH (λu h=>cB hs h/\K hs ((A.put o.dst v (HE.ap (.app []) A.h)).put o'.dst u h)) (λu h=>∀ T,J3 H T (A.put o.dst v (HE.ap (.app []) A.h)).tmps->Q (.panic u) { A.put o.dst v (HE.ap (.app []) A.h) with tmps:=T,h:=h })):=kc;rw [e1] at this;exact this
   intro M0 m w cargs hS ha;obtain ⟨h1,h2⟩:=kc2 M0 m w cargs hS ha;refine ⟨h1,h2.mono λ_ _ hb=>?_⟩;obtain ⟨r,h',m',hR,rest⟩:=hb;refine ⟨r,h',m',?_,rest⟩
   cases r with
   |ret u =>
    refine ⟨hR.1,hqs _ (kK a3) (lS a3),?_⟩;have e3:HE.ap (.app []) (A.put o'.dst u h').h=h':=by rw [ja];simp [HE.ap]
    rw [e3,<-EV A v u (HE.ap (.app []) A.h) h' h' a2]
    exact hR.2
   |panic u =>
    intro T hT;have:=hR T (λt ht=>by
     rw [hT t ht];unfold Qq at hkp;rw [hcl] at hkp
     cases hd:o.dst with
     |none=>rfl
     |some d =>
      rw [hd] at hkp;have hne:t≠d:=by
       rintro rfl
       simp [ht] at hkp
      simp [AAct.put,vo,hne])
    have e:({ A.put o.dst v (HE.ap (.app []) A.h) with tmps:=T,h:=h' }:AAct)={ A with tmps:=T,h:=h' }:=by
     cases o.dst<;>simp [AAct.put]
    rw [e] at this;exact this
 have hcase:(∃ v' E',QS P H ops o' hs v' E' (A.put o.dst v (E.ap A.h))/\K hs ((A.put o.dst v (E.ap A.h)).put o'.dst v' (E'.ap (A.put o.dst v (E.ap A.h)).h)))\/(TS P H ops Q o' (A.put o.dst v (E.ap A.h))/\E=.app []):=by
  by_cases ht:bV H o'=.thr
  .rcases ny ht k with h | h
   .exact .inl h
   .refine .inr ⟨h,?_⟩;rw [ht] at hall;rcases q with ⟨_,_,h⟩ | ⟨_,⟨_,h,_⟩ | ⟨_,h,_⟩ | ⟨hc',_⟩ | ⟨_,_,_,hc',_⟩ | ⟨hc',_⟩ | ⟨hc',_⟩ | ⟨_,hc',_⟩ | ⟨hc',_⟩⟩
    .exact h
    .exact h
    .exact h
    all_goals (rw [hc'] at hall;simp [lh,xm,qC] at hall)
  .by_cases hcl2:bV H o'=.cal
   .rcases n9 hcl2 k with h | ⟨h,_⟩
    .exact .inl h
    .exact absurd ⟨hcl2,h⟩ hcl
   .exact .inl (oZ (.inl ⟨hb2,ht,hcl2⟩) k)
 rcases hcase with ⟨v',E',q',k'⟩ | ⟨⟨tw,tc,f,args,u,t1,t2,t3⟩,rfl⟩
 rotate_left
 .refine sA ⟨(kK a1).symm.trans tw,tc,f,args,u,?_,?_,λT=>?_⟩
  .rw [<-t1,ja];simp only [HE.ap,aW];exact (lC o' (lS a1)).symm
  .rw [ja] at t2;simpa [HE.ap] using t2
  .have:=t3 T;have e:({ A.put o.dst v (HE.ap (.app []) A.h) with tmps:=T }:AAct)={ A with tmps:=T }:=by
    cases o.dst<;>simp [AAct.put,HE.ap]
   rw [e] at this;exact this
 have hput:(A.put o.dst v (E.ap A.h)).h=E.ap A.h:=ja _ _ _ _;have hput':(A.put o'.dst v' (E'.ap A.h)).h=E'.ap A.h:=ja _ _ _ _;have ee:∀ x∈o'.op.operands,(A.put o.dst v (E.ap A.h)).eval x=A.eval x:=lS a1;have ew:bC ops (A.put o.dst v (E.ap A.h)) o'=bC ops A o':=kK a1;have ee':∀ x∈o.op.operands,(A.put o'.dst v' (E'.ap A.h)).eval x=A.eval x:=lS a3;have ew':bC ops (A.put o'.dst v' (E'.ap A.h)) o=bC ops A o:=kK a3;have hop:∀ h,bY P (aQ H) o' (A.put o.dst v (E.ap A.h)).eval h=bY P (aQ H) o' A.eval h:=λh=>lC o' ee;have hop':∀ h,bY P (aQ H) o (A.put o'.dst v' (E'.ap A.h)).eval h=bY P (aQ H) o A.eval h:=λh=>lC o ee'
 have fin:QS P H ops o' hs v' E' A->QS P H ops o hs v E (A.put o'.dst v' (E'.ap A.h))->E.ap (E'.ap A.h)=E'.ap (E.ap A.h) ->
   eM P H ops Q o' (λhs' A'=>QS P H ops o hs' v E A'/\K hs' (A'.put o.dst v (E.ap A'.h))) hs A:=by
  intro qA qB hEE;refine kH qA ⟨qB,?_⟩;rw [hput'];rw [hput] at k';have:(A.put o'.dst v' (E'.ap A.h)).put o.dst v (E.ap (E'.ap A.h))=(A.put o.dst v (E.ap A.h)).put o'.dst v' (E'.ap (E.ap A.h)):=by
   rw [hEE];exact (EV A v v' _ _ _ a2).symm
  rw [this];exact k'
 have still:E=.app []->QS P H ops o' hs v' E' A:=λhE=>by
  refine q'.same ew.symm (λx hx=>(ee x hx).symm) ?_;rw [hput,hE];simp [HE.ap]
 have still':E'=.app []->QS P H ops o hs v E (A.put o'.dst v' (E'.ap A.h)):=λhE=>by
  refine q.same ew' ee' ?_;rw [hput',hE];simp [HE.ap]
 have lowA:(bC ops A o'=some false/\v'=.p (.tuple [])/\E'=.app [])\/(bC ops A o'=some true/\bV H o'=.low/\E'=.app []/\Qv P hs (bY P (aQ H) o' A.eval hs) v') ->
   eM P H ops Q o' (λhs' A'=>QS P H ops o hs' v E A'/\K hs' (A'.put o.dst v (E.ap A'.h))) hs A:=by
  rintro (⟨hw,hv,hE⟩ | ⟨hw,hc,hE,hq⟩)
  .exact fin (.inl ⟨hw,hv,hE⟩) (still' hE) (by rw [hE];simp [HE.ap])
  .exact fin (.inr ⟨hw,.inr (.inl ⟨hc,hE,hq⟩)⟩) (still' hE) (by rw [hE];simp [HE.ap])
 have q0:=q';unfold QS at q';rw [ew] at q';simp only [hop] at q';have q1:=q;rcases q with ⟨hw,rfl,rfl⟩ | ⟨hw,⟨hc,rfl,hq⟩ | ⟨hc,rfl,hq⟩ | ⟨hc,t,rfl,hq⟩ | hsl | hst | hnp | hap' | hret⟩
 .exact fin (still rfl) (.inl ⟨ew'.trans hw,rfl,rfl⟩) (by simp [HE.ap])
 .have happ:∃ t',E'=.app t':=by
   rcases q' with ⟨_,_,h⟩ | ⟨_,⟨_,h,_⟩ | ⟨_,h,_⟩ | ⟨_,t',h,_⟩ | ⟨_,_,_,hc',_⟩ | ⟨hc',_⟩ | ⟨_,_,h,_⟩ | ⟨_,hc',_⟩ | ⟨hc',hE',_⟩⟩
   .exact ⟨_,h⟩
   .exact ⟨_,h⟩
   .exact ⟨_,h⟩
   .exact ⟨t',h⟩
   .rw [hc,hc'] at hall;cases hall
   .rw [hc,hc'] at hall;cases hall
   .exact ⟨_,h⟩
   .rw [hc,hc'] at hall;cases hall
   .exact ⟨_,hE'⟩
  obtain ⟨t',rfl⟩:=happ;refine fin (still rfl) (.inr ⟨ew'.trans hw,.inl ⟨hc,rfl,?_⟩⟩) (by simp [HE.ap]);rw [hput',hop'];have hpre:=LH (P:=P) (mu:=aQ H) (o:=o) A.eval (Kn hc) A.h (A.h++t') (cB.app _ _);rcases hq with hq | ⟨f,args,hq,hcall⟩
  .exact .inl (hpre.1 _ hq)
  .exact .inr ⟨f,args,hpre.2 _ _ hq,λh' hs'=>hcall h' ((cB.app _ _).trans hs')⟩
 .exact fin (still rfl) (.inr ⟨ew'.trans hw,.inr (.inl ⟨hc,rfl,by rw [hop'];exact hq⟩)⟩) (by simp [HE.ap])
 .rcases q' with h | ⟨hw',⟨hc',_⟩ | h | ⟨hc',_⟩ | ⟨_,_,_,hc',_⟩ | ⟨hc',_⟩ | ⟨hc',_⟩ | ⟨_,hc',_⟩ | ⟨hc',hE',_⟩⟩
  .exact lowA (.inl h)
  .rw [hc,hc'] at hall;cases hall
  .exact lowA (.inr ⟨hw',h⟩)
  .rw [hc,hc'] at hall;cases hall
  .rw [hc,hc'] at hall;cases hall
  .rw [hc,hc'] at hall;cases hall
  .rw [hc,hc'] at hall;cases hall
  .rw [hc,hc'] at hall;cases hall
  .rw [hc,hc'] at hall;cases hall
 .obtain ⟨j,sz,z,hc,h1,h2,h3,h4,rfl,rfl⟩:=hsl;rcases q' with h | ⟨hw',⟨hc',_⟩ | h | ⟨hc',_⟩ | ⟨j',sz',z',hc',g1,g2,g3,g4,rfl,rfl⟩ | ⟨hc',_⟩ | ⟨hc',_⟩ | ⟨_,hc',_⟩ | ⟨hc',hE',_⟩⟩
  .exact lowA (.inl h)
  .rw [hc,hc'] at hall;cases hall
  .exact lowA (.inr ⟨hw',h⟩)
  .rw [hc,hc'] at hall;cases hall
  .rw [hput] at g4;have hne:hs.length-1-j≠hs.length-1-j':=by
    intro e;have hlt:=(aE.1 h4).1;have g5:(A.h.set (hs.length-1-j) (.row sz [z]))[hs.length-1-j']?=some (.row sz' []):=g4;rw [<-e,iP hlt] at g5;cases g5
   have g5:A.h[hs.length-1-j']?=some (.row sz' []):=by
    have:(A.h.set (hs.length-1-j) (.row sz [z]))[hs.length-1-j']?=some (.row sz' []):=g4;rwa [d5 hne] at this
   refine fin (.inr ⟨hw',.inr (.inr (.inr (.inl ⟨j',sz',z',hc',?_,g2,g3,g5,rfl,rfl⟩)))⟩) (.inr ⟨ew'.trans hw,.inr (.inr (.inr (.inl ⟨j,sz,z,hc,?_,h2,h3,?_,rfl,rfl⟩)))⟩) ?_
   .rw [<-p8 ee];exact g1
   .rw [p8 ee'];exact h1
   .rw [hput'];show (A.h.set (hs.length-1-j') (.row sz' [z']))[hs.length-1-j]?=_;rw [d5 (Ne.symm hne)];exact h4
   .exact List.set_comm _ _ (Ne.symm hne)
  .rw [hc,hc'] at hall;cases hall
  .rw [hc,hc'] at hall;cases hall
  .rw [hc,hc'] at hall;cases hall
  .rw [hc,hc'] at hall;cases hall
 .have hc:=hst.1;rcases q' with h | ⟨hw',⟨hc',_⟩ | h | ⟨hc',_⟩ | ⟨_,_,_,hc',_⟩ | ⟨hc',_⟩ | ⟨hc',_⟩ | ⟨_,hc',_⟩ | ⟨hc',hE',_⟩⟩
  .exact lowA (.inl h)
  .rw [hc,hc'] at hall;cases hall
  .exact lowA (.inr ⟨hw',h⟩)
  .rw [hc,hc'] at hall;cases hall
  .rw [hc,hc'] at hall;cases hall
  .rw [hc,hc'] at hall;cases hall
  .rw [hc,hc'] at hall;cases hall
  .rw [hc,hc'] at hall;cases hall
  .rw [hc,hc'] at hall;cases hall
 .obtain ⟨hc,rfl,rfl,T,a,x,h1,h2⟩:=hnp;have hE':E'=.app []:=by
   rcases q' with ⟨_,_,h⟩ | ⟨_,⟨_,h,_⟩ | ⟨_,h,_⟩ | ⟨hc',_⟩ | ⟨_,_,_,hc',_⟩ | ⟨hc',_⟩ | ⟨_,_,h,_⟩ | ⟨_,hc',_⟩ | ⟨hc',_,_⟩⟩
   .exact h
   .exact h
   .exact h
   .rw [hc,hc'] at hall;cases hall
   .rw [hc,hc'] at hall;cases hall
   .rw [hc,hc'] at hall;cases hall
   .exact h
   .rw [hc,hc'] at hall;cases hall
   .rw [hc,hc'] at hall;cases hall
  exact fin (still rfl) (still' hE') (by rw [hE'])
 .obtain ⟨t,hc,_⟩:=hap';rcases q' with h | ⟨hw',⟨hc',_⟩ | h | ⟨hc',_⟩ | ⟨_,_,_,hc',_⟩ | ⟨hc',_⟩ | ⟨hc',_⟩ | ⟨_,hc',_⟩ | ⟨hc',hE',_⟩⟩
  .exact lowA (.inl h)
  .rw [hc,hc'] at hall;cases hall
  .exact lowA (.inr ⟨hw',h⟩)
  all_goals (rw [hc,hc'] at hall;cases hall)
 .obtain ⟨hc,rfl,hrest⟩:=hret;have hE':E'=.app []:=by
   rcases q' with ⟨_,_,h⟩ | ⟨_,⟨_,h,_⟩ | ⟨_,h,_⟩ | ⟨hc',_⟩ | ⟨_,_,_,hc',_⟩ | ⟨hc',_⟩ | ⟨_,_,h,_⟩ | ⟨_,hc',_⟩ | ⟨_,h,_⟩⟩
   .exact h
   .exact h
   .exact h
   .rw [hc,hc'] at hall;simp [lh,qC] at hall
   .rw [hc,hc'] at hall;simp [lh,qC] at hall
   .rw [hc,hc'] at hall;simp [lh,qC] at hall
   .exact h
   .rw [hc,hc'] at hall;simp [lh,qC] at hall
   .exact h
  exact fin (still rfl) (still' hE') (by rw [hE'])
end Abs
end Go.Proofs.YtfafnkpfamgbbaaGreatDoor
namespace Go.Proofs.YtfafnkpfamgbbaaGreatDoor
namespace Abs
variable {P:Program} {H:Hints} {ops:Array Oper} {Q:Ex->AAct->Prop}
def uQ (acc:Array Nat) (o:Oper):Array Nat:=acc.push (o.after.foldl (λs e=>if Region.binds .any e then s||| 2^e.on||| acc.getD e.on 0 else s) 0)
def qV (p:List Oper) (acc:Array Nat):Prop :=
 acc.size=p.length/\∀ j i,(acc.getD j 0).testBit i=true->∃ o,p[j]?=some o/\∃ e,e∈o.after/\Region.binds .any e=true/\(i=e.on\/(e.on<j/\(acc.getD e.on 0).testBit i=true))
theorem AA (acc:Array Nat) (i):∀ (l:List Edge) (s),(l.foldl (λs e=>if Region.binds .any e then s||| 2^e.on||| acc.getD e.on 0 else s) s).testBit i=true ->
  s.testBit i=true\/∃ e,e∈l/\Region.binds .any e=true/\(i=e.on\/(acc.getD e.on 0).testBit i=true)
 |[],s,h=>.inl h
 |e::l,s,h=>by
  simp only [my] at h;rcases AA acc i l _ h with h | ⟨e',h1,h2⟩
  .by_cases hb:Region.binds .any e=true
   .simp only [hb,if_true,Nat.testBit_or,Jn] at h;rcases h with (h | h) | h
    .exact .inl h
    .refine .inr ⟨e,by simp,hb,.inl ?_⟩;rw [Nat.testBit_two_pow] at h;exact (of_decide_eq_true h).symm
    .exact .inr ⟨e,by simp,hb,.inr h⟩
   .simp only [hb,if_false,fA] at h;exact .inl h
  .exact .inr ⟨e',by simp [h1],h2⟩
theorem Na {p} {acc} (h:qV p acc) (o):qV (p++[o]) (uQ acc o):=by
 obtain ⟨h1,h2⟩:=h;refine ⟨by simp [uQ,h1],λj i hj=>?_⟩;have low:∀ k,k<acc.size->(uQ acc o).getD k 0=acc.getD k 0:=by
  intro k hk;simp [uQ,d8,Nt,Ba hk]
 rcases Nz j acc.size with hlt | heq | hgt
 .rw [low j hlt] at hj;obtain ⟨o',h3,e,h4,h5,h6⟩:=h2 j i hj;refine ⟨o',by rw [be (by omega)];exact h3,e,h4,h5,?_⟩;rcases h6 with h6 | ⟨h6,h7⟩
  .exact .inl h6
  .exact .inr ⟨h6,by rw [low e.on (by omega)];exact h7⟩
 .subst heq;refine ⟨o,by rw [h1];simp,?_⟩;have hj':(o.after.foldl (λs e=>if Region.binds .any e then s||| 2^e.on||| acc.getD e.on 0 else s) 0).testBit i=true:=by
   simpa [uQ,d8] using hj
  rw [<-zm] at hj';rcases AA acc i _ _ hj' with h | ⟨e,h3,h4,h5⟩
  .simp at h
  .refine ⟨e,D0.1 h3,h4,?_⟩;rcases h5 with h5 | h5
   .exact .inl h5
   .have hlt:e.on<acc.size:=by
     rcases dr e.on acc.size with hx | hx
     .exact hx
     .simp [d8,ql hx] at h5
    exact .inr ⟨hlt,by rw [low _ hlt];exact h5⟩
 .have:(uQ acc o).getD j 0=0:=by
   simp [uQ,d8,ql (show (acc.push _).size<=j by simp;omega)]
  rw [this] at hj;simp at hj
theorem yf (ops):qV ops.toList (Region.before ops):=by
 have key:∀ (l p:List Oper) (acc:Array Nat),qV p acc->qV (p++l) (l.foldl uQ acc):=by
  intro l
  induction l with
  |nil=>intro p acc h;simpa using h
  |cons o l ih =>
   intro p acc h;have:=ih (p++[o]) _ (Na h o);simpa using this
 have h0:qV [] #[]:=⟨rfl,λj i h=>by simp at h⟩
 have:=key ops.toList [] #[] h0;have heq:Region.before ops=ops.toList.foldl uQ #[]:=by
  unfold Region.before;rw [<-zm];rfl
 rw [heq];simpa using this
def zj (ops:Array Oper) (ao:Array Bool):Prop :=
 ∀ j o,ao.getD j false=true->ops[j]?=some o->∀ e,e∈o.after->Region.binds .any e=true->ao.getD e.on false=true
theorem uP {ao} (hD:zj ops ao):∀ (j i) (o),ops[j]?=some o->(∀ e,e∈o.after->Region.binds .any e=true->ao.getD e.on false=true) ->
  Gq (Region.before ops) i j=true->ao.getD i false=true:=by
 intro j
 induction j using Nat.strongRecOn with
 |_ j ih =>
  intro i o ho hall hb;obtain ⟨o',h1,e,h2,h3,h4⟩:=(yf ops).2 j i hb;have ho':ops[j]?=some o':=by simpa using h1
  rw [ho] at ho';cases ho';rcases h4 with rfl | ⟨h4,h5⟩
  .exact hall e h2 h3
  .have hl:=hall e h2 h3;obtain ⟨o2,h6,_⟩:=(yf ops).2 e.on i h5;have h6':ops[e.on]?=some o2:=by simpa using h6
   exact ih e.on h4 i o2 h6' (hD e.on o2 hl h6') h5
theorem zj.set {ao} (hD:zj ops ao) {i} (hi:i∈Region.ready .any ops ao):zj ops (ao.setIfInBounds i true):=by
 intro j o hj ho e he hb;obtain ⟨h0,oi,hoi,hall⟩:=mem_ready.1 hi;by_cases hji:j=i
 .subst hji;rw [ho] at hoi;cases hoi;exact getD_set_true (hall e he hb)
 .rw [getD_set_ne false (Ne.symm hji)] at hj;exact getD_set_true (hD j o hj ho e he hb)
def zk (P:Program) (H:Hints) (ops:Array Oper) (Q:Ex->AAct->Prop):Nat->Array Bool->Heap->AAct->Prop
 |0,ao,_,A=>Region.ready .any ops ao=[]/\Q .normal A
 |fuel+1,ao,hs,A =>
  (Region.ready .any ops ao=[]->Q .normal A) /\
  ∀ i∈Region.ready .any ops ao,∀ o,ops[i]?=some o->eM P H ops Q o (zk P H ops Q fuel (ao.setIfInBounds i true)) hs A
def qU (H:Hints) (ops:Array Oper) (ao:Array Bool) (i:Nat) (oi:Oper):Prop:=∀ j o,j≠i->ao.getD j true=false->ops[j]?=some o->Gq (Region.before ops) i j=true\/pE H ops oi o=true
theorem td {ao:Array Bool} {j}:(ao.setIfInBounds j true).getD j true=true:=by
 rw [d8,PO];rw [if_pos rfl];split<;>rfl
theorem qU.set {H} {ops} {ao} {i} {oi} (h:qU H ops ao i oi) (j):qU H ops (ao.setIfInBounds j true) i oi:=by
 intro x o hxi hx ho;by_cases hxj:j=x
 .subst hxj;rw [td] at hx;cases hx
 .rw [getD_set_ne true hxj] at hx;exact h x o hxi hx ho
theorem Do {i} {oi} {v} {E} (hi:ops[i]?=some oi) :
  ∀ (fuel) (ao) (hs) (A),zj ops ao->qU H ops ao i oi->i∈Region.ready .any ops ao->QS P H ops oi hs v E A ->
   zk P H ops Q fuel (ao.setIfInBounds i true) hs (A.put oi.dst v (E.ap A.h))->zk P H ops Q (fuel+1) ao hs A:=by
 intro fuel
 induction fuel with
 |zero =>
  intro ao hs A _ _ hr q k;refine ⟨λh=>(by rw [h] at hr;cases hr),λj hj o ho=>?_⟩;by_cases hji:j=i
  .subst hji;rw [hi] at ho;cases ho;exact kH q k
  .have:=ready_mono hj hji;rw [k.1] at this
   cases this
 |succ fuel ih =>
  intro ao hs A hD hB hr q k;refine ⟨λh=>(by rw [h] at hr;cases hr),λj hj o ho=>?_⟩;by_cases hji:j=i
  .subst hji;rw [hi] at ho;cases ho;exact kH q k
  .have h1:=k.2 j (ready_mono hj hji) o ho;obtain ⟨hjun,oj,hoj,hall⟩:=mem_ready.1 hj;rw [ho] at hoj;cases hoj;have hp:pE H ops oi o=true:=by
    rcases hB j o hji hjun ho with h | h
    .have h2:=uP hD j i o ho (λe he hb=>hall e he hb) h;have h0:=(mem_ready.1 hr).1;rcases dr i ao.size with h' | h'
     .simp [h'] at h0 h2;rw [h0] at h2;cases h2
     .simp [ql h'] at h2
    .exact h
   have h2:=RY hp q h1;refine zE ?_ h2
   rintro hs' A' ⟨q',k'⟩
   refine ih (ao.setIfInBounds j true) hs' A' (hD.set hj) (hB.set j) (ready_mono hr (Ne.symm hji)) q' ?_;rw [Array.setIfInBounds_comm _ _ hji];exact k'
def Ci (ao:Array Bool):Nat:=ao.toList.countP (·==false)
theorem AH:∀ (l:List Bool) (j),l[j]?=some false->(l.set j true).countP (·==false)+1=l.countP (·==false)
 |[],j,h=>by simp at h
 |b::l,0,h=>by
  have:b=false:=by simpa using h
  subst this
  simp
 |b::l,j+1,h=>by
  have:=AH l j (by simpa using h);simp only [List.set_cons_succ,List.countP_cons];omega
theorem Bj {ao} {j} (h:ao.getD j true=false):Ci (ao.setIfInBounds j true)+1=Ci ao:=by
 have h1:ao[j]?=some false:=by
  rw [d8] at h
  cases hj:ao[j]? with
  |none=>rw [hj] at h;simp at h
  |some b=>rw [hj] at h;simp at h;rw [h]
 unfold Ci;rw [Array.toList_setIfInBounds];exact AH _ _ (by simpa using h1)
theorem QR {ao} {j} (h:ao.getD j true=false):0<Ci ao:=by
 have:=Bj h;omega
theorem Mt {o} {K} {hs} {A} (hf:uy o=true) (hq:qC (bV H o)=true) (k:∀ v,K hs (A.put o.dst v A.h)):eM P H ops Q o K hs A:=by
 have hc:bV H o=.quiet:=by cases hc:bV H o<;>rw [hc] at hq<;>first | rfl | cases hq
 obtain ⟨dst,op,ty,pos,after,guard⟩:=o;unfold eM
 cases guard with
 |some g=>simp [uy] at hf
 |none =>
  refine ⟨λ_=>?_,λh=>(by cases h)⟩;rw [hc];cases op<;>simp only [uy,fA] at hf
  .exact ⟨rfl,k _⟩
  .exact ⟨rfl,k _⟩
theorem TS.put {o o':Oper} {A} (q:TS P H ops Q o A) (hap:∀ d,o'.dst=some d->d∉o.looksAt ops) (v):TS P H ops Q o (A.put o'.dst v A.h):=by
 obtain ⟨tw,tc,f,args,u,t1,t2,t3⟩:=q;refine ⟨(kK hap).trans tw,tc,f,args,u,?_,?_,λT=>?_⟩
 .rw [<-t1,ja];exact lC o (lS hap)
 .rw [ja];exact t2
 .have e:({ A.put o'.dst v A.h with tmps:=T }:AAct)={ A with tmps:=T }:=by
   cases o'.dst<;>simp [AAct.put]
  rw [e];exact t3 T
theorem Po {i} {oi} (hi:ops[i]?=some oi) :
  ∀ (fuel) (ao) (hs) (A),Ci ao<=fuel->zj ops ao->qU H ops ao i oi->i∈Region.ready .any ops ao->TS P H ops Q oi A->zk P H ops Q fuel ao hs A:=by
 intro fuel
 induction fuel with
 |zero =>
  intro ao hs A hu _ _ hr _;have:=QR (mem_ready.1 hr).1
  omega
 |succ fuel ih =>
  intro ao hs A hu hD hB hr q;refine ⟨λh=>(by rw [h] at hr;cases hr),λj hj o ho=>?_⟩;by_cases hji:j=i
  .subst hji;rw [hi] at ho;cases ho;exact sA q
  .obtain ⟨hjun,oj,hoj,hall⟩:=mem_ready.1 hj;rw [ho] at hoj;cases hoj;have hp:pE H ops oi o=true:=by
    rcases hB j o hji hjun ho with h | h
    .have h2:=uP hD j i o ho (λe he hb=>hall e he hb) h;have h0:=(mem_ready.1 hr).1;rcases dr i ao.size with h' | h'
     .simp [h'] at h0 h2;rw [h0] at h2;cases h2
     .simp [ql h'] at h2
    .exact h
   unfold pE at hp;simp only [cK] at hp;obtain ⟨hpd,hap,_⟩:=hp;obtain ⟨a1,a2,a3⟩:=Oper.apart_spec hap;have hthr:∀ c,lh .thr c=false:=by intro c;cases c<;>rfl
   rw [q.2.1,hthr] at hpd;simp only [xm,mN,wW,cK] at hpd;refine Mt hpd.1 hpd.2 λv=>?_;refine ih (ao.setIfInBounds j true) hs _ ?_ (hD.set hj) (hB.set j) (ready_mono hr (Ne.symm hji)) (q.put a3 v);have:=Bj hjun;omega
def Vh (ops:Array Oper) (l:List Nat) (ao:Array Bool):Prop:=ao.size=ops.size/\∀ j,ao.getD j true=false↔j∈l
theorem EP {l} {ao:Array Bool} {i} (hil:i∉l) (h:∀ j,ao.getD j true=false↔j∈i::l) (j):(ao.setIfInBounds i true).getD j true=false↔j∈l:=by
 by_cases hij:i=j
 .subst hij;rw [td];exact ⟨λh=>(by cases h),λh=>absurd h hil⟩
 .rw [getD_set_ne true hij,h j];simp [Ne.symm hij]
theorem EC:∀ (l:List Nat) (ao),l.Nodup->(∀ j,ao.getD j true=false↔j∈l)->Ci ao<=l.length
 |[],ao,_,h=>by
  rcases oU (Ci ao) with h0 | h0
  .omega
  .exfalso;unfold Ci at h0;obtain ⟨b,hb,hb2⟩:=List.countP_pos_iff.1 (show 0<List.countP (λx=>x==false) ao.toList from h0);obtain ⟨j,hj⟩:=eX hb;have hb3:b=false:=by simpa using hb2
   subst hb3;have:=(h j).1 (by rw [d8,<-Array.getElem?_toList,hj];rfl)
   cases this
 |i::l,ao,hn,h=>by
  have hi:ao.getD i true=false:=(h i).2 (by simp);have:=Bj hi;have ih:=EC l (ao.setIfInBounds i true) (D2.1 hn).2 (EP (D2.1 hn).1 h);rw [ct];omega
theorem OM:∀ (l) (os) (ao) (hs) (A),l.map (λi=>ops[i]?)=os.map some->l.Nodup->Vh ops l ao->zj ops ao->zT H ops (Region.before ops) l=true ->
  bU P H ops Q os hs A->zk P H ops Q l.length ao hs A:=by
 intro l
 induction l with
 |nil =>
  intro os ao hs A he hn hR hD hok h;have:os=[]:=by cases os<;>simp_all
  subst this;refine ⟨?_,h⟩;refine List.eq_nil_iff_forall_not_mem.2 λj hj=>?_;obtain ⟨h1,_⟩:=mem_ready.1 hj
  exact absurd ((hR.2 j).1 h1) (by simp)
 |cons i l ih =>
  intro os ao hs A he hn hR hD hok h
  cases os with
  |nil=>simp at he
  |cons o rest =>
   simp only [bB,List.cons.injEq] at he;obtain ⟨hoi,he⟩:=he;obtain ⟨hil,hnl⟩:=D2.1 hn;rw [zT,hoi] at hok;simp only [cK] at hok;obtain ⟨⟨hedge,hpair⟩,hokl⟩:=hok;have hiu:ao.getD i true=false:=(hR.2 i).2 (by simp);have hisz:i<ops.size:=(nt.1 hoi).1;have hr:i∈Region.ready .any ops ao:=by
    refine mem_ready.2 ⟨hiu,o,hoi,λe he hb=>?_⟩;have:=(Array.all_eq_true_iff_forall_mem.1 hedge) e he;simp only [hb,Bool.not_true,mN,cK,decide_eq_true_eq,zt] at this;obtain ⟨h1,h2⟩:=this;have h3:¬ ao.getD e.on true=false:=λh'=>by
     have h4:=(hR.2 _).1 h';rw [<-List.contains_iff_mem] at h4;rw [h4] at h2;cases h2
    have h4:e.on<ao.size:=by rw [hR.1];exact h1
    rw [d8,Nx h4] at h3 |-;simpa using h3
   have hB:qU H ops ao i o:=by
    intro j oj hji hj hoj;have hjl:=(hR.2 j).1 hj;rcases bw.1 hjl with rfl | hjl
    .exact absurd rfl hji
    have:=iV.1 hpair j hjl;rw [hoj] at this;simp only [cK,Jn] at this;exact this.2
   have hR':Vh ops l (ao.setIfInBounds i true):=⟨by simp [hR.1],EP hil hR.2⟩
   have hD':=hD.set hr;rw [GV] at h;have h':eM P H ops Q o (zk P H ops Q l.length (ao.setIfInBounds i true)) hs A:=zE (λhs A hk=>ih rest _ hs A he hnl hR' hD' hokl hk) h;by_cases ht:bV H o=.thr
   .rcases ny ht h' with ⟨v,E,q,k⟩ | q
    .exact Do hoi _ _ _ A hD hB hr q k
    .exact Po hoi _ _ hs A (EC (i::l) ao hn hR.2) hD hB hr q
   by_cases hb:(bV H o≠.bar/\bV H o≠.cal)\/bC ops A o=some false
   .obtain ⟨v,E,q,k⟩:=oZ (hb.imp (λh=>⟨h.1,ht,h.2⟩) id) h';exact Do hoi _ _ _ A hD hB hr q k
   .have hb1:bV H o=.bar\/bV H o=.cal:=by
     by_cases h1:bV H o=.bar
     .exact .inl h1
     .exact .inr (Classical.byContradiction λhn=>hb (.inl ⟨h1,hn⟩))
    refine ⟨λh0=>?_,λj hj oj hoj=>?_⟩
    .rw [h0] at hr;cases hr
    .have hji:j=i:=by
      obtain ⟨h1,o',ho',hall⟩:=mem_ready.1 hj;rw [hoj] at ho';cases ho';refine Classical.byContradiction λhne=>?_;rcases hB j oj hne h1 hoj with h3 | h3
      .have h4:=uP hD j i oj hoj hall h3;have h5:i<ao.size:=by rw [hR.1];exact hisz
       rw [d8,Nx h5] at hiu h4;simp at hiu h4;rw [hiu] at h4;cases h4
      .have hall':∀ c,lh .bar c=false/\lh .cal c=false:=by intro c;cases c<;>exact ⟨rfl,rfl⟩
       unfold pE at h3;rcases hb1 with hb1 | hb1
       .rw [hb1,(hall' _).1] at h3;simp [xm] at h3
       .rw [hb1,(hall' _).2] at h3;simp [xm] at h3
     subst hji;rw [hoi] at hoj;cases hoj;exact h'
variable {M0:Nat->Prop} {S0:Mem} {b:Frame} {cs0:List Frame}
theorem yt {hs h} (hx:cB hs h) {id} (hd:iG hs id=true) (ob):cB hs (h.set id ob):=by
 intro x o ho hn;by_cases hxi:id=x
 .subst hxi;unfold iG at hd;rw [ho] at hd;cases o<;>first | (cases hd;done) | (cases hn;done)
 .rw [d5 hxi];exact hx x o ho hn
theorem NQ {o} {K} {hs} {A} (hx:cB hs A.h) (k:eM P H ops Q o K hs A) :
  (bC ops A o=some false/\K hs (A.put o.dst (.p (.tuple [])) A.h)) \/
  (bC ops A o=some true/\kT P A o.dst (λB=>∃ hs',cB hs' B.h/\K hs' B) Q (bY P (aQ H) o A.eval A.h)) \/
  (bC ops A o=some true/\∃ v E,GJ P H o hs v E A/\cB hs (E.ap A.h)/\K hs (A.put o.dst v (E.ap A.h))):=by
 have hcase:(∃ v E,QS P H ops o hs v E A/\K hs (A.put o.dst v (E.ap A.h)))\/TS P H ops Q o A\/(bV H o=.cal/\bC ops A o=some true/\rJ P H Q hs A (λv h=>K hs (A.put o.dst v h)) (bY P (aQ H) o A.eval A.h))\/¬ (bV H o≠.bar\/bC ops A o=some false):=by
  by_cases ht:bV H o=.thr
  .rcases ny ht k with h | h
   .exact .inl h
   .exact .inr (.inl h)
  .by_cases hcl:bV H o=.cal
   .rcases n9 hcl k with h | h
    .exact .inl h
    .exact .inr (.inr (.inl ⟨hcl,h⟩))
   .by_cases hb:bV H o≠.bar\/bC ops A o=some false
    .exact .inl (oZ (hb.imp (λh=>⟨h,ht,hcl⟩) id) k)
    .exact .inr (.inr (.inr hb))
 rcases hcase with ⟨v,E,q,k1⟩ | ⟨tw,tc,f,args,u,t1,t2,t3⟩ | ⟨hcl,hw,kc⟩ | hb
 .have fin:∀ (r:OR),Qv P A.h r v->K hs (A.put o.dst v A.h)->kT P A o.dst (λB=>∃ hs',cB hs' B.h/\K hs' B) Q r:=by
   intro r hr hk;rcases hr with rfl | ⟨f,args,rfl,hc⟩
   .exact ⟨hs,by rw [ja];exact hx,hk⟩
   .have:=hc A.h (cB.refl _);intro M0 m w cargs hS ha;obtain ⟨h1,h2⟩:=this M0 m w cargs hS ha;refine ⟨h1,h2.mono λ_ _ hb=>?_⟩;obtain ⟨r,h',m',⟨rfl,rfl⟩,rest⟩:=hb;exact ⟨.ret v,_,m',⟨hs,by rw [ja];exact hx,hk⟩,rest⟩
  rcases q with ⟨hw,rfl,rfl⟩ | ⟨hw,⟨hc,rfl,q⟩ | ⟨hc,rfl,q⟩ | ⟨hc,t,rfl,q⟩ | q | ⟨hc,T,a,x,id,ver,i,kk,ob,h1,h2,h3,h4,rfl,rfl⟩ | ⟨hc,rfl,rfl,T,a,x,h1,h2⟩ | ⟨t,hc,hE,hq⟩ | ⟨hc,rfl,f,args,g1,g2⟩⟩
  .exact .inl ⟨hw,by simpa [HE.ap] using k1⟩
  .exact .inr (.inl ⟨hw,fin _ q (by simpa [HE.ap] using k1)⟩)
  .refine .inr (.inl ⟨hw,fin _ ?_ (by simpa [HE.ap] using k1)⟩);have hpre:=LH (P:=P) (mu:=aQ H) (o:=o) A.eval (OQ hc) hs A.h hx;rcases q with q | ⟨f,args,q,hcall⟩
   .exact .inl (hpre.1 _ q)
   .exact .inr ⟨f,args,hpre.2 _ _ q,λh' hs'=>hcall h' (hx.trans hs')⟩
  .refine .inr (.inl ⟨hw,?_⟩);rw [q];exact ⟨hs,by rw [ja];exact hx.trans (cB.app _ _),k1⟩
  .refine .inr (.inr ⟨hw,v,E,q,?_,k1⟩);obtain ⟨j,sz,z,hc,h1,h2,h3,h4,rfl,rfl⟩:=q;exact yt hx h3 _
  .refine .inr (.inl ⟨hw,?_⟩);have hop:bY P (aQ H) o A.eval A.h=.skip (A.h.set id ob):=by
    unfold bY;rw [h1];show gK P T (A.eval a) (A.eval x) A.h=_;rw [h2];exact h4
   rw [hop];exact ⟨hs,by rw [ja];exact yt hx h3 _,k1⟩
  .refine .inr (.inl ⟨hw,?_⟩);have hop:bY P (aQ H) o A.eval A.h=.skip A.h:=by
    unfold bY;rw [h1];exact h2
   rw [hop];exact ⟨hs,by rw [ja];exact hx,by simpa [HE.ap] using k1⟩
  .refine .inr (.inl ⟨hw,?_⟩);rw [hq];refine ⟨hs,?_,k1⟩;rw [ja];rcases hE with ⟨l,rfl⟩ | ⟨id,ob,rfl,hd⟩
   .exact hx.trans (cB.app _ _)
   .exact yt hx hd _
  .exact .inr (.inl ⟨hw,fin _ (.inr ⟨f,args,g1,g2⟩) (by simpa [HE.ap] using k1)⟩)
 .refine .inr (.inl ⟨tw,?_⟩);rw [t1];intro M0 m w cargs hS ha;obtain ⟨h1,h2⟩:=t2 M0 m w cargs hS ha;refine ⟨h1,h2.mono λ_ _ hb=>?_⟩;obtain ⟨r,h',m',⟨rfl,rfl⟩,rest⟩:=hb;exact ⟨.panic u,_,m',t3 A.tmps,rest⟩
 .refine .inr (.inl ⟨hw,?_⟩);cases hr:bY P (aQ H) o A.eval A.h<;>rw [hr] at kc<;>first | exact kc.elim | skip
  intro M0 m w cargs hS ha;obtain ⟨h1,h2⟩:=kc M0 m w cargs hS ha;refine ⟨h1,h2.mono λ_ _ hb=>?_⟩;obtain ⟨r,h',m',hR,rest⟩:=hb
  exact ⟨r,h',m',by
   cases r with
   |ret v=>exact ⟨hs,by rw [ja];exact hR.1,hR.2⟩
   |panic v=>exact hR A.tmps (λ_ _=>rfl),rest⟩
 .have hb1:bV H o=.bar:=Classical.byContradiction λhn=>hb (.inl hn);unfold eM at k
  cases hw:bC ops A o with
  |none=>rw [hw] at k;exact k.elim
  |some b =>
   rw [hw,hb1] at k
   cases b with
   |false=>exact absurd (.inr hw) hb
   |true =>
    have k1:kT P A o.dst (λB=>K B.h B) Q (bY P (aQ H) o A.eval A.h):=k.1 rfl;exact .inr (.inl ⟨rfl,oA (λB hB=>⟨B.h,cB.refl _,hB⟩) k1⟩)
theorem SA {n} {k} (hd:ops.toList.all (n6 n)=true):∀ (fuel t) (ao) (hs) {m} {A} {a} {w},cB hs A.h ->
  Rel P M0 S0 b cs0 m A a w->A.n=n->zk P H ops Q fuel ao hs A ->
   rT P M0 S0 b cs0 n (lone (b.atR a (.inRegion ops (Region.linearise.go .any ops fuel t ao [])::k)) (bJ A.rc cs0) w) k Q:=by
 intro fuel
 induction fuel with
 |zero =>
  intro t ao hs m A a w hx hr hn h
  exact ⟨.normal,A,m,a,w,h.2,hn,hr,.one (by simp only [Region.linearise.go,List.reverse_nil];exact stepR_region_end)⟩
 |succ fuel ih =>
  intro t ao hs m A a w hx hr hn h;obtain ⟨h0,h1⟩:=h
  have hgo:Region.linearise.go .any ops (fuel+1) t ao []=match (Region.ready .any ops ao)[t%(Region.ready .any ops ao).length]? with
   |some i=>Region.linearise.go .any ops fuel (t / (Region.ready .any ops ao).length) (ao.setIfInBounds i true) [i]
   |none=>[].reverse:=rfl
  rw [hgo]
  cases hi:(Region.ready .any ops ao)[t%(Region.ready .any ops ao).length]? with
  |none =>
   have hnil:Region.ready .any ops ao=[]:=by
    cases hrr:Region.ready .any ops ao with
    |nil=>rfl
    |cons x xs =>
     rw [hrr] at hi;have hlt:t%(x::xs).length<(x::xs).length:=ym _ (by simp);simp at hi;simp at hlt;omega
   exact ⟨.normal,A,m,a,w,h0 hnil,hn,hr,.one (by simp only [List.reverse_nil];exact stepR_region_end)⟩
  |some i =>
   simp only [];rw [linearise_go_acc,List.reverse_singleton,Jc];have hmem:=aL hi;obtain ⟨_,o,ho,_⟩:=mem_ready.1 hmem;have hstep:=h1 i hmem o ho;have hdo:n6 A.n o=true:=by
    rw [hn];exact iV.1 hd o (D0.2 (Array.mem_of_getElem? ho))
   rcases NQ hx hstep with ⟨hw,hk⟩ | ⟨hw,hk⟩ | ⟨hw,v,E,hsl,hxs,hk⟩
   .have hwm:=hr.wanted hw;have hs1:=stepR_op_skip (P:=P) (b:=b) (k:=k) (cs:=bJ A.rc cs0) (w:=w) (rest:=Region.linearise.go .any ops fuel (t / (Region.ready .any ops ao).length) (ao.setIfInBounds i true) []) (vm ho hwm);simp only [ho,iO] at hs1;have hr':=hr.put (dst:=o.dst) (mn hdo) (pu _ _);have:=ih (t / (Region.ready .any ops ao).length) (ao.setIfInBounds i true) hs (by rw [ja];exact hx) hr' ((o8 _ _ _ _).trans hn) hk;rw [l8] at this;exact this.of_steps (.one hs1)
   .have hwm:=hr.wanted hw;rcases Ik (i:=i) (rest:=Region.linearise.go .any ops fuel (t / (Region.ready .any ops ao).length) (ao.setIfInBounds i true) []) (k:=k) ho hdo hwm hr hk with ⟨A',m',a',w',⟨hs',hx',hK⟩,hn',hr',hs1⟩ | ⟨v,A',m',a',w',v',todo,hQ,hn',hr',hv,hs1⟩
    .exact (ih _ _ hs' hx' hr' (hn'.trans hn) hK).of_steps hs1
    .exact ⟨.panic v,A',m',a',w',hQ,hn'.trans hn,hr',v',todo,hv,hs1⟩
   .have hwm:=hr.wanted hw;obtain ⟨j,sz,z,hc,g1,g2,g3,g4,rfl,rfl⟩:=hsl;have hso:=Mu hc;have hnd:∀ c,o.op≠.defer c:=by
     intro c hcc;rw [hcc] at hso;cases hso
    have hok:=QY (P:=P) (o:=o) hr.hok g4 hr.eval g1 g2;obtain ⟨m',a',w',hr',hs1⟩:=G' (i:=i) (rest:=Region.linearise.go .any ops fuel (t / (Region.ready .any ops ao).length) (ao.setIfInBounds i true) []) (k:=k) ho hdo hwm hr hnd hok;have:=ih (t / (Region.ready .any ops ao).length) (ao.setIfInBounds i true) hs (by rw [ja];exact hxs) hr' ((o8 _ _ _ _).trans hn) hk;rw [l8] at this;exact this.of_steps hs1
theorem CH:∀ (l) (h),cB (uo h l) h/\(uo h l).length=h.length
 |[],h=>⟨cB.refl _,rfl⟩
 |id::l,h=>by
  obtain ⟨h1,h2⟩:=CH l (h.set id .dead);refine ⟨h1.trans λx o ho hn=>?_,by rw [uo,h2];simp⟩;by_cases hxi:id=x
  .subst hxi;have hlt:=(aE.1 ho).1;rw [iP (by simpa using hlt)] at ho;cases ho;cases hn
  .rwa [d5 hxi] at ho
theorem FA (id) (h):cB (gc id h) h/\(gc id h).length=h.length:=by
 refine ⟨λx o ho hn=>?_,by simp [gc]⟩;unfold gc at ho;rw [wV] at ho
 cases hx:h[x]? with
 |none=>rw [hx] at ho;cases ho
 |some y =>
  rw [hx] at ho;simp only [lD,jx] at ho;split at ho
  .rw [<-ho]
  .rw [<-ho] at hn;cases hn
theorem LY (H) (ops) (A):cB (xl H ops A) A.h/\(xl H ops A).length=A.h.length:=by
 unfold xl;split
 .exact FA _ _
 .exact CH _ _
theorem Km (H) (ops) (A):cB (n7 H ops A) (qF H ops A).h:=by
 intro x o ho hn;obtain ⟨h1,h2⟩:=LY H ops A;unfold n7 at ho;show (A.h++_)[x]?=_;rcases dr x A.h.length with hl | hl
 .rw [be (by omega)] at ho;rw [be hl];exact h1 x o ho hn
 .rw [cn (by omega)] at ho;have:=aL ho;simp only [ec] at this;obtain ⟨_,_,rfl⟩:=this;cases hn
theorem Il {α β} (f:α->β) (a b) (l):(Fg a b l).map f=Fg a b (l.map f):=by
 unfold Fg;rw [dL];split
 .simp [Ej,List.map_drop]
 .rfl
theorem Oj {α} (a b) (l:List α):(Fg a b l).Perm l:=by
 unfold Fg;split
 .rename_i h;have e:l=l.take a++((l.drop a).take 1++((l.drop (a+1)).take (b-a)++l.drop (b+1))):=by
   have e1:(l.drop (a+1)).take (b-a)++l.drop (b+1)=l.drop (a+1):=by
    have e2:l.drop (b+1)=(l.drop (a+1)).drop (b-a):=by rw [vd];congr 1;omega
    rw [e2];exact kZ _ _
   rw [e1];have e3:(l.drop a).take 1++l.drop (a+1)=l.drop a:=by
    have e4:l.drop (a+1)=(l.drop a).drop 1:=by rw [vd]
    rw [e4];exact kZ _ _
   rw [e3];exact (kZ _ _).symm
  refine List.Perm.trans ?_ (List.Perm.of_eq e.symm);rw [cE,cE];refine List.Perm.append_left _ ?_;rw [<-cE,<-cE];exact List.Perm.append_right _ List.perm_append_comm
 .exact .refl _
theorem LO (H) (n):(ui H n).Perm (List.range n):=by
 unfold ui;split
 .exact Oj _ _ _
 .exact .refl _
theorem Rd (H) (ops:Array Oper):(ui H ops.size).map (λi=>ops[i]?)=(yH H ops.toList).map some:=by
 have base:(List.range ops.size).map (λi=>ops[i]?)=ops.toList.map some:=by
  apply nu;intro i;rw [cv,cv];have e:ops.toList[i]?=ops[i]?:=by simp
  rw [e];rcases dr i ops.size with h | h
  .have e2:(List.range ops.size)[i]?=some i:=by simp [h]
   rw [e2,Nx h];simp [h]
  .have e2:(List.range ops.size)[i]?=none:=ve (by simpa using h);rw [e2,ql h];rfl
 unfold ui yH;split
 .rw [Il,base,Il]
 .exact base
theorem Rel.drew {m} {A} {a} {w} (hr:Rel P M0 S0 b cs0 m A a w):Rel P M0 S0 b cs0 m A a { w with drawn:=w.drawn+1 } :=
 hr.ahead (Ev.drew _ ⟨m,A.h,w⟩) (HOk.drew hr.hok)
theorem RG (hm:P.follows .mixedOrders=true):dT P:=by
 intro M0 S0 b cs0 m A a w H ops Q n id k hd hok hr hn h;have hok2:zT H ops (Region.before ops) (ui H ops.size)=true/\(ui H ops.size).length=ops.size:=by
  unfold FO at hok;simp only [cK,decide_eq_true_eq] at hok;exact ⟨hok.2,hok.1.2⟩
 have hper:=LO H ops.size;have hany:=OM (ui H ops.size) _ (Array.replicate ops.size false) _ _ (Rd H ops) (hper.nodup_iff.2 List.nodup_range) ⟨by simp,λj=>by
   rw [hper.mem_iff,Be,d8];by_cases hj:j<ops.size
   .simp [hj]
   .simp [hj]⟩ (λj o hj ho e he hb=>by
   exfalso;rw [d8] at hj;by_cases hj2:j<ops.size
   .simp [hj2] at hj
   .simp [hj2] at hj) hok2.1 h
 rw [hok2.2] at hany;obtain ⟨m',hr'⟩:=hr.resv (sa H ops.toList);have hs:=stepR_region_draw (P:=P) (b:=b) (a:=a) (k:=k) (cs:=bJ A.rc cs0) (w:=w) (ops:=ops) (id:=id);refine rT.of_steps (.one hs) ?_;simp only [Region.schedule,hm,mO,if_true];exact SA (A:=qF H ops.toList A) hd ops.size _ _ _ (Km H ops.toList A) hr'.drew hn hany
end Abs
end Go.Proofs.YtfafnkpfamgbbaaGreatDoor
