/-
  LAWS: regions of any order: what the order of the text comes to, every order comes to.
  L
-/
import Derived.Test.YtfafnkpfamgbbaaGreatDoorAbsFunX
import Derived.Orders
set_option linter.unusedSimpArgs false
set_option linter.unusedVariables false
namespace Go.Proofs.YtfafnkpfamgbbaaGreatDoor
namespace Abs
variable {P:Program} {H:Hints} {ops:Array Oper} {Q:Ex->AAct->Prop}
theorem kw {mu} {e e'} {h} (o) (he:∀ x∈o.op.operands,e x=e' x):bH P mu o e h=bH P mu o e' h:=by
 obtain ⟨dst,op,type,pos,after,guard⟩:=o;have pairs:∀ ps:Array (Nat×Operand),(∀ x∈ps.map (·.2),e x=e' x)->(ps.toList.map λq=>(q.1,e q.2))=(ps.toList.map λq=>(q.1,e' q.2)):=λps hp =>
  G3 λq hm=>by
   simp only [hp q.2 (Array.mem_map.2 ⟨q,GX.1 hm,rfl⟩)]
 have lists:∀ xs:Array Operand,(∀ x∈xs,e x=e' x)->xs.toList.map e=xs.toList.map e':=λxs hp =>
  G3 λx hm=>hp x (GX.1 hm)
 cases op<;>simp only [Op.operands] at he<;>simp only [bH]
 case build t ps=>rw [pairs ps λx hx=>he x (by simpa using hx)]
 case buildSlice t n ps=>rw [pairs ps λx hx=>he x (by simpa using hx)]
 case makeFunc fn first cap=>rw [lists first λx hx=>he x (by simp [hx]),lists cap λx hx=>he x (by simp [hx])]
 case slice t x lo hi mx =>
  have h0:e x=e' x:=he x (by simp);have h1:lo.map e=lo.map e':=by cases lo with | none=>rfl | some y=>simp only [mT,he y (by simp)]
  have h2:hi.map e=hi.map e':=by cases hi with | none=>rfl | some y=>simp only [mT,he y (by simp)]
  have h3:mx.map e=mx.map e':=by cases mx with | none=>rfl | some y=>simp only [mT,he y (by simp)]
  rw [h0,h1,h2,h3]
 case call c =>
  have ha:c.args.toList.map e=c.args.toList.map e':=lists c.args λx hx=>he x (by simp [Call.operands,hx])
  cases hc:c.callee with
  |value f=>simp only [ha,he f (by simp [Call.operands,hc])]
  |builtin b=>simp only [ha]
  |invoke r mm=>rfl
 case defer c =>
  have ha:c.args.toList.map e=c.args.toList.map e':=lists c.args λx hx=>he x (by simp [Call.operands,hx])
  cases hc:c.callee with
  |value f=>simp only [ha,he f (by simp [Call.operands,hc])]
  |builtin b=>rfl
  |invoke r mm=>rfl
 case makeMap t r =>
  cases r with
  |none=>rfl
  |some y=>simp only [mT,he y (by simp)]
 all_goals (first | rfl | (simp_all;done))
theorem L9 {A:AAct} {dst} {v} {h} {x} (hx:∀ d,dst=some d->x≠.tmp d):(A.put dst v h).eval x=A.eval x:=by
 cases dst with
 |none=>rfl
 |some d =>
  cases x with
  |tmp t =>
   have:t≠d:=λe=>hx d rfl (e▸rfl)
   simp [AAct.put,AAct.eval,tG,this]
  |_=>rfl
theorem jN {A} {dst} {v} {h} {o} (hd:∀ d,dst=some d->d∉o.looksAt ops):bi ops (A.put dst v h) o=bi ops A o:=by
 cases dst with
 |none=>rfl
 |some d =>
  unfold bi
  cases hg:o.guard with
  |none=>rfl
  |some gw =>
   obtain ⟨g,want⟩:=gw;simp only;unfold pw
   cases ht:(ops[g]?).bind (·.dst) with
   |none=>rfl
   |some t =>
    have hne:t≠d:=λe=>hd d rfl (by subst e;simp [Oper.looksAt,hg,ht]);simp [AAct.put,tG,hne]
theorem CE (A:AAct) {x y} (v u) (h1 h2 h3) (h:∀ d,x=some d->y≠some d):(A.put x v h1).put y u h2=(A.put y u h3).put x v h2:=by
 cases x with
 |none=>cases y<;>rfl
 |some d =>
  cases y with
  |none=>rfl
  |some e =>
   have hne:d≠e:=λhe=>h d rfl (he▸rfl);simp only [AAct.put,AAct.mk.injEq,true_and,and_true];funext s;simp only [tG];by_cases h1:s=d
   .by_cases h2:s=e
    .exact absurd (h1.symm.trans h2) hne
    .simp [h1,hne]
   .simp [h1]
theorem cd.refl (h):cd h h:=λ_ _ e _=>e
theorem cd.trans {a b c} (h:cd a b) (k:cd b c):cd a c:=λid o e hd=>k id o (h id o e hd) hd
theorem cd.app (h u):cd h (h++u):=λid o e _=>by
 rw [aS (ar.1 e).1];exact e
theorem rz {h u} (hs:cd h u) {id sz:Nat} {xs} (hl:h[id]?=some (.row sz xs)):u[id]?=some (.row sz xs):=hs id _ hl rfl
theorem qR {h u} (hs:cd h u) {id ver sz} (hl:fU h id ver=some sz):fU u id ver=some sz:=by
 obtain ⟨xs,h1,h2⟩:=kl hl;simp [fU,rz hs h1,h2]
def d4 (F:Heap->OR) (h u:Heap):Prop:=(∀ v,F h=.val v h->F u=.val v u)/\∀ f a,F h=.call f a->F u=.call f a
theorem d4.const {F} {h u} (k:(∃ v,∀ h,F h=.val v h)\/(∃ f a,∀ h,F h=.call f a)\/((∀ v,F h≠.val v h)/\∀ f a,F h≠.call f a)):d4 F h u:=by
 rcases k with ⟨v,k⟩ | ⟨f,a,k⟩ | ⟨k1,k2⟩
 .refine ⟨λv' e=>?_,λf a e=>?_⟩
  .rw [k] at e;cases e;exact k _
  .rw [k] at e;cases e
 .refine ⟨λv' e=>?_,λf a e=>?_⟩
  .rw [k] at e;cases e
  .rw [k] at e;cases e;exact k _
 .exact ⟨λv e=>absurd e (k1 v),λf a e=>absurd e (k2 f a)⟩
theorem aH {h} {X:AV->Prop} {Y:FuncId->List AV->Prop}:(∀ v,OR.stuck=OR.val v h->X v)/\∀ f a,OR.stuck=OR.call f a->Y f a :=
 ⟨λ_ e=>(by cases e),λ_ _ e=>(by cases e)⟩
theorem ri (v) (h u):d4 (λh=>gJ h v) h u:=by
 cases v with
 |none=>exact .const (.inr (.inr ⟨λv=>by simp [gJ],λf a=>by simp [gJ]⟩))
 |some v=>exact .const (.inl ⟨v,λ_=>rfl⟩)
theorem pP (v) (h u):d4 (λh=>qQ h v) h u:=by
 cases v with
 |none=>exact .const (.inr (.inr ⟨λv=>by simp [qQ],λf a=>by simp [qQ]⟩))
 |some v=>exact .const (.inl ⟨.p v,λ_=>rfl⟩)
theorem aQ (h u):d4 (λ_=>.stuck) h u:=.const (.inr (.inr ⟨λv=>by simp,λf a=>by simp⟩))
theorem br (v) (h u):d4 (λh=>.val v h) h u:=.const (.inl ⟨v,λ_=>rfl⟩)
theorem Ly (T) (x) (h u) (hs:cd h u):d4 (mO P T x) h u:=by
 cases x with
 |p q =>
  cases q with
  |ptr sz xs i o =>
   show d4 (λh=>match xs[i]? with | some v=>gJ h (jW P T (.p v) o) | none=>.stuck) h u
   cases xs[i]? with
   |none=>exact aQ h u
   |some v=>exact ri _ h u
  |_=>exact aQ h u
 |ptr id ver i o =>
  unfold d4 mO;dsimp only
  cases hid:h[id]? with
  |none=>exact aH
  |some ob =>
   cases ob with
   |row sz xs =>
    rw [rz hs hid];dsimp only;split
    .cases xs[i]? with
     |none=>exact aH
     |some v=>exact ri _ h u
    .exact aH
   |_=>exact aH
 |_=>exact aQ h u
theorem CH {id ver} {v} (h u) (hs:cd h u):d4 (λh=>match fU h id ver with | some _=>.val v h | none=>.stuck) h u:=by
 unfold d4;dsimp only
 cases hl:fU h id ver with
 |none=>exact aH
 |some sz=>rw [qR hs hl];exact ⟨λv e=>(by cases e;rfl),λf a e=>(by cases e)⟩
theorem Bq (T) (x) (f) (h u) (hs:cd h u):d4 (kQ P T x f) h u:=by
 unfold kQ
 cases af P T f with
 |none=>exact aQ h u
 |some q =>
  obtain ⟨off,t⟩:=q;dsimp only
  cases bM P t with
  |none=>exact aQ h u
  |some n =>
   dsimp only;by_cases hn:n=0
   .simp only [hn,if_true];exact aQ h u
   .simp only [hn,if_false]
    cases x with
    |p q=>cases q<;>first | exact br _ h u | exact aQ h u
    |ptr id ver i o=>exact CH h u hs
    |_=>exact aQ h u
theorem Jf (T) (x) (f) (h u):d4 (rO P T x f) h u:=by
 unfold rO
 cases af P T f with
 |none=>exact aQ h u
 |some q =>
  obtain ⟨off,t⟩:=q
  cases x with
  |p q=>cases q<;>first | exact ri _ h u | exact aQ h u
  |agg cs=>exact ri _ h u
  |_=>exact aQ h u
theorem cK {c} [Decidable c] {F} {h u} (k:d4 F h u):d4 (λh=>if c then F h else .stuck) h u:=by
 by_cases hc:c
 .simp only [hc,if_true];exact k
 .simp only [hc,if_false];exact aQ h u
theorem Bp (T) (x ix) (h u) (hs:cd h u):d4 (gr P T x ix) h u:=by
 cases ix with
 |p qi =>
  cases qi with
  |int k i =>
   cases x with
   |p q =>
    cases q with
    |slice sz xs full =>
     unfold d4 gr;dsimp only
     cases ba P T with
     |none=>exact aH
     |some e=>exact cK (br _ h u)
    |ptr sz xs j o =>
     unfold d4 gr;dsimp only
     cases cU P T with
     |none=>exact aH
     |some q =>
      obtain ⟨n,e⟩:=q;dsimp only
      cases bM P e with
      |none=>exact aH
      |some s=>exact cK (br _ h u)
    |_=>exact aQ h u
   |slice id ver off len =>
    unfold d4 gr;dsimp only
    cases ba P T with
    |none=>exact aH
    |some e =>
     cases hid:h[id]? with
     |none=>exact aH
     |some ob =>
      cases ob with
      |row sz xs =>
       rw [rz hs hid]
       exact cK (br _ h u)
      |_=>exact aH
   |ptr id ver j o =>
    unfold d4 gr;dsimp only
    cases cU P T with
    |none=>exact aH
    |some q =>
     obtain ⟨n,e⟩:=q;dsimp only
     cases bM P e with
     |none=>exact aH
     |some s =>
      cases hl:fU h id ver with
      |none=>exact aH
      |some z=>rw [qR hs hl];exact cK (br _ h u)
   |_=>exact aQ h u
  |_=>exact aQ h u
 |_=>exact aQ h u
theorem Hq (T) (x k) (ok) (h u) (hs:cd h u):d4 (pA P T x k ok) h u:=by
 unfold d4 pA
 cases wR P T with
 |none=>exact aH
 |some q =>
  obtain ⟨K,E⟩:=q
  cases x with
  |ref t id =>
   cases t with
   |mp =>
    cases k with
    |p k =>
     dsimp only
     cases hid:h[id]? with
     |none=>exact aH
     |some ob =>
      cases ob with
      |mp es =>
       rw [hs id _ hid rfl]
       cases ak P E with
       |none=>exact aH
       |some z =>
        dsimp only;by_cases hk:sM P K k=true
        .simp only [if_pos hk]
         cases ki k es with
         |none=>exact aH
         |some r=>cases r<;>exact br _ h u
        .simp only [if_neg hk];exact aH
      |_=>exact aH
    |_=>exact aH
   |_=>exact aH
  |_=>exact aH
theorem Je (T) (x ix) (h u):d4 (uP P T x ix) h u:=by
 have agg:∀ (x:AV) (i:Int),d4 (λh=>match cU P T with
   |some (n,e)=>match bM P e with | some s=>if 0<=i/\i<n then gJ h (jW P e x (i.toNat*s)) else .stuck | none=>.stuck
   |none=>.stuck) h u:=by
  intro x i
  cases cU P T with
  |none=>exact aQ h u
  |some q =>
   obtain ⟨n,e⟩:=q;dsimp only
   cases bM P e with
   |none=>exact aQ h u
   |some s=>exact cK (ri _ h u)
 cases ix with
 |p qi =>
  cases qi with
  |int k i =>
   cases x with
   |p q =>
    cases q with
    |str s =>
     refine cK ?_
     cases s[i.toNat]? with
     |none=>exact aQ h u
     |some b=>exact br _ h u
    |agg cs=>exact agg _ i
    |_=>exact aQ h u
   |agg cs=>exact agg _ i
   |_=>exact aQ h u
  |_=>exact aQ h u
 |_=>exact aQ h u
theorem Jc (T) (x) (lo hi mx) (h u) (hs:cd h u):d4 (rN P T x lo hi mx) h u:=by
 unfold d4 rN
 cases lm lo with
 |none=>exact aH
 |some l =>
  cases lm hi with
  |none=>exact aH
  |some r =>
   cases lm mx with
   |none=>exact aH
   |some m =>
    cases x with
    |p q =>
     cases q with
     |slice sz xs full =>
      dsimp only
      cases ba P T with
      |none=>exact aH
      |some e =>
       cases lu l r xs.length with
       |none=>exact aH
       |some ab =>
        cases m with
        |none=>exact cK (br _ h u)
        |some m=>exact cK (cK (br _ h u))
     |str s =>
      dsimp only
      cases lu l r s.size with
      |none=>exact aH
      |some ab =>
       cases m with
       |none=>exact cK (br _ h u)
       |some m=>exact aH
     |nilslice =>
      dsimp only
      cases ba P T with
      |none=>exact aH
      |some e =>
       cases lu l r 0 with
       |none=>exact aH
       |some ab =>
        cases m with
        |none=>exact cK (br _ h u)
        |some m=>exact aH
     |_=>exact aH
    |slice id ver off len =>
     dsimp only
     cases ba P T with
     |none=>exact aH
     |some e =>
      cases hid:h[id]? with
      |none=>exact aH
      |some ob =>
       cases ob with
       |row sz xs =>
        rw [rz hs hid]
        cases lu l r len with
        |none =>
         cases m with
         |none=>exact cK (br _ h u)
         |some m=>exact cK (br _ h u)
        |some ab =>
         cases m with
         |none=>exact cK (br _ h u)
         |some m=>exact cK (br _ h u)
       |_=>exact aH
    |_=>exact aH
theorem Oi (T) (x) (h u) (hs:cd h u):d4 (xh P T x) h u:=by
 cases x with
 |p q =>
  cases q with
  |str s=>exact cK (br _ h u)
  |slice sz xs full=>exact cK (br _ h u)
  |nilslice=>exact cK (br _ h u)
  |agg cs =>
   unfold d4 xh;dsimp only
   cases cU P T with
   |none=>exact aH
   |some q=>exact br _ h u
  |_=>exact aQ h u
 |slice id ver off len =>
  unfold d4 xh;dsimp only
  cases hl:fU h id ver with
  |none=>simp only [G0,fa,and_false,if_false];exact aH
  |some z=>rw [qR hs hl];exact cK (br _ h u)
 |_=>exact aQ h u
theorem Oj (op) (T) (c) (x y) (h u):d4 (Ab P op T c x y) h u:=by
 unfold Ab;split
 .split
  .exact pP _ h u
  .split
   .exact pP _ h u
   .exact aQ h u
 .exact pP _ h u
 .split
  .exact pP _ h u
  .exact pP _ h u
  .exact aQ h u
theorem QF (op) (x) (h u):d4 (GD op x) h u:=by
 unfold GD;split
 .exact br _ h u
 .exact br _ h u
 .exact aQ h u
theorem EU (a b) (x) (h u):d4 (nv P a b x) h u:=by
 unfold nv;split
 .split
  .exact br _ h u
  .exact aQ h u
 .exact cK (br _ h u)
 .rename_i y ys full
  cases hn:rq (y::ys) with
  |some ns=>exact cK (br _ h u)
  |none=>exact cK (aQ h u)
 .exact aQ h u
theorem ET (x) (i) (h u):d4 (nu x i) h u:=by
 unfold nu;split
 .split
  .exact br _ h u
  .exact aQ h u
 .split
  .exact br _ h u
  .exact aQ h u
 .exact aQ h u
theorem Jg (T) (ps) (h u):d4 (rP P T ps) h u:=by
 unfold rP;split
 .split
  .split
   .exact br _ h u
   .exact aQ h u
  .split
   .split
    .split
     .exact br _ h u
     .exact aQ h u
    .exact aQ h u
   .exact aQ h u
 .exact aQ h u
theorem zt (T) (mu) (n) (ps) (h u):d4 (jQ P T mu n ps) h u:=by
 unfold d4 jQ
 cases ba P T with
 |none=>exact aH
 |some e =>
  dsimp only
  cases bM P e with
  |none=>exact aH
  |some sz =>
   dsimp only
   cases p9 0 sz ps with
   |none=>exact aH
   |some xs =>
    dsimp only;by_cases hc:xs.length=n/\sz≠0/\n*sz<=16777216/\fm P e sz=true
    .simp only [hc,and_self,not_false_eq_true,ne_eq,if_true]
     cases mu with
     |false =>
      cases fB xs with
      |some l=>exact br _ h u
      |none=>exact ⟨λv e=>(by injection e with e1 e2;exact absurd (congrArg List.length e2) (by simp)),λf a e=>(by cases e)⟩
     |true=>exact ⟨λv e=>(by injection e with e1 e2;exact absurd (congrArg List.length e2) (by simp)),λf a e=>(by cases e)⟩
    .simp only [hc,if_false];exact aH
theorem Hr (f) (args) (h u):d4 (λ_=>eX f args) h u:=by
 refine ⟨λv e=>?_,λf a e=>e⟩;dsimp only at e;unfold eX at e;split at e<;>cases e
theorem zr (A) (ok) (x) (h u):d4 (jO P A ok x) h u:=by
 unfold d4 jO;split
 .split
  .exact ⟨λv e=>(by cases e;rfl),λf a e=>(by cases e)⟩
  .split
   .split
    .exact ⟨λv e=>(by cases e;rfl),λf a e=>(by cases e)⟩
    .exact aH
   .exact aH
 .exact aH
theorem Jd {mu} {o} (e) (hq:dX o.op=true) (h u) (hs:cd h u):d4 (bH P mu o e) h u:=by
 obtain ⟨dst,op,type,pos,after,guard⟩:=o;cases op<;>first | (simp only [dX,fa] at hq;done) | skip
 case move x=>exact br _ h u
 case assign x=>exact br _ h u
 case pick c a b =>
  unfold d4 bH;dsimp only;split
  .exact br _ h u
  .exact aH
 case build t ps=>exact Jg _ _ h u
 case buildSlice t n ps=>exact zt _ _ _ _ h u
 case load t a=>exact Ly _ _ h u hs
 case nilCheck x =>
  unfold d4 bH;dsimp only;split
  .exact br _ h u
  .exact CH h u hs
  .exact aH
 case binOp op t x y ty=>exact Oj _ _ _ _ _ h u
 case unOp op t x=>exact QF _ _ h u
 case convert a b x=>exact EU _ _ _ h u
 case makeInterface t x =>
  unfold d4 bH;dsimp only;split
  .split
   .exact br _ h u
   .exact aH
  .exact aH
 case makeFunc f a c=>exact cK (br _ h u)
 case slice t x lo hi mx=>exact Jc _ _ _ _ _ h u hs
 case fieldAddr t x f=>exact Bq _ _ _ h u hs
 case field t x f=>exact Jf _ _ _ h u
 case indexAddr t x i=>exact Bp _ _ _ h u hs
 case index t x i=>exact Je _ _ _ h u
 case extract x i=>exact ET _ _ h u
 case lookup t x k ok=>exact Hq _ _ _ _ h u hs
 case typeAssert x t a ok=>exact zr _ _ _ h u
 case call c =>
  unfold d4 bH;dsimp only
  cases hc:c.callee with
  |value f=>exact Hr _ _ h u
  |invoke r mm=>simp [dX,hc] at hq
  |builtin b =>
   dsimp only;cases b<;>first | (simp [dX,hc] at hq;done) | skip
   all_goals
    unfold qa;split
    .exact cK (Oi _ _ h u hs)
    .simp_all
    .exact br _ h u
    .exact br _ h u
    .simp_all
    .simp_all
    .simp_all
    .exact aH
end Abs
end Go.Proofs.YtfafnkpfamgbbaaGreatDoor
namespace Go.Proofs.YtfafnkpfamgbbaaGreatDoor
namespace Abs
variable {P:Program} {H:Hints} {ops:Array Oper} {Q:Ex->AAct->Prop}
def dS (P:Program) (H:Hints) (ops:Array Oper) (Q:Ex->AAct->Prop) (o:Oper) (K:Heap->AAct->Prop) (hs:Heap) (A:AAct):Prop :=
 qn (λ_=>Rw
   (λ_=>jV P A o.dst (λB=>K B.h B) Q (bH P (aK H) o A.eval A.h))
   (λ_=>z8 A.h (λv h=>K hs (A.put o.dst v h)) (bH P (aK H) o A.eval A.h))
   (λ_=>vR P A.h (λv=>K hs (A.put o.dst v A.h)) (bH P (aK H) o A.eval A.h))
   (λ_=>vR P hs (λv=>K hs (A.put o.dst v A.h)) (bH P (aK H) o A.eval hs))
   (λj sz=>qq hs A.h j sz (λv h=>K hs (A.put o.dst v h)) (fS P A.eval o.op))
   (λ_=>tM P hs A.h A.eval (λh=>K hs (A.put o.dst (.p (.tuple [])) h)) o.op)
   (λ_=>ua P A.h A.eval (K hs (A.put o.dst (.p (.tuple [])) A.h)) o.op)
   (λ_=>xg hs A.h (λv h=>K hs (A.put o.dst v h)) (bH P (aK H) o A.eval A.h))
   (λ_=>wB P Q A (λv=>K hs (A.put o.dst v A.h)) (bH P (aK H) o A.eval A.h))
   (λ_=>p4 P H Q hs A (λv h=>K hs (A.put o.dst v h)) (bH P (aK H) o A.eval A.h))
   (bD H o))
  (λ_=>K hs (A.put o.dst (.p (.tuple [])) A.h)) (bi ops A o)
theorem EI (o) (rest) (hs) (A):bC P H ops Q (o::rest) hs A=dS P H ops Q o (bC P H ops Q rest) hs A:=by
 rw [bC];rfl
inductive HE where
 |app (t:Heap)
 |set (id:Nat) (o:AObj)
def HE.ap:HE->Heap->Heap
 |.app t,h=>h++t
 |.set id o,h=>h.set id o
def Qv (P:Program) (h:Heap) (r:OR) (v:AV):Prop :=
 r=.val v h\/∃ f args,r=.call f args/\∀ h',cd h h'->ay P f args h' (λr h''=>r=.ret v/\h''=h')
def Ew (P:Program) (H:Hints) (o:Oper) (hs:Heap) (v:AV) (E:HE) (A:AAct):Prop :=
 ∃ j sz z,bD H o=.slot j sz/\fS P A.eval o.op=some z/\z.cells.map (·.length)=some sz/\gO hs (hs.length-1-j)=true/\A.h[hs.length-1-j]?=some (.row sz []) /\
  v=.ptr (hs.length-1-j) 1 0 0/\E=.set (hs.length-1-j) (.row sz [z])
def NS (P:Program) (H:Hints) (o:Oper) (hs:Heap) (v:AV) (E:HE) (A:AAct):Prop :=
 bD H o=.sto/\∃ T a x id ver i k ob,o.op=.store T a x/\A.eval a=.ptr id ver i k/\gO hs id=true/\fM P T (.ptr id ver i k) (A.eval x) A.h=.skip (A.h.set id ob)/\v=.p (.tuple [])/\E=.set id ob
def NU (P:Program) (H:Hints) (o:Oper) (v:AV) (E:HE) (A:AAct):Prop :=
 bD H o=.nop/\v=.p (.tuple [])/\E=.app []/\∃ T a x,o.op=.store T a x/\fM P T (A.eval a) (A.eval x) A.h=.skip A.h
def NY (P:Program) (H:Hints) (o:Oper) (hs:Heap) (v:AV) (E:HE) (A:AAct):Prop :=
 ∃ t,bD H o=.app t/\((∃ l,E=.app l)\/∃ id ob,E=.set id ob/\gO hs id=true)/\bH P (aK H) o A.eval A.h=.val v (E.ap A.h)
def NT (P:Program) (H:Hints) (o:Oper) (v:AV) (E:HE) (A:AAct):Prop :=
 bD H o=.thr/\E=.app []/\∃ f args,bH P (aK H) o A.eval A.h=.call f args/\∀ h',cd A.h h'->ay P f args h' (λr h''=>r=.ret v/\h''=h')
def TS (P:Program) (H:Hints) (ops:Array Oper) (Q:Ex->AAct->Prop) (o:Oper) (A:AAct):Prop :=
 bi ops A o=some true/\bD H o=.thr/\∃ f args v,bH P (aK H) o A.eval A.h=.call f args/\ay P f args A.h (λr h''=>r=.panic v/\h''=A.h)/\∀ T,Q (.panic v) { A with tmps:=T }
def QS (P:Program) (H:Hints) (ops:Array Oper) (o:Oper) (hs:Heap) (v:AV) (E:HE) (A:AAct):Prop :=
 (bi ops A o=some false/\v=.p (.tuple [])/\E=.app []) \/
 (bi ops A o=some true /\
  ((bD H o=.quiet/\E=.app []/\Qv P A.h (bH P (aK H) o A.eval A.h) v) \/
   (bD H o=.low/\E=.app []/\Qv P hs (bH P (aK H) o A.eval hs) v) \/
   (bD H o=.alloc/\∃ t,E=.app t/\bH P (aK H) o A.eval A.h=.val v (A.h++t)) \/
   Ew P H o hs v E A\/NS P H o hs v E A\/NU P H o v E A\/NY P H o hs v E A\/NT P H o v E A))
theorem It {T} {id ver i k} {y} {h h'} (e:fM P T (.ptr id ver i k) y h=.skip h'):∃ ob,h'=h.set id ob:=by
 unfold fM at e;split at e
 .rename_i n hx _;split at e
  .split at e
   .split at e
    .split at e
     .cases hx;cases e;exact ⟨_,rfl⟩
     .cases e
    .cases e
   .cases e
  .cases e
 .cases e
theorem pn {h} {K} {r}:vR P h K r↔∃ v,Qv P h r v/\K v:=by
 constructor
 .intro k;cases r<;>first | exact k.elim | skip
  case val v h'=>obtain ⟨rfl,k⟩:=k;exact ⟨v,.inl rfl,k⟩
  case call f args=>obtain ⟨v,k1,k2⟩:=k;exact ⟨v,.inr ⟨f,args,rfl,k1⟩,k2⟩
 .rintro ⟨v,rfl | ⟨f,args,rfl,k1⟩,k2⟩
  .exact ⟨rfl,k2⟩
  .exact ⟨v,k1,k2⟩
theorem jJ {o} {K} {hs} {A} {v} {E} (q:QS P H ops o hs v E A) (k:K hs (A.put o.dst v (E.ap A.h))):dS P H ops Q o K hs A:=by
 unfold dS;rcases q with ⟨hw,rfl,rfl⟩ | ⟨hw,q⟩
 .rw [hw];refine ⟨λh=>(by cases h),λ_=>?_⟩;simpa [HE.ap] using k
 .rw [hw];refine ⟨λ_=>?_,λh=>(by cases h)⟩;rcases q with ⟨hc,rfl,q⟩ | ⟨hc,rfl,q⟩ | ⟨hc,t,rfl,q⟩ | ⟨j,sz,z,hc,h1,h2,h3,h4,rfl,rfl⟩ | ⟨hc,T,a,x,id,ver,i,kk,ob,h1,h2,h3,h4,rfl,rfl⟩ | ⟨hc,rfl,rfl,T,a,x,h1,h2⟩ | ⟨t,hc,hE,hq⟩ | ⟨hc,rfl,f,args,h1,h2⟩
  .rw [hc];exact pn.2 ⟨v,q,by simpa [HE.ap] using k⟩
  .rw [hc];exact pn.2 ⟨v,q,by simpa [HE.ap] using k⟩
  .rw [hc,q];exact ⟨⟨t,rfl⟩,k⟩
  .rw [hc];refine (show qq hs A.h j sz (λv h=>K hs (A.put o.dst v h)) (fS P A.eval o.op) from ?_);rw [h1];exact ⟨h2,h3,h4,k⟩
  .rw [hc];refine (show tM P hs A.h A.eval (λh=>K hs (A.put o.dst (.p (.tuple [])) h)) o.op from ?_);rw [h1];show (match A.eval a with | .ptr id ver i o=>gO hs id=true/\oS _ (fM P T (.ptr id ver i o) (A.eval x) A.h) | _=>False);rw [h2];refine ⟨h3,?_⟩;rw [h4];exact k
  .rw [hc];refine (show ua P A.h A.eval (K hs (A.put o.dst (.p (.tuple [])) A.h)) o.op from ?_);rw [h1];exact ⟨h2,by simpa [HE.ap] using k⟩
  .rw [hc,hq];refine ⟨?_,k⟩;rcases hE with ⟨l,rfl⟩ | ⟨id,ob,rfl,hd⟩
   .exact .inl ⟨l,rfl⟩
   .exact .inr ⟨id,ob,rfl,hd⟩
  .rw [hc,h1];exact .inl ⟨v,h2,by simpa [HE.ap] using k⟩
theorem qN {o} {K} {hs} {A} (q:TS P H ops Q o A):dS P H ops Q o K hs A:=by
 obtain ⟨hw,hc,f,args,v,h1,h2,h3⟩:=q;unfold dS;rw [hw];refine ⟨λ_=>?_,λh=>(by cases h)⟩;rw [hc,h1];exact .inr ⟨v,h2,h3⟩
theorem l4 {o} {K} {hs} {A} (hc:bD H o=.thr) (k:dS P H ops Q o K hs A) :
  (∃ v E,QS P H ops o hs v E A/\K hs (A.put o.dst v (E.ap A.h)))\/TS P H ops Q o A:=by
 unfold dS at k
 cases hw:bi ops A o with
 |none=>rw [hw] at k;exact k.elim
 |some b =>
  rw [hw] at k
  cases b with
  |false=>exact .inl ⟨_,.app [],.inl ⟨hw,rfl,rfl⟩,by simpa [HE.ap] using k.2 rfl⟩
  |true =>
   have k1:=k.1 rfl;rw [hc] at k1;have k2:wB P Q A (λv=>K hs (A.put o.dst v A.h)) (bH P (aK H) o A.eval A.h):=k1;cases hr:bH P (aK H) o A.eval A.h<;>rw [hr] at k2<;>first | exact k2.elim | skip
   rename_i f args;rcases k2 with ⟨v,h1,h2⟩ | ⟨v,h1,h2⟩
   .exact .inl ⟨v,.app [],.inr ⟨hw,.inr (.inr (.inr (.inr (.inr (.inr (.inr ⟨hc,rfl,f,args,hr,h1⟩))))))⟩,by simpa [HE.ap] using h2⟩
   .exact .inr ⟨hw,hc,f,args,v,hr,h1,h2⟩
theorem Kf {hs} {A} {K K'} {r} (hk:∀ v h,K v h->K' v h) (k:p4 P H Q hs A K r):p4 P H Q hs A K' r:=by
 cases r<;>first | exact k.elim | skip
 intro M0 m w cargs hS ha;obtain ⟨h1,h2⟩:=k M0 m w cargs hS ha;refine ⟨h1,h2.mono λ_ _ hb=>?_⟩;obtain ⟨r,h',m',hR,rest⟩:=hb;exact ⟨r,h',m',by cases r<;>first | exact ⟨hR.1,hk _ _ hR.2⟩ | exact hR,rest⟩
theorem mL {o} {K} {hs} {A} (hc:bD H o=.cal) (k:dS P H ops Q o K hs A) :
  (∃ v E,QS P H ops o hs v E A/\K hs (A.put o.dst v (E.ap A.h)))\/(bi ops A o=some true/\p4 P H Q hs A (λv h=>K hs (A.put o.dst v h)) (bH P (aK H) o A.eval A.h)):=by
 unfold dS at k
 cases hw:bi ops A o with
 |none=>rw [hw] at k;exact k.elim
 |some b =>
  rw [hw] at k
  cases b with
  |false=>exact .inl ⟨_,.app [],.inl ⟨hw,rfl,rfl⟩,by simpa [HE.ap] using k.2 rfl⟩
  |true =>
   have k1:=k.1 rfl;rw [hc] at k1;exact .inr ⟨rfl,k1⟩
theorem tN {o} {K} {hs} {A} (hc:bD H o=.cal) (hw:bi ops A o=some true) (k:p4 P H Q hs A (λv h=>K hs (A.put o.dst v h)) (bH P (aK H) o A.eval A.h)):dS P H ops Q o K hs A:=by
 unfold dS;rw [hw];refine ⟨λ_=>?_,λh=>(by cases h)⟩;rw [hc];exact k
theorem nE {o} {K} {hs} {A} (hb:(bD H o≠.bar/\bD H o≠.thr/\bD H o≠.cal)\/bi ops A o=some false) (k:dS P H ops Q o K hs A) :
  ∃ v E,QS P H ops o hs v E A/\K hs (A.put o.dst v (E.ap A.h)):=by
 unfold dS at k
 cases hw:bi ops A o with
 |none=>rw [hw] at k;exact k.elim
 |some b =>
  rw [hw] at k
  cases b with
  |false=>exact ⟨_,.app [],.inl ⟨hw,rfl,rfl⟩,by simpa [HE.ap] using k.2 rfl⟩
  |true =>
   have k1:=k.1 rfl
   cases hc:bD H o with
   |bar =>
    rcases hb with hb | hb
    .exact absurd hc hb.1
    .rw [hw] at hb;cases hb
   |thr =>
    rcases hb with hb | hb
    .exact absurd hc hb.2.1
    .rw [hw] at hb;cases hb
   |cal =>
    rcases hb with hb | hb
    .exact absurd hc hb.2.2
    .rw [hw] at hb;cases hb
   |alloc =>
    rw [hc] at k1;cases hr:bH P (aK H) o A.eval A.h<;>rw [hr] at k1<;>first | exact k1.elim | skip
    rename_i v h';obtain ⟨⟨t,rfl⟩,k2⟩:=k1
    exact ⟨v,.app t,.inr ⟨hw,.inr (.inr (.inl ⟨hc,t,rfl,hr⟩))⟩,k2⟩
   |quiet =>
    rw [hc] at k1;obtain ⟨v,q,k2⟩:=pn.1 k1
    exact ⟨v,.app [],.inr ⟨hw,.inl ⟨hc,rfl,q⟩⟩,by simpa [HE.ap] using k2⟩
   |low =>
    rw [hc] at k1;obtain ⟨v,q,k2⟩:=pn.1 k1
    exact ⟨v,.app [],.inr ⟨hw,.inr (.inl ⟨hc,rfl,q⟩)⟩,by simpa [HE.ap] using k2⟩
   |slot j sz =>
    rw [hc] at k1;have k2:qq hs A.h j sz (λv h=>K hs (A.put o.dst v h)) (fS P A.eval o.op):=k1
    cases hz:fS P A.eval o.op with
    |none=>rw [hz] at k2;exact k2.elim
    |some z =>
     rw [hz] at k2;obtain ⟨h1,h2,h3,k3⟩:=k2
     exact ⟨_,.set _ _,.inr ⟨hw,.inr (.inr (.inr (.inl ⟨j,sz,z,hc,hz,h1,h2,h3,rfl,rfl⟩)))⟩,k3⟩
   |sto =>
    rw [hc] at k1;have k2:tM P hs A.h A.eval (λh=>K hs (A.put o.dst (.p (.tuple [])) h)) o.op:=k1;unfold tM at k2;split at k2
    .rename_i T a x hop;split at k2
     .rename_i id ver i kk ha;obtain ⟨h1,k3⟩:=k2;unfold oS at k3;split at k3
      .rename_i h' hst;obtain ⟨ob,rfl⟩:=It hst;exact ⟨_,.set id ob,.inr ⟨hw,.inr (.inr (.inr (.inr (.inl ⟨hc,T,a,x,id,ver,i,kk,ob,hop,ha,h1,hst,rfl,rfl⟩))))⟩,k3⟩
      .exact k3.elim
     .exact k2.elim
    .exact k2.elim
   |nop =>
    rw [hc] at k1;have k2:ua P A.h A.eval (K hs (A.put o.dst (.p (.tuple [])) A.h)) o.op:=k1;unfold ua at k2;split at k2
    .rename_i T a x hop;exact ⟨_,.app [],.inr ⟨hw,.inr (.inr (.inr (.inr (.inr (.inl ⟨hc,rfl,rfl,T,a,x,hop,k2.1⟩)))))⟩,by simpa [HE.ap] using k2.2⟩
    .exact k2.elim
   |app t =>
    rw [hc] at k1;have k2:xg hs A.h (λv h=>K hs (A.put o.dst v h)) (bH P (aK H) o A.eval A.h):=k1;cases hr:bH P (aK H) o A.eval A.h<;>rw [hr] at k2<;>first | exact k2.elim | skip
    rename_i v h';obtain ⟨⟨l,rfl⟩ | ⟨id,ob,rfl,hd⟩,k3⟩:=k2
    .exact ⟨v,.app l,.inr ⟨hw,.inr (.inr (.inr (.inr (.inr (.inr (.inl ⟨t,hc,.inl ⟨l,rfl⟩,hr⟩))))))⟩,k3⟩
    .exact ⟨v,.set id ob,.inr ⟨hw,.inr (.inr (.inr (.inr (.inr (.inr (.inl ⟨t,hc,.inr ⟨id,ob,rfl,hd⟩,hr⟩))))))⟩,k3⟩
theorem m9 {A} {dst} {K K'} {r} (h:∀ B,K B->K' B) (k:jV P A dst K Q r):jV P A dst K' Q r:=by
 cases r with
 |val v h'=>exact h _ k
 |skip h'=>exact h _ k
 |call f args =>
  intro M0 m w cargs hS ha;obtain ⟨h1,h2⟩:=k M0 m w cargs hS ha;refine ⟨h1,h2.mono λ_ _ hb=>?_⟩;obtain ⟨r,h',m',hR,rest⟩:=hb
  exact ⟨r,h',m',by cases r<;>first | exact h _ hR | exact hR,rest⟩
 |yld l args =>
  refine ⟨k.1,λM0 m w cargs bl hS ha hbl=>?_⟩;obtain ⟨f,tmps,asx,bd,h1,h2⟩:=k.2 M0 m w cargs bl hS ha hbl;refine ⟨f,tmps,asx,bd,h1,λc cs=>?_⟩;obtain ⟨e,w',⟨r,h',m',hR,rest⟩,hs⟩:=h2 c cs
  exact ⟨e,w',⟨r,h',m',by cases r<;>first | exact h _ hR | exact hR,rest⟩,hs⟩
 |dfr d =>
  simp only [jV] at k |-;have gen:∀ {X Y:Prop} {c:Rc},(X->Y)->sY X c->sY Y c:=λhx hc=>by
   rename_i c;cases c<;>first | exact False.elim hc | exact hx hc
  exact gen (h _) k
 |recover =>
  simp only [jV] at k |-;have gen:∀ {X Y:AAct->PV->Prop} {c:Rc},(∀ B v,X B v->Y B v)->Lt A X c->Lt A Y c:=λhx hc=>by
   rename_i c;cases c<;>first | exact False.elim hc | exact hx _ _ hc
  exact gen (λ_ _=>h _) k
 |panic v=>exact k
 |stuck=>exact k
theorem xF {o} {K K'} {hs} {A} (h:∀ hs A,K hs A->K' hs A) (k:dS P H ops Q o K hs A):dS P H ops Q o K' hs A:=by
 by_cases ht:bD H o=.thr
 .rcases l4 ht k with ⟨v,E,q,k1⟩ | q
  .exact jJ q (h _ _ k1)
  .exact qN q
 by_cases hcl:bD H o=.cal
 .rcases mL hcl k with ⟨v,E,q,k1⟩ | ⟨hw,k1⟩
  .exact jJ q (h _ _ k1)
  .exact tN hcl hw (Kf (λv h' hk=>h _ _ hk) k1)
 by_cases hb:bD H o≠.bar\/bi ops A o=some false
 .obtain ⟨v,E,q,k1⟩:=nE (hb.imp (λh=>⟨h,ht,hcl⟩) id) k;exact jJ q (h _ _ k1)
 .have hb1:bD H o=.bar:=Classical.byContradiction λhn=>hb (.inl hn);unfold dS at k |-
  cases hw:bi ops A o with
  |none=>rw [hw] at k;exact k.elim
  |some b =>
   rw [hw,hb1] at k;rw [hb1]
   cases b with
   |false=>exact absurd (.inr hw) hb
   |true =>
    have k1:jV P A o.dst (λB=>K B.h B) Q (bH P (aK H) o A.eval A.h):=k.1 rfl;exact ⟨λ_=>m9 (K':=λB=>K' B.h B) (λB=>h B.h B) k1,λh=>(by cases h)⟩
theorem H1 {o} (h:bD H o=.quiet):dX o.op=true:=by
 unfold bD at h;split at h
 .unfold sk at h;split at h
  .split at h<;>cases h
  .cases h
 .split at h
  .split at h
   .cases h
   .split at h
    .assumption
    .cases h
  .cases h
  .split at h<;>cases h
  .split at h<;>cases h
  .split at h<;>cases h
  .split at h<;>cases h
  .split at h<;>cases h
  .cases h
theorem Me {o} (h:bD H o=.low):dX o.op=true:=by
 unfold bD at h;split at h
 .unfold sk at h;split at h
  .split at h<;>cases h
  .cases h
 .split at h
  .split at h
   .cases h
   .split at h<;>cases h
  .cases h
  .split at h
   .assumption
   .cases h
  .split at h<;>cases h
  .split at h<;>cases h
  .split at h<;>cases h
  .split at h<;>cases h
  .cases h
theorem J2 {o} {j sz} (h:bD H o=.slot j sz):wX o.op=true:=by
 unfold bD at h;split at h
 .unfold sk at h;split at h
  .split at h<;>cases h
  .cases h
 .split at h
  .split at h
   .cases h
   .split at h<;>cases h
  .cases h
  .split at h<;>cases h
  .split at h
   .assumption
   .cases h
  .split at h<;>cases h
  .split at h<;>cases h
  .split at h<;>cases h
  .cases h
theorem ov {e e'} {o:Oper} (he:∀ x∈o.op.operands,e x=e' x):fS P e o.op=fS P e' o.op:=by
 unfold fS;split
 .rfl
 .rename_i T x hop;rw [he x (by rw [hop];simp [Op.operands])]
 .rfl
theorem kL {A:AAct} {dst} {v} {h} {o:Oper} (hd:∀ d,dst=some d->d∉o.looksAt ops):∀ x∈o.op.operands,(A.put dst v h).eval x=A.eval x:=by
 intro x hx;refine L9 λd hd' hxd=>hd d hd' ?_;subst hxd;exact List.mem_append_left _ (List.mem_filterMap.2 ⟨.tmp d,by simpa using hx,rfl⟩)
theorem QS.same {o} {hs} {v} {E} {A B} (q:QS P H ops o hs v E A) (hw:bi ops B o=bi ops A o) (he:∀ x∈o.op.operands,B.eval x=A.eval x) (hh:B.h=A.h):QS P H ops o hs v E B:=by
 have hop:∀ h,bH P (aK H) o B.eval h=bH P (aK H) o A.eval h:=λh=>kw o he;unfold QS Ew NS NU NY NT at *
 rw [hw,hh,ov he];simp only [hop];rcases q with q | ⟨q1,q | q | q | q | ⟨hc,T,a,x,id,ver,i,kk,ob,h1,h2,h3,h4,h5⟩ | ⟨hc,h1,h2,T,a,x,h3,h4⟩ | q⟩
 .exact .inl q
 .exact .inr ⟨q1,.inl q⟩
 .exact .inr ⟨q1,.inr (.inl q)⟩
 .exact .inr ⟨q1,.inr (.inr (.inl q))⟩
 .exact .inr ⟨q1,.inr (.inr (.inr (.inl q)))⟩
 .refine .inr ⟨q1,.inr (.inr (.inr (.inr (.inl ⟨hc,T,a,x,id,ver,i,kk,ob,h1,?_,h3,?_,h5⟩))))⟩
  .rw [he a (by rw [h1];simp [Op.operands])];exact h2
  .rw [he x (by rw [h1];simp [Op.operands])];exact h4
 .refine .inr ⟨q1,.inr (.inr (.inr (.inr (.inr (.inl ⟨hc,h1,h2,T,a,x,h3,?_⟩)))))⟩;rw [he a (by rw [h3];simp [Op.operands]),he x (by rw [h3];simp [Op.operands])];exact h4
 .exact .inr ⟨q1,.inr (.inr (.inr (.inr (.inr (.inr q)))))⟩
theorem Pa {o o'} {hs} {v} {E} {A} {K} (hp:nR H ops o o'=true) (q:QS P H ops o hs v E A)
  (k:dS P H ops Q o' K hs (A.put o.dst v (E.ap A.h))):dS P H ops Q o' (λhs' A'=>QS P H ops o hs' v E A'/\K hs' (A'.put o.dst v (E.ap A'.h))) hs A:=by
 unfold nR at hp;simp only [dA] at hp;obtain ⟨hall,hap,hkp⟩:=hp;obtain ⟨a1,a2,a3⟩:=Oper.apart_spec hap;have hb2:bD H o'≠.bar:=by
  intro hb;have hall':∀ c,kf c .bar=false:=by intro c;cases c<;>rfl
  rw [hb,hall'] at hall;simp [o8] at hall
 by_cases hcl:bD H o'=.cal/\bi ops (A.put o.dst v (E.ap A.h)) o'=some true
 .obtain ⟨hcl,hwt⟩:=hcl;have hlow:bD H o=.low:=by
   rw [hcl] at hall;cases hc:bD H o<;>rw [hc] at hall<;>first | rfl | (simp [kf,vt,o8] at hall)
  have hE:E=.app []/\∀ A',bi ops A' o=bi ops A o->(∀ x∈o.op.operands,A'.eval x=A.eval x)->QS P H ops o hs v E A':=by
   rcases q with ⟨hw,hv,hE⟩ | ⟨hw,⟨hc',_⟩ | ⟨hc',hE,hq⟩ | ⟨hc',_⟩ | ⟨_,_,_,hc',_⟩ | ⟨hc',_⟩ | ⟨hc',_⟩ | ⟨_,hc',_⟩ | ⟨hc',_⟩⟩
   .exact ⟨hE,λA' h1 _=>.inl ⟨h1.trans hw,hv,hE⟩⟩
   .rw [hlow] at hc';cases hc'
   .refine ⟨hE,λA' h1 h2=>.inr ⟨h1.trans hw,.inr (.inl ⟨hc',hE,?_⟩)⟩⟩;rw [kw o h2];exact hq
   all_goals (rw [hlow] at hc';cases hc')
  obtain ⟨rfl,hqs⟩:=hE;rcases mL hcl k with ⟨v',E',q',k'⟩ | ⟨_,kc⟩
  .rcases q' with ⟨hw',_⟩ | ⟨_,⟨hc',_⟩ | ⟨hc',_⟩ | ⟨hc',_⟩ | ⟨_,_,_,hc',_⟩ | ⟨hc',_⟩ | ⟨hc',_⟩ | ⟨_,hc',_⟩ | ⟨hc',_⟩⟩
   .rw [hwt] at hw';cases hw'
   all_goals (rw [hcl] at hc';cases hc')
  .have e1:(A.put o.dst v (HE.ap (.app []) A.h)).h=A.h:=by rw [ii];simp [HE.ap]
   have e2:bH P (aK H) o' (A.put o.dst v (HE.ap (.app []) A.h)).eval A.h=bH P (aK H) o' A.eval A.h:=kw o' (kL a1);refine tN hcl ((jN a1).symm.trans hwt) ?_;rw [e1,e2] at kc;cases hr:bH P (aK H) o' A.eval A.h<;>rw [hr] at kc<;>first | exact kc.elim | skip
   rename_i f args;have kc2:ay P f args A.h (zI (λu h=>cd hs h/\K hs ((A.put o.dst v (HE.ap (.app []) A.h)).put o'.dst u h)) (λu h=>∀ T,HG H T (A.put o.dst v (HE.ap (.app []) A.h)).tmps->Q (.panic u) { A.put o.dst v (HE.ap (.app []) A.h) with tmps:=T,h:=h })):=by
    have:ay P f args (A.put o.dst v (HE.ap (.app []) A.h)).h (zI (λu h=>cd hs h/\K hs ((A.put o.dst v (HE.ap (.app []) A.h)).put o'.dst u h)) (λu h=>∀ T,HG H T (A.put o.dst v (HE.ap (.app []) A.h)).tmps->Q (.panic u) { A.put o.dst v (HE.ap (.app []) A.h) with tmps:=T,h:=h })):=kc;rw [e1] at this;exact this
   intro M0 m w cargs hS ha;obtain ⟨h1,h2⟩:=kc2 M0 m w cargs hS ha;refine ⟨h1,h2.mono λ_ _ hb=>?_⟩;obtain ⟨r,h',m',hR,rest⟩:=hb;refine ⟨r,h',m',?_,rest⟩
   cases r with
   |ret u =>
    refine ⟨hR.1,hqs _ (jN a3) (kL a3),?_⟩;have e3:HE.ap (.app []) (A.put o'.dst u h').h=h':=by rw [ii];simp [HE.ap]
    rw [e3,<-CE A v u (HE.ap (.app []) A.h) h' h' a2]
    exact hR.2
   |panic u =>
    intro T hT;have:=hR T (λt ht=>by
     rw [hT t ht];unfold NK at hkp;rw [hcl] at hkp
     cases hd:o.dst with
     |none=>rfl
     |some d =>
      rw [hd] at hkp;have hne:t≠d:=by
       rintro rfl
       simp [ht] at hkp
      simp [AAct.put,tG,hne])
    have e:({ A.put o.dst v (HE.ap (.app []) A.h) with tmps:=T,h:=h' }:AAct)={ A with tmps:=T,h:=h' }:=by
     cases o.dst<;>simp [AAct.put]
    rw [e] at this;exact this
 have hcase:(∃ v' E',QS P H ops o' hs v' E' (A.put o.dst v (E.ap A.h))/\K hs ((A.put o.dst v (E.ap A.h)).put o'.dst v' (E'.ap (A.put o.dst v (E.ap A.h)).h)))\/(TS P H ops Q o' (A.put o.dst v (E.ap A.h))/\E=.app []):=by
  by_cases ht:bD H o'=.thr
  .rcases l4 ht k with h | h
   .exact .inl h
   .refine .inr ⟨h,?_⟩;rw [ht] at hall;rcases q with ⟨_,_,h⟩ | ⟨_,⟨_,h,_⟩ | ⟨_,h,_⟩ | ⟨hc',_⟩ | ⟨_,_,_,hc',_⟩ | ⟨hc',_⟩ | ⟨hc',_⟩ | ⟨_,hc',_⟩ | ⟨hc',_⟩⟩
    .exact h
    .exact h
    .exact h
    all_goals (rw [hc'] at hall;simp [kf,vt,o8] at hall)
  .by_cases hcl2:bD H o'=.cal
   .rcases mL hcl2 k with h | ⟨h,_⟩
    .exact .inl h
    .exact absurd ⟨hcl2,h⟩ hcl
   .exact .inl (nE (.inl ⟨hb2,ht,hcl2⟩) k)
 rcases hcase with ⟨v',E',q',k'⟩ | ⟨⟨tw,tc,f,args,u,t1,t2,t3⟩,rfl⟩
 rotate_left
 .refine qN ⟨(jN a1).symm.trans tw,tc,f,args,u,?_,?_,λT=>?_⟩
  .rw [<-t1,ii];simp only [HE.ap,bF];exact (kw o' (kL a1)).symm
  .rw [ii] at t2;simpa [HE.ap] using t2
  .have:=t3 T;have e:({ A.put o.dst v (HE.ap (.app []) A.h) with tmps:=T }:AAct)={ A with tmps:=T }:=by
    cases o.dst<;>simp [AAct.put,HE.ap]
   rw [e] at this;exact this
 have hput:(A.put o.dst v (E.ap A.h)).h=E.ap A.h:=ii _ _ _ _;have hput':(A.put o'.dst v' (E'.ap A.h)).h=E'.ap A.h:=ii _ _ _ _;have ee:∀ x∈o'.op.operands,(A.put o.dst v (E.ap A.h)).eval x=A.eval x:=kL a1;have ew:bi ops (A.put o.dst v (E.ap A.h)) o'=bi ops A o':=jN a1;have ee':∀ x∈o.op.operands,(A.put o'.dst v' (E'.ap A.h)).eval x=A.eval x:=kL a3;have ew':bi ops (A.put o'.dst v' (E'.ap A.h)) o=bi ops A o:=jN a3;have hop:∀ h,bH P (aK H) o' (A.put o.dst v (E.ap A.h)).eval h=bH P (aK H) o' A.eval h:=λh=>kw o' ee;have hop':∀ h,bH P (aK H) o (A.put o'.dst v' (E'.ap A.h)).eval h=bH P (aK H) o A.eval h:=λh=>kw o ee'
 have fin:QS P H ops o' hs v' E' A->QS P H ops o hs v E (A.put o'.dst v' (E'.ap A.h))->E.ap (E'.ap A.h)=E'.ap (E.ap A.h) ->
   dS P H ops Q o' (λhs' A'=>QS P H ops o hs' v E A'/\K hs' (A'.put o.dst v (E.ap A'.h))) hs A:=by
  intro qA qB hEE;refine jJ qA ⟨qB,?_⟩;rw [hput'];rw [hput] at k';have:(A.put o'.dst v' (E'.ap A.h)).put o.dst v (E.ap (E'.ap A.h))=(A.put o.dst v (E.ap A.h)).put o'.dst v' (E'.ap (E.ap A.h)):=by
   rw [hEE];exact (CE A v v' _ _ _ a2).symm
  rw [this];exact k'
 have still:E=.app []->QS P H ops o' hs v' E' A:=λhE=>by
  refine q'.same ew.symm (λx hx=>(ee x hx).symm) ?_;rw [hput,hE];simp [HE.ap]
 have still':E'=.app []->QS P H ops o hs v E (A.put o'.dst v' (E'.ap A.h)):=λhE=>by
  refine q.same ew' ee' ?_;rw [hput',hE];simp [HE.ap]
 have lowA:(bi ops A o'=some false/\v'=.p (.tuple [])/\E'=.app [])\/(bi ops A o'=some true/\bD H o'=.low/\E'=.app []/\Qv P hs (bH P (aK H) o' A.eval hs) v') ->
   dS P H ops Q o' (λhs' A'=>QS P H ops o hs' v E A'/\K hs' (A'.put o.dst v (E.ap A'.h))) hs A:=by
  rintro (⟨hw,hv,hE⟩ | ⟨hw,hc,hE,hq⟩)
  .exact fin (.inl ⟨hw,hv,hE⟩) (still' hE) (by rw [hE];simp [HE.ap])
  .exact fin (.inr ⟨hw,.inr (.inl ⟨hc,hE,hq⟩)⟩) (still' hE) (by rw [hE];simp [HE.ap])
 have q0:=q';unfold QS at q';rw [ew] at q';simp only [hop] at q';have q1:=q;rcases q with ⟨hw,rfl,rfl⟩ | ⟨hw,⟨hc,rfl,hq⟩ | ⟨hc,rfl,hq⟩ | ⟨hc,t,rfl,hq⟩ | hsl | hst | hnp | hap' | hret⟩
 .exact fin (still rfl) (.inl ⟨ew'.trans hw,rfl,rfl⟩) (by simp [HE.ap])
 .have happ:∃ t',E'=.app t':=by
   rcases q' with ⟨_,_,h⟩ | ⟨_,⟨_,h,_⟩ | ⟨_,h,_⟩ | ⟨_,t',h,_⟩ | ⟨_,_,_,hc',_⟩ | ⟨hc',_⟩ | ⟨_,_,h,_⟩ | ⟨_,hc',_⟩ | ⟨hc',hE',_⟩⟩
   .exact ⟨_,h⟩
   .exact ⟨_,h⟩
   .exact ⟨_,h⟩
   .exact ⟨t',h⟩
   .rw [hc,hc'] at hall;cases hall
   .rw [hc,hc'] at hall;cases hall
   .exact ⟨_,h⟩
   .rw [hc,hc'] at hall;cases hall
   .exact ⟨_,hE'⟩
  obtain ⟨t',rfl⟩:=happ;refine fin (still rfl) (.inr ⟨ew'.trans hw,.inl ⟨hc,rfl,?_⟩⟩) (by simp [HE.ap]);rw [hput',hop'];have hpre:=Jd (P:=P) (mu:=aK H) (o:=o) A.eval (H1 hc) A.h (A.h++t') (cd.app _ _);rcases hq with hq | ⟨f,args,hq,hcall⟩
  .exact .inl (hpre.1 _ hq)
  .exact .inr ⟨f,args,hpre.2 _ _ hq,λh' hs'=>hcall h' ((cd.app _ _).trans hs')⟩
 .exact fin (still rfl) (.inr ⟨ew'.trans hw,.inr (.inl ⟨hc,rfl,by rw [hop'];exact hq⟩)⟩) (by simp [HE.ap])
 .rcases q' with h | ⟨hw',⟨hc',_⟩ | h | ⟨hc',_⟩ | ⟨_,_,_,hc',_⟩ | ⟨hc',_⟩ | ⟨hc',_⟩ | ⟨_,hc',_⟩ | ⟨hc',hE',_⟩⟩
  .exact lowA (.inl h)
  .rw [hc,hc'] at hall;cases hall
  .exact lowA (.inr ⟨hw',h⟩)
  .rw [hc,hc'] at hall;cases hall
  .rw [hc,hc'] at hall;cases hall
  .rw [hc,hc'] at hall;cases hall
  .rw [hc,hc'] at hall;cases hall
  .rw [hc,hc'] at hall;cases hall
  .rw [hc,hc'] at hall;cases hall
 .obtain ⟨j,sz,z,hc,h1,h2,h3,h4,rfl,rfl⟩:=hsl;rcases q' with h | ⟨hw',⟨hc',_⟩ | h | ⟨hc',_⟩ | ⟨j',sz',z',hc',g1,g2,g3,g4,rfl,rfl⟩ | ⟨hc',_⟩ | ⟨hc',_⟩ | ⟨_,hc',_⟩ | ⟨hc',hE',_⟩⟩
  .exact lowA (.inl h)
  .rw [hc,hc'] at hall;cases hall
  .exact lowA (.inr ⟨hw',h⟩)
  .rw [hc,hc'] at hall;cases hall
  .rw [hput] at g4;have hne:hs.length-1-j≠hs.length-1-j':=by
    intro e;have hlt:=(ar.1 h4).1;have g5:(A.h.set (hs.length-1-j) (.row sz [z]))[hs.length-1-j']?=some (.row sz' []):=g4;rw [<-e,gX hlt] at g5;cases g5
   have g5:A.h[hs.length-1-j']?=some (.row sz' []):=by
    have:(A.h.set (hs.length-1-j) (.row sz [z]))[hs.length-1-j']?=some (.row sz' []):=g4;rwa [cw hne] at this
   refine fin (.inr ⟨hw',.inr (.inr (.inr (.inl ⟨j',sz',z',hc',?_,g2,g3,g5,rfl,rfl⟩)))⟩) (.inr ⟨ew'.trans hw,.inr (.inr (.inr (.inl ⟨j,sz,z,hc,?_,h2,h3,?_,rfl,rfl⟩)))⟩) ?_
   .rw [<-ov ee];exact g1
   .rw [ov ee'];exact h1
   .rw [hput'];show (A.h.set (hs.length-1-j') (.row sz' [z']))[hs.length-1-j]?=_;rw [cw (Ne.symm hne)];exact h4
   .exact List.set_comm _ _ (Ne.symm hne)
  .rw [hc,hc'] at hall;cases hall
  .rw [hc,hc'] at hall;cases hall
  .rw [hc,hc'] at hall;cases hall
  .rw [hc,hc'] at hall;cases hall
 .have hc:=hst.1;rcases q' with h | ⟨hw',⟨hc',_⟩ | h | ⟨hc',_⟩ | ⟨_,_,_,hc',_⟩ | ⟨hc',_⟩ | ⟨hc',_⟩ | ⟨_,hc',_⟩ | ⟨hc',hE',_⟩⟩
  .exact lowA (.inl h)
  .rw [hc,hc'] at hall;cases hall
  .exact lowA (.inr ⟨hw',h⟩)
  .rw [hc,hc'] at hall;cases hall
  .rw [hc,hc'] at hall;cases hall
  .rw [hc,hc'] at hall;cases hall
  .rw [hc,hc'] at hall;cases hall
  .rw [hc,hc'] at hall;cases hall
  .rw [hc,hc'] at hall;cases hall
 .obtain ⟨hc,rfl,rfl,T,a,x,h1,h2⟩:=hnp;have hE':E'=.app []:=by
   rcases q' with ⟨_,_,h⟩ | ⟨_,⟨_,h,_⟩ | ⟨_,h,_⟩ | ⟨hc',_⟩ | ⟨_,_,_,hc',_⟩ | ⟨hc',_⟩ | ⟨_,_,h,_⟩ | ⟨_,hc',_⟩ | ⟨hc',_,_⟩⟩
   .exact h
   .exact h
   .exact h
   .rw [hc,hc'] at hall;cases hall
   .rw [hc,hc'] at hall;cases hall
   .rw [hc,hc'] at hall;cases hall
   .exact h
   .rw [hc,hc'] at hall;cases hall
   .rw [hc,hc'] at hall;cases hall
  exact fin (still rfl) (still' hE') (by rw [hE'])
 .obtain ⟨t,hc,_⟩:=hap';rcases q' with h | ⟨hw',⟨hc',_⟩ | h | ⟨hc',_⟩ | ⟨_,_,_,hc',_⟩ | ⟨hc',_⟩ | ⟨hc',_⟩ | ⟨_,hc',_⟩ | ⟨hc',hE',_⟩⟩
  .exact lowA (.inl h)
  .rw [hc,hc'] at hall;cases hall
  .exact lowA (.inr ⟨hw',h⟩)
  all_goals (rw [hc,hc'] at hall;cases hall)
 .obtain ⟨hc,rfl,hrest⟩:=hret;have hE':E'=.app []:=by
   rcases q' with ⟨_,_,h⟩ | ⟨_,⟨_,h,_⟩ | ⟨_,h,_⟩ | ⟨hc',_⟩ | ⟨_,_,_,hc',_⟩ | ⟨hc',_⟩ | ⟨_,_,h,_⟩ | ⟨_,hc',_⟩ | ⟨_,h,_⟩⟩
   .exact h
   .exact h
   .exact h
   .rw [hc,hc'] at hall;simp [kf,o8] at hall
   .rw [hc,hc'] at hall;simp [kf,o8] at hall
   .rw [hc,hc'] at hall;simp [kf,o8] at hall
   .exact h
   .rw [hc,hc'] at hall;simp [kf,o8] at hall
   .exact h
  exact fin (still rfl) (still' hE') (by rw [hE'])
end Abs
end Go.Proofs.YtfafnkpfamgbbaaGreatDoor
namespace Go.Proofs.YtfafnkpfamgbbaaGreatDoor
namespace Abs
variable {P:Program} {H:Hints} {ops:Array Oper} {Q:Ex->AAct->Prop}
def tf (acc:Array Nat) (o:Oper):Array Nat:=acc.push (o.after.foldl (λs e=>if Region.binds .any e then s||| 2^e.on||| acc.getD e.on 0 else s) 0)
def pC (p:List Oper) (acc:Array Nat):Prop :=
 acc.size=p.length/\∀ j i,(acc.getD j 0).testBit i=true->∃ o,p[j]?=some o/\∃ e,e∈o.after/\Region.binds .any e=true/\(i=e.on\/(e.on<j/\(acc.getD e.on 0).testBit i=true))
theorem yz (acc:Array Nat) (i):∀ (l:List Edge) (s),(l.foldl (λs e=>if Region.binds .any e then s||| 2^e.on||| acc.getD e.on 0 else s) s).testBit i=true ->
  s.testBit i=true\/∃ e,e∈l/\Region.binds .any e=true/\(i=e.on\/(acc.getD e.on 0).testBit i=true)
 |[],s,h=>.inl h
 |e::l,s,h=>by
  simp only [ky] at h;rcases yz acc i l _ h with h | ⟨e',h1,h2⟩
  .by_cases hb:Region.binds .any e=true
   .simp only [hb,if_true,Nat.testBit_or,K3] at h;rcases h with (h | h) | h
    .exact .inl h
    .refine .inr ⟨e,by simp,hb,.inl ?_⟩;rw [Nat.testBit_two_pow] at h;exact (of_decide_eq_true h).symm
    .exact .inr ⟨e,by simp,hb,.inr h⟩
   .simp only [hb,if_false,fa] at h;exact .inl h
  .exact .inr ⟨e',by simp [h1],h2⟩
theorem Kz {p} {acc} (h:pC p acc) (o):pC (p++[o]) (tf acc o):=by
 obtain ⟨h1,h2⟩:=h;refine ⟨by simp [tf,h1],λj i hj=>?_⟩;have low:∀ k,k<acc.size->(tf acc o).getD k 0=acc.getD k 0:=by
  intro k hk;simp [tf,eP,G6,y7 hk]
 rcases K1 j acc.size with hlt | heq | hgt
 .rw [low j hlt] at hj;obtain ⟨o',h3,e,h4,h5,h6⟩:=h2 j i hj;refine ⟨o',by rw [aS (by omega)];exact h3,e,h4,h5,?_⟩;rcases h6 with h6 | ⟨h6,h7⟩
  .exact .inl h6
  .exact .inr ⟨h6,by rw [low e.on (by omega)];exact h7⟩
 .subst heq;refine ⟨o,by rw [h1];simp,?_⟩;have hj':(o.after.foldl (λs e=>if Region.binds .any e then s||| 2^e.on||| acc.getD e.on 0 else s) 0).testBit i=true:=by
   simpa [tf,eP] using hj
  rw [<-xt] at hj';rcases yz acc i _ _ hj' with h | ⟨e,h3,h4,h5⟩
  .simp at h
  .refine ⟨e,GX.1 h3,h4,?_⟩;rcases h5 with h5 | h5
   .exact .inl h5
   .have hlt:e.on<acc.size:=by
     rcases cJ e.on acc.size with hx | hx
     .exact hx
     .simp [eP,oM hx] at h5
    exact .inr ⟨hlt,by rw [low _ hlt];exact h5⟩
 .have:(tf acc o).getD j 0=0:=by
   simp [tf,eP,oM (show (acc.push _).size<=j by simp;omega)]
  rw [this] at hj;simp at hj
theorem wq (ops):pC ops.toList (Region.before ops):=by
 have key:∀ (l p:List Oper) (acc:Array Nat),pC p acc->pC (p++l) (l.foldl tf acc):=by
  intro l
  induction l with
  |nil=>intro p acc h;simpa using h
  |cons o l ih =>
   intro p acc h;have:=ih (p++[o]) _ (Kz h o);simpa using this
 have h0:pC [] #[]:=⟨rfl,λj i h=>by simp at h⟩
 have:=key ops.toList [] #[] h0;have heq:Region.before ops=ops.toList.foldl tf #[]:=by
  unfold Region.before;rw [<-xt];rfl
 rw [heq];simpa using this
def xl (ops:Array Oper) (am:Array Bool):Prop :=
 ∀ j o,am.getD j false=true->ops[j]?=some o->∀ e,e∈o.after->Region.binds .any e=true->am.getD e.on false=true
theorem te {am} (hD:xl ops am):∀ (j i) (o),ops[j]?=some o->(∀ e,e∈o.after->Region.binds .any e=true->am.getD e.on false=true) ->
  Ea (Region.before ops) i j=true->am.getD i false=true:=by
 intro j
 induction j using Nat.strongRecOn with
 |_ j ih =>
  intro i o ho hall hb;obtain ⟨o',h1,e,h2,h3,h4⟩:=(wq ops).2 j i hb;have ho':ops[j]?=some o':=by simpa using h1
  rw [ho] at ho';cases ho';rcases h4 with rfl | ⟨h4,h5⟩
  .exact hall e h2 h3
  .have hl:=hall e h2 h3;obtain ⟨o2,h6,_⟩:=(wq ops).2 e.on i h5;have h6':ops[e.on]?=some o2:=by simpa using h6
   exact ih e.on h4 i o2 h6' (hD e.on o2 hl h6') h5
theorem xl.set {am} (hD:xl ops am) {i} (hi:i∈Region.ready .any ops am):xl ops (am.setIfInBounds i true):=by
 intro j o hj ho e he hb;obtain ⟨h0,oi,hoi,hall⟩:=mem_ready.1 hi;by_cases hji:j=i
 .subst hji;rw [ho] at hoi;cases hoi;exact getD_set_true (hall e he hb)
 .rw [getD_set_ne false (Ne.symm hji)] at hj;exact getD_set_true (hD j o hj ho e he hb)
def xm (P:Program) (H:Hints) (ops:Array Oper) (Q:Ex->AAct->Prop):Nat->Array Bool->Heap->AAct->Prop
 |0,am,_,A=>Region.ready .any ops am=[]/\Q .normal A
 |fuel+1,am,hs,A =>
  (Region.ready .any ops am=[]->Q .normal A) /\
  ∀ i∈Region.ready .any ops am,∀ o,ops[i]?=some o->dS P H ops Q o (xm P H ops Q fuel (am.setIfInBounds i true)) hs A
def pB (H:Hints) (ops:Array Oper) (am:Array Bool) (i:Nat) (oi:Oper):Prop:=∀ j o,j≠i->am.getD j true=false->ops[j]?=some o->Ea (Region.before ops) i j=true\/nR H ops oi o=true
theorem rA {am:Array Bool} {j}:(am.setIfInBounds j true).getD j true=true:=by
 rw [eP,Nb];rw [if_pos rfl];split<;>rfl
theorem pB.set {H} {ops} {am} {i} {oi} (h:pB H ops am i oi) (j):pB H ops (am.setIfInBounds j true) i oi:=by
 intro x o hxi hx ho;by_cases hxj:j=x
 .subst hxj;rw [rA] at hx;cases hx
 .rw [getD_set_ne true hxj] at hx;exact h x o hxi hx ho
theorem Bf {i} {oi} {v} {E} (hi:ops[i]?=some oi) :
  ∀ (fuel) (am) (hs) (A),xl ops am->pB H ops am i oi->i∈Region.ready .any ops am->QS P H ops oi hs v E A ->
   xm P H ops Q fuel (am.setIfInBounds i true) hs (A.put oi.dst v (E.ap A.h))->xm P H ops Q (fuel+1) am hs A:=by
 intro fuel
 induction fuel with
 |zero =>
  intro am hs A _ _ hr q k;refine ⟨λh=>(by rw [h] at hr;cases hr),λj hj o ho=>?_⟩;by_cases hji:j=i
  .subst hji;rw [hi] at ho;cases ho;exact jJ q k
  .have:=ready_mono hj hji;rw [k.1] at this
   cases this
 |succ fuel ih =>
  intro am hs A hD hB hr q k;refine ⟨λh=>(by rw [h] at hr;cases hr),λj hj o ho=>?_⟩;by_cases hji:j=i
  .subst hji;rw [hi] at ho;cases ho;exact jJ q k
  .have h1:=k.2 j (ready_mono hj hji) o ho;obtain ⟨hjun,oj,hoj,hall⟩:=mem_ready.1 hj;rw [ho] at hoj;cases hoj;have hp:nR H ops oi o=true:=by
    rcases hB j o hji hjun ho with h | h
    .have h2:=te hD j i o ho (λe he hb=>hall e he hb) h;have h0:=(mem_ready.1 hr).1;rcases cJ i am.size with h' | h'
     .simp [h'] at h0 h2;rw [h0] at h2;cases h2
     .simp [oM h'] at h2
    .exact h
   have h2:=Pa hp q h1;refine xF ?_ h2
   rintro hs' A' ⟨q',k'⟩
   refine ih (am.setIfInBounds j true) hs' A' (hD.set hj) (hB.set j) (ready_mono hr (Ne.symm hji)) q' ?_;rw [Array.setIfInBounds_comm _ _ hji];exact k'
def Ak (am:Array Bool):Nat:=am.toList.countP (·==false)
theorem yJ:∀ (l:List Bool) (j),l[j]?=some false->(l.set j true).countP (·==false)+1=l.countP (·==false)
 |[],j,h=>by simp at h
 |b::l,0,h=>by
  have:b=false:=by simpa using h
  subst this
  simp
 |b::l,j+1,h=>by
  have:=yJ l j (by simpa using h);simp only [List.set_cons_succ,List.countP_cons];omega
theorem zj {am} {j} (h:am.getD j true=false):Ak (am.setIfInBounds j true)+1=Ak am:=by
 have h1:am[j]?=some false:=by
  rw [eP] at h
  cases hj:am[j]? with
  |none=>rw [hj] at h;simp at h
  |some b=>rw [hj] at h;simp at h;rw [h]
 unfold Ak;rw [Array.toList_setIfInBounds];exact yJ _ _ (by simpa using h1)
theorem N8 {am} {j} (h:am.getD j true=false):0<Ak am:=by
 have:=zj h;omega
theorem J1 {o} {K} {hs} {A} (hf:sP o=true) (hq:o8 (bD H o)=true) (k:∀ v,K hs (A.put o.dst v A.h)):dS P H ops Q o K hs A:=by
 have hc:bD H o=.quiet:=by cases hc:bD H o<;>rw [hc] at hq<;>first | rfl | cases hq
 obtain ⟨dst,op,ty,pos,after,guard⟩:=o;unfold dS
 cases guard with
 |some g=>simp [sP] at hf
 |none =>
  refine ⟨λ_=>?_,λh=>(by cases h)⟩;rw [hc];cases op<;>simp only [sP,fa] at hf
  .exact ⟨rfl,k _⟩
  .exact ⟨rfl,k _⟩
theorem TS.put {o o':Oper} {A} (q:TS P H ops Q o A) (hap:∀ d,o'.dst=some d->d∉o.looksAt ops) (v):TS P H ops Q o (A.put o'.dst v A.h):=by
 obtain ⟨tw,tc,f,args,u,t1,t2,t3⟩:=q;refine ⟨(jN hap).trans tw,tc,f,args,u,?_,?_,λT=>?_⟩
 .rw [<-t1,ii];exact kw o (kL hap)
 .rw [ii];exact t2
 .have e:({ A.put o'.dst v A.h with tmps:=T }:AAct)={ A with tmps:=T }:=by
   cases o'.dst<;>simp [AAct.put]
  rw [e];exact t3 T
theorem MK {i} {oi} (hi:ops[i]?=some oi) :
  ∀ (fuel) (am) (hs) (A),Ak am<=fuel->xl ops am->pB H ops am i oi->i∈Region.ready .any ops am->TS P H ops Q oi A->xm P H ops Q fuel am hs A:=by
 intro fuel
 induction fuel with
 |zero =>
  intro am hs A hu _ _ hr _;have:=N8 (mem_ready.1 hr).1
  omega
 |succ fuel ih =>
  intro am hs A hu hD hB hr q;refine ⟨λh=>(by rw [h] at hr;cases hr),λj hj o ho=>?_⟩;by_cases hji:j=i
  .subst hji;rw [hi] at ho;cases ho;exact qN q
  .obtain ⟨hjun,oj,hoj,hall⟩:=mem_ready.1 hj;rw [ho] at hoj;cases hoj;have hp:nR H ops oi o=true:=by
    rcases hB j o hji hjun ho with h | h
    .have h2:=te hD j i o ho (λe he hb=>hall e he hb) h;have h0:=(mem_ready.1 hr).1;rcases cJ i am.size with h' | h'
     .simp [h'] at h0 h2;rw [h0] at h2;cases h2
     .simp [oM h'] at h2
    .exact h
   unfold nR at hp;simp only [dA] at hp;obtain ⟨hpd,hap,_⟩:=hp;obtain ⟨a1,a2,a3⟩:=Oper.apart_spec hap;have hthr:∀ c,kf .thr c=false:=by intro c;cases c<;>rfl
   rw [q.2.1,hthr] at hpd;simp only [vt,jT,zb,dA] at hpd;refine J1 hpd.1 hpd.2 λv=>?_;refine ih (am.setIfInBounds j true) hs _ ?_ (hD.set hj) (hB.set j) (ready_mono hr (Ne.symm hji)) (q.put a3 v);have:=zj hjun;omega
def Sj (ops:Array Oper) (l:List Nat) (am:Array Bool):Prop:=am.size=ops.size/\∀ j,am.getD j true=false↔j∈l
theorem Cz {l} {am:Array Bool} {i} (hil:i∉l) (h:∀ j,am.getD j true=false↔j∈i::l) (j):(am.setIfInBounds i true).getD j true=false↔j∈l:=by
 by_cases hij:i=j
 .subst hij;rw [rA];exact ⟨λh=>(by cases h),λh=>absurd h hil⟩
 .rw [getD_set_ne true hij,h j];simp [Ne.symm hij]
theorem Cm:∀ (l:List Nat) (am),l.Nodup->(∀ j,am.getD j true=false↔j∈l)->Ak am<=l.length
 |[],am,_,h=>by
  rcases oI (Ak am) with h0 | h0
  .omega
  .exfalso;unfold Ak at h0;obtain ⟨b,hb,hb2⟩:=List.countP_pos_iff.1 (show 0<List.countP (λx=>x==false) am.toList from h0);obtain ⟨j,hj⟩:=cX hb;have hb3:b=false:=by simpa using hb2
   subst hb3;have:=(h j).1 (by rw [eP,<-Array.getElem?_toList,hj];rfl)
   cases this
 |i::l,am,hn,h=>by
  have hi:am.getD i true=false:=(h i).2 (by simp);have:=zj hi;have ih:=Cm l (am.setIfInBounds i true) (GY.1 hn).2 (Cz (GY.1 hn).1 h);rw [e9];omega
theorem Mb:∀ (l) (os) (am) (hs) (A),l.map (λi=>ops[i]?)=os.map some->l.Nodup->Sj ops l am->xl ops am->xS H ops (Region.before ops) l=true ->
  bC P H ops Q os hs A->xm P H ops Q l.length am hs A:=by
 intro l
 induction l with
 |nil =>
  intro os am hs A he hn hR hD hok h;have:os=[]:=by cases os<;>simp_all
  subst this;refine ⟨?_,h⟩;refine List.eq_nil_iff_forall_not_mem.2 λj hj=>?_;obtain ⟨h1,_⟩:=mem_ready.1 hj
  exact absurd ((hR.2 j).1 h1) (by simp)
 |cons i l ih =>
  intro os am hs A he hn hR hD hok h
  cases os with
  |nil=>simp at he
  |cons o rest =>
   simp only [bQ,List.cons.injEq] at he;obtain ⟨hoi,he⟩:=he;obtain ⟨hil,hnl⟩:=GY.1 hn;rw [xS,hoi] at hok;simp only [dA] at hok;obtain ⟨⟨hedge,hpair⟩,hokl⟩:=hok;have hiu:am.getD i true=false:=(hR.2 i).2 (by simp);have hisz:i<ops.size:=(lY.1 hoi).1;have hr:i∈Region.ready .any ops am:=by
    refine mem_ready.2 ⟨hiu,o,hoi,λe he hb=>?_⟩;have:=(Array.all_eq_true_iff_forall_mem.1 hedge) e he;simp only [hb,Bool.not_true,jT,dA,decide_eq_true_eq,B6] at this;obtain ⟨h1,h2⟩:=this;have h3:¬ am.getD e.on true=false:=λh'=>by
     have h4:=(hR.2 _).1 h';rw [<-List.contains_iff_mem] at h4;rw [h4] at h2;cases h2
    have h4:e.on<am.size:=by rw [hR.1];exact h1
    rw [eP,G5 h4] at h3 |-;simpa using h3
   have hB:pB H ops am i o:=by
    intro j oj hji hj hoj;have hjl:=(hR.2 j).1 hj;rcases cz.1 hjl with rfl | hjl
    .exact absurd rfl hji
    have:=j2.1 hpair j hjl;rw [hoj] at this;simp only [dA,K3] at this;exact this.2
   have hR':Sj ops l (am.setIfInBounds i true):=⟨by simp [hR.1],Cz hil hR.2⟩
   have hD':=hD.set hr;rw [EI] at h;have h':dS P H ops Q o (xm P H ops Q l.length (am.setIfInBounds i true)) hs A:=xF (λhs A hk=>ih rest _ hs A he hnl hR' hD' hokl hk) h;by_cases ht:bD H o=.thr
   .rcases l4 ht h' with ⟨v,E,q,k⟩ | q
    .exact Bf hoi _ _ _ A hD hB hr q k
    .exact MK hoi _ _ hs A (Cm (i::l) am hn hR.2) hD hB hr q
   by_cases hb:(bD H o≠.bar/\bD H o≠.cal)\/bi ops A o=some false
   .obtain ⟨v,E,q,k⟩:=nE (hb.imp (λh=>⟨h.1,ht,h.2⟩) id) h';exact Bf hoi _ _ _ A hD hB hr q k
   .have hb1:bD H o=.bar\/bD H o=.cal:=by
     by_cases h1:bD H o=.bar
     .exact .inl h1
     .exact .inr (Classical.byContradiction λhn=>hb (.inl ⟨h1,hn⟩))
    refine ⟨λh0=>?_,λj hj oj hoj=>?_⟩
    .rw [h0] at hr;cases hr
    .have hji:j=i:=by
      obtain ⟨h1,o',ho',hall⟩:=mem_ready.1 hj;rw [hoj] at ho';cases ho';refine Classical.byContradiction λhne=>?_;rcases hB j oj hne h1 hoj with h3 | h3
      .have h4:=te hD j i oj hoj hall h3;have h5:i<am.size:=by rw [hR.1];exact hisz
       rw [eP,G5 h5] at hiu h4;simp at hiu h4;rw [hiu] at h4;cases h4
      .have hall':∀ c,kf .bar c=false/\kf .cal c=false:=by intro c;cases c<;>exact ⟨rfl,rfl⟩
       unfold nR at h3;rcases hb1 with hb1 | hb1
       .rw [hb1,(hall' _).1] at h3;simp [vt] at h3
       .rw [hb1,(hall' _).2] at h3;simp [vt] at h3
     subst hji;rw [hoi] at hoj;cases hoj;exact h'
variable {M0:Nat->Prop} {S0:Mem} {b:Frame} {cs0:List Frame}
theorem wD {hs h} (hx:cd hs h) {id} (hd:gO hs id=true) (ob):cd hs (h.set id ob):=by
 intro x o ho hn;by_cases hxi:id=x
 .subst hxi;unfold gO at hd;rw [ho] at hd;cases o<;>first | (cases hd;done) | (cases hn;done)
 .rw [cw hxi];exact hx x o ho hn
theorem Lj {o} {K} {hs} {A} (hx:cd hs A.h) (k:dS P H ops Q o K hs A) :
  (bi ops A o=some false/\K hs (A.put o.dst (.p (.tuple [])) A.h)) \/
  (bi ops A o=some true/\jV P A o.dst (λB=>∃ hs',cd hs' B.h/\K hs' B) Q (bH P (aK H) o A.eval A.h)) \/
  (bi ops A o=some true/\∃ v E,Ew P H o hs v E A/\cd hs (E.ap A.h)/\K hs (A.put o.dst v (E.ap A.h))):=by
 have hcase:(∃ v E,QS P H ops o hs v E A/\K hs (A.put o.dst v (E.ap A.h)))\/TS P H ops Q o A\/(bD H o=.cal/\bi ops A o=some true/\p4 P H Q hs A (λv h=>K hs (A.put o.dst v h)) (bH P (aK H) o A.eval A.h))\/¬ (bD H o≠.bar\/bi ops A o=some false):=by
  by_cases ht:bD H o=.thr
  .rcases l4 ht k with h | h
   .exact .inl h
   .exact .inr (.inl h)
  .by_cases hcl:bD H o=.cal
   .rcases mL hcl k with h | h
    .exact .inl h
    .exact .inr (.inr (.inl ⟨hcl,h⟩))
   .by_cases hb:bD H o≠.bar\/bi ops A o=some false
    .exact .inl (nE (hb.imp (λh=>⟨h,ht,hcl⟩) id) k)
    .exact .inr (.inr (.inr hb))
 rcases hcase with ⟨v,E,q,k1⟩ | ⟨tw,tc,f,args,u,t1,t2,t3⟩ | ⟨hcl,hw,kc⟩ | hb
 .have fin:∀ (r:OR),Qv P A.h r v->K hs (A.put o.dst v A.h)->jV P A o.dst (λB=>∃ hs',cd hs' B.h/\K hs' B) Q r:=by
   intro r hr hk;rcases hr with rfl | ⟨f,args,rfl,hc⟩
   .exact ⟨hs,by rw [ii];exact hx,hk⟩
   .have:=hc A.h (cd.refl _);intro M0 m w cargs hS ha;obtain ⟨h1,h2⟩:=this M0 m w cargs hS ha;refine ⟨h1,h2.mono λ_ _ hb=>?_⟩;obtain ⟨r,h',m',⟨rfl,rfl⟩,rest⟩:=hb;exact ⟨.ret v,_,m',⟨hs,by rw [ii];exact hx,hk⟩,rest⟩
  rcases q with ⟨hw,rfl,rfl⟩ | ⟨hw,⟨hc,rfl,q⟩ | ⟨hc,rfl,q⟩ | ⟨hc,t,rfl,q⟩ | q | ⟨hc,T,a,x,id,ver,i,kk,ob,h1,h2,h3,h4,rfl,rfl⟩ | ⟨hc,rfl,rfl,T,a,x,h1,h2⟩ | ⟨t,hc,hE,hq⟩ | ⟨hc,rfl,f,args,g1,g2⟩⟩
  .exact .inl ⟨hw,by simpa [HE.ap] using k1⟩
  .exact .inr (.inl ⟨hw,fin _ q (by simpa [HE.ap] using k1)⟩)
  .refine .inr (.inl ⟨hw,fin _ ?_ (by simpa [HE.ap] using k1)⟩);have hpre:=Jd (P:=P) (mu:=aK H) (o:=o) A.eval (Me hc) hs A.h hx;rcases q with q | ⟨f,args,q,hcall⟩
   .exact .inl (hpre.1 _ q)
   .exact .inr ⟨f,args,hpre.2 _ _ q,λh' hs'=>hcall h' (hx.trans hs')⟩
  .refine .inr (.inl ⟨hw,?_⟩);rw [q];exact ⟨hs,by rw [ii];exact hx.trans (cd.app _ _),k1⟩
  .refine .inr (.inr ⟨hw,v,E,q,?_,k1⟩);obtain ⟨j,sz,z,hc,h1,h2,h3,h4,rfl,rfl⟩:=q;exact wD hx h3 _
  .refine .inr (.inl ⟨hw,?_⟩);have hop:bH P (aK H) o A.eval A.h=.skip (A.h.set id ob):=by
    unfold bH;rw [h1];show fM P T (A.eval a) (A.eval x) A.h=_;rw [h2];exact h4
   rw [hop];exact ⟨hs,by rw [ii];exact wD hx h3 _,k1⟩
  .refine .inr (.inl ⟨hw,?_⟩);have hop:bH P (aK H) o A.eval A.h=.skip A.h:=by
    unfold bH;rw [h1];exact h2
   rw [hop];exact ⟨hs,by rw [ii];exact hx,by simpa [HE.ap] using k1⟩
  .refine .inr (.inl ⟨hw,?_⟩);rw [hq];refine ⟨hs,?_,k1⟩;rw [ii];rcases hE with ⟨l,rfl⟩ | ⟨id,ob,rfl,hd⟩
   .exact hx.trans (cd.app _ _)
   .exact wD hx hd _
  .exact .inr (.inl ⟨hw,fin _ (.inr ⟨f,args,g1,g2⟩) (by simpa [HE.ap] using k1)⟩)
 .refine .inr (.inl ⟨tw,?_⟩);rw [t1];intro M0 m w cargs hS ha;obtain ⟨h1,h2⟩:=t2 M0 m w cargs hS ha;refine ⟨h1,h2.mono λ_ _ hb=>?_⟩;obtain ⟨r,h',m',⟨rfl,rfl⟩,rest⟩:=hb;exact ⟨.panic u,_,m',t3 A.tmps,rest⟩
 .refine .inr (.inl ⟨hw,?_⟩);cases hr:bH P (aK H) o A.eval A.h<;>rw [hr] at kc<;>first | exact kc.elim | skip
  intro M0 m w cargs hS ha;obtain ⟨h1,h2⟩:=kc M0 m w cargs hS ha;refine ⟨h1,h2.mono λ_ _ hb=>?_⟩;obtain ⟨r,h',m',hR,rest⟩:=hb
  exact ⟨r,h',m',by
   cases r with
   |ret v=>exact ⟨hs,by rw [ii];exact hR.1,hR.2⟩
   |panic v=>exact hR A.tmps (λ_ _=>rfl),rest⟩
 .have hb1:bD H o=.bar:=Classical.byContradiction λhn=>hb (.inl hn);unfold dS at k
  cases hw:bi ops A o with
  |none=>rw [hw] at k;exact k.elim
  |some b =>
   rw [hw,hb1] at k
   cases b with
   |false=>exact absurd (.inr hw) hb
   |true =>
    have k1:jV P A o.dst (λB=>K B.h B) Q (bH P (aK H) o A.eval A.h):=k.1 rfl;exact .inr (.inl ⟨rfl,m9 (λB hB=>⟨B.h,cd.refl _,hB⟩) k1⟩)
theorem PN {n} {k} (hd:ops.toList.all (mI n)=true):∀ (fuel t) (am) (hs) {m} {A} {a} {w},cd hs A.h ->
  Rel P M0 S0 b cs0 m A a w->A.n=n->xm P H ops Q fuel am hs A ->
   qJ P M0 S0 b cs0 n (lone (b.atR a (.inRegion ops (Region.linearise.go .any ops fuel t am [])::k)) (bE A.rc cs0) w) k Q:=by
 intro fuel
 induction fuel with
 |zero =>
  intro t am hs m A a w hx hr hn h
  exact ⟨.normal,A,m,a,w,h.2,hn,hr,.one (by simp only [Region.linearise.go,List.reverse_nil];exact stepR_region_end)⟩
 |succ fuel ih =>
  intro t am hs m A a w hx hr hn h;obtain ⟨h0,h1⟩:=h
  have hgo:Region.linearise.go .any ops (fuel+1) t am []=match (Region.ready .any ops am)[t%(Region.ready .any ops am).length]? with
   |some i=>Region.linearise.go .any ops fuel (t / (Region.ready .any ops am).length) (am.setIfInBounds i true) [i]
   |none=>[].reverse:=rfl
  rw [hgo]
  cases hi:(Region.ready .any ops am)[t%(Region.ready .any ops am).length]? with
  |none =>
   have hnil:Region.ready .any ops am=[]:=by
    cases hrr:Region.ready .any ops am with
    |nil=>rfl
    |cons x xs =>
     rw [hrr] at hi;have hlt:t%(x::xs).length<(x::xs).length:=rZ _ (by simp);simp at hi;simp at hlt;omega
   exact ⟨.normal,A,m,a,w,h0 hnil,hn,hr,.one (by simp only [List.reverse_nil];exact stepR_region_end)⟩
  |some i =>
   simp only [];rw [linearise_go_acc,List.reverse_singleton,KT];have hmem:=aI hi;obtain ⟨_,o,ho,_⟩:=mem_ready.1 hmem;have hstep:=h1 i hmem o ho;have hdo:mI A.n o=true:=by
    rw [hn];exact j2.1 hd o (GX.2 (Array.mem_of_getElem? ho))
   rcases Lj hx hstep with ⟨hw,hk⟩ | ⟨hw,hk⟩ | ⟨hw,v,E,hsl,hxs,hk⟩
   .have hwm:=hr.wanted hw;have hs1:=stepR_op_skip (P:=P) (b:=b) (k:=k) (cs:=bE A.rc cs0) (w:=w) (rest:=Region.linearise.go .any ops fuel (t / (Region.ready .any ops am).length) (am.setIfInBounds i true) []) (tF ho hwm);simp only [ho,oK] at hs1;have hr':=hr.put (dst:=o.dst) (lc hdo) (nM _ _);have:=ih (t / (Region.ready .any ops am).length) (am.setIfInBounds i true) hs (by rw [ii];exact hx) hr' ((nF _ _ _ _).trans hn) hk;rw [kW] at this;exact this.of_steps (.one hs1)
   .have hwm:=hr.wanted hw;rcases FZ (i:=i) (rest:=Region.linearise.go .any ops fuel (t / (Region.ready .any ops am).length) (am.setIfInBounds i true) []) (k:=k) ho hdo hwm hr hk with ⟨A',m',a',w',⟨hs',hx',hK⟩,hn',hr',hs1⟩ | ⟨v,A',m',a',w',v',todo,hQ,hn',hr',hv,hs1⟩
    .exact (ih _ _ hs' hx' hr' (hn'.trans hn) hK).of_steps hs1
    .exact ⟨.panic v,A',m',a',w',hQ,hn'.trans hn,hr',v',todo,hv,hs1⟩
   .have hwm:=hr.wanted hw;obtain ⟨j,sz,z,hc,g1,g2,g3,g4,rfl,rfl⟩:=hsl;have hso:=J2 hc;have hnd:∀ c,o.op≠.defer c:=by
     intro c hcc;rw [hcc] at hso;cases hso
    have hok:=Ob (P:=P) (o:=o) hr.hok g4 hr.eval g1 g2;obtain ⟨m',a',w',hr',hs1⟩:=EZ (i:=i) (rest:=Region.linearise.go .any ops fuel (t / (Region.ready .any ops am).length) (am.setIfInBounds i true) []) (k:=k) ho hdo hwm hr hnd hok;have:=ih (t / (Region.ready .any ops am).length) (am.setIfInBounds i true) hs (by rw [ii];exact hxs) hr' ((nF _ _ _ _).trans hn) hk;rw [kW] at this;exact this.of_steps hs1
theorem AE:∀ (l) (h),cd (sF h l) h/\(sF h l).length=h.length
 |[],h=>⟨cd.refl _,rfl⟩
 |id::l,h=>by
  obtain ⟨h1,h2⟩:=AE l (h.set id .dead);refine ⟨h1.trans λx o ho hn=>?_,by rw [sF,h2];simp⟩;by_cases hxi:id=x
  .subst hxi;have hlt:=(ar.1 ho).1;rw [gX (by simpa using hlt)] at ho;cases ho;cases hn
  .rwa [cw hxi] at ho
theorem Di (id) (h):cd (fi id h) h/\(fi id h).length=h.length:=by
 refine ⟨λx o ho hn=>?_,by simp [fi]⟩;unfold fi at ho;rw [GP] at ho
 cases hx:h[x]? with
 |none=>rw [hx] at ho;cases ho
 |some y =>
  rw [hx] at ho;simp only [mT,fu] at ho;split at ho
  .rw [<-ho]
  .rw [<-ho] at hn;cases hn
theorem Ju (H) (ops) (A):cd (vm H ops A) A.h/\(vm H ops A).length=A.h.length:=by
 unfold vm;split
 .exact Di _ _
 .exact AE _ _
theorem HZ (H) (ops) (A):cd (mJ H ops A) (pc H ops A).h:=by
 intro x o ho hn;obtain ⟨h1,h2⟩:=Ju H ops A;unfold mJ at ho;show (A.h++_)[x]?=_;rcases cJ x A.h.length with hl | hl
 .rw [aS (by omega)] at ho;rw [aS hl];exact h1 x o ho hn
 .rw [cD (by omega)] at ho;have:=aI ho;simp only [dD] at this;obtain ⟨_,_,rfl⟩:=this;cases hn
theorem F0 {α β} (f:α->β) (a b) (l):(CY a b l).map f=CY a b (l.map f):=by
 unfold CY;rw [fY];split
 .simp [M8,List.map_drop]
 .rfl
theorem LK {α} (a b) (l:List α):(CY a b l).Perm l:=by
 unfold CY;split
 .rename_i h;have e:l=l.take a++((l.drop a).take 1++((l.drop (a+1)).take (b-a)++l.drop (b+1))):=by
   have e1:(l.drop (a+1)).take (b-a)++l.drop (b+1)=l.drop (a+1):=by
    have e2:l.drop (b+1)=(l.drop (a+1)).drop (b-a):=by rw [rX];congr 1;omega
    rw [e2];exact ol _ _
   rw [e1];have e3:(l.drop a).take 1++l.drop (a+1)=l.drop a:=by
    have e4:l.drop (a+1)=(l.drop a).drop 1:=by rw [rX]
    rw [e4];exact ol _ _
   rw [e3];exact (ol _ _).symm
  refine List.Perm.trans ?_ (List.Perm.of_eq e.symm);rw [di,di];refine List.Perm.append_left _ ?_;rw [<-di,<-di];exact List.Perm.append_right _ List.perm_append_comm
 .exact .refl _
theorem Jk (H) (n):(sB H n).Perm (List.range n):=by
 unfold sB;split
 .exact LK _ _ _
 .exact .refl _
theorem Oq (H) (ops:Array Oper):(sB H ops.size).map (λi=>ops[i]?)=(wN H ops.toList).map some:=by
 have base:(List.range ops.size).map (λi=>ops[i]?)=ops.toList.map some:=by
  apply rV;intro i;rw [cg,cg];have e:ops.toList[i]?=ops[i]?:=by simp
  rw [e];rcases cJ i ops.size with h | h
  .have e2:(List.range ops.size)[i]?=some i:=by simp [h]
   rw [e2,G5 h];simp [h]
  .have e2:(List.range ops.size)[i]?=none:=ze (by simpa using h);rw [e2,oM h];rfl
 unfold sB wN;split
 .rw [F0,base,F0]
 .exact base
theorem Rel.drew {m} {A} {a} {w} (hr:Rel P M0 S0 b cs0 m A a w):Rel P M0 S0 b cs0 m A a { w with drawn:=w.drawn+1 } :=
 hr.ahead (Ev.drew _ ⟨m,A.h,w⟩) (HOk.drew hr.hok)
theorem OU (hm:P.follows .mixedOrders=true):dw P:=by
 intro M0 S0 b cs0 m A a w H ops Q n id k hd hok hr hn h;have hok2:xS H ops (Region.before ops) (sB H ops.size)=true/\(sB H ops.size).length=ops.size:=by
  unfold Dz at hok;simp only [dA,decide_eq_true_eq] at hok;exact ⟨hok.2,hok.1.2⟩
 have hper:=Jk H ops.size;have hany:=Mb (sB H ops.size) _ (Array.replicate ops.size false) _ _ (Oq H ops) (hper.nodup_iff.2 List.nodup_range) ⟨by simp,λj=>by
   rw [hper.mem_iff,B',eP];by_cases hj:j<ops.size
   .simp [hj]
   .simp [hj]⟩ (λj o hj ho e he hb=>by
   exfalso;rw [eP] at hj;by_cases hj2:j<ops.size
   .simp [hj2] at hj
   .simp [hj2] at hj) hok2.1 h
 rw [hok2.2] at hany;obtain ⟨m',hr'⟩:=hr.resv (qr H ops.toList);have hs:=stepR_region_draw (P:=P) (b:=b) (a:=a) (k:=k) (cs:=bE A.rc cs0) (w:=w) (ops:=ops) (id:=id);refine qJ.of_steps (.one hs) ?_;simp only [Region.schedule,hm,qj,if_true];exact PN (A:=pc H ops.toList A) hd ops.size _ _ _ (HZ H ops.toList A) hr'.drew hn hany
end Abs
end Go.Proofs.YtfafnkpfamgbbaaGreatDoor
