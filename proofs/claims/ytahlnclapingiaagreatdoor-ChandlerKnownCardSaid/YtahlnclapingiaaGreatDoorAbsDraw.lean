/-
  LAWS: regions of any order: what the order of the text comes to, every order comes to.
  L
-/
import Derived.Test.YtahlnclapingiaaGreatDoorAbsFunX
import Derived.Orders
set_option linter.unusedSimpArgs false
set_option linter.unusedVariables false
namespace Go.Proofs.YtahlnclapingiaaGreatDoor
namespace Abs
variable {P:Program} {H:Hints} {ops:Array Oper} {Q:Ex→AAct→Prop}
theorem zgn {mu:Nat→Bool} {e e':Operand→AV} {h:Heap} (o:Oper) (he:∀ x∈o.op.operands,e x=e' x):aOp P mu o e h=aOp P mu o e' h:=by
 obtain ⟨dst,op,type,pos,after,guard⟩:=o
 have pairs:∀ ps:Array (Nat×Operand),(∀ x∈ps.map (·.2),e x=e' x)→(ps.toList.map fun q=>(q.1,e q.2))=(ps.toList.map fun q=>(q.1,e' q.2)):=fun ps hp =>
  List.map_congr_left fun q hm=>by
   simp only [hp q.2 (Array.mem_map.2 ⟨q,Array.mem_toList_iff.1 hm,rfl⟩)]
 have lists:∀ xs:Array Operand,(∀ x∈xs,e x=e' x)→xs.toList.map e=xs.toList.map e':=fun xs hp =>
  List.map_congr_left fun x hm=>hp x (Array.mem_toList_iff.1 hm)
 cases op<;>simp only [Op.operands] at he<;>simp only [aOp]
 case build t ps=>rw [pairs ps fun x hx=>he x (by simpa using hx)]
 case buildSlice t n ps=>rw [pairs ps fun x hx=>he x (by simpa using hx)]
 case makeFunc fn first cap=>rw [lists first fun x hx=>he x (by simp [hx]),lists cap fun x hx=>he x (by simp [hx])]
 case slice t x lo hi mx =>
  have h0:e x=e' x:=he x (by simp)
  have h1:lo.map e=lo.map e':=by cases lo with | none=>rfl | some y=>simp only [Option.map_some,he y (by simp)]
  have h2:hi.map e=hi.map e':=by cases hi with | none=>rfl | some y=>simp only [Option.map_some,he y (by simp)]
  have h3:mx.map e=mx.map e':=by cases mx with | none=>rfl | some y=>simp only [Option.map_some,he y (by simp)]
  rw [h0,h1,h2,h3]
 case call c =>
  have ha:c.args.toList.map e=c.args.toList.map e':=lists c.args fun x hx=>he x (by simp [Call.operands,hx])
  cases hc:c.callee with
  |value f=>simp only [ha,he f (by simp [Call.operands,hc])]
  |builtin b=>simp only [ha]
  |invoke r mm=>rfl
 case defer c =>
  have ha:c.args.toList.map e=c.args.toList.map e':=lists c.args fun x hx=>he x (by simp [Call.operands,hx])
  cases hc:c.callee with
  |value f=>simp only [ha,he f (by simp [Call.operands,hc])]
  |builtin b=>rfl
  |invoke r mm=>rfl
 case makeMap t r =>
  cases r with
  |none=>rfl
  |some y=>simp only [Option.map_some,he y (by simp)]
 all_goals (first | rfl | (simp_all;done))
theorem zBn {A:AAct} {dst:Option Tmp} {v:AV} {h:Heap} {x:Operand} (hx:∀ d,dst=some d→x≠.tmp d):(A.put dst v h).eval x=A.eval x:=by
 cases dst with
 |none=>rfl
 |some d =>
  cases x with
  |tmp t =>
   have:t≠d:=fun e=>hx d rfl (e▸rfl)
   simp [AAct.put,AAct.eval,upd,this]
  |_=>rfl
theorem zfO {A:AAct} {dst:Option Tmp} {v:AV} {h:Heap} {o:Oper} (hd:∀ d,dst=some d→d∉o.looksAt ops):zaP ops (A.put dst v h) o=zaP ops A o:=by
 cases dst with
 |none=>rfl
 |some d =>
  unfold zaP
  cases hg:o.guard with
  |none=>rfl
  |some gw =>
   obtain ⟨g,want⟩:=gw
   simp only
   unfold zjy
   cases ht:(ops[g]?).bind (·.dst) with
   |none=>rfl
   |some t =>
    have hne:t≠d:=fun e=>hd d rfl (by subst e;simp [Oper.looksAt,hg,ht])
    simp [AAct.put,upd,hne]
theorem zs3 (A:AAct) {x y:Option Tmp} (v u:AV) (h1 h2 h3:Heap) (h:∀ d,x=some d→y≠some d):(A.put x v h1).put y u h2=(A.put y u h3).put x v h2:=by
 cases x with
 |none=>cases y<;>rfl
 |some d =>
  cases y with
  |none=>rfl
  |some e =>
   have hne:d≠e:=fun he=>h d rfl (he▸rfl)
   simp only [AAct.put,AAct.mk.injEq,true_and,and_true]
   funext s
   simp only [upd]
   by_cases h1:s=d
   ·by_cases h2:s=e
    ·exact absurd (h1.symm.trans h2) hne
    ·simp [h1,hne]
   ·simp [h1]
theorem zbn.refl (h:Heap):zbn h h:=fun _ _ e _=>e
theorem zbn.trans {a b c:Heap} (h:zbn a b) (k:zbn b c):zbn a c:=fun id o e hd=>k id o (h id o e hd) hd
theorem zbn.app (h u:Heap):zbn h (h++u):=fun id o e _=>by
 rw [List.getElem?_append_left (List.getElem?_eq_some_iff.1 e).1];exact e
theorem zkZ {h u:Heap} (hs:zbn h u) {id sz:Nat} {xs:List AV} (hl:h[id]?=some (.row sz xs)):u[id]?=some (.row sz xs):=hs id _ hl rfl
theorem zkz {h u:Heap} (hs:zbn h u) {id ver sz:Nat} (hl:zdR h id ver=some sz):zdR u id ver=some sz:=by
 obtain ⟨xs,h1,h2⟩:=zge hl
 simp [zdR,zkZ hs h1,h2]
def Pre (F:Heap→OR) (h u:Heap):Prop:=(∀ v,F h=.val v h→F u=.val v u)∧∀ f a,F h=.call f a→F u=.call f a
theorem Pre.const {F:Heap→OR} {h u:Heap} (k:(∃ v,∀ h,F h=.val v h)∨(∃ f a,∀ h,F h=.call f a)∨((∀ v,F h≠.val v h)∧∀ f a,F h≠.call f a)):Pre F h u:=by
 rcases k with ⟨v,k⟩ | ⟨f,a,k⟩ | ⟨k1,k2⟩
 ·refine ⟨fun v' e=>?_,fun f a e=>?_⟩
  ·rw [k] at e;cases e;exact k _
  ·rw [k] at e;cases e
 ·refine ⟨fun v' e=>?_,fun f a e=>?_⟩
  ·rw [k] at e;cases e
  ·rw [k] at e;cases e;exact k _
 ·exact ⟨fun v e=>absurd e (k1 v),fun f a e=>absurd e (k2 f a)⟩
theorem zax {h:Heap} {X:AV→Prop} {Y:FuncId→List AV→Prop}:(∀ v,OR.stuck=OR.val v h→X v)∧∀ f a,OR.stuck=OR.call f a→Y f a :=
 ⟨fun _ e=>(by cases e),fun _ _ e=>(by cases e)⟩
theorem zkP (v:Option AV) (h u:Heap):Pre (fun h=>zej h v) h u:=by
 cases v with
 |none=>exact .const (.inr (.inr ⟨fun v=>by simp [zej],fun f a=>by simp [zej]⟩))
 |some v=>exact .const (.inl ⟨v,fun _=>rfl⟩)
theorem zjP (v:Option PV) (h u:Heap):Pre (fun h=>zky h v) h u:=by
 cases v with
 |none=>exact .const (.inr (.inr ⟨fun v=>by simp [zky],fun f a=>by simp [zky]⟩))
 |some v=>exact .const (.inl ⟨.p v,fun _=>rfl⟩)
theorem zaF (h u:Heap):Pre (fun _=>.stuck) h u:=.const (.inr (.inr ⟨fun v=>by simp,fun f a=>by simp⟩))
theorem zaT (v:AV) (h u:Heap):Pre (fun h=>.val v h) h u:=.const (.inl ⟨v,fun _=>rfl⟩)
theorem zAP (T:TypeId) (x:AV) (h u:Heap) (hs:zbn h u):Pre (zhY P T x) h u:=by
 cases x with
 |p q =>
  cases q with
  |ptr sz xs i o =>
   show Pre (fun h=>match xs[i]? with | some v=>zej h (zfV P T (.p v) o) | none=>.stuck) h u
   cases xs[i]? with
   |none=>exact zaF h u
   |some v=>exact zkP _ h u
  |_=>exact zaF h u
 |ptr id ver i o =>
  unfold Pre zhY
  dsimp only
  cases hid:h[id]? with
  |none=>exact zax
  |some ob =>
   cases ob with
   |row sz xs =>
    rw [zkZ hs hid]
    dsimp only
    split
    ·cases xs[i]? with
     |none=>exact zax
     |some v=>exact zkP _ h u
    ·exact zax
   |_=>exact zax
 |_=>exact zaF h u
theorem zs7 {id ver:Nat} {v:AV} (h u:Heap) (hs:zbn h u):Pre (fun h=>match zdR h id ver with | some _=>.val v h | none=>.stuck) h u:=by
 unfold Pre
 dsimp only
 cases hl:zdR h id ver with
 |none=>exact zax
 |some sz=>rw [zkz hs hl];exact ⟨fun v e=>(by cases e;rfl),fun f a e=>(by cases e)⟩
theorem zr9 (T:TypeId) (x:AV) (f:Nat) (h u:Heap) (hs:zbn h u):Pre (zgD P T x f) h u:=by
 unfold zgD
 cases zac P T f with
 |none=>exact zaF h u
 |some q =>
  obtain ⟨off,t⟩:=q
  dsimp only
  cases za7 P t with
  |none=>exact zaF h u
  |some n =>
   dsimp only
   by_cases hn:n=0
   ·simp only [hn,if_true];exact zaF h u
   ·simp only [hn,if_false]
    cases x with
    |p q=>cases q<;>first | exact zaT _ h u | exact zaF h u
    |ptr id ver i o=>exact zs7 h u hs
    |_=>exact zaF h u
theorem zyV (T:TypeId) (x:AV) (f:Nat) (h u:Heap):Pre (zlg P T x f) h u:=by
 unfold zlg
 cases zac P T f with
 |none=>exact zaF h u
 |some q =>
  obtain ⟨off,t⟩:=q
  cases x with
  |p q=>cases q<;>first | exact zkP _ h u | exact zaF h u
  |agg cs=>exact zkP _ h u
  |_=>exact zaF h u
theorem zbI {c:Prop} [Decidable c] {F:Heap→OR} {h u:Heap} (k:Pre F h u):Pre (fun h=>if c then F h else .stuck) h u:=by
 by_cases hc:c
 ·simp only [hc,if_true];exact k
 ·simp only [hc,if_false];exact zaF h u
theorem zr8 (T:TypeId) (x ix:AV) (h u:Heap) (hs:zbn h u):Pre (zd2 P T x ix) h u:=by
 cases ix with
 |p qi =>
  cases qi with
  |int k i =>
   cases x with
   |p q =>
    cases q with
    |slice sz xs full =>
     unfold Pre zd2
     dsimp only
     cases zaM P T with
     |none=>exact zax
     |some e=>exact zbI (zaT _ h u)
    |ptr sz xs j o =>
     unfold Pre zd2
     dsimp only
     cases zbQ P T with
     |none=>exact zax
     |some q =>
      obtain ⟨n,e⟩:=q
      dsimp only
      cases za7 P e with
      |none=>exact zax
      |some s=>exact zbI (zaT _ h u)
    |_=>exact zaF h u
   |slice id ver off len =>
    unfold Pre zd2
    dsimp only
    cases zaM P T with
    |none=>exact zax
    |some e =>
     cases hid:h[id]? with
     |none=>exact zax
     |some ob =>
      cases ob with
      |row sz xs =>
       rw [zkZ hs hid]
       exact zbI (zaT _ h u)
      |_=>exact zax
   |ptr id ver j o =>
    unfold Pre zd2
    dsimp only
    cases zbQ P T with
    |none=>exact zax
    |some q =>
     obtain ⟨n,e⟩:=q
     dsimp only
     cases za7 P e with
     |none=>exact zax
     |some s =>
      cases hl:zdR h id ver with
      |none=>exact zax
      |some z=>rw [zkz hs hl];exact zbI (zaT _ h u)
   |_=>exact zaF h u
  |_=>exact zaF h u
 |_=>exact zaF h u
theorem zxa (T:TypeId) (x k:AV) (ok:Bool) (h u:Heap) (hs:zbn h u):Pre (zjA P T x k ok) h u:=by
 unfold Pre zjA
 cases zoB P T with
 |none=>exact zax
 |some q =>
  obtain ⟨K,E⟩:=q
  cases x with
  |ref t id =>
   cases t with
   |mp =>
    cases k with
    |p k =>
     dsimp only
     cases hid:h[id]? with
     |none=>exact zax
     |some ob =>
      cases ob with
      |mp es =>
       rw [hs id _ hid rfl]
       cases zag P E with
       |none=>exact zax
       |some z =>
        dsimp only
        by_cases hk:zlQ P K k=true
        ·simp only [if_pos hk]
         cases zgc k es with
         |none=>exact zax
         |some r=>cases r<;>exact zaT _ h u
        ·simp only [if_neg hk];exact zax
      |_=>exact zax
    |_=>exact zax
   |_=>exact zax
  |_=>exact zax
theorem zyU (T:TypeId) (x ix:AV) (h u:Heap):Pre (znk P T x ix) h u:=by
 have agg:∀ (x:AV) (i:Int),Pre (fun h=>match zbQ P T with
   |some (n,e)=>match za7 P e with | some s=>if 0≤i∧i<n then zej h (zfV P e x (i.toNat*s)) else .stuck | none=>.stuck
   |none=>.stuck) h u:=by
  intro x i
  cases zbQ P T with
  |none=>exact zaF h u
  |some q =>
   obtain ⟨n,e⟩:=q
   dsimp only
   cases za7 P e with
   |none=>exact zaF h u
   |some s=>exact zbI (zkP _ h u)
 cases ix with
 |p qi =>
  cases qi with
  |int k i =>
   cases x with
   |p q =>
    cases q with
    |str s =>
     refine zbI ?_
     cases s[i.toNat]? with
     |none=>exact zaF h u
     |some b=>exact zaT _ h u
    |agg cs=>exact agg _ i
    |_=>exact zaF h u
   |agg cs=>exact agg _ i
   |_=>exact zaF h u
  |_=>exact zaF h u
 |_=>exact zaF h u
theorem zyS (T:TypeId) (x:AV) (lo hi mx:Option AV) (h u:Heap) (hs:zbn h u):Pre (zlf P T x lo hi mx) h u:=by
 unfold Pre zlf
 cases zgZ lo with
 |none=>exact zax
 |some l =>
  cases zgZ hi with
  |none=>exact zax
  |some r =>
   cases zgZ mx with
   |none=>exact zax
   |some m =>
    cases x with
    |p q =>
     cases q with
     |slice sz xs full =>
      dsimp only
      cases zaM P T with
      |none=>exact zax
      |some e =>
       cases zg2 l r xs.length with
       |none=>exact zax
       |some ab =>
        cases m with
        |none=>exact zbI (zaT _ h u)
        |some m=>exact zbI (zbI (zaT _ h u))
     |str s =>
      dsimp only
      cases zg2 l r s.size with
      |none=>exact zax
      |some ab =>
       cases m with
       |none=>exact zbI (zaT _ h u)
       |some m=>exact zax
     |nilslice =>
      dsimp only
      cases zaM P T with
      |none=>exact zax
      |some e =>
       cases zg2 l r 0 with
       |none=>exact zax
       |some ab =>
        cases m with
        |none=>exact zbI (zaT _ h u)
        |some m=>exact zax
     |_=>exact zax
    |slice id ver off len =>
     dsimp only
     cases zaM P T with
     |none=>exact zax
     |some e =>
      cases hid:h[id]? with
      |none=>exact zax
      |some ob =>
       cases ob with
       |row sz xs =>
        rw [zkZ hs hid]
        cases zg2 l r len with
        |none =>
         cases m with
         |none=>exact zbI (zaT _ h u)
         |some m=>exact zbI (zaT _ h u)
        |some ab =>
         cases m with
         |none=>exact zbI (zaT _ h u)
         |some m=>exact zbI (zaT _ h u)
       |_=>exact zax
    |_=>exact zax
theorem zDn (T:TypeId) (x:AV) (h u:Heap) (hs:zbn h u):Pre (zoT P T x) h u:=by
 cases x with
 |p q =>
  cases q with
  |str s=>exact zbI (zaT _ h u)
  |slice sz xs full=>exact zbI (zaT _ h u)
  |nilslice=>exact zbI (zaT _ h u)
  |agg cs =>
   unfold Pre zoT
   dsimp only
   cases zbQ P T with
   |none=>exact zax
   |some q=>exact zaT _ h u
  |_=>exact zaF h u
 |slice id ver off len =>
  unfold Pre zoT
  dsimp only
  cases hl:zdR h id ver with
  |none=>simp only [Option.isSome_none,Bool.false_eq_true,and_false,if_false];exact zax
  |some z=>rw [zkz hs hl];exact zbI (zaT _ h u)
 |_=>exact zaF h u
theorem zDo (op:BinOp) (T:TypeId) (c:Bool) (x y:AV) (h u:Heap):Pre (zq2 P op T c x y) h u:=by
 unfold zq2
 split
 ·split
  ·exact zjP _ h u
  ·split
   ·exact zjP _ h u
   ·exact zaF h u
 ·exact zjP _ h u
 ·split
  ·exact zjP _ h u
  ·exact zjP _ h u
  ·exact zaF h u
theorem zFA (op:UnOp) (x:AV) (h u:Heap):Pre (aUn op x) h u:=by
 unfold aUn
 split
 ·exact zaT _ h u
 ·exact zaT _ h u
 ·exact zaF h u
theorem zu8 (a b:TypeId) (x:AV) (h u:Heap):Pre (zin P a b x) h u:=by
 unfold zin
 split
 ·split
  ·exact zaT _ h u
  ·exact zaF h u
 ·exact zbI (zaT _ h u)
 ·rename_i y ys full
  cases hn:zkX (y::ys) with
  |some ns=>exact zbI (zaT _ h u)
  |none=>exact zbI (zaF h u)
 ·exact zaF h u
theorem zu7 (x:AV) (i:Nat) (h u:Heap):Pre (zim x i) h u:=by
 unfold zim
 split
 ·split
  ·exact zaT _ h u
  ·exact zaF h u
 ·split
  ·exact zaT _ h u
  ·exact zaF h u
 ·exact zaF h u
theorem zyW (T:TypeId) (ps:List (Nat×AV)) (h u:Heap):Pre (zlh P T ps) h u:=by
 unfold zlh
 split
 ·split
  ·split
   ·exact zaT _ h u
   ·exact zaF h u
  ·split
   ·split
    ·split
     ·exact zaT _ h u
     ·exact zaF h u
    ·exact zaF h u
   ·exact zaF h u
 ·exact zaF h u
theorem zqs (T:TypeId) (mu:Bool) (n:Nat) (ps:List (Nat×AV)) (h u:Heap):Pre (zfR P T mu n ps) h u:=by
 unfold Pre zfR
 cases zaM P T with
 |none=>exact zax
 |some e =>
  dsimp only
  cases za7 P e with
  |none=>exact zax
  |some sz =>
   dsimp only
   cases zj5 0 sz ps with
   |none=>exact zax
   |some xs =>
    dsimp only
    by_cases hc:xs.length=n∧sz≠0∧n*sz≤16777216∧zdp P e sz=true
    ·simp only [hc,and_self,not_false_eq_true,ne_eq,if_true]
     cases mu with
     |false =>
      cases zdx xs with
      |some l=>exact zaT _ h u
      |none=>exact ⟨fun v e=>(by injection e with e1 e2;exact absurd (congrArg List.length e2) (by simp)),fun f a e=>(by cases e)⟩
     |true=>exact ⟨fun v e=>(by injection e with e1 e2;exact absurd (congrArg List.length e2) (by simp)),fun f a e=>(by cases e)⟩
    ·simp only [hc,if_false];exact zax
theorem zxb (f:AV) (args:List AV) (h u:Heap):Pre (fun _=>zdd f args) h u:=by
 refine ⟨fun v e=>?_,fun f a e=>e⟩
 dsimp only at e
 unfold zdd at e
 split at e<;>cases e
theorem zqr (A:TypeId) (ok:Bool) (x:AV) (h u:Heap):Pre (zfP P A ok x) h u:=by
 unfold Pre zfP
 split
 ·split
  ·exact ⟨fun v e=>(by cases e;rfl),fun f a e=>(by cases e)⟩
  ·split
   ·split
    ·exact ⟨fun v e=>(by cases e;rfl),fun f a e=>(by cases e)⟩
    ·exact zax
   ·exact zax
 ·exact zax
theorem zyT {mu:Nat→Bool} {o:Oper} (e:Operand→AV) (hq:zcx o.op=true) (h u:Heap) (hs:zbn h u):Pre (aOp P mu o e) h u:=by
 obtain ⟨dst,op,type,pos,after,guard⟩:=o
 cases op<;>first | (simp only [zcx,Bool.false_eq_true] at hq;done) | skip
 case move x=>exact zaT _ h u
 case assign x=>exact zaT _ h u
 case pick c a b =>
  unfold Pre aOp
  dsimp only
  split
  ·exact zaT _ h u
  ·exact zax
 case build t ps=>exact zyW _ _ h u
 case buildSlice t n ps=>exact zqs _ _ _ _ h u
 case load t a=>exact zAP _ _ h u hs
 case nilCheck x =>
  unfold Pre aOp
  dsimp only
  split
  ·exact zaT _ h u
  ·exact zs7 h u hs
  ·exact zax
 case binOp op t x y ty=>exact zDo _ _ _ _ _ h u
 case unOp op t x=>exact zFA _ _ h u
 case convert a b x=>exact zu8 _ _ _ h u
 case makeInterface t x =>
  unfold Pre aOp
  dsimp only
  split
  ·split
   ·exact zaT _ h u
   ·exact zax
  ·exact zax
 case makeFunc f a c=>exact zbI (zaT _ h u)
 case slice t x lo hi mx=>exact zyS _ _ _ _ _ h u hs
 case fieldAddr t x f=>exact zr9 _ _ _ h u hs
 case field t x f=>exact zyV _ _ _ h u
 case indexAddr t x i=>exact zr8 _ _ _ h u hs
 case index t x i=>exact zyU _ _ _ h u
 case extract x i=>exact zu7 _ _ h u
 case lookup t x k ok=>exact zxa _ _ _ _ h u hs
 case typeAssert x t a ok=>exact zqr _ _ _ h u
 case call c =>
  unfold Pre aOp
  dsimp only
  cases hc:c.callee with
  |value f=>exact zxb _ _ h u
  |invoke r mm=>simp [zcx,hc] at hq
  |builtin b =>
   dsimp only
   cases b<;>first | (simp [zcx,hc] at hq;done) | skip
   all_goals
    unfold zj6
    split
    ·exact zbI (zDn _ _ h u hs)
    ·simp_all
    ·exact zaT _ h u
    ·exact zaT _ h u
    ·simp_all
    ·simp_all
    ·simp_all
    ·exact zax
end Abs
end Go.Proofs.YtahlnclapingiaaGreatDoor
namespace Go.Proofs.YtahlnclapingiaaGreatDoor
namespace Abs
variable {P:Program} {H:Hints} {ops:Array Oper} {Q:Ex→AAct→Prop}
def zcs (P:Program) (H:Hints) (ops:Array Oper) (Q:Ex→AAct→Prop) (o:Oper) (K:Heap→AAct→Prop) (hs:Heap) (A:AAct):Prop :=
 zke (fun _=>dcK
   (fun _=>orK P A o.dst (fun B=>K B.h B) Q (aOp P (zaz H) o A.eval A.h))
   (fun _=>zq0 A.h (fun v h=>K hs (A.put o.dst v h)) (aOp P (zaz H) o A.eval A.h))
   (fun _=>quK P A.h (fun v=>K hs (A.put o.dst v A.h)) (aOp P (zaz H) o A.eval A.h))
   (fun _=>quK P hs (fun v=>K hs (A.put o.dst v A.h)) (aOp P (zaz H) o A.eval hs))
   (fun j sz=>zkg hs A.h j sz (fun v h=>K hs (A.put o.dst v h)) (zdP P A.eval o.op))
   (fun _=>zmt P hs A.h A.eval (fun h=>K hs (A.put o.dst (.p (.tuple [])) h)) o.op)
   (fun _=>zmK P A.h A.eval (K hs (A.put o.dst (.p (.tuple [])) A.h)) o.op)
   (fun _=>zoS hs A.h (fun v h=>K hs (A.put o.dst v h)) (aOp P (zaz H) o A.eval A.h))
   (fun _=>zom P Q A (fun v=>K hs (A.put o.dst v A.h)) (aOp P (zaz H) o A.eval A.h))
   (fun _=>zj0 P H Q hs A (fun v h=>K hs (A.put o.dst v h)) (aOp P (zaz H) o A.eval A.h))
   (za1 H o))
  (fun _=>K hs (A.put o.dst (.p (.tuple [])) A.h)) (zaP ops A o)
theorem zuW (o:Oper) (rest:List Oper) (hs:Heap) (A:AAct):za0 P H ops Q (o::rest) hs A=zcs P H ops Q o (za0 P H ops Q rest) hs A:=by
 rw [za0];rfl
inductive HE where
 |app (t:Heap)
 |set (id:Nat) (o:AObj)
def HE.ap:HE→Heap→Heap
 |.app t,h=>h++t
 |.set id o,h=>h.set id o
def Qv (P:Program) (h:Heap) (r:OR) (v:AV):Prop :=
 r=.val v h∨∃ f args,r=.call f args∧∀ h',zbn h h'→zap P f args h' (fun r h''=>r=.ret v∧h''=h')
def zuJ (P:Program) (H:Hints) (o:Oper) (hs:Heap) (v:AV) (E:HE) (A:AAct):Prop :=
 ∃ j sz z,za1 H o=.slot j sz∧zdP P A.eval o.op=some z∧z.cells.map (·.length)=some sz∧zen hs (hs.length-1-j)=true∧A.h[hs.length-1-j]?=some (.row sz []) ∧
  v=.ptr (hs.length-1-j) 1 0 0∧E=.set (hs.length-1-j) (.row sz [z])
def zCV (P:Program) (H:Hints) (o:Oper) (hs:Heap) (v:AV) (E:HE) (A:AAct):Prop :=
 za1 H o=.sto∧∃ T a x id ver i k ob,o.op=.store T a x∧A.eval a=.ptr id ver i k∧zen hs id=true∧zdK P T (.ptr id ver i k) (A.eval x) A.h=.skip (A.h.set id ob)∧v=.p (.tuple [])∧E=.set id ob
def zCX (P:Program) (H:Hints) (o:Oper) (v:AV) (E:HE) (A:AAct):Prop :=
 za1 H o=.nop∧v=.p (.tuple [])∧E=.app []∧∃ T a x,o.op=.store T a x∧zdK P T (A.eval a) (A.eval x) A.h=.skip A.h
def zC1 (P:Program) (H:Hints) (o:Oper) (hs:Heap) (v:AV) (E:HE) (A:AAct):Prop :=
 ∃ t,za1 H o=.app t∧((∃ l,E=.app l)∨∃ id ob,E=.set id ob∧zen hs id=true)∧aOp P (zaz H) o A.eval A.h=.val v (E.ap A.h)
def zCW (P:Program) (H:Hints) (o:Oper) (v:AV) (E:HE) (A:AAct):Prop :=
 za1 H o=.thr∧E=.app []∧∃ f args,aOp P (zaz H) o A.eval A.h=.call f args∧∀ h',zbn A.h h'→zap P f args h' (fun r h''=>r=.ret v∧h''=h')
def TS (P:Program) (H:Hints) (ops:Array Oper) (Q:Ex→AAct→Prop) (o:Oper) (A:AAct):Prop :=
 zaP ops A o=some true∧za1 H o=.thr∧∃ f args v,aOp P (zaz H) o A.eval A.h=.call f args∧zap P f args A.h (fun r h''=>r=.panic v∧h''=A.h)∧∀ T,Q (.panic v) { A with tmps:=T }
def QS (P:Program) (H:Hints) (ops:Array Oper) (o:Oper) (hs:Heap) (v:AV) (E:HE) (A:AAct):Prop :=
 (zaP ops A o=some false∧v=.p (.tuple [])∧E=.app []) ∨
 (zaP ops A o=some true ∧
  ((za1 H o=.quiet∧E=.app []∧Qv P A.h (aOp P (zaz H) o A.eval A.h) v) ∨
   (za1 H o=.low∧E=.app []∧Qv P hs (aOp P (zaz H) o A.eval hs) v) ∨
   (za1 H o=.alloc∧∃ t,E=.app t∧aOp P (zaz H) o A.eval A.h=.val v (A.h++t)) ∨
   zuJ P H o hs v E A∨zCV P H o hs v E A∨zCX P H o v E A∨zC1 P H o hs v E A∨zCW P H o v E A))
theorem zx9 {T:TypeId} {id ver i k:Nat} {y:AV} {h h':Heap} (e:zdK P T (.ptr id ver i k) y h=.skip h'):∃ ob,h'=h.set id ob:=by
 unfold zdK at e
 split at e
 ·rename_i n hx _
  split at e
  ·split at e
   ·split at e
    ·split at e
     ·cases hx;cases e;exact ⟨_,rfl⟩
     ·cases e
    ·cases e
   ·cases e
  ·cases e
 ·cases e
theorem zju {h:Heap} {K:AV→Prop} {r:OR}:quK P h K r↔∃ v,Qv P h r v∧K v:=by
 constructor
 ·intro k
  cases r<;>first | exact k.elim | skip
  case val v h'=>obtain ⟨rfl,k⟩:=k;exact ⟨v,.inl rfl,k⟩
  case call f args=>obtain ⟨v,k1,k2⟩:=k;exact ⟨v,.inr ⟨f,args,rfl,k1⟩,k2⟩
 ·rintro ⟨v,rfl | ⟨f,args,rfl,k1⟩,k2⟩
  ·exact ⟨rfl,k2⟩
  ·exact ⟨v,k1,k2⟩
theorem zfK {o:Oper} {K:Heap→AAct→Prop} {hs:Heap} {A:AAct} {v:AV} {E:HE} (q:QS P H ops o hs v E A) (k:K hs (A.put o.dst v (E.ap A.h))):zcs P H ops Q o K hs A:=by
 unfold zcs
 rcases q with ⟨hw,rfl,rfl⟩ | ⟨hw,q⟩
 ·rw [hw]
  refine ⟨fun h=>(by cases h),fun _=>?_⟩
  simpa [HE.ap] using k
 ·rw [hw]
  refine ⟨fun _=>?_,fun h=>(by cases h)⟩
  rcases q with ⟨hc,rfl,q⟩ | ⟨hc,rfl,q⟩ | ⟨hc,t,rfl,q⟩ | ⟨j,sz,z,hc,h1,h2,h3,h4,rfl,rfl⟩ | ⟨hc,T,a,x,id,ver,i,kk,ob,h1,h2,h3,h4,rfl,rfl⟩ | ⟨hc,rfl,rfl,T,a,x,h1,h2⟩ | ⟨t,hc,hE,hq⟩ | ⟨hc,rfl,f,args,h1,h2⟩
  ·rw [hc];exact zju.2 ⟨v,q,by simpa [HE.ap] using k⟩
  ·rw [hc];exact zju.2 ⟨v,q,by simpa [HE.ap] using k⟩
  ·rw [hc,q];exact ⟨⟨t,rfl⟩,k⟩
  ·rw [hc]
   refine (show zkg hs A.h j sz (fun v h=>K hs (A.put o.dst v h)) (zdP P A.eval o.op) from ?_)
   rw [h1]
   exact ⟨h2,h3,h4,k⟩
  ·rw [hc]
   refine (show zmt P hs A.h A.eval (fun h=>K hs (A.put o.dst (.p (.tuple [])) h)) o.op from ?_)
   rw [h1]
   show (match A.eval a with | .ptr id ver i o=>zen hs id=true∧zja _ (zdK P T (.ptr id ver i o) (A.eval x) A.h) | _=>False)
   rw [h2]
   refine ⟨h3,?_⟩
   rw [h4]
   exact k
  ·rw [hc]
   refine (show zmK P A.h A.eval (K hs (A.put o.dst (.p (.tuple [])) A.h)) o.op from ?_)
   rw [h1]
   exact ⟨h2,by simpa [HE.ap] using k⟩
  ·rw [hc,hq]
   refine ⟨?_,k⟩
   rcases hE with ⟨l,rfl⟩ | ⟨id,ob,rfl,hd⟩
   ·exact .inl ⟨l,rfl⟩
   ·exact .inr ⟨id,ob,rfl,hd⟩
  ·rw [hc,h1]
   exact .inl ⟨v,h2,by simpa [HE.ap] using k⟩
theorem zkv {o:Oper} {K:Heap→AAct→Prop} {hs:Heap} {A:AAct} (q:TS P H ops Q o A):zcs P H ops Q o K hs A:=by
 obtain ⟨hw,hc,f,args,v,h1,h2,h3⟩:=q
 unfold zcs
 rw [hw]
 refine ⟨fun _=>?_,fun h=>(by cases h)⟩
 rw [hc,h1]
 exact .inr ⟨v,h2,h3⟩
theorem zhp {o:Oper} {K:Heap→AAct→Prop} {hs:Heap} {A:AAct} (hc:za1 H o=.thr) (k:zcs P H ops Q o K hs A) :
  (∃ v E,QS P H ops o hs v E A∧K hs (A.put o.dst v (E.ap A.h)))∨TS P H ops Q o A:=by
 unfold zcs at k
 cases hw:zaP ops A o with
 |none=>rw [hw] at k;exact k.elim
 |some b =>
  rw [hw] at k
  cases b with
  |false=>exact .inl ⟨_,.app [],.inl ⟨hw,rfl,rfl⟩,by simpa [HE.ap] using k.2 rfl⟩
  |true =>
   have k1:=k.1 rfl
   rw [hc] at k1
   have k2:zom P Q A (fun v=>K hs (A.put o.dst v A.h)) (aOp P (zaz H) o A.eval A.h):=k1
   cases hr:aOp P (zaz H) o A.eval A.h<;>rw [hr] at k2<;>first | exact k2.elim | skip
   rename_i f args
   rcases k2 with ⟨v,h1,h2⟩ | ⟨v,h1,h2⟩
   ·exact .inl ⟨v,.app [],.inr ⟨hw,.inr (.inr (.inr (.inr (.inr (.inr (.inr ⟨hc,rfl,f,args,hr,h1⟩))))))⟩,by simpa [HE.ap] using h2⟩
   ·exact .inr ⟨hw,hc,f,args,v,hr,h1,h2⟩
theorem zzN {hs:Heap} {A:AAct} {K K':AV→Heap→Prop} {r:OR} (hk:∀ v h,K v h→K' v h) (k:zj0 P H Q hs A K r):zj0 P H Q hs A K' r:=by
 cases r<;>first | exact k.elim | skip
 intro M0 m w cargs hS ha
 obtain ⟨h1,h2⟩:=k M0 m w cargs hS ha
 refine ⟨h1,h2.mono fun _ _ hb=>?_⟩
 obtain ⟨r,h',m',hR,rest⟩:=hb
 exact ⟨r,h',m',by cases r<;>first | exact ⟨hR.1,hk _ _ hR.2⟩ | exact hR,rest⟩
theorem zhV {o:Oper} {K:Heap→AAct→Prop} {hs:Heap} {A:AAct} (hc:za1 H o=.cal) (k:zcs P H ops Q o K hs A) :
  (∃ v E,QS P H ops o hs v E A∧K hs (A.put o.dst v (E.ap A.h)))∨(zaP ops A o=some true∧zj0 P H Q hs A (fun v h=>K hs (A.put o.dst v h)) (aOp P (zaz H) o A.eval A.h)):=by
 unfold zcs at k
 cases hw:zaP ops A o with
 |none=>rw [hw] at k;exact k.elim
 |some b =>
  rw [hw] at k
  cases b with
  |false=>exact .inl ⟨_,.app [],.inl ⟨hw,rfl,rfl⟩,by simpa [HE.ap] using k.2 rfl⟩
  |true =>
   have k1:=k.1 rfl
   rw [hc] at k1
   exact .inr ⟨rfl,k1⟩
theorem zmu {o:Oper} {K:Heap→AAct→Prop} {hs:Heap} {A:AAct} (hc:za1 H o=.cal) (hw:zaP ops A o=some true) (k:zj0 P H Q hs A (fun v h=>K hs (A.put o.dst v h)) (aOp P (zaz H) o A.eval A.h)):zcs P H ops Q o K hs A:=by
 unfold zcs
 rw [hw]
 refine ⟨fun _=>?_,fun h=>(by cases h)⟩
 rw [hc]
 exact k
theorem ziu {o:Oper} {K:Heap→AAct→Prop} {hs:Heap} {A:AAct} (hb:(za1 H o≠.bar∧za1 H o≠.thr∧za1 H o≠.cal)∨zaP ops A o=some false) (k:zcs P H ops Q o K hs A) :
  ∃ v E,QS P H ops o hs v E A∧K hs (A.put o.dst v (E.ap A.h)):=by
 unfold zcs at k
 cases hw:zaP ops A o with
 |none=>rw [hw] at k;exact k.elim
 |some b =>
  rw [hw] at k
  cases b with
  |false=>exact ⟨_,.app [],.inl ⟨hw,rfl,rfl⟩,by simpa [HE.ap] using k.2 rfl⟩
  |true =>
   have k1:=k.1 rfl
   cases hc:za1 H o with
   |bar =>
    rcases hb with hb | hb
    ·exact absurd hc hb.1
    ·rw [hw] at hb;cases hb
   |thr =>
    rcases hb with hb | hb
    ·exact absurd hc hb.2.1
    ·rw [hw] at hb;cases hb
   |cal =>
    rcases hb with hb | hb
    ·exact absurd hc hb.2.2
    ·rw [hw] at hb;cases hb
   |alloc =>
    rw [hc] at k1
    cases hr:aOp P (zaz H) o A.eval A.h<;>rw [hr] at k1<;>first | exact k1.elim | skip
    rename_i v h'
    obtain ⟨⟨t,rfl⟩,k2⟩:=k1
    exact ⟨v,.app t,.inr ⟨hw,.inr (.inr (.inl ⟨hc,t,rfl,hr⟩))⟩,k2⟩
   |quiet =>
    rw [hc] at k1
    obtain ⟨v,q,k2⟩:=zju.1 k1
    exact ⟨v,.app [],.inr ⟨hw,.inl ⟨hc,rfl,q⟩⟩,by simpa [HE.ap] using k2⟩
   |low =>
    rw [hc] at k1
    obtain ⟨v,q,k2⟩:=zju.1 k1
    exact ⟨v,.app [],.inr ⟨hw,.inr (.inl ⟨hc,rfl,q⟩)⟩,by simpa [HE.ap] using k2⟩
   |slot j sz =>
    rw [hc] at k1
    have k2:zkg hs A.h j sz (fun v h=>K hs (A.put o.dst v h)) (zdP P A.eval o.op):=k1
    cases hz:zdP P A.eval o.op with
    |none=>rw [hz] at k2;exact k2.elim
    |some z =>
     rw [hz] at k2
     obtain ⟨h1,h2,h3,k3⟩:=k2
     exact ⟨_,.set _ _,.inr ⟨hw,.inr (.inr (.inr (.inl ⟨j,sz,z,hc,hz,h1,h2,h3,rfl,rfl⟩)))⟩,k3⟩
   |sto =>
    rw [hc] at k1
    have k2:zmt P hs A.h A.eval (fun h=>K hs (A.put o.dst (.p (.tuple [])) h)) o.op:=k1
    unfold zmt at k2
    split at k2
    ·rename_i T a x hop
     split at k2
     ·rename_i id ver i kk ha
      obtain ⟨h1,k3⟩:=k2
      unfold zja at k3
      split at k3
      ·rename_i h' hst
       obtain ⟨ob,rfl⟩:=zx9 hst
       exact ⟨_,.set id ob,.inr ⟨hw,.inr (.inr (.inr (.inr (.inl ⟨hc,T,a,x,id,ver,i,kk,ob,hop,ha,h1,hst,rfl,rfl⟩))))⟩,k3⟩
      ·exact k3.elim
     ·exact k2.elim
    ·exact k2.elim
   |nop =>
    rw [hc] at k1
    have k2:zmK P A.h A.eval (K hs (A.put o.dst (.p (.tuple [])) A.h)) o.op:=k1
    unfold zmK at k2
    split at k2
    ·rename_i T a x hop
     exact ⟨_,.app [],.inr ⟨hw,.inr (.inr (.inr (.inr (.inr (.inl ⟨hc,rfl,rfl,T,a,x,hop,k2.1⟩)))))⟩,by simpa [HE.ap] using k2.2⟩
    ·exact k2.elim
   |app t =>
    rw [hc] at k1
    have k2:zoS hs A.h (fun v h=>K hs (A.put o.dst v h)) (aOp P (zaz H) o A.eval A.h):=k1
    cases hr:aOp P (zaz H) o A.eval A.h<;>rw [hr] at k2<;>first | exact k2.elim | skip
    rename_i v h'
    obtain ⟨⟨l,rfl⟩ | ⟨id,ob,rfl,hd⟩,k3⟩:=k2
    ·exact ⟨v,.app l,.inr ⟨hw,.inr (.inr (.inr (.inr (.inr (.inr (.inl ⟨t,hc,.inl ⟨l,rfl⟩,hr⟩))))))⟩,k3⟩
    ·exact ⟨v,.set id ob,.inr ⟨hw,.inr (.inr (.inr (.inr (.inr (.inr (.inl ⟨t,hc,.inr ⟨id,ob,rfl,hd⟩,hr⟩))))))⟩,k3⟩
theorem zh9 {A:AAct} {dst:Option Tmp} {K K':AAct→Prop} {r:OR} (h:∀ B,K B→K' B) (k:orK P A dst K Q r):orK P A dst K' Q r:=by
 cases r with
 |val v h'=>exact h _ k
 |skip h'=>exact h _ k
 |call f args =>
  intro M0 m w cargs hS ha
  obtain ⟨h1,h2⟩:=k M0 m w cargs hS ha
  refine ⟨h1,h2.mono fun _ _ hb=>?_⟩
  obtain ⟨r,h',m',hR,rest⟩:=hb
  exact ⟨r,h',m',by cases r<;>first | exact h _ hR | exact hR,rest⟩
 |yld l args =>
  refine ⟨k.1,fun M0 m w cargs bl hS ha hbl=>?_⟩
  obtain ⟨f,tmps,as,bd,h1,h2⟩:=k.2 M0 m w cargs bl hS ha hbl
  refine ⟨f,tmps,as,bd,h1,fun c cs=>?_⟩
  obtain ⟨e,w',⟨r,h',m',hR,rest⟩,hs⟩:=h2 c cs
  exact ⟨e,w',⟨r,h',m',by cases r<;>first | exact h _ hR | exact hR,rest⟩,hs⟩
 |dfr d =>
  simp only [orK] at k ⊢
  have gen:∀ {X Y:Prop} {c:Rc},(X→Y)→zl3 X c→zl3 Y c:=fun hx hc=>by
   rename_i c
   cases c<;>first | exact False.elim hc | exact hx hc
  exact gen (h _) k
 |recover =>
  simp only [orK] at k ⊢
  have gen:∀ {X Y:AAct→PV→Prop} {c:Rc},(∀ B v,X B v→Y B v)→zAK A X c→zAK A Y c:=fun hx hc=>by
   rename_i c
   cases c<;>first | exact False.elim hc | exact hx _ _ hc
  exact gen (fun _ _=>h _) k
 |panic v=>exact k
 |stuck=>exact k
theorem zo8 {o:Oper} {K K':Heap→AAct→Prop} {hs:Heap} {A:AAct} (h:∀ hs A,K hs A→K' hs A) (k:zcs P H ops Q o K hs A):zcs P H ops Q o K' hs A:=by
 by_cases ht:za1 H o=.thr
 ·rcases zhp ht k with ⟨v,E,q,k1⟩ | q
  ·exact zfK q (h _ _ k1)
  ·exact zkv q
 by_cases hcl:za1 H o=.cal
 ·rcases zhV hcl k with ⟨v,E,q,k1⟩ | ⟨hw,k1⟩
  ·exact zfK q (h _ _ k1)
  ·exact zmu hcl hw (zzN (fun v h' hk=>h _ _ hk) k1)
 by_cases hb:za1 H o≠.bar∨zaP ops A o=some false
 ·obtain ⟨v,E,q,k1⟩:=ziu (hb.imp (fun h=>⟨h,ht,hcl⟩) id) k
  exact zfK q (h _ _ k1)
 ·have hb1:za1 H o=.bar:=Classical.byContradiction fun hn=>hb (.inl hn)
  unfold zcs at k ⊢
  cases hw:zaP ops A o with
  |none=>rw [hw] at k;exact k.elim
  |some b =>
   rw [hw,hb1] at k
   rw [hb1]
   cases b with
   |false=>exact absurd (.inr hw) hb
   |true =>
    have k1:orK P A o.dst (fun B=>K B.h B) Q (aOp P (zaz H) o A.eval A.h):=k.1 rfl
    exact ⟨fun _=>zh9 (K':=fun B=>K' B.h B) (fun B=>h B.h B) k1,fun h=>(by cases h)⟩
theorem zxH {o:Oper} (h:za1 H o=.quiet):zcx o.op=true:=by
 unfold za1 at h
 split at h
 ·unfold zlu at h
  split at h
  ·split at h<;>cases h
  ·cases h
 ·split at h
  ·split at h
   ·cases h
   ·split at h
    ·assumption
    ·cases h
  ·cases h
  ·split at h<;>cases h
  ·split at h<;>cases h
  ·split at h<;>cases h
  ·split at h<;>cases h
  ·split at h<;>cases h
  ·cases h
theorem zBs {o:Oper} (h:za1 H o=.low):zcx o.op=true:=by
 unfold za1 at h
 split at h
 ·unfold zlu at h
  split at h
  ·split at h<;>cases h
  ·cases h
 ·split at h
  ·split at h
   ·cases h
   ·split at h<;>cases h
  ·cases h
  ·split at h
   ·assumption
   ·cases h
  ·split at h<;>cases h
  ·split at h<;>cases h
  ·split at h<;>cases h
  ·split at h<;>cases h
  ·cases h
theorem zzB {o:Oper} {j sz:Nat} (h:za1 H o=.slot j sz):zoH o.op=true:=by
 unfold za1 at h
 split at h
 ·unfold zlu at h
  split at h
  ·split at h<;>cases h
  ·cases h
 ·split at h
  ·split at h
   ·cases h
   ·split at h<;>cases h
  ·cases h
  ·split at h<;>cases h
  ·split at h
   ·assumption
   ·cases h
  ·split at h<;>cases h
  ·split at h<;>cases h
  ·split at h<;>cases h
  ·cases h
theorem zi0 {e e':Operand→AV} {o:Oper} (he:∀ x∈o.op.operands,e x=e' x):zdP P e o.op=zdP P e' o.op:=by
 unfold zdP
 split
 ·rfl
 ·rename_i T x hop
  rw [he x (by rw [hop];simp [Op.operands])]
 ·rfl
theorem zgy {A:AAct} {dst:Option Tmp} {v:AV} {h:Heap} {o:Oper} (hd:∀ d,dst=some d→d∉o.looksAt ops):∀ x∈o.op.operands,(A.put dst v h).eval x=A.eval x:=by
 intro x hx
 refine zBn fun d hd' hxd=>hd d hd' ?_
 subst hxd
 exact List.mem_append_left _ (List.mem_filterMap.2 ⟨.tmp d,by simpa using hx,rfl⟩)
theorem QS.same {o:Oper} {hs:Heap} {v:AV} {E:HE} {A B:AAct} (q:QS P H ops o hs v E A) (hw:zaP ops B o=zaP ops A o) (he:∀ x∈o.op.operands,B.eval x=A.eval x) (hh:B.h=A.h):QS P H ops o hs v E B:=by
 have hop:∀ h,aOp P (zaz H) o B.eval h=aOp P (zaz H) o A.eval h:=fun h=>zgn o he
 unfold QS zuJ zCV zCX zC1 zCW at *
 rw [hw,hh,zi0 he]
 simp only [hop]
 rcases q with q | ⟨q1,q | q | q | q | ⟨hc,T,a,x,id,ver,i,kk,ob,h1,h2,h3,h4,h5⟩ | ⟨hc,h1,h2,T,a,x,h3,h4⟩ | q⟩
 ·exact .inl q
 ·exact .inr ⟨q1,.inl q⟩
 ·exact .inr ⟨q1,.inr (.inl q)⟩
 ·exact .inr ⟨q1,.inr (.inr (.inl q))⟩
 ·exact .inr ⟨q1,.inr (.inr (.inr (.inl q)))⟩
 ·refine .inr ⟨q1,.inr (.inr (.inr (.inr (.inl ⟨hc,T,a,x,id,ver,i,kk,ob,h1,?_,h3,?_,h5⟩))))⟩
  ·rw [he a (by rw [h1];simp [Op.operands])];exact h2
  ·rw [he x (by rw [h1];simp [Op.operands])];exact h4
 ·refine .inr ⟨q1,.inr (.inr (.inr (.inr (.inr (.inl ⟨hc,h1,h2,T,a,x,h3,?_⟩)))))⟩
  rw [he a (by rw [h3];simp [Op.operands]),he x (by rw [h3];simp [Op.operands])];exact h4
 ·exact .inr ⟨q1,.inr (.inr (.inr (.inr (.inr (.inr q)))))⟩
theorem zEb {o o':Oper} {hs:Heap} {v:AV} {E:HE} {A:AAct} {K:Heap→AAct→Prop} (hp:ziH H ops o o'=true) (q:QS P H ops o hs v E A)
  (k:zcs P H ops Q o' K hs (A.put o.dst v (E.ap A.h))):zcs P H ops Q o' (fun hs' A'=>QS P H ops o hs' v E A'∧K hs' (A'.put o.dst v (E.ap A'.h))) hs A:=by
 unfold ziH at hp
 simp only [Bool.and_eq_true] at hp
 obtain ⟨hall,hap,hkp⟩:=hp
 obtain ⟨a1,a2,a3⟩:=Oper.apart_spec hap
 have hb2:za1 H o'≠.bar:=by
  intro hb
  have hall':∀ c,zf9 c .bar=false:=by intro c;cases c<;>rfl
  rw [hb,hall'] at hall
  simp [zji] at hall
 by_cases hcl:za1 H o'=.cal∧zaP ops (A.put o.dst v (E.ap A.h)) o'=some true
 ·obtain ⟨hcl,hwt⟩:=hcl
  have hlow:za1 H o=.low:=by
   rw [hcl] at hall
   cases hc:za1 H o<;>rw [hc] at hall<;>first | rfl | (simp [zf9,znF,zji] at hall)
  have hE:E=.app []∧∀ A',zaP ops A' o=zaP ops A o→(∀ x∈o.op.operands,A'.eval x=A.eval x)→QS P H ops o hs v E A':=by
   rcases q with ⟨hw,hv,hE⟩ | ⟨hw,⟨hc',_⟩ | ⟨hc',hE,hq⟩ | ⟨hc',_⟩ | ⟨_,_,_,hc',_⟩ | ⟨hc',_⟩ | ⟨hc',_⟩ | ⟨_,hc',_⟩ | ⟨hc',_⟩⟩
   ·exact ⟨hE,fun A' h1 _=>.inl ⟨h1.trans hw,hv,hE⟩⟩
   ·rw [hlow] at hc';cases hc'
   ·refine ⟨hE,fun A' h1 h2=>.inr ⟨h1.trans hw,.inr (.inl ⟨hc',hE,?_⟩)⟩⟩
    rw [zgn o h2];exact hq
   all_goals (rw [hlow] at hc';cases hc')
  obtain ⟨rfl,hqs⟩:=hE
  rcases zhV hcl k with ⟨v',E',q',k'⟩ | ⟨_,kc⟩
  ·rcases q' with ⟨hw',_⟩ | ⟨_,⟨hc',_⟩ | ⟨hc',_⟩ | ⟨hc',_⟩ | ⟨_,_,_,hc',_⟩ | ⟨hc',_⟩ | ⟨hc',_⟩ | ⟨_,hc',_⟩ | ⟨hc',_⟩⟩
   ·rw [hwt] at hw';cases hw'
   all_goals (rw [hcl] at hc';cases hc')
  ·have e1:(A.put o.dst v (HE.ap (.app []) A.h)).h=A.h:=by rw [zeE];simp [HE.ap]
   have e2:aOp P (zaz H) o' (A.put o.dst v (HE.ap (.app []) A.h)).eval A.h=aOp P (zaz H) o' A.eval A.h:=zgn o' (zgy a1)
   refine zmu hcl ((zfO a1).symm.trans hwt) ?_
   rw [e1,e2] at kc
   cases hr:aOp P (zaz H) o' A.eval A.h<;>rw [hr] at kc<;>first | exact kc.elim | skip
   rename_i f args
   have kc2:zap P f args A.h (zqH (fun u h=>zbn hs h∧K hs ((A.put o.dst v (HE.ap (.app []) A.h)).put o'.dst u h)) (fun u h=>∀ T,kept H T (A.put o.dst v (HE.ap (.app []) A.h)).tmps→Q (.panic u) { A.put o.dst v (HE.ap (.app []) A.h) with tmps:=T,h:=h })):=by
    have:zap P f args (A.put o.dst v (HE.ap (.app []) A.h)).h (zqH (fun u h=>zbn hs h∧K hs ((A.put o.dst v (HE.ap (.app []) A.h)).put o'.dst u h)) (fun u h=>∀ T,kept H T (A.put o.dst v (HE.ap (.app []) A.h)).tmps→Q (.panic u) { A.put o.dst v (HE.ap (.app []) A.h) with tmps:=T,h:=h })):=kc
    rw [e1] at this
    exact this
   intro M0 m w cargs hS ha
   obtain ⟨h1,h2⟩:=kc2 M0 m w cargs hS ha
   refine ⟨h1,h2.mono fun _ _ hb=>?_⟩
   obtain ⟨r,h',m',hR,rest⟩:=hb
   refine ⟨r,h',m',?_,rest⟩
   cases r with
   |ret u =>
    refine ⟨hR.1,hqs _ (zfO a3) (zgy a3),?_⟩
    have e3:HE.ap (.app []) (A.put o'.dst u h').h=h':=by rw [zeE];simp [HE.ap]
    rw [e3,←zs3 A v u (HE.ap (.app []) A.h) h' h' a2]
    exact hR.2
   |panic u =>
    intro T hT
    have:=hR T (fun t ht=>by
     rw [hT t ht]
     unfold zCM at hkp
     rw [hcl] at hkp
     cases hd:o.dst with
     |none=>rfl
     |some d =>
      rw [hd] at hkp
      have hne:t≠d:=by
       rintro rfl
       simp [ht] at hkp
      simp [AAct.put,upd,hne])
    have e:({ A.put o.dst v (HE.ap (.app []) A.h) with tmps:=T,h:=h' }:AAct)={ A with tmps:=T,h:=h' }:=by
     cases o.dst<;>simp [AAct.put]
    rw [e] at this
    exact this
 have hcase:(∃ v' E',QS P H ops o' hs v' E' (A.put o.dst v (E.ap A.h))∧K hs ((A.put o.dst v (E.ap A.h)).put o'.dst v' (E'.ap (A.put o.dst v (E.ap A.h)).h)))∨(TS P H ops Q o' (A.put o.dst v (E.ap A.h))∧E=.app []):=by
  by_cases ht:za1 H o'=.thr
  ·rcases zhp ht k with h | h
   ·exact .inl h
   ·refine .inr ⟨h,?_⟩
    rw [ht] at hall
    rcases q with ⟨_,_,h⟩ | ⟨_,⟨_,h,_⟩ | ⟨_,h,_⟩ | ⟨hc',_⟩ | ⟨_,_,_,hc',_⟩ | ⟨hc',_⟩ | ⟨hc',_⟩ | ⟨_,hc',_⟩ | ⟨hc',_⟩⟩
    ·exact h
    ·exact h
    ·exact h
    all_goals (rw [hc'] at hall;simp [zf9,znF,zji] at hall)
  ·by_cases hcl2:za1 H o'=.cal
   ·rcases zhV hcl2 k with h | ⟨h,_⟩
    ·exact .inl h
    ·exact absurd ⟨hcl2,h⟩ hcl
   ·exact .inl (ziu (.inl ⟨hb2,ht,hcl2⟩) k)
 rcases hcase with ⟨v',E',q',k'⟩ | ⟨⟨tw,tc,f,args,u,t1,t2,t3⟩,rfl⟩
 rotate_left
 ·refine zkv ⟨(zfO a1).symm.trans tw,tc,f,args,u,?_,?_,fun T=>?_⟩
  ·rw [←t1,zeE]
   simp only [HE.ap,List.append_nil]
   exact (zgn o' (zgy a1)).symm
  ·rw [zeE] at t2
   simpa [HE.ap] using t2
  ·have:=t3 T
   have e:({ A.put o.dst v (HE.ap (.app []) A.h) with tmps:=T }:AAct)={ A with tmps:=T }:=by
    cases o.dst<;>simp [AAct.put,HE.ap]
   rw [e] at this
   exact this
 have hput:(A.put o.dst v (E.ap A.h)).h=E.ap A.h:=zeE _ _ _ _
 have hput':(A.put o'.dst v' (E'.ap A.h)).h=E'.ap A.h:=zeE _ _ _ _
 have ee:∀ x∈o'.op.operands,(A.put o.dst v (E.ap A.h)).eval x=A.eval x:=zgy a1
 have ew:zaP ops (A.put o.dst v (E.ap A.h)) o'=zaP ops A o':=zfO a1
 have ee':∀ x∈o.op.operands,(A.put o'.dst v' (E'.ap A.h)).eval x=A.eval x:=zgy a3
 have ew':zaP ops (A.put o'.dst v' (E'.ap A.h)) o=zaP ops A o:=zfO a3
 have hop:∀ h,aOp P (zaz H) o' (A.put o.dst v (E.ap A.h)).eval h=aOp P (zaz H) o' A.eval h:=fun h=>zgn o' ee
 have hop':∀ h,aOp P (zaz H) o (A.put o'.dst v' (E'.ap A.h)).eval h=aOp P (zaz H) o A.eval h:=fun h=>zgn o ee'
 have fin:QS P H ops o' hs v' E' A→QS P H ops o hs v E (A.put o'.dst v' (E'.ap A.h))→E.ap (E'.ap A.h)=E'.ap (E.ap A.h) →
   zcs P H ops Q o' (fun hs' A'=>QS P H ops o hs' v E A'∧K hs' (A'.put o.dst v (E.ap A'.h))) hs A:=by
  intro qA qB hEE
  refine zfK qA ⟨qB,?_⟩
  rw [hput']
  rw [hput] at k'
  have:(A.put o'.dst v' (E'.ap A.h)).put o.dst v (E.ap (E'.ap A.h))=(A.put o.dst v (E.ap A.h)).put o'.dst v' (E'.ap (E.ap A.h)):=by
   rw [hEE]
   exact (zs3 A v v' _ _ _ a2).symm
  rw [this]
  exact k'
 have still:E=.app []→QS P H ops o' hs v' E' A:=fun hE=>by
  refine q'.same ew.symm (fun x hx=>(ee x hx).symm) ?_
  rw [hput,hE];simp [HE.ap]
 have still':E'=.app []→QS P H ops o hs v E (A.put o'.dst v' (E'.ap A.h)):=fun hE=>by
  refine q.same ew' ee' ?_
  rw [hput',hE];simp [HE.ap]
 have lowA:(zaP ops A o'=some false∧v'=.p (.tuple [])∧E'=.app [])∨(zaP ops A o'=some true∧za1 H o'=.low∧E'=.app []∧Qv P hs (aOp P (zaz H) o' A.eval hs) v') →
   zcs P H ops Q o' (fun hs' A'=>QS P H ops o hs' v E A'∧K hs' (A'.put o.dst v (E.ap A'.h))) hs A:=by
  rintro (⟨hw,hv,hE⟩ | ⟨hw,hc,hE,hq⟩)
  ·exact fin (.inl ⟨hw,hv,hE⟩) (still' hE) (by rw [hE];simp [HE.ap])
  ·exact fin (.inr ⟨hw,.inr (.inl ⟨hc,hE,hq⟩)⟩) (still' hE) (by rw [hE];simp [HE.ap])
 have q0:=q'
 unfold QS at q'
 rw [ew] at q'
 simp only [hop] at q'
 have q1:=q
 rcases q with ⟨hw,rfl,rfl⟩ | ⟨hw,⟨hc,rfl,hq⟩ | ⟨hc,rfl,hq⟩ | ⟨hc,t,rfl,hq⟩ | hsl | hst | hnp | hap' | hret⟩
 ·exact fin (still rfl) (.inl ⟨ew'.trans hw,rfl,rfl⟩) (by simp [HE.ap])
 ·have happ:∃ t',E'=.app t':=by
   rcases q' with ⟨_,_,h⟩ | ⟨_,⟨_,h,_⟩ | ⟨_,h,_⟩ | ⟨_,t',h,_⟩ | ⟨_,_,_,hc',_⟩ | ⟨hc',_⟩ | ⟨_,_,h,_⟩ | ⟨_,hc',_⟩ | ⟨hc',hE',_⟩⟩
   ·exact ⟨_,h⟩
   ·exact ⟨_,h⟩
   ·exact ⟨_,h⟩
   ·exact ⟨t',h⟩
   ·rw [hc,hc'] at hall;cases hall
   ·rw [hc,hc'] at hall;cases hall
   ·exact ⟨_,h⟩
   ·rw [hc,hc'] at hall;cases hall
   ·exact ⟨_,hE'⟩
  obtain ⟨t',rfl⟩:=happ
  refine fin (still rfl) (.inr ⟨ew'.trans hw,.inl ⟨hc,rfl,?_⟩⟩) (by simp [HE.ap])
  rw [hput',hop']
  have hpre:=zyT (P:=P) (mu:=zaz H) (o:=o) A.eval (zxH hc) A.h (A.h++t') (zbn.app _ _)
  rcases hq with hq | ⟨f,args,hq,hcall⟩
  ·exact .inl (hpre.1 _ hq)
  ·exact .inr ⟨f,args,hpre.2 _ _ hq,fun h' hs'=>hcall h' ((zbn.app _ _).trans hs')⟩
 ·exact fin (still rfl) (.inr ⟨ew'.trans hw,.inr (.inl ⟨hc,rfl,by rw [hop'];exact hq⟩)⟩) (by simp [HE.ap])
 ·rcases q' with h | ⟨hw',⟨hc',_⟩ | h | ⟨hc',_⟩ | ⟨_,_,_,hc',_⟩ | ⟨hc',_⟩ | ⟨hc',_⟩ | ⟨_,hc',_⟩ | ⟨hc',hE',_⟩⟩
  ·exact lowA (.inl h)
  ·rw [hc,hc'] at hall;cases hall
  ·exact lowA (.inr ⟨hw',h⟩)
  ·rw [hc,hc'] at hall;cases hall
  ·rw [hc,hc'] at hall;cases hall
  ·rw [hc,hc'] at hall;cases hall
  ·rw [hc,hc'] at hall;cases hall
  ·rw [hc,hc'] at hall;cases hall
  ·rw [hc,hc'] at hall;cases hall
 ·obtain ⟨j,sz,z,hc,h1,h2,h3,h4,rfl,rfl⟩:=hsl
  rcases q' with h | ⟨hw',⟨hc',_⟩ | h | ⟨hc',_⟩ | ⟨j',sz',z',hc',g1,g2,g3,g4,rfl,rfl⟩ | ⟨hc',_⟩ | ⟨hc',_⟩ | ⟨_,hc',_⟩ | ⟨hc',hE',_⟩⟩
  ·exact lowA (.inl h)
  ·rw [hc,hc'] at hall;cases hall
  ·exact lowA (.inr ⟨hw',h⟩)
  ·rw [hc,hc'] at hall;cases hall
  ·rw [hput] at g4
   have hne:hs.length-1-j≠hs.length-1-j':=by
    intro e
    have hlt:=(List.getElem?_eq_some_iff.1 h4).1
    have g5:(A.h.set (hs.length-1-j) (.row sz [z]))[hs.length-1-j']?=some (.row sz' []):=g4
    rw [←e,List.getElem?_set_self hlt] at g5
    cases g5
   have g5:A.h[hs.length-1-j']?=some (.row sz' []):=by
    have:(A.h.set (hs.length-1-j) (.row sz [z]))[hs.length-1-j']?=some (.row sz' []):=g4
    rwa [List.getElem?_set_ne hne] at this
   refine fin (.inr ⟨hw',.inr (.inr (.inr (.inl ⟨j',sz',z',hc',?_,g2,g3,g5,rfl,rfl⟩)))⟩) (.inr ⟨ew'.trans hw,.inr (.inr (.inr (.inl ⟨j,sz,z,hc,?_,h2,h3,?_,rfl,rfl⟩)))⟩) ?_
   ·rw [←zi0 ee];exact g1
   ·rw [zi0 ee'];exact h1
   ·rw [hput']
    show (A.h.set (hs.length-1-j') (.row sz' [z']))[hs.length-1-j]?=_
    rw [List.getElem?_set_ne (Ne.symm hne)]
    exact h4
   ·exact List.set_comm _ _ (Ne.symm hne)
  ·rw [hc,hc'] at hall;cases hall
  ·rw [hc,hc'] at hall;cases hall
  ·rw [hc,hc'] at hall;cases hall
  ·rw [hc,hc'] at hall;cases hall
 ·have hc:=hst.1
  rcases q' with h | ⟨hw',⟨hc',_⟩ | h | ⟨hc',_⟩ | ⟨_,_,_,hc',_⟩ | ⟨hc',_⟩ | ⟨hc',_⟩ | ⟨_,hc',_⟩ | ⟨hc',hE',_⟩⟩
  ·exact lowA (.inl h)
  ·rw [hc,hc'] at hall;cases hall
  ·exact lowA (.inr ⟨hw',h⟩)
  ·rw [hc,hc'] at hall;cases hall
  ·rw [hc,hc'] at hall;cases hall
  ·rw [hc,hc'] at hall;cases hall
  ·rw [hc,hc'] at hall;cases hall
  ·rw [hc,hc'] at hall;cases hall
  ·rw [hc,hc'] at hall;cases hall
 ·obtain ⟨hc,rfl,rfl,T,a,x,h1,h2⟩:=hnp
  have hE':E'=.app []:=by
   rcases q' with ⟨_,_,h⟩ | ⟨_,⟨_,h,_⟩ | ⟨_,h,_⟩ | ⟨hc',_⟩ | ⟨_,_,_,hc',_⟩ | ⟨hc',_⟩ | ⟨_,_,h,_⟩ | ⟨_,hc',_⟩ | ⟨hc',_,_⟩⟩
   ·exact h
   ·exact h
   ·exact h
   ·rw [hc,hc'] at hall;cases hall
   ·rw [hc,hc'] at hall;cases hall
   ·rw [hc,hc'] at hall;cases hall
   ·exact h
   ·rw [hc,hc'] at hall;cases hall
   ·rw [hc,hc'] at hall;cases hall
  exact fin (still rfl) (still' hE') (by rw [hE'])
 ·obtain ⟨t,hc,_⟩:=hap'
  rcases q' with h | ⟨hw',⟨hc',_⟩ | h | ⟨hc',_⟩ | ⟨_,_,_,hc',_⟩ | ⟨hc',_⟩ | ⟨hc',_⟩ | ⟨_,hc',_⟩ | ⟨hc',hE',_⟩⟩
  ·exact lowA (.inl h)
  ·rw [hc,hc'] at hall;cases hall
  ·exact lowA (.inr ⟨hw',h⟩)
  all_goals (rw [hc,hc'] at hall;cases hall)
 ·obtain ⟨hc,rfl,hrest⟩:=hret
  have hE':E'=.app []:=by
   rcases q' with ⟨_,_,h⟩ | ⟨_,⟨_,h,_⟩ | ⟨_,h,_⟩ | ⟨hc',_⟩ | ⟨_,_,_,hc',_⟩ | ⟨hc',_⟩ | ⟨_,_,h,_⟩ | ⟨_,hc',_⟩ | ⟨_,h,_⟩⟩
   ·exact h
   ·exact h
   ·exact h
   ·rw [hc,hc'] at hall;simp [zf9,zji] at hall
   ·rw [hc,hc'] at hall;simp [zf9,zji] at hall
   ·rw [hc,hc'] at hall;simp [zf9,zji] at hall
   ·exact h
   ·rw [hc,hc'] at hall;simp [zf9,zji] at hall
   ·exact h
  exact fin (still rfl) (still' hE') (by rw [hE'])
end Abs
end Go.Proofs.YtahlnclapingiaaGreatDoor
namespace Go.Proofs.YtahlnclapingiaaGreatDoor
namespace Abs
variable {P:Program} {H:Hints} {ops:Array Oper} {Q:Ex→AAct→Prop}
def zmc (acc:Array Nat) (o:Oper):Array Nat:=acc.push (o.after.foldl (fun s e=>if Region.binds .any e then s||| 2^e.on||| acc.getD e.on 0 else s) 0)
def zjC (p:List Oper) (acc:Array Nat):Prop :=
 acc.size=p.length∧∀ j i,(acc.getD j 0).testBit i=true→∃ o,p[j]?=some o∧∃ e,e∈o.after∧Region.binds .any e=true∧(i=e.on∨(e.on<j∧(acc.getD e.on 0).testBit i=true))
theorem zpN (acc:Array Nat) (i:Nat):∀ (l:List Edge) (s:Nat),(l.foldl (fun s e=>if Region.binds .any e then s||| 2^e.on||| acc.getD e.on 0 else s) s).testBit i=true →
  s.testBit i=true∨∃ e,e∈l∧Region.binds .any e=true∧(i=e.on∨(acc.getD e.on 0).testBit i=true)
 |[],s,h=>.inl h
 |e::l,s,h=>by
  simp only [List.foldl_cons] at h
  rcases zpN acc i l _ h with h | ⟨e',h1,h2⟩
  ·by_cases hb:Region.binds .any e=true
   ·simp only [hb,if_true,Nat.testBit_or,Bool.or_eq_true] at h
    rcases h with (h | h) | h
    ·exact .inl h
    ·refine .inr ⟨e,by simp,hb,.inl ?_⟩
     rw [Nat.testBit_two_pow] at h
     exact (of_decide_eq_true h).symm
    ·exact .inr ⟨e,by simp,hb,.inr h⟩
   ·simp only [hb,if_false,Bool.false_eq_true] at h
    exact .inl h
  ·exact .inr ⟨e',by simp [h1],h2⟩
theorem zz7 {p:List Oper} {acc:Array Nat} (h:zjC p acc) (o:Oper):zjC (p++[o]) (zmc acc o):=by
 obtain ⟨h1,h2⟩:=h
 refine ⟨by simp [zmc,h1],fun j i hj=>?_⟩
 have low:∀ k,k<acc.size→(zmc acc o).getD k 0=acc.getD k 0:=by
  intro k hk
  simp [zmc,Array.getD_eq_getD_getElem?,Array.getElem?_push,Nat.ne_of_lt hk]
 rcases Nat.lt_trichotomy j acc.size with hlt | heq | hgt
 ·rw [low j hlt] at hj
  obtain ⟨o',h3,e,h4,h5,h6⟩:=h2 j i hj
  refine ⟨o',by rw [List.getElem?_append_left (by omega)];exact h3,e,h4,h5,?_⟩
  rcases h6 with h6 | ⟨h6,h7⟩
  ·exact .inl h6
  ·exact .inr ⟨h6,by rw [low e.on (by omega)];exact h7⟩
 ·subst heq
  refine ⟨o,by rw [h1];simp,?_⟩
  have hj':(o.after.foldl (fun s e=>if Region.binds .any e then s||| 2^e.on||| acc.getD e.on 0 else s) 0).testBit i=true:=by
   simpa [zmc,Array.getD_eq_getD_getElem?] using hj
  rw [←Array.foldl_toList] at hj'
  rcases zpN acc i _ _ hj' with h | ⟨e,h3,h4,h5⟩
  ·simp at h
  ·refine ⟨e,Array.mem_toList_iff.1 h3,h4,?_⟩
   rcases h5 with h5 | h5
   ·exact .inl h5
   ·have hlt:e.on<acc.size:=by
     rcases Nat.lt_or_ge e.on acc.size with hx | hx
     ·exact hx
     ·simp [Array.getD_eq_getD_getElem?,Array.getElem?_eq_none hx] at h5
    exact .inr ⟨hlt,by rw [low _ hlt];exact h5⟩
 ·have:(zmc acc o).getD j 0=0:=by
   simp [zmc,Array.getD_eq_getD_getElem?,Array.getElem?_eq_none (show (acc.push _).size≤j by simp;omega)]
  rw [this] at hj
  simp at hj
theorem zok (ops:Array Oper):zjC ops.toList (Region.before ops):=by
 have key:∀ (l p:List Oper) (acc:Array Nat),zjC p acc→zjC (p++l) (l.foldl zmc acc):=by
  intro l
  induction l with
  |nil=>intro p acc h;simpa using h
  |cons o l ih =>
   intro p acc h
   have:=ih (p++[o]) _ (zz7 h o)
   simpa using this
 have h0:zjC [] #[]:=⟨rfl,fun j i h=>by simp at h⟩
 have:=key ops.toList [] #[] h0
 have heq:Region.before ops=ops.toList.foldl zmc #[]:=by
  unfold Region.before
  rw [←Array.foldl_toList]
  rfl
 rw [heq]
 simpa using this
def zoY (ops:Array Oper) (zai:Array Bool):Prop :=
 ∀ j o,zai.getD j false=true→ops[j]?=some o→∀ e,e∈o.after→Region.binds .any e=true→zai.getD e.on false=true
theorem zmb {zai:Array Bool} (hD:zoY ops zai):∀ (j i:Nat) (o:Oper),ops[j]?=some o→(∀ e,e∈o.after→Region.binds .any e=true→zai.getD e.on false=true) →
  zur (Region.before ops) i j=true→zai.getD i false=true:=by
 intro j
 induction j using Nat.strongRecOn with
 |_ j ih =>
  intro i o ho hall hb
  obtain ⟨o',h1,e,h2,h3,h4⟩:=(zok ops).2 j i hb
  have ho':ops[j]?=some o':=by simpa using h1
  rw [ho] at ho'
  cases ho'
  rcases h4 with rfl | ⟨h4,h5⟩
  ·exact hall e h2 h3
  ·have hl:=hall e h2 h3
   obtain ⟨o2,h6,_⟩:=(zok ops).2 e.on i h5
   have h6':ops[e.on]?=some o2:=by simpa using h6
   exact ih e.on h4 i o2 h6' (hD e.on o2 hl h6') h5
theorem zoY.set {zai:Array Bool} (hD:zoY ops zai) {i:Nat} (hi:i∈Region.ready .any ops zai):zoY ops (zai.setIfInBounds i true):=by
 intro j o hj ho e he hb
 obtain ⟨h0,oi,hoi,hall⟩:=mem_ready.1 hi
 by_cases hji:j=i
 ·subst hji
  rw [ho] at hoi;cases hoi
  exact getD_set_true (hall e he hb)
 ·rw [getD_set_ne false (Ne.symm hji)] at hj
  exact getD_set_true (hD j o hj ho e he hb)
def zoZ (P:Program) (H:Hints) (ops:Array Oper) (Q:Ex→AAct→Prop):Nat→Array Bool→Heap→AAct→Prop
 |0,zai,_,A=>Region.ready .any ops zai=[]∧Q .normal A
 |fuel+1,zai,hs,A =>
  (Region.ready .any ops zai=[]→Q .normal A) ∧
  ∀ i∈Region.ready .any ops zai,∀ o,ops[i]?=some o→zcs P H ops Q o (zoZ P H ops Q fuel (zai.setIfInBounds i true)) hs A
def zjB (H:Hints) (ops:Array Oper) (zai:Array Bool) (i:Nat) (oi:Oper):Prop:=∀ j o,j≠i→zai.getD j true=false→ops[j]?=some o→zur (Region.before ops) i j=true∨ziH H ops oi o=true
theorem zk0 {zai:Array Bool} {j:Nat}:(zai.setIfInBounds j true).getD j true=true:=by
 rw [Array.getD_eq_getD_getElem?,Array.getElem?_setIfInBounds]
 rw [if_pos rfl]
 split<;>rfl
theorem zjB.set {H:Hints} {ops:Array Oper} {zai:Array Bool} {i:Nat} {oi:Oper} (h:zjB H ops zai i oi) (j:Nat):zjB H ops (zai.setIfInBounds j true) i oi:=by
 intro x o hxi hx ho
 by_cases hxj:j=x
 ·subst hxj
  rw [zk0] at hx;cases hx
 ·rw [getD_set_ne true hxj] at hx
  exact h x o hxi hx ho
theorem zrZ {i:Nat} {oi:Oper} {v:AV} {E:HE} (hi:ops[i]?=some oi) :
  ∀ (fuel:Nat) (zai:Array Bool) (hs:Heap) (A:AAct),zoY ops zai→zjB H ops zai i oi→i∈Region.ready .any ops zai→QS P H ops oi hs v E A →
   zoZ P H ops Q fuel (zai.setIfInBounds i true) hs (A.put oi.dst v (E.ap A.h))→zoZ P H ops Q (fuel+1) zai hs A:=by
 intro fuel
 induction fuel with
 |zero =>
  intro zai hs A _ _ hr q k
  refine ⟨fun h=>(by rw [h] at hr;cases hr),fun j hj o ho=>?_⟩
  by_cases hji:j=i
  ·subst hji
   rw [hi] at ho;cases ho
   exact zfK q k
  ·have:=ready_mono hj hji
   rw [k.1] at this
   cases this
 |succ fuel ih =>
  intro zai hs A hD hB hr q k
  refine ⟨fun h=>(by rw [h] at hr;cases hr),fun j hj o ho=>?_⟩
  by_cases hji:j=i
  ·subst hji
   rw [hi] at ho;cases ho
   exact zfK q k
  ·have h1:=k.2 j (ready_mono hj hji) o ho
   obtain ⟨hjun,oj,hoj,hall⟩:=mem_ready.1 hj
   rw [ho] at hoj;cases hoj
   have hp:ziH H ops oi o=true:=by
    rcases hB j o hji hjun ho with h | h
    ·have h2:=zmb hD j i o ho (fun e he hb=>hall e he hb) h
     have h0:=(mem_ready.1 hr).1
     rcases Nat.lt_or_ge i zai.size with h' | h'
     ·simp [h'] at h0 h2;rw [h0] at h2;cases h2
     ·simp [Array.getElem?_eq_none h'] at h2
    ·exact h
   have h2:=zEb hp q h1
   refine zo8 ?_ h2
   rintro hs' A' ⟨q',k'⟩
   refine ih (zai.setIfInBounds j true) hs' A' (hD.set hj) (hB.set j) (ready_mono hr (Ne.symm hji)) q' ?_
   rw [Array.setIfInBounds_comm _ _ hji]
   exact k'
def unl (zai:Array Bool):Nat:=zai.toList.countP (·==false)
theorem zpU:∀ (l:List Bool) (j:Nat),l[j]?=some false→(l.set j true).countP (·==false)+1=l.countP (·==false)
 |[],j,h=>by simp at h
 |b::l,0,h=>by
  have:b=false:=by simpa using h
  subst this
  simp
 |b::l,j+1,h=>by
  have:=zpU l j (by simpa using h)
  simp only [List.set_cons_succ,List.countP_cons]
  omega
theorem zqk {zai:Array Bool} {j:Nat} (h:zai.getD j true=false):unl (zai.setIfInBounds j true)+1=unl zai:=by
 have h1:zai[j]?=some false:=by
  rw [Array.getD_eq_getD_getElem?] at h
  cases hj:zai[j]? with
  |none=>rw [hj] at h;simp at h
  |some b=>rw [hj] at h;simp at h;rw [h]
 unfold unl
 rw [Array.toList_setIfInBounds]
 exact zpU _ _ (by simpa using h1)
theorem zDd {zai:Array Bool} {j:Nat} (h:zai.getD j true=false):0<unl zai:=by
 have:=zqk h;omega
theorem zzA {o:Oper} {K:Heap→AAct→Prop} {hs:Heap} {A:AAct} (hf:zlT o=true) (hq:zji (za1 H o)=true) (k:∀ v,K hs (A.put o.dst v A.h)):zcs P H ops Q o K hs A:=by
 have hc:za1 H o=.quiet:=by cases hc:za1 H o<;>rw [hc] at hq<;>first | rfl | cases hq
 obtain ⟨dst,op,ty,pos,after,guard⟩:=o
 unfold zcs
 cases guard with
 |some g=>simp [zlT] at hf
 |none =>
  refine ⟨fun _=>?_,fun h=>(by cases h)⟩
  rw [hc]
  cases op<;>simp only [zlT,Bool.false_eq_true] at hf
  ·exact ⟨rfl,k _⟩
  ·exact ⟨rfl,k _⟩
theorem TS.put {o o':Oper} {A:AAct} (q:TS P H ops Q o A) (hap:∀ d,o'.dst=some d→d∉o.looksAt ops) (v:AV):TS P H ops Q o (A.put o'.dst v A.h):=by
 obtain ⟨tw,tc,f,args,u,t1,t2,t3⟩:=q
 refine ⟨(zfO hap).trans tw,tc,f,args,u,?_,?_,fun T=>?_⟩
 ·rw [←t1,zeE]
  exact zgn o (zgy hap)
 ·rw [zeE];exact t2
 ·have e:({ A.put o'.dst v A.h with tmps:=T }:AAct)={ A with tmps:=T }:=by
   cases o'.dst<;>simp [AAct.put]
  rw [e];exact t3 T
theorem zBZ {i:Nat} {oi:Oper} (hi:ops[i]?=some oi) :
  ∀ (fuel:Nat) (zai:Array Bool) (hs:Heap) (A:AAct),unl zai≤fuel→zoY ops zai→zjB H ops zai i oi→i∈Region.ready .any ops zai→TS P H ops Q oi A→zoZ P H ops Q fuel zai hs A:=by
 intro fuel
 induction fuel with
 |zero =>
  intro zai hs A hu _ _ hr _
  have:=zDd (mem_ready.1 hr).1
  omega
 |succ fuel ih =>
  intro zai hs A hu hD hB hr q
  refine ⟨fun h=>(by rw [h] at hr;cases hr),fun j hj o ho=>?_⟩
  by_cases hji:j=i
  ·subst hji
   rw [hi] at ho;cases ho
   exact zkv q
  ·obtain ⟨hjun,oj,hoj,hall⟩:=mem_ready.1 hj
   rw [ho] at hoj;cases hoj
   have hp:ziH H ops oi o=true:=by
    rcases hB j o hji hjun ho with h | h
    ·have h2:=zmb hD j i o ho (fun e he hb=>hall e he hb) h
     have h0:=(mem_ready.1 hr).1
     rcases Nat.lt_or_ge i zai.size with h' | h'
     ·simp [h'] at h0 h2;rw [h0] at h2;cases h2
     ·simp [Array.getElem?_eq_none h'] at h2
    ·exact h
   unfold ziH at hp
   simp only [Bool.and_eq_true] at hp
   obtain ⟨hpd,hap,_⟩:=hp
   obtain ⟨a1,a2,a3⟩:=Oper.apart_spec hap
   have hthr:∀ c,zf9 .thr c=false:=by intro c;cases c<;>rfl
   rw [q.2.1,hthr] at hpd
   simp only [znF,Bool.false_or,Bool.true_and,Bool.and_eq_true] at hpd
   refine zzA hpd.1 hpd.2 fun v=>?_
   refine ih (zai.setIfInBounds j true) hs _ ?_ (hD.set hj) (hB.set j) (ready_mono hr (Ne.symm hji)) (q.put a3 v)
   have:=zqk hjun;omega
def zHa (ops:Array Oper) (l:List Nat) (zai:Array Bool):Prop:=zai.size=ops.size∧∀ j,zai.getD j true=false↔j∈l
theorem zsY {l:List Nat} {zai:Array Bool} {i:Nat} (hil:i∉l) (h:∀ j,zai.getD j true=false↔j∈i::l) (j:Nat):(zai.setIfInBounds i true).getD j true=false↔j∈l:=by
 by_cases hij:i=j
 ·subst hij
  rw [zk0]
  exact ⟨fun h=>(by cases h),fun h=>absurd h hil⟩
 ·rw [getD_set_ne true hij,h j]
  simp [Ne.symm hij]
theorem zsL:∀ (l:List Nat) (zai:Array Bool),l.Nodup→(∀ j,zai.getD j true=false↔j∈l)→unl zai≤l.length
 |[],zai,_,h=>by
  rcases Nat.eq_zero_or_pos (unl zai) with h0 | h0
  ·omega
  ·exfalso
   unfold unl at h0
   obtain ⟨b,hb,hb2⟩:=List.countP_pos_iff.1 (show 0<List.countP (fun x=>x==false) zai.toList from h0)
   obtain ⟨j,hj⟩:=List.getElem?_of_mem hb
   have hb3:b=false:=by simpa using hb2
   subst hb3
   have:=(h j).1 (by rw [Array.getD_eq_getD_getElem?,←Array.getElem?_toList,hj];rfl)
   cases this
 |i::l,zai,hn,h=>by
  have hi:zai.getD i true=false:=(h i).2 (by simp)
  have:=zqk hi
  have ih:=zsL l (zai.setIfInBounds i true) (List.nodup_cons.1 hn).2 (zsY (List.nodup_cons.1 hn).1 h)
  rw [List.length_cons]
  omega
theorem zBp:∀ (l:List Nat) (os:List Oper) (zai:Array Bool) (hs:Heap) (A:AAct),l.map (fun i=>ops[i]?)=os.map some→l.Nodup→zHa ops l zai→zoY ops zai→zpk H ops (Region.before ops) l=true →
  za0 P H ops Q os hs A→zoZ P H ops Q l.length zai hs A:=by
 intro l
 induction l with
 |nil =>
  intro os zai hs A he hn hR hD hok h
  have:os=[]:=by cases os<;>simp_all
  subst this
  refine ⟨?_,h⟩
  refine List.eq_nil_iff_forall_not_mem.2 fun j hj=>?_
  obtain ⟨h1,_⟩:=mem_ready.1 hj
  exact absurd ((hR.2 j).1 h1) (by simp)
 |cons i l ih =>
  intro os zai hs A he hn hR hD hok h
  cases os with
  |nil=>simp at he
  |cons o rest =>
   simp only [List.map_cons,List.cons.injEq] at he
   obtain ⟨hoi,he⟩:=he
   obtain ⟨hil,hnl⟩:=List.nodup_cons.1 hn
   rw [zpk,hoi] at hok
   simp only [Bool.and_eq_true] at hok
   obtain ⟨⟨hedge,hpair⟩,hokl⟩:=hok
   have hiu:zai.getD i true=false:=(hR.2 i).2 (by simp)
   have hisz:i<ops.size:=(Array.getElem?_eq_some_iff.1 hoi).1
   have hr:i∈Region.ready .any ops zai:=by
    refine mem_ready.2 ⟨hiu,o,hoi,fun e he hb=>?_⟩
    have:=(Array.all_eq_true_iff_forall_mem.1 hedge) e he
    simp only [hb,Bool.not_true,Bool.false_or,Bool.and_eq_true,decide_eq_true_eq,Bool.not_eq_true'] at this
    obtain ⟨h1,h2⟩:=this
    have h3:¬ zai.getD e.on true=false:=fun h'=>by
     have h4:=(hR.2 _).1 h'
     rw [←List.contains_iff_mem] at h4
     rw [h4] at h2;cases h2
    have h4:e.on<zai.size:=by rw [hR.1];exact h1
    rw [Array.getD_eq_getD_getElem?,Array.getElem?_eq_getElem h4] at h3 ⊢
    simpa using h3
   have hB:zjB H ops zai i o:=by
    intro j oj hji hj hoj
    have hjl:=(hR.2 j).1 hj
    rcases List.mem_cons.1 hjl with rfl | hjl
    ·exact absurd rfl hji
    have:=List.all_eq_true.1 hpair j hjl
    rw [hoj] at this
    simp only [Bool.and_eq_true,Bool.or_eq_true] at this
    exact this.2
   have hR':zHa ops l (zai.setIfInBounds i true):=⟨by simp [hR.1],zsY hil hR.2⟩
   have hD':=hD.set hr
   rw [zuW] at h
   have h':zcs P H ops Q o (zoZ P H ops Q l.length (zai.setIfInBounds i true)) hs A:=zo8 (fun hs A hk=>ih rest _ hs A he hnl hR' hD' hokl hk) h
   by_cases ht:za1 H o=.thr
   ·rcases zhp ht h' with ⟨v,E,q,k⟩ | q
    ·exact zrZ hoi _ _ _ A hD hB hr q k
    ·exact zBZ hoi _ _ hs A (zsL (i::l) zai hn hR.2) hD hB hr q
   by_cases hb:(za1 H o≠.bar∧za1 H o≠.cal)∨zaP ops A o=some false
   ·obtain ⟨v,E,q,k⟩:=ziu (hb.imp (fun h=>⟨h.1,ht,h.2⟩) id) h'
    exact zrZ hoi _ _ _ A hD hB hr q k
   ·have hb1:za1 H o=.bar∨za1 H o=.cal:=by
     by_cases h1:za1 H o=.bar
     ·exact .inl h1
     ·exact .inr (Classical.byContradiction fun hn=>hb (.inl ⟨h1,hn⟩))
    refine ⟨fun h0=>?_,fun j hj oj hoj=>?_⟩
    ·rw [h0] at hr
     cases hr
    ·have hji:j=i:=by
      obtain ⟨h1,o',ho',hall⟩:=mem_ready.1 hj
      rw [hoj] at ho';cases ho'
      refine Classical.byContradiction fun hne=>?_
      rcases hB j oj hne h1 hoj with h3 | h3
      ·have h4:=zmb hD j i oj hoj hall h3
       have h5:i<zai.size:=by rw [hR.1];exact hisz
       rw [Array.getD_eq_getD_getElem?,Array.getElem?_eq_getElem h5] at hiu h4
       simp at hiu h4
       rw [hiu] at h4;cases h4
      ·have hall':∀ c,zf9 .bar c=false∧zf9 .cal c=false:=by intro c;cases c<;>exact ⟨rfl,rfl⟩
       unfold ziH at h3
       rcases hb1 with hb1 | hb1
       ·rw [hb1,(hall' _).1] at h3
        simp [znF] at h3
       ·rw [hb1,(hall' _).2] at h3
        simp [znF] at h3
     subst hji
     rw [hoi] at hoj;cases hoj
     exact h'
variable {M0:Nat→Prop} {S0:Mem} {b:Frame} {cs0:List Frame}
theorem zoo {hs h:Heap} (hx:zbn hs h) {id:Nat} (hd:zen hs id=true) (ob:AObj):zbn hs (h.set id ob):=by
 intro x o ho hn
 by_cases hxi:id=x
 ·subst hxi
  unfold zen at hd
  rw [ho] at hd
  cases o<;>first | (cases hd;done) | (cases hn;done)
 ·rw [List.getElem?_set_ne hxi];exact hx x o ho hn
theorem zAB {o:Oper} {K:Heap→AAct→Prop} {hs:Heap} {A:AAct} (hx:zbn hs A.h) (k:zcs P H ops Q o K hs A) :
  (zaP ops A o=some false∧K hs (A.put o.dst (.p (.tuple [])) A.h)) ∨
  (zaP ops A o=some true∧orK P A o.dst (fun B=>∃ hs',zbn hs' B.h∧K hs' B) Q (aOp P (zaz H) o A.eval A.h)) ∨
  (zaP ops A o=some true∧∃ v E,zuJ P H o hs v E A∧zbn hs (E.ap A.h)∧K hs (A.put o.dst v (E.ap A.h))):=by
 have hcase:(∃ v E,QS P H ops o hs v E A∧K hs (A.put o.dst v (E.ap A.h)))∨TS P H ops Q o A∨(za1 H o=.cal∧zaP ops A o=some true∧zj0 P H Q hs A (fun v h=>K hs (A.put o.dst v h)) (aOp P (zaz H) o A.eval A.h))∨¬ (za1 H o≠.bar∨zaP ops A o=some false):=by
  by_cases ht:za1 H o=.thr
  ·rcases zhp ht k with h | h
   ·exact .inl h
   ·exact .inr (.inl h)
  ·by_cases hcl:za1 H o=.cal
   ·rcases zhV hcl k with h | h
    ·exact .inl h
    ·exact .inr (.inr (.inl ⟨hcl,h⟩))
   ·by_cases hb:za1 H o≠.bar∨zaP ops A o=some false
    ·exact .inl (ziu (hb.imp (fun h=>⟨h,ht,hcl⟩) id) k)
    ·exact .inr (.inr (.inr hb))
 rcases hcase with ⟨v,E,q,k1⟩ | ⟨tw,tc,f,args,u,t1,t2,t3⟩ | ⟨hcl,hw,kc⟩ | hb
 ·have fin:∀ (r:OR),Qv P A.h r v→K hs (A.put o.dst v A.h)→orK P A o.dst (fun B=>∃ hs',zbn hs' B.h∧K hs' B) Q r:=by
   intro r hr hk
   rcases hr with rfl | ⟨f,args,rfl,hc⟩
   ·exact ⟨hs,by rw [zeE];exact hx,hk⟩
   ·have:=hc A.h (zbn.refl _)
    intro M0 m w cargs hS ha
    obtain ⟨h1,h2⟩:=this M0 m w cargs hS ha
    refine ⟨h1,h2.mono fun _ _ hb=>?_⟩
    obtain ⟨r,h',m',⟨rfl,rfl⟩,rest⟩:=hb
    exact ⟨.ret v,_,m',⟨hs,by rw [zeE];exact hx,hk⟩,rest⟩
  rcases q with ⟨hw,rfl,rfl⟩ | ⟨hw,⟨hc,rfl,q⟩ | ⟨hc,rfl,q⟩ | ⟨hc,t,rfl,q⟩ | q | ⟨hc,T,a,x,id,ver,i,kk,ob,h1,h2,h3,h4,rfl,rfl⟩ | ⟨hc,rfl,rfl,T,a,x,h1,h2⟩ | ⟨t,hc,hE,hq⟩ | ⟨hc,rfl,f,args,g1,g2⟩⟩
  ·exact .inl ⟨hw,by simpa [HE.ap] using k1⟩
  ·exact .inr (.inl ⟨hw,fin _ q (by simpa [HE.ap] using k1)⟩)
  ·refine .inr (.inl ⟨hw,fin _ ?_ (by simpa [HE.ap] using k1)⟩)
   have hpre:=zyT (P:=P) (mu:=zaz H) (o:=o) A.eval (zBs hc) hs A.h hx
   rcases q with q | ⟨f,args,q,hcall⟩
   ·exact .inl (hpre.1 _ q)
   ·exact .inr ⟨f,args,hpre.2 _ _ q,fun h' hs'=>hcall h' (hx.trans hs')⟩
  ·refine .inr (.inl ⟨hw,?_⟩)
   rw [q]
   exact ⟨hs,by rw [zeE];exact hx.trans (zbn.app _ _),k1⟩
  ·refine .inr (.inr ⟨hw,v,E,q,?_,k1⟩)
   obtain ⟨j,sz,z,hc,h1,h2,h3,h4,rfl,rfl⟩:=q
   exact zoo hx h3 _
  ·refine .inr (.inl ⟨hw,?_⟩)
   have hop:aOp P (zaz H) o A.eval A.h=.skip (A.h.set id ob):=by
    unfold aOp
    rw [h1]
    show zdK P T (A.eval a) (A.eval x) A.h=_
    rw [h2];exact h4
   rw [hop]
   exact ⟨hs,by rw [zeE];exact zoo hx h3 _,k1⟩
  ·refine .inr (.inl ⟨hw,?_⟩)
   have hop:aOp P (zaz H) o A.eval A.h=.skip A.h:=by
    unfold aOp
    rw [h1]
    exact h2
   rw [hop]
   exact ⟨hs,by rw [zeE];exact hx,by simpa [HE.ap] using k1⟩
  ·refine .inr (.inl ⟨hw,?_⟩)
   rw [hq]
   refine ⟨hs,?_,k1⟩
   rw [zeE]
   rcases hE with ⟨l,rfl⟩ | ⟨id,ob,rfl,hd⟩
   ·exact hx.trans (zbn.app _ _)
   ·exact zoo hx hd _
  ·exact .inr (.inl ⟨hw,fin _ (.inr ⟨f,args,g1,g2⟩) (by simpa [HE.ap] using k1)⟩)
 ·refine .inr (.inl ⟨tw,?_⟩)
  rw [t1]
  intro M0 m w cargs hS ha
  obtain ⟨h1,h2⟩:=t2 M0 m w cargs hS ha
  refine ⟨h1,h2.mono fun _ _ hb=>?_⟩
  obtain ⟨r,h',m',⟨rfl,rfl⟩,rest⟩:=hb
  exact ⟨.panic u,_,m',t3 A.tmps,rest⟩
 ·refine .inr (.inl ⟨hw,?_⟩)
  cases hr:aOp P (zaz H) o A.eval A.h<;>rw [hr] at kc<;>first | exact kc.elim | skip
  intro M0 m w cargs hS ha
  obtain ⟨h1,h2⟩:=kc M0 m w cargs hS ha
  refine ⟨h1,h2.mono fun _ _ hb=>?_⟩
  obtain ⟨r,h',m',hR,rest⟩:=hb
  exact ⟨r,h',m',by
   cases r with
   |ret v=>exact ⟨hs,by rw [zeE];exact hR.1,hR.2⟩
   |panic v=>exact hR A.tmps (fun _ _=>rfl),rest⟩
 ·have hb1:za1 H o=.bar:=Classical.byContradiction fun hn=>hb (.inl hn)
  unfold zcs at k
  cases hw:zaP ops A o with
  |none=>rw [hw] at k;exact k.elim
  |some b =>
   rw [hw,hb1] at k
   cases b with
   |false=>exact absurd (.inr hw) hb
   |true =>
    have k1:orK P A o.dst (fun B=>K B.h B) Q (aOp P (zaz H) o A.eval A.h):=k.1 rfl
    exact .inr (.inl ⟨rfl,zh9 (fun B hB=>⟨B.h,zbn.refl _,hB⟩) k1⟩)
theorem zEL {n:Nat} {k:List Item} (hd:ops.toList.all (zhS n)=true):∀ (fuel t:Nat) (zai:Array Bool) (hs:Heap) {m:List (Option Nat)} {A:AAct} {a:Act} {w:World},zbn hs A.h →
  Rel P M0 S0 b cs0 m A a w→A.n=n→zoZ P H ops Q fuel zai hs A →
   Sim P M0 S0 b cs0 n (lone (b.atR a (.inRegion ops (Region.linearise.go .any ops fuel t zai [])::k)) (za2 A.rc cs0) w) k Q:=by
 intro fuel
 induction fuel with
 |zero =>
  intro t zai hs m A a w hx hr hn h
  exact ⟨.normal,A,m,a,w,h.2,hn,hr,.one (by simp only [Region.linearise.go,List.reverse_nil];exact stepR_region_end)⟩
 |succ fuel ih =>
  intro t zai hs m A a w hx hr hn h
  obtain ⟨h0,h1⟩:=h
  have hgo:Region.linearise.go .any ops (fuel+1) t zai []=match (Region.ready .any ops zai)[t%(Region.ready .any ops zai).length]? with
   |some i=>Region.linearise.go .any ops fuel (t / (Region.ready .any ops zai).length) (zai.setIfInBounds i true) [i]
   |none=>[].reverse:=rfl
  rw [hgo]
  cases hi:(Region.ready .any ops zai)[t%(Region.ready .any ops zai).length]? with
  |none =>
   have hnil:Region.ready .any ops zai=[]:=by
    cases hrr:Region.ready .any ops zai with
    |nil=>rfl
    |cons x xs =>
     rw [hrr] at hi
     have hlt:t%(x::xs).length<(x::xs).length:=Nat.mod_lt _ (by simp)
     simp at hi
     simp at hlt
     omega
   exact ⟨.normal,A,m,a,w,h0 hnil,hn,hr,.one (by simp only [List.reverse_nil];exact stepR_region_end)⟩
  |some i =>
   simp only []
   rw [linearise_go_acc,List.reverse_singleton,List.singleton_append]
   have hmem:=List.mem_of_getElem? hi
   obtain ⟨_,o,ho,_⟩:=mem_ready.1 hmem
   have hstep:=h1 i hmem o ho
   have hdo:zhS A.n o=true:=by
    rw [hn]
    exact List.all_eq_true.1 hd o (Array.mem_toList_iff.2 (Array.mem_of_getElem? ho))
   rcases zAB hx hstep with ⟨hw,hk⟩ | ⟨hw,hk⟩ | ⟨hw,v,E,hsl,hxs,hk⟩
   ·have hwm:=hr.wanted hw
    have hs1:=stepR_op_skip (P:=P) (b:=b) (k:=k) (cs:=za2 A.rc cs0) (w:=w) (rest:=Region.linearise.go .any ops fuel (t / (Region.ready .any ops zai).length) (zai.setIfInBounds i true) []) (zmn ho hwm)
    simp only [ho,Option.bind_some] at hs1
    have hr':=hr.put (dst:=o.dst) (zgR hdo) (ziC _ _)
    have:=ih (t / (Region.ready .any ops zai).length) (zai.setIfInBounds i true) hs (by rw [zeE];exact hx) hr' ((ziv _ _ _ _).trans hn) hk
    rw [zgJ] at this
    exact this.of_steps (.one hs1)
   ·have hwm:=hr.wanted hw
    rcases zv8 (i:=i) (rest:=Region.linearise.go .any ops fuel (t / (Region.ready .any ops zai).length) (zai.setIfInBounds i true) []) (k:=k) ho hdo hwm hr hk with ⟨A',m',a',w',⟨hs',hx',hK⟩,hn',hr',hs1⟩ | ⟨v,A',m',a',w',v',todo,hQ,hn',hr',hv,hs1⟩
    ·exact (ih _ _ hs' hx' hr' (hn'.trans hn) hK).of_steps hs1
    ·exact ⟨.panic v,A',m',a',w',hQ,hn'.trans hn,hr',v',todo,hv,hs1⟩
   ·have hwm:=hr.wanted hw
    obtain ⟨j,sz,z,hc,g1,g2,g3,g4,rfl,rfl⟩:=hsl
    have hso:=zzB hc
    have hnd:∀ c,o.op≠.defer c:=by
     intro c hcc
     rw [hcc] at hso
     cases hso
    have hok:=zDg (P:=P) (o:=o) hr.hok g4 hr.eval g1 g2
    obtain ⟨m',a',w',hr',hs1⟩:=zvc (i:=i) (rest:=Region.linearise.go .any ops fuel (t / (Region.ready .any ops zai).length) (zai.setIfInBounds i true) []) (k:=k) ho hdo hwm hr hnd hok
    have:=ih (t / (Region.ready .any ops zai).length) (zai.setIfInBounds i true) hs (by rw [zeE];exact hxs) hr' ((ziv _ _ _ _).trans hn) hk
    rw [zgJ] at this
    exact this.of_steps hs1
theorem zrs:∀ (l:List Nat) (h:Heap),zbn (zlJ h l) h∧(zlJ h l).length=h.length
 |[],h=>⟨zbn.refl _,rfl⟩
 |id::l,h=>by
  obtain ⟨h1,h2⟩:=zrs l (h.set id .dead)
  refine ⟨h1.trans fun x o ho hn=>?_,by rw [zlJ,h2];simp⟩
  by_cases hxi:id=x
  ·subst hxi
   have hlt:=(List.getElem?_eq_some_iff.1 ho).1
   rw [List.getElem?_set_self (by simpa using hlt)] at ho
   cases ho
   cases hn
  ·rwa [List.getElem?_set_ne hxi] at ho
theorem ztD (id:Nat) (h:Heap):zbn (zdm id h) h∧(zdm id h).length=h.length:=by
 refine ⟨fun x o ho hn=>?_,by simp [zdm]⟩
 unfold zdm at ho
 rw [List.getElem?_mapIdx] at ho
 cases hx:h[x]? with
 |none=>rw [hx] at ho;cases ho
 |some y =>
  rw [hx] at ho
  simp only [Option.map_some,Option.some.injEq] at ho
  split at ho
  ·rw [←ho]
  ·rw [←ho] at hn;cases hn
theorem zy9 (H:Hints) (ops:List Oper) (A:AAct):zbn (znz H ops A) A.h∧(znz H ops A).length=A.h.length:=by
 unfold znz
 split
 ·exact ztD _ _
 ·exact zrs _ _
theorem zxG (H:Hints) (ops:List Oper) (A:AAct):zbn (zhT H ops A) (zjl H ops A).h:=by
 intro x o ho hn
 obtain ⟨h1,h2⟩:=zy9 H ops A
 unfold zhT at ho
 show (A.h++_)[x]?=_
 rcases Nat.lt_or_ge x A.h.length with hl | hl
 ·rw [List.getElem?_append_left (by omega)] at ho
  rw [List.getElem?_append_left hl]
  exact h1 x o ho hn
 ·rw [List.getElem?_append_right (by omega)] at ho
  have:=List.mem_of_getElem? ho
  simp only [List.mem_map] at this
  obtain ⟨_,_,rfl⟩:=this
  cases hn
theorem zv9 {α β:Type} (f:α→β) (a b:Nat) (l:List α):(mvL a b l).map f=mvL a b (l.map f):=by
 unfold mvL
 rw [List.length_map]
 split
 ·simp [List.map_take,List.map_drop]
 ·rfl
theorem zA1 {α:Type} (a b:Nat) (l:List α):(mvL a b l).Perm l:=by
 unfold mvL
 split
 ·rename_i h
  have e:l=l.take a++((l.drop a).take 1++((l.drop (a+1)).take (b-a)++l.drop (b+1))):=by
   have e1:(l.drop (a+1)).take (b-a)++l.drop (b+1)=l.drop (a+1):=by
    have e2:l.drop (b+1)=(l.drop (a+1)).drop (b-a):=by rw [List.drop_drop];congr 1;omega
    rw [e2];exact List.take_append_drop _ _
   rw [e1]
   have e3:(l.drop a).take 1++l.drop (a+1)=l.drop a:=by
    have e4:l.drop (a+1)=(l.drop a).drop 1:=by rw [List.drop_drop]
    rw [e4];exact List.take_append_drop _ _
   rw [e3]
   exact (List.take_append_drop _ _).symm
  refine List.Perm.trans ?_ (List.Perm.of_eq e.symm)
  rw [List.append_assoc,List.append_assoc]
  refine List.Perm.append_left _ ?_
  rw [←List.append_assoc,←List.append_assoc]
  exact List.Perm.append_right _ List.perm_append_comm
 ·exact .refl _
theorem zy0 (H:Hints) (n:Nat):(zlF H n).Perm (List.range n):=by
 unfold zlF
 split
 ·exact zA1 _ _ _
 ·exact .refl _
theorem zDu (H:Hints) (ops:Array Oper):(zlF H ops.size).map (fun i=>ops[i]?)=(zox H ops.toList).map some:=by
 have base:(List.range ops.size).map (fun i=>ops[i]?)=ops.toList.map some:=by
  apply List.ext_getElem?
  intro i
  rw [List.getElem?_map,List.getElem?_map]
  have e:ops.toList[i]?=ops[i]?:=by simp
  rw [e]
  rcases Nat.lt_or_ge i ops.size with h | h
  ·have e2:(List.range ops.size)[i]?=some i:=by simp [h]
   rw [e2,Array.getElem?_eq_getElem h]
   simp [h]
  ·have e2:(List.range ops.size)[i]?=none:=List.getElem?_eq_none (by simpa using h)
   rw [e2,Array.getElem?_eq_none h]
   rfl
 unfold zlF zox
 split
 ·rw [zv9,base,zv9]
 ·exact base
theorem Rel.drew {m:List (Option Nat)} {A:AAct} {a:Act} {w:World} (hr:Rel P M0 S0 b cs0 m A a w):Rel P M0 S0 b cs0 m A a { w with drawn:=w.drawn+1 } :=
 hr.ahead (Ev.drew _ ⟨m,A.h,w⟩) (HOk.drew hr.hok)
theorem zDU (hm:P.follows .mixedOrders=true):zcb P:=by
 intro M0 S0 b cs0 m A a w H ops Q n id k hd hok hr hn h
 have hok2:zpk H ops (Region.before ops) (zlF H ops.size)=true∧(zlF H ops.size).length=ops.size:=by
  unfold ztS at hok
  simp only [Bool.and_eq_true,decide_eq_true_eq] at hok
  exact ⟨hok.2,hok.1.2⟩
 have hper:=zy0 H ops.size
 have hany:=zBp (zlF H ops.size) _ (Array.replicate ops.size false) _ _ (zDu H ops) (hper.nodup_iff.2 List.nodup_range) ⟨by simp,fun j=>by
   rw [hper.mem_iff,List.mem_range,Array.getD_eq_getD_getElem?]
   by_cases hj:j<ops.size
   ·simp [hj]
   ·simp [hj]⟩ (fun j o hj ho e he hb=>by
   exfalso
   rw [Array.getD_eq_getD_getElem?] at hj
   by_cases hj2:j<ops.size
   ·simp [hj2] at hj
   ·simp [hj2] at hj) hok2.1 h
 rw [hok2.2] at hany
 obtain ⟨m',hr'⟩:=hr.resv (zkh H ops.toList)
 have hs:=stepR_region_draw (P:=P) (b:=b) (a:=a) (k:=k) (cs:=za2 A.rc cs0) (w:=w) (ops:=ops) (id:=id)
 refine Sim.of_steps (.one hs) ?_
 simp only [Region.schedule,hm,Bool.true_or,if_true]
 exact zEL (A:=zjl H ops.toList A) hd ops.size _ _ _ (zxG H ops.toList A) hr'.drew hn hany
end Abs
end Go.Proofs.YtahlnclapingiaaGreatDoor
