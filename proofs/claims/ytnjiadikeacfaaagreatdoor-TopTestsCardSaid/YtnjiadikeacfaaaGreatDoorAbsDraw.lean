/- LAWS: regions of any order: what the order of the text comes to, every order comes to.
  L -/
import Derived.Test.YtnjiadikeacfaaaGreatDoorAbsFunX
import Derived.Orders
set_option linter.all false
namespace Go.Proofs.YtnjiadikeacfaaaGreatDoor
namespace Abs
variable {P:Program} {H:Hints} {ops:Array Oper} {Q:Ex->AAct->Prop}
theorem lg{mu}{e e'}{h}(o)(he:∀x∈o.op.operands,e x=e' x):bV P mu o e h=bV P mu o e' h:=by
 obtain⟨dst,op,type,pos,after,guard⟩:=o;have pairs:∀ps:Array (Nat×Operand),(∀x∈ps.map (·.2),e x=e' x)->(ps.toList.map λq=>(q.1,e q.2))=(ps.toList.map λq=>(q.1,e' q.2)):=λps hp=>
  IV λq hm=>by
   simp only[hp q.2 (Array.mem_map.2 ⟨q,IH.1 hm,rfl⟩)]
 have lists:∀xs:Array Operand,(∀x∈xs,e x=e' x)->xs.toList.map e=xs.toList.map e':=λxs hp=>
  IV λx hm=>hp x (IH.1 hm)
 cases op<;>simp only[Op.operands]at he<;>simp only[bV]
 case build t ps=>rw[pairs ps λx hx=>he x (by simpa using hx)]
 case buildSlice t n ps=>rw[pairs ps λx hx=>he x (by simpa using hx)]
 case makeFunc fn first cap=>rw[lists first λx hx=>he x (by simp[hx]),lists cap λx hx=>he x (by simp[hx])]
 case slice t x lo hi mx=>
  have h0:e x=e' x:=he x (by simp);have h1:lo.map e=lo.map e':=by cases lo with|none=>rfl|some y=>simp only[mM,he y (by simp)]
  have h2:hi.map e=hi.map e':=by cases hi with|none=>rfl|some y=>simp only[mM,he y (by simp)]
  have h3:mx.map e=mx.map e':=by cases mx with|none=>rfl|some y=>simp only[mM,he y (by simp)]
  rw[h0,h1,h2,h3]
 case call c=>
  have ha:c.args.toList.map e=c.args.toList.map e':=lists c.args λx hx=>he x (by simp[Call.operands,hx])
  cases hc:c.callee with
  |value f=>simp only[ha,he f (by simp[Call.operands,hc])]
  |builtin b=>simp only[ha]
  |invoke r mm=>rfl
 case defer c=>
  have ha:c.args.toList.map e=c.args.toList.map e':=lists c.args λx hx=>he x (by simp[Call.operands,hx])
  cases hc:c.callee with
  |value f=>simp only[ha,he f (by simp[Call.operands,hc])]
  |builtin b=>rfl
  |invoke r mm=>rfl
 case makeMap t r=>
  cases r with
  |none=>rfl
  |some y=>simp only[mM,he y (by simp)]
 all_goals (first|rfl|(simp_all;done))
theorem OB{A:AAct}{dst}{v}{h}{x}(hx:∀d,dst=some d->x≠.tmp d):(A.put dst v h).eval x=A.eval x:=by
 cases dst with
 |none=>rfl
 |some d=>
  cases x with
  |tmp t=>
   have:t≠d:=λe=>hx d rfl (e▸rfl)
   simp[AAct.put,AAct.eval,uY,this]
  |_=>rfl
theorem kt{A}{dst}{v}{h}{o}(hd:∀d,dst=some d->d∉o.looksAt ops):bz ops (A.put dst v h) o=bz ops A o:=by
 cases dst with
 |none=>rfl
 |some d=>
  unfold bz
  cases hg:o.guard with
  |none=>rfl
  |some gw=>
   obtain⟨g,want⟩:=gw;simp only;unfold qo
   cases ht:(ops[g]?).bind (·.dst) with
   |none=>rfl
   |some t=>
    have hne:t≠d:=λe=>hd d rfl (by subst e;simp[Oper.looksAt,hg,ht]);simp[AAct.put,uY,hne]
theorem Em(A:AAct){x y}(v u)(h1 h2 h3)(h:∀d,x=some d->y≠some d):(A.put x v h1).put y u h2=(A.put y u h3).put x v h2:=by
 cases x with
 |none=>cases y<;>rfl
 |some d=>
  cases y with
  |none=>rfl
  |some e=>
   have hne:d≠e:=λhe=>h d rfl (he▸rfl);simp only[AAct.put,AAct.mk.injEq,true_and,and_true];funext s;simp only[uY];by_cases h1:s=d
   .by_cases h2:s=e
    .exact absurd (h1.symm.trans h2) hne
    .simp[h1,hne]
   .simp[h1]
theorem cw.refl(h):cw h h:=λ_ _ e _=>e
theorem cw.trans{a b c}(h:cw a b)(k:cw b c):cw a c:=λid o e hd=>k id o (h id o e hd) hd
theorem cw.app(h u):cw h (h++u):=λid o e _=>by
 rw[aZ (ax.1 e).1];exact e
theorem sM{h u}(hs:cw h u){id sz:Nat}{xs}(hl:h[id]?=some (.row sz xs)):u[id]?=some (.row sz xs):=hs id _ hl rfl
theorem sh{h u}(hs:cw h u){id ver sz}(hl:gL h id ver=some sz):gL u id ver=some sz:=by
 obtain⟨xs,h1,h2⟩:=k8 hl;simp[gL,sM hs h1,h2]
def eJ (F:Heap->OR) (h u:Heap):Prop:=(∀v,F h=.val v h->F u=.val v u)/\∀f a,F h=.call f a->F u=.call f a
theorem eJ.const{F}{h u}(k:(∃v,∀h,F h=.val v h)\/(∃f a,∀h,F h=.call f a)\/((∀v,F h≠.val v h)/\∀f a,F h≠.call f a)):eJ F h u:=by
 rcases k with⟨v,k⟩|⟨f,a,k⟩|⟨k1,k2⟩
 .refine⟨λv' e=>?_,λf a e=>?_⟩
  .rw[k]at e;cases e;exact k _
  .rw[k]at e;cases e
 .refine⟨λv' e=>?_,λf a e=>?_⟩
  .rw[k]at e;cases e
  .rw[k]at e;cases e;exact k _
 .exact⟨λv e=>absurd e (k1 v),λf a e=>absurd e (k2 f a)⟩
theorem aJ{h}{X:AV->Prop}{Y:FuncId->List AV->Prop}:(∀v,OR.stuck=OR.val v h->X v)/\∀f a,OR.stuck=OR.call f a->Y f a:=
 ⟨λ_ e=>(by cases e),λ_ _ e=>(by cases e)⟩
theorem sE(v)(h u):eJ (λh=>ir h v) h u:=by
 cases v with
 |none=>exact .const (.inr (.inr ⟨λv=>by simp[ir],λf a=>by simp[ir]⟩))
 |some v=>exact .const (.inl ⟨v,λ_=>rfl⟩)
theorem qN(v)(h u):eJ (λh=>sg h v) h u:=by
 cases v with
 |none=>exact .const (.inr (.inr ⟨λv=>by simp[sg],λf a=>by simp[sg]⟩))
 |some v=>exact .const (.inl ⟨.p v,λ_=>rfl⟩)
theorem aX(h u):eJ (λ_=>.stuck) h u:=.const (.inr (.inr ⟨λv=>by simp,λf a=>by simp⟩))
theorem bH(v)(h u):eJ (λh=>.val v h) h u:=.const (.inl ⟨v,λ_=>rfl⟩)
theorem NU(T)(x)(h u)(hs:cw h u):eJ (nF P T x) h u:=by
 cases x with
 |p q=>
  cases q with
  |ptr sz xs i o=>
   show eJ (λh=>match xs[i]? with|some v=>ir h (kD P T (.p v) o)|none=>.stuck) h u
   cases xs[i]? with
   |none=>exact aX h u
   |some v=>exact sE _ h u
  |_=>exact aX h u
 |ptr id ver i o=>
  unfold eJ nF;dsimp only
  cases hid:h[id]? with
  |none=>exact aJ
  |some ob=>
   cases ob with
   |row sz xs=>
    rw[sM hs hid];dsimp only;split
    .cases xs[i]? with
     |none=>exact aJ
     |some v=>exact sE _ h u
    .exact aJ
   |_=>exact aJ
 |_=>exact aX h u
theorem Er{id ver}{v}(h u)(hs:cw h u):eJ (λh=>match gL h id ver with|some _=>.val v h|none=>.stuck) h u:=by
 unfold eJ;dsimp only
 cases hl:gL h id ver with
 |none=>exact aJ
 |some sz=>rw[sh hs hl];exact⟨λv e=>(by cases e;rfl),λf a e=>(by cases e)⟩
theorem C7(T)(x)(f)(h u)(hs:cw h u):eJ (lD P T x f) h u:=by
 unfold lD
 cases ai P T f with
 |none=>exact aX h u
 |some q=>
  obtain⟨off,t⟩:=q;dsimp only
  cases b8 P t with
  |none=>exact aX h u
  |some n=>
   dsimp only;by_cases hn:n=0
   .simp only[hn,if_true];exact aX h u
   .simp only[hn,if_false]
    cases x with
    |p q=>cases q<;>first|exact bH _ h u|exact aX h u
    |ptr id ver i o=>exact Er h u hs
    |_=>exact aX h u
theorem Lg(T)(x)(f)(h u):eJ (s6 P T x f) h u:=by
 unfold s6
 cases ai P T f with
 |none=>exact aX h u
 |some q=>
  obtain⟨off,t⟩:=q
  cases x with
  |p q=>cases q<;>first|exact sE _ h u|exact aX h u
  |agg cs=>exact sE _ h u
  |_=>exact aX h u
theorem dh{c}[Decidable c]{F}{h u}(k:eJ F h u):eJ (λh=>if c then F h else .stuck) h u:=by
 by_cases hc:c
 .simp only[hc,if_true];exact k
 .simp only[hc,if_false];exact aX h u
theorem C6(T)(x ix)(h u)(hs:cw h u):eJ (hJ P T x ix) h u:=by
 cases ix with
 |p qi=>
  cases qi with
  |int k i=>
   cases x with
   |p q=>
    cases q with
    |slice sz xs full=>
     unfold eJ hJ;dsimp only
     cases bu P T with
     |none=>exact aJ
     |some e=>exact dh (bH _ h u)
    |ptr sz xs j o=>
     unfold eJ hJ;dsimp only
     cases dP P T with
     |none=>exact aJ
     |some q=>
      obtain⟨n,e⟩:=q;dsimp only
      cases b8 P e with
      |none=>exact aJ
      |some s=>exact dh (bH _ h u)
    |_=>exact aX h u
   |slice id ver off len=>
    unfold eJ hJ;dsimp only
    cases bu P T with
    |none=>exact aJ
    |some e=>
     cases hid:h[id]? with
     |none=>exact aJ
     |some ob=>
      cases ob with
      |row sz xs=>
       rw[sM hs hid]
       exact dh (bH _ h u)
      |_=>exact aJ
   |ptr id ver j o=>
    unfold eJ hJ;dsimp only
    cases dP P T with
    |none=>exact aJ
    |some q=>
     obtain⟨n,e⟩:=q;dsimp only
     cases b8 P e with
     |none=>exact aJ
     |some s=>
      cases hl:gL h id ver with
      |none=>exact aJ
      |some z=>rw[sh hs hl];exact dh (bH _ h u)
   |_=>exact aX h u
  |_=>exact aX h u
 |_=>exact aX h u
theorem Ji(T)(x k)(ok)(h u)(hs:cw h u):eJ (qq P T x k ok) h u:=by
 unfold eJ qq
 cases yu P T with
 |none=>exact aJ
 |some q=>
  obtain⟨K,E⟩:=q
  cases x with
  |ref t id=>
   cases t with
   |mp=>
    cases k with
    |p k=>
     dsimp only
     cases hid:h[id]? with
     |none=>exact aJ
     |some ob=>
      cases ob with
      |mp es=>
       rw[hs id _ hid rfl]
       cases an P E with
       |none=>exact aJ
       |some z=>
        dsimp only;by_cases hk:ud P K k=true
        .simp only[if_pos hk]
         cases kY k es with
         |none=>exact aJ
         |some r=>cases r<;>exact bH _ h u
        .simp only[if_neg hk];exact aJ
      |_=>exact aJ
    |_=>exact aJ
   |_=>exact aJ
  |_=>exact aJ
theorem Lf(T)(x ix)(h u):eJ (wl P T x ix) h u:=by
 have agg:∀(x:AV) (i:Int),eJ (λh=>match dP P T with
   |some (n,e)=>match b8 P e with|some s=>if 0<=i/\i<n then ir h (kD P e x (i.toNat*s)) else .stuck|none=>.stuck
   |none=>.stuck) h u:=by
  intro x i
  cases dP P T with
  |none=>exact aX h u
  |some q=>
   obtain⟨n,e⟩:=q;dsimp only
   cases b8 P e with
   |none=>exact aX h u
   |some s=>exact dh (sE _ h u)
 cases ix with
 |p qi=>
  cases qi with
  |int k i=>
   cases x with
   |p q=>
    cases q with
    |str s=>
     refine dh ?_
     cases s[i.toNat]? with
     |none=>exact aX h u
     |some b=>exact bH _ h u
    |agg cs=>exact agg _ i
    |_=>exact aX h u
   |agg cs=>exact agg _ i
   |_=>exact aX h u
  |_=>exact aX h u
 |_=>exact aX h u
theorem Ld(T)(x)(lo hi mx)(h u)(hs:cw h u):eJ (s5 P T x lo hi mx) h u:=by
 unfold eJ s5
 cases l9 lo with
 |none=>exact aJ
 |some l=>
  cases l9 hi with
  |none=>exact aJ
  |some r=>
   cases l9 mx with
   |none=>exact aJ
   |some m=>
    cases x with
    |p q=>
     cases q with
     |slice sz xs full=>
      dsimp only
      cases bu P T with
      |none=>exact aJ
      |some e=>
       cases md l r xs.length with
       |none=>exact aJ
       |some ab=>
        cases m with
        |none=>exact dh (bH _ h u)
        |some m=>exact dh (dh (bH _ h u))
     |str s=>
      dsimp only
      cases md l r s.size with
      |none=>exact aJ
      |some ab=>
       cases m with
       |none=>exact dh (bH _ h u)
       |some m=>exact aJ
     |nilslice=>
      dsimp only
      cases bu P T with
      |none=>exact aJ
      |some e=>
       cases md l r 0 with
       |none=>exact aJ
       |some ab=>
        cases m with
        |none=>exact dh (bH _ h u)
        |some m=>exact aJ
     |_=>exact aJ
    |slice id ver off len=>
     dsimp only
     cases bu P T with
     |none=>exact aJ
     |some e=>
      cases hid:h[id]? with
      |none=>exact aJ
      |some ob=>
       cases ob with
       |row sz xs=>
        rw[sM hs hid]
        cases md l r len with
        |none=>
         cases m with
         |none=>exact dh (bH _ h u)
         |some m=>exact dh (bH _ h u)
        |some ab=>
         cases m with
         |none=>exact dh (bH _ h u)
         |some m=>exact dh (bH _ h u)
       |_=>exact aJ
    |_=>exact aJ
theorem QA(T)(x)(h u)(hs:cw h u):eJ (yR P T x) h u:=by
 cases x with
 |p q=>
  cases q with
  |str s=>exact dh (bH _ h u)
  |slice sz xs full=>exact dh (bH _ h u)
  |nilslice=>exact dh (bH _ h u)
  |agg cs=>
   unfold eJ yR;dsimp only
   cases dP P T with
   |none=>exact aJ
   |some q=>exact bH _ h u
  |_=>exact aX h u
 |slice id ver off len=>
  unfold eJ yR;dsimp only
  cases hl:gL h id ver with
  |none=>simp only[IW,d4,and_false,if_false];exact aJ
  |some z=>rw[sh hs hl];exact dh (bH _ h u)
 |_=>exact aX h u
theorem QB(op)(T)(c)(x y)(h u):eJ (BH P op T c x y) h u:=by
 unfold BH;split
 .split
  .exact qN _ h u
  .split
   .exact qN _ h u
   .exact aX h u
 .exact qN _ h u
 .split
  .exact qN _ h u
  .exact qN _ h u
  .exact aX h u
theorem S7(op)(x)(h u):eJ (Iu op x) h u:=by
 unfold Iu;split
 .exact bH _ h u
 .exact bH _ h u
 .exact aX h u
theorem GC(a b)(x)(h u):eJ (oe P a b x) h u:=by
 unfold oe;split
 .split
  .exact bH _ h u
  .exact aX h u
 .exact dh (bH _ h u)
 .rename_i y ys full
  cases hn:sJ (y::ys) with
  |some ns=>exact dh (bH _ h u)
  |none=>exact dh (aX h u)
 .exact aX h u
theorem GB(x)(i)(h u):eJ (od x i) h u:=by
 unfold od;split
 .split
  .exact bH _ h u
  .exact aX h u
 .split
  .exact bH _ h u
  .exact aX h u
 .exact aX h u
theorem Lh(T)(ps)(h u):eJ (s7 P T ps) h u:=by
 unfold s7;split
 .split
  .split
   .exact bH _ h u
   .exact aX h u
  .split
   .split
    .split
     .exact bH _ h u
     .exact aX h u
    .exact aX h u
   .exact aX h u
 .exact aX h u
theorem A4(T)(mu)(n)(ps)(h u):eJ (kx P T mu n ps) h u:=by
 unfold eJ kx
 cases bu P T with
 |none=>exact aJ
 |some e=>
  dsimp only
  cases b8 P e with
  |none=>exact aJ
  |some sz=>
   dsimp only
   cases rm 0 sz ps with
   |none=>exact aJ
   |some xs=>
    dsimp only;by_cases hc:xs.length=n/\sz≠0/\n*sz<=16777216/\f8 P e sz=true
    .simp only[hc,and_self,not_false_eq_true,ne_eq,if_true]
     cases mu with
     |false=>
      cases gq xs with
      |some l=>exact bH _ h u
      |none=>exact⟨λv e=>(by injection e with e1 e2;exact absurd (congrArg List.length e2) (by simp)),λf a e=>(by cases e)⟩
     |true=>exact⟨λv e=>(by injection e with e1 e2;exact absurd (congrArg List.length e2) (by simp)),λf a e=>(by cases e)⟩
    .simp only[hc,if_false];exact aJ
theorem Jj(f)(args)(h u):eJ (λ_=>fN f args) h u:=by
 refine⟨λv e=>?_,λf a e=>e⟩;dsimp only at e;unfold fN at e;split at e<;>cases e
theorem A2(A)(ok)(x)(h u):eJ (ku P A ok x) h u:=by
 unfold eJ ku;split
 .split
  .exact⟨λv e=>(by cases e;rfl),λf a e=>(by cases e)⟩
  .split
   .split
    .exact⟨λv e=>(by cases e;rfl),λf a e=>(by cases e)⟩
    .exact aJ
   .exact aJ
 .exact aJ
theorem Le{mu}{o}(e)(hq:eH o.op=true)(h u)(hs:cw h u):eJ (bV P mu o e) h u:=by
 obtain⟨dst,op,type,pos,after,guard⟩:=o;cases op<;>first|(simp only[eH,d4]at hq;done)|skip
 case move x=>exact bH _ h u
 case assign x=>exact bH _ h u
 case pick c a b=>
  unfold eJ bV;dsimp only;split
  .exact bH _ h u
  .exact aJ
 case build t ps=>exact Lh _ _ h u
 case buildSlice t n ps=>exact A4 _ _ _ _ h u
 case load t a=>exact NU _ _ h u hs
 case nilCheck x=>
  unfold eJ bV;dsimp only;split
  .exact bH _ h u
  .exact Er h u hs
  .exact aJ
 case binOp op t x y ty=>exact QB _ _ _ _ _ h u
 case unOp op t x=>exact S7 _ _ h u
 case convert a b x=>exact GC _ _ _ h u
 case makeInterface t x=>
  unfold eJ bV;dsimp only;split
  .split
   .exact bH _ h u
   .exact aJ
  .exact aJ
 case makeFunc f a c=>exact dh (bH _ h u)
 case slice t x lo hi mx=>exact Ld _ _ _ _ _ h u hs
 case fieldAddr t x f=>exact C7 _ _ _ h u hs
 case field t x f=>exact Lg _ _ _ h u
 case indexAddr t x i=>exact C6 _ _ _ h u hs
 case index t x i=>exact Lf _ _ _ h u
 case extract x i=>exact GB _ _ h u
 case lookup t x k ok=>exact Ji _ _ _ _ h u hs
 case typeAssert x t a ok=>exact A2 _ _ _ h u
 case call c=>
  unfold eJ bV;dsimp only
  cases hc:c.callee with
  |value f=>exact Jj _ _ h u
  |invoke r mm=>simp[eH,hc]at hq
  |builtin b=>
   dsimp only;cases b<;>first|(simp[eH,hc]at hq;done)|skip
   all_goals
    unfold rn;split
    .exact dh (QA _ _ h u hs)
    .simp_all
    .exact bH _ h u
    .exact bH _ h u
    .simp_all
    .simp_all
    .simp_all
    .exact aJ
end Abs
end Go.Proofs.YtnjiadikeacfaaaGreatDoor
namespace Go.Proofs.YtnjiadikeacfaaaGreatDoor
namespace Abs
variable {P:Program} {H:Hints} {ops:Array Oper} {Q:Ex->AAct->Prop}
def eE (P:Program) (H:Hints) (ops:Array Oper) (Q:Ex->AAct->Prop) (o:Oper) (K:Heap->AAct->Prop) (hs:Heap) (A:AAct):Prop:=
 rG (λ_=>T3
   (λ_=>kA P A o.dst (λB=>K B.h B) Q (bV P (aN H) o A.eval A.h))
   (λ_=>BF A.h (λv h=>K hs (A.put o.dst v h)) (bV P (aN H) o A.eval A.h))
   (λ_=>xp P A.h (λv=>K hs (A.put o.dst v A.h)) (bV P (aN H) o A.eval A.h))
   (λ_=>xp P hs (λv=>K hs (A.put o.dst v A.h)) (bV P (aN H) o A.eval hs))
   (λj sz=>rJ hs A.h j sz (λv h=>K hs (A.put o.dst v h)) (gI P A.eval o.op))
   (λ_=>u6 P hs A.h A.eval (λh=>K hs (A.put o.dst (.p (.tuple [])) h)) o.op)
   (λ_=>vt P A.h A.eval (K hs (A.put o.dst (.p (.tuple [])) A.h)) o.op)
   (λ_=>yQ hs A.h (λv h=>K hs (A.put o.dst v h)) (bV P (aN H) o A.eval A.h))
   (λ_=>x8 P Q A (λv=>K hs (A.put o.dst v A.h)) (bV P (aN H) o A.eval A.h))
   (λ_=>rg P H Q hs A (λv h=>K hs (A.put o.dst v h)) (bV P (aN H) o A.eval A.h))
   (bQ H o))
  (λ_=>K hs (A.put o.dst (.p (.tuple [])) A.h)) (bz ops A o)
theorem Gr(o)(rest)(hs)(A):bP P H ops Q (o::rest) hs A=eE P H ops Q o (bP P H ops Q rest) hs A:=by
 rw[bP];rfl
inductive HE where
 |app (t:Heap)
 |set (id:Nat) (o:AObj)
def HE.ap:HE->Heap->Heap
 |.app t,h=>h++t
 |.set id o,h=>h.set id o
def Qv (P:Program) (h:Heap) (r:OR) (v:AV):Prop:=
 r=.val v h\/∃f args,r=.call f args/\∀h',cw h h'->aB P f args h' (λr h''=>r=.ret v/\h''=h')
def Ge (P:Program) (H:Hints) (o:Oper) (hs:Heap) (v:AV) (E:HE) (A:AAct):Prop:=
 ∃j sz z,bQ H o=.slot j sz/\gI P A.eval o.op=some z/\z.cells.map (·.length)=some sz/\iC hs (hs.length-1-j)=true/\A.h[hs.length-1-j]?=some (.row sz []) /\
  v=.ptr (hs.length-1-j) 1 0 0/\E=.set (hs.length-1-j) (.row sz [z])
def P8 (P:Program) (H:Hints) (o:Oper) (hs:Heap) (v:AV) (E:HE) (A:AAct):Prop:=
 bQ H o=.sto/\∃T a x id ver i k ob,o.op=.store T a x/\A.eval a=.ptr id ver i k/\iC hs id=true/\gE P T (.ptr id ver i k) (A.eval x) A.h=.skip (A.h.set id ob)/\v=.p (.tuple [])/\E=.set id ob
def P' (P:Program) (H:Hints) (o:Oper) (v:AV) (E:HE) (A:AAct):Prop:=
 bQ H o=.nop/\v=.p (.tuple [])/\E=.app []/\∃T a x,o.op=.store T a x/\gE P T (A.eval a) (A.eval x) A.h=.skip A.h
def Qd (P:Program) (H:Hints) (o:Oper) (hs:Heap) (v:AV) (E:HE) (A:AAct):Prop:=
 ∃t,bQ H o=.app t/\((∃l,E=.app l)\/∃id ob,E=.set id ob/\iC hs id=true)/\bV P (aN H) o A.eval A.h=.val v (E.ap A.h)
def P9 (P:Program) (H:Hints) (o:Oper) (v:AV) (E:HE) (A:AAct):Prop:=
 bQ H o=.thr/\E=.app []/\∃f args,bV P (aN H) o A.eval A.h=.call f args/\∀h',cw A.h h'->aB P f args h' (λr h''=>r=.ret v/\h''=h')
def TS (P:Program) (H:Hints) (ops:Array Oper) (Q:Ex->AAct->Prop) (o:Oper) (A:AAct):Prop:=
 bz ops A o=some true/\bQ H o=.thr/\∃f args v,bV P (aN H) o A.eval A.h=.call f args/\aB P f args A.h (λr h''=>r=.panic v/\h''=A.h)/\∀T,Q (.panic v) { A with tmps:=T }
def QS (P:Program) (H:Hints) (ops:Array Oper) (o:Oper) (hs:Heap) (v:AV) (E:HE) (A:AAct):Prop:=
 (bz ops A o=some false/\v=.p (.tuple [])/\E=.app []) \/
 (bz ops A o=some true /\
  ((bQ H o=.quiet/\E=.app []/\Qv P A.h (bV P (aN H) o A.eval A.h) v) \/
   (bQ H o=.low/\E=.app []/\Qv P hs (bV P (aN H) o A.eval hs) v) \/
   (bQ H o=.alloc/\∃t,E=.app t/\bV P (aN H) o A.eval A.h=.val v (A.h++t)) \/
   Ge P H o hs v E A\/P8 P H o hs v E A\/P' P H o v E A\/Qd P H o hs v E A\/P9 P H o v E A))
theorem Kl{T}{id ver i k}{y}{h h'}(e:gE P T (.ptr id ver i k) y h=.skip h'):∃ob,h'=h.set id ob:=by
 unfold gE at e;split at e
 .rename_i n hx _;split at e
  .split at e
   .split at e
    .split at e
     .cases hx;cases e;exact⟨_,rfl⟩
     .cases e
    .cases e
   .cases e
  .cases e
 .cases e
theorem qj{h}{K}{r}:xp P h K r↔∃v,Qv P h r v/\K v:=by
 constructor
 .intro k;cases r<;>first|exact k.elim|skip
  case val v h'=>obtain⟨rfl,k⟩:=k;exact⟨v,.inl rfl,k⟩
  case call f args=>obtain⟨v,k1,k2⟩:=k;exact⟨v,.inr ⟨f,args,rfl,k1⟩,k2⟩
 .rintro⟨v,rfl|⟨f,args,rfl,k1⟩,k2⟩
  .exact⟨rfl,k2⟩
  .exact⟨v,k1,k2⟩
theorem kn{o}{K}{hs}{A}{v}{E}(q:QS P H ops o hs v E A)(k:K hs (A.put o.dst v (E.ap A.h))):eE P H ops Q o K hs A:=by
 unfold eE;rcases q with⟨hw,rfl,rfl⟩|⟨hw,q⟩
 .rw[hw];refine⟨λh=>(by cases h),λ_=>?_⟩;simpa[HE.ap]using k
 .rw[hw];refine⟨λ_=>?_,λh=>(by cases h)⟩;rcases q with⟨hc,rfl,q⟩|⟨hc,rfl,q⟩|⟨hc,t,rfl,q⟩|⟨j,sz,z,hc,h1,h2,h3,h4,rfl,rfl⟩|⟨hc,T,a,x,id,ver,i,kk,ob,h1,h2,h3,h4,rfl,rfl⟩|⟨hc,rfl,rfl,T,a,x,h1,h2⟩|⟨t,hc,hE,hq⟩|⟨hc,rfl,f,args,h1,h2⟩
  .rw[hc];exact qj.2 ⟨v,q,by simpa[HE.ap]using k⟩
  .rw[hc];exact qj.2 ⟨v,q,by simpa[HE.ap]using k⟩
  .rw[hc,q];exact⟨⟨t,rfl⟩,k⟩
  .rw[hc];refine(show rJ hs A.h j sz (λv h=>K hs (A.put o.dst v h)) (gI P A.eval o.op) from ?_);rw[h1];exact⟨h2,h3,h4,k⟩
  .rw[hc];refine(show u6 P hs A.h A.eval (λh=>K hs (A.put o.dst (.p (.tuple [])) h)) o.op from ?_);rw[h1];show (match A.eval a with|.ptr id ver i o=>iC hs id=true/\pT _ (gE P T (.ptr id ver i o) (A.eval x) A.h)|_=>False);rw[h2];refine⟨h3,?_⟩;rw[h4];exact k
  .rw[hc];refine(show vt P A.h A.eval (K hs (A.put o.dst (.p (.tuple [])) A.h)) o.op from ?_);rw[h1];exact⟨h2,by simpa[HE.ap]using k⟩
  .rw[hc,hq];refine⟨?_,k⟩;rcases hE with⟨l,rfl⟩|⟨id,ob,rfl,hd⟩
   .exact .inl ⟨l,rfl⟩
   .exact .inr ⟨id,ob,rfl,hd⟩
  .rw[hc,h1];exact .inl ⟨v,h2,by simpa[HE.ap]using k⟩
theorem sd{o}{K}{hs}{A}(q:TS P H ops Q o A):eE P H ops Q o K hs A:=by
 obtain⟨hw,hc,f,args,v,h1,h2,h3⟩:=q;unfold eE;rw[hw];refine⟨λ_=>?_,λh=>(by cases h)⟩;rw[hc,h1];exact .inr ⟨v,h2,h3⟩
theorem mQ{o}{K}{hs}{A}(hc:bQ H o=.thr)(k:eE P H ops Q o K hs A) :
  (∃v E,QS P H ops o hs v E A/\K hs (A.put o.dst v (E.ap A.h)))\/TS P H ops Q o A:=by
 unfold eE at k
 cases hw:bz ops A o with
 |none=>rw[hw]at k;exact k.elim
 |some b=>
  rw[hw]at k
  cases b with
  |false=>exact .inl ⟨_,.app [],.inl ⟨hw,rfl,rfl⟩,by simpa[HE.ap]using k.2 rfl⟩
  |true=>
   have k1:=k.1 rfl;rw[hc]at k1;have k2:x8 P Q A (λv=>K hs (A.put o.dst v A.h)) (bV P (aN H) o A.eval A.h):=k1;cases hr:bV P (aN H) o A.eval A.h<;>rw[hr]at k2<;>first|exact k2.elim|skip
   rename_i f args;rcases k2 with⟨v,h1,h2⟩|⟨v,h1,h2⟩
   .exact .inl ⟨v,.app [],.inr ⟨hw,.inr (.inr (.inr (.inr (.inr (.inr (.inr ⟨hc,rfl,f,args,hr,h1⟩))))))⟩,by simpa[HE.ap]using h2⟩
   .exact .inr ⟨hw,hc,f,args,v,hr,h1,h2⟩
theorem Mn{hs}{A}{K K'}{r}(hk:∀v h,K v h->K' v h)(k:rg P H Q hs A K r):rg P H Q hs A K' r:=by
 cases r<;>first|exact k.elim|skip
 intro M0 m w cargs hS ha;obtain⟨h1,h2⟩:=k M0 m w cargs hS ha;refine⟨h1,h2.mono λ_ _ hb=>?_⟩;obtain⟨r,h',m',hR,rest⟩:=hb;exact⟨r,h',m',by cases r<;>first|exact⟨hR.1,hk _ _ hR.2⟩|exact hR,rest⟩
theorem nC{o}{K}{hs}{A}(hc:bQ H o=.cal)(k:eE P H ops Q o K hs A) :
  (∃v E,QS P H ops o hs v E A/\K hs (A.put o.dst v (E.ap A.h)))\/(bz ops A o=some true/\rg P H Q hs A (λv h=>K hs (A.put o.dst v h)) (bV P (aN H) o A.eval A.h)):=by
 unfold eE at k
 cases hw:bz ops A o with
 |none=>rw[hw]at k;exact k.elim
 |some b=>
  rw[hw]at k
  cases b with
  |false=>exact .inl ⟨_,.app [],.inl ⟨hw,rfl,rfl⟩,by simpa[HE.ap]using k.2 rfl⟩
  |true=>
   have k1:=k.1 rfl;rw[hc]at k1;exact .inr ⟨rfl,k1⟩
theorem u7{o}{K}{hs}{A}(hc:bQ H o=.cal)(hw:bz ops A o=some true)(k:rg P H Q hs A (λv h=>K hs (A.put o.dst v h)) (bV P (aN H) o A.eval A.h)):eE P H ops Q o K hs A:=by
 unfold eE;rw[hw];refine⟨λ_=>?_,λh=>(by cases h)⟩;rw[hc];exact k
theorem oz{o}{K}{hs}{A}(hb:(bQ H o≠.bar/\bQ H o≠.thr/\bQ H o≠.cal)\/bz ops A o=some false)(k:eE P H ops Q o K hs A) :
  ∃v E,QS P H ops o hs v E A/\K hs (A.put o.dst v (E.ap A.h)):=by
 unfold eE at k
 cases hw:bz ops A o with
 |none=>rw[hw]at k;exact k.elim
 |some b=>
  rw[hw]at k
  cases b with
  |false=>exact⟨_,.app [],.inl ⟨hw,rfl,rfl⟩,by simpa[HE.ap]using k.2 rfl⟩
  |true=>
   have k1:=k.1 rfl
   cases hc:bQ H o with
   |bar=>
    rcases hb with hb|hb
    .exact absurd hc hb.1
    .rw[hw]at hb;cases hb
   |thr=>
    rcases hb with hb|hb
    .exact absurd hc hb.2.1
    .rw[hw]at hb;cases hb
   |cal=>
    rcases hb with hb|hb
    .exact absurd hc hb.2.2
    .rw[hw]at hb;cases hb
   |alloc=>
    rw[hc]at k1;cases hr:bV P (aN H) o A.eval A.h<;>rw[hr]at k1<;>first|exact k1.elim|skip
    rename_i v h';obtain⟨⟨t,rfl⟩,k2⟩:=k1
    exact⟨v,.app t,.inr ⟨hw,.inr (.inr (.inl ⟨hc,t,rfl,hr⟩))⟩,k2⟩
   |quiet=>
    rw[hc]at k1;obtain⟨v,q,k2⟩:=qj.1 k1
    exact⟨v,.app [],.inr ⟨hw,.inl ⟨hc,rfl,q⟩⟩,by simpa[HE.ap]using k2⟩
   |low=>
    rw[hc]at k1;obtain⟨v,q,k2⟩:=qj.1 k1
    exact⟨v,.app [],.inr ⟨hw,.inr (.inl ⟨hc,rfl,q⟩)⟩,by simpa[HE.ap]using k2⟩
   |slot j sz=>
    rw[hc]at k1;have k2:rJ hs A.h j sz (λv h=>K hs (A.put o.dst v h)) (gI P A.eval o.op):=k1
    cases hz:gI P A.eval o.op with
    |none=>rw[hz]at k2;exact k2.elim
    |some z=>
     rw[hz]at k2;obtain⟨h1,h2,h3,k3⟩:=k2
     exact⟨_,.set _ _,.inr ⟨hw,.inr (.inr (.inr (.inl ⟨j,sz,z,hc,hz,h1,h2,h3,rfl,rfl⟩)))⟩,k3⟩
   |sto=>
    rw[hc]at k1;have k2:u6 P hs A.h A.eval (λh=>K hs (A.put o.dst (.p (.tuple [])) h)) o.op:=k1;unfold u6 at k2;split at k2
    .rename_i T a x hop;split at k2
     .rename_i id ver i kk ha;obtain⟨h1,k3⟩:=k2;unfold pT at k3;split at k3
      .rename_i h' hst;obtain⟨ob,rfl⟩:=Kl hst;exact⟨_,.set id ob,.inr ⟨hw,.inr (.inr (.inr (.inr (.inl ⟨hc,T,a,x,id,ver,i,kk,ob,hop,ha,h1,hst,rfl,rfl⟩))))⟩,k3⟩
      .exact k3.elim
     .exact k2.elim
    .exact k2.elim
   |nop=>
    rw[hc]at k1;have k2:vt P A.h A.eval (K hs (A.put o.dst (.p (.tuple [])) A.h)) o.op:=k1;unfold vt at k2;split at k2
    .rename_i T a x hop;exact⟨_,.app [],.inr ⟨hw,.inr (.inr (.inr (.inr (.inr (.inl ⟨hc,rfl,rfl,T,a,x,hop,k2.1⟩)))))⟩,by simpa[HE.ap]using k2.2⟩
    .exact k2.elim
   |app t=>
    rw[hc]at k1;have k2:yQ hs A.h (λv h=>K hs (A.put o.dst v h)) (bV P (aN H) o A.eval A.h):=k1;cases hr:bV P (aN H) o A.eval A.h<;>rw[hr]at k2<;>first|exact k2.elim|skip
    rename_i v h';obtain⟨⟨l,rfl⟩|⟨id,ob,rfl,hd⟩,k3⟩:=k2
    .exact⟨v,.app l,.inr ⟨hw,.inr (.inr (.inr (.inr (.inr (.inr (.inl ⟨t,hc,.inl ⟨l,rfl⟩,hr⟩))))))⟩,k3⟩
    .exact⟨v,.set id ob,.inr ⟨hw,.inr (.inr (.inr (.inr (.inr (.inr (.inl ⟨t,hc,.inr ⟨id,ob,rfl,hd⟩,hr⟩))))))⟩,k3⟩
theorem nV{A}{dst}{K K'}{r}(h:∀B,K B->K' B)(k:kA P A dst K Q r):kA P A dst K' Q r:=by
 cases r with
 |val v h'=>exact h _ k
 |skip h'=>exact h _ k
 |call f args=>
  intro M0 m w cargs hS ha;obtain⟨h1,h2⟩:=k M0 m w cargs hS ha;refine⟨h1,h2.mono λ_ _ hb=>?_⟩;obtain⟨r,h',m',hR,rest⟩:=hb
  exact⟨r,h',m',by cases r<;>first|exact h _ hR|exact hR,rest⟩
 |yld l args=>
  refine⟨k.1,λM0 m w cargs bl hS ha hbl=>?_⟩;obtain⟨f,tmps,asx,bd,h1,h2⟩:=k.2 M0 m w cargs bl hS ha hbl;refine⟨f,tmps,asx,bd,h1,λc cs=>?_⟩;obtain⟨e,w',⟨r,h',m',hR,rest⟩,hs⟩:=h2 c cs
  exact⟨e,w',⟨r,h',m',by cases r<;>first|exact h _ hR|exact hR,rest⟩,hs⟩
 |dfr d=>
  simp only[kA]at k |-;have gen:∀{X Y:Prop} {c:Rc},(X->Y)->ur X c->ur Y c:=λhx hc=>by
   rename_i c;cases c<;>first|exact False.elim hc|exact hx hc
  exact gen (h _) k
 |recover=>
  simp only[kA]at k |-;have gen:∀{X Y:AAct->PV->Prop} {c:Rc},(∀B v,X B v->Y B v)->NP A X c->NP A Y c:=λhx hc=>by
   rename_i c;cases c<;>first|exact False.elim hc|exact hx _ _ hc
  exact gen (λ_ _=>h _) k
 |panic v=>exact k
 |stuck=>exact k
theorem zk{o}{K K'}{hs}{A}(h:∀hs A,K hs A->K' hs A)(k:eE P H ops Q o K hs A):eE P H ops Q o K' hs A:=by
 by_cases ht:bQ H o=.thr
 .rcases mQ ht k with⟨v,E,q,k1⟩|q
  .exact kn q (h _ _ k1)
  .exact sd q
 by_cases hcl:bQ H o=.cal
 .rcases nC hcl k with⟨v,E,q,k1⟩|⟨hw,k1⟩
  .exact kn q (h _ _ k1)
  .exact u7 hcl hw (Mn (λv h' hk=>h _ _ hk) k1)
 by_cases hb:bQ H o≠.bar\/bz ops A o=some false
 .obtain⟨v,E,q,k1⟩:=oz (hb.imp (λh=>⟨h,ht,hcl⟩) id) k;exact kn q (h _ _ k1)
 .have hb1:bQ H o=.bar:=Classical.byContradiction λhn=>hb (.inl hn);unfold eE at k |-
  cases hw:bz ops A o with
  |none=>rw[hw]at k;exact k.elim
  |some b=>
   rw[hw,hb1]at k;rw[hb1]
   cases b with
   |false=>exact absurd (.inr hw) hb
   |true=>
    have k1:kA P A o.dst (λB=>K B.h B) Q (bV P (aN H) o A.eval A.h):=k.1 rfl;exact⟨λ_=>nV (K':=λB=>K' B.h B) (λB=>h B.h B) k1,λh=>(by cases h)⟩
theorem JQ{o}(h:bQ H o=.quiet):eH o.op=true:=by
 unfold bQ at h;split at h
 .unfold tF at h;split at h
  .split at h<;>cases h
  .cases h
 .split at h
  .split at h
   .cases h
   .split at h
    .assumption
    .cases h
  .cases h
  .split at h<;>cases h
  .split at h<;>cases h
  .split at h<;>cases h
  .split at h<;>cases h
  .split at h<;>cases h
  .cases h
theorem OG{o}(h:bQ H o=.low):eH o.op=true:=by
 unfold bQ at h;split at h
 .unfold tF at h;split at h
  .split at h<;>cases h
  .cases h
 .split at h
  .split at h
   .cases h
   .split at h<;>cases h
  .cases h
  .split at h
   .assumption
   .cases h
  .split at h<;>cases h
  .split at h<;>cases h
  .split at h<;>cases h
  .split at h<;>cases h
  .cases h
theorem L9{o}{j sz}(h:bQ H o=.slot j sz):yz o.op=true:=by
 unfold bQ at h;split at h
 .unfold tF at h;split at h
  .split at h<;>cases h
  .cases h
 .split at h
  .split at h
   .cases h
   .split at h<;>cases h
  .cases h
  .split at h<;>cases h
  .split at h
   .assumption
   .cases h
  .split at h<;>cases h
  .split at h<;>cases h
  .split at h<;>cases h
  .cases h
theorem pB{e e'}{o:Oper}(he:∀x∈o.op.operands,e x=e' x):gI P e o.op=gI P e' o.op:=by
 unfold gI;split
 .rfl
 .rename_i T x hop;rw[he x (by rw[hop];simp[Op.operands])]
 .rfl
theorem lz{A:AAct}{dst}{v}{h}{o:Oper}(hd:∀d,dst=some d->d∉o.looksAt ops):∀x∈o.op.operands,(A.put dst v h).eval x=A.eval x:=by
 intro x hx;refine OB λd hd' hxd=>hd d hd' ?_;subst hxd;exact List.mem_append_left _ (List.mem_filterMap.2 ⟨.tmp d,by simpa using hx,rfl⟩)
theorem QS.same{o}{hs}{v}{E}{A B}(q:QS P H ops o hs v E A)(hw:bz ops B o=bz ops A o)(he:∀x∈o.op.operands,B.eval x=A.eval x)(hh:B.h=A.h):QS P H ops o hs v E B:=by
 have hop:∀h,bV P (aN H) o B.eval h=bV P (aN H) o A.eval h:=λh=>lg o he;unfold QS Ge P8 P' Qd P9 at *
 rw[hw,hh,pB he];simp only[hop];rcases q with q|⟨q1,q|q|q|q|⟨hc,T,a,x,id,ver,i,kk,ob,h1,h2,h3,h4,h5⟩|⟨hc,h1,h2,T,a,x,h3,h4⟩|q⟩
 .exact .inl q
 .exact .inr ⟨q1,.inl q⟩
 .exact .inr ⟨q1,.inr (.inl q)⟩
 .exact .inr ⟨q1,.inr (.inr (.inl q))⟩
 .exact .inr ⟨q1,.inr (.inr (.inr (.inl q)))⟩
 .refine .inr ⟨q1,.inr (.inr (.inr (.inr (.inl ⟨hc,T,a,x,id,ver,i,kk,ob,h1,?_,h3,?_,h5⟩))))⟩
  .rw[he a (by rw[h1];simp[Op.operands])];exact h2
  .rw[he x (by rw[h1];simp[Op.operands])];exact h4
 .refine .inr ⟨q1,.inr (.inr (.inr (.inr (.inr (.inl ⟨hc,h1,h2,T,a,x,h3,?_⟩)))))⟩;rw[he a (by rw[h3];simp[Op.operands]),he x (by rw[h3];simp[Op.operands])];exact h4
 .exact .inr ⟨q1,.inr (.inr (.inr (.inr (.inr (.inr q)))))⟩
theorem Rt{o o'}{hs}{v}{E}{A}{K}(hp:oQ H ops o o'=true)(q:QS P H ops o hs v E A)
  (k:eE P H ops Q o' K hs (A.put o.dst v (E.ap A.h))):eE P H ops Q o' (λhs' A'=>QS P H ops o hs' v E A'/\K hs' (A'.put o.dst v (E.ap A'.h))) hs A:=by
 unfold oQ at hp;simp only[dD]at hp;obtain⟨hall,hap,hkp⟩:=hp;obtain⟨a1,a2,a3⟩:=Oper.apart_spec hap;have hb2:bQ H o'≠.bar:=by
  intro hb;have hall':∀c,kU c .bar=false:=by intro c;cases c<;>rfl
  rw[hb,hall']at hall;simp[p6]at hall
 by_cases hcl:bQ H o'=.cal/\bz ops (A.put o.dst v (E.ap A.h)) o'=some true
 .obtain⟨hcl,hwt⟩:=hcl;have hlow:bQ H o=.low:=by
   rw[hcl]at hall;cases hc:bQ H o<;>rw[hc]at hall<;>first|rfl|(simp[kU,wS,p6]at hall)
  have hE:E=.app []/\∀A',bz ops A' o=bz ops A o->(∀x∈o.op.operands,A'.eval x=A.eval x)->QS P H ops o hs v E A':=by
   rcases q with⟨hw,hv,hE⟩|⟨hw,⟨hc',_⟩|⟨hc',hE,hq⟩|⟨hc',_⟩|⟨_,_,_,hc',_⟩|⟨hc',_⟩|⟨hc',_⟩|⟨_,hc',_⟩|⟨hc',_⟩⟩
   .exact⟨hE,λA' h1 _=>.inl ⟨h1.trans hw,hv,hE⟩⟩
   .rw[hlow]at hc';cases hc'
   .refine⟨hE,λA' h1 h2=>.inr ⟨h1.trans hw,.inr (.inl ⟨hc',hE,?_⟩)⟩⟩;rw[lg o h2];exact hq
   all_goals (rw[hlow]at hc';cases hc')
  obtain⟨rfl,hqs⟩:=hE;rcases nC hcl k with⟨v',E',q',k'⟩|⟨_,kc⟩
  .rcases q' with⟨hw',_⟩|⟨_,⟨hc',_⟩|⟨hc',_⟩|⟨hc',_⟩|⟨_,_,_,hc',_⟩|⟨hc',_⟩|⟨hc',_⟩|⟨_,hc',_⟩|⟨hc',_⟩⟩
   .rw[hwt]at hw';cases hw'
   all_goals (rw[hcl]at hc';cases hc')
  .have e1:(A.put o.dst v (HE.ap (.app []) A.h)).h=A.h:=by rw[iU];simp[HE.ap]
   have e2:bV P (aN H) o' (A.put o.dst v (HE.ap (.app []) A.h)).eval A.h=bV P (aN H) o' A.eval A.h:=lg o' (lz a1);refine u7 hcl ((kt a1).symm.trans hwt) ?_;rw[e1,e2]at kc;cases hr:bV P (aN H) o' A.eval A.h<;>rw[hr]at kc<;>first|exact kc.elim|skip
   rename_i f args;have kc2:aB P f args A.h (Bh (λu h=>cw hs h/\K hs ((A.put o.dst v (HE.ap (.app []) A.h)).put o'.dst u h)) (λu h=>∀T,Ju H T (A.put o.dst v (HE.ap (.app []) A.h)).tmps->Q (.panic u) { A.put o.dst v (HE.ap (.app []) A.h) with tmps:=T,h:=h })):=by
    have:aB P f args (A.put o.dst v (HE.ap (.app []) A.h)).h (Bh (λu h=>cw hs h/\K hs ((A.put o.dst v (HE.ap (.app []) A.h)).put o'.dst u h)) (λu h=>∀T,Ju H T (A.put o.dst v (HE.ap (.app []) A.h)).tmps->Q (.panic u) { A.put o.dst v (HE.ap (.app []) A.h) with tmps:=T,h:=h })):=kc;rw[e1]at this;exact this
   intro M0 m w cargs hS ha;obtain⟨h1,h2⟩:=kc2 M0 m w cargs hS ha;refine⟨h1,h2.mono λ_ _ hb=>?_⟩;obtain⟨r,h',m',hR,rest⟩:=hb;refine⟨r,h',m',?_,rest⟩
   cases r with
   |ret u=>
    refine⟨hR.1,hqs _ (kt a3) (lz a3),?_⟩;have e3:HE.ap (.app []) (A.put o'.dst u h').h=h':=by rw[iU];simp[HE.ap]
    rw[e3,<-Em A v u (HE.ap (.app []) A.h) h' h' a2]
    exact hR.2
   |panic u=>
    intro T hT;have:=hR T (λt ht=>by
     rw[hT t ht];unfold PY at hkp;rw[hcl]at hkp
     cases hd:o.dst with
     |none=>rfl
     |some d=>
      rw[hd]at hkp;have hne:t≠d:=by
       rintro rfl
       simp[ht]at hkp
      simp[AAct.put,uY,hne])
    have e:({ A.put o.dst v (HE.ap (.app []) A.h) with tmps:=T,h:=h' }:AAct)={ A with tmps:=T,h:=h' }:=by
     cases o.dst<;>simp[AAct.put]
    rw[e]at this;exact this
 have hcase:(∃v' E',QS P H ops o' hs v' E' (A.put o.dst v (E.ap A.h))/\K hs ((A.put o.dst v (E.ap A.h)).put o'.dst v' (E'.ap (A.put o.dst v (E.ap A.h)).h)))\/(TS P H ops Q o' (A.put o.dst v (E.ap A.h))/\E=.app []):=by
  by_cases ht:bQ H o'=.thr
  .rcases mQ ht k with h|h
   .exact .inl h
   .refine .inr ⟨h,?_⟩;rw[ht]at hall;rcases q with⟨_,_,h⟩|⟨_,⟨_,h,_⟩|⟨_,h,_⟩|⟨hc',_⟩|⟨_,_,_,hc',_⟩|⟨hc',_⟩|⟨hc',_⟩|⟨_,hc',_⟩|⟨hc',_⟩⟩
    .exact h
    .exact h
    .exact h
    all_goals (rw[hc']at hall;simp[kU,wS,p6]at hall)
  .by_cases hcl2:bQ H o'=.cal
   .rcases nC hcl2 k with h|⟨h,_⟩
    .exact .inl h
    .exact absurd ⟨hcl2,h⟩ hcl
   .exact .inl (oz (.inl ⟨hb2,ht,hcl2⟩) k)
 rcases hcase with⟨v',E',q',k'⟩|⟨⟨tw,tc,f,args,u,t1,t2,t3⟩,rfl⟩
 rotate_left
 .refine sd ⟨(kt a1).symm.trans tw,tc,f,args,u,?_,?_,λT=>?_⟩
  .rw[<-t1,iU];simp only[HE.ap,bw];exact(lg o' (lz a1)).symm
  .rw[iU]at t2;simpa[HE.ap]using t2
  .have:=t3 T;have e:({ A.put o.dst v (HE.ap (.app []) A.h) with tmps:=T }:AAct)={ A with tmps:=T }:=by
    cases o.dst<;>simp[AAct.put,HE.ap]
   rw[e]at this;exact this
 have hput:(A.put o.dst v (E.ap A.h)).h=E.ap A.h:=iU _ _ _ _;have hput':(A.put o'.dst v' (E'.ap A.h)).h=E'.ap A.h:=iU _ _ _ _;have ee:∀x∈o'.op.operands,(A.put o.dst v (E.ap A.h)).eval x=A.eval x:=lz a1;have ew:bz ops (A.put o.dst v (E.ap A.h)) o'=bz ops A o':=kt a1;have ee':∀x∈o.op.operands,(A.put o'.dst v' (E'.ap A.h)).eval x=A.eval x:=lz a3;have ew':bz ops (A.put o'.dst v' (E'.ap A.h)) o=bz ops A o:=kt a3;have hop:∀h,bV P (aN H) o' (A.put o.dst v (E.ap A.h)).eval h=bV P (aN H) o' A.eval h:=λh=>lg o' ee;have hop':∀h,bV P (aN H) o (A.put o'.dst v' (E'.ap A.h)).eval h=bV P (aN H) o A.eval h:=λh=>lg o ee'
 have fin:QS P H ops o' hs v' E' A->QS P H ops o hs v E (A.put o'.dst v' (E'.ap A.h))->E.ap (E'.ap A.h)=E'.ap (E.ap A.h) ->
   eE P H ops Q o' (λhs' A'=>QS P H ops o hs' v E A'/\K hs' (A'.put o.dst v (E.ap A'.h))) hs A:=by
  intro qA qB hEE;refine kn qA ⟨qB,?_⟩;rw[hput'];rw[hput]at k';have:(A.put o'.dst v' (E'.ap A.h)).put o.dst v (E.ap (E'.ap A.h))=(A.put o.dst v (E.ap A.h)).put o'.dst v' (E'.ap (E.ap A.h)):=by
   rw[hEE];exact(Em A v v' _ _ _ a2).symm
  rw[this];exact k'
 have still:E=.app []->QS P H ops o' hs v' E' A:=λhE=>by
  refine q'.same ew.symm (λx hx=>(ee x hx).symm) ?_;rw[hput,hE];simp[HE.ap]
 have still':E'=.app []->QS P H ops o hs v E (A.put o'.dst v' (E'.ap A.h)):=λhE=>by
  refine q.same ew' ee' ?_;rw[hput',hE];simp[HE.ap]
 have lowA:(bz ops A o'=some false/\v'=.p (.tuple [])/\E'=.app [])\/(bz ops A o'=some true/\bQ H o'=.low/\E'=.app []/\Qv P hs (bV P (aN H) o' A.eval hs) v') ->
   eE P H ops Q o' (λhs' A'=>QS P H ops o hs' v E A'/\K hs' (A'.put o.dst v (E.ap A'.h))) hs A:=by
  rintro(⟨hw,hv,hE⟩|⟨hw,hc,hE,hq⟩)
  .exact fin (.inl ⟨hw,hv,hE⟩) (still' hE) (by rw[hE];simp[HE.ap])
  .exact fin (.inr ⟨hw,.inr (.inl ⟨hc,hE,hq⟩)⟩) (still' hE) (by rw[hE];simp[HE.ap])
 have q0:=q';unfold QS at q';rw[ew]at q';simp only[hop]at q';have q1:=q;rcases q with⟨hw,rfl,rfl⟩|⟨hw,⟨hc,rfl,hq⟩|⟨hc,rfl,hq⟩|⟨hc,t,rfl,hq⟩|hsl|hst|hnp|hap'|hret⟩
 .exact fin (still rfl) (.inl ⟨ew'.trans hw,rfl,rfl⟩) (by simp[HE.ap])
 .have happ:∃t',E'=.app t':=by
   rcases q' with⟨_,_,h⟩|⟨_,⟨_,h,_⟩|⟨_,h,_⟩|⟨_,t',h,_⟩|⟨_,_,_,hc',_⟩|⟨hc',_⟩|⟨_,_,h,_⟩|⟨_,hc',_⟩|⟨hc',hE',_⟩⟩
   .exact⟨_,h⟩
   .exact⟨_,h⟩
   .exact⟨_,h⟩
   .exact⟨t',h⟩
   .rw[hc,hc']at hall;cases hall
   .rw[hc,hc']at hall;cases hall
   .exact⟨_,h⟩
   .rw[hc,hc']at hall;cases hall
   .exact⟨_,hE'⟩
  obtain⟨t',rfl⟩:=happ;refine fin (still rfl) (.inr ⟨ew'.trans hw,.inl ⟨hc,rfl,?_⟩⟩) (by simp[HE.ap]);rw[hput',hop'];have hpre:=Le (P:=P) (mu:=aN H) (o:=o) A.eval (JQ hc) A.h (A.h++t') (cw.app _ _);rcases hq with hq|⟨f,args,hq,hcall⟩
  .exact .inl (hpre.1 _ hq)
  .exact .inr ⟨f,args,hpre.2 _ _ hq,λh' hs'=>hcall h' ((cw.app _ _).trans hs')⟩
 .exact fin (still rfl) (.inr ⟨ew'.trans hw,.inr (.inl ⟨hc,rfl,by rw[hop'];exact hq⟩)⟩) (by simp[HE.ap])
 .rcases q' with h|⟨hw',⟨hc',_⟩|h|⟨hc',_⟩|⟨_,_,_,hc',_⟩|⟨hc',_⟩|⟨hc',_⟩|⟨_,hc',_⟩|⟨hc',hE',_⟩⟩
  .exact lowA (.inl h)
  .rw[hc,hc']at hall;cases hall
  .exact lowA (.inr ⟨hw',h⟩)
  .rw[hc,hc']at hall;cases hall
  .rw[hc,hc']at hall;cases hall
  .rw[hc,hc']at hall;cases hall
  .rw[hc,hc']at hall;cases hall
  .rw[hc,hc']at hall;cases hall
  .rw[hc,hc']at hall;cases hall
 .obtain⟨j,sz,z,hc,h1,h2,h3,h4,rfl,rfl⟩:=hsl;rcases q' with h|⟨hw',⟨hc',_⟩|h|⟨hc',_⟩|⟨j',sz',z',hc',g1,g2,g3,g4,rfl,rfl⟩|⟨hc',_⟩|⟨hc',_⟩|⟨_,hc',_⟩|⟨hc',hE',_⟩⟩
  .exact lowA (.inl h)
  .rw[hc,hc']at hall;cases hall
  .exact lowA (.inr ⟨hw',h⟩)
  .rw[hc,hc']at hall;cases hall
  .rw[hput]at g4;have hne:hs.length-1-j≠hs.length-1-j':=by
    intro e;have hlt:=(ax.1 h4).1;have g5:(A.h.set (hs.length-1-j) (.row sz [z]))[hs.length-1-j']?=some (.row sz' []):=g4;rw[<-e,iJ hlt]at g5;cases g5
   have g5:A.h[hs.length-1-j']?=some (.row sz' []):=by
    have:(A.h.set (hs.length-1-j) (.row sz [z]))[hs.length-1-j']?=some (.row sz' []):=g4;rwa [dS hne]at this
   refine fin (.inr ⟨hw',.inr (.inr (.inr (.inl ⟨j',sz',z',hc',?_,g2,g3,g5,rfl,rfl⟩)))⟩) (.inr ⟨ew'.trans hw,.inr (.inr (.inr (.inl ⟨j,sz,z,hc,?_,h2,h3,?_,rfl,rfl⟩)))⟩) ?_
   .rw[<-pB ee];exact g1
   .rw[pB ee'];exact h1
   .rw[hput'];show (A.h.set (hs.length-1-j') (.row sz' [z']))[hs.length-1-j]?=_;rw[dS (Ne.symm hne)];exact h4
   .exact List.set_comm _ _ (Ne.symm hne)
  .rw[hc,hc']at hall;cases hall
  .rw[hc,hc']at hall;cases hall
  .rw[hc,hc']at hall;cases hall
  .rw[hc,hc']at hall;cases hall
 .have hc:=hst.1;rcases q' with h|⟨hw',⟨hc',_⟩|h|⟨hc',_⟩|⟨_,_,_,hc',_⟩|⟨hc',_⟩|⟨hc',_⟩|⟨_,hc',_⟩|⟨hc',hE',_⟩⟩
  .exact lowA (.inl h)
  .rw[hc,hc']at hall;cases hall
  .exact lowA (.inr ⟨hw',h⟩)
  .rw[hc,hc']at hall;cases hall
  .rw[hc,hc']at hall;cases hall
  .rw[hc,hc']at hall;cases hall
  .rw[hc,hc']at hall;cases hall
  .rw[hc,hc']at hall;cases hall
  .rw[hc,hc']at hall;cases hall
 .obtain⟨hc,rfl,rfl,T,a,x,h1,h2⟩:=hnp;have hE':E'=.app []:=by
   rcases q' with⟨_,_,h⟩|⟨_,⟨_,h,_⟩|⟨_,h,_⟩|⟨hc',_⟩|⟨_,_,_,hc',_⟩|⟨hc',_⟩|⟨_,_,h,_⟩|⟨_,hc',_⟩|⟨hc',_,_⟩⟩
   .exact h
   .exact h
   .exact h
   .rw[hc,hc']at hall;cases hall
   .rw[hc,hc']at hall;cases hall
   .rw[hc,hc']at hall;cases hall
   .exact h
   .rw[hc,hc']at hall;cases hall
   .rw[hc,hc']at hall;cases hall
  exact fin (still rfl) (still' hE') (by rw[hE'])
 .obtain⟨t,hc,_⟩:=hap';rcases q' with h|⟨hw',⟨hc',_⟩|h|⟨hc',_⟩|⟨_,_,_,hc',_⟩|⟨hc',_⟩|⟨hc',_⟩|⟨_,hc',_⟩|⟨hc',hE',_⟩⟩
  .exact lowA (.inl h)
  .rw[hc,hc']at hall;cases hall
  .exact lowA (.inr ⟨hw',h⟩)
  all_goals (rw[hc,hc']at hall;cases hall)
 .obtain⟨hc,rfl,hrest⟩:=hret;have hE':E'=.app []:=by
   rcases q' with⟨_,_,h⟩|⟨_,⟨_,h,_⟩|⟨_,h,_⟩|⟨hc',_⟩|⟨_,_,_,hc',_⟩|⟨hc',_⟩|⟨_,_,h,_⟩|⟨_,hc',_⟩|⟨_,h,_⟩⟩
   .exact h
   .exact h
   .exact h
   .rw[hc,hc']at hall;simp[kU,p6]at hall
   .rw[hc,hc']at hall;simp[kU,p6]at hall
   .rw[hc,hc']at hall;simp[kU,p6]at hall
   .exact h
   .rw[hc,hc']at hall;simp[kU,p6]at hall
   .exact h
  exact fin (still rfl) (still' hE') (by rw[hE'])
end Abs
end Go.Proofs.YtnjiadikeacfaaaGreatDoor
namespace Go.Proofs.YtnjiadikeacfaaaGreatDoor
namespace Abs
variable {P:Program} {H:Hints} {ops:Array Oper} {Q:Ex->AAct->Prop}
def uD (acc:Array Nat) (o:Oper):Array Nat:=acc.push (o.after.foldl (λs e=>if Region.binds .any e then s||| 2^e.on||| acc.getD e.on 0 else s) 0)
def qt (p:List Oper) (acc:Array Nat):Prop:=
 acc.size=p.length/\∀j i,(acc.getD j 0).testBit i=true->∃o,p[j]?=some o/\∃e,e∈o.after/\Region.binds .any e=true/\(i=e.on\/(e.on<j/\(acc.getD e.on 0).testBit i=true))
theorem Ad(acc:Array Nat)(i):∀(l:List Edge) (s),(l.foldl (λs e=>if Region.binds .any e then s||| 2^e.on||| acc.getD e.on 0 else s) s).testBit i=true ->
  s.testBit i=true\/∃e,e∈l/\Region.binds .any e=true/\(i=e.on\/(acc.getD e.on 0).testBit i=true)
 |[],s,h=>.inl h
 |e::l,s,h=>by
  simp only[pp]at h;rcases Ad acc i l _ h with h|⟨e',h1,h2⟩
  .by_cases hb:Region.binds .any e=true
   .simp only[hb,if_true,Nat.testBit_or,Ng]at h;rcases h with(h|h)|h
    .exact .inl h
    .refine .inr ⟨e,by simp,hb,.inl ?_⟩;rw[Nat.testBit_two_pow]at h;exact(of_decide_eq_true h).symm
    .exact .inr ⟨e,by simp,hb,.inr h⟩
   .simp only[hb,if_false,d4]at h;exact .inl h
  .exact .inr ⟨e',by simp[h1],h2⟩
theorem MP{p}{acc}(h:qt p acc)(o):qt (p++[o]) (uD acc o):=by
 obtain⟨h1,h2⟩:=h;refine⟨by simp[uD,h1],λj i hj=>?_⟩;have low:∀k,k<acc.size->(uD acc o).getD k 0=acc.getD k 0:=by
  intro k hk;simp[uD,fz,IT,wy hk]
 rcases IU j acc.size with hlt|heq|hgt
 .rw[low j hlt]at hj;obtain⟨o',h3,e,h4,h5,h6⟩:=h2 j i hj;refine⟨o',by rw[aZ (by omega)];exact h3,e,h4,h5,?_⟩;rcases h6 with h6|⟨h6,h7⟩
  .exact .inl h6
  .exact .inr ⟨h6,by rw[low e.on (by omega)];exact h7⟩
 .subst heq;refine⟨o,by rw[h1];simp,?_⟩;have hj':(o.after.foldl (λs e=>if Region.binds .any e then s||| 2^e.on||| acc.getD e.on 0 else s) 0).testBit i=true:=by
   simpa[uD,fz]using hj
  rw[<-y7]at hj';rcases Ad acc i _ _ hj' with h|⟨e,h3,h4,h5⟩
  .simp at h
  .refine⟨e,IH.1 h3,h4,?_⟩;rcases h5 with h5|h5
   .exact .inl h5
   .have hlt:e.on<acc.size:=by
     rcases dg e.on acc.size with hx|hx
     .exact hx
     .simp[fz,pN hx]at h5
    exact .inr ⟨hlt,by rw[low _ hlt];exact h5⟩
 .have:(uD acc o).getD j 0=0:=by
   simp[uD,fz,pN (show (acc.push _).size<=j by simp;omega)]
  rw[this]at hj;simp at hj
theorem xR(ops):qt ops.toList (Region.before ops):=by
 have key:∀(l p:List Oper) (acc:Array Nat),qt p acc->qt (p++l) (l.foldl uD acc):=by
  intro l
  induction l with
  |nil=>intro p acc h;simpa using h
  |cons o l ih=>
   intro p acc h;have:=ih (p++[o]) _ (MP h o);simpa using this
 have h0:qt [] #[]:=⟨rfl,λj i h=>by simp at h⟩
 have:=key ops.toList [] #[] h0;have heq:Region.before ops=ops.toList.foldl uD #[]:=by
  unfold Region.before;rw[<-y7];rfl
 rw[heq];simpa using this
def yW (ops:Array Oper) (ao:Array Bool):Prop:=
 ∀j o,ao.getD j false=true->ops[j]?=some o->∀e,e∈o.after->Region.binds .any e=true->ao.getD e.on false=true
theorem uC{ao}(hD:yW ops ao):∀(j i) (o),ops[j]?=some o->(∀e,e∈o.after->Region.binds .any e=true->ao.getD e.on false=true) ->
  FV (Region.before ops) i j=true->ao.getD i false=true:=by
 intro j
 induction j using Nat.strongRecOn with
 |_ j ih=>
  intro i o ho hall hb;obtain⟨o',h1,e,h2,h3,h4⟩:=(xR ops).2 j i hb;have ho':ops[j]?=some o':=by simpa using h1
  rw[ho]at ho';cases ho';rcases h4 with rfl|⟨h4,h5⟩
  .exact hall e h2 h3
  .have hl:=hall e h2 h3;obtain⟨o2,h6,_⟩:=(xR ops).2 e.on i h5;have h6':ops[e.on]?=some o2:=by simpa using h6
   exact ih e.on h4 i o2 h6' (hD e.on o2 hl h6') h5
theorem yW.set{ao}(hD:yW ops ao){i}(hi:i∈Region.ready .any ops ao):yW ops (ao.setIfInBounds i true):=by
 intro j o hj ho e he hb;obtain⟨h0,oi,hoi,hall⟩:=mem_ready.1 hi;by_cases hji:j=i
 .subst hji;rw[ho]at hoi;cases hoi;exact getD_set_true (hall e he hb)
 .rw[getD_set_ne false (Ne.symm hji)]at hj;exact getD_set_true (hD j o hj ho e he hb)
def yX (P:Program) (H:Hints) (ops:Array Oper) (Q:Ex->AAct->Prop):Nat->Array Bool->Heap->AAct->Prop
 |0,ao,_,A=>Region.ready .any ops ao=[]/\Q .normal A
 |fuel+1,ao,hs,A=>
  (Region.ready .any ops ao=[]->Q .normal A) /\
  ∀i∈Region.ready .any ops ao,∀o,ops[i]?=some o->eE P H ops Q o (yX P H ops Q fuel (ao.setIfInBounds i true)) hs A
def qr (H:Hints) (ops:Array Oper) (ao:Array Bool) (i:Nat) (oi:Oper):Prop:=∀j o,j≠i->ao.getD j true=false->ops[j]?=some o->FV (Region.before ops) i j=true\/oQ H ops oi o=true
theorem sN{ao:Array Bool}{j}:(ao.setIfInBounds j true).getD j true=true:=by
 rw[fz,PE];rw[if_pos rfl];split<;>rfl
theorem qr.set{H}{ops}{ao}{i}{oi}(h:qr H ops ao i oi)(j):qr H ops (ao.setIfInBounds j true) i oi:=by
 intro x o hxi hx ho;by_cases hxj:j=x
 .subst hxj;rw[sN]at hx;cases hx
 .rw[getD_set_ne true hxj]at hx;exact h x o hxi hx ho
theorem CS{i}{oi}{v}{E}(hi:ops[i]?=some oi) :
  ∀(fuel) (ao) (hs) (A),yW ops ao->qr H ops ao i oi->i∈Region.ready .any ops ao->QS P H ops oi hs v E A ->
   yX P H ops Q fuel (ao.setIfInBounds i true) hs (A.put oi.dst v (E.ap A.h))->yX P H ops Q (fuel+1) ao hs A:=by
 intro fuel
 induction fuel with
 |zero=>
  intro ao hs A _ _ hr q k;refine⟨λh=>(by rw[h]at hr;cases hr),λj hj o ho=>?_⟩;by_cases hji:j=i
  .subst hji;rw[hi]at ho;cases ho;exact kn q k
  .have:=ready_mono hj hji;rw[k.1]at this
   cases this
 |succ fuel ih=>
  intro ao hs A hD hB hr q k;refine⟨λh=>(by rw[h]at hr;cases hr),λj hj o ho=>?_⟩;by_cases hji:j=i
  .subst hji;rw[hi]at ho;cases ho;exact kn q k
  .have h1:=k.2 j (ready_mono hj hji) o ho;obtain⟨hjun,oj,hoj,hall⟩:=mem_ready.1 hj;rw[ho]at hoj;cases hoj;have hp:oQ H ops oi o=true:=by
    rcases hB j o hji hjun ho with h|h
    .have h2:=uC hD j i o ho (λe he hb=>hall e he hb) h;have h0:=(mem_ready.1 hr).1;rcases dg i ao.size with h'|h'
     .simp[h']at h0 h2;rw[h0]at h2;cases h2
     .simp[pN h']at h2
    .exact h
   have h2:=Rt hp q h1;refine zk ?_ h2
   rintro hs' A' ⟨q',k'⟩
   refine ih (ao.setIfInBounds j true) hs' A' (hD.set hj) (hB.set j) (ready_mono hr (Ne.symm hji)) q' ?_;rw[Array.setIfInBounds_comm _ _ hji];exact k'
def BS (ao:Array Bool):Nat:=ao.toList.countP (·==false)
theorem Ak:∀(l:List Bool) (j),l[j]?=some false->(l.set j true).countP (·==false)+1=l.countP (·==false)
 |[],j,h=>by simp at h
 |b::l,0,h=>by
  have:b=false:=by simpa using h
  subst this
  simp
 |b::l,j+1,h=>by
  have:=Ak l j (by simpa using h);simp only[List.set_cons_succ,List.countP_cons];omega
theorem AS{ao}{j}(h:ao.getD j true=false):BS (ao.setIfInBounds j true)+1=BS ao:=by
 have h1:ao[j]?=some false:=by
  rw[fz]at h
  cases hj:ao[j]? with
  |none=>rw[hj]at h;simp at h
  |some b=>rw[hj]at h;simp at h;rw[h]
 unfold BS;rw[Array.toList_setIfInBounds];exact Ak _ _ (by simpa using h1)
theorem Qo{ao}{j}(h:ao.getD j true=false):0<BS ao:=by
 have:=AS h;omega
theorem L8{o}{K}{hs}{A}(hf:ui o=true)(hq:p6 (bQ H o)=true)(k:∀v,K hs (A.put o.dst v A.h)):eE P H ops Q o K hs A:=by
 have hc:bQ H o=.quiet:=by cases hc:bQ H o<;>rw[hc]at hq<;>first|rfl|cases hq
 obtain⟨dst,op,ty,pos,after,guard⟩:=o;unfold eE
 cases guard with
 |some g=>simp[ui]at hf
 |none=>
  refine⟨λ_=>?_,λh=>(by cases h)⟩;rw[hc];cases op<;>simp only[ui,d4]at hf
  .exact⟨rfl,k _⟩
  .exact⟨rfl,k _⟩
theorem TS.put{o o':Oper}{A}(q:TS P H ops Q o A)(hap:∀d,o'.dst=some d->d∉o.looksAt ops)(v):TS P H ops Q o (A.put o'.dst v A.h):=by
 obtain⟨tw,tc,f,args,u,t1,t2,t3⟩:=q;refine⟨(kt hap).trans tw,tc,f,args,u,?_,?_,λT=>?_⟩
 .rw[<-t1,iU];exact lg o (lz hap)
 .rw[iU];exact t2
 .have e:({ A.put o'.dst v A.h with tmps:=T }:AAct)={ A with tmps:=T }:=by
   cases o'.dst<;>simp[AAct.put]
  rw[e];exact t3 T
theorem Pf{i}{oi}(hi:ops[i]?=some oi) :
  ∀(fuel) (ao) (hs) (A),BS ao<=fuel->yW ops ao->qr H ops ao i oi->i∈Region.ready .any ops ao->TS P H ops Q oi A->yX P H ops Q fuel ao hs A:=by
 intro fuel
 induction fuel with
 |zero=>
  intro ao hs A hu _ _ hr _;have:=Qo (mem_ready.1 hr).1
  omega
 |succ fuel ih=>
  intro ao hs A hu hD hB hr q;refine⟨λh=>(by rw[h]at hr;cases hr),λj hj o ho=>?_⟩;by_cases hji:j=i
  .subst hji;rw[hi]at ho;cases ho;exact sd q
  .obtain⟨hjun,oj,hoj,hall⟩:=mem_ready.1 hj;rw[ho]at hoj;cases hoj;have hp:oQ H ops oi o=true:=by
    rcases hB j o hji hjun ho with h|h
    .have h2:=uC hD j i o ho (λe he hb=>hall e he hb) h;have h0:=(mem_ready.1 hr).1;rcases dg i ao.size with h'|h'
     .simp[h']at h0 h2;rw[h0]at h2;cases h2
     .simp[pN h']at h2
    .exact h
   unfold oQ at hp;simp only[dD]at hp;obtain⟨hpd,hap,_⟩:=hp;obtain⟨a1,a2,a3⟩:=Oper.apart_spec hap;have hthr:∀c,kU .thr c=false:=by intro c;cases c<;>rfl
   rw[q.2.1,hthr]at hpd;simp only[wS,jQ,AO,dD]at hpd;refine L8 hpd.1 hpd.2 λv=>?_;refine ih (ao.setIfInBounds j true) hs _ ?_ (hD.set hj) (hB.set j) (ready_mono hr (Ne.symm hji)) (q.put a3 v);have:=AS hjun;omega
def UP (ops:Array Oper) (l:List Nat) (ao:Array Bool):Prop:=ao.size=ops.size/\∀j,ao.getD j true=false↔j∈l
theorem Eh{l}{ao:Array Bool}{i}(hil:i∉l)(h:∀j,ao.getD j true=false↔j∈i::l)(j):(ao.setIfInBounds i true).getD j true=false↔j∈l:=by
 by_cases hij:i=j
 .subst hij;rw[sN];exact⟨λh=>(by cases h),λh=>absurd h hil⟩
 .rw[getD_set_ne true hij,h j];simp[Ne.symm hij]
theorem D5:∀(l:List Nat) (ao),l.Nodup->(∀j,ao.getD j true=false↔j∈l)->BS ao<=l.length
 |[],ao,_,h=>by
  rcases oo (BS ao) with h0|h0
  .omega
  .exfalso;unfold BS at h0;obtain⟨b,hb,hb2⟩:=List.countP_pos_iff.1 (show 0<List.countP (λx=>x==false) ao.toList from h0);obtain⟨j,hj⟩:=dz hb;have hb3:b=false:=by simpa using hb2
   subst hb3;have:=(h j).1 (by rw[fz,<-Array.getElem?_toList,hj];rfl)
   cases this
 |i::l,ao,hn,h=>by
  have hi:ao.getD i true=false:=(h i).2 (by simp);have:=AS hi;have ih:=D5 l (ao.setIfInBounds i true) (Nh.1 hn).2 (Eh (Nh.1 hn).1 h);rw[cc];omega
theorem OD:∀(l) (os) (ao) (hs) (A),l.map (λi=>ops[i]?)=os.map some->l.Nodup->UP ops l ao->yW ops ao->zA H ops (Region.before ops) l=true ->
  bP P H ops Q os hs A->yX P H ops Q l.length ao hs A:=by
 intro l
 induction l with
 |nil=>
  intro os ao hs A he hn hR hD hok h;have:os=[]:=by cases os<;>simp_all
  subst this;refine⟨?_,h⟩;refine List.eq_nil_iff_forall_not_mem.2 λj hj=>?_;obtain⟨h1,_⟩:=mem_ready.1 hj
  exact absurd ((hR.2 j).1 h1) (by simp)
 |cons i l ih=>
  intro os ao hs A he hn hR hD hok h
  cases os with
  |nil=>simp at he
  |cons o rest=>
   simp only[bD,List.cons.injEq]at he;obtain⟨hoi,he⟩:=he;obtain⟨hil,hnl⟩:=Nh.1 hn;rw[zA,hoi]at hok;simp only[dD]at hok;obtain⟨⟨hedge,hpair⟩,hokl⟩:=hok;have hiu:ao.getD i true=false:=(hR.2 i).2 (by simp);have hisz:i<ops.size:=(uT.1 hoi).1;have hr:i∈Region.ready .any ops ao:=by
    refine mem_ready.2 ⟨hiu,o,hoi,λe he hb=>?_⟩;have:=(Array.all_eq_true_iff_forall_mem.1 hedge) e he;simp only[hb,Bool.not_true,jQ,dD,decide_eq_true_eq,yY]at this;obtain⟨h1,h2⟩:=this;have h3:¬ao.getD e.on true=false:=λh'=>by
     have h4:=(hR.2 _).1 h';rw[<-List.contains_iff_mem]at h4;rw[h4]at h2;cases h2
    have h4:e.on<ao.size:=by rw[hR.1];exact h1
    rw[fz,Ni h4]at h3 |-;simpa using h3
   have hB:qr H ops ao i o:=by
    intro j oj hji hj hoj;have hjl:=(hR.2 j).1 hj;rcases ce.1 hjl with rfl|hjl
    .exact absurd rfl hji
    have:=kK.1 hpair j hjl;rw[hoj]at this;simp only[dD,Ng]at this;exact this.2
   have hR':UP ops l (ao.setIfInBounds i true):=⟨by simp[hR.1],Eh hil hR.2⟩
   have hD':=hD.set hr;rw[Gr]at h;have h':eE P H ops Q o (yX P H ops Q l.length (ao.setIfInBounds i true)) hs A:=zk (λhs A hk=>ih rest _ hs A he hnl hR' hD' hokl hk) h;by_cases ht:bQ H o=.thr
   .rcases mQ ht h' with⟨v,E,q,k⟩|q
    .exact CS hoi _ _ _ A hD hB hr q k
    .exact Pf hoi _ _ hs A (D5 (i::l) ao hn hR.2) hD hB hr q
   by_cases hb:(bQ H o≠.bar/\bQ H o≠.cal)\/bz ops A o=some false
   .obtain⟨v,E,q,k⟩:=oz (hb.imp (λh=>⟨h.1,ht,h.2⟩) id) h';exact CS hoi _ _ _ A hD hB hr q k
   .have hb1:bQ H o=.bar\/bQ H o=.cal:=by
     by_cases h1:bQ H o=.bar
     .exact .inl h1
     .exact .inr (Classical.byContradiction λhn=>hb (.inl ⟨h1,hn⟩))
    refine⟨λh0=>?_,λj hj oj hoj=>?_⟩
    .rw[h0]at hr;cases hr
    .have hji:j=i:=by
      obtain⟨h1,o',ho',hall⟩:=mem_ready.1 hj;rw[hoj]at ho';cases ho';refine Classical.byContradiction λhne=>?_;rcases hB j oj hne h1 hoj with h3|h3
      .have h4:=uC hD j i oj hoj hall h3;have h5:i<ao.size:=by rw[hR.1];exact hisz
       rw[fz,Ni h5]at hiu h4;simp at hiu h4;rw[hiu]at h4;cases h4
      .have hall':∀c,kU .bar c=false/\kU .cal c=false:=by intro c;cases c<;>exact⟨rfl,rfl⟩
       unfold oQ at h3;rcases hb1 with hb1|hb1
       .rw[hb1,(hall' _).1]at h3;simp[wS]at h3
       .rw[hb1,(hall' _).2]at h3;simp[wS]at h3
     subst hji;rw[hoi]at hoj;cases hoj;exact h'
variable {M0:Nat->Prop} {S0:Mem} {b:Frame} {cs0:List Frame}
theorem yb{hs h}(hx:cw hs h){id}(hd:iC hs id=true)(ob):cw hs (h.set id ob):=by
 intro x o ho hn;by_cases hxi:id=x
 .subst hxi;unfold iC at hd;rw[ho]at hd;cases o<;>first|(cases hd;done)|(cases hn;done)
 .rw[dS hxi];exact hx x o ho hn
theorem NF{o}{K}{hs}{A}(hx:cw hs A.h)(k:eE P H ops Q o K hs A) :
  (bz ops A o=some false/\K hs (A.put o.dst (.p (.tuple [])) A.h)) \/
  (bz ops A o=some true/\kA P A o.dst (λB=>∃hs',cw hs' B.h/\K hs' B) Q (bV P (aN H) o A.eval A.h)) \/
  (bz ops A o=some true/\∃v E,Ge P H o hs v E A/\cw hs (E.ap A.h)/\K hs (A.put o.dst v (E.ap A.h))):=by
 have hcase:(∃v E,QS P H ops o hs v E A/\K hs (A.put o.dst v (E.ap A.h)))\/TS P H ops Q o A\/(bQ H o=.cal/\bz ops A o=some true/\rg P H Q hs A (λv h=>K hs (A.put o.dst v h)) (bV P (aN H) o A.eval A.h))\/¬(bQ H o≠.bar\/bz ops A o=some false):=by
  by_cases ht:bQ H o=.thr
  .rcases mQ ht k with h|h
   .exact .inl h
   .exact .inr (.inl h)
  .by_cases hcl:bQ H o=.cal
   .rcases nC hcl k with h|h
    .exact .inl h
    .exact .inr (.inr (.inl ⟨hcl,h⟩))
   .by_cases hb:bQ H o≠.bar\/bz ops A o=some false
    .exact .inl (oz (hb.imp (λh=>⟨h,ht,hcl⟩) id) k)
    .exact .inr (.inr (.inr hb))
 rcases hcase with⟨v,E,q,k1⟩|⟨tw,tc,f,args,u,t1,t2,t3⟩|⟨hcl,hw,kc⟩|hb
 .have fin:∀(r:OR),Qv P A.h r v->K hs (A.put o.dst v A.h)->kA P A o.dst (λB=>∃hs',cw hs' B.h/\K hs' B) Q r:=by
   intro r hr hk;rcases hr with rfl|⟨f,args,rfl,hc⟩
   .exact⟨hs,by rw[iU];exact hx,hk⟩
   .have:=hc A.h (cw.refl _);intro M0 m w cargs hS ha;obtain⟨h1,h2⟩:=this M0 m w cargs hS ha;refine⟨h1,h2.mono λ_ _ hb=>?_⟩;obtain⟨r,h',m',⟨rfl,rfl⟩,rest⟩:=hb;exact⟨.ret v,_,m',⟨hs,by rw[iU];exact hx,hk⟩,rest⟩
  rcases q with⟨hw,rfl,rfl⟩|⟨hw,⟨hc,rfl,q⟩|⟨hc,rfl,q⟩|⟨hc,t,rfl,q⟩|q|⟨hc,T,a,x,id,ver,i,kk,ob,h1,h2,h3,h4,rfl,rfl⟩|⟨hc,rfl,rfl,T,a,x,h1,h2⟩|⟨t,hc,hE,hq⟩|⟨hc,rfl,f,args,g1,g2⟩⟩
  .exact .inl ⟨hw,by simpa[HE.ap]using k1⟩
  .exact .inr (.inl ⟨hw,fin _ q (by simpa[HE.ap]using k1)⟩)
  .refine .inr (.inl ⟨hw,fin _ ?_ (by simpa[HE.ap]using k1)⟩);have hpre:=Le (P:=P) (mu:=aN H) (o:=o) A.eval (OG hc) hs A.h hx;rcases q with q|⟨f,args,q,hcall⟩
   .exact .inl (hpre.1 _ q)
   .exact .inr ⟨f,args,hpre.2 _ _ q,λh' hs'=>hcall h' (hx.trans hs')⟩
  .refine .inr (.inl ⟨hw,?_⟩);rw[q];exact⟨hs,by rw[iU];exact hx.trans (cw.app _ _),k1⟩
  .refine .inr (.inr ⟨hw,v,E,q,?_,k1⟩);obtain⟨j,sz,z,hc,h1,h2,h3,h4,rfl,rfl⟩:=q;exact yb hx h3 _
  .refine .inr (.inl ⟨hw,?_⟩);have hop:bV P (aN H) o A.eval A.h=.skip (A.h.set id ob):=by
    unfold bV;rw[h1];show gE P T (A.eval a) (A.eval x) A.h=_;rw[h2];exact h4
   rw[hop];exact⟨hs,by rw[iU];exact yb hx h3 _,k1⟩
  .refine .inr (.inl ⟨hw,?_⟩);have hop:bV P (aN H) o A.eval A.h=.skip A.h:=by
    unfold bV;rw[h1];exact h2
   rw[hop];exact⟨hs,by rw[iU];exact hx,by simpa[HE.ap]using k1⟩
  .refine .inr (.inl ⟨hw,?_⟩);rw[hq];refine⟨hs,?_,k1⟩;rw[iU];rcases hE with⟨l,rfl⟩|⟨id,ob,rfl,hd⟩
   .exact hx.trans (cw.app _ _)
   .exact yb hx hd _
  .exact .inr (.inl ⟨hw,fin _ (.inr ⟨f,args,g1,g2⟩) (by simpa[HE.ap]using k1)⟩)
 .refine .inr (.inl ⟨tw,?_⟩);rw[t1];intro M0 m w cargs hS ha;obtain⟨h1,h2⟩:=t2 M0 m w cargs hS ha;refine⟨h1,h2.mono λ_ _ hb=>?_⟩;obtain⟨r,h',m',⟨rfl,rfl⟩,rest⟩:=hb;exact⟨.panic u,_,m',t3 A.tmps,rest⟩
 .refine .inr (.inl ⟨hw,?_⟩);cases hr:bV P (aN H) o A.eval A.h<;>rw[hr]at kc<;>first|exact kc.elim|skip
  intro M0 m w cargs hS ha;obtain⟨h1,h2⟩:=kc M0 m w cargs hS ha;refine⟨h1,h2.mono λ_ _ hb=>?_⟩;obtain⟨r,h',m',hR,rest⟩:=hb
  exact⟨r,h',m',by
   cases r with
   |ret v=>exact⟨hs,by rw[iU];exact hR.1,hR.2⟩
   |panic v=>exact hR A.tmps (λ_ _=>rfl),rest⟩
 .have hb1:bQ H o=.bar:=Classical.byContradiction λhn=>hb (.inl hn);unfold eE at k
  cases hw:bz ops A o with
  |none=>rw[hw]at k;exact k.elim
  |some b=>
   rw[hw,hb1]at k
   cases b with
   |false=>exact absurd (.inr hw) hb
   |true=>
    have k1:kA P A o.dst (λB=>K B.h B) Q (bV P (aN H) o A.eval A.h):=k.1 rfl;exact .inr (.inl ⟨rfl,nV (λB hB=>⟨B.h,cw.refl _,hB⟩) k1⟩)
theorem R4{n}{k}(hd:ops.toList.all (ny n)=true):∀(fuel t) (ao) (hs) {m} {A} {a} {w},cw hs A.h ->
  Rel P M0 S0 b cs0 m A a w->A.n=n->yX P H ops Q fuel ao hs A ->
   nL P M0 S0 b cs0 n (lone (b.atR a (.inRegion ops (Region.linearise.go .any ops fuel t ao [])::k)) (bv A.rc cs0) w) k Q:=by
 intro fuel
 induction fuel with
 |zero=>
  intro t ao hs m A a w hx hr hn h
  exact⟨.normal,A,m,a,w,h.2,hn,hr,.one (by simp only[Region.linearise.go,List.reverse_nil];exact stepR_region_end)⟩
 |succ fuel ih=>
  intro t ao hs m A a w hx hr hn h;obtain⟨h0,h1⟩:=h
  have hgo:Region.linearise.go .any ops (fuel+1) t ao []=match (Region.ready .any ops ao)[t%(Region.ready .any ops ao).length]? with
   |some i=>Region.linearise.go .any ops fuel (t / (Region.ready .any ops ao).length) (ao.setIfInBounds i true) [i]
   |none=>[].reverse:=rfl
  rw[hgo]
  cases hi:(Region.ready .any ops ao)[t%(Region.ready .any ops ao).length]? with
  |none=>
   have hnil:Region.ready .any ops ao=[]:=by
    cases hrr:Region.ready .any ops ao with
    |nil=>rfl
    |cons x xs=>
     rw[hrr]at hi;have hlt:t%(x::xs).length<(x::xs).length:=tf _ (by simp);simp at hi;simp at hlt;omega
   exact⟨.normal,A,m,a,w,h0 hnil,hn,hr,.one (by simp only[List.reverse_nil];exact stepR_region_end)⟩
  |some i=>
   simp only[];rw[linearise_go_acc,List.reverse_singleton,Dt];have hmem:=aT hi;obtain⟨_,o,ho,_⟩:=mem_ready.1 hmem;have hstep:=h1 i hmem o ho;have hdo:ny A.n o=true:=by
    rw[hn];exact kK.1 hd o (IH.2 (Array.mem_of_getElem? ho))
   rcases NF hx hstep with⟨hw,hk⟩|⟨hw,hk⟩|⟨hw,v,E,hsl,hxs,hk⟩
   .have hwm:=hr.wanted hw;have hs1:=stepR_op_skip (P:=P) (b:=b) (k:=k) (cs:=bv A.rc cs0) (w:=w) (rest:=Region.linearise.go .any ops fuel (t / (Region.ready .any ops ao).length) (ao.setIfInBounds i true) []) (uW ho hwm);simp only[ho,ti]at hs1;have hr':=hr.put (dst:=o.dst) (lU hdo) (oL _ _);have:=ih (t / (Region.ready .any ops ao).length) (ao.setIfInBounds i true) hs (by rw[iU];exact hx) hr' ((oA _ _ _ _).trans hn) hk;rw[lK]at this;exact this.of_steps (.one hs1)
   .have hwm:=hr.wanted hw;rcases HM (i:=i) (rest:=Region.linearise.go .any ops fuel (t / (Region.ready .any ops ao).length) (ao.setIfInBounds i true) []) (k:=k) ho hdo hwm hr hk with⟨A',m',a',w',⟨hs',hx',hK⟩,hn',hr',hs1⟩|⟨v,A',m',a',w',v',todo,hQ,hn',hr',hv,hs1⟩
    .exact(ih _ _ hs' hx' hr' (hn'.trans hn) hK).of_steps hs1
    .exact⟨.panic v,A',m',a',w',hQ,hn'.trans hn,hr',v',todo,hv,hs1⟩
   .have hwm:=hr.wanted hw;obtain⟨j,sz,z,hc,g1,g2,g3,g4,rfl,rfl⟩:=hsl;have hso:=L9 hc;have hnd:∀c,o.op≠.defer c:=by
     intro c hcc;rw[hcc]at hso;cases hso
    have hok:=Qt (P:=P) (o:=o) hr.hok g4 hr.eval g1 g2;obtain⟨m',a',w',hr',hs1⟩:=GG (i:=i) (rest:=Region.linearise.go .any ops fuel (t / (Region.ready .any ops ao).length) (ao.setIfInBounds i true) []) (k:=k) ho hdo hwm hr hnd hok;have:=ih (t / (Region.ready .any ops ao).length) (ao.setIfInBounds i true) hs (by rw[iU];exact hxs) hr' ((oA _ _ _ _).trans hn) hk;rw[lK]at this;exact this.of_steps hs1
theorem Cg:∀(l) (h),cw (tX h l) h/\(tX h l).length=h.length
 |[],h=>⟨cw.refl _,rfl⟩
 |id::l,h=>by
  obtain⟨h1,h2⟩:=Cg l (h.set id .dead);refine⟨h1.trans λx o ho hn=>?_,by rw[tX,h2];simp⟩;by_cases hxi:id=x
  .subst hxi;have hlt:=(ax.1 ho).1;rw[iJ (by simpa using hlt)]at ho;cases ho;cases hn
  .rwa [dS hxi]at ho
theorem E3(id)(h):cw (fY id h) h/\(fY id h).length=h.length:=by
 refine⟨λx o ho hn=>?_,by simp[fY]⟩;unfold fY at ho;rw[AH]at ho
 cases hx:h[x]? with
 |none=>rw[hx]at ho;cases ho
 |some y=>
  rw[hx]at ho;simp only[mM,gk]at ho;split at ho
  .rw[<-ho]
  .rw[<-ho]at hn;cases hn
theorem Lv(H)(ops)(A):cw (wQ H ops A) A.h/\(wQ H ops A).length=A.h.length:=by
 unfold wQ;split
 .exact E3 _ _
 .exact Cg _ _
theorem JP(H)(ops)(A):cw (nA H ops A) (p9 H ops A).h:=by
 intro x o ho hn;obtain⟨h1,h2⟩:=Lv H ops A;unfold nA at ho;show (A.h++_)[x]?=_;rcases dg x A.h.length with hl|hl
 .rw[aZ (by omega)]at ho;rw[aZ hl];exact h1 x o ho hn
 .rw[cm (by omega)]at ho;have:=aT ho;simp only[dN]at this;obtain⟨_,_,rfl⟩:=this;cases hn
theorem HN{α β}(f:α->β)(a b)(l):(EK a b l).map f=EK a b (l.map f):=by
 unfold EK;rw[dL];split
 .simp[y6,List.map_drop]
 .rfl
theorem N8{α}(a b)(l:List α):(EK a b l).Perm l:=by
 unfold EK;split
 .rename_i h;have e:l=l.take a++((l.drop a).take 1++((l.drop (a+1)).take (b-a)++l.drop (b+1))):=by
   have e1:(l.drop (a+1)).take (b-a)++l.drop (b+1)=l.drop (a+1):=by
    have e2:l.drop (b+1)=(l.drop (a+1)).drop (b-a):=by rw[xX];congr 1;omega
    rw[e2];exact rC _ _
   rw[e1];have e3:(l.drop a).take 1++l.drop (a+1)=l.drop a:=by
    have e4:l.drop (a+1)=(l.drop a).drop 1:=by rw[xX]
    rw[e4];exact rC _ _
   rw[e3];exact(rC _ _).symm
  refine List.Perm.trans ?_ (List.Perm.of_eq e.symm);rw[dq,dq];refine List.Perm.append_left _ ?_;rw[<-dq,<-dq];exact List.Perm.append_right _ List.perm_append_comm
 .exact .refl _
theorem Ll(H)(n):(tT H n).Perm (List.range n):=by
 unfold tT;split
 .exact N8 _ _ _
 .exact .refl _
theorem QH(H)(ops:Array Oper):(tT H ops.size).map (λi=>ops[i]?)=(yp H ops.toList).map some:=by
 have base:(List.range ops.size).map (λi=>ops[i]?)=ops.toList.map some:=by
  apply qu;intro i;rw[cz,cz];have e:ops.toList[i]?=ops[i]?:=by simp
  rw[e];rcases dg i ops.size with h|h
  .have e2:(List.range ops.size)[i]?=some i:=by simp[h]
   rw[e2,Ni h];simp[h]
  .have e2:(List.range ops.size)[i]?=none:=wz (by simpa using h);rw[e2,pN h];rfl
 unfold tT yp;split
 .rw[HN,base,HN]
 .exact base
theorem Rel.drew{m}{A}{a}{w}(hr:Rel P M0 S0 b cs0 m A a w):Rel P M0 S0 b cs0 m A a { w with drawn:=w.drawn+1 }:=
 hr.ahead (Ev.drew _ ⟨m,A.h,w⟩) (HOk.drew hr.hok)
theorem Rb(hm:P.follows .mixedOrders=true):dK P:=by
 intro M0 S0 b cs0 m A a w H ops Q n id k hd hok hr hn h;have hok2:zA H ops (Region.before ops) (tT H ops.size)=true/\(tT H ops.size).length=ops.size:=by
  unfold Fi at hok;simp only[dD,decide_eq_true_eq]at hok;exact⟨hok.2,hok.1.2⟩
 have hper:=Ll H ops.size;have hany:=OD (tT H ops.size) _ (Array.replicate ops.size false) _ _ (QH H ops) (hper.nodup_iff.2 List.nodup_range) ⟨by simp,λj=>by
   rw[hper.mem_iff,DO,fz];by_cases hj:j<ops.size
   .simp[hj]
   .simp[hj]⟩ (λj o hj ho e he hb=>by
   exfalso;rw[fz]at hj;by_cases hj2:j<ops.size
   .simp[hj2]at hj
   .simp[hj2]at hj) hok2.1 h
 rw[hok2.2]at hany;obtain⟨m',hr'⟩:=hr.resv (rK H ops.toList);have hs:=stepR_region_draw (P:=P) (b:=b) (a:=a) (k:=k) (cs:=bv A.rc cs0) (w:=w) (ops:=ops) (id:=id);refine nL.of_steps (.one hs) ?_;simp only[Region.schedule,hm,tg,if_true];exact R4 (A:=p9 H ops.toList A) hd ops.size _ _ _ (JP H ops.toList A) hr'.drew hn hany
end Abs
end Go.Proofs.YtnjiadikeacfaaaGreatDoor
