/- LAWS: regions of any order: what the order of the text comes to, every order comes to.
  L -/
import Derived.Test.YtoapoaoelpcniaaGreatDoorAbsFunX
import Derived.Orders
set_option linter.all false
namespace Go.Proofs.YtoapoaoelpcniaaGreatDoor
namespace Abs
variable {P:Program} {H:Hints} {ops:Array Oper} {Q:Ex->AAct->Prop}
theorem ma{mu}{e e'}{h}(o)(he:∀x∈o.op.operands,e x=e' x):b8 P mu o e h=b8 P mu o e' h:=by
 obtain⟨dst,op,type,pos,after,guard⟩:=o;have pairs:∀ps:Array (Nat×Operand),(∀x∈ps.map (·.2),e x=e' x)->(ps.toList.map λq=>(q.1,e q.2))=(ps.toList.map λq=>(q.1,e' q.2)):=λps hp=>
  Pf λq hm=>by
   simp only[hp q.2 (Array.mem_map.2 ⟨q,KG.1 hm,rfl⟩)]
 have lists:∀xs:Array Operand,(∀x∈xs,e x=e' x)->xs.toList.map e=xs.toList.map e':=λxs hp=>
  Pf λx hm=>hp x (KG.1 hm)
 cases op<;>simp only[Op.operands]at he<;>simp only[b8]
 case build t ps=>rw[pairs ps λx hx=>he x (by simpa using hx)]
 case buildSlice t n ps=>rw[pairs ps λx hx=>he x (by simpa using hx)]
 case makeFunc fn first cap=>rw[lists first λx hx=>he x (by simp[hx]),lists cap λx hx=>he x (by simp[hx])]
 case slice t x lo hi mx=>
  have h0:e x=e' x:=he x (by simp);have h1:lo.map e=lo.map e':=by cases lo with|none=>rfl|some y=>simp only[jX,he y (by simp)]
  have h2:hi.map e=hi.map e':=by cases hi with|none=>rfl|some y=>simp only[jX,he y (by simp)]
  have h3:mx.map e=mx.map e':=by cases mx with|none=>rfl|some y=>simp only[jX,he y (by simp)]
  rw[h0,h1,h2,h3]
 case call c=>
  have ha:c.args.toList.map e=c.args.toList.map e':=lists c.args λx hx=>he x (by simp[Call.operands,hx])
  cases hc:c.callee with
  |value f=>simp only[ha,he f (by simp[Call.operands,hc])]
  |builtin b=>simp only[ha]
  |invoke r mm=>rfl
 case defer c=>
  have ha:c.args.toList.map e=c.args.toList.map e':=lists c.args λx hx=>he x (by simp[Call.operands,hx])
  cases hc:c.callee with
  |value f=>simp only[ha,he f (by simp[Call.operands,hc])]
  |builtin b=>rfl
  |invoke r mm=>rfl
 case makeMap t r=>
  cases r with
  |none=>rfl
  |some y=>simp only[jX,he y (by simp)]
 all_goals (first|rfl|(simp_all;done))
theorem Qw{A:AAct}{dst}{v}{h}{x}(hx:∀d,dst=some d->x≠.tmp d):(A.put dst v h).eval x=A.eval x:=by
 cases dst with
 |none=>rfl
 |some d=>
  cases x with
  |tmp t=>
   have:t≠d:=λe=>hx d rfl (e▸rfl)
   simp[AAct.put,AAct.eval,wI,this]
  |_=>rfl
theorem li{A}{dst}{v}{h}{o}(hd:∀d,dst=some d->d∉o.looksAt ops):bA ops (A.put dst v h) o=bA ops A o:=by
 cases dst with
 |none=>rfl
 |some d=>
  unfold bA
  cases hg:o.guard with
  |none=>rfl
  |some gw=>
   obtain⟨g,want⟩:=gw;simp only;unfold rU
   cases ht:(ops[g]?).bind (·.dst) with
   |none=>rfl
   |some t=>
    have hne:t≠d:=λe=>hd d rfl (by subst e;simp[Oper.looksAt,hg,ht]);simp[AAct.put,wI,hne]
theorem F9(A:AAct){x y}(v u)(h1 h2 h3)(h:∀d,x=some d->y≠some d):(A.put x v h1).put y u h2=(A.put y u h3).put x v h2:=by
 cases x with
 |none=>cases y<;>rfl
 |some d=>
  cases y with
  |none=>rfl
  |some e=>
   have hne:d≠e:=λhe=>h d rfl (he▸rfl);simp only[AAct.put,AAct.mk.injEq,true_and,and_true];funext s;simp only[wI];by_cases h1:s=d
   .by_cases h2:s=e
    .exact absurd (h1.symm.trans h2) hne
    .simp[h1,hne]
   .simp[h1]
theorem cL.refl(h):cL h h:=λ_ _ e _=>e
theorem cL.trans{a b c}(h:cL a b)(k:cL b c):cL a c:=λid o e hd=>k id o (h id o e hd) hd
theorem cL.app(h u):cL h (h++u):=λid o e _=>by
 rw[aX (aF.1 e).1];exact e
theorem ut{h u}(hs:cL h u){id sz:Nat}{xs}(hl:h[id]?=some (.row sz xs)):u[id]?=some (.row sz xs):=hs id _ hl rfl
theorem tT{h u}(hs:cL h u){id ver sz}(hl:hH h id ver=some sz):hH u id ver=some sz:=by
 obtain⟨xs,h1,h2⟩:=lU hl;simp[hH,ut hs h1,h2]
def fc (F:Heap->OR) (h u:Heap):Prop:=(∀v,F h=.val v h->F u=.val v u)/\∀f a,F h=.call f a->F u=.call f a
theorem fc.const{F}{h u}(k:(∃v,∀h,F h=.val v h)\/(∃f a,∀h,F h=.call f a)\/((∀v,F h≠.val v h)/\∀f a,F h≠.call f a)):fc F h u:=by
 rcases k with⟨v,k⟩|⟨f,a,k⟩|⟨k1,k2⟩
 .refine⟨λv' e=>?_,λf a e=>?_⟩
  .rw[k]at e;cases e;exact k _
  .rw[k]at e;cases e
 .refine⟨λv' e=>?_,λf a e=>?_⟩
  .rw[k]at e;cases e
  .rw[k]at e;cases e;exact k _
 .exact⟨λv e=>absurd e (k1 v),λf a e=>absurd e (k2 f a)⟩
theorem aN{h}{X:AV->Prop}{Y:FuncId->List AV->Prop}:(∀v,OR.stuck=OR.val v h->X v)/\∀f a,OR.stuck=OR.call f a->Y f a:=
 ⟨λ_ e=>(by cases e),λ_ _ e=>(by cases e)⟩
theorem uj(v)(h u):fc (λh=>iQ h v) h u:=by
 cases v with
 |none=>exact .const (.inr (.inr ⟨λv=>by simp[iQ],λf a=>by simp[iQ]⟩))
 |some v=>exact .const (.inl ⟨v,λ_=>rfl⟩)
theorem sr(v)(h u):fc (λh=>tS h v) h u:=by
 cases v with
 |none=>exact .const (.inr (.inr ⟨λv=>by simp[tS],λf a=>by simp[tS]⟩))
 |some v=>exact .const (.inl ⟨.p v,λ_=>rfl⟩)
theorem ba(h u):fc (λ_=>.stuck) h u:=.const (.inr (.inr ⟨λv=>by simp,λf a=>by simp⟩))
theorem bJ(v)(h u):fc (λh=>.val v h) h u:=.const (.inl ⟨v,λ_=>rfl⟩)
theorem PP(T)(x)(h u)(hs:cL h u):fc (o9 P T x) h u:=by
 cases x with
 |p q=>
  cases q with
  |ptr sz xs i o=>
   show fc (λh=>match xs[i]? with|some v=>iQ h (lB P T (.p v) o)|none=>.stuck) h u
   cases xs[i]? with
   |none=>exact ba h u
   |some v=>exact uj _ h u
  |_=>exact ba h u
 |ptr id ver i o=>
  unfold fc o9;dsimp only
  cases hid:h[id]? with
  |none=>exact aN
  |some ob=>
   cases ob with
   |row sz xs=>
    rw[ut hs hid];dsimp only;split
    .cases xs[i]? with
     |none=>exact aN
     |some v=>exact uj _ h u
    .exact aN
   |_=>exact aN
 |_=>exact ba h u
theorem Gc{id ver}{v}(h u)(hs:cL h u):fc (λh=>match hH h id ver with|some _=>.val v h|none=>.stuck) h u:=by
 unfold fc;dsimp only
 cases hl:hH h id ver with
 |none=>exact aN
 |some sz=>rw[tT hs hl];exact⟨λv e=>(by cases e;rfl),λf a e=>(by cases e)⟩
theorem Ez(T)(x)(f)(h u)(hs:cL h u):fc (mD P T x f) h u:=by
 unfold mD
 cases ai P T f with
 |none=>exact ba h u
 |some q=>
  obtain⟨off,t⟩:=q;dsimp only
  cases ce P t with
  |none=>exact ba h u
  |some n=>
   dsimp only;by_cases hn:n=0
   .simp only[hn,if_true];exact ba h u
   .simp only[hn,if_false]
    cases x with
    |p q=>cases q<;>first|exact bJ _ h u|exact ba h u
    |ptr id ver i o=>exact Gc h u hs
    |_=>exact ba h u
theorem Ng(T)(x)(f)(h u):fc (uJ P T x f) h u:=by
 unfold uJ
 cases ai P T f with
 |none=>exact ba h u
 |some q=>
  obtain⟨off,t⟩:=q
  cases x with
  |p q=>cases q<;>first|exact uj _ h u|exact ba h u
  |agg cs=>exact uj _ h u
  |_=>exact ba h u
theorem dG{c}[Decidable c]{F}{h u}(k:fc F h u):fc (λh=>if c then F h else .stuck) h u:=by
 by_cases hc:c
 .simp only[hc,if_true];exact k
 .simp only[hc,if_false];exact ba h u
theorem Ey(T)(x ix)(h u)(hs:cL h u):fc (iC P T x ix) h u:=by
 cases ix with
 |p qi=>
  cases qi with
  |int k i=>
   cases x with
   |p q=>
    cases q with
    |slice sz xs full=>
     unfold fc iC;dsimp only
     cases bv P T with
     |none=>exact aN
     |some e=>exact dG (bJ _ h u)
    |ptr sz xs j o=>
     unfold fc iC;dsimp only
     cases d7 P T with
     |none=>exact aN
     |some q=>
      obtain⟨n,e⟩:=q;dsimp only
      cases ce P e with
      |none=>exact aN
      |some s=>exact dG (bJ _ h u)
    |_=>exact ba h u
   |slice id ver off len=>
    unfold fc iC;dsimp only
    cases bv P T with
    |none=>exact aN
    |some e=>
     cases hid:h[id]? with
     |none=>exact aN
     |some ob=>
      cases ob with
      |row sz xs=>
       rw[ut hs hid]
       exact dG (bJ _ h u)
      |_=>exact aN
   |ptr id ver j o=>
    unfold fc iC;dsimp only
    cases d7 P T with
    |none=>exact aN
    |some q=>
     obtain⟨n,e⟩:=q;dsimp only
     cases ce P e with
     |none=>exact aN
     |some s=>
      cases hl:hH h id ver with
      |none=>exact aN
      |some z=>rw[tT hs hl];exact dG (bJ _ h u)
   |_=>exact ba h u
  |_=>exact ba h u
 |_=>exact ba h u
theorem Le(T)(x k)(ok)(h u)(hs:cL h u):fc (rX P T x k ok) h u:=by
 unfold fc rX
 cases zS P T with
 |none=>exact aN
 |some q=>
  obtain⟨K,E⟩:=q
  cases x with
  |ref t id=>
   cases t with
   |mp=>
    cases k with
    |p k=>
     dsimp only
     cases hid:h[id]? with
     |none=>exact aN
     |some ob=>
      cases ob with
      |mp es=>
       rw[hs id _ hid rfl]
       cases au P E with
       |none=>exact aN
       |some z=>
        dsimp only;by_cases hk:vP P K k=true
        .simp only[if_pos hk]
         cases lS k es with
         |none=>exact aN
         |some r=>cases r<;>exact bJ _ h u
        .simp only[if_neg hk];exact aN
      |_=>exact aN
    |_=>exact aN
   |_=>exact aN
  |_=>exact aN
theorem Nf(T)(x ix)(h u):fc (ya P T x ix) h u:=by
 have agg:∀(x:AV) (i:Int),fc (λh=>match d7 P T with
   |some (n,e)=>match ce P e with|some s=>if 0<=i/\i<n then iQ h (lB P e x (i.toNat*s)) else .stuck|none=>.stuck
   |none=>.stuck) h u:=by
  intro x i
  cases d7 P T with
  |none=>exact ba h u
  |some q=>
   obtain⟨n,e⟩:=q;dsimp only
   cases ce P e with
   |none=>exact ba h u
   |some s=>exact dG (uj _ h u)
 cases ix with
 |p qi=>
  cases qi with
  |int k i=>
   cases x with
   |p q=>
    cases q with
    |str s=>
     refine dG ?_
     cases s[i.toNat]? with
     |none=>exact ba h u
     |some b=>exact bJ _ h u
    |agg cs=>exact agg _ i
    |_=>exact ba h u
   |agg cs=>exact agg _ i
   |_=>exact ba h u
  |_=>exact ba h u
 |_=>exact ba h u
theorem Nc(T)(x)(lo hi mx)(h u)(hs:cL h u):fc (uI P T x lo hi mx) h u:=by
 unfold fc uI
 cases nq lo with
 |none=>exact aN
 |some l=>
  cases nq hi with
  |none=>exact aN
  |some r=>
   cases nq mx with
   |none=>exact aN
   |some m=>
    cases x with
    |p q=>
     cases q with
     |slice sz xs full=>
      dsimp only
      cases bv P T with
      |none=>exact aN
      |some e=>
       cases nu l r xs.length with
       |none=>exact aN
       |some ab=>
        cases m with
        |none=>exact dG (bJ _ h u)
        |some m=>exact dG (dG (bJ _ h u))
     |str s=>
      dsimp only
      cases nu l r s.size with
      |none=>exact aN
      |some ab=>
       cases m with
       |none=>exact dG (bJ _ h u)
       |some m=>exact aN
     |nilslice=>
      dsimp only
      cases bv P T with
      |none=>exact aN
      |some e=>
       cases nu l r 0 with
       |none=>exact aN
       |some ab=>
        cases m with
        |none=>exact dG (bJ _ h u)
        |some m=>exact aN
     |_=>exact aN
    |slice id ver off len=>
     dsimp only
     cases bv P T with
     |none=>exact aN
     |some e=>
      cases hid:h[id]? with
      |none=>exact aN
      |some ob=>
       cases ob with
       |row sz xs=>
        rw[ut hs hid]
        cases nu l r len with
        |none=>
         cases m with
         |none=>exact dG (bJ _ h u)
         |some m=>exact dG (bJ _ h u)
        |some ab=>
         cases m with
         |none=>exact dG (bJ _ h u)
         |some m=>exact dG (bJ _ h u)
       |_=>exact aN
    |_=>exact aN
theorem SB(T)(x)(h u)(hs:cL h u):fc (An P T x) h u:=by
 cases x with
 |p q=>
  cases q with
  |str s=>exact dG (bJ _ h u)
  |slice sz xs full=>exact dG (bJ _ h u)
  |nilslice=>exact dG (bJ _ h u)
  |agg cs=>
   unfold fc An;dsimp only
   cases d7 P T with
   |none=>exact aN
   |some q=>exact bJ _ h u
  |_=>exact ba h u
 |slice id ver off len=>
  unfold fc An;dsimp only
  cases hl:hH h id ver with
  |none=>simp only[O9,jc,and_false,if_false];exact aN
  |some z=>rw[tT hs hl];exact dG (bJ _ h u)
 |_=>exact ba h u
theorem SC(op)(T)(c)(x y)(h u):fc (C6 P op T c x y) h u:=by
 unfold C6;split
 .split
  .exact sr _ h u
  .split
   .exact sr _ h u
   .exact ba h u
 .exact sr _ h u
 .split
  .exact sr _ h u
  .exact sr _ h u
  .exact ba h u
theorem U3(op)(x)(h u):fc (Km op x) h u:=by
 unfold Km;split
 .exact bJ _ h u
 .exact bJ _ h u
 .exact ba h u
theorem Ir(a b)(x)(h u):fc (pR P a b x) h u:=by
 unfold pR;split
 .split
  .exact bJ _ h u
  .exact ba h u
 .exact dG (bJ _ h u)
 .rename_i y ys full
  cases hn:uo (y::ys) with
  |some ns=>exact dG (bJ _ h u)
  |none=>exact dG (ba h u)
 .exact ba h u
theorem Iq(x)(i)(h u):fc (pQ x i) h u:=by
 unfold pQ;split
 .split
  .exact bJ _ h u
  .exact ba h u
 .split
  .exact bJ _ h u
  .exact ba h u
 .exact ba h u
theorem Nh(T)(ps)(h u):fc (uK P T ps) h u:=by
 unfold uK;split
 .split
  .split
   .exact bJ _ h u
   .exact ba h u
  .split
   .split
    .split
     .exact bJ _ h u
     .exact ba h u
    .exact ba h u
   .exact ba h u
 .exact ba h u
theorem Cr(T)(mu)(n)(ps)(h u):fc (ll P T mu n ps) h u:=by
 unfold fc ll
 cases bv P T with
 |none=>exact aN
 |some e=>
  dsimp only
  cases ce P e with
  |none=>exact aN
  |some sz=>
   dsimp only
   cases sQ 0 sz ps with
   |none=>exact aN
   |some xs=>
    dsimp only;by_cases hc:xs.length=n/\sz≠0/\n*sz<=16777216/\gD P e sz=true
    .simp only[hc,and_self,not_false_eq_true,ne_eq,if_true]
     cases mu with
     |false=>
      cases gK xs with
      |some l=>exact bJ _ h u
      |none=>exact⟨λv e=>(by injection e with e1 e2;exact absurd (congrArg List.length e2) (by simp)),λf a e=>(by cases e)⟩
     |true=>exact⟨λv e=>(by injection e with e1 e2;exact absurd (congrArg List.length e2) (by simp)),λf a e=>(by cases e)⟩
    .simp only[hc,if_false];exact aN
theorem Lf(f)(args)(h u):fc (λ_=>ga f args) h u:=by
 refine⟨λv e=>?_,λf a e=>e⟩;dsimp only at e;unfold ga at e;split at e<;>cases e
theorem Cq(A)(ok)(x)(h u):fc (lj P A ok x) h u:=by
 unfold fc lj;split
 .split
  .exact⟨λv e=>(by cases e;rfl),λf a e=>(by cases e)⟩
  .split
   .split
    .exact⟨λv e=>(by cases e;rfl),λf a e=>(by cases e)⟩
    .exact aN
   .exact aN
 .exact aN
theorem Nd{mu}{o}(e)(hq:fa o.op=true)(h u)(hs:cL h u):fc (b8 P mu o e) h u:=by
 obtain⟨dst,op,type,pos,after,guard⟩:=o;cases op<;>first|(simp only[fa,jc]at hq;done)|skip
 case move x=>exact bJ _ h u
 case assign x=>exact bJ _ h u
 case pick c a b=>
  unfold fc b8;dsimp only;split
  .exact bJ _ h u
  .exact aN
 case build t ps=>exact Nh _ _ h u
 case buildSlice t n ps=>exact Cr _ _ _ _ h u
 case load t a=>exact PP _ _ h u hs
 case nilCheck x=>
  unfold fc b8;dsimp only;split
  .exact bJ _ h u
  .exact Gc h u hs
  .exact aN
 case binOp op t x y ty=>exact SC _ _ _ _ _ h u
 case unOp op t x=>exact U3 _ _ h u
 case convert a b x=>exact Ir _ _ _ h u
 case makeInterface t x=>
  unfold fc b8;dsimp only;split
  .split
   .exact bJ _ h u
   .exact aN
  .exact aN
 case makeFunc f a c=>exact dG (bJ _ h u)
 case slice t x lo hi mx=>exact Nc _ _ _ _ _ h u hs
 case fieldAddr t x f=>exact Ez _ _ _ h u hs
 case field t x f=>exact Ng _ _ _ h u
 case indexAddr t x i=>exact Ey _ _ _ h u hs
 case index t x i=>exact Nf _ _ _ h u
 case extract x i=>exact Iq _ _ h u
 case lookup t x k ok=>exact Le _ _ _ _ h u hs
 case typeAssert x t a ok=>exact Cq _ _ _ h u
 case call c=>
  unfold fc b8;dsimp only
  cases hc:c.callee with
  |value f=>exact Lf _ _ h u
  |invoke r mm=>simp[fa,hc]at hq
  |builtin b=>
   dsimp only;cases b<;>first|(simp[fa,hc]at hq;done)|skip
   all_goals
    unfold sR;split
    .exact dG (SB _ _ h u hs)
    .simp_all
    .exact bJ _ h u
    .exact bJ _ h u
    .simp_all
    .simp_all
    .simp_all
    .exact aN
end Abs
end Go.Proofs.YtoapoaoelpcniaaGreatDoor
namespace Go.Proofs.YtoapoaoelpcniaaGreatDoor
namespace Abs
variable {P:Program} {H:Hints} {ops:Array Oper} {Q:Ex->AAct->Prop}
def eZ (P:Program) (H:Hints) (ops:Array Oper) (Q:Ex->AAct->Prop) (o:Oper) (K:Heap->AAct->Prop) (hs:Heap) (A:AAct):Prop:=
 tf (λ_=>VO
   (λ_=>lz P A o.dst (λB=>K B.h B) Q (b8 P (aS H) o A.eval A.h))
   (λ_=>C4 A.h (λv h=>K hs (A.put o.dst v h)) (b8 P (aS H) o A.eval A.h))
   (λ_=>y0 P A.h (λv=>K hs (A.put o.dst v A.h)) (b8 P (aS H) o A.eval A.h))
   (λ_=>y0 P hs (λv=>K hs (A.put o.dst v A.h)) (b8 P (aS H) o A.eval hs))
   (λj sz=>tj hs A.h j sz (λv h=>K hs (A.put o.dst v h)) (g9 P A.eval o.op))
   (λ_=>wO P hs A.h A.eval (λh=>K hs (A.put o.dst (.p (.tuple [])) h)) o.op)
   (λ_=>xi P A.h A.eval (K hs (A.put o.dst (.p (.tuple [])) A.h)) o.op)
   (λ_=>Al hs A.h (λv h=>K hs (A.put o.dst v h)) (b8 P (aS H) o A.eval A.h))
   (λ_=>zD P Q A (λv=>K hs (A.put o.dst v A.h)) (b8 P (aS H) o A.eval A.h))
   (λ_=>sK P H Q hs A (λv h=>K hs (A.put o.dst v h)) (b8 P (aS H) o A.eval A.h))
   (bT H o))
  (λ_=>K hs (A.put o.dst (.p (.tuple [])) A.h)) (bA ops A o)
theorem Ie(o)(rest)(hs)(A):bR P H ops Q (o::rest) hs A=eZ P H ops Q o (bR P H ops Q rest) hs A:=by
 rw[bR];rfl
inductive HE where
 |app (t:Heap)
 |set (id:Nat) (o:AObj)
def HE.ap:HE->Heap->Heap
 |.app t,h=>h++t
 |.set id o,h=>h.set id o
def Qv (P:Program) (h:Heap) (r:OR) (v:AV):Prop:=
 r=.val v h\/∃f args,r=.call f args/\∀h',cL h h'->aD P f args h' (λr h''=>r=.ret v/\h''=h')
def HY (P:Program) (H:Hints) (o:Oper) (hs:Heap) (v:AV) (E:HE) (A:AAct):Prop:=
 ∃j sz z,bT H o=.slot j sz/\g9 P A.eval o.op=some z/\z.cells.map (·.length)=some sz/\iX hs (hs.length-1-j)=true/\A.h[hs.length-1-j]?=some (.row sz []) /\
  v=.ptr (hs.length-1-j) 1 0 0/\E=.set (hs.length-1-j) (.row sz [z])
def R6 (P:Program) (H:Hints) (o:Oper) (hs:Heap) (v:AV) (E:HE) (A:AAct):Prop:=
 bT H o=.sto/\∃T a x id ver i k ob,o.op=.store T a x/\A.eval a=.ptr id ver i k/\iX hs id=true/\gX P T (.ptr id ver i k) (A.eval x) A.h=.skip (A.h.set id ob)/\v=.p (.tuple [])/\E=.set id ob
def R8 (P:Program) (H:Hints) (o:Oper) (v:AV) (E:HE) (A:AAct):Prop:=
 bT H o=.nop/\v=.p (.tuple [])/\E=.app []/\∃T a x,o.op=.store T a x/\gX P T (A.eval a) (A.eval x) A.h=.skip A.h
def Sd (P:Program) (H:Hints) (o:Oper) (hs:Heap) (v:AV) (E:HE) (A:AAct):Prop:=
 ∃t,bT H o=.app t/\((∃l,E=.app l)\/∃id ob,E=.set id ob/\iX hs id=true)/\b8 P (aS H) o A.eval A.h=.val v (E.ap A.h)
def R7 (P:Program) (H:Hints) (o:Oper) (v:AV) (E:HE) (A:AAct):Prop:=
 bT H o=.thr/\E=.app []/\∃f args,b8 P (aS H) o A.eval A.h=.call f args/\∀h',cL A.h h'->aD P f args h' (λr h''=>r=.ret v/\h''=h')
def TS (P:Program) (H:Hints) (ops:Array Oper) (Q:Ex->AAct->Prop) (o:Oper) (A:AAct):Prop:=
 bA ops A o=some true/\bT H o=.thr/\∃f args v,b8 P (aS H) o A.eval A.h=.call f args/\aD P f args A.h (λr h''=>r=.panic v/\h''=A.h)/\∀T,Q (.panic v) { A with tmps:=T }
def QS (P:Program) (H:Hints) (ops:Array Oper) (o:Oper) (hs:Heap) (v:AV) (E:HE) (A:AAct):Prop:=
 (bA ops A o=some false/\v=.p (.tuple [])/\E=.app []) \/
 (bA ops A o=some true /\
  ((bT H o=.quiet/\E=.app []/\Qv P A.h (b8 P (aS H) o A.eval A.h) v) \/
   (bT H o=.low/\E=.app []/\Qv P hs (b8 P (aS H) o A.eval hs) v) \/
   (bT H o=.alloc/\∃t,E=.app t/\b8 P (aS H) o A.eval A.h=.val v (A.h++t)) \/
   HY P H o hs v E A\/R6 P H o hs v E A\/R8 P H o v E A\/Sd P H o hs v E A\/R7 P H o v E A))
theorem Mk{T}{id ver i k}{y}{h h'}(e:gX P T (.ptr id ver i k) y h=.skip h'):∃ob,h'=h.set id ob:=by
 unfold gX at e;split at e
 .rename_i n hx _;split at e
  .split at e
   .split at e
    .split at e
     .cases hx;cases e;exact⟨_,rfl⟩
     .cases e
    .cases e
   .cases e
  .cases e
 .cases e
theorem rQ{h}{K}{r}:y0 P h K r↔∃v,Qv P h r v/\K v:=by
 constructor
 .intro k;cases r<;>first|exact k.elim|skip
  case val v h'=>obtain⟨rfl,k⟩:=k;exact⟨v,.inl rfl,k⟩
  case call f args=>obtain⟨v,k1,k2⟩:=k;exact⟨v,.inr ⟨f,args,rfl,k1⟩,k2⟩
 .rintro⟨v,rfl|⟨f,args,rfl,k1⟩,k2⟩
  .exact⟨rfl,k2⟩
  .exact⟨v,k1,k2⟩
theorem ld{o}{K}{hs}{A}{v}{E}(q:QS P H ops o hs v E A)(k:K hs (A.put o.dst v (E.ap A.h))):eZ P H ops Q o K hs A:=by
 unfold eZ;rcases q with⟨hw,rfl,rfl⟩|⟨hw,q⟩
 .rw[hw];refine⟨λh=>(by cases h),λ_=>?_⟩;simpa[HE.ap]using k
 .rw[hw];refine⟨λ_=>?_,λh=>(by cases h)⟩;rcases q with⟨hc,rfl,q⟩|⟨hc,rfl,q⟩|⟨hc,t,rfl,q⟩|⟨j,sz,z,hc,h1,h2,h3,h4,rfl,rfl⟩|⟨hc,T,a,x,id,ver,i,kk,ob,h1,h2,h3,h4,rfl,rfl⟩|⟨hc,rfl,rfl,T,a,x,h1,h2⟩|⟨t,hc,hE,hq⟩|⟨hc,rfl,f,args,h1,h2⟩
  .rw[hc];exact rQ.2 ⟨v,q,by simpa[HE.ap]using k⟩
  .rw[hc];exact rQ.2 ⟨v,q,by simpa[HE.ap]using k⟩
  .rw[hc,q];exact⟨⟨t,rfl⟩,k⟩
  .rw[hc];refine(show tj hs A.h j sz (λv h=>K hs (A.put o.dst v h)) (g9 P A.eval o.op) from ?_);rw[h1];exact⟨h2,h3,h4,k⟩
  .rw[hc];refine(show wO P hs A.h A.eval (λh=>K hs (A.put o.dst (.p (.tuple [])) h)) o.op from ?_);rw[h1];show (match A.eval a with|.ptr id ver i o=>iX hs id=true/\rq _ (gX P T (.ptr id ver i o) (A.eval x) A.h)|_=>False);rw[h2];refine⟨h3,?_⟩;rw[h4];exact k
  .rw[hc];refine(show xi P A.h A.eval (K hs (A.put o.dst (.p (.tuple [])) A.h)) o.op from ?_);rw[h1];exact⟨h2,by simpa[HE.ap]using k⟩
  .rw[hc,hq];refine⟨?_,k⟩;rcases hE with⟨l,rfl⟩|⟨id,ob,rfl,hd⟩
   .exact .inl ⟨l,rfl⟩
   .exact .inr ⟨id,ob,rfl,hd⟩
  .rw[hc,h1];exact .inl ⟨v,h2,by simpa[HE.ap]using k⟩
theorem tQ{o}{K}{hs}{A}(q:TS P H ops Q o A):eZ P H ops Q o K hs A:=by
 obtain⟨hw,hc,f,args,v,h1,h2,h3⟩:=q;unfold eZ;rw[hw];refine⟨λ_=>?_,λh=>(by cases h)⟩;rw[hc,h1];exact .inr ⟨v,h2,h3⟩
theorem n7{o}{K}{hs}{A}(hc:bT H o=.thr)(k:eZ P H ops Q o K hs A) :
  (∃v E,QS P H ops o hs v E A/\K hs (A.put o.dst v (E.ap A.h)))\/TS P H ops Q o A:=by
 unfold eZ at k
 cases hw:bA ops A o with
 |none=>rw[hw]at k;exact k.elim
 |some b=>
  rw[hw]at k
  cases b with
  |false=>exact .inl ⟨_,.app [],.inl ⟨hw,rfl,rfl⟩,by simpa[HE.ap]using k.2 rfl⟩
  |true=>
   have k1:=k.1 rfl;rw[hc]at k1;have k2:zD P Q A (λv=>K hs (A.put o.dst v A.h)) (b8 P (aS H) o A.eval A.h):=k1;cases hr:b8 P (aS H) o A.eval A.h<;>rw[hr]at k2<;>first|exact k2.elim|skip
   rename_i f args;rcases k2 with⟨v,h1,h2⟩|⟨v,h1,h2⟩
   .exact .inl ⟨v,.app [],.inr ⟨hw,.inr (.inr (.inr (.inr (.inr (.inr (.inr ⟨hc,rfl,f,args,hr,h1⟩))))))⟩,by simpa[HE.ap]using h2⟩
   .exact .inr ⟨hw,hc,f,args,v,hr,h1,h2⟩
theorem Of{hs}{A}{K K'}{r}(hk:∀v h,K v h->K' v h)(k:sK P H Q hs A K r):sK P H Q hs A K' r:=by
 cases r<;>first|exact k.elim|skip
 intro M0 m w cargs hS ha;obtain⟨h1,h2⟩:=k M0 m w cargs hS ha;refine⟨h1,h2.mono λ_ _ hb=>?_⟩;obtain⟨r,h',m',hR,rest⟩:=hb;exact⟨r,h',m',by cases r<;>first|exact⟨hR.1,hk _ _ hR.2⟩|exact hR,rest⟩
theorem oW{o}{K}{hs}{A}(hc:bT H o=.cal)(k:eZ P H ops Q o K hs A) :
  (∃v E,QS P H ops o hs v E A/\K hs (A.put o.dst v (E.ap A.h)))\/(bA ops A o=some true/\sK P H Q hs A (λv h=>K hs (A.put o.dst v h)) (b8 P (aS H) o A.eval A.h)):=by
 unfold eZ at k
 cases hw:bA ops A o with
 |none=>rw[hw]at k;exact k.elim
 |some b=>
  rw[hw]at k
  cases b with
  |false=>exact .inl ⟨_,.app [],.inl ⟨hw,rfl,rfl⟩,by simpa[HE.ap]using k.2 rfl⟩
  |true=>
   have k1:=k.1 rfl;rw[hc]at k1;exact .inr ⟨rfl,k1⟩
theorem wP{o}{K}{hs}{A}(hc:bT H o=.cal)(hw:bA ops A o=some true)(k:sK P H Q hs A (λv h=>K hs (A.put o.dst v h)) (b8 P (aS H) o A.eval A.h)):eZ P H ops Q o K hs A:=by
 unfold eZ;rw[hw];refine⟨λ_=>?_,λh=>(by cases h)⟩;rw[hc];exact k
theorem pY{o}{K}{hs}{A}(hb:(bT H o≠.bar/\bT H o≠.thr/\bT H o≠.cal)\/bA ops A o=some false)(k:eZ P H ops Q o K hs A) :
  ∃v E,QS P H ops o hs v E A/\K hs (A.put o.dst v (E.ap A.h)):=by
 unfold eZ at k
 cases hw:bA ops A o with
 |none=>rw[hw]at k;exact k.elim
 |some b=>
  rw[hw]at k
  cases b with
  |false=>exact⟨_,.app [],.inl ⟨hw,rfl,rfl⟩,by simpa[HE.ap]using k.2 rfl⟩
  |true=>
   have k1:=k.1 rfl
   cases hc:bT H o with
   |bar=>
    rcases hb with hb|hb
    .exact absurd hc hb.1
    .rw[hw]at hb;cases hb
   |thr=>
    rcases hb with hb|hb
    .exact absurd hc hb.2.1
    .rw[hw]at hb;cases hb
   |cal=>
    rcases hb with hb|hb
    .exact absurd hc hb.2.2
    .rw[hw]at hb;cases hb
   |alloc=>
    rw[hc]at k1;cases hr:b8 P (aS H) o A.eval A.h<;>rw[hr]at k1<;>first|exact k1.elim|skip
    rename_i v h';obtain⟨⟨t,rfl⟩,k2⟩:=k1
    exact⟨v,.app t,.inr ⟨hw,.inr (.inr (.inl ⟨hc,t,rfl,hr⟩))⟩,k2⟩
   |quiet=>
    rw[hc]at k1;obtain⟨v,q,k2⟩:=rQ.1 k1
    exact⟨v,.app [],.inr ⟨hw,.inl ⟨hc,rfl,q⟩⟩,by simpa[HE.ap]using k2⟩
   |low=>
    rw[hc]at k1;obtain⟨v,q,k2⟩:=rQ.1 k1
    exact⟨v,.app [],.inr ⟨hw,.inr (.inl ⟨hc,rfl,q⟩)⟩,by simpa[HE.ap]using k2⟩
   |slot j sz=>
    rw[hc]at k1;have k2:tj hs A.h j sz (λv h=>K hs (A.put o.dst v h)) (g9 P A.eval o.op):=k1
    cases hz:g9 P A.eval o.op with
    |none=>rw[hz]at k2;exact k2.elim
    |some z=>
     rw[hz]at k2;obtain⟨h1,h2,h3,k3⟩:=k2
     exact⟨_,.set _ _,.inr ⟨hw,.inr (.inr (.inr (.inl ⟨j,sz,z,hc,hz,h1,h2,h3,rfl,rfl⟩)))⟩,k3⟩
   |sto=>
    rw[hc]at k1;have k2:wO P hs A.h A.eval (λh=>K hs (A.put o.dst (.p (.tuple [])) h)) o.op:=k1;unfold wO at k2;split at k2
    .rename_i T a x hop;split at k2
     .rename_i id ver i kk ha;obtain⟨h1,k3⟩:=k2;unfold rq at k3;split at k3
      .rename_i h' hst;obtain⟨ob,rfl⟩:=Mk hst;exact⟨_,.set id ob,.inr ⟨hw,.inr (.inr (.inr (.inr (.inl ⟨hc,T,a,x,id,ver,i,kk,ob,hop,ha,h1,hst,rfl,rfl⟩))))⟩,k3⟩
      .exact k3.elim
     .exact k2.elim
    .exact k2.elim
   |nop=>
    rw[hc]at k1;have k2:xi P A.h A.eval (K hs (A.put o.dst (.p (.tuple [])) A.h)) o.op:=k1;unfold xi at k2;split at k2
    .rename_i T a x hop;exact⟨_,.app [],.inr ⟨hw,.inr (.inr (.inr (.inr (.inr (.inl ⟨hc,rfl,rfl,T,a,x,hop,k2.1⟩)))))⟩,by simpa[HE.ap]using k2.2⟩
    .exact k2.elim
   |app t=>
    rw[hc]at k1;have k2:Al hs A.h (λv h=>K hs (A.put o.dst v h)) (b8 P (aS H) o A.eval A.h):=k1;cases hr:b8 P (aS H) o A.eval A.h<;>rw[hr]at k2<;>first|exact k2.elim|skip
    rename_i v h';obtain⟨⟨l,rfl⟩|⟨id,ob,rfl,hd⟩,k3⟩:=k2
    .exact⟨v,.app l,.inr ⟨hw,.inr (.inr (.inr (.inr (.inr (.inr (.inl ⟨t,hc,.inl ⟨l,rfl⟩,hr⟩))))))⟩,k3⟩
    .exact⟨v,.set id ob,.inr ⟨hw,.inr (.inr (.inr (.inr (.inr (.inr (.inl ⟨t,hc,.inr ⟨id,ob,rfl,hd⟩,hr⟩))))))⟩,k3⟩
theorem pC{A}{dst}{K K'}{r}(h:∀B,K B->K' B)(k:lz P A dst K Q r):lz P A dst K' Q r:=by
 cases r with
 |val v h'=>exact h _ k
 |skip h'=>exact h _ k
 |call f args=>
  intro M0 m w cargs hS ha;obtain⟨h1,h2⟩:=k M0 m w cargs hS ha;refine⟨h1,h2.mono λ_ _ hb=>?_⟩;obtain⟨r,h',m',hR,rest⟩:=hb
  exact⟨r,h',m',by cases r<;>first|exact h _ hR|exact hR,rest⟩
 |yld l args=>
  refine⟨k.1,λM0 m w cargs bl hS ha hbl=>?_⟩;obtain⟨f,tmps,asx,bd,h1,h2⟩:=k.2 M0 m w cargs bl hS ha hbl;refine⟨f,tmps,asx,bd,h1,λc cs=>?_⟩;obtain⟨e,w',⟨r,h',m',hR,rest⟩,hs⟩:=h2 c cs
  exact⟨e,w',⟨r,h',m',by cases r<;>first|exact h _ hR|exact hR,rest⟩,hs⟩
 |dfr d=>
  simp only[lz]at k |-;have gen:∀{X Y:Prop} {c:Rc},(X->Y)->v6 X c->v6 Y c:=λhx hc=>by
   rename_i c;cases c<;>first|exact False.elim hc|exact hx hc
  exact gen (h _) k
 |recover=>
  simp only[lz]at k |-;have gen:∀{X Y:AAct->PV->Prop} {c:Rc},(∀B v,X B v->Y B v)->PJ A X c->PJ A Y c:=λhx hc=>by
   rename_i c;cases c<;>first|exact False.elim hc|exact hx _ _ hc
  exact gen (λ_ _=>h _) k
 |panic v=>exact k
 |stuck=>exact k
theorem AH{o}{K K'}{hs}{A}(h:∀hs A,K hs A->K' hs A)(k:eZ P H ops Q o K hs A):eZ P H ops Q o K' hs A:=by
 by_cases ht:bT H o=.thr
 .rcases n7 ht k with⟨v,E,q,k1⟩|q
  .exact ld q (h _ _ k1)
  .exact tQ q
 by_cases hcl:bT H o=.cal
 .rcases oW hcl k with⟨v,E,q,k1⟩|⟨hw,k1⟩
  .exact ld q (h _ _ k1)
  .exact wP hcl hw (Of (λv h' hk=>h _ _ hk) k1)
 by_cases hb:bT H o≠.bar\/bA ops A o=some false
 .obtain⟨v,E,q,k1⟩:=pY (hb.imp (λh=>⟨h,ht,hcl⟩) id) k;exact ld q (h _ _ k1)
 .have hb1:bT H o=.bar:=Classical.byContradiction λhn=>hb (.inl hn);unfold eZ at k |-
  cases hw:bA ops A o with
  |none=>rw[hw]at k;exact k.elim
  |some b=>
   rw[hw,hb1]at k;rw[hb1]
   cases b with
   |false=>exact absurd (.inr hw) hb
   |true=>
    have k1:lz P A o.dst (λB=>K B.h B) Q (b8 P (aS H) o A.eval A.h):=k.1 rfl;exact⟨λ_=>pC (K':=λB=>K' B.h B) (λB=>h B.h B) k1,λh=>(by cases h)⟩
theorem LQ{o}(h:bT H o=.quiet):fa o.op=true:=by
 unfold bT at h;split at h
 .unfold u7 at h;split at h
  .split at h<;>cases h
  .cases h
 .split at h
  .split at h
   .cases h
   .split at h
    .assumption
    .cases h
  .cases h
  .split at h<;>cases h
  .split at h<;>cases h
  .split at h<;>cases h
  .split at h<;>cases h
  .split at h<;>cases h
  .cases h
theorem QC{o}(h:bT H o=.low):fa o.op=true:=by
 unfold bT at h;split at h
 .unfold u7 at h;split at h
  .split at h<;>cases h
  .cases h
 .split at h
  .split at h
   .cases h
   .split at h<;>cases h
  .cases h
  .split at h
   .assumption
   .cases h
  .split at h<;>cases h
  .split at h<;>cases h
  .split at h<;>cases h
  .split at h<;>cases h
  .cases h
theorem N5{o}{j sz}(h:bT H o=.slot j sz):zZ o.op=true:=by
 unfold bT at h;split at h
 .unfold u7 at h;split at h
  .split at h<;>cases h
  .cases h
 .split at h
  .split at h
   .cases h
   .split at h<;>cases h
  .cases h
  .split at h<;>cases h
  .split at h
   .assumption
   .cases h
  .split at h<;>cases h
  .split at h<;>cases h
  .split at h<;>cases h
  .cases h
theorem qS{e e'}{o:Oper}(he:∀x∈o.op.operands,e x=e' x):g9 P e o.op=g9 P e' o.op:=by
 unfold g9;split
 .rfl
 .rename_i T x hop;rw[he x (by rw[hop];simp[Op.operands])]
 .rfl
theorem mw{A:AAct}{dst}{v}{h}{o:Oper}(hd:∀d,dst=some d->d∉o.looksAt ops):∀x∈o.op.operands,(A.put dst v h).eval x=A.eval x:=by
 intro x hx;refine Qw λd hd' hxd=>hd d hd' ?_;subst hxd;exact List.mem_append_left _ (List.mem_filterMap.2 ⟨.tmp d,by simpa using hx,rfl⟩)
theorem QS.same{o}{hs}{v}{E}{A B}(q:QS P H ops o hs v E A)(hw:bA ops B o=bA ops A o)(he:∀x∈o.op.operands,B.eval x=A.eval x)(hh:B.h=A.h):QS P H ops o hs v E B:=by
 have hop:∀h,b8 P (aS H) o B.eval h=b8 P (aS H) o A.eval h:=λh=>ma o he;unfold QS HY R6 R8 Sd R7 at *
 rw[hw,hh,qS he];simp only[hop];rcases q with q|⟨q1,q|q|q|q|⟨hc,T,a,x,id,ver,i,kk,ob,h1,h2,h3,h4,h5⟩|⟨hc,h1,h2,T,a,x,h3,h4⟩|q⟩
 .exact .inl q
 .exact .inr ⟨q1,.inl q⟩
 .exact .inr ⟨q1,.inr (.inl q)⟩
 .exact .inr ⟨q1,.inr (.inr (.inl q))⟩
 .exact .inr ⟨q1,.inr (.inr (.inr (.inl q)))⟩
 .refine .inr ⟨q1,.inr (.inr (.inr (.inr (.inl ⟨hc,T,a,x,id,ver,i,kk,ob,h1,?_,h3,?_,h5⟩))))⟩
  .rw[he a (by rw[h1];simp[Op.operands])];exact h2
  .rw[he x (by rw[h1];simp[Op.operands])];exact h4
 .refine .inr ⟨q1,.inr (.inr (.inr (.inr (.inr (.inl ⟨hc,h1,h2,T,a,x,h3,?_⟩)))))⟩;rw[he a (by rw[h3];simp[Op.operands]),he x (by rw[h3];simp[Op.operands])];exact h4
 .exact .inr ⟨q1,.inr (.inr (.inr (.inr (.inr (.inr q)))))⟩
theorem Tu{o o'}{hs}{v}{E}{A}{K}(hp:qr H ops o o'=true)(q:QS P H ops o hs v E A)
  (k:eZ P H ops Q o' K hs (A.put o.dst v (E.ap A.h))):eZ P H ops Q o' (λhs' A'=>QS P H ops o hs' v E A'/\K hs' (A'.put o.dst v (E.ap A'.h))) hs A:=by
 unfold qr at hp;simp only[cG]at hp;obtain⟨hall,hap,hkp⟩:=hp;obtain⟨a1,a2,a3⟩:=Oper.apart_spec hap;have hb2:bT H o'≠.bar:=by
  intro hb;have hall':∀c,lQ c .bar=false:=by intro c;cases c<;>rfl
  rw[hb,hall']at hall;simp[rE]at hall
 by_cases hcl:bT H o'=.cal/\bA ops (A.put o.dst v (E.ap A.h)) o'=some true
 .obtain⟨hcl,hwt⟩:=hcl;have hlow:bT H o=.low:=by
   rw[hcl]at hall;cases hc:bT H o<;>rw[hc]at hall<;>first|rfl|(simp[lQ,yw,rE]at hall)
  have hE:E=.app []/\∀A',bA ops A' o=bA ops A o->(∀x∈o.op.operands,A'.eval x=A.eval x)->QS P H ops o hs v E A':=by
   rcases q with⟨hw,hv,hE⟩|⟨hw,⟨hc',_⟩|⟨hc',hE,hq⟩|⟨hc',_⟩|⟨_,_,_,hc',_⟩|⟨hc',_⟩|⟨hc',_⟩|⟨_,hc',_⟩|⟨hc',_⟩⟩
   .exact⟨hE,λA' h1 _=>.inl ⟨h1.trans hw,hv,hE⟩⟩
   .rw[hlow]at hc';cases hc'
   .refine⟨hE,λA' h1 h2=>.inr ⟨h1.trans hw,.inr (.inl ⟨hc',hE,?_⟩)⟩⟩;rw[ma o h2];exact hq
   all_goals (rw[hlow]at hc';cases hc')
  obtain⟨rfl,hqs⟩:=hE;rcases oW hcl k with⟨v',E',q',k'⟩|⟨_,kc⟩
  .rcases q' with⟨hw',_⟩|⟨_,⟨hc',_⟩|⟨hc',_⟩|⟨hc',_⟩|⟨_,_,_,hc',_⟩|⟨hc',_⟩|⟨hc',_⟩|⟨_,hc',_⟩|⟨hc',_⟩⟩
   .rw[hwt]at hw';cases hw'
   all_goals (rw[hcl]at hc';cases hc')
  .have e1:(A.put o.dst v (HE.ap (.app []) A.h)).h=A.h:=by rw[jt];simp[HE.ap]
   have e2:b8 P (aS H) o' (A.put o.dst v (HE.ap (.app []) A.h)).eval A.h=b8 P (aS H) o' A.eval A.h:=ma o' (mw a1);refine wP hcl ((li a1).symm.trans hwt) ?_;rw[e1,e2]at kc;cases hr:b8 P (aS H) o' A.eval A.h<;>rw[hr]at kc<;>first|exact kc.elim|skip
   rename_i f args;have kc2:aD P f args A.h (CG (λu h=>cL hs h/\K hs ((A.put o.dst v (HE.ap (.app []) A.h)).put o'.dst u h)) (λu h=>∀T,Lt H T (A.put o.dst v (HE.ap (.app []) A.h)).tmps->Q (.panic u) { A.put o.dst v (HE.ap (.app []) A.h) with tmps:=T,h:=h })):=by
    have:aD P f args (A.put o.dst v (HE.ap (.app []) A.h)).h (CG (λu h=>cL hs h/\K hs ((A.put o.dst v (HE.ap (.app []) A.h)).put o'.dst u h)) (λu h=>∀T,Lt H T (A.put o.dst v (HE.ap (.app []) A.h)).tmps->Q (.panic u) { A.put o.dst v (HE.ap (.app []) A.h) with tmps:=T,h:=h })):=kc;rw[e1]at this;exact this
   intro M0 m w cargs hS ha;obtain⟨h1,h2⟩:=kc2 M0 m w cargs hS ha;refine⟨h1,h2.mono λ_ _ hb=>?_⟩;obtain⟨r,h',m',hR,rest⟩:=hb;refine⟨r,h',m',?_,rest⟩
   cases r with
   |ret u=>
    refine⟨hR.1,hqs _ (li a3) (mw a3),?_⟩;have e3:HE.ap (.app []) (A.put o'.dst u h').h=h':=by rw[jt];simp[HE.ap]
    rw[e3,<-F9 A v u (HE.ap (.app []) A.h) h' h' a2]
    exact hR.2
   |panic u=>
    intro T hT;have:=hR T (λt ht=>by
     rw[hT t ht];unfold RW at hkp;rw[hcl]at hkp
     cases hd:o.dst with
     |none=>rfl
     |some d=>
      rw[hd]at hkp;have hne:t≠d:=by
       rintro rfl
       simp[ht]at hkp
      simp[AAct.put,wI,hne])
    have e:({ A.put o.dst v (HE.ap (.app []) A.h) with tmps:=T,h:=h' }:AAct)={ A with tmps:=T,h:=h' }:=by
     cases o.dst<;>simp[AAct.put]
    rw[e]at this;exact this
 have hcase:(∃v' E',QS P H ops o' hs v' E' (A.put o.dst v (E.ap A.h))/\K hs ((A.put o.dst v (E.ap A.h)).put o'.dst v' (E'.ap (A.put o.dst v (E.ap A.h)).h)))\/(TS P H ops Q o' (A.put o.dst v (E.ap A.h))/\E=.app []):=by
  by_cases ht:bT H o'=.thr
  .rcases n7 ht k with h|h
   .exact .inl h
   .refine .inr ⟨h,?_⟩;rw[ht]at hall;rcases q with⟨_,_,h⟩|⟨_,⟨_,h,_⟩|⟨_,h,_⟩|⟨hc',_⟩|⟨_,_,_,hc',_⟩|⟨hc',_⟩|⟨hc',_⟩|⟨_,hc',_⟩|⟨hc',_⟩⟩
    .exact h
    .exact h
    .exact h
    all_goals (rw[hc']at hall;simp[lQ,yw,rE]at hall)
  .by_cases hcl2:bT H o'=.cal
   .rcases oW hcl2 k with h|⟨h,_⟩
    .exact .inl h
    .exact absurd ⟨hcl2,h⟩ hcl
   .exact .inl (pY (.inl ⟨hb2,ht,hcl2⟩) k)
 rcases hcase with⟨v',E',q',k'⟩|⟨⟨tw,tc,f,args,u,t1,t2,t3⟩,rfl⟩
 rotate_left
 .refine tQ ⟨(li a1).symm.trans tw,tc,f,args,u,?_,?_,λT=>?_⟩
  .rw[<-t1,jt];simp only[HE.ap,bC];exact(ma o' (mw a1)).symm
  .rw[jt]at t2;simpa[HE.ap]using t2
  .have:=t3 T;have e:({ A.put o.dst v (HE.ap (.app []) A.h) with tmps:=T }:AAct)={ A with tmps:=T }:=by
    cases o.dst<;>simp[AAct.put,HE.ap]
   rw[e]at this;exact this
 have hput:(A.put o.dst v (E.ap A.h)).h=E.ap A.h:=jt _ _ _ _;have hput':(A.put o'.dst v' (E'.ap A.h)).h=E'.ap A.h:=jt _ _ _ _;have ee:∀x∈o'.op.operands,(A.put o.dst v (E.ap A.h)).eval x=A.eval x:=mw a1;have ew:bA ops (A.put o.dst v (E.ap A.h)) o'=bA ops A o':=li a1;have ee':∀x∈o.op.operands,(A.put o'.dst v' (E'.ap A.h)).eval x=A.eval x:=mw a3;have ew':bA ops (A.put o'.dst v' (E'.ap A.h)) o=bA ops A o:=li a3;have hop:∀h,b8 P (aS H) o' (A.put o.dst v (E.ap A.h)).eval h=b8 P (aS H) o' A.eval h:=λh=>ma o' ee;have hop':∀h,b8 P (aS H) o (A.put o'.dst v' (E'.ap A.h)).eval h=b8 P (aS H) o A.eval h:=λh=>ma o ee'
 have fin:QS P H ops o' hs v' E' A->QS P H ops o hs v E (A.put o'.dst v' (E'.ap A.h))->E.ap (E'.ap A.h)=E'.ap (E.ap A.h) ->
   eZ P H ops Q o' (λhs' A'=>QS P H ops o hs' v E A'/\K hs' (A'.put o.dst v (E.ap A'.h))) hs A:=by
  intro qA qB hEE;refine ld qA ⟨qB,?_⟩;rw[hput'];rw[hput]at k';have:(A.put o'.dst v' (E'.ap A.h)).put o.dst v (E.ap (E'.ap A.h))=(A.put o.dst v (E.ap A.h)).put o'.dst v' (E'.ap (E.ap A.h)):=by
   rw[hEE];exact(F9 A v v' _ _ _ a2).symm
  rw[this];exact k'
 have still:E=.app []->QS P H ops o' hs v' E' A:=λhE=>by
  refine q'.same ew.symm (λx hx=>(ee x hx).symm) ?_;rw[hput,hE];simp[HE.ap]
 have still':E'=.app []->QS P H ops o hs v E (A.put o'.dst v' (E'.ap A.h)):=λhE=>by
  refine q.same ew' ee' ?_;rw[hput',hE];simp[HE.ap]
 have lowA:(bA ops A o'=some false/\v'=.p (.tuple [])/\E'=.app [])\/(bA ops A o'=some true/\bT H o'=.low/\E'=.app []/\Qv P hs (b8 P (aS H) o' A.eval hs) v') ->
   eZ P H ops Q o' (λhs' A'=>QS P H ops o hs' v E A'/\K hs' (A'.put o.dst v (E.ap A'.h))) hs A:=by
  rintro(⟨hw,hv,hE⟩|⟨hw,hc,hE,hq⟩)
  .exact fin (.inl ⟨hw,hv,hE⟩) (still' hE) (by rw[hE];simp[HE.ap])
  .exact fin (.inr ⟨hw,.inr (.inl ⟨hc,hE,hq⟩)⟩) (still' hE) (by rw[hE];simp[HE.ap])
 have q0:=q';unfold QS at q';rw[ew]at q';simp only[hop]at q';have q1:=q;rcases q with⟨hw,rfl,rfl⟩|⟨hw,⟨hc,rfl,hq⟩|⟨hc,rfl,hq⟩|⟨hc,t,rfl,hq⟩|hsl|hst|hnp|hap'|hret⟩
 .exact fin (still rfl) (.inl ⟨ew'.trans hw,rfl,rfl⟩) (by simp[HE.ap])
 .have happ:∃t',E'=.app t':=by
   rcases q' with⟨_,_,h⟩|⟨_,⟨_,h,_⟩|⟨_,h,_⟩|⟨_,t',h,_⟩|⟨_,_,_,hc',_⟩|⟨hc',_⟩|⟨_,_,h,_⟩|⟨_,hc',_⟩|⟨hc',hE',_⟩⟩
   .exact⟨_,h⟩
   .exact⟨_,h⟩
   .exact⟨_,h⟩
   .exact⟨t',h⟩
   .rw[hc,hc']at hall;cases hall
   .rw[hc,hc']at hall;cases hall
   .exact⟨_,h⟩
   .rw[hc,hc']at hall;cases hall
   .exact⟨_,hE'⟩
  obtain⟨t',rfl⟩:=happ;refine fin (still rfl) (.inr ⟨ew'.trans hw,.inl ⟨hc,rfl,?_⟩⟩) (by simp[HE.ap]);rw[hput',hop'];have hpre:=Nd (P:=P) (mu:=aS H) (o:=o) A.eval (LQ hc) A.h (A.h++t') (cL.app _ _);rcases hq with hq|⟨f,args,hq,hcall⟩
  .exact .inl (hpre.1 _ hq)
  .exact .inr ⟨f,args,hpre.2 _ _ hq,λh' hs'=>hcall h' ((cL.app _ _).trans hs')⟩
 .exact fin (still rfl) (.inr ⟨ew'.trans hw,.inr (.inl ⟨hc,rfl,by rw[hop'];exact hq⟩)⟩) (by simp[HE.ap])
 .rcases q' with h|⟨hw',⟨hc',_⟩|h|⟨hc',_⟩|⟨_,_,_,hc',_⟩|⟨hc',_⟩|⟨hc',_⟩|⟨_,hc',_⟩|⟨hc',hE',_⟩⟩
  .exact lowA (.inl h)
  .rw[hc,hc']at hall;cases hall
  .exact lowA (.inr ⟨hw',h⟩)
  .rw[hc,hc']at hall;cases hall
  .rw[hc,hc']at hall;cases hall
  .rw[hc,hc']at hall;cases hall
  .rw[hc,hc']at hall;cases hall
  .rw[hc,hc']at hall;cases hall
  .rw[hc,hc']at hall;cases hall
 .obtain⟨j,sz,z,hc,h1,h2,h3,h4,rfl,rfl⟩:=hsl;rcases q' with h|⟨hw',⟨hc',_⟩|h|⟨hc',_⟩|⟨j',sz',z',hc',g1,g2,g3,g4,rfl,rfl⟩|⟨hc',_⟩|⟨hc',_⟩|⟨_,hc',_⟩|⟨hc',hE',_⟩⟩
  .exact lowA (.inl h)
  .rw[hc,hc']at hall;cases hall
  .exact lowA (.inr ⟨hw',h⟩)
  .rw[hc,hc']at hall;cases hall
  .rw[hput]at g4;have hne:hs.length-1-j≠hs.length-1-j':=by
    intro e;have hlt:=(aF.1 h4).1;have g5:(A.h.set (hs.length-1-j) (.row sz [z]))[hs.length-1-j']?=some (.row sz' []):=g4;rw[<-e,jf hlt]at g5;cases g5
   have g5:A.h[hs.length-1-j']?=some (.row sz' []):=by
    have:(A.h.set (hs.length-1-j) (.row sz [z]))[hs.length-1-j']?=some (.row sz' []):=g4;rwa [eo hne]at this
   refine fin (.inr ⟨hw',.inr (.inr (.inr (.inl ⟨j',sz',z',hc',?_,g2,g3,g5,rfl,rfl⟩)))⟩) (.inr ⟨ew'.trans hw,.inr (.inr (.inr (.inl ⟨j,sz,z,hc,?_,h2,h3,?_,rfl,rfl⟩)))⟩) ?_
   .rw[<-qS ee];exact g1
   .rw[qS ee'];exact h1
   .rw[hput'];show (A.h.set (hs.length-1-j') (.row sz' [z']))[hs.length-1-j]?=_;rw[eo (Ne.symm hne)];exact h4
   .exact List.set_comm _ _ (Ne.symm hne)
  .rw[hc,hc']at hall;cases hall
  .rw[hc,hc']at hall;cases hall
  .rw[hc,hc']at hall;cases hall
  .rw[hc,hc']at hall;cases hall
 .have hc:=hst.1;rcases q' with h|⟨hw',⟨hc',_⟩|h|⟨hc',_⟩|⟨_,_,_,hc',_⟩|⟨hc',_⟩|⟨hc',_⟩|⟨_,hc',_⟩|⟨hc',hE',_⟩⟩
  .exact lowA (.inl h)
  .rw[hc,hc']at hall;cases hall
  .exact lowA (.inr ⟨hw',h⟩)
  .rw[hc,hc']at hall;cases hall
  .rw[hc,hc']at hall;cases hall
  .rw[hc,hc']at hall;cases hall
  .rw[hc,hc']at hall;cases hall
  .rw[hc,hc']at hall;cases hall
  .rw[hc,hc']at hall;cases hall
 .obtain⟨hc,rfl,rfl,T,a,x,h1,h2⟩:=hnp;have hE':E'=.app []:=by
   rcases q' with⟨_,_,h⟩|⟨_,⟨_,h,_⟩|⟨_,h,_⟩|⟨hc',_⟩|⟨_,_,_,hc',_⟩|⟨hc',_⟩|⟨_,_,h,_⟩|⟨_,hc',_⟩|⟨hc',_,_⟩⟩
   .exact h
   .exact h
   .exact h
   .rw[hc,hc']at hall;cases hall
   .rw[hc,hc']at hall;cases hall
   .rw[hc,hc']at hall;cases hall
   .exact h
   .rw[hc,hc']at hall;cases hall
   .rw[hc,hc']at hall;cases hall
  exact fin (still rfl) (still' hE') (by rw[hE'])
 .obtain⟨t,hc,_⟩:=hap';rcases q' with h|⟨hw',⟨hc',_⟩|h|⟨hc',_⟩|⟨_,_,_,hc',_⟩|⟨hc',_⟩|⟨hc',_⟩|⟨_,hc',_⟩|⟨hc',hE',_⟩⟩
  .exact lowA (.inl h)
  .rw[hc,hc']at hall;cases hall
  .exact lowA (.inr ⟨hw',h⟩)
  all_goals (rw[hc,hc']at hall;cases hall)
 .obtain⟨hc,rfl,hrest⟩:=hret;have hE':E'=.app []:=by
   rcases q' with⟨_,_,h⟩|⟨_,⟨_,h,_⟩|⟨_,h,_⟩|⟨hc',_⟩|⟨_,_,_,hc',_⟩|⟨hc',_⟩|⟨_,_,h,_⟩|⟨_,hc',_⟩|⟨_,h,_⟩⟩
   .exact h
   .exact h
   .exact h
   .rw[hc,hc']at hall;simp[lQ,rE]at hall
   .rw[hc,hc']at hall;simp[lQ,rE]at hall
   .rw[hc,hc']at hall;simp[lQ,rE]at hall
   .exact h
   .rw[hc,hc']at hall;simp[lQ,rE]at hall
   .exact h
  exact fin (still rfl) (still' hE') (by rw[hE'])
end Abs
end Go.Proofs.YtoapoaoelpcniaaGreatDoor
namespace Go.Proofs.YtoapoaoelpcniaaGreatDoor
namespace Abs
variable {P:Program} {H:Hints} {ops:Array Oper} {Q:Ex->AAct->Prop}
def wk (acc:Array Nat) (o:Oper):Array Nat:=acc.push (o.after.foldl (λs e=>if Region.binds .any e then s||| 2^e.on||| acc.getD e.on 0 else s) 0)
def rZ (p:List Oper) (acc:Array Nat):Prop:=
 acc.size=p.length/\∀j i,(acc.getD j 0).testBit i=true->∃o,p[j]?=some o/\∃e,e∈o.after/\Region.binds .any e=true/\(i=e.on\/(e.on<j/\(acc.getD e.on 0).testBit i=true))
theorem Bw(acc:Array Nat)(i):∀(l:List Edge) (s),(l.foldl (λs e=>if Region.binds .any e then s||| 2^e.on||| acc.getD e.on 0 else s) s).testBit i=true ->
  s.testBit i=true\/∃e,e∈l/\Region.binds .any e=true/\(i=e.on\/(acc.getD e.on 0).testBit i=true)
 |[],s,h=>.inl h
 |e::l,s,h=>by
  simp only[nd]at h;rcases Bw acc i l _ h with h|⟨e',h1,h2⟩
  .by_cases hb:Region.binds .any e=true
   .simp only[hb,if_true,Nat.testBit_or,Pd]at h;rcases h with(h|h)|h
    .exact .inl h
    .refine .inr ⟨e,by simp,hb,.inl ?_⟩;rw[Nat.testBit_two_pow]at h;exact(of_decide_eq_true h).symm
    .exact .inr ⟨e,by simp,hb,.inr h⟩
   .simp only[hb,if_false,jc]at h;exact .inl h
  .exact .inr ⟨e',by simp[h1],h2⟩
theorem OM{p}{acc}(h:rZ p acc)(o):rZ (p++[o]) (wk acc o):=by
 obtain⟨h1,h2⟩:=h;refine⟨by simp[wk,h1],λj i hj=>?_⟩;have low:∀k,k<acc.size->(wk acc o).getD k 0=acc.getD k 0:=by
  intro k hk;simp[wk,fQ,Pb,B6 hk]
 rcases rk j acc.size with hlt|heq|hgt
 .rw[low j hlt]at hj;obtain⟨o',h3,e,h4,h5,h6⟩:=h2 j i hj;refine⟨o',by rw[aX (by omega)];exact h3,e,h4,h5,?_⟩;rcases h6 with h6|⟨h6,h7⟩
  .exact .inl h6
  .exact .inr ⟨h6,by rw[low e.on (by omega)];exact h7⟩
 .subst heq;refine⟨o,by rw[h1];simp,?_⟩;have hj':(o.after.foldl (λs e=>if Region.binds .any e then s||| 2^e.on||| acc.getD e.on 0 else s) 0).testBit i=true:=by
   simpa[wk,fQ]using hj
  rw[<-Fx]at hj';rcases Bw acc i _ _ hj' with h|⟨e,h3,h4,h5⟩
  .simp at h
  .refine⟨e,KG.1 h3,h4,?_⟩;rcases h5 with h5|h5
   .exact .inl h5
   .have hlt:e.on<acc.size:=by
     rcases dF e.on acc.size with hx|hx
     .exact hx
     .simp[fQ,rh hx]at h5
    exact .inr ⟨hlt,by rw[low _ hlt];exact h5⟩
 .have:(wk acc o).getD j 0=0:=by
   simp[wk,fQ,rh (show (acc.push _).size<=j by simp;omega)]
  rw[this]at hj;simp at hj
theorem zu(ops):rZ ops.toList (Region.before ops):=by
 have key:∀(l p:List Oper) (acc:Array Nat),rZ p acc->rZ (p++l) (l.foldl wk acc):=by
  intro l
  induction l with
  |nil=>intro p acc h;simpa using h
  |cons o l ih=>
   intro p acc h;have:=ih (p++[o]) _ (OM h o);simpa using this
 have h0:rZ [] #[]:=⟨rfl,λj i h=>by simp at h⟩
 have:=key ops.toList [] #[] h0;have heq:Region.before ops=ops.toList.foldl wk #[]:=by
  unfold Region.before;rw[<-Fx];rfl
 rw[heq];simpa using this
def Aq (ops:Array Oper) (aq:Array Bool):Prop:=
 ∀j o,aq.getD j false=true->ops[j]?=some o->∀e,e∈o.after->Region.binds .any e=true->aq.getD e.on false=true
theorem wj{aq}(hD:Aq ops aq):∀(j i) (o),ops[j]?=some o->(∀e,e∈o.after->Region.binds .any e=true->aq.getD e.on false=true) ->
  HD (Region.before ops) i j=true->aq.getD i false=true:=by
 intro j
 induction j using Nat.strongRecOn with
 |_ j ih=>
  intro i o ho hall hb;obtain⟨o',h1,e,h2,h3,h4⟩:=(zu ops).2 j i hb;have ho':ops[j]?=some o':=by simpa using h1
  rw[ho]at ho';cases ho';rcases h4 with rfl|⟨h4,h5⟩
  .exact hall e h2 h3
  .have hl:=hall e h2 h3;obtain⟨o2,h6,_⟩:=(zu ops).2 e.on i h5;have h6':ops[e.on]?=some o2:=by simpa using h6
   exact ih e.on h4 i o2 h6' (hD e.on o2 hl h6') h5
theorem Aq.set{aq}(hD:Aq ops aq){i}(hi:i∈Region.ready .any ops aq):Aq ops (aq.setIfInBounds i true):=by
 intro j o hj ho e he hb;obtain⟨h0,oi,hoi,hall⟩:=mem_ready.1 hi;by_cases hji:j=i
 .subst hji;rw[ho]at hoi;cases hoi;exact getD_set_true (hall e he hb)
 .rw[getD_set_ne false (Ne.symm hji)]at hj;exact getD_set_true (hD j o hj ho e he hb)
def Ar (P:Program) (H:Hints) (ops:Array Oper) (Q:Ex->AAct->Prop):Nat->Array Bool->Heap->AAct->Prop
 |0,aq,_,A=>Region.ready .any ops aq=[]/\Q .normal A
 |fuel+1,aq,hs,A=>
  (Region.ready .any ops aq=[]->Q .normal A) /\
  ∀i∈Region.ready .any ops aq,∀o,ops[i]?=some o->eZ P H ops Q o (Ar P H ops Q fuel (aq.setIfInBounds i true)) hs A
def rY (H:Hints) (ops:Array Oper) (aq:Array Bool) (i:Nat) (oi:Oper):Prop:=∀j o,j≠i->aq.getD j true=false->ops[j]?=some o->HD (Region.before ops) i j=true\/qr H ops oi o=true
theorem uu{aq:Array Bool}{j}:(aq.setIfInBounds j true).getD j true=true:=by
 rw[fQ,UM];rw[if_pos rfl];split<;>rfl
theorem rY.set{H}{ops}{aq}{i}{oi}(h:rY H ops aq i oi)(j):rY H ops (aq.setIfInBounds j true) i oi:=by
 intro x o hxi hx ho;by_cases hxj:j=x
 .subst hxj;rw[uu]at hx;cases hx
 .rw[getD_set_ne true hxj]at hx;exact h x o hxi hx ho
theorem Ej{i}{oi}{v}{E}(hi:ops[i]?=some oi) :
  ∀(fuel) (aq) (hs) (A),Aq ops aq->rY H ops aq i oi->i∈Region.ready .any ops aq->QS P H ops oi hs v E A ->
   Ar P H ops Q fuel (aq.setIfInBounds i true) hs (A.put oi.dst v (E.ap A.h))->Ar P H ops Q (fuel+1) aq hs A:=by
 intro fuel
 induction fuel with
 |zero=>
  intro aq hs A _ _ hr q k;refine⟨λh=>(by rw[h]at hr;cases hr),λj hj o ho=>?_⟩;by_cases hji:j=i
  .subst hji;rw[hi]at ho;cases ho;exact ld q k
  .have:=ready_mono hj hji;rw[k.1]at this
   cases this
 |succ fuel ih=>
  intro aq hs A hD hB hr q k;refine⟨λh=>(by rw[h]at hr;cases hr),λj hj o ho=>?_⟩;by_cases hji:j=i
  .subst hji;rw[hi]at ho;cases ho;exact ld q k
  .have h1:=k.2 j (ready_mono hj hji) o ho;obtain⟨hjun,oj,hoj,hall⟩:=mem_ready.1 hj;rw[ho]at hoj;cases hoj;have hp:qr H ops oi o=true:=by
    rcases hB j o hji hjun ho with h|h
    .have h2:=wj hD j i o ho (λe he hb=>hall e he hb) h;have h0:=(mem_ready.1 hr).1;rcases dF i aq.size with h'|h'
     .simp[h']at h0 h2;rw[h0]at h2;cases h2
     .simp[rh h']at h2
    .exact h
   have h2:=Tu hp q h1;refine AH ?_ h2
   rintro hs' A' ⟨q',k'⟩
   refine ih (aq.setIfInBounds j true) hs' A' (hD.set hj) (hB.set j) (ready_mono hr (Ne.symm hji)) q' ?_;rw[Array.setIfInBounds_comm _ _ hji];exact k'
def Dh (aq:Array Bool):Nat:=aq.toList.countP (·==false)
theorem BE:∀(l:List Bool) (j),l[j]?=some false->(l.set j true).countP (·==false)+1=l.countP (·==false)
 |[],j,h=>by simp at h
 |b::l,0,h=>by
  have:b=false:=by simpa using h
  subst this
  simp
 |b::l,j+1,h=>by
  have:=BE l j (by simpa using h);simp only[List.set_cons_succ,List.countP_cons];omega
theorem Cf{aq}{j}(h:aq.getD j true=false):Dh (aq.setIfInBounds j true)+1=Dh aq:=by
 have h1:aq[j]?=some false:=by
  rw[fQ]at h
  cases hj:aq[j]? with
  |none=>rw[hj]at h;simp at h
  |some b=>rw[hj]at h;simp at h;rw[h]
 unfold Dh;rw[Array.toList_setIfInBounds];exact BE _ _ (by simpa using h1)
theorem Sn{aq}{j}(h:aq.getD j true=false):0<Dh aq:=by
 have:=Cf h;omega
theorem N4{o}{K}{hs}{A}(hf:vS o=true)(hq:rE (bT H o)=true)(k:∀v,K hs (A.put o.dst v A.h)):eZ P H ops Q o K hs A:=by
 have hc:bT H o=.quiet:=by cases hc:bT H o<;>rw[hc]at hq<;>first|rfl|cases hq
 obtain⟨dst,op,ty,pos,after,guard⟩:=o;unfold eZ
 cases guard with
 |some g=>simp[vS]at hf
 |none=>
  refine⟨λ_=>?_,λh=>(by cases h)⟩;rw[hc];cases op<;>simp only[vS,jc]at hf
  .exact⟨rfl,k _⟩
  .exact⟨rfl,k _⟩
theorem TS.put{o o':Oper}{A}(q:TS P H ops Q o A)(hap:∀d,o'.dst=some d->d∉o.looksAt ops)(v):TS P H ops Q o (A.put o'.dst v A.h):=by
 obtain⟨tw,tc,f,args,u,t1,t2,t3⟩:=q;refine⟨(li hap).trans tw,tc,f,args,u,?_,?_,λT=>?_⟩
 .rw[<-t1,jt];exact ma o (mw hap)
 .rw[jt];exact t2
 .have e:({ A.put o'.dst v A.h with tmps:=T }:AAct)={ A with tmps:=T }:=by
   cases o'.dst<;>simp[AAct.put]
  rw[e];exact t3 T
theorem Ri{i}{oi}(hi:ops[i]?=some oi) :
  ∀(fuel) (aq) (hs) (A),Dh aq<=fuel->Aq ops aq->rY H ops aq i oi->i∈Region.ready .any ops aq->TS P H ops Q oi A->Ar P H ops Q fuel aq hs A:=by
 intro fuel
 induction fuel with
 |zero=>
  intro aq hs A hu _ _ hr _;have:=Sn (mem_ready.1 hr).1
  omega
 |succ fuel ih=>
  intro aq hs A hu hD hB hr q;refine⟨λh=>(by rw[h]at hr;cases hr),λj hj o ho=>?_⟩;by_cases hji:j=i
  .subst hji;rw[hi]at ho;cases ho;exact tQ q
  .obtain⟨hjun,oj,hoj,hall⟩:=mem_ready.1 hj;rw[ho]at hoj;cases hoj;have hp:qr H ops oi o=true:=by
    rcases hB j o hji hjun ho with h|h
    .have h2:=wj hD j i o ho (λe he hb=>hall e he hb) h;have h0:=(mem_ready.1 hr).1;rcases dF i aq.size with h'|h'
     .simp[h']at h0 h2;rw[h0]at h2;cases h2
     .simp[rh h']at h2
    .exact h
   unfold qr at hp;simp only[cG]at hp;obtain⟨hpd,hap,_⟩:=hp;obtain⟨a1,a2,a3⟩:=Oper.apart_spec hap;have hthr:∀c,lQ .thr c=false:=by intro c;cases c<;>rfl
   rw[q.2.1,hthr]at hpd;simp only[yw,rf,ng,cG]at hpd;refine N4 hpd.1 hpd.2 λv=>?_;refine ih (aq.setIfInBounds j true) hs _ ?_ (hD.set hj) (hB.set j) (ready_mono hr (Ne.symm hji)) (q.put a3 v);have:=Cf hjun;omega
def WM (ops:Array Oper) (l:List Nat) (aq:Array Bool):Prop:=aq.size=ops.size/\∀j,aq.getD j true=false↔j∈l
theorem F3{l}{aq:Array Bool}{i}(hil:i∉l)(h:∀j,aq.getD j true=false↔j∈i::l)(j):(aq.setIfInBounds i true).getD j true=false↔j∈l:=by
 by_cases hij:i=j
 .subst hij;rw[uu];exact⟨λh=>(by cases h),λh=>absurd h hil⟩
 .rw[getD_set_ne true hij,h j];simp[Ne.symm hij]
theorem FL:∀(l:List Nat) (aq),l.Nodup->(∀j,aq.getD j true=false↔j∈l)->Dh aq<=l.length
 |[],aq,_,h=>by
  rcases tN (Dh aq) with h0|h0
  .omega
  .exfalso;unfold Dh at h0;obtain⟨b,hb,hb2⟩:=List.countP_pos_iff.1 (show 0<List.countP (λx=>x==false) aq.toList from h0);obtain⟨j,hj⟩:=dX hb;have hb3:b=false:=by simpa using hb2
   subst hb3;have:=(h j).1 (by rw[fQ,<-Array.getElem?_toList,hj];rfl)
   cases this
 |i::l,aq,hn,h=>by
  have hi:aq.getD i true=false:=(h i).2 (by simp);have:=Cf hi;have ih:=FL l (aq.setIfInBounds i true) (EZ.1 hn).2 (F3 (EZ.1 hn).1 h);rw[cu];omega
theorem Qy:∀(l) (os) (aq) (hs) (A),l.map (λi=>ops[i]?)=os.map some->l.Nodup->WM ops l aq->Aq ops aq->AY H ops (Region.before ops) l=true ->
  bR P H ops Q os hs A->Ar P H ops Q l.length aq hs A:=by
 intro l
 induction l with
 |nil=>
  intro os aq hs A he hn hR hD hok h;have:os=[]:=by cases os<;>simp_all
  subst this;refine⟨?_,h⟩;refine List.eq_nil_iff_forall_not_mem.2 λj hj=>?_;obtain⟨h1,_⟩:=mem_ready.1 hj
  exact absurd ((hR.2 j).1 h1) (by simp)
 |cons i l ih=>
  intro os aq hs A he hn hR hD hok h
  cases os with
  |nil=>simp at he
  |cons o rest=>
   simp only[bL,List.cons.injEq]at he;obtain⟨hoi,he⟩:=he;obtain⟨hil,hnl⟩:=EZ.1 hn;rw[AY,hoi]at hok;simp only[cG]at hok;obtain⟨⟨hedge,hpair⟩,hokl⟩:=hok;have hiu:aq.getD i true=false:=(hR.2 i).2 (by simp);have hisz:i<ops.size:=(r6.1 hoi).1;have hr:i∈Region.ready .any ops aq:=by
    refine mem_ready.2 ⟨hiu,o,hoi,λe he hb=>?_⟩;have:=(Array.all_eq_true_iff_forall_mem.1 hedge) e he;simp only[hb,Bool.not_true,rf,cG,decide_eq_true_eq,Fu]at this;obtain⟨h1,h2⟩:=this;have h3:¬aq.getD e.on true=false:=λh'=>by
     have h4:=(hR.2 _).1 h';rw[<-List.contains_iff_mem]at h4;rw[h4]at h2;cases h2
    have h4:e.on<aq.size:=by rw[hR.1];exact h1
    rw[fQ,KN h4]at h3 |-;simpa using h3
   have hB:rY H ops aq i o:=by
    intro j oj hji hj hoj;have hjl:=(hR.2 j).1 hj;rcases ci.1 hjl with rfl|hjl
    .exact absurd rfl hji
    have:=lm.1 hpair j hjl;rw[hoj]at this;simp only[cG,Pd]at this;exact this.2
   have hR':WM ops l (aq.setIfInBounds i true):=⟨by simp[hR.1],F3 hil hR.2⟩
   have hD':=hD.set hr;rw[Ie]at h;have h':eZ P H ops Q o (Ar P H ops Q l.length (aq.setIfInBounds i true)) hs A:=AH (λhs A hk=>ih rest _ hs A he hnl hR' hD' hokl hk) h;by_cases ht:bT H o=.thr
   .rcases n7 ht h' with⟨v,E,q,k⟩|q
    .exact Ej hoi _ _ _ A hD hB hr q k
    .exact Ri hoi _ _ hs A (FL (i::l) aq hn hR.2) hD hB hr q
   by_cases hb:(bT H o≠.bar/\bT H o≠.cal)\/bA ops A o=some false
   .obtain⟨v,E,q,k⟩:=pY (hb.imp (λh=>⟨h.1,ht,h.2⟩) id) h';exact Ej hoi _ _ _ A hD hB hr q k
   .have hb1:bT H o=.bar\/bT H o=.cal:=by
     by_cases h1:bT H o=.bar
     .exact .inl h1
     .exact .inr (Classical.byContradiction λhn=>hb (.inl ⟨h1,hn⟩))
    refine⟨λh0=>?_,λj hj oj hoj=>?_⟩
    .rw[h0]at hr;cases hr
    .have hji:j=i:=by
      obtain⟨h1,o',ho',hall⟩:=mem_ready.1 hj;rw[hoj]at ho';cases ho';refine Classical.byContradiction λhne=>?_;rcases hB j oj hne h1 hoj with h3|h3
      .have h4:=wj hD j i oj hoj hall h3;have h5:i<aq.size:=by rw[hR.1];exact hisz
       rw[fQ,KN h5]at hiu h4;simp at hiu h4;rw[hiu]at h4;cases h4
      .have hall':∀c,lQ .bar c=false/\lQ .cal c=false:=by intro c;cases c<;>exact⟨rfl,rfl⟩
       unfold qr at h3;rcases hb1 with hb1|hb1
       .rw[hb1,(hall' _).1]at h3;simp[yw]at h3
       .rw[hb1,(hall' _).2]at h3;simp[yw]at h3
     subst hji;rw[hoi]at hoj;cases hoj;exact h'
variable {M0:Nat->Prop} {S0:Mem} {b:Frame} {cs0:List Frame}
theorem zG{hs h}(hx:cL hs h){id}(hd:iX hs id=true)(ob):cL hs (h.set id ob):=by
 intro x o ho hn;by_cases hxi:id=x
 .subst hxi;unfold iX at hd;rw[ho]at hd;cases o<;>first|(cases hd;done)|(cases hn;done)
 .rw[eo hxi];exact hx x o ho hn
theorem Py{o}{K}{hs}{A}(hx:cL hs A.h)(k:eZ P H ops Q o K hs A) :
  (bA ops A o=some false/\K hs (A.put o.dst (.p (.tuple [])) A.h)) \/
  (bA ops A o=some true/\lz P A o.dst (λB=>∃hs',cL hs' B.h/\K hs' B) Q (b8 P (aS H) o A.eval A.h)) \/
  (bA ops A o=some true/\∃v E,HY P H o hs v E A/\cL hs (E.ap A.h)/\K hs (A.put o.dst v (E.ap A.h))):=by
 have hcase:(∃v E,QS P H ops o hs v E A/\K hs (A.put o.dst v (E.ap A.h)))\/TS P H ops Q o A\/(bT H o=.cal/\bA ops A o=some true/\sK P H Q hs A (λv h=>K hs (A.put o.dst v h)) (b8 P (aS H) o A.eval A.h))\/¬(bT H o≠.bar\/bA ops A o=some false):=by
  by_cases ht:bT H o=.thr
  .rcases n7 ht k with h|h
   .exact .inl h
   .exact .inr (.inl h)
  .by_cases hcl:bT H o=.cal
   .rcases oW hcl k with h|h
    .exact .inl h
    .exact .inr (.inr (.inl ⟨hcl,h⟩))
   .by_cases hb:bT H o≠.bar\/bA ops A o=some false
    .exact .inl (pY (hb.imp (λh=>⟨h,ht,hcl⟩) id) k)
    .exact .inr (.inr (.inr hb))
 rcases hcase with⟨v,E,q,k1⟩|⟨tw,tc,f,args,u,t1,t2,t3⟩|⟨hcl,hw,kc⟩|hb
 .have fin:∀(r:OR),Qv P A.h r v->K hs (A.put o.dst v A.h)->lz P A o.dst (λB=>∃hs',cL hs' B.h/\K hs' B) Q r:=by
   intro r hr hk;rcases hr with rfl|⟨f,args,rfl,hc⟩
   .exact⟨hs,by rw[jt];exact hx,hk⟩
   .have:=hc A.h (cL.refl _);intro M0 m w cargs hS ha;obtain⟨h1,h2⟩:=this M0 m w cargs hS ha;refine⟨h1,h2.mono λ_ _ hb=>?_⟩;obtain⟨r,h',m',⟨rfl,rfl⟩,rest⟩:=hb;exact⟨.ret v,_,m',⟨hs,by rw[jt];exact hx,hk⟩,rest⟩
  rcases q with⟨hw,rfl,rfl⟩|⟨hw,⟨hc,rfl,q⟩|⟨hc,rfl,q⟩|⟨hc,t,rfl,q⟩|q|⟨hc,T,a,x,id,ver,i,kk,ob,h1,h2,h3,h4,rfl,rfl⟩|⟨hc,rfl,rfl,T,a,x,h1,h2⟩|⟨t,hc,hE,hq⟩|⟨hc,rfl,f,args,g1,g2⟩⟩
  .exact .inl ⟨hw,by simpa[HE.ap]using k1⟩
  .exact .inr (.inl ⟨hw,fin _ q (by simpa[HE.ap]using k1)⟩)
  .refine .inr (.inl ⟨hw,fin _ ?_ (by simpa[HE.ap]using k1)⟩);have hpre:=Nd (P:=P) (mu:=aS H) (o:=o) A.eval (QC hc) hs A.h hx;rcases q with q|⟨f,args,q,hcall⟩
   .exact .inl (hpre.1 _ q)
   .exact .inr ⟨f,args,hpre.2 _ _ q,λh' hs'=>hcall h' (hx.trans hs')⟩
  .refine .inr (.inl ⟨hw,?_⟩);rw[q];exact⟨hs,by rw[jt];exact hx.trans (cL.app _ _),k1⟩
  .refine .inr (.inr ⟨hw,v,E,q,?_,k1⟩);obtain⟨j,sz,z,hc,h1,h2,h3,h4,rfl,rfl⟩:=q;exact zG hx h3 _
  .refine .inr (.inl ⟨hw,?_⟩);have hop:b8 P (aS H) o A.eval A.h=.skip (A.h.set id ob):=by
    unfold b8;rw[h1];show gX P T (A.eval a) (A.eval x) A.h=_;rw[h2];exact h4
   rw[hop];exact⟨hs,by rw[jt];exact zG hx h3 _,k1⟩
  .refine .inr (.inl ⟨hw,?_⟩);have hop:b8 P (aS H) o A.eval A.h=.skip A.h:=by
    unfold b8;rw[h1];exact h2
   rw[hop];exact⟨hs,by rw[jt];exact hx,by simpa[HE.ap]using k1⟩
  .refine .inr (.inl ⟨hw,?_⟩);rw[hq];refine⟨hs,?_,k1⟩;rw[jt];rcases hE with⟨l,rfl⟩|⟨id,ob,rfl,hd⟩
   .exact hx.trans (cL.app _ _)
   .exact zG hx hd _
  .exact .inr (.inl ⟨hw,fin _ (.inr ⟨f,args,g1,g2⟩) (by simpa[HE.ap]using k1)⟩)
 .refine .inr (.inl ⟨tw,?_⟩);rw[t1];intro M0 m w cargs hS ha;obtain⟨h1,h2⟩:=t2 M0 m w cargs hS ha;refine⟨h1,h2.mono λ_ _ hb=>?_⟩;obtain⟨r,h',m',⟨rfl,rfl⟩,rest⟩:=hb;exact⟨.panic u,_,m',t3 A.tmps,rest⟩
 .refine .inr (.inl ⟨hw,?_⟩);cases hr:b8 P (aS H) o A.eval A.h<;>rw[hr]at kc<;>first|exact kc.elim|skip
  intro M0 m w cargs hS ha;obtain⟨h1,h2⟩:=kc M0 m w cargs hS ha;refine⟨h1,h2.mono λ_ _ hb=>?_⟩;obtain⟨r,h',m',hR,rest⟩:=hb
  exact⟨r,h',m',by
   cases r with
   |ret v=>exact⟨hs,by rw[jt];exact hR.1,hR.2⟩
   |panic v=>exact hR A.tmps (λ_ _=>rfl),rest⟩
 .have hb1:bT H o=.bar:=Classical.byContradiction λhn=>hb (.inl hn);unfold eZ at k
  cases hw:bA ops A o with
  |none=>rw[hw]at k;exact k.elim
  |some b=>
   rw[hw,hb1]at k
   cases b with
   |false=>exact absurd (.inr hw) hb
   |true=>
    have k1:lz P A o.dst (λB=>K B.h B) Q (b8 P (aS H) o A.eval A.h):=k.1 rfl;exact .inr (.inl ⟨rfl,pC (λB hB=>⟨B.h,cL.refl _,hB⟩) k1⟩)
theorem Ub{n}{k}(hd:ops.toList.all (oT n)=true):∀(fuel t) (aq) (hs) {m} {A} {a} {w},cL hs A.h ->
  Rel P M0 S0 b cs0 m A a w->A.n=n->Ar P H ops Q fuel aq hs A ->
   pj P M0 S0 b cs0 n (lone (b.atR a (.inRegion ops (Region.linearise.go .any ops fuel t aq [])::k)) (bu A.rc cs0) w) k Q:=by
 intro fuel
 induction fuel with
 |zero=>
  intro t aq hs m A a w hx hr hn h
  exact⟨.normal,A,m,a,w,h.2,hn,hr,.one (by simp only[Region.linearise.go,List.reverse_nil];exact stepR_region_end)⟩
 |succ fuel ih=>
  intro t aq hs m A a w hx hr hn h;obtain⟨h0,h1⟩:=h
  have hgo:Region.linearise.go .any ops (fuel+1) t aq []=match (Region.ready .any ops aq)[t%(Region.ready .any ops aq).length]? with
   |some i=>Region.linearise.go .any ops fuel (t / (Region.ready .any ops aq).length) (aq.setIfInBounds i true) [i]
   |none=>[].reverse:=rfl
  rw[hgo]
  cases hi:(Region.ready .any ops aq)[t%(Region.ready .any ops aq).length]? with
  |none=>
   have hnil:Region.ready .any ops aq=[]:=by
    cases hrr:Region.ready .any ops aq with
    |nil=>rfl
    |cons x xs=>
     rw[hrr]at hi;have hlt:t%(x::xs).length<(x::xs).length:=uQ _ (by simp);simp at hi;simp at hlt;omega
   exact⟨.normal,A,m,a,w,h0 hnil,hn,hr,.one (by simp only[List.reverse_nil];exact stepR_region_end)⟩
  |some i=>
   simp only[];rw[linearise_go_acc,List.reverse_singleton,KQ];have hmem:=aG hi;obtain⟨_,o,ho,_⟩:=mem_ready.1 hmem;have hstep:=h1 i hmem o ho;have hdo:oT A.n o=true:=by
    rw[hn];exact lm.1 hd o (KG.2 (Array.mem_of_getElem? ho))
   rcases Py hx hstep with⟨hw,hk⟩|⟨hw,hk⟩|⟨hw,v,E,hsl,hxs,hk⟩
   .have hwm:=hr.wanted hw;have hs1:=stepR_op_skip (P:=P) (b:=b) (k:=k) (cs:=bu A.rc cs0) (w:=w) (rest:=Region.linearise.go .any ops fuel (t / (Region.ready .any ops aq).length) (aq.setIfInBounds i true) []) (wH ho hwm);simp only[ho,gp]at hs1;have hr':=hr.put (dst:=o.dst) (mX hdo) (qh _ _);have:=ih (t / (Region.ready .any ops aq).length) (aq.setIfInBounds i true) hs (by rw[jt];exact hx) hr' ((pZ _ _ _ _).trans hn) hk;rw[mL]at this;exact this.of_steps (.one hs1)
   .have hwm:=hr.wanted hw;rcases JF (i:=i) (rest:=Region.linearise.go .any ops fuel (t / (Region.ready .any ops aq).length) (aq.setIfInBounds i true) []) (k:=k) ho hdo hwm hr hk with⟨A',m',a',w',⟨hs',hx',hK⟩,hn',hr',hs1⟩|⟨v,A',m',a',w',v',todo,hQ,hn',hr',hv,hs1⟩
    .exact(ih _ _ hs' hx' hr' (hn'.trans hn) hK).of_steps hs1
    .exact⟨.panic v,A',m',a',w',hQ,hn'.trans hn,hr',v',todo,hv,hs1⟩
   .have hwm:=hr.wanted hw;obtain⟨j,sz,z,hc,g1,g2,g3,g4,rfl,rfl⟩:=hsl;have hso:=N5 hc;have hnd:∀c,o.op≠.defer c:=by
     intro c hcc;rw[hcc]at hso;cases hso
    have hok:=St (P:=P) (o:=o) hr.hok g4 hr.eval g1 g2;obtain⟨m',a',w',hr',hs1⟩:=Iv (i:=i) (rest:=Region.linearise.go .any ops fuel (t / (Region.ready .any ops aq).length) (aq.setIfInBounds i true) []) (k:=k) ho hdo hwm hr hnd hok;have:=ih (t / (Region.ready .any ops aq).length) (aq.setIfInBounds i true) hs (by rw[jt];exact hxs) hr' ((pZ _ _ _ _).trans hn) hk;rw[mL]at this;exact this.of_steps hs1
theorem DH:∀(l) (h),cL (vF h l) h/\(vF h l).length=h.length
 |[],h=>⟨cL.refl _,rfl⟩
 |id::l,h=>by
  obtain⟨h1,h2⟩:=DH l (h.set id .dead);refine⟨h1.trans λx o ho hn=>?_,by rw[vF,h2];simp⟩;by_cases hxi:id=x
  .subst hxi;have hlt:=(aF.1 ho).1;rw[jf (by simpa using hlt)]at ho;cases ho;cases hn
  .rwa [eo hxi]at ho
theorem GL(id)(h):cL (gA id h) h/\(gA id h).length=h.length:=by
 refine⟨λx o ho hn=>?_,by simp[gA]⟩;unfold gA at ho;rw[E5]at ho
 cases hx:h[x]? with
 |none=>rw[hx]at ho;cases ho
 |some y=>
  rw[hx]at ho;simp only[jX,jO]at ho;split at ho
  .rw[<-ho]
  .rw[<-ho]at hn;cases hn
theorem Nv(H)(ops)(A):cL (yu H ops A) A.h/\(yu H ops A).length=A.h.length:=by
 unfold yu;split
 .exact GL _ _
 .exact DH _ _
theorem LO(H)(ops)(A):cL (oU H ops A) (rH H ops A).h:=by
 intro x o ho hn;obtain⟨h1,h2⟩:=Nv H ops A;unfold oU at ho;show (A.h++_)[x]?=_;rcases dF x A.h.length with hl|hl
 .rw[aX (by omega)]at ho;rw[aX hl];exact h1 x o ho hn
 .rw[bW (by omega)]at ho;have:=aG ho;simp only[cH]at this;obtain⟨_,_,rfl⟩:=this;cases hn
theorem JH{α β}(f:α->β)(a b)(l):(Gt a b l).map f=Gt a b (l.map f):=by
 unfold Gt;rw[eF];split
 .simp[At,List.map_drop]
 .rfl
theorem P4{α}(a b)(l:List α):(Gt a b l).Perm l:=by
 unfold Gt;split
 .rename_i h;have e:l=l.take a++((l.drop a).take 1++((l.drop (a+1)).take (b-a)++l.drop (b+1))):=by
   have e1:(l.drop (a+1)).take (b-a)++l.drop (b+1)=l.drop (a+1):=by
    have e2:l.drop (b+1)=(l.drop (a+1)).drop (b-a):=by rw[wE];congr 1;omega
    rw[e2];exact lr _ _
   rw[e1];have e3:(l.drop a).take 1++l.drop (a+1)=l.drop a:=by
    have e4:l.drop (a+1)=(l.drop a).drop 1:=by rw[wE]
    rw[e4];exact lr _ _
   rw[e3];exact(lr _ _).symm
  refine List.Perm.trans ?_ (List.Perm.of_eq e.symm);rw[cF,cF];refine List.Perm.append_left _ ?_;rw[<-cF,<-cF];exact List.Perm.append_right _ List.perm_append_comm
 .exact .refl _
theorem Nl(H)(n):(vt H n).Perm (List.range n):=by
 unfold vt;split
 .exact P4 _ _ _
 .exact .refl _
theorem SI(H)(ops:Array Oper):(vt H ops.size).map (λi=>ops[i]?)=(zP H ops.toList).map some:=by
 have base:(List.range ops.size).map (λi=>ops[i]?)=ops.toList.map some:=by
  apply uS;intro i;rw[cO,cO];have e:ops.toList[i]?=ops[i]?:=by simp
  rw[e];rcases dF i ops.size with h|h
  .have e2:(List.range ops.size)[i]?=some i:=by simp[h]
   rw[e2,KN h];simp[h]
  .have e2:(List.range ops.size)[i]?=none:=na (by simpa using h);rw[e2,rh h];rfl
 unfold vt zP;split
 .rw[JH,base,JH]
 .exact base
theorem Rel.drew{m}{A}{a}{w}(hr:Rel P M0 S0 b cs0 m A a w):Rel P M0 S0 b cs0 m A a { w with drawn:=w.drawn+1 }:=
 hr.ahead (Ev.drew _ ⟨m,A.h,w⟩) (HOk.drew hr.hok)
theorem Tf(hm:P.follows .mixedOrders=true):ea P:=by
 intro M0 S0 b cs0 m A a w H ops Q n id k hd hok hr hn h;have hok2:AY H ops (Region.before ops) (vt H ops.size)=true/\(vt H ops.size).length=ops.size:=by
  unfold G2 at hok;simp only[cG,decide_eq_true_eq]at hok;exact⟨hok.2,hok.1.2⟩
 have hper:=Nl H ops.size;have hany:=Qy (vt H ops.size) _ (Array.replicate ops.size false) _ _ (SI H ops) (hper.nodup_iff.2 List.nodup_range) ⟨by simp,λj=>by
   rw[hper.mem_iff,rj,fQ];by_cases hj:j<ops.size
   .simp[hj]
   .simp[hj]⟩ (λj o hj ho e he hb=>by
   exfalso;rw[fQ]at hj;by_cases hj2:j<ops.size
   .simp[hj2]at hj
   .simp[hj2]at hj) hok2.1 h
 rw[hok2.2]at hany;obtain⟨m',hr'⟩:=hr.resv (tm H ops.toList);have hs:=stepR_region_draw (P:=P) (b:=b) (a:=a) (k:=k) (cs:=bu A.rc cs0) (w:=w) (ops:=ops) (id:=id);refine pj.of_steps (.one hs) ?_;simp only[Region.schedule,hm,tL,if_true];exact Ub (A:=rH H ops.toList A) hd ops.size _ _ _ (LO H ops.toList A) hr'.drew hn hany
end Abs
end Go.Proofs.YtoapoaoelpcniaaGreatDoor
