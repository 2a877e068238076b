/- LAWS: regions of any order: what the order of the text comes to, every order comes to.
  L -/
import Derived.Test.YtmndpldajflenaaGreatDoorAbsFunX
import Derived.Orders
set_option linter.all false
namespace Go.Proofs.YtmndpldajflenaaGreatDoor
namespace Abs
variable {P:Program} {H:Hints} {ops:Array Oper} {Q:Ex->AAct->Prop}
theorem lb{mu}{e j}{h}(o)(i:∀x∈o.op.operands,e x=j x):bh P mu o e h=bh P mu o j h:=by
 obtain⟨dst,op,E,pos,D,C⟩:=o;have l:∀ps:Array (Nat×Operand),(∀x∈ps.map (·.2),e x=j x)->(ps.toList.map λq=>(q.1,e q.2))=(ps.toList.map λq=>(q.1,j q.2)):=λps z=>
  Ia λq A=>by
   simp only[z q.2 (Array.mem_map.2 ⟨q,H8.1 A,rfl⟩)]
 have a:∀xs:Array Operand,(∀x∈xs,e x=j x)->xs.toList.map e=xs.toList.map j:=λxs z=>
  Ia λx A=>z x (H8.1 A)
 cases op<;>simp only[Op.operands]at i<;>simp only[bh]
 case build t ps=>rw[l ps λx hx=>i x (by simpa using hx)]
 case buildSlice t n ps=>rw[l ps λx hx=>i x (by simpa using hx)]
 case makeFunc fn first cap=>rw[a first λx hx=>i x (by simp[hx]),a cap λx hx=>i x (by simp[hx])]
 case slice t x lo hi mx=>
  have K:e x=j x:=i x (by simp);have J:lo.map e=lo.map j:=by cases lo with|none=>rfl|some y=>simp only[jI,i y (by simp)]
  have I:hi.map e=hi.map j:=by cases hi with|none=>rfl|some y=>simp only[jI,i y (by simp)]
  have G:mx.map e=mx.map j:=by cases mx with|none=>rfl|some y=>simp only[jI,i y (by simp)]
  rw[K,J,I,G]
 case call c=>
  have u:c.args.toList.map e=c.args.toList.map j:=a c.args λx hx=>i x (by simp[Call.operands,hx])
  cases v:c.callee with
  |value f=>simp only[u,i f (by simp[Call.operands,v])]
  |builtin b=>simp only[u]
  |invoke r F=>simp only[u,i r (by simp[Call.operands,v])]
 case defer c=>
  have u:c.args.toList.map e=c.args.toList.map j:=a c.args λx hx=>i x (by simp[Call.operands,hx])
  cases v:c.callee with
  |value f=>simp only[u,i f (by simp[Call.operands,v])]
  |builtin b=>rfl
  |invoke r F=>rfl
 case makeMap t r=>
  cases r with
  |none=>rfl
  |some y=>simp only[jI,i y (by simp)]
 all_goals (first|rfl|(simp_all;done))
theorem Nw{A:AAct}{dst}{v}{h}{x}(hx:∀d,dst=some d->x≠.tmp d):(A.put dst v h).eval x=A.eval x:=by
 cases dst with
 |none=>rfl
 |some d=>
  cases x with
  |tmp t=>
   have:t≠d:=λe=>hx d rfl (e▸rfl)
   simp[AAct.put,AAct.eval,uf,this]
  |_=>rfl
theorem ki{A}{dst}{v}{h}{o}(q:∀d,dst=some d->d∉o.looksAt ops):bo ops (A.put dst v h) o=bo ops A o:=by
 cases dst with
 |none=>rfl
 |some d=>
  unfold bo
  cases l:o.guard with
  |none=>rfl
  |some u=>
   obtain⟨g,i⟩:=u;simp only;unfold p0
   cases j:(ops[g]?).bind (·.dst) with
   |none=>rfl
   |some t=>
    have a:t≠d:=λe=>q d rfl (by subst e;simp[Oper.looksAt,l,j]);simp[AAct.put,uf,a]
theorem Dz(A:AAct){x y}(v u)(a j o)(h:∀d,x=some d->y≠some d):(A.put x v a).put y u j=(A.put y u o).put x v j:=by
 cases x with
 |none=>cases y<;>rfl
 |some d=>
  cases y with
  |none=>rfl
  |some e=>
   have i:d≠e:=λl=>h d rfl (l▸rfl);simp only[AAct.put,AAct.mk.injEq,true_and,and_true];funext s;simp only[uf];by_cases a:s=d
   .by_cases j:s=e
    .exact absurd (a.symm.trans j) i
    .simp[a,i]
   .simp[a]
theorem bY.refl(h):bY h h:=λ_ _ e _=>e
theorem bY.trans{a b c}(h:bY a b)(k:bY b c):bY a c:=λid o e i=>k id o (h id o e i) i
theorem bY.app(h u):bY h (h++u):=λid o e _=>by
 rw[bp (aB.1 e).1];exact e
theorem sb{h u}(a:bY h u){id sz:Nat}{xs}(e:h[id]?=some (.row sz xs)):u[id]?=some (.row sz xs):=a id _ e rfl
theorem ke{h u}(e:bY h u){id a sz}(i:dZ h id a=some sz):dZ u id a=some sz:=by
 obtain⟨xs,l,j⟩:=il i;simp[dZ,sb e l,j]
def ep (F:Heap->OR) (h u:Heap):Prop:=(∀v,F h=.val v h->F u=.val v u)/\∀f a,F h=.call f a->F u=.call f a
theorem ep.const{F}{h u}(k:(∃v,∀h,F h=.val v h)\/(∃f a,∀h,F h=.call f a)\/((∀v,F h≠.val v h)/\∀f a,F h≠.call f a)):ep F h u:=by
 rcases k with⟨v,k⟩|⟨f,a,k⟩|⟨k1,k2⟩
 .refine⟨λv' e=>?_,λf a e=>?_⟩
  .rw[k]at e;cases e;exact k _
  .rw[k]at e;cases e
 .refine⟨λv' e=>?_,λf a e=>?_⟩
  .rw[k]at e;cases e
  .rw[k]at e;cases e;exact k _
 .exact⟨λv e=>absurd e (k1 v),λf a e=>absurd e (k2 f a)⟩
theorem ay{h}{X:AV->Prop}{Y:FuncId->List AV->Prop}:(∀v,OR.stuck=OR.val v h->X v)/\∀f a,OR.stuck=OR.call f a->Y f a:=
 ⟨λ_ e=>(by cases e),λ_ _ e=>(by cases e)⟩
theorem rW(v)(h u):ep (λh=>ii h v) h u:=by
 cases v with
 |none=>exact .const (.inr (.inr ⟨λv=>by simp[ii],λf a=>by simp[ii]⟩))
 |some v=>exact .const (.inl ⟨v,λ_=>rfl⟩)
theorem qs(v)(h u):ep (λh=>rF h v) h u:=by
 cases v with
 |none=>exact .const (.inr (.inr ⟨λv=>by simp[rF],λf a=>by simp[rF]⟩))
 |some v=>exact .const (.inl ⟨.p v,λ_=>rfl⟩)
theorem aT(h u):ep (λ_=>.stuck) h u:=.const (.inr (.inr ⟨λv=>by simp,λf a=>by simp⟩))
theorem bd(v)(h u):ep (λh=>.val v h) h u:=.const (.inl ⟨v,λ_=>rfl⟩)
theorem MR(T)(x)(h u)(e:bY h u):ep (nx P T x) h u:=by
 cases x with
 |p q=>
  cases q with
  |ptr sz xs i o=>
   show ep (λh=>match xs[i]? with|some v=>ii h (ku P T (.p v) o)|none=>.stuck) h u
   cases xs[i]? with
   |none=>exact aT h u
   |some v=>exact rW _ h u
  |_=>exact aT h u
 |ptr id j i o=>
  unfold ep nx;dsimp only
  cases a:h[id]? with
  |none=>exact ay
  |some ob=>
   cases ob with
   |row sz xs=>
    rw[sb e a];dsimp only;split
    .cases xs[i]? with
     |none=>exact ay
     |some v=>exact rW _ h u
    .exact ay
   |_=>exact ay
 |_=>exact aT h u
theorem DD{id i}{v}(h u)(j:bY h u):ep (λh=>match dZ h id i with|some _=>.val v h|none=>.stuck) h u:=by
 unfold ep;dsimp only
 cases l:dZ h id i with
 |none=>exact ay
 |some sz=>rw[ke j l];exact⟨λv e=>(by cases e;rfl),λf a e=>(by cases e)⟩
theorem Ci(T)(x)(f)(h u)(e:bY h u):ep (lB P T x f) h u:=by
 unfold lB
 cases qF P T f with
 |none=>exact aT h u
 |some q=>
  obtain⟨off,t⟩:=q;dsimp only
  cases bL P t with
  |none=>exact aT h u
  |some n=>
   dsimp only;by_cases a:n=0
   .simp only[a,if_true];exact aT h u
   .simp only[a,if_false]
    cases x with
    |p q=>cases q<;>first|exact bd _ h u|exact aT h u
    |ptr id j i o=>exact DD h u e
    |_=>exact aT h u
theorem Kp(T)(x)(f)(h u):ep (su P T x f) h u:=by
 unfold su
 cases qF P T f with
 |none=>exact aT h u
 |some q=>
  obtain⟨off,t⟩:=q
  cases x with
  |p q=>cases q<;>first|exact rW _ h u|exact aT h u
  |agg cs=>exact rW _ h u
  |_=>exact aT h u
theorem cI{c}[Decidable c]{F}{h u}(k:ep F h u):ep (λh=>if c then F h else .stuck) h u:=by
 by_cases a:c
 .simp only[a,if_true];exact k
 .simp only[a,if_false];exact aT h u
theorem Cg(T)(x A)(h u)(l:bY h u):ep (gq P T x A) h u:=by
 cases A with
 |p C=>
  cases C with
  |int k i=>
   cases x with
   |p q=>
    cases q with
    |slice sz xs full=>
     unfold ep gq;dsimp only
     cases aP P T with
     |none=>exact ay
     |some e=>exact cI (bd _ h u)
    |ptr sz xs j o=>
     unfold ep gq;dsimp only
     cases cB P T with
     |none=>exact ay
     |some q=>
      obtain⟨n,e⟩:=q;dsimp only
      cases bL P e with
      |none=>exact ay
      |some s=>exact cI (bd _ h u)
    |_=>exact aT h u
   |slice id a off len=>
    unfold ep gq;dsimp only
    cases aP P T with
    |none=>exact ay
    |some e=>
     cases y:h[id]? with
     |none=>exact ay
     |some ob=>
      cases ob with
      |row sz xs=>
       rw[sb l y]
       exact cI (bd _ h u)
      |_=>exact ay
   |arr id a j o n=>
    unfold ep gq;dsimp only
    cases aP P T with
    |none=>exact ay
    |some e=>
     cases v:dZ h id a with
     |none=>exact ay
     |some z=>rw[ke l v];exact cI (bd _ h u)
   |ptr id a j o=>
    unfold ep gq;dsimp only
    cases cB P T with
    |none=>exact ay
    |some q=>
     obtain⟨n,e⟩:=q;dsimp only
     cases bL P e with
     |none=>exact ay
     |some s=>
      cases v:dZ h id a with
      |none=>exact ay
      |some z=>rw[ke l v];exact cI (bd _ h u)
   |_=>exact aT h u
  |_=>exact aT h u
 |_=>exact aT h u
theorem Is(T)(x k)(ok)(h u)(i:bY h u):ep (p9 P T x k ok) h u:=by
 unfold ep p9
 cases xi P T with
 |none=>exact ay
 |some q=>
  obtain⟨K,E⟩:=q
  cases x with
  |ref t id=>
   cases t with
   |mp=>
    cases k with
    |p k=>
     dsimp only
     cases a:h[id]? with
     |none=>exact ay
     |some ob=>
      cases ob with
      |mp es=>
       rw[i id _ a rfl]
       cases aw P E with
       |none=>exact ay
       |some z=>
        dsimp only;by_cases e:tj P K k=true
        .simp only[if_pos e]
         cases kR k es with
         |none=>exact ay
         |some r=>cases r<;>exact bd _ h u
        .simp only[if_neg e];exact ay
      |_=>exact ay
    |_=>exact ay
   |_=>exact ay
  |_=>exact ay
theorem Ko(T)(x a)(h u):ep (vh P T x a) h u:=by
 have agg:∀(x:AV) (i:Int),ep (λh=>match cB P T with
   |some (n,e)=>match bL P e with|some s=>if 0<=i/\i<n then ii h (ku P e x (i.toNat*s)) else .stuck|none=>.stuck
   |none=>.stuck) h u:=by
  intro x i
  cases cB P T with
  |none=>exact aT h u
  |some q=>
   obtain⟨n,e⟩:=q;dsimp only
   cases bL P e with
   |none=>exact aT h u
   |some s=>exact cI (rW _ h u)
 cases a with
 |p j=>
  cases j with
  |int k i=>
   cases x with
   |p q=>
    cases q with
    |str s=>
     refine cI ?_
     cases s[i.toNat]? with
     |none=>exact aT h u
     |some b=>exact bd _ h u
    |agg cs=>exact agg _ i
    |_=>exact aT h u
   |agg cs=>exact agg _ i
   |_=>exact aT h u
  |_=>exact aT h u
 |_=>exact aT h u
theorem Kn(T)(x)(lo hi y)(h u)(A:bY h u):ep (sr P T x lo hi y) h u:=by
 unfold ep sr
 cases lX lo with
 |none=>exact ay
 |some l=>
  cases lX hi with
  |none=>exact ay
  |some r=>
   cases lX y with
   |none=>exact ay
   |some m=>
    cases x with
    |p q=>
     cases q with
     |slice sz xs full=>
      dsimp only
      cases aP P T with
      |none=>exact ay
      |some e=>
       cases ky l r xs.length with
       |none=>exact ay
       |some j=>
        cases m with
        |none=>exact cI (bd _ h u)
        |some m=>exact cI (cI (bd _ h u))
     |str s=>
      dsimp only
      cases ky l r s.size with
      |none=>exact ay
      |some j=>
       cases m with
       |none=>exact cI (bd _ h u)
       |some m=>exact ay
     |nilslice=>
      dsimp only
      cases aP P T with
      |none=>exact ay
      |some e=>
       cases ky l r 0 with
       |none=>exact ay
       |some j=>
        cases m with
        |none=>exact cI (bd _ h u)
        |some m=>exact ay
     |_=>exact ay
    |ptr id a i o=>
     dsimp only
     cases cB P T with
     |none=>exact ay
     |some q=>
      obtain⟨n,e⟩:=q
      cases m with
      |some m=>exact ay
      |none=>
       dsimp only
       cases ky l r n with
       |none=>exact ay
       |some j=>
        cases C:dZ h id a with
        |none=>exact ay
        |some z=>rw[ke A C];exact cI (bd _ h u)
    |slice id a off len=>
     dsimp only
     cases aP P T with
     |none=>exact ay
     |some e=>
      cases v:h[id]? with
      |none=>exact ay
      |some ob=>
       cases ob with
       |row sz xs=>
        rw[sb A v]
        cases ky l r len with
        |none=>
         cases m with
         |none=>exact cI (bd _ h u)
         |some m=>exact cI (bd _ h u)
        |some j=>
         cases m with
         |none=>exact cI (bd _ h u)
         |some m=>exact cI (bd _ h u)
       |_=>exact ay
    |_=>exact ay
theorem Pp(T)(x)(h u)(j:bY h u):ep (vg P T x) h u:=by
 cases x with
 |p q=>
  cases q with
  |str s=>exact cI (bd _ h u)
  |slice sz xs full=>exact cI (bd _ h u)
  |nilslice=>exact cI (bd _ h u)
  |agg cs=>
   unfold ep vg;dsimp only
   cases cB P T with
   |none=>exact ay
   |some q=>exact bd _ h u
  |_=>exact aT h u
 |arr id a i o n=>
  unfold ep vg;dsimp only
  cases e:dZ h id a with
  |none=>simp only[CC,eG,and_false,if_false];exact ay
  |some z=>rw[ke j e];exact cI (bd _ h u)
 |slice id a off len=>
  unfold ep vg;dsimp only
  cases e:dZ h id a with
  |none=>simp only[CC,eG,and_false,if_false];exact ay
  |some z=>rw[ke j e];exact cI (bd _ h u)
 |_=>exact aT h u
theorem Pq(op)(T)(c)(x y)(h u):ep (AS P op T c x y) h u:=by
 unfold AS;split
 .split
  .exact qs _ h u
  .split
   .exact qs _ h u
   .exact aT h u
 .exact qs _ h u
 .split
  .exact qs _ h u
  .exact qs _ h u
  .exact aT h u
theorem RR(op)(x)(h u):ep (HG op x) h u:=by
 unfold HG;split
 .exact bd _ h u
 .exact bd _ h u
 .exact aT h u
theorem zfs9(a b)(x)(h u):ep (n6 P a b x) h u:=by
 unfold n6;split
 .split
  .exact bd _ h u
  .exact aT h u
 .exact cI (bd _ h u)
 .rename_i y ys full
  cases e:r8 (y::ys) with
  |some ns=>exact cI (bd _ h u)
  |none=>exact cI (aT h u)
 .exact aT h u
theorem FR(x)(i)(h u):ep (nZ x i) h u:=by
 unfold nZ;split
 .split
  .exact bd _ h u
  .exact aT h u
 .split
  .exact bd _ h u
  .exact aT h u
 .exact aT h u
theorem Kq(T)(ps)(h u):ep (sv P T ps) h u:=by
 unfold sv;split
 .split
  .split
   .exact bd _ h u
   .exact aT h u
  .split
   .split
    .split
     .exact bd _ h u
     .exact aT h u
    .exact aT h u
   .exact aT h u
 .exact aT h u
theorem Ae(T)(mu)(n)(ps)(h u):ep (kl P T mu n ps) h u:=by
 unfold ep kl
 cases aP P T with
 |none=>exact ay
 |some e=>
  dsimp only
  cases bL P e with
  |none=>exact ay
  |some sz=>
   dsimp only
   cases qQ 0 sz ps with
   |none=>exact ay
   |some xs=>
    dsimp only;by_cases i:xs.length=n/\sz≠0/\n*sz<=16777216/\lm P e sz=true
    .simp only[i,and_self,not_false_eq_true,ne_eq,if_true]
     cases mu with
     |false=>
      cases gp xs with
      |some l=>exact bd _ h u
      |none=>exact⟨λv e=>(by injection e with e1 e2;exact absurd (congrArg List.length e2) (by simp)),λf a e=>(by cases e)⟩
     |true=>exact⟨λv e=>(by injection e with e1 e2;exact absurd (congrArg List.length e2) (by simp)),λf a e=>(by cases e)⟩
    .simp only[i,if_false];exact ay
theorem It(f)(args)(h u):ep (λ_=>fO f args) h u:=by
 refine⟨λv e=>?_,λf a e=>e⟩;dsimp only at e;unfold fO at e;split at e<;>cases e
theorem Ad(A)(ok)(x)(h u):ep (kj P A ok x) h u:=by
 unfold ep kj;split
 .split
  .exact⟨λv e=>(by cases e;rfl),λf a e=>(by cases e)⟩
  .split
   .split
    .exact⟨λv e=>(by cases e;rfl),λf a e=>(by cases e)⟩
    .exact ay
   .exact ay
 .split
  .exact⟨λv e=>(by cases e;rfl),λf a e=>(by cases e)⟩
  .split
   .split
    .exact⟨λv e=>(by cases e;rfl),λf a e=>(by cases e)⟩
    .exact ay
   .exact ay
 .exact ay
theorem yk{mu}{o}(e)(l:cv o.op=true)(h u)(j:bY h u):ep (bh P mu o e) h u:=by
 obtain⟨dst,op,A,pos,v,q⟩:=o;cases op<;>first|(simp only[cv,eG]at l;done)|skip
 case move x=>exact bd _ h u
 case assign x=>exact bd _ h u
 case pick c a b=>
  unfold ep bh;dsimp only;split
  .exact bd _ h u
  .exact ay
 case build t ps=>exact Kq _ _ h u
 case buildSlice t n ps=>exact Ae _ _ _ _ h u
 case load t a=>exact MR _ _ h u j
 case nilCheck x=>
  unfold ep bh;dsimp only;split
  .exact bd _ h u
  .exact bd _ h u
  .exact DD h u j
  .exact ay
 case binOp op t x y ty=>exact Pq _ _ _ _ _ h u
 case unOp op t x=>exact RR _ _ h u
 case convert a b x=>exact zfs9 _ _ _ h u
 case makeInterface t x=>
  unfold ep bh;dsimp only;split
  .split
   .exact bd _ h u
   .split
    .exact bd _ h u
    .exact ay
   .exact ay
  .exact ay
 case makeFunc f a c=>exact cI (bd _ h u)
 case slice t x lo hi mx=>exact Kn _ _ _ _ _ h u j
 case fieldAddr t x f=>exact Ci _ _ _ h u j
 case field t x f=>exact Kp _ _ _ h u
 case indexAddr t x i=>exact Cg _ _ _ h u j
 case index t x i=>exact Ko _ _ _ h u
 case extract x i=>exact FR _ _ h u
 case lookup t x k ok=>exact Is _ _ _ _ h u j
 case typeAssert x t a ok=>exact Ad _ _ _ h u
 case call c=>
  unfold ep bh;dsimp only
  cases z:c.callee with
  |value f=>exact It _ _ h u
  |invoke r C=>simp[cv,z]at l
  |builtin b=>
   dsimp only;cases b<;>first|(simp[cv,z]at l;done)|skip
   all_goals
    unfold mi;split
    .exact cI (Pp _ _ h u j)
    .simp_all
    .exact bd _ h u
    .exact bd _ h u
    .simp_all
    .simp_all
    .simp_all
    .exact ay
end Abs
end Go.Proofs.YtmndpldajflenaaGreatDoor
namespace Go.Proofs.YtmndpldajflenaaGreatDoor
namespace Abs
variable {P:Program} {H:Hints} {ops:Array Oper} {Q:Ex->AAct->Prop}
def eK (P:Program) (H:Hints) (ops:Array Oper) (Q:Ex->AAct->Prop) (o:Oper) (K:Heap->AAct->Prop) (hs:Heap) (A:AAct):Prop:=
 ra (λ_=>SC
   (λ_=>kt P A o.dst (λB=>K B.h B) Q (bh P (aE H) o A.eval A.h))
   (λ_=>AP A.h (λv h=>K hs (A.put o.dst v h)) (bh P (aE H) o A.eval A.h))
   (λ_=>wh P A.h (λv=>K hs (A.put o.dst v A.h)) (bh P (aE H) o A.eval A.h))
   (λ_=>wh P hs (λv=>K hs (A.put o.dst v A.h)) (bh P (aE H) o A.eval hs))
   (λj sz=>rh hs A.h j sz (λv h=>K hs (A.put o.dst v h)) (gG P A.eval o.op))
   (λ_=>ul P hs A.h A.eval (λh=>K hs (A.put o.dst (.p (.tuple [])) h)) o.op)
   (λ_=>uA P A.h A.eval (K hs (A.put o.dst (.p (.tuple [])) A.h)) o.op)
   (λt=>pm P t (eU o.op) hs A.h (λv h=>K hs (A.put o.dst v h)) (λh=>bh P (aE H) o A.eval h))
   (λ_=>wT P Q A (λv=>K hs (A.put o.dst v A.h)) (bh P (aE H) o A.eval A.h))
   (λ_=>qK P H Q hs A (λv h=>K hs (A.put o.dst v h)) (bh P (aE H) o A.eval A.h))
   (bA H o))
  (λ_=>K hs (A.put o.dst (.p (.tuple [])) A.h)) (bo ops A o)
theorem FF(o)(rest)(a)(A):bE P H ops Q (o::rest) a A=eK P H ops Q o (bE P H ops Q rest) a A:=by
 rw[bE];rfl
inductive HE where
 |app (t:Heap)
 |set (id:Nat) (o:AObj)
def HE.ap:HE->Heap->Heap
 |.app t,h=>h++t
 |.set id o,h=>h.set id o
theorem rv{a:Heap}{i:Nat}(h:jB a i=true):i<a.length:=by
 unfold jB at h;rcases cx i a.length with e|e
 .exact e
 .rw[lC e]at h;cases h
theorem BQ{a:Heap}{i:Nat}(h:fI a i=true)(hi:i<a.length):jB a i=true:=by
 unfold fI at h;unfold jB;rw[bO hi]at h |-;cases hx:a[i]<;>rw[hx]at h<;>first|rfl|cases h
theorem kP(a h:Heap):(bT a h).length=h.length:=by simp[bT]
theorem kQ(a h:Heap)(i:Nat):(bT a h)[i]?=if jB a i=true then(h[i]?).map λ_=>.dead else h[i]?:=by
 unfold bT;rw[ua];cases h[i]?<;>simp;split<;>rfl
theorem KJ(h:Heap):bT [] h=h:=by
 apply mD;intro i;rw[kQ,if_neg (by simp[jB])]
theorem IB(a:Heap):bT a []=[]:=rfl
theorem IC(d:AObj)(a:Heap)(o:AObj)(h:Heap):bT (d::a) (o::h)=(if d.isDead=true then .dead else o)::bT a h:=by
 unfold bT;rw[List.mapIdx_cons]
 congr 1
 cases d<;>rfl
theorem rn(a h:Heap):bY (bT a h) h:=λi o e j=>by
 rw[kQ]at e;split at e
 .cases hx:h[i]? with
  |none=>rw[hx]at e;cases e
  |some q=>rw[hx]at e;cases e;cases j
 .exact e
theorem Br{e h:Heap}{i:Nat}(hi:jB e i=true)(ob:AObj):bT e (h.set i ob)=bT e h:=by
 apply mD;intro j;rw[kQ,kQ];by_cases l:i=j
 .subst l;rw[if_pos hi,if_pos hi];rcases cx i h.length with a|a
  .rw[fZ a,bO a];rfl
  .rw[lC (by simpa using a),lC a]
 .rw[db l]
theorem x1(a h g:Heap)(i:Nat):(lF a h g)[i]?=if jB a i=true then(g[i]?).map λ_=>h.getD i .dead else g[i]?:=by
 unfold lF;rw[ua];cases g[i]?<;>simp;split<;>rfl
theorem lf{j h:Heap}(o:j.length<=h.length)(l:Heap):lF j h (bT j h++l)=h++l:=by
 apply mD;intro i;rw[x1];rcases cx i h.length with a|a
 .rw[bp (by rw[kP];exact a),bp a,kQ,bO a];split
  .simp[cr,bO a]
  .rfl
 .have:¬jB j i=true:=λe=>by have:=rv e;omega
  rw[if_neg this,cG (by rw[kP];exact a),cG a,kP]
theorem mF{e h:Heap}{id:Nat}(j:jB e id=false)(ob:AObj):lF e h ((bT e h).set id ob)=h.set id ob:=by
 apply mD;intro i;rw[x1];by_cases hi:id=i
 .subst hi;rw[if_neg (by rw[j];simp)];rcases cx id h.length with a|a
  .rw[fZ (by rw[kP];exact a),fZ a]
  .rw[lC (by rw[sI,kP];exact a),lC (by rw[sI];exact a)]
 .rw[db hi,db hi,kQ];split
  .rcases cx i h.length with a|a
   .simp[cr,bO a]
   .rw[lC a];rfl
  .rfl
theorem A4{a h:Heap}(i:a.length<=h.length){E:HE}(j:(∃l,E=.app l)\/∃id ob,E=.set id ob/\a.length<=id):lF a h (E.ap (bT a h))=E.ap h:=by
 rcases j with⟨l,rfl⟩|⟨id,ob,rfl,hi⟩
 .exact lf i l
 .refine mF ?_ ob;rw[sE];intro e;have:=rv e;omega
theorem DZ{a h:Heap}{i sz:Nat}{xs:List AV}(e:(bT a h)[i]?=some (.row sz xs)):h[i]?=some (.row sz xs)/\jB a i=false:=by
 rw[kQ]at e;split at e
 .cases hx:h[i]? with
  |none=>rw[hx]at e;cases e
  |some q=>rw[hx]at e;cases e
 .rename_i j;exact⟨e,by simpa using j⟩
theorem I4{a h:Heap}{sz:Nat}{y:AV}{ys:List AV}(e:gj (bT a h) sz y=some ys):gj h sz y=some ys:=by
 unfold gj at e |-;split at e
 .exact e
 .exact e
 .exact e
 .rename_i id i off len;split at e
  .rename_i j xs hx;rw[(DZ hx).1];exact e
  .cases e
 .cases e
theorem L0{a h:Heap}(u:a.length<=h.length){T U:TypeId}{x y v:AV}{g:Heap}(e:km P T U x y (bT a h)=.val v g):km P T U x y h=.val v (lF a h g):=by
 have K:lF a h (bT a h)=h:=by have:=lf u (h:=h) [];simpa using this
 unfold km at e |-
 cases J:aP P T with
 |none=>rw[J]at e;cases e
 |some z=>
  rw[J]at e;dsimp only at e |-;by_cases I:(aP P U).isSome=false/\eg P U=false
  .rw[if_pos I]at e;cases e
  .rw[if_neg I]at e |-
   cases l:bL P z with
   |none=>rw[l]at e;cases e
   |some sz=>
    cases G:np P z with
    |none=>rw[l,G]at e;cases e
    |some bytes=>
     rw[l,G]at e;dsimp only at e |-
     cases o:gj (bT a h) sz y with
     |none=>rw[o]at e;cases e
     |some ys=>
      rw[o]at e;rw[I4 o];dsimp only at e |-;by_cases F:sz≠0/\bytes<=256/\lm P z sz=true
      .rw[if_pos F]at e |-
       cases x with
       |p q=>
        cases q with
        |nilslice=>
         dsimp only at e |-;split at e
         .rename_i i;rw[if_pos i];split at e
          .rename_i j;rw[if_pos j];cases e;rw[K]
          .rename_i j;rw[if_neg j];cases e;rw[lf u,kP]
         .cases e
        |slice A xs full=>
         cases full with
         |false=>cases e
         |true=>
          dsimp only at e |-;split at e
          .rename_i i;rw[if_pos i];split at e
           .rename_i j;rw[if_pos j];cases e;rw[K]
           .rename_i j;rw[if_neg j];cases e;rw[lf u,kP]
          .cases e
        |_=>cases e
       |slice id L off len=>
        dsimp only at e |-
        cases hx:(bT a h)[id]? with
        |none=>rw[hx]at e;cases e
        |some ob=>
         rw[hx]at e
         cases ob with
         |row A xs=>
          obtain⟨C,E⟩:=DZ hx;rw[C];dsimp only at e |-;split at e
          .rename_i i;rw[if_pos i];cases e;rw[mF E]
          .rename_i i;rw[if_neg i];split at e
           .rename_i D;rw[if_pos D];cases e;rw[mF E]
           .cases e
         |_=>cases e
       |_=>cases e
      .rw[if_neg F]at e;cases e
theorem R6{mu:Nat->Bool}{o:Oper}{ev:Operand->AV}(a:eU o.op=true){i h:Heap}(C:i.length<=h.length){v:AV}{g:Heap}(e:bh P mu o ev (bT i h)=.val v g):bh P mu o ev h=.val v (lF i h g):=by
 obtain⟨dst,op,A,pos,z,u⟩:=o;cases op<;>simp only[eU,eG]at a;rename_i c
 cases j:c.callee with
 |value f=>rw[j]at a;cases a
 |invoke r m=>rw[j]at a;cases a
 |builtin b=>
  rw[j]at a;cases b<;>simp only[eG]at a;unfold bh at e |-;simp only[j]at e |-;have q:∀args:List AV,mi P .append c.argTypes args (bT i h)=.val v g->mi P .append c.argTypes args h=.val v (lF i h g):=by
   intro args e
   match args,e with
   |[x,y],e=>
    have l:(if c.argTypes.size=2 then km P (c.argTypes.getD 0 0) (c.argTypes.getD 1 0) x y (bT i h) else .stuck)=.val v g:=e;show (if c.argTypes.size=2 then km P (c.argTypes.getD 0 0) (c.argTypes.getD 1 0) x y h else .stuck)=_;split at l
    .rename_i D;rw[if_pos D];exact L0 C l
    .cases l
   |[],e=>cases e
   |[_],e=>cases e
   |_::_::_::_,e=>cases e
  exact q _ e
theorem tX{op:Op}(h:eU op=true):cv op=false:=by
 cases op<;>simp only[eU,eG]at h;rename_i c
 cases a:c.callee with
 |value f=>rw[a]at h;cases h
 |invoke r m=>rw[a]at h;cases h
 |builtin b=>rw[a]at h;cases b<;>first|(simp only[cv,a];done)|cases h
def Qv (P:Program) (h:Heap) (r:OR) (v:AV):Prop:=
 r=.val v h\/∃f args,r=.call f args/\∀h',bY h h'->ar P f args h' (λr h''=>r=.ret v/\h''=h')
def Fu (P:Program) (H:Hints) (o:Oper) (hs:Heap) (v:AV) (E:HE) (A:AAct):Prop:=
 ∃j sz z,bA H o=.slot j sz/\gG P A.eval o.op=some z/\z.cells.map (·.length)=some sz/\fI hs (hs.length-1-j)=true/\A.h[hs.length-1-j]?=some (.row sz []) /\
  v=.ptr (hs.length-1-j) 1 0 0/\E=.set (hs.length-1-j) (.row sz [z])
def O3 (P:Program) (H:Hints) (o:Oper) (hs:Heap) (v:AV) (E:HE) (A:AAct):Prop:=
 bA H o=.sto/\∃T a x id ver i k ob,o.op=.store T a x/\A.eval a=.ptr id ver i k/\fI hs id=true/\gC P T (.ptr id ver i k) (A.eval x) A.h=.skip (A.h.set id ob)/\v=.p (.tuple [])/\E=.set id ob
def O5 (P:Program) (H:Hints) (o:Oper) (v:AV) (E:HE) (A:AAct):Prop:=
 bA H o=.nop/\v=.p (.tuple [])/\E=.app []/\∃T a x,o.op=.store T a x/\gC P T (A.eval a) (A.eval x) A.h=.skip A.h
def xH (P:Program) (H:Hints) (o:Oper) (hs:Heap) (v:AV) (E:HE) (A:AAct):Prop:=
 0<hs.length /\
 ((eU o.op=true/\hs.length<=A.h.length/\((∃l,E=.app l)\/∃id ob,E=.set id ob/\hs.length<=id)/\bh P (aE H) o A.eval (bT hs A.h)=.val v (E.ap (bT hs A.h))) \/
  (cv o.op=true/\E=.app []/\Qv P (bT hs A.h) (bh P (aE H) o A.eval (bT hs A.h)) v) \/
  (cv o.op=true/\∃id,hs.length<=id/\E=.set id .dead/\∃f args,bh P (aE H) o A.eval (bT hs A.h)=.call f args/\∀h',bY (bT hs A.h) h'->ar P f args h' (λr h''=>r=.ret v/\h''=h'.set id .dead)))
def O9 (P:Program) (H:Hints) (o:Oper) (hs:Heap) (v:AV) (E:HE) (A:AAct):Prop:=
 ∃t,bA H o=.app t/\((lY t=false/\((∃l,E=.app l)\/∃id ob,E=.set id ob/\fI hs id=true)/\bh P (aE H) o A.eval A.h=.val v (E.ap A.h))\/(lY t=true/\xH P H o hs v E A))
def O4 (P:Program) (H:Hints) (o:Oper) (v:AV) (E:HE) (A:AAct):Prop:=
 bA H o=.thr/\E=.app []/\∃f args,bh P (aE H) o A.eval A.h=.call f args/\∀h',bY A.h h'->ar P f args h' (λr h''=>r=.ret v/\h''=h')
def TS (P:Program) (H:Hints) (ops:Array Oper) (Q:Ex->AAct->Prop) (o:Oper) (A:AAct):Prop:=
 bo ops A o=some true/\bA H o=.thr/\∃f args v,bh P (aE H) o A.eval A.h=.call f args/\ar P f args A.h (λr h''=>r=.panic v/\h''=A.h)/\∀T,Q (.panic v) { A with tmps:=T }
def QS (P:Program) (H:Hints) (ops:Array Oper) (o:Oper) (hs:Heap) (v:AV) (E:HE) (A:AAct):Prop:=
 (bo ops A o=some false/\v=.p (.tuple [])/\E=.app []) \/
 (bo ops A o=some true /\
  ((bA H o=.quiet/\E=.app []/\Qv P A.h (bh P (aE H) o A.eval A.h) v) \/
   (bA H o=.low/\E=.app []/\Qv P hs (bh P (aE H) o A.eval hs) v) \/
   (bA H o=.alloc/\∃t,E=.app t/\bh P (aE H) o A.eval A.h=.val v (A.h++t)) \/
   Fu P H o hs v E A\/O3 P H o hs v E A\/O5 P H o v E A\/O9 P H o hs v E A\/O4 P H o v E A))
theorem JA{T}{id a i k}{y}{h h'}(e:gC P T (.ptr id a i k) y h=.skip h'):∃ob,h'=h.set id ob:=by
 unfold gC at e;split at e
 .rename_i n hx _;split at e
  .split at e
   .split at e
    .split at e
     .cases hx;cases e;exact⟨_,rfl⟩
     .cases e
    .cases e
   .cases e
  .cases e
 .cases e
theorem pW{h}{K}{r}:wh P h K r↔∃v,Qv P h r v/\K v:=by
 constructor
 .intro k;cases r<;>first|exact k.elim|skip
  case val v h'=>obtain⟨rfl,k⟩:=k;exact⟨v,.inl rfl,k⟩
  case call f args=>obtain⟨v,k1,k2⟩:=k;exact⟨v,.inr ⟨f,args,rfl,k1⟩,k2⟩
 .rintro⟨v,rfl|⟨f,args,rfl,k1⟩,k2⟩
  .exact⟨rfl,k2⟩
  .exact⟨v,k1,k2⟩
theorem EB{o:Oper}{t:Nat}(h:bA H o=.app t)(e:lY t=true)(i:eU o.op=false):cv o.op=true:=by
 unfold bA at h;split at h
 .unfold rd at h;split at h
  .split at h<;>cases h
  .cases h
 .split at h
  .split at h
   .cases h
   .split at h<;>cases h
  .cases h
  .split at h<;>cases h
  .split at h<;>cases h
  .rename_i j;split at h
   .rename_i a;cases h;rw[Eg,if_pos e,i]at a;simpa using a
   .cases h
  .split at h<;>cases h
  .split at h<;>cases h
  .cases h
theorem kd{o}{K}{e}{A}{v}{E}(q:QS P H ops o e v E A)(k:K e (A.put o.dst v (E.ap A.h))):eK P H ops Q o K e A:=by
 unfold eK;rcases q with⟨hw,rfl,rfl⟩|⟨hw,q⟩
 .rw[hw];refine⟨λh=>(by cases h),λ_=>?_⟩;simpa[HE.ap]using k
 .rw[hw];refine⟨λ_=>?_,λh=>(by cases h)⟩;rcases q with⟨u,rfl,q⟩|⟨u,rfl,q⟩|⟨u,t,rfl,q⟩|⟨j,sz,z,u,I,G,S,R,rfl,rfl⟩|⟨u,T,a,x,id,L,i,Y,ob,I,G,S,R,rfl,rfl⟩|⟨u,rfl,rfl,T,a,x,I,G⟩|⟨t,u,J⟩|⟨u,rfl,f,args,I,G⟩
  .rw[u];exact pW.2 ⟨v,q,by simpa[HE.ap]using k⟩
  .rw[u];exact pW.2 ⟨v,q,by simpa[HE.ap]using k⟩
  .rw[u,q];exact⟨⟨t,rfl⟩,k⟩
  .rw[u];refine(show rh e A.h j sz (λv h=>K e (A.put o.dst v h)) (gG P A.eval o.op) from ?_);rw[I];exact⟨G,S,R,k⟩
  .rw[u];refine(show ul P e A.h A.eval (λh=>K e (A.put o.dst (.p (.tuple [])) h)) o.op from ?_);rw[I];show (match A.eval a with|.ptr id L i o=>fI e id=true/\pD _ (gC P T (.ptr id L i o) (A.eval x) A.h)|_=>False);rw[G];refine⟨S,?_⟩;rw[R];exact k
  .rw[u];refine(show uA P A.h A.eval (K e (A.put o.dst (.p (.tuple [])) A.h)) o.op from ?_);rw[I];exact⟨G,by simpa[HE.ap]using k⟩
  .rw[u];show pm P t (eU o.op) e A.h (λv h=>K e (A.put o.dst v h)) (λh=>bh P (aE H) o A.eval h);unfold pm;rcases J with⟨N,J,C⟩|⟨N,M,C⟩
   .rw[if_neg (by rw[N];simp)];show Fa e A.h _ (bh P (aE H) o A.eval A.h);rw[C];refine⟨?_,k⟩;rcases J with⟨l,rfl⟩|⟨id,ob,rfl,O⟩
    .exact .inl ⟨l,rfl⟩
    .exact .inr ⟨id,ob,rfl,O⟩
   .rw[if_pos N];rcases C with⟨D,X,J,C⟩|⟨F,rfl,C⟩|⟨F,id,U,rfl,f,args,C,y⟩
    .show mb P _ e A.h _ (bh P (aE H) o A.eval (bT e A.h));rw[C];simp only[mb,D,if_true];refine⟨⟨M,X⟩,?_,by rw[A4 X J];exact k⟩;rcases J with⟨l,rfl⟩|⟨id,ob,rfl,O⟩
     .exact .inl ⟨l,rfl⟩
     .exact .inr ⟨id,ob,rfl,O⟩
    .have D:eU o.op=false:=by
      cases hx:eU o.op with
      |false=>rfl
      |true=>rw[tX hx]at F;cases F
     have V:K e (A.put o.dst v A.h):=by simpa[HE.ap]using k
     show mb P _ e A.h _ (bh P (aE H) o A.eval (bT e A.h));rcases C with C|⟨f,args,C,y⟩
     .rw[C];simp only[mb,D,eG,if_false];exact⟨M,trivial,V⟩
     .rw[C];exact⟨D,M,.inl ⟨v,y,V⟩⟩
    .have D:eU o.op=false:=by
      cases hx:eU o.op with
      |false=>rfl
      |true=>rw[tX hx]at F;cases F
     show mb P _ e A.h _ (bh P (aE H) o A.eval (bT e A.h));rw[C];exact⟨D,M,.inr ⟨v,id,U,y,k⟩⟩
  .rw[u,I];exact .inl ⟨v,G,by simpa[HE.ap]using k⟩
theorem rC{o}{K}{a}{A}(q:TS P H ops Q o A):eK P H ops Q o K a A:=by
 obtain⟨hw,e,f,args,v,l,j,i⟩:=q;unfold eK;rw[hw];refine⟨λ_=>?_,λh=>(by cases h)⟩;rw[e,l];exact .inr ⟨v,j,i⟩
theorem mG{o}{K}{a}{A}(i:bA H o=.thr)(k:eK P H ops Q o K a A) :
  (∃v E,QS P H ops o a v E A/\K a (A.put o.dst v (E.ap A.h)))\/TS P H ops Q o A:=by
 unfold eK at k
 cases hw:bo ops A o with
 |none=>rw[hw]at k;exact k.elim
 |some b=>
  rw[hw]at k
  cases b with
  |false=>exact .inl ⟨_,.app [],.inl ⟨hw,rfl,rfl⟩,by simpa[HE.ap]using k.2 rfl⟩
  |true=>
   have k1:=k.1 rfl;rw[i]at k1;have k2:wT P Q A (λv=>K a (A.put o.dst v A.h)) (bh P (aE H) o A.eval A.h):=k1;cases e:bh P (aE H) o A.eval A.h<;>rw[e]at k2<;>first|exact k2.elim|skip
   rename_i f args;rcases k2 with⟨v,l,j⟩|⟨v,l,j⟩
   .exact .inl ⟨v,.app [],.inr ⟨hw,.inr (.inr (.inr (.inr (.inr (.inr (.inr ⟨i,rfl,f,args,e,l⟩))))))⟩,by simpa[HE.ap]using j⟩
   .exact .inr ⟨hw,i,f,args,v,e,l,j⟩
theorem LA{i}{A}{K K'}{r}(j:∀v h,K v h->K' v h)(k:qK P H Q i A K r):qK P H Q i A K' r:=by
 cases r<;>first|exact k.elim|skip
 intro M0 m w a q o;obtain⟨y,u⟩:=k M0 m w a q o;refine⟨y,u.mono λ_ _ l=>?_⟩;obtain⟨r,h',m',e,rest⟩:=l;exact⟨r,h',m',by cases r<;>first|exact⟨e.1,j _ _ e.2⟩|exact e,rest⟩
theorem nn{o}{K}{a}{A}(e:bA H o=.cal)(k:eK P H ops Q o K a A) :
  (∃v E,QS P H ops o a v E A/\K a (A.put o.dst v (E.ap A.h)))\/(bo ops A o=some true/\qK P H Q a A (λv h=>K a (A.put o.dst v h)) (bh P (aE H) o A.eval A.h)):=by
 unfold eK at k
 cases hw:bo ops A o with
 |none=>rw[hw]at k;exact k.elim
 |some b=>
  rw[hw]at k
  cases b with
  |false=>exact .inl ⟨_,.app [],.inl ⟨hw,rfl,rfl⟩,by simpa[HE.ap]using k.2 rfl⟩
  |true=>
   have k1:=k.1 rfl;rw[e]at k1;exact .inr ⟨rfl,k1⟩
theorem un{o}{K}{a}{A}(e:bA H o=.cal)(hw:bo ops A o=some true)(k:qK P H Q a A (λv h=>K a (A.put o.dst v h)) (bh P (aE H) o A.eval A.h)):eK P H ops Q o K a A:=by
 unfold eK;rw[hw];refine⟨λ_=>?_,λh=>(by cases h)⟩;rw[e];exact k
theorem om{o}{K}{I}{A}(C:(bA H o≠.bar/\bA H o≠.thr/\bA H o≠.cal)\/bo ops A o=some false)(k:eK P H ops Q o K I A) :
  ∃v E,QS P H ops o I v E A/\K I (A.put o.dst v (E.ap A.h)):=by
 unfold eK at k
 cases hw:bo ops A o with
 |none=>rw[hw]at k;exact k.elim
 |some b=>
  rw[hw]at k
  cases b with
  |false=>exact⟨_,.app [],.inl ⟨hw,rfl,rfl⟩,by simpa[HE.ap]using k.2 rfl⟩
  |true=>
   have k1:=k.1 rfl
   cases u:bA H o with
   |bar=>
    rcases C with C|C
    .exact absurd u C.1
    .rw[hw]at C;cases C
   |thr=>
    rcases C with C|C
    .exact absurd u C.2.1
    .rw[hw]at C;cases C
   |cal=>
    rcases C with C|C
    .exact absurd u C.2.2
    .rw[hw]at C;cases C
   |alloc=>
    rw[u]at k1;cases F:bh P (aE H) o A.eval A.h<;>rw[F]at k1<;>first|exact k1.elim|skip
    rename_i v h';obtain⟨⟨t,rfl⟩,k2⟩:=k1
    exact⟨v,.app t,.inr ⟨hw,.inr (.inr (.inl ⟨u,t,rfl,F⟩))⟩,k2⟩
   |quiet=>
    rw[u]at k1;obtain⟨v,q,k2⟩:=pW.1 k1
    exact⟨v,.app [],.inr ⟨hw,.inl ⟨u,rfl,q⟩⟩,by simpa[HE.ap]using k2⟩
   |low=>
    rw[u]at k1;obtain⟨v,q,k2⟩:=pW.1 k1
    exact⟨v,.app [],.inr ⟨hw,.inr (.inl ⟨u,rfl,q⟩)⟩,by simpa[HE.ap]using k2⟩
   |slot j sz=>
    rw[u]at k1;have k2:rh I A.h j sz (λv h=>K I (A.put o.dst v h)) (gG P A.eval o.op):=k1
    cases U:gG P A.eval o.op with
    |none=>rw[U]at k2;exact k2.elim
    |some z=>
     rw[U]at k2;obtain⟨X,h2,h3,y⟩:=k2
     exact⟨_,.set _ _,.inr ⟨hw,.inr (.inr (.inr (.inl ⟨j,sz,z,u,U,X,h2,h3,rfl,rfl⟩)))⟩,y⟩
   |sto=>
    rw[u]at k1;have k2:ul P I A.h A.eval (λh=>K I (A.put o.dst (.p (.tuple [])) h)) o.op:=k1;unfold ul at k2;split at k2
    .rename_i T a x N;split at k2
     .rename_i id Y i Z ha;obtain⟨X,y⟩:=k2;unfold pD at y;split at y
      .rename_i h' R;obtain⟨ob,rfl⟩:=JA R;exact⟨_,.set id ob,.inr ⟨hw,.inr (.inr (.inr (.inr (.inl ⟨u,T,a,x,id,Y,i,Z,ob,N,ha,X,R,rfl,rfl⟩))))⟩,y⟩
      .exact y.elim
     .exact k2.elim
    .exact k2.elim
   |nop=>
    rw[u]at k1;have k2:uA P A.h A.eval (K I (A.put o.dst (.p (.tuple [])) A.h)) o.op:=k1;unfold uA at k2;split at k2
    .rename_i T a x N;exact⟨_,.app [],.inr ⟨hw,.inr (.inr (.inr (.inr (.inr (.inl ⟨u,rfl,rfl,T,a,x,N,k2.1⟩)))))⟩,by simpa[HE.ap]using k2.2⟩
    .exact k2.elim
   |app t=>
    rw[u]at k1;have k2:pm P t (eU o.op) I A.h (λv h=>K I (A.put o.dst v h)) (λh=>bh P (aE H) o A.eval h):=k1;unfold pm at k2;split at k2
    .rename_i J;dsimp only at k2;cases F:bh P (aE H) o A.eval (bT I A.h)<;>rw[F]at k2<;>first|exact k2.elim|skip
     .rename_i v g;simp only[mb]at k2;split at k2
      .rename_i G;obtain⟨⟨M,V⟩,hE,y⟩:=k2;rcases hE with⟨l,rfl⟩|⟨id,ob,rfl,O⟩
       .refine⟨v,.app l,.inr ⟨hw,.inr (.inr (.inr (.inr (.inr (.inr (.inl ⟨t,u,.inr ⟨J,M,.inl ⟨G,V,.inl ⟨l,rfl⟩,F⟩⟩⟩))))))⟩,?_⟩;rw[lf V]at y;exact y
       .refine⟨v,.set id ob,.inr ⟨hw,.inr (.inr (.inr (.inr (.inr (.inr (.inl ⟨t,u,.inr ⟨J,M,.inl ⟨G,V,.inr ⟨id,ob,rfl,O⟩,F⟩⟩⟩))))))⟩,?_⟩;rw[mF (by rw[sE];intro e;have:=rv e;omega)]at y;exact y
      .rename_i G;obtain⟨M,rfl,y⟩:=k2;have L:cv o.op=true:=EB u J (by simpa using G);exact⟨v,.app [],.inr ⟨hw,.inr (.inr (.inr (.inr (.inr (.inr (.inl ⟨t,u,.inr ⟨J,M,.inr (.inl ⟨L,rfl,.inl F⟩)⟩⟩))))))⟩,by simpa[HE.ap]using y⟩
     .rename_i f args;obtain⟨G,M,k2⟩:=k2;have L:cv o.op=true:=EB u J G;rcases k2 with⟨v,D,y⟩|⟨v,id,O,D,y⟩
      .exact⟨v,.app [],.inr ⟨hw,.inr (.inr (.inr (.inr (.inr (.inr (.inl ⟨t,u,.inr ⟨J,M,.inr (.inl ⟨L,rfl,.inr ⟨f,args,F,D⟩⟩)⟩⟩))))))⟩,by simpa[HE.ap]using y⟩
      .exact⟨v,.set id .dead,.inr ⟨hw,.inr (.inr (.inr (.inr (.inr (.inr (.inl ⟨t,u,.inr ⟨J,M,.inr (.inr ⟨L,id,O,rfl,f,args,F,D⟩)⟩⟩))))))⟩,y⟩
    .rename_i J;have S:lY t=false:=by simpa using J
     dsimp only at k2;cases F:bh P (aE H) o A.eval A.h<;>rw[F]at k2<;>first|exact k2.elim|skip
     rename_i v h';obtain⟨⟨l,rfl⟩|⟨id,ob,rfl,hd⟩,y⟩:=k2
     .exact⟨v,.app l,.inr ⟨hw,.inr (.inr (.inr (.inr (.inr (.inr (.inl ⟨t,u,.inl ⟨S,.inl ⟨l,rfl⟩,F⟩⟩))))))⟩,y⟩
     .exact⟨v,.set id ob,.inr ⟨hw,.inr (.inr (.inr (.inr (.inr (.inr (.inl ⟨t,u,.inl ⟨S,.inr ⟨id,ob,rfl,hd⟩,F⟩⟩))))))⟩,y⟩
theorem nN{A}{dst}{K K'}{r}(h:∀B,K B->K' B)(k:kt P A dst K Q r):kt P A dst K' Q r:=by
 cases r with
 |val v h'=>exact h _ k
 |skip h'=>exact h _ k
 |call f args=>
  intro M0 m w a u q;obtain⟨z,y⟩:=k M0 m w a u q;refine⟨z,y.mono λ_ _ E=>?_⟩;obtain⟨r,h',m',o,rest⟩:=E
  exact⟨r,h',m',by cases r<;>first|exact h _ o|exact o,rest⟩
 |yld l args=>
  refine⟨k.1,λM0 m w a bl u q C=>?_⟩;obtain⟨f,tmps,G,F,z,y⟩:=k.2 M0 m w a bl u q C;refine⟨f,tmps,G,F,z,λc cs=>?_⟩;obtain⟨e,w',⟨r,h',m',o,rest⟩,D⟩:=y c cs
  exact⟨e,w',⟨r,h',m',by cases r<;>first|exact h _ o|exact o,rest⟩,D⟩
 |dfr d=>
  simp only[kt]at k |-;have i:∀{X Y:Prop} {c:Rc},(X->Y)->tD X c->tD Y c:=λhx j=>by
   rename_i c;cases c<;>first|exact False.elim j|exact hx j
  exact i (h _) k
 |recover=>
  simp only[kt]at k |-;have i:∀{X Y:AAct->PV->Prop} {c:Rc},(∀B v,X B v->Y B v)->MM A X c->MM A Y c:=λhx j=>by
   rename_i c;cases c<;>first|exact False.elim j|exact hx _ _ j
  exact i (λ_ _=>h _) k
 |panic v=>exact k
 |stuck=>exact k
theorem x9{o}{K K'}{e}{A}(h:∀e A,K e A->K' e A)(k:eK P H ops Q o K e A):eK P H ops Q o K' e A:=by
 by_cases l:bA H o=.thr
 .rcases mG l k with⟨v,E,q,k1⟩|q
  .exact kd q (h _ _ k1)
  .exact rC q
 by_cases a:bA H o=.cal
 .rcases nn a k with⟨v,E,q,k1⟩|⟨hw,k1⟩
  .exact kd q (h _ _ k1)
  .exact un a hw (LA (λv h' y=>h _ _ y) k1)
 by_cases j:bA H o≠.bar\/bo ops A o=some false
 .obtain⟨v,E,q,k1⟩:=om (j.imp (λh=>⟨h,l,a⟩) id) k;exact kd q (h _ _ k1)
 .have i:bA H o=.bar:=Classical.byContradiction λu=>j (.inl u);unfold eK at k |-
  cases hw:bo ops A o with
  |none=>rw[hw]at k;exact k.elim
  |some b=>
   rw[hw,i]at k;rw[i]
   cases b with
   |false=>exact absurd (.inr hw) j
   |true=>
    have k1:kt P A o.dst (λB=>K B.h B) Q (bh P (aE H) o A.eval A.h):=k.1 rfl;exact⟨λ_=>nN (K':=λB=>K' B.h B) (λB=>h B.h B) k1,λh=>(by cases h)⟩
theorem I6{o}(h:bA H o=.quiet):cv o.op=true:=by
 unfold bA at h;split at h
 .unfold rd at h;split at h
  .split at h<;>cases h
  .cases h
 .split at h
  .split at h
   .cases h
   .split at h
    .assumption
    .cases h
  .cases h
  .split at h<;>cases h
  .split at h<;>cases h
  .split at h<;>cases h
  .split at h<;>cases h
  .split at h<;>cases h
  .cases h
theorem NC{o}(h:bA H o=.low):cv o.op=true:=by
 unfold bA at h;split at h
 .unfold rd at h;split at h
  .split at h<;>cases h
  .cases h
 .split at h
  .split at h
   .cases h
   .split at h<;>cases h
  .cases h
  .split at h
   .assumption
   .cases h
  .split at h<;>cases h
  .split at h<;>cases h
  .split at h<;>cases h
  .split at h<;>cases h
  .cases h
theorem Lk{o}{j sz}(h:bA H o=.slot j sz):xr o.op=true:=by
 unfold bA at h;split at h
 .unfold rd at h;split at h
  .split at h<;>cases h
  .cases h
 .split at h
  .split at h
   .cases h
   .split at h<;>cases h
  .cases h
  .split at h<;>cases h
  .split at h
   .assumption
   .cases h
  .split at h<;>cases h
  .split at h<;>cases h
  .split at h<;>cases h
  .cases h
theorem j5{e i}{o:Oper}(j:∀x∈o.op.operands,e x=i x):gG P e o.op=gG P i o.op:=by
 unfold gG;split
 .rfl
 .rename_i T x a;rw[j x (by rw[a];simp[Op.operands])]
 .rfl
theorem lu{A:AAct}{dst}{v}{h}{o:Oper}(i:∀d,dst=some d->d∉o.looksAt ops):∀x∈o.op.operands,(A.put dst v h).eval x=A.eval x:=by
 intro x hx;refine Nw λd e a=>i d e ?_;subst a;exact List.mem_append_left _ (List.mem_filterMap.2 ⟨.tmp d,by simpa using hx,rfl⟩)
theorem QS.same{o}{G}{v}{E}{A B}(q:QS P H ops o G v E A)(hw:bo ops B o=bo ops A o)(j:∀x∈o.op.operands,B.eval x=A.eval x)(hh:B.h=A.h):QS P H ops o G v E B:=by
 have F:∀h,bh P (aE H) o B.eval h=bh P (aE H) o A.eval h:=λh=>lb o j;unfold QS Fu O3 O5 O9 xH O4 at *
 rw[hw,hh,j5 j];simp only[F];rcases q with q|⟨e,q|q|q|q|⟨y,T,a,x,id,D,i,I,ob,u,C,l,z,J⟩|⟨y,u,C,T,a,x,l,z⟩|q⟩
 .exact .inl q
 .exact .inr ⟨e,.inl q⟩
 .exact .inr ⟨e,.inr (.inl q)⟩
 .exact .inr ⟨e,.inr (.inr (.inl q))⟩
 .exact .inr ⟨e,.inr (.inr (.inr (.inl q)))⟩
 .refine .inr ⟨e,.inr (.inr (.inr (.inr (.inl ⟨y,T,a,x,id,D,i,I,ob,u,?_,l,?_,J⟩))))⟩
  .rw[j a (by rw[u];simp[Op.operands])];exact C
  .rw[j x (by rw[u];simp[Op.operands])];exact z
 .refine .inr ⟨e,.inr (.inr (.inr (.inr (.inr (.inl ⟨y,u,C,T,a,x,l,?_⟩)))))⟩;rw[j a (by rw[l];simp[Op.operands]),j x (by rw[l];simp[Op.operands])];exact z
 .exact .inr ⟨e,.inr (.inr (.inr (.inr (.inr (.inr q)))))⟩
theorem G1{o:Oper}{e:Heap}{v:AV}{E:HE}{A:AAct}(h:xH P H o e v E A){r:Nat}(j:r<e.length):(E.ap A.h)[r]?=A.h[r]?/\∀x,(E.ap A.h).set r x=E.ap (A.h.set r x):=by
 obtain⟨_,⟨_,q,i,_⟩|⟨_,rfl,_⟩|⟨_,id,a,rfl,_⟩⟩:=h
 rotate_right
 .refine⟨db (by omega),λx=>?_⟩;show (A.h.set id .dead).set r x=(A.h.set r x).set id .dead;exact List.set_comm _ _ (by omega)
 .rcases i with⟨l,rfl⟩|⟨id,ob,rfl,a⟩
  .refine⟨bp (by omega),λx=>?_⟩;show (A.h++l).set r x=A.h.set r x++l;rw[List.set_append,if_pos (by omega)]
  .refine⟨db (by omega),λx=>?_⟩;show (A.h.set id ob).set r x=(A.h.set r x).set id ob;exact List.set_comm _ _ (by omega)
 .exact⟨by simp[HE.ap],λx=>by simp[HE.ap]⟩
theorem KD{o:Oper}{a:Heap}{v:AV}{E:HE}{A B:AAct}(h:xH P H o a v E A)(j:∀h,bh P (aE H) o B.eval h=bh P (aE H) o A.eval h)(e:bT a B.h=bT a A.h)(i:B.h.length=A.h.length):xH P H o a v E B:=by
 unfold xH at *
 rw[e,i,j];exact h
theorem Qh{o C}{D}{v}{E}{A}{K}(hp:oN H ops o C=true)(q:QS P H ops o D v E A)
  (k:eK P H ops Q C K D (A.put o.dst v (E.ap A.h))):eK P H ops Q C (λO V=>QS P H ops o O v E V/\K O (V.put o.dst v (E.ap V.h))) D A:=by
 unfold oN at hp;simp only[dQ]at hp;obtain⟨i,d6,b0⟩:=hp;obtain⟨a1,a2,a3⟩:=Oper.apart_spec d6;have d5:bA H C≠.bar:=by
  intro hb;have b6:∀c,jy c .bar=false:=by intro c;cases c<;>rfl
  rw[hb,b6]at i;simp[pN]at i
 by_cases X:bA H C=.cal/\bo ops (A.put o.dst v (E.ap A.h)) C=some true
 .obtain⟨X,b8⟩:=X;have b3:bA H o=.low:=by
   rw[X]at i;cases y:bA H o<;>rw[y]at i<;>first|rfl|(simp[jy,rp,pN]at i)
  have U:E=.app []/\∀V,bo ops V o=bo ops A o->(∀x∈o.op.operands,V.eval x=A.eval x)->QS P H ops o D v E V:=by
   rcases q with⟨hw,hv,U⟩|⟨hw,⟨l,_⟩|⟨l,U,Z⟩|⟨l,_⟩|⟨_,_,_,l,_⟩|⟨l,_⟩|⟨l,_⟩|⟨_,l,_⟩|⟨l,_⟩⟩
   .exact⟨U,λV h1 _=>.inl ⟨h1.trans hw,hv,U⟩⟩
   .rw[b3]at l;cases l
   .refine⟨U,λV h1 h2=>.inr ⟨h1.trans hw,.inr (.inl ⟨l,U,?_⟩)⟩⟩;rw[lb o h2];exact Z
   all_goals (rw[b3]at l;cases l)
  obtain⟨rfl,d1⟩:=U;rcases nn X k with⟨v',J,q',k'⟩|⟨_,kc⟩
  .rcases q' with⟨G,_⟩|⟨_,⟨l,_⟩|⟨l,_⟩|⟨l,_⟩|⟨_,_,_,l,_⟩|⟨l,_⟩|⟨l,_⟩|⟨_,l,_⟩|⟨l,_⟩⟩
   .rw[b8]at G;cases G
   all_goals (rw[X]at l;cases l)
  .have e1:(A.put o.dst v (HE.ap (.app []) A.h)).h=A.h:=by rw[gY];simp[HE.ap]
   have e2:bh P (aE H) C (A.put o.dst v (HE.ap (.app []) A.h)).eval A.h=bh P (aE H) C A.eval A.h:=lb C (lu a1);refine un X ((ki a1).symm.trans b8) ?_;rw[e1,e2]at kc;cases hr:bh P (aE H) C A.eval A.h<;>rw[hr]at kc<;>first|exact kc.elim|skip
   rename_i f args;have c8:ar P f args A.h (As (λu h=>bY D h/\K D ((A.put o.dst v (HE.ap (.app []) A.h)).put C.dst u h)) (λu h=>∀T,II H T (A.put o.dst v (HE.ap (.app []) A.h)).tmps->Q (.panic u) { A.put o.dst v (HE.ap (.app []) A.h) with tmps:=T,h:=h })):=by
    have:ar P f args (A.put o.dst v (HE.ap (.app []) A.h)).h (As (λu h=>bY D h/\K D ((A.put o.dst v (HE.ap (.app []) A.h)).put C.dst u h)) (λu h=>∀T,II H T (A.put o.dst v (HE.ap (.app []) A.h)).tmps->Q (.panic u) { A.put o.dst v (HE.ap (.app []) A.h) with tmps:=T,h:=h })):=kc;rw[e1]at this;exact this
   intro M0 m w b7 hS ha;obtain⟨h1,h2⟩:=c8 M0 m w b7 hS ha;refine⟨h1,h2.mono λ_ _ hb=>?_⟩;obtain⟨r,h',m',hR,rest⟩:=hb;refine⟨r,h',m',?_,rest⟩
   cases r with
   |ret u=>
    refine⟨hR.1,d1 _ (ki a3) (lu a3),?_⟩;have e3:HE.ap (.app []) (A.put C.dst u h').h=h':=by rw[gY];simp[HE.ap]
    rw[e3,<-Dz A v u (HE.ap (.app []) A.h) h' h' a2]
    exact hR.2
   |panic u=>
    intro T hT;have:=hR T (λt ht=>by
     rw[hT t ht];unfold OU at b0;rw[X]at b0
     cases hd:o.dst with
     |none=>rfl
     |some d=>
      rw[hd]at b0;have a6:t≠d:=by
       rintro rfl
       simp[ht]at b0
      simp[AAct.put,uf,a6])
    have e:({ A.put o.dst v (HE.ap (.app []) A.h) with tmps:=T,h:=h' }:AAct)={ A with tmps:=T,h:=h' }:=by
     cases o.dst<;>simp[AAct.put]
    rw[e]at this;exact this
 have b4:(∃v' J,QS P H ops C D v' J (A.put o.dst v (E.ap A.h))/\K D ((A.put o.dst v (E.ap A.h)).put C.dst v' (J.ap (A.put o.dst v (E.ap A.h)).h)))\/(TS P H ops Q C (A.put o.dst v (E.ap A.h))/\E=.app []):=by
  by_cases ht:bA H C=.thr
  .rcases mG ht k with h|h
   .exact .inl h
   .refine .inr ⟨h,?_⟩;rw[ht]at i;rcases q with⟨_,_,h⟩|⟨_,⟨_,h,_⟩|⟨_,h,_⟩|⟨l,_⟩|⟨_,_,_,l,_⟩|⟨l,_⟩|⟨l,_⟩|⟨_,l,_⟩|⟨l,_⟩⟩
    .exact h
    .exact h
    .exact h
    all_goals (rw[l]at i;simp[jy,rp,pN]at i)
  .by_cases a9:bA H C=.cal
   .rcases nn a9 k with h|⟨h,_⟩
    .exact .inl h
    .exact absurd ⟨a9,h⟩ X
   .exact .inl (om (.inl ⟨d5,ht,a9⟩) k)
 rcases b4 with⟨v',J,q',k'⟩|⟨⟨tw,tc,f,args,u,t1,t2,t3⟩,rfl⟩
 rotate_left
 .refine rC ⟨(ki a1).symm.trans tw,tc,f,args,u,?_,?_,λT=>?_⟩
  .rw[<-t1,gY];simp only[HE.ap,bt];exact(lb C (lu a1)).symm
  .rw[gY]at t2;simpa[HE.ap]using t2
  .have:=t3 T;have e:({ A.put o.dst v (HE.ap (.app []) A.h) with tmps:=T }:AAct)={ A with tmps:=T }:=by
    cases o.dst<;>simp[AAct.put,HE.ap]
   rw[e]at this;exact this
 have S:(A.put o.dst v (E.ap A.h)).h=E.ap A.h:=gY _ _ _ _;have F:(A.put C.dst v' (J.ap A.h)).h=J.ap A.h:=gY _ _ _ _;have ee:∀x∈C.op.operands,(A.put o.dst v (E.ap A.h)).eval x=A.eval x:=lu a1;have ew:bo ops (A.put o.dst v (E.ap A.h)) C=bo ops A C:=ki a1;have b1:∀x∈o.op.operands,(A.put C.dst v' (J.ap A.h)).eval x=A.eval x:=lu a3;have a4:bo ops (A.put C.dst v' (J.ap A.h)) o=bo ops A o:=ki a3;have c3:∀h,bh P (aE H) C (A.put o.dst v (E.ap A.h)).eval h=bh P (aE H) C A.eval h:=λh=>lb C ee;have a8:∀h,bh P (aE H) o (A.put C.dst v' (J.ap A.h)).eval h=bh P (aE H) o A.eval h:=λh=>lb o b1
 have R:QS P H ops C D v' J A->QS P H ops o D v E (A.put C.dst v' (J.ap A.h))->E.ap (J.ap A.h)=J.ap (E.ap A.h) ->
   eK P H ops Q C (λO V=>QS P H ops o O v E V/\K O (V.put o.dst v (E.ap V.h))) D A:=by
  intro qA qB d7;refine kd qA ⟨qB,?_⟩;rw[F];rw[S]at k';have:(A.put C.dst v' (J.ap A.h)).put o.dst v (E.ap (J.ap A.h))=(A.put o.dst v (E.ap A.h)).put C.dst v' (J.ap (E.ap A.h)):=by
   rw[d7];exact(Dz A v v' _ _ _ a2).symm
  rw[this];exact k'
 have N:E=.app []->QS P H ops C D v' J A:=λU=>by
  refine q'.same ew.symm (λx hx=>(ee x hx).symm) ?_;rw[S,U];simp[HE.ap]
 have L:J=.app []->QS P H ops o D v E (A.put C.dst v' (J.ap A.h)):=λU=>by
  refine q.same a4 b1 ?_;rw[F,U];simp[HE.ap]
 have I:(bo ops A C=some false/\v'=.p (.tuple [])/\J=.app [])\/(bo ops A C=some true/\bA H C=.low/\J=.app []/\Qv P D (bh P (aE H) C A.eval D) v') ->
   eK P H ops Q C (λO V=>QS P H ops o O v E V/\K O (V.put o.dst v (E.ap V.h))) D A:=by
  rintro(⟨hw,hv,U⟩|⟨hw,y,U,Z⟩)
  .exact R (.inl ⟨hw,hv,U⟩) (L U) (by rw[U];simp[HE.ap])
  .exact R (.inr ⟨hw,.inr (.inl ⟨y,U,Z⟩)⟩) (L U) (by rw[U];simp[HE.ap])
 have q0:=q';unfold QS at q';rw[ew]at q';simp only[c3]at q';have q1:=q;rcases q with⟨hw,rfl,rfl⟩|⟨hw,⟨y,rfl,Z⟩|⟨y,rfl,Z⟩|⟨y,t,rfl,Z⟩|d0|c9|d2|c7|c4⟩
 .exact R (N rfl) (.inl ⟨a4.trans hw,rfl,rfl⟩) (by simp[HE.ap])
 .have c6:∃t',J=.app t':=by
   rcases q' with⟨_,_,h⟩|⟨_,⟨_,h,_⟩|⟨_,h,_⟩|⟨_,t',h,_⟩|⟨_,_,_,l,_⟩|⟨l,_⟩|⟨_,_,h,_⟩|⟨_,l,_⟩|⟨l,M,_⟩⟩
   .exact⟨_,h⟩
   .exact⟨_,h⟩
   .exact⟨_,h⟩
   .exact⟨t',h⟩
   .rw[y,l]at i;cases i
   .rw[y,l]at i;cases i
   .exact⟨_,h⟩
   .rw[y,l]at i;cases i
   .exact⟨_,M⟩
  obtain⟨t',rfl⟩:=c6;refine R (N rfl) (.inr ⟨a4.trans hw,.inl ⟨y,rfl,?_⟩⟩) (by simp[HE.ap]);rw[F,a8];have b2:=yk (P:=P) (mu:=aE H) (o:=o) A.eval (I6 y) A.h (A.h++t') (bY.app _ _);rcases Z with Z|⟨f,args,Z,b5⟩
  .exact .inl (b2.1 _ Z)
  .exact .inr ⟨f,args,b2.2 _ _ Z,λh' O=>b5 h' ((bY.app _ _).trans O)⟩
 .exact R (N rfl) (.inr ⟨a4.trans hw,.inr (.inl ⟨y,rfl,by rw[a8];exact Z⟩)⟩) (by simp[HE.ap])
 .rcases q' with h|⟨G,⟨l,_⟩|h|⟨l,_⟩|⟨_,_,_,l,_⟩|⟨l,_⟩|⟨l,_⟩|⟨_,l,_⟩|⟨l,M,_⟩⟩
  .exact I (.inl h)
  .rw[y,l]at i;cases i
  .exact I (.inr ⟨G,h⟩)
  .rw[y,l]at i;cases i
  .rw[y,l]at i;cases i
  .rw[y,l]at i;cases i
  .rw[y,l]at i;cases i
  .rw[y,l]at i;cases i
  .rw[y,l]at i;cases i
 .obtain⟨j,sz,z,y,h1,h2,h3,h4,rfl,rfl⟩:=d0;rcases q' with h|⟨G,⟨l,_⟩|h|⟨l,_⟩|⟨j',a0,z',l,g1,g2,g3,g4,rfl,rfl⟩|⟨l,_⟩|⟨l,_⟩|⟨t',l,d3⟩|⟨l,M,_⟩⟩
  .exact I (.inl h)
  .rw[y,l]at i;cases i
  .exact I (.inr ⟨G,h⟩)
  .rw[y,l]at i;cases i
  .rw[S]at g4;have a6:D.length-1-j≠D.length-1-j':=by
    intro e;have d4:=(aB.1 h4).1;have g5:(A.h.set (D.length-1-j) (.row sz [z]))[D.length-1-j']?=some (.row a0 []):=g4;rw[<-e,fZ d4]at g5;cases g5
   have g5:A.h[D.length-1-j']?=some (.row a0 []):=by
    have:(A.h.set (D.length-1-j) (.row sz [z]))[D.length-1-j']?=some (.row a0 []):=g4;rwa [db a6]at this
   refine R (.inr ⟨G,.inr (.inr (.inr (.inl ⟨j',a0,z',l,?_,g2,g3,g5,rfl,rfl⟩)))⟩) (.inr ⟨a4.trans hw,.inr (.inr (.inr (.inl ⟨j,sz,z,y,?_,h2,h3,?_,rfl,rfl⟩)))⟩) ?_
   .rw[<-j5 ee];exact g1
   .rw[j5 b1];exact h1
   .rw[F];show (A.h.set (D.length-1-j') (.row a0 [z']))[D.length-1-j]?=_;rw[db (Ne.symm a6)];exact h4
   .exact List.set_comm _ _ (Ne.symm a6)
  .rw[y,l]at i;cases i
  .rw[y,l]at i;cases i
  .have Y:lY t'=true:=by rw[y,l]at i;simpa[jy,rp]using i
   rcases d3 with⟨hf,_⟩|⟨_,c2⟩
   .rw[Y]at hf;cases hf
   have c5:=c2.1;have hr:D.length-1-j<D.length:=by omega
   have a5:=BQ h3 hr;have b9:xH P H C D v' J A:=KD c2 (λh=>(c3 h).symm) (by rw[S];exact(Br a5 _).symm) (by rw[S];simp[HE.ap]);have a7:=G1 b9 hr;refine R (.inr ⟨G,.inr (.inr (.inr (.inr (.inr (.inr (.inl ⟨t',l,.inr ⟨Y,b9⟩⟩))))))⟩) (.inr ⟨a4.trans hw,.inr (.inr (.inr (.inl ⟨j,sz,z,y,?_,h2,h3,?_,rfl,rfl⟩)))⟩) ?_
   .rw[j5 b1];exact h1
   .rw[F,a7.1];exact h4
   .exact a7.2 _
  .rw[y,l]at i;cases i
 .have y:=c9.1;rcases q' with h|⟨G,⟨l,_⟩|h|⟨l,_⟩|⟨_,_,_,l,_⟩|⟨l,_⟩|⟨l,_⟩|⟨_,l,_⟩|⟨l,M,_⟩⟩
  .exact I (.inl h)
  .rw[y,l]at i;cases i
  .exact I (.inr ⟨G,h⟩)
  .rw[y,l]at i;cases i
  .rw[y,l]at i;cases i
  .rw[y,l]at i;cases i
  .rw[y,l]at i;cases i
  .rw[y,l]at i;cases i
  .rw[y,l]at i;cases i
 .obtain⟨y,rfl,rfl,T,a,x,h1,h2⟩:=d2;have M:J=.app []:=by
   rcases q' with⟨_,_,h⟩|⟨_,⟨_,h,_⟩|⟨_,h,_⟩|⟨l,_⟩|⟨_,_,_,l,_⟩|⟨l,_⟩|⟨_,_,h,_⟩|⟨_,l,_⟩|⟨l,_,_⟩⟩
   .exact h
   .exact h
   .exact h
   .rw[y,l]at i;cases i
   .rw[y,l]at i;cases i
   .rw[y,l]at i;cases i
   .exact h
   .rw[y,l]at i;cases i
   .rw[y,l]at i;cases i
  exact R (N rfl) (L M) (by rw[M])
 .obtain⟨t,y,hm⟩:=c7;rcases q' with h|⟨G,⟨l,_⟩|h|⟨l,_⟩|⟨j',a0,z',l,g1,g2,g3,g4,rfl,rfl⟩|⟨l,_⟩|⟨l,_⟩|⟨_,l,_⟩|⟨l,M,_⟩⟩
  .exact I (.inl h)
  .rw[y,l]at i;cases i
  .exact I (.inr ⟨G,h⟩)
  .rw[y,l]at i;cases i
  .have Y:lY t=true:=by rw[y,l]at i;simpa[jy,rp]using i
   rcases hm with⟨hf,_⟩|⟨_,Z⟩
   .rw[Y]at hf;cases hf
   have c5:=Z.1;have hr:D.length-1-j'<D.length:=by omega
   have a5:=BQ g3 hr;have a7:=G1 Z hr;rw[S,a7.1]at g4;refine R (.inr ⟨G,.inr (.inr (.inr (.inl ⟨j',a0,z',l,?_,g2,g3,g4,rfl,rfl⟩)))⟩) (.inr ⟨a4.trans hw,.inr (.inr (.inr (.inr (.inr (.inr (.inl ⟨t,y,.inr ⟨Y,?_⟩⟩))))))⟩) ?_
   .rw[<-j5 ee];exact g1
   .exact KD Z a8 (by rw[F];exact Br a5 _) (by rw[F];simp[HE.ap])
   .exact(a7.2 _).symm
  all_goals (rw[y,l]at i;cases i)
 .obtain⟨y,rfl,d8⟩:=c4;have M:J=.app []:=by
   rcases q' with⟨_,_,h⟩|⟨_,⟨_,h,_⟩|⟨_,h,_⟩|⟨l,_⟩|⟨_,_,_,l,_⟩|⟨l,_⟩|⟨_,_,h,_⟩|⟨_,l,_⟩|⟨_,h,_⟩⟩
   .exact h
   .exact h
   .exact h
   .rw[y,l]at i;simp[jy,pN]at i
   .rw[y,l]at i;simp[jy,pN]at i
   .rw[y,l]at i;simp[jy,pN]at i
   .exact h
   .rw[y,l]at i;simp[jy,pN]at i
   .exact h
  exact R (N rfl) (L M) (by rw[M])
end Abs
end Go.Proofs.YtmndpldajflenaaGreatDoor
namespace Go.Proofs.YtmndpldajflenaaGreatDoor
namespace Abs
variable {P:Program} {H:Hints} {ops:Array Oper} {Q:Ex->AAct->Prop}
def tM (acc:Array Nat) (o:Oper):Array Nat:=acc.push (o.after.foldl (λs e=>if Region.binds .any e then s||| 2^e.on||| acc.getD e.on 0 else s) 0)
def qb (p:List Oper) (acc:Array Nat):Prop:=
 acc.size=p.length/\∀j i,(acc.getD j 0).testBit i=true->∃o,p[j]?=some o/\∃e,e∈o.after/\Region.binds .any e=true/\(i=e.on\/(e.on<j/\(acc.getD e.on 0).testBit i=true))
theorem yZ(a:Array Nat)(i):∀(l:List Edge) (s),(l.foldl (λs e=>if Region.binds .any e then s||| 2^e.on||| a.getD e.on 0 else s) s).testBit i=true ->
  s.testBit i=true\/∃e,e∈l/\Region.binds .any e=true/\(i=e.on\/(a.getD e.on 0).testBit i=true)
 |[],s,h=>.inl h
 |e::l,s,h=>by
  simp only[o8]at h;rcases yZ a i l _ h with h|⟨u,q,o⟩
  .by_cases j:Region.binds .any e=true
   .simp only[j,if_true,Nat.testBit_or,Mn]at h;rcases h with(h|h)|h
    .exact .inl h
    .refine .inr ⟨e,by simp,j,.inl ?_⟩;rw[Nat.testBit_two_pow]at h;exact(of_decide_eq_true h).symm
    .exact .inr ⟨e,by simp,j,.inr h⟩
   .simp only[j,if_false,eG]at h;exact .inl h
  .exact .inr ⟨u,by simp[q],o⟩
theorem LY{p}{a}(h:qb p a)(o):qb (p++[o]) (tM a o):=by
 obtain⟨D,I⟩:=h;refine⟨by simp[tM,D],λj i u=>?_⟩;have low:∀k,k<a.size->(tM a o).getD k 0=a.getD k 0:=by
  intro k F;simp[tM,ji,Rt,vq F]
 rcases H2 j a.size with l|C|J
 .rw[low j l]at u;obtain⟨E,A,e,z,q,v⟩:=I j i u;refine⟨E,by rw[bp (by omega)];exact A,e,z,q,?_⟩;rcases v with v|⟨v,G⟩
  .exact .inl v
  .exact .inr ⟨v,by rw[low e.on (by omega)];exact G⟩
 .subst C;refine⟨o,by rw[D];simp,?_⟩;have y:(o.after.foldl (λs e=>if Region.binds .any e then s||| 2^e.on||| a.getD e.on 0 else s) 0).testBit i=true:=by
   simpa[tM,ji]using u
  rw[<-JO]at y;rcases yZ a i _ _ y with h|⟨e,A,z,q⟩
  .simp at h
  .refine⟨e,H8.1 A,z,?_⟩;rcases q with q|q
   .exact .inl q
   .have l:e.on<a.size:=by
     rcases cx e.on a.size with hx|hx
     .exact hx
     .simp[ji,xM hx]at q
    exact .inr ⟨l,by rw[low _ l];exact q⟩
 .have:(tM a o).getD j 0=0:=by
   simp[tM,ji,xM (show (a.push _).size<=j by simp;omega)]
  rw[this]at u;simp at u
theorem wJ(ops):qb ops.toList (Region.before ops):=by
 have e:∀(l p:List Oper) (a:Array Nat),qb p a->qb (p++l) (l.foldl tM a):=by
  intro l
  induction l with
  |nil=>intro p a h;simpa using h
  |cons o l u=>
   intro p a h;have:=u (p++[o]) _ (LY h o);simpa using this
 have v:qb [] #[]:=⟨rfl,λj i h=>by simp at h⟩
 have:=e ops.toList [] #[] v;have q:Region.before ops=ops.toList.foldl tM #[]:=by
  unfold Region.before;rw[<-JO];rfl
 rw[q];simpa using this
def xJ (ops:Array Oper) (al:Array Bool):Prop:=
 ∀j o,al.getD j false=true->ops[j]?=some o->∀e,e∈o.after->Region.binds .any e=true->al.getD e.on false=true
theorem tL{al}(I:xJ ops al):∀(j i) (o),ops[j]?=some o->(∀e,e∈o.after->Region.binds .any e=true->al.getD e.on false=true) ->
  E6 (Region.before ops) i j=true->al.getD i false=true:=by
 intro j
 induction j using Nat.strongRecOn with
 |_ j D=>
  intro i o E a G;obtain⟨C,K,e,A,z,v⟩:=(wJ ops).2 j i G;have l:ops[j]?=some C:=by simpa using K
  rw[E]at l;cases l;rcases v with rfl|⟨v,y⟩
  .exact a e A z
  .have F:=a e A z;obtain⟨u,J,_⟩:=(wJ ops).2 e.on i y;have q:ops[e.on]?=some u:=by simpa using J
   exact D e.on v i u q (I e.on u F q) y
theorem xJ.set{al}(A:xJ ops al){i}(hi:i∈Region.ready .any ops al):xJ ops (al.setIfInBounds i true):=by
 intro j o v u e y z;obtain⟨D,C,a,q⟩:=mem_ready.1 hi;by_cases l:j=i
 .subst l;rw[u]at a;cases a;exact getD_set_true (q e y z)
 .rw[getD_set_ne false (Ne.symm l)]at v;exact getD_set_true (A j o v u e y z)
def xK (P:Program) (H:Hints) (ops:Array Oper) (Q:Ex->AAct->Prop):Nat->Array Bool->Heap->AAct->Prop
 |0,al,_,A=>Region.ready .any ops al=[]/\Q .normal A
 |fuel+1,al,hs,A=>
  (Region.ready .any ops al=[]->Q .normal A) /\
  ∀i∈Region.ready .any ops al,∀o,ops[i]?=some o->eK P H ops Q o (xK P H ops Q fuel (al.setIfInBounds i true)) hs A
def qa (H:Hints) (ops:Array Oper) (al:Array Bool) (i:Nat) (oi:Oper):Prop:=∀j o,j≠i->al.getD j true=false->ops[j]?=some o->E6 (Region.before ops) i j=true\/oN H ops oi o=true
theorem sc{al:Array Bool}{j}:(al.setIfInBounds j true).getD j true=true:=by
 rw[ji,Ry];rw[if_pos rfl];split<;>rfl
theorem qa.set{H}{ops}{al}{i}{l}(h:qa H ops al i l)(j):qa H ops (al.setIfInBounds j true) i l:=by
 intro x o e hx q;by_cases a:j=x
 .subst a;rw[sc]at hx;cases hx
 .rw[getD_set_ne true a]at hx;exact h x o e hx q
theorem B6{i}{z}{v}{E}(hi:ops[i]?=some z) :
  ∀(fuel) (al) (C) (A),xJ ops al->qa H ops al i z->i∈Region.ready .any ops al->QS P H ops z C v E A ->
   xK P H ops Q fuel (al.setIfInBounds i true) C (A.put z.dst v (E.ap A.h))->xK P H ops Q (fuel+1) al C A:=by
 intro fuel
 induction fuel with
 |zero=>
  intro al C A _ _ u q k;refine⟨λh=>(by rw[h]at u;cases u),λj D o l=>?_⟩;by_cases a:j=i
  .subst a;rw[hi]at l;cases l;exact kd q k
  .have:=ready_mono D a;rw[k.1]at this
   cases this
 |succ fuel R=>
  intro al C A K L u q k;refine⟨λh=>(by rw[h]at u;cases u),λj D o l=>?_⟩;by_cases a:j=i
  .subst a;rw[hi]at l;cases l;exact kd q k
  .have V:=k.2 j (ready_mono D a) o l;obtain⟨G,Y,F,I⟩:=mem_ready.1 D;rw[l]at F;cases F;have S:oN H ops z o=true:=by
    rcases L j o a G l with h|h
    .have y:=tL K j i o l (λe T U=>I e T U) h;have M:=(mem_ready.1 u).1;rcases cx i al.size with h'|h'
     .simp[h']at M y;rw[M]at y;cases y
     .simp[xM h']at y
    .exact h
   have y:=Qh S q V;refine x9 ?_ y
   rintro J X ⟨N,O⟩
   refine R (al.setIfInBounds j true) J X (K.set D) (L.set j) (ready_mono u (Ne.symm a)) N ?_;rw[Array.setIfInBounds_comm _ _ a];exact O
def A5 (al:Array Bool):Nat:=al.toList.countP (·==false)
theorem zh:∀(l:List Bool) (j),l[j]?=some false->(l.set j true).countP (·==false)+1=l.countP (·==false)
 |[],j,h=>by simp at h
 |b::l,0,h=>by
  have:b=false:=by simpa using h
  subst this
  simp
 |b::l,j+1,h=>by
  have:=zh l j (by simpa using h);simp only[List.set_cons_succ,List.countP_cons];omega
theorem zX{al}{j}(h:al.getD j true=false):A5 (al.setIfInBounds j true)+1=A5 al:=by
 have e:al[j]?=some false:=by
  rw[ji]at h
  cases a:al[j]? with
  |none=>rw[a]at h;simp at h
  |some b=>rw[a]at h;simp at h;rw[h]
 unfold A5;rw[Array.toList_setIfInBounds];exact zh _ _ (by simpa using e)
theorem Pf{al}{j}(h:al.getD j true=false):0<A5 al:=by
 have:=zX h;omega
theorem Li{o}{K}{j}{A}(q:tm o=true)(l:pN (bA H o)=true)(k:∀v,K j (A.put o.dst v A.h)):eK P H ops Q o K j A:=by
 have e:bA H o=.quiet:=by cases e:bA H o<;>rw[e]at l<;>first|rfl|cases l
 obtain⟨dst,op,ty,pos,i,a⟩:=o;unfold eK
 cases a with
 |some g=>simp[tm]at q
 |none=>
  refine⟨λ_=>?_,λh=>(by cases h)⟩;rw[e];cases op<;>simp only[tm,eG]at q
  .exact⟨rfl,k _⟩
  .exact⟨rfl,k _⟩
theorem TS.put{o i:Oper}{A}(q:TS P H ops Q o A)(a:∀d,i.dst=some d->d∉o.looksAt ops)(v):TS P H ops Q o (A.put i.dst v A.h):=by
 obtain⟨j,l,f,args,u,C,z,y⟩:=q;refine⟨(ki a).trans j,l,f,args,u,?_,?_,λT=>?_⟩
 .rw[<-C,gY];exact lb o (lu a)
 .rw[gY];exact z
 .have e:({ A.put i.dst v A.h with tmps:=T }:AAct)={ A with tmps:=T }:=by
   cases i.dst<;>simp[AAct.put]
  rw[e];exact y T
theorem Ob{i}{F}(hi:ops[i]?=some F) :
  ∀(fuel) (al) (G) (A),A5 al<=fuel->xJ ops al->qa H ops al i F->i∈Region.ready .any ops al->TS P H ops Q F A->xK P H ops Q fuel al G A:=by
 intro fuel
 induction fuel with
 |zero=>
  intro al G A S _ _ y _;have:=Pf (mem_ready.1 y).1
  omega
 |succ fuel R=>
  intro al G A S M N y q;refine⟨λh=>(by rw[h]at y;cases y),λj L o z=>?_⟩;by_cases u:j=i
  .subst u;rw[hi]at z;cases z;exact rC q
  .obtain⟨l,X,C,E⟩:=mem_ready.1 L;rw[z]at C;cases C;have J:oN H ops F o=true:=by
    rcases N j o u l z with h|h
    .have I:=tL M j i o z (λe T U=>E e T U) h;have O:=(mem_ready.1 y).1;rcases cx i al.size with h'|h'
     .simp[h']at O I;rw[O]at I;cases I
     .simp[xM h']at I
    .exact h
   unfold oN at J;simp only[dQ]at J;obtain⟨a,K,_⟩:=J;obtain⟨Z,Y,V⟩:=Oper.apart_spec K;have D:∀c,jy .thr c=false:=by intro c;cases c<;>rfl
   rw[q.2.1,D]at a;simp only[rp,l6,zS,dQ]at a;refine Li a.1 a.2 λv=>?_;refine R (al.setIfInBounds j true) G _ ?_ (M.set L) (N.set j) (ready_mono y (Ne.symm u)) (q.put V v);have:=zX l;omega
def Tq (ops:Array Oper) (l:List Nat) (al:Array Bool):Prop:=al.size=ops.size/\∀j,al.getD j true=false↔j∈l
theorem Du{l}{al:Array Bool}{i}(e:i∉l)(h:∀j,al.getD j true=false↔j∈i::l)(j):(al.setIfInBounds i true).getD j true=false↔j∈l:=by
 by_cases a:i=j
 .subst a;rw[sc];exact⟨λh=>(by cases h),λh=>absurd h e⟩
 .rw[getD_set_ne true a,h j];simp[Ne.symm a]
theorem Dh:∀(l:List Nat) (al),l.Nodup->(∀j,al.getD j true=false↔j∈l)->A5 al<=l.length
 |[],al,_,h=>by
  rcases pu (A5 al) with a|a
  .omega
  .exfalso;unfold A5 at a;obtain⟨b,v,o⟩:=List.countP_pos_iff.1 (show 0<List.countP (λx=>x==false) al.toList from a);obtain⟨j,u⟩:=eF v;have e:b=false:=by simpa using o
   subst e;have:=(h j).1 (by rw[ji,<-Array.getElem?_toList,u];rfl)
   cases this
 |i::l,al,q,h=>by
  have hi:al.getD i true=false:=(h i).2 (by simp);have:=zX hi;have y:=Dh l (al.setIfInBounds i true) (H9.1 q).2 (Du (H9.1 q).1 h);rw[dB];omega
theorem Ny:∀(l) (os) (al) (I) (A),l.map (λi=>ops[i]?)=os.map some->l.Nodup->Tq ops l al->xJ ops al->yr H ops (Region.before ops) l=true ->
  bE P H ops Q os I A->xK P H ops Q l.length al I A:=by
 intro l
 induction l with
 |nil=>
  intro os al I A J T C S hok h;have:os=[]:=by cases os<;>simp_all
  subst this;refine⟨?_,h⟩;refine List.eq_nil_iff_forall_not_mem.2 λj U=>?_;obtain⟨K,_⟩:=mem_ready.1 U
  exact absurd ((C.2 j).1 K) (by simp)
 |cons i l ih=>
  intro os al I A J T C S hok h
  cases os with
  |nil=>simp at J
  |cons o rest=>
   simp only[bK,List.cons.injEq]at J;obtain⟨u,J⟩:=J;obtain⟨a2,a0⟩:=H9.1 T;rw[yr,u]at hok;simp only[dQ]at hok;obtain⟨⟨O,N⟩,X⟩:=hok;have G:al.getD i true=false:=(C.2 i).2 (by simp);have Y:i<ops.size:=(tQ.1 u).1;have R:i∈Region.ready .any ops al:=by
    refine mem_ready.2 ⟨G,o,u,λe J hb=>?_⟩;have:=(Array.all_eq_true_iff_forall_mem.1 O) e J;simp only[hb,Bool.not_true,l6,dQ,decide_eq_true_eq,C7]at this;obtain⟨K,h2⟩:=this;have D:¬al.getD e.on true=false:=λh'=>by
     have F:=(C.2 _).1 h';rw[<-List.contains_iff_mem]at F;rw[F]at h2;cases h2
    have F:e.on<al.size:=by rw[C.1];exact K
    rw[ji,Rw F]at D |-;simpa using D
   have hB:qa H ops al i o:=by
    intro j oj M U a;have L:=(C.2 j).1 U;rcases ce.1 L with rfl|L
    .exact absurd rfl M
    have:=kC.1 N j L;rw[a]at this;simp only[dQ,Mn]at this;exact this.2
   have a3:Tq ops l (al.setIfInBounds i true):=⟨by simp[C.1],Du a2 C.2⟩
   have a4:=S.set R;rw[FF]at h;have h':eK P H ops Q o (xK P H ops Q l.length (al.setIfInBounds i true)) I A:=x9 (λI A hk=>ih rest _ I A J a0 a3 a4 X hk) h;by_cases ht:bA H o=.thr
   .rcases mG ht h' with⟨v,E,q,k⟩|q
    .exact B6 u _ _ _ A S hB R q k
    .exact Ob u _ _ I A (Dh (i::l) al T C.2) S hB R q
   by_cases hb:(bA H o≠.bar/\bA H o≠.cal)\/bo ops A o=some false
   .obtain⟨v,E,q,k⟩:=om (hb.imp (λh=>⟨h.1,ht,h.2⟩) id) h';exact B6 u _ _ _ A S hB R q k
   .have y:bA H o=.bar\/bA H o=.cal:=by
     by_cases K:bA H o=.bar
     .exact .inl K
     .exact .inr (Classical.byContradiction λT=>hb (.inl ⟨K,T⟩))
    refine⟨λh0=>?_,λj U oj a=>?_⟩
    .rw[h0]at R;cases R
    .have M:j=i:=by
      obtain⟨K,o',V,Z⟩:=mem_ready.1 U;rw[a]at V;cases V;refine Classical.byContradiction λa1=>?_;rcases hB j oj a1 K a with D|D
      .have F:=tL S j i oj a Z D;have h5:i<al.size:=by rw[C.1];exact Y
       rw[ji,Rw h5]at G F;simp at G F;rw[G]at F;cases F
      .have z:∀c,jy .bar c=false/\jy .cal c=false:=by intro c;cases c<;>exact⟨rfl,rfl⟩
       unfold oN at D;rcases y with y|y
       .rw[y,(z _).1]at D;simp[rp]at D
       .rw[y,(z _).2]at D;simp[rp]at D
     subst M;rw[u]at a;cases a;exact h'
variable {M0:Nat->Prop} {S0:Mem} {b:Frame} {cs0:List Frame}
theorem qj{e h}(hx:bY e h){id}(i:fI e id=true)(ob):bY e (h.set id ob):=by
 intro x o j l;by_cases a:id=x
 .subst a;unfold fI at i;rw[j]at i;cases o<;>first|(cases i;done)|(cases l;done)
 .rw[db a];exact hx x o j l
theorem MD{o}{K}{y}{A}(hx:bY y A.h)(k:eK P H ops Q o K y A) :
  (bo ops A o=some false/\K y (A.put o.dst (.p (.tuple [])) A.h)) \/
  (bo ops A o=some true/\kt P A o.dst (λB=>∃F,bY F B.h/\K F B) Q (bh P (aE H) o A.eval A.h)) \/
  (bo ops A o=some true/\∃v E,Fu P H o y v E A/\bY y (E.ap A.h)/\K y (A.put o.dst v (E.ap A.h))):=by
 have X:(∃v E,QS P H ops o y v E A/\K y (A.put o.dst v (E.ap A.h)))\/TS P H ops Q o A\/(bA H o=.cal/\bo ops A o=some true/\qK P H Q y A (λv h=>K y (A.put o.dst v h)) (bh P (aE H) o A.eval A.h))\/¬(bA H o≠.bar\/bo ops A o=some false):=by
  by_cases ht:bA H o=.thr
  .rcases mG ht k with h|h
   .exact .inl h
   .exact .inr (.inl h)
  .by_cases N:bA H o=.cal
   .rcases nn N k with h|h
    .exact .inl h
    .exact .inr (.inr (.inl ⟨N,h⟩))
   .by_cases G:bA H o≠.bar\/bo ops A o=some false
    .exact .inl (om (G.imp (λh=>⟨h,ht,N⟩) id) k)
    .exact .inr (.inr (.inr G))
 rcases X with⟨v,E,q,k1⟩|⟨tw,tc,f,args,u,t1,t2,t3⟩|⟨N,hw,Z⟩|G
 .have O:∀(r:OR),Qv P A.h r v->K y (A.put o.dst v A.h)->kt P A o.dst (λB=>∃F,bY F B.h/\K F B) Q r:=by
   intro r hr hk;rcases hr with rfl|⟨f,args,rfl,M⟩
   .exact⟨y,by rw[gY];exact hx,hk⟩
   .have:=M A.h (bY.refl _);intro M0 m w e S R;obtain⟨J,I⟩:=this M0 m w e S R;refine⟨J,I.mono λ_ _ G=>?_⟩;obtain⟨r,h',m',⟨rfl,rfl⟩,rest⟩:=G;exact⟨.ret v,_,m',⟨y,by rw[gY];exact hx,hk⟩,rest⟩
  rcases q with⟨hw,rfl,rfl⟩|⟨hw,⟨M,rfl,q⟩|⟨M,rfl,q⟩|⟨M,t,rfl,q⟩|q|⟨M,T,a,x,id,a3,i,kk,ob,J,I,h3,h4,rfl,rfl⟩|⟨M,rfl,rfl,T,a,x,J,I⟩|⟨t,M,Y⟩|⟨M,rfl,f,args,g1,g2⟩⟩
  .exact .inl ⟨hw,by simpa[HE.ap]using k1⟩
  .exact .inr (.inl ⟨hw,O _ q (by simpa[HE.ap]using k1)⟩)
  .refine .inr (.inl ⟨hw,O _ ?_ (by simpa[HE.ap]using k1)⟩);have C:=yk (P:=P) (mu:=aE H) (o:=o) A.eval (NC M) y A.h hx;rcases q with q|⟨f,args,q,D⟩
   .exact .inl (C.1 _ q)
   .exact .inr ⟨f,args,C.2 _ _ q,λh' F=>D h' (hx.trans F)⟩
  .refine .inr (.inl ⟨hw,?_⟩);rw[q];exact⟨y,by rw[gY];exact hx.trans (bY.app _ _),k1⟩
  .refine .inr (.inr ⟨hw,v,E,q,?_,k1⟩);obtain⟨j,sz,z,M,J,I,h3,h4,rfl,rfl⟩:=q;exact qj hx h3 _
  .refine .inr (.inl ⟨hw,?_⟩);have V:bh P (aE H) o A.eval A.h=.skip (A.h.set id ob):=by
    unfold bh;rw[J];show gC P T (A.eval a) (A.eval x) A.h=_;rw[I];exact h4
   rw[V];exact⟨y,by rw[gY];exact qj hx h3 _,k1⟩
  .refine .inr (.inl ⟨hw,?_⟩);have V:bh P (aE H) o A.eval A.h=.skip A.h:=by
    unfold bh;rw[J];exact I
   rw[V];exact⟨y,by rw[gY];exact hx,by simpa[HE.ap]using k1⟩
  .refine .inr (.inl ⟨hw,?_⟩);rcases Y with⟨_,Y,L⟩|⟨_,h0,⟨a2,hl,Y,L⟩|⟨U,rfl,L⟩|⟨U,id,a0,rfl,f,args,L,D⟩⟩
   .rw[L];refine⟨y,?_,k1⟩;rw[gY];rcases Y with⟨l,rfl⟩|⟨id,ob,rfl,hd⟩
    .exact hx.trans (bY.app _ _)
    .exact qj hx hd _
   .rw[R6 a2 hl L,A4 hl Y];refine⟨y,?_,k1⟩;rw[gY];rcases Y with⟨l,rfl⟩|⟨id,ob,rfl,hd⟩
    .exact hx.trans (bY.app _ _)
    .exact qj hx (by unfold fI;rw[lC hd]) _
   .have C:=yk (P:=P) (mu:=aE H) (o:=o) A.eval U (bT y A.h) A.h (rn y A.h);refine O _ ?_ (by simpa[HE.ap]using k1);rcases L with L|⟨f,args,L,D⟩
    .exact .inl (C.1 _ L)
    .exact .inr ⟨f,args,C.2 _ _ L,λh' F=>D h' ((rn y A.h).trans F)⟩
   .have C:=yk (P:=P) (mu:=aE H) (o:=o) A.eval U (bT y A.h) A.h (rn y A.h);rw[C.2 _ _ L];have:=D A.h (rn y A.h);intro M0 m w e S R;obtain⟨J,I⟩:=this M0 m w e S R;refine⟨J,I.mono λ_ _ G=>?_⟩;obtain⟨r,h',m',⟨rfl,rfl⟩,rest⟩:=G;exact⟨.ret v,_,m',⟨y,by rw[gY];exact qj hx (by unfold fI;rw[lC a0]) _,k1⟩,rest⟩
  .exact .inr (.inl ⟨hw,O _ (.inr ⟨f,args,g1,g2⟩) (by simpa[HE.ap]using k1)⟩)
 .refine .inr (.inl ⟨tw,?_⟩);rw[t1];intro M0 m w e S R;obtain⟨J,I⟩:=t2 M0 m w e S R;refine⟨J,I.mono λ_ _ G=>?_⟩;obtain⟨r,h',m',⟨rfl,rfl⟩,rest⟩:=G;exact⟨.panic u,_,m',t3 A.tmps,rest⟩
 .refine .inr (.inl ⟨hw,?_⟩);cases hr:bh P (aE H) o A.eval A.h<;>rw[hr]at Z<;>first|exact Z.elim|skip
  intro M0 m w e S R;obtain⟨J,I⟩:=Z M0 m w e S R;refine⟨J,I.mono λ_ _ G=>?_⟩;obtain⟨r,h',m',hR,rest⟩:=G
  exact⟨r,h',m',by
   cases r with
   |ret v=>exact⟨y,by rw[gY];exact hR.1,hR.2⟩
   |panic v=>exact hR A.tmps (λ_ _=>rfl),rest⟩
 .have a1:bA H o=.bar:=Classical.byContradiction λhn=>G (.inl hn);unfold eK at k
  cases hw:bo ops A o with
  |none=>rw[hw]at k;exact k.elim
  |some b=>
   rw[hw,a1]at k
   cases b with
   |false=>exact absurd (.inr hw) G
   |true=>
    have k1:kt P A o.dst (λB=>K B.h B) Q (bh P (aE H) o A.eval A.h):=k.1 rfl;exact .inr (.inl ⟨rfl,nN (λB hB=>⟨B.h,bY.refl _,hB⟩) k1⟩)
theorem QU{n}{k}(hd:ops.toList.all (nd n)=true):∀(fuel t) (al) (I) {m} {A} {a} {w},bY I A.h ->
  Rel P M0 S0 b cs0 m A a w->A.n=n->xK P H ops Q fuel al I A ->
   qS P M0 S0 b cs0 n (lone (b.atR a (.inRegion ops (Region.linearise.go .any ops fuel t al [])::k)) (bu A.rc cs0) w) k Q:=by
 intro fuel
 induction fuel with
 |zero=>
  intro t al I m A a w hx q y h
  exact⟨.normal,A,m,a,w,h.2,y,q,.one (by simp only[Region.linearise.go,List.reverse_nil];exact stepR_region_end)⟩
 |succ fuel O=>
  intro t al I m A a w hx q y h;obtain⟨h0,h1⟩:=h
  have a0:Region.linearise.go .any ops (fuel+1) t al []=match (Region.ready .any ops al)[t%(Region.ready .any ops al).length]? with
   |some i=>Region.linearise.go .any ops fuel (t / (Region.ready .any ops al).length) (al.setIfInBounds i true) [i]
   |none=>[].reverse:=rfl
  rw[a0]
  cases hi:(Region.ready .any ops al)[t%(Region.ready .any ops al).length]? with
  |none=>
   have N:Region.ready .any ops al=[]:=by
    cases X:Region.ready .any ops al with
    |nil=>rfl
    |cons x xs=>
     rw[X]at hi;have Z:t%(x::xs).length<(x::xs).length:=vr _ (by simp);simp at hi;simp at Z;omega
   exact⟨.normal,A,m,a,w,h0 N,y,q,.one (by simp only[List.reverse_nil];exact stepR_region_end)⟩
  |some i=>
   simp only[];rw[linearise_go_acc,List.reverse_singleton,H5];have C:=aG hi;obtain⟨_,o,J,_⟩:=mem_ready.1 C;have G:=h1 i C o J;have F:nd A.n o=true:=by
    rw[y];exact kC.1 hd o (H8.2 (Array.mem_of_getElem? J))
   rcases MD hx G with⟨hw,K⟩|⟨hw,K⟩|⟨hw,v,E,U,S,K⟩
   .have u:=q.wanted hw;have e:=stepR_op_skip (P:=P) (b:=b) (k:=k) (cs:=bu A.rc cs0) (w:=w) (rest:=Region.linearise.go .any ops fuel (t / (Region.ready .any ops al).length) (al.setIfInBounds i true) []) (ue J u);simp only[J,n9]at e;have l:=q.put (dst:=o.dst) (lO F) (oI _ _);have:=O (t / (Region.ready .any ops al).length) (al.setIfInBounds i true) I (by rw[gY];exact hx) l ((oo _ _ _ _).trans y) K;rw[lK]at this;exact this.of_steps (.one e)
   .have u:=q.wanted hw;rcases GZ (i:=i) (rest:=Region.linearise.go .any ops fuel (t / (Region.ready .any ops al).length) (al.setIfInBounds i true) []) (k:=k) J F u q K with⟨A',m',R,w',⟨V,T,hK⟩,D,l,e⟩|⟨v,A',m',R,w',v',M,hQ,D,l,hv,e⟩
    .exact(O _ _ V T l (D.trans y) hK).of_steps e
    .exact⟨.panic v,A',m',R,w',hQ,D.trans y,l,v',M,hv,e⟩
   .have u:=q.wanted hw;obtain⟨j,sz,z,hc,g1,g2,g3,g4,rfl,rfl⟩:=U;have L:=Lk hc;have Y:∀c,o.op≠.defer c:=by
     intro c a1;rw[a1]at L;cases L
    have hok:=Pj (P:=P) (o:=o) q.hok g4 q.eval g1 g2;obtain⟨m',R,w',l,e⟩:=FW (i:=i) (rest:=Region.linearise.go .any ops fuel (t / (Region.ready .any ops al).length) (al.setIfInBounds i true) []) (k:=k) J F u q Y hok;have:=O (t / (Region.ready .any ops al).length) (al.setIfInBounds i true) I (by rw[gY];exact S) l ((oo _ _ _ _).trans y) K;rw[lK]at this;exact this.of_steps e
theorem Bq:∀(l) (h),bY (td h l) h/\(td h l).length=h.length
 |[],h=>⟨bY.refl _,rfl⟩
 |id::l,h=>by
  obtain⟨u,q⟩:=Bq l (h.set id .dead);refine⟨u.trans λx o e j=>?_,by rw[td,q];simp⟩;by_cases a:id=x
  .subst a;have i:=(aB.1 e).1;rw[fZ (by simpa using i)]at e;cases e;cases j
  .rwa [db a]at e
theorem Ec(id)(h):bY (ga id h) h/\(ga id h).length=h.length:=by
 refine⟨λx o a e=>?_,by simp[ga]⟩;unfold ga at a;rw[ua]at a
 cases hx:h[x]? with
 |none=>rw[hx]at a;cases a
 |some y=>
  rw[hx]at a;simp only[jI,iH]at a;split at a
  .rw[<-a]
  .rw[<-a]at e;cases e
theorem KI(H)(ops)(A):bY (vF H ops A) A.h/\(vF H ops A).length=A.h.length:=by
 unfold vF;split
 .exact Ec _ _
 .exact Bq _ _
theorem I5(H)(ops)(A):bY (nh H ops A) (pQ H ops A).h:=by
 intro x o a e;obtain⟨j,l⟩:=KI H ops A;unfold nh at a;show (A.h++_)[x]?=_;rcases cx x A.h.length with i|i
 .rw[bp (by omega)]at a;rw[bp i];exact j x o a e
 .rw[cG (by omega)]at a;have:=aG a;simp only[cX]at this;obtain⟨_,_,rfl⟩:=this;cases e
theorem G0{α β}(f:α->β)(a b)(l):(DT a b l).map f=DT a b (l.map f):=by
 unfold DT;rw[dp];split
 .simp[List.map_take,List.map_drop]
 .rfl
theorem M5{α}(a b)(l:List α):(DT a b l).Perm l:=by
 unfold DT;split
 .rename_i h;have e:l=l.take a++((l.drop a).take 1++((l.drop (a+1)).take (b-a)++l.drop (b+1))):=by
   have q:(l.drop (a+1)).take (b-a)++l.drop (b+1)=l.drop (a+1):=by
    have o:l.drop (b+1)=(l.drop (a+1)).drop (b-a):=by rw[qe];congr 1;omega
    rw[o];exact mE _ _
   rw[q];have j:(l.drop a).take 1++l.drop (a+1)=l.drop a:=by
    have i:l.drop (a+1)=(l.drop a).drop 1:=by rw[qe]
    rw[i];exact mE _ _
   rw[j];exact(mE _ _).symm
  refine List.Perm.trans ?_ (List.Perm.of_eq e.symm);rw[dJ,dJ];refine List.Perm.append_left _ ?_;rw[<-dJ,<-dJ];exact List.Perm.append_right _ List.perm_append_comm
 .exact .refl _
theorem Ku(H)(n):(s6 H n).Perm (List.range n):=by
 unfold s6;split
 .exact M5 _ _ _
 .exact .refl _
theorem Px(H)(ops:Array Oper):(s6 H ops.size).map (λi=>ops[i]?)=(xd H ops.toList).map some:=by
 have base:(List.range ops.size).map (λi=>ops[i]?)=ops.toList.map some:=by
  apply mD;intro i;rw[cW,cW];have e:ops.toList[i]?=ops[i]?:=by simp
  rw[e];rcases cx i ops.size with h|h
  .have a:(List.range ops.size)[i]?=some i:=by simp[h]
   rw[a,Rw h];simp[h]
  .have a:(List.range ops.size)[i]?=none:=lC (by simpa using h);rw[a,xM h];rfl
 unfold s6 xd;split
 .rw[G0,base,G0]
 .exact base
theorem Rel.drew{m}{A}{a}{w}(e:Rel P M0 S0 b cs0 m A a w):Rel P M0 S0 b cs0 m A a { w with drawn:=w.drawn+1 }:=
 e.ahead (Ev.drew _ ⟨m,A.h,w⟩) (HOk.drew e.hok)
theorem PY(E:P.follows .mixedOrders=true):dI P:=by
 intro M0 S0 b cs0 m A a w H ops Q n id k F hok C D h;have l:yr H ops (Region.before ops) (s6 H ops.size)=true/\(s6 H ops.size).length=ops.size:=by
  unfold Ew at hok;simp only[dQ,decide_eq_true_eq]at hok;exact⟨hok.2,hok.1.2⟩
 have i:=Ku H ops.size;have q:=Ny (s6 H ops.size) _ (Array.replicate ops.size false) _ _ (Px H ops) (i.nodup_iff.2 List.nodup_range) ⟨by simp,λj=>by
   rw[i.mem_iff,xQ,ji];by_cases u:j<ops.size
   .simp[u]
   .simp[u]⟩ (λj o u G e I J=>by
   exfalso;rw[ji]at u;by_cases v:j<ops.size
   .simp[v]at u
   .simp[v]at u) l.1 h
 rw[l.2]at q;obtain⟨m',y⟩:=C.resv (ri H ops.toList);have z:=stepR_region_draw (P:=P) (b:=b) (a:=a) (k:=k) (cs:=bu A.rc cs0) (w:=w) (ops:=ops) (id:=id);refine qS.of_steps (.one z) ?_;simp only[Region.schedule,E,sC,if_true];exact QU (A:=pQ H ops.toList A) F ops.size _ _ _ (I5 H ops.toList A) y.drew D q
end Abs
end Go.Proofs.YtmndpldajflenaaGreatDoor
