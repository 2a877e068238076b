/- CONTRACTS of functions and laws. No conditions but those in the heads. -/
import Derived.Test.YtgafommgcfhkkaaGreatDoorAbsStepX
import Derived.Orders
import Derived.Test.YtgafommgcfhkkaaGreatDoorProg
set_option linter.all false
namespace Go.Proofs.YtgafommgcfhkkaaGreatDoor
namespace Abs
variable {P:Program} {H:Hints} {ops:Array Oper} {Q:Ex->AAct->Prop}
def nR{mu}{e e'}{h}(o)(he:∀x∈o.op.operands,e x=e' x):cv P mu o e h=cv P mu o e' h:=by
 obtain⟨dst,op,type,pos,after,guard⟩:=o;have pairs:∀ps:Array (Nat×Operand),(∀x∈ps.map (·.2),e x=e' x)->(ps.toList.map λq=>(q.1,e q.2))=(ps.toList.map λq=>(q.1,e' q.2)):=λps hp=>
  MC λq hm=>by
   grind
 have lists:∀xs:Array Operand,(∀x∈xs,e x=e' x)->xs.toList.map e=xs.toList.map e':=λxs hp=>
  MC λx hm=>hp x (MB.1 hm)
 cases op<;>simp only[Op.operands]at he<;>simp only[cv]
 case build t ps=>rw[pairs ps λx hx=>he x (by simp_all)]
 case buildSlice t n ps=>rw[pairs ps λx hx=>he x (by simp_all)]
 case makeFunc fn first cap=>grind
 case slice t x lo hi mx=>
  have h0:e x=e' x:=he x (by simp);have h1:lo.map e=lo.map e':=by cases lo with|none=>rfl|some y=>grind
  have h2:hi.map e=hi.map e':=by cases hi with|none=>rfl|some y=>grind
  have h3:mx.map e=mx.map e':=by cases mx with|none=>rfl|some y=>grind
  grind
 case call c=>
  have ha:c.args.toList.map e=c.args.toList.map e':=lists c.args λx hx=>he x (by simp[Call.operands,hx])
  cases hc:c.callee with
  |value f=>simp only[ha,he f (by simp[Call.operands,hc])]
  |builtin b=>simp only[ha]
  |invoke r mm=>rfl
 case defer c=>
  have ha:c.args.toList.map e=c.args.toList.map e':=lists c.args λx hx=>he x (by simp[Call.operands,hx])
  cases hc:c.callee with
  |value f=>simp only[ha,he f (by simp[Call.operands,hc])]
  |builtin b=>rfl
  |invoke r mm=>rfl
 case makeMap t r=>
  cases r with
  |none=>rfl
  |some y=>rfl
 all_goals grind
def SM{A:AAct}{dst}{v}{h}{x}(hx:∀d,dst=some d->x≠.tmp d):(A.put dst v h).eval x=A.eval x:=by
 cases dst with
 |none=>rfl
 |some d=>
  cases x with
  |tmp t=>
   have:t≠d:=λe=>hx d rfl (e▸rfl)
   simp[AAct.put,AAct.eval,xW,this]
  |_=>rfl
def mN{A}{dst}{v}{h}{o}(u:∀d,dst=some d->d∉o.looksAt ops):bU ops (A.put dst v h) o=bU ops A o:=by
 cases dst with
 |none=>rfl
 |some d=>
  unfold bU
  cases q:o.guard with
  |none=>rfl
  |some y=>
   obtain⟨g,j⟩:=y;simp only;unfold s6
   cases l:(ops[g]?).bind (·.dst) with
   |none=>rfl
   |some t=>
    have i:t≠d:=λe=>u d rfl (by subst e;simp[Oper.looksAt,q,l]);simp[AAct.put,xW,i]
def HN(A:AAct){x y}(v u)(i l z)(h:∀d,x=some d->y≠some d):(A.put x v i).put y u l=(A.put y u z).put x v l:=by
 cases x with
 |none=>cases y<;>rfl
 |some d=>
  cases y with
  |none=>rfl
  |some e=>
   have j:d≠e:=λq=>h d rfl (q▸rfl);simp only[AAct.put,AAct.mk.injEq,true_and,and_true];grind[xW]
def dr.refl(h):dr h h:=λ_ _ e _=>e
def dr.trans{a b c}(h:dr a b)(k:dr b c):dr a c:=λid o e i=>k id o (h id o e i) i
def dr.app(h u):dr h (h++u):=λid o e _=>by
 grind
def vw{h u}(e:dr h u){id sz:Nat}{xs}(i:h[id]?=some (.row sz xs)):u[id]?=some (.row sz xs):=e id _ i rfl
def uS{h u}(i:dr h u){id e sz}(j:jh h id e=some sz):jh u id e=some sz:=by
 obtain⟨xs,q,l⟩:=nE j;simp[jh,vw i q,l]
def fY (F:Heap->OR) (h u:Heap):Prop:=(∀v,F h=.val v h->F u=.val v u)/\∀f a,F h=.call f a->F u=.call f a
def fY.const{F}{h u}(k:(∃v,∀h,F h=.val v h)\/(∃f a,∀h,F h=.call f a)\/((∀v,F h≠.val v h)/\∀f a,F h≠.call f a)):fY F h u:=by
 grind[fY]
def aV{h}{X:AV->Prop}{Y:FuncId->List AV->Prop}:(∀v,OR.stuck=OR.val v h->X v)/\∀f a,OR.stuck=OR.call f a->Y f a:=
 ⟨λ_ e=>(by cases e),λ_ _ e=>(by cases e)⟩
def vk(v)(h u):fY (λh=>jY h v) h u:=by
 cases v with
 |none=>simp[fY,jY]
 |some v=>simp[fY,jY]
def tE(v)(h u):fY (λh=>uR h v) h u:=by
 cases v with
 |none=>simp[fY,uR]
 |some v=>simp[fY,uR]
def bz(h u):fY (λ_=>.stuck) h u:=.const (.inr (.inr ⟨λv=>by simp,λf a=>by simp⟩))
def ce(v)(h u):fY (λh=>.val v h) h u:=.const (.inl ⟨v,λ_=>rfl⟩)
def Sa(T)(x)(h u)(j:dr h u):fY (qo P T x) h u:=by
 cases x with
 |p q=>
  cases q with
  |ptr sz xs i o=>
   show fY (λh=>match xs[i]? with|some v=>jY h (m6 P T (.p v) o)|none=>.stuck) h u
   cases xs[i]? with
   |none=>exact bz h u
   |some v=>exact vk _ h u
  |_=>exact bz h u
 |ptr id l i o=>
  unfold fY qo;dsimp only
  cases e:h[id]? with
  |none=>exact aV
  |some ob=>
   cases ob with
   |row sz xs=>
    rw[vw j e];dsimp only;split
    .cases xs[i]? with
     |none=>exact aV
     |some v=>exact vk _ h u
    .exact aV
   |_=>exact aV
 |_=>exact bz h u
def HQ{id i}{v}(h u)(j:dr h u):fY (λh=>match jh h id i with|some _=>.val v h|none=>.stuck) h u:=by
 unfold fY;dsimp only
 cases l:jh h id i with
 |none=>exact aV
 |some sz=>rw[uS j l];simp
def Gn(T)(x)(f)(h u)(j:dr h u):fY (oe P T x f) h u:=by
 unfold oe
 cases tO P T f with
 |none=>exact bz h u
 |some q=>
  obtain⟨off,t⟩:=q;dsimp only
  cases du P t with
  |none=>exact bz h u
  |some n=>
   dsimp only;by_cases e:n=0
   .simp only[e,if_true];exact bz h u
   .simp only[e,if_false]
    cases x with
    |p q=>cases q<;>first|exact ce _ h u|exact bz h u
    |ptr id l i o=>exact HQ h u j
    |_=>exact bz h u
def Pr(T)(x)(f)(h u):fY (vN P T x f) h u:=by
 unfold vN
 cases tO P T f with
 |none=>exact bz h u
 |some q=>
  obtain⟨off,t⟩:=q
  cases x with
  |p q=>cases q<;>first|exact vk _ h u|exact bz h u
  |agg cs=>exact vk _ h u
  |_=>exact bz h u
def eu{c}[Decidable c]{F}{h u}(k:fY F h u):fY (λh=>if c then F h else .stuck) h u:=by
 grind[fY]
def Gm(T)(x y)(h u)(A:dr h u):fY (jL P T x y) h u:=by
 cases y with
 |p C=>
  cases C with
  |int k i=>
   cases x with
   |p q=>
    cases q with
    |slice sz xs full=>
     grind[fY,jL]
    |ptr sz xs j o=>
     unfold fY jL;dsimp only
     cases ik P T with
     |none=>exact aV
     |some q=>
      obtain⟨n,e⟩:=q;dsimp only
      cases du P e with
      |none=>exact aV
      |some s=>grind
    |_=>exact bz h u
   |slice id l off len=>
    unfold fY jL;dsimp only
    cases bM P T with
    |none=>exact aV
    |some e=>
     cases v:h[id]? with
     |none=>exact aV
     |some ob=>
      cases ob with
      |row sz xs=>
       rw[vw A v]
       grind
      |_=>exact aV
   |ptr id l j o=>
    unfold fY jL;dsimp only
    cases ik P T with
    |none=>exact aV
    |some q=>
     obtain⟨n,e⟩:=q;dsimp only
     cases du P e with
     |none=>exact aV
     |some s=>
      cases D:jh h id l with
      |none=>exact aV
      |some z=>rw[uS A D];grind
   |_=>exact bz h u
  |_=>exact bz h u
 |_=>exact bz h u
def MY(T)(x k)(ok)(h u)(j:dr h u):fY (td P T x k ok) h u:=by
 unfold fY td
 cases Bm P T with
 |none=>exact aV
 |some q=>
  obtain⟨K,E⟩:=q
  cases x with
  |ref t id=>
   cases t with
   |mp=>
    cases k with
    |p k=>
     dsimp only
     cases e:h[id]? with
     |none=>exact aV
     |some ob=>
      cases ob with
      |mp es=>
       rw[j id _ e rfl]
       cases bW P E with
       |none=>exact aV
       |some z=>
        dsimp only;by_cases i:wW P K k=true
        .simp only[if_pos i]
         cases nD k es with
         |none=>exact aV
         |some r=>cases r<;>exact ce _ h u
        grind
      |_=>exact aV
    |_=>exact aV
   |_=>exact aV
  |_=>exact aV
def Pq(T)(x j)(h u):fY (zw P T x j) h u:=by
 have agg:∀(x:AV) (i:Int),fY (λh=>match ik P T with
   |some (n,e)=>match du P e with|some s=>if 0<=i/\i<n then jY h (m6 P e x (i.toNat*s)) else .stuck|none=>.stuck
   |none=>.stuck) h u:=by
  intro x i
  cases ik P T with
  |none=>exact bz h u
  |some q=>
   obtain⟨n,e⟩:=q;dsimp only
   cases du P e with
   |none=>exact bz h u
   |some s=>exact eu (vk _ h u)
 cases j with
 |p l=>
  cases l with
  |int k i=>
   cases x with
   |p q=>
    cases q with
    |str s=>
     grind[fY,zw]
    |agg cs=>exact agg _ i
    |_=>exact bz h u
   |agg cs=>exact agg _ i
   |_=>exact bz h u
  |_=>exact bz h u
 |_=>exact bz h u
def Po(T)(x)(lo hi v)(h u)(y:dr h u):fY (vM P T x lo hi v) h u:=by
 unfold fY vM
 cases oU lo with
 |none=>exact aV
 |some l=>
  cases oU hi with
  |none=>exact aV
  |some r=>
   cases oU v with
   |none=>exact aV
   |some m=>
    cases x with
    |p q=>
     cases q with
     |slice sz xs full=>
      dsimp only
      cases bM P T with
      |none=>exact aV
      |some e=>
       cases oW l r xs.length with
       |none=>exact aV
       |some i=>
        grind
     |str s=>
      dsimp only
      cases oW l r s.size with
      |none=>exact aV
      |some i=>
       cases m with
       |none=>grind
       |some m=>exact aV
     |nilslice=>
      dsimp only
      cases bM P T with
      |none=>exact aV
      |some e=>
       cases oW l r 0 with
       |none=>exact aV
       |some i=>
        cases m with
        |none=>grind
        |some m=>exact aV
     |_=>exact aV
    |slice id z off len=>
     dsimp only
     cases bM P T with
     |none=>exact aV
     |some e=>
      cases j:h[id]? with
      |none=>exact aV
      |some ob=>
       cases ob with
       |row sz xs=>
        rw[vw y j]
        cases oW l r len with
        |none=>
         cases m with
         |none=>grind
         |some m=>grind
        |some i=>
         cases m with
         |none=>grind
         |some m=>grind
       |_=>exact aV
    |_=>exact aV
def U8(T)(x)(h u)(i:dr h u):fY (BN P T x) h u:=by
 cases x with
 |p q=>
  cases q with
  |str s=>grind[fY,BN]
  |slice sz xs full=>grind[fY,BN]
  |nilslice=>grind[fY,BN]
  |agg cs=>
   grind[fY,BN]
  |_=>exact bz h u
 |slice id e off len=>
  unfold fY BN;dsimp only
  cases j:jh h id e with
  |none=>simp
  |some z=>rw[uS i j];grind
 |_=>exact bz h u
def U9(op)(T)(c)(x y)(h u):fY (EL P op T c x y) h u:=by
 unfold EL;split
 .split
  .exact tE _ h u
  .split
   .exact tE _ h u
   .exact bz h u
 .exact tE _ h u
 .split
  .exact tE _ h u
  .exact tE _ h u
  .exact bz h u
def XI(op)(x)(h u):fY (Mg op x) h u:=by
 unfold Mg;split
 .simp[fY]
 .simp[fY]
 .exact bz h u
def Kl(a b)(x)(h u):fY (qX P a b x) h u:=by
 unfold qX;split
 .split
  .simp[fY]
  .exact bz h u
 .grind[fY,fW]
 .rename_i y ys full
  cases e:rM (y::ys) with
  |some ns=>exact eu (ce _ h u)
  |none=>exact eu (bz h u)
 .exact bz h u
def Kk(x)(i)(h u):fY (qW x i) h u:=by
 unfold qW;split
 .split
  .simp[fY]
  .exact bz h u
 .split
  .simp[fY]
  .exact bz h u
 .exact bz h u
def Pt(T)(ps)(h u):fY (vO P T ps) h u:=by
 unfold vO;split
 .split
  .split
   .exact ce _ h u
   .exact bz h u
  .split
   .split
    .split
     .exact ce _ h u
     .exact bz h u
    .exact bz h u
   .exact bz h u
 .exact bz h u
def DX(T)(mu)(n)(ps)(h u):fY (mQ P T mu n ps) h u:=by
 unfold fY mQ
 cases bM P T with
 |none=>exact aV
 |some e=>
  dsimp only
  cases du P e with
  |none=>exact aV
  |some sz=>
   dsimp only
   cases tY 0 sz ps with
   |none=>exact aV
   |some xs=>
    dsimp only;by_cases i:xs.length=n/\sz≠0/\n*sz<=16777216/\pw P e sz=true
    .simp only[i,and_self,not_false_eq_true,ne_eq,if_true]
     cases mu with
     |false=>
      cases iP xs with
      |some l=>simp
      |none=>simp
     |true=>simp
    grind
def MZ(f)(args)(h u):fY (λ_=>ip f args) h u:=by
 refine⟨λv e=>?_,λf a e=>e⟩;dsimp only at e;unfold ip at e;grind
def DW(A)(ok)(x)(h u):fY (mO P A ok x) h u:=by
 unfold fY mO;split
 .split
  .simp
  grind
 .exact aV
def Pp{mu}{o}(e)(l:fX o.op=true)(h u)(j:dr h u):fY (cv P mu o e) h u:=by
 obtain⟨dst,op,A,pos,v,q⟩:=o;cases op<;>first|(simp only[fX,fD]at l;done)|skip
 case move x=>exact ce _ h u
 case assign x=>exact ce _ h u
 case pick c a b=>
  unfold fY cv;dsimp only;split
  .exact ce _ h u
  .exact aV
 case build t ps=>exact Pt _ _ h u
 case buildSlice t n ps=>exact DX _ _ _ _ h u
 case load t a=>exact Sa _ _ h u j
 case nilCheck x=>
  unfold fY cv;dsimp only;split
  .simp
  .exact HQ h u j
  .exact aV
 case binOp op t x y ty=>exact U9 _ _ _ _ _ h u
 case unOp op t x=>exact XI _ _ h u
 case convert a b x=>exact Kl _ _ _ h u
 case makeInterface t x=>
  unfold fY cv;grind
 case makeFunc f a c=>grind[fY,cv]
 case slice t x lo hi mx=>exact Po _ _ _ _ _ h u j
 case fieldAddr t x f=>exact Gn _ _ _ h u j
 case field t x f=>exact Pr _ _ _ h u
 case indexAddr t x i=>exact Gm _ _ _ h u j
 case index t x i=>exact Pq _ _ _ h u
 case extract x i=>exact Kk _ _ h u
 case lookup t x k ok=>exact MY _ _ _ _ h u j
 case typeAssert x t a ok=>exact DW _ _ _ h u
 case call c=>
  unfold fY cv;dsimp only
  cases z:c.callee with
  |value f=>exact MZ _ _ h u
  |invoke r C=>simp
  |builtin b=>
   dsimp only;cases b<;>first|(simp[fX,z]at l;done)|skip
   all_goals
    unfold tZ;split
    .exact eu (U8 _ _ h u j)
    .simp_all
    .simp
    .simp
    .simp_all
    .simp_all
    .simp_all
    .exact aV
variable {P:Program} {H:Hints} {ops:Array Oper} {Q:Ex->AAct->Prop}
def fS (P:Program) (H:Hints) (ops:Array Oper) (Q:Ex->AAct->Prop) (o:Oper) (K:Heap->AAct->Prop) (hs:Heap) (A:AAct):Prop:=
 ui (λ_=>Yt
   (λ_=>mZ P A o.dst (λB=>K B.h B) Q (cv P (bd H) o A.eval A.h))
   (λ_=>EJ A.h (λv h=>K hs (A.put o.dst v h)) (cv P (bd H) o A.eval A.h))
   (λ_=>Ap P A.h (λv=>K hs (A.put o.dst v A.h)) (cv P (bd H) o A.eval A.h))
   (λ_=>Ap P hs (λv=>K hs (A.put o.dst v A.h)) (cv P (bd H) o A.eval hs))
   (λj sz=>uk hs A.h j sz (λv h=>K hs (A.put o.dst v h)) (je P A.eval o.op))
   (λ_=>x3 P hs A.h A.eval (λh=>K hs (A.put o.dst (.p (.tuple [])) h)) o.op)
   (λ_=>yt P A.h A.eval (K hs (A.put o.dst (.p (.tuple [])) A.h)) o.op)
   (λ_=>BK hs A.h (λv h=>K hs (A.put o.dst v h)) (cv P (bd H) o A.eval A.h))
   (λ_=>A4 P Q A (λv=>K hs (A.put o.dst v A.h)) (cv P (bd H) o A.eval A.h))
   (λ_=>tR P H Q hs A (λv h=>K hs (A.put o.dst v h)) (cv P (bd H) o A.eval A.h))
   (cr H o))
  (λ_=>K hs (A.put o.dst (.p (.tuple [])) A.h)) (bU ops A o)
def J'(o)(rest)(e)(A):cp P H ops Q (o::rest) e A=fS P H ops Q o (cp P H ops Q rest) e A:=by
 rw[cp];rfl
inductive HE where
 |app (t:Heap)
 |set (id:Nat) (o:AObj)
def HE.ap:HE->Heap->Heap
 |.app t,h=>h++t
 |.set id o,h=>h.set id o
def Qv (P:Program) (h:Heap) (r:OR) (v:AV):Prop:=
 r=.val v h\/∃f args,r=.call f args/\∀h',dr h h'->aw P f args h' (λr h''=>r=.ret v/\h''=h')
def J0 (P:Program) (H:Hints) (o:Oper) (hs:Heap) (v:AV) (E:HE) (A:AAct):Prop:=
 ∃j sz z,cr H o=.slot j sz/\je P A.eval o.op=some z/\z.cells.map (·.length)=some sz/\j9 hs (hs.length-1-j)=true/\A.h[hs.length-1-j]?=some (.row sz []) /\
  v=.ptr (hs.length-1-j) 1 0 0/\E=.set (hs.length-1-j) (.row sz [z])
def Uw (P:Program) (H:Hints) (o:Oper) (hs:Heap) (v:AV) (E:HE) (A:AAct):Prop:=
 cr H o=.sto/\∃T a x id ver i k ob,o.op=.store T a x/\A.eval a=.ptr id ver i k/\j9 hs id=true/\iZ P T (.ptr id ver i k) (A.eval x) A.h=.skip (A.h.set id ob)/\v=.p (.tuple [])/\E=.set id ob
def Uy (P:Program) (H:Hints) (o:Oper) (v:AV) (E:HE) (A:AAct):Prop:=
 cr H o=.nop/\v=.p (.tuple [])/\E=.app []/\∃T a x,o.op=.store T a x/\iZ P T (A.eval a) (A.eval x) A.h=.skip A.h
def UD (P:Program) (H:Hints) (o:Oper) (hs:Heap) (v:AV) (E:HE) (A:AAct):Prop:=
 ∃t,cr H o=.app t/\((∃l,E=.app l)\/∃id ob,E=.set id ob/\j9 hs id=true)/\cv P (bd H) o A.eval A.h=.val v (E.ap A.h)
def Ux (P:Program) (H:Hints) (o:Oper) (v:AV) (E:HE) (A:AAct):Prop:=
 cr H o=.thr/\E=.app []/\∃f args,cv P (bd H) o A.eval A.h=.call f args/\∀h',dr A.h h'->aw P f args h' (λr h''=>r=.ret v/\h''=h')
def TS (P:Program) (H:Hints) (ops:Array Oper) (Q:Ex->AAct->Prop) (o:Oper) (A:AAct):Prop:=
 bU ops A o=some true/\cr H o=.thr/\∃f args v,cv P (bd H) o A.eval A.h=.call f args/\aw P f args A.h (λr h''=>r=.panic v/\h''=A.h)/\∀T,Q (.panic v) { A with tmps:=T }
def QS (P:Program) (H:Hints) (ops:Array Oper) (o:Oper) (hs:Heap) (v:AV) (E:HE) (A:AAct):Prop:=
 (bU ops A o=some false/\v=.p (.tuple [])/\E=.app []) \/
 (bU ops A o=some true /\
  ((cr H o=.quiet/\E=.app []/\Qv P A.h (cv P (bd H) o A.eval A.h) v) \/
   (cr H o=.low/\E=.app []/\Qv P hs (cv P (bd H) o A.eval hs) v) \/
   (cr H o=.alloc/\∃t,E=.app t/\cv P (bd H) o A.eval A.h=.val v (A.h++t)) \/
   J0 P H o hs v E A\/Uw P H o hs v E A\/Uy P H o v E A\/UD P H o hs v E A\/Ux P H o v E A))
def Oo{T}{id j i k}{y}{h h'}(e:iZ P T (.ptr id j i k) y h=.skip h'):∃ob,h'=h.set id ob:=by
 unfold iZ at e;split at e
 .grind
 .cases e
def s2{h}{K}{r}:Ap P h K r↔∃v,Qv P h r v/\K v:=by
 constructor
 .intro k;cases r<;>first|exact k.elim|skip
  case val v h'=>obtain⟨rfl,k⟩:=k;grind[Qv]
  case call f args=>obtain⟨v,k1,e⟩:=k;grind[Qv]
 grind[Qv,Ap]
def mG{o}{K}{u}{A}{v}{E}(q:QS P H ops o u v E A)(k:K u (A.put o.dst v (E.ap A.h))):fS P H ops Q o K u A:=by
 unfold fS;rcases q with⟨hw,rfl,rfl⟩|⟨hw,q⟩
 .rw[hw];refine⟨λh=>(by cases h),λ_=>?_⟩;simpa[HE.ap]using k
 .rw[hw];refine⟨λ_=>?_,λh=>(by cases h)⟩;rcases q with⟨e,rfl,q⟩|⟨e,rfl,q⟩|⟨e,t,rfl,q⟩|⟨j,sz,z,e,C,y,G,F,rfl,rfl⟩|⟨e,T,a,x,id,D,i,M,ob,C,y,G,F,rfl,rfl⟩|⟨e,rfl,rfl,T,a,x,C,y⟩|⟨t,e,L,I⟩|⟨e,rfl,f,args,C,y⟩
  .rw[e];exact s2.2 ⟨v,q,by simpa[HE.ap]using k⟩
  .rw[e];exact s2.2 ⟨v,q,by simpa[HE.ap]using k⟩
  .rw[e,q];exact⟨⟨t,rfl⟩,k⟩
  .rw[e];refine(show uk u A.h j sz (λv h=>K u (A.put o.dst v h)) (je P A.eval o.op) from ?_);rw[C];exact⟨y,G,F,k⟩
  .rw[e];refine(show x3 P u A.h A.eval (λh=>K u (A.put o.dst (.p (.tuple [])) h)) o.op from ?_);rw[C];show (match A.eval a with|.ptr id D i o=>j9 u id=true/\sy _ (iZ P T (.ptr id D i o) (A.eval x) A.h)|_=>False);rw[y];refine⟨G,?_⟩;rw[F];exact k
  .rw[e];refine(show yt P A.h A.eval (K u (A.put o.dst (.p (.tuple [])) A.h)) o.op from ?_);rw[C];exact⟨y,by simpa[HE.ap]using k⟩
  .rw[e,I];refine⟨?_,k⟩;grind[G5,HE.ap]
  .rw[e,C];exact .inl ⟨v,y,by simpa[HE.ap]using k⟩
def uL{o}{K}{e}{A}(q:TS P H ops Q o A):fS P H ops Q o K e A:=by
 obtain⟨hw,i,f,args,v,u,l,j⟩:=q;unfold fS;rw[hw];refine⟨λ_=>?_,λh=>(by cases h)⟩;rw[i,u];exact .inr ⟨v,l,j⟩
def pL{o}{K}{e}{A}(l:cr H o=.thr)(k:fS P H ops Q o K e A) :
  (∃v E,QS P H ops o e v E A/\K e (A.put o.dst v (E.ap A.h)))\/TS P H ops Q o A:=by
 unfold fS at k
 cases hw:bU ops A o with
 |none=>rw[hw]at k;exact k.elim
 |some b=>
  rw[hw]at k
  cases b with
  |false=>exact .inl ⟨_,.app [],.inl ⟨hw,rfl,rfl⟩,by simpa[HE.ap]using k.2 rfl⟩
  |true=>
   have k1:=k.1 rfl;rw[l]at k1;have i:A4 P Q A (λv=>K e (A.put o.dst v A.h)) (cv P (bd H) o A.eval A.h):=k1;cases j:cv P (bd H) o A.eval A.h<;>rw[j]at i<;>first|exact i.elim|skip
   rename_i f args;rcases i with⟨v,u,q⟩|⟨v,u,q⟩
   .exact .inl ⟨v,.app [],.inr ⟨hw,.inr (.inr (.inr (.inr (.inr (.inr (.inr ⟨l,rfl,f,args,j,u⟩))))))⟩,by simpa[HE.ap]using q⟩
   .exact .inr ⟨hw,l,f,args,v,j,u,q⟩
def QD{j}{A}{K K'}{r}(l:∀v h,K v h->K' v h)(k:tR P H Q j A K r):tR P H Q j A K' r:=by
 cases r<;>first|exact k.elim|skip
 intro M0 m w e y u;obtain⟨C,z⟩:=k M0 m w e y u;refine⟨C,z.mono λ_ _ q=>?_⟩;obtain⟨r,h',m',i,rest⟩:=q;exact⟨r,h',m',by cases r<;>first|grind[Ej,dr,Ng]|exact i,rest⟩
def qg{o}{K}{e}{A}(i:cr H o=.cal)(k:fS P H ops Q o K e A) :
  (∃v E,QS P H ops o e v E A/\K e (A.put o.dst v (E.ap A.h)))\/(bU ops A o=some true/\tR P H Q e A (λv h=>K e (A.put o.dst v h)) (cv P (bd H) o A.eval A.h)):=by
 unfold fS at k
 cases hw:bU ops A o with
 |none=>rw[hw]at k;exact k.elim
 |some b=>
  rw[hw]at k
  cases b with
  |false=>exact .inl ⟨_,.app [],.inl ⟨hw,rfl,rfl⟩,by simpa[HE.ap]using k.2 rfl⟩
  |true=>
   have k1:=k.1 rfl;rw[i]at k1;exact .inr ⟨rfl,k1⟩
def x4{o}{K}{e}{A}(i:cr H o=.cal)(hw:bU ops A o=some true)(k:tR P H Q e A (λv h=>K e (A.put o.dst v h)) (cv P (bd H) o A.eval A.h)):fS P H ops Q o K e A:=by
 unfold fS;rw[hw];refine⟨λ_=>?_,λh=>(by cases h)⟩;rw[i];exact k
def rh{o}{K}{C}{A}(y:(cr H o≠.bar/\cr H o≠.thr/\cr H o≠.cal)\/bU ops A o=some false)(k:fS P H ops Q o K C A) :
  ∃v E,QS P H ops o C v E A/\K C (A.put o.dst v (E.ap A.h)):=by
 unfold fS at k
 cases hw:bU ops A o with
 |none=>rw[hw]at k;exact k.elim
 |some b=>
  rw[hw]at k
  cases b with
  |false=>exact⟨_,.app [],.inl ⟨hw,rfl,rfl⟩,by simpa[HE.ap]using k.2 rfl⟩
  |true=>
   have k1:=k.1 rfl
   cases u:cr H o with
   |bar=>
    grind
   |thr=>
    grind
   |cal=>
    grind
   |alloc=>
    rw[u]at k1;cases G:cv P (bd H) o A.eval A.h<;>rw[G]at k1<;>first|exact k1.elim|skip
    rename_i v h';obtain⟨⟨t,rfl⟩,e⟩:=k1
    exact⟨v,.app t,.inr ⟨hw,.inr (.inr (.inl ⟨u,t,rfl,G⟩))⟩,e⟩
   |quiet=>
    rw[u]at k1;obtain⟨v,q,e⟩:=s2.1 k1
    exact⟨v,.app [],.inr ⟨hw,.inl ⟨u,rfl,q⟩⟩,by simpa[HE.ap]using e⟩
   |low=>
    rw[u]at k1;obtain⟨v,q,e⟩:=s2.1 k1
    exact⟨v,.app [],.inr ⟨hw,.inr (.inl ⟨u,rfl,q⟩)⟩,by simpa[HE.ap]using e⟩
   |slot j sz=>
    rw[u]at k1;have e:uk C A.h j sz (λv h=>K C (A.put o.dst v h)) (je P A.eval o.op):=k1
    cases J:je P A.eval o.op with
    |none=>rw[J]at e;exact e.elim
    |some z=>
     rw[J]at e;obtain⟨L,U,S,D⟩:=e
     exact⟨_,.set _ _,.inr ⟨hw,.inr (.inr (.inr (.inl ⟨j,sz,z,u,J,L,U,S,rfl,rfl⟩)))⟩,D⟩
   |sto=>
    rw[u]at k1;have e:x3 P C A.h A.eval (λh=>K C (A.put o.dst (.p (.tuple [])) h)) o.op:=k1;unfold x3 at e;split at e
    .rename_i T a x F;split at e
     .rename_i id M i N R;obtain⟨L,D⟩:=e;unfold sy at D;split at D
      .rename_i h' I;obtain⟨ob,rfl⟩:=Oo I;exact⟨_,.set id ob,.inr ⟨hw,.inr (.inr (.inr (.inr (.inl ⟨u,T,a,x,id,M,i,N,ob,F,R,L,I,rfl,rfl⟩))))⟩,D⟩
      .exact D.elim
     .exact e.elim
    .exact e.elim
   |nop=>
    rw[u]at k1;have e:yt P A.h A.eval (K C (A.put o.dst (.p (.tuple [])) A.h)) o.op:=k1;unfold yt at e;split at e
    .rename_i T a x F;exact⟨_,.app [],.inr ⟨hw,.inr (.inr (.inr (.inr (.inr (.inl ⟨u,rfl,rfl,T,a,x,F,e.1⟩)))))⟩,by simpa[HE.ap]using e.2⟩
    .exact e.elim
   |app t=>
    rw[u]at k1;have e:BK C A.h (λv h=>K C (A.put o.dst v h)) (cv P (bd H) o A.eval A.h):=k1;cases G:cv P (bd H) o A.eval A.h<;>rw[G]at e<;>first|exact e.elim|skip
    rename_i v h';obtain⟨⟨l,rfl⟩|⟨id,ob,rfl,O⟩,D⟩:=e
    .exact⟨v,.app l,.inr ⟨hw,.inr (.inr (.inr (.inr (.inr (.inr (.inl ⟨t,u,.inl ⟨l,rfl⟩,G⟩))))))⟩,D⟩
    .exact⟨v,.set id ob,.inr ⟨hw,.inr (.inr (.inr (.inr (.inr (.inr (.inl ⟨t,u,.inr ⟨id,ob,rfl,O⟩,G⟩))))))⟩,D⟩
def qI{A}{dst}{K K'}{r}(h:∀B,K B->K' B)(k:mZ P A dst K Q r):mZ P A dst K' Q r:=by
 cases r with
 |val v h'=>exact h _ k
 |skip h'=>exact h _ k
 |call f args=>
  intro M0 m w i z y;obtain⟨D,C⟩:=k M0 m w i z y;refine⟨D,C.mono λ_ _ G=>?_⟩;obtain⟨r,h',m',u,rest⟩:=G
  exact⟨r,h',m',by cases r<;>first|exact h _ u|exact u,rest⟩
 |yld l args=>
  refine⟨k.1,λM0 m w i bl z y E=>?_⟩;obtain⟨f,tmps,J,I,D,C⟩:=k.2 M0 m w i bl z y E;refine⟨f,tmps,J,I,D,λc cs=>?_⟩;obtain⟨e,w',⟨r,h',m',u,rest⟩,F⟩:=C c cs
  exact⟨e,w',⟨r,h',m',by cases r<;>first|exact h _ u|exact u,rest⟩,F⟩
 |dfr d=>
  simp only[mZ]at k |-;have j:∀{X Y:Prop} {c:Rc},(X->Y)->xg X c->xg Y c:=λhx q=>by
   rename_i c;cases c<;>first|grind[xg]|exact hx q
  grind
 |recover=>
  simp only[mZ]at k |-;have j:∀{X Y:AAct->PV->Prop} {c:Rc},(∀B v,X B v->Y B v)->R6 A X c->R6 A Y c:=λhx q=>by
   rename_i c;cases c<;>first|grind[R6]|exact hx _ _ q
  grind
 |panic v=>exact k
 |stuck=>exact k
def Cc{o}{K K'}{i}{A}(h:∀i A,K i A->K' i A)(k:fS P H ops Q o K i A):fS P H ops Q o K' i A:=by
 by_cases u:cr H o=.thr
 .rcases pL u k with⟨v,E,q,k1⟩|q
  .exact mG q (h _ _ k1)
  .exact uL q
 by_cases e:cr H o=.cal
 .rcases qg e k with⟨v,E,q,k1⟩|⟨hw,k1⟩
  .exact mG q (h _ _ k1)
  .exact x4 e hw (QD (λv h' z=>h _ _ z) k1)
 by_cases l:cr H o≠.bar\/bU ops A o=some false
 .obtain⟨v,E,q,k1⟩:=rh (l.imp (λh=>⟨h,u,e⟩) id) k;exact mG q (h _ _ k1)
 .have j:cr H o=.bar:=Classical.byContradiction λy=>l (.inl y);unfold fS at k |-
  cases hw:bU ops A o with
  |none=>rw[hw]at k;exact k.elim
  |some b=>
   rw[hw,j]at k;rw[j]
   cases b with
   |false=>grind
   |true=>
    have k1:mZ P A o.dst (λB=>K B.h B) Q (cv P (bd H) o A.eval A.h):=k.1 rfl;exact⟨λ_=>qI (K':=λB=>K' B.h B) (λB=>h B.h B) k1,λh=>(by cases h)⟩
def NG{o}(h:cr H o=.quiet):fX o.op=true:=by
 unfold cr at h;split at h
 .unfold wn at h;grind
 grind
def SR{o}(h:cr H o=.low):fX o.op=true:=by
 unfold cr at h;split at h
 .unfold wn at h;grind
 grind
def Qs{o}{j sz}(h:cr H o=.slot j sz):Bt o.op=true:=by
 unfold cr at h;split at h
 .unfold wn at h;grind
 grind
def se{e j}{o:Oper}(l:∀x∈o.op.operands,e x=j x):je P e o.op=je P j o.op:=by
 unfold je;split
 .rfl
 .rename_i T x i;rw[l x (by rw[i];simp[Op.operands])]
 .rfl
def n8{A:AAct}{dst}{v}{h}{o:Oper}(j:∀d,dst=some d->d∉o.looksAt ops):∀x∈o.op.operands,(A.put dst v h).eval x=A.eval x:=by
 intro x hx;refine SM λd i e=>j d i ?_;subst e;exact List.mem_append_left _ (List.mem_filterMap.2 ⟨.tmp d,by grind,rfl⟩)
def QS.same{o}{G}{v}{E}{A B}(q:QS P H ops o G v E A)(hw:bU ops B o=bU ops A o)(j:∀x∈o.op.operands,B.eval x=A.eval x)(hh:B.h=A.h):QS P H ops o G v E B:=by
 have F:∀h,cv P (bd H) o B.eval h=cv P (bd H) o A.eval h:=λh=>nR o j;unfold QS J0 Uw Uy UD Ux at *
 rw[hw,hh,se j];simp only[F];rcases q with q|⟨e,q|q|q|q|⟨y,T,a,x,id,D,i,I,ob,u,C,l,z,J⟩|⟨y,u,C,T,a,x,l,z⟩|q⟩
 .exact .inl q
 .grind
 .grind
 .grind
 .grind
 .refine .inr ⟨e,.inr (.inr (.inr (.inr (.inl ⟨y,T,a,x,id,D,i,I,ob,u,?_,l,?_,J⟩))))⟩
  .rw[j a (by rw[u];simp[Op.operands])];exact C
  .rw[j x (by rw[u];simp[Op.operands])];exact z
 .refine .inr ⟨e,.inr (.inr (.inr (.inr (.inr (.inl ⟨y,u,C,T,a,x,l,?_⟩)))))⟩;rw[j a (by rw[l];simp[Op.operands]),j x (by rw[l];simp[Op.operands])];exact z
 grind
def VY{o C}{D}{v}{E}{A}{K}(hp:rI H ops o C=true)(q:QS P H ops o D v E A)
  (k:fS P H ops Q C K D (A.put o.dst v (E.ap A.h))):fS P H ops Q C (λN S=>QS P H ops o N v E S/\K N (S.put o.dst v (E.ap S.h))) D A:=by
 unfold rI at hp;simp only[eI]at hp;obtain⟨i,d0,a7⟩:=hp;obtain⟨a1,a2,a3⟩:=Oper.apart_spec d0;have c9:cr H C≠.bar:=by
  intro hb;have b4:∀c,nw c .bar=false:=by intro c;cases c<;>rfl
  rw[hb,b4]at i;simp[sJ]at i
 by_cases U:cr H C=.cal/\bU ops (A.put o.dst v (E.ap A.h)) C=some true
 .obtain⟨U,b6⟩:=U;have b0:cr H o=.low:=by
   rw[U]at i;cases y:cr H o<;>rw[y]at i<;>first|rfl|(simp[nw,zU,sJ]at i)
  have O:E=.app []/\∀S,bU ops S o=bU ops A o->(∀x∈o.op.operands,S.eval x=A.eval x)->QS P H ops o D v E S:=by
   rcases q with⟨hw,hv,O⟩|⟨hw,⟨l,_⟩|⟨l,O,Y⟩|⟨l,_⟩|⟨_,_,_,l,_⟩|⟨l,_⟩|⟨l,_⟩|⟨_,l,_⟩|⟨l,_⟩⟩
   .grind[bU,AAct.eval,QS]
   .grind
   .refine⟨O,λS h1 h2=>.inr ⟨h1.trans hw,.inr (.inl ⟨l,O,?_⟩)⟩⟩;rw[nR o h2];exact Y
   all_goals grind
  obtain⟨rfl,c5⟩:=O;rcases qg U k with⟨v',G,X,k'⟩|⟨_,kc⟩
  .rcases X with⟨J,_⟩|⟨_,⟨l,_⟩|⟨l,_⟩|⟨l,_⟩|⟨_,_,_,l,_⟩|⟨l,_⟩|⟨l,_⟩|⟨_,l,_⟩|⟨l,_⟩⟩
   .grind
   all_goals grind
  .have e1:(A.put o.dst v (HE.ap (.app []) A.h)).h=A.h:=by rw[kC];simp[HE.ap]
   have e2:cv P (bd H) C (A.put o.dst v (HE.ap (.app []) A.h)).eval A.h=cv P (bd H) C A.eval A.h:=nR C (n8 a1);refine x4 U ((mN a1).symm.trans b6) ?_;rw[e1,e2]at kc;cases hr:cv P (bd H) C A.eval A.h<;>rw[hr]at kc<;>first|exact kc.elim|skip
   rename_i f args;have c2:aw P f args A.h (Ej (λu h=>dr D h/\K D ((A.put o.dst v (HE.ap (.app []) A.h)).put C.dst u h)) (λu h=>∀T,Ng H T (A.put o.dst v (HE.ap (.app []) A.h)).tmps->Q (.panic u) { A.put o.dst v (HE.ap (.app []) A.h) with tmps:=T,h:=h })):=by
    have:aw P f args (A.put o.dst v (HE.ap (.app []) A.h)).h (Ej (λu h=>dr D h/\K D ((A.put o.dst v (HE.ap (.app []) A.h)).put C.dst u h)) (λu h=>∀T,Ng H T (A.put o.dst v (HE.ap (.app []) A.h)).tmps->Q (.panic u) { A.put o.dst v (HE.ap (.app []) A.h) with tmps:=T,h:=h })):=kc;rw[e1]at this;exact this
   intro M0 m w b5 hS ha;obtain⟨h1,h2⟩:=c2 M0 m w b5 hS ha;refine⟨h1,h2.mono λ_ _ hb=>?_⟩;obtain⟨r,h',m',hR,rest⟩:=hb;refine⟨r,h',m',?_,rest⟩
   cases r with
   |ret u=>
    refine⟨hR.1,c5 _ (mN a3) (n8 a3),?_⟩;have e3:HE.ap (.app []) (A.put C.dst u h').h=h':=by rw[kC];simp[HE.ap]
    rw[e3,<-HN A v u (HE.ap (.app []) A.h) h' h' a2]
    exact hR.2
   |panic u=>
    intro T hT;have:=hR T (λt ht=>by
     rw[hT t ht];unfold Un at a7;rw[U]at a7
     cases hd:o.dst with
     |none=>rfl
     |some d=>
      rw[hd]at a7;have a0:t≠d:=by
       rintro rfl
       simp[ht]at a7
      simp[AAct.put,xW,a0])
    have e:({ A.put o.dst v (HE.ap (.app []) A.h) with tmps:=T,h:=h' }:AAct)={ A with tmps:=T,h:=h' }:=by
     cases o.dst<;>simp[AAct.put]
    grind
 have b2:(∃v' G,QS P H ops C D v' G (A.put o.dst v (E.ap A.h))/\K D ((A.put o.dst v (E.ap A.h)).put C.dst v' (G.ap (A.put o.dst v (E.ap A.h)).h)))\/(TS P H ops Q C (A.put o.dst v (E.ap A.h))/\E=.app []):=by
  by_cases ht:cr H C=.thr
  .rcases pL ht k with h|h
   .exact .inl h
   .refine .inr ⟨h,?_⟩;rw[ht]at i;rcases q with⟨_,_,h⟩|⟨_,⟨_,h,_⟩|⟨_,h,_⟩|⟨l,_⟩|⟨_,_,_,l,_⟩|⟨l,_⟩|⟨l,_⟩|⟨_,l,_⟩|⟨l,_⟩⟩
    .exact h
    .exact h
    .exact h
    all_goals (rw[l]at i;simp[nw,zU,sJ]at i)
  .by_cases a6:cr H C=.cal
   .rcases qg a6 k with h|⟨h,_⟩
    .exact .inl h
    grind
   .exact .inl (rh (.inl ⟨c9,ht,a6⟩) k)
 rcases b2 with⟨v',G,X,k'⟩|⟨⟨tw,tc,f,args,u,t1,t2,t3⟩,rfl⟩
 rotate_left
 .refine uL ⟨(mN a1).symm.trans tw,tc,f,args,u,?_,?_,λT=>?_⟩
  .rw[<-t1,kC];simp only[HE.ap,bI];exact(nR C (n8 a1)).symm
  .rw[kC]at t2;simpa[HE.ap]using t2
  .have:=t3 T;have e:({ A.put o.dst v (HE.ap (.app []) A.h) with tmps:=T }:AAct)={ A with tmps:=T }:=by
    cases o.dst<;>simp[AAct.put,HE.ap]
   grind
 have a5:(A.put o.dst v (E.ap A.h)).h=E.ap A.h:=kC _ _ _ _;have R:(A.put C.dst v' (G.ap A.h)).h=G.ap A.h:=kC _ _ _ _;have ee:∀x∈C.op.operands,(A.put o.dst v (E.ap A.h)).eval x=A.eval x:=n8 a1;have ew:bU ops (A.put o.dst v (E.ap A.h)) C=bU ops A C:=mN a1;have b1:∀x∈o.op.operands,(A.put C.dst v' (G.ap A.h)).eval x=A.eval x:=n8 a3;have a4:bU ops (A.put C.dst v' (G.ap A.h)) o=bU ops A o:=mN a3;have c6:∀h,cv P (bd H) C (A.put o.dst v (E.ap A.h)).eval h=cv P (bd H) C A.eval h:=λh=>nR C ee;have a9:∀h,cv P (bd H) o (A.put C.dst v' (G.ap A.h)).eval h=cv P (bd H) o A.eval h:=λh=>nR o b1
 have V:QS P H ops C D v' G A->QS P H ops o D v E (A.put C.dst v' (G.ap A.h))->E.ap (G.ap A.h)=G.ap (E.ap A.h) ->
   fS P H ops Q C (λN S=>QS P H ops o N v E S/\K N (S.put o.dst v (E.ap S.h))) D A:=by
  intro qA qB d1;refine mG qA ⟨qB,?_⟩;rw[R];rw[a5]at k';have:(A.put C.dst v' (G.ap A.h)).put o.dst v (E.ap (G.ap A.h))=(A.put o.dst v (E.ap A.h)).put C.dst v' (G.ap (E.ap A.h)):=by
   rw[d1];exact(HN A v v' _ _ _ a2).symm
  rw[this];exact k'
 have M:E=.app []->QS P H ops C D v' G A:=λO=>by
  refine X.same ew.symm (λx hx=>(ee x hx).symm) ?_;rw[a5,O];simp[HE.ap]
 have I:G=.app []->QS P H ops o D v E (A.put C.dst v' (G.ap A.h)):=λO=>by
  refine q.same a4 b1 ?_;rw[R,O];simp[HE.ap]
 have F:(bU ops A C=some false/\v'=.p (.tuple [])/\G=.app [])\/(bU ops A C=some true/\cr H C=.low/\G=.app []/\Qv P D (cv P (bd H) C A.eval D) v') ->
   fS P H ops Q C (λN S=>QS P H ops o N v E S/\K N (S.put o.dst v (E.ap S.h))) D A:=by
  rintro(⟨hw,hv,O⟩|⟨hw,y,O,Y⟩)
  .grind[fS,QS,AAct.put,HE.ap]
  .grind[fS,QS,AAct.put,HE.ap]
 have q0:=X;unfold QS at X;rw[ew]at X;simp only[c6]at X;have q1:=q;rcases q with⟨hw,rfl,rfl⟩|⟨hw,⟨y,rfl,Y⟩|⟨y,rfl,Y⟩|⟨y,t,rfl,Y⟩|c4|c3|c7|b9|b7⟩
 .grind[fS,QS,AAct.put,HE.ap]
 .have b8:∃t',G=.app t':=by
   rcases X with⟨_,_,h⟩|⟨_,⟨_,h,_⟩|⟨_,h,_⟩|⟨_,t',h,_⟩|⟨_,_,_,l,_⟩|⟨l,_⟩|⟨_,_,h,_⟩|⟨_,l,_⟩|⟨l,L,_⟩⟩
   .grind
   .grind
   .grind
   .grind
   .rw[y,l]at i;cases i
   .rw[y,l]at i;cases i
   .grind
   .rw[y,l]at i;cases i
   .grind
  obtain⟨t',rfl⟩:=b8;refine V (M rfl) (.inr ⟨a4.trans hw,.inl ⟨y,rfl,?_⟩⟩) (by simp[HE.ap]);rw[R,a9];have a8:=Pp (P:=P) (mu:=bd H) (o:=o) A.eval (NG y) A.h (A.h++t') (dr.app _ _);rcases Y with Y|⟨f,args,Y,b3⟩
  .exact .inl (a8.1 _ Y)
  .exact .inr ⟨f,args,a8.2 _ _ Y,λh' N=>b3 h' ((dr.app _ _).trans N)⟩
 .grind[fS,QS,AAct.put,HE.ap]
 .rcases X with h|⟨J,⟨l,_⟩|h|⟨l,_⟩|⟨_,_,_,l,_⟩|⟨l,_⟩|⟨l,_⟩|⟨_,l,_⟩|⟨l,L,_⟩⟩
  .grind
  .rw[y,l]at i;cases i
  .grind
  .rw[y,l]at i;cases i
  .rw[y,l]at i;cases i
  .rw[y,l]at i;cases i
  .rw[y,l]at i;cases i
  .rw[y,l]at i;cases i
  .rw[y,l]at i;cases i
 .obtain⟨j,sz,z,y,h1,h2,h3,h4,rfl,rfl⟩:=c4;rcases X with h|⟨J,⟨l,_⟩|h|⟨l,_⟩|⟨j',Z,z',l,g1,g2,g3,g4,rfl,rfl⟩|⟨l,_⟩|⟨l,_⟩|⟨_,l,_⟩|⟨l,L,_⟩⟩
  .grind
  .rw[y,l]at i;cases i
  .grind
  .rw[y,l]at i;cases i
  .rw[a5]at g4;have a0:D.length-1-j≠D.length-1-j':=by
    intro e;have c8:=(aC.1 h4).1;have g5:(A.h.set (D.length-1-j) (.row sz [z]))[D.length-1-j']?=some (.row Z []):=g4;rw[<-e,jp c8]at g5;cases g5
   have g5:A.h[D.length-1-j']?=some (.row Z []):=by
    have:(A.h.set (D.length-1-j) (.row sz [z]))[D.length-1-j']?=some (.row Z []):=g4;rwa [eS a0]at this
   refine V (.inr ⟨J,.inr (.inr (.inr (.inl ⟨j',Z,z',l,?_,g2,g3,g5,rfl,rfl⟩)))⟩) (.inr ⟨a4.trans hw,.inr (.inr (.inr (.inl ⟨j,sz,z,y,?_,h2,h3,?_,rfl,rfl⟩)))⟩) ?_
   .rw[<-se ee];exact g1
   .rw[se b1];exact h1
   .grind[AAct.put,HE.ap]
   .exact List.set_comm _ _ (Ne.symm a0)
  .rw[y,l]at i;cases i
  .rw[y,l]at i;cases i
  .rw[y,l]at i;cases i
  .rw[y,l]at i;cases i
 .have y:=c3.1;rcases X with h|⟨J,⟨l,_⟩|h|⟨l,_⟩|⟨_,_,_,l,_⟩|⟨l,_⟩|⟨l,_⟩|⟨_,l,_⟩|⟨l,L,_⟩⟩
  .grind
  .rw[y,l]at i;cases i
  .grind
  .rw[y,l]at i;cases i
  .rw[y,l]at i;cases i
  .rw[y,l]at i;cases i
  .rw[y,l]at i;cases i
  .rw[y,l]at i;cases i
  .rw[y,l]at i;cases i
 .obtain⟨y,rfl,rfl,T,a,x,h1,h2⟩:=c7;have L:G=.app []:=by
   rcases X with⟨_,_,h⟩|⟨_,⟨_,h,_⟩|⟨_,h,_⟩|⟨l,_⟩|⟨_,_,_,l,_⟩|⟨l,_⟩|⟨_,_,h,_⟩|⟨_,l,_⟩|⟨l,_,_⟩⟩
   .exact h
   .exact h
   .exact h
   .rw[y,l]at i;cases i
   .rw[y,l]at i;cases i
   .rw[y,l]at i;cases i
   .exact h
   .rw[y,l]at i;cases i
   .omega
  grind
 .obtain⟨t,y,_⟩:=b9;rcases X with h|⟨J,⟨l,_⟩|h|⟨l,_⟩|⟨_,_,_,l,_⟩|⟨l,_⟩|⟨l,_⟩|⟨_,l,_⟩|⟨l,L,_⟩⟩
  .grind
  .rw[y,l]at i;cases i
  .grind
  all_goals (rw[y,l]at i;cases i)
 .obtain⟨y,rfl,d2⟩:=b7;have L:G=.app []:=by
   rcases X with⟨_,_,h⟩|⟨_,⟨_,h,_⟩|⟨_,h,_⟩|⟨l,_⟩|⟨_,_,_,l,_⟩|⟨l,_⟩|⟨_,_,h,_⟩|⟨_,l,_⟩|⟨_,h,_⟩⟩
   .exact h
   .exact h
   .exact h
   .rw[y,l]at i;simp[nw,sJ]at i
   .rw[y,l]at i;simp[nw,sJ]at i
   .rw[y,l]at i;simp[nw,sJ]at i
   .exact h
   .rw[y,l]at i;simp[nw,sJ]at i
   .exact h
  grind
variable {P:Program} {H:Hints} {ops:Array Oper} {Q:Ex->AAct->Prop}
def xv (acc:Array Nat) (o:Oper):Array Nat:=acc.push (o.after.foldl (λs e=>if Region.binds .any e then s||| 2^e.on||| acc.getD e.on 0 else s) 0)
def th (p:List Oper) (acc:Array Nat):Prop:=
 acc.size=p.length/\∀j i,(acc.getD j 0).testBit i=true->∃o,p[j]?=some o/\∃e,e∈o.after/\Region.binds .any e=true/\(i=e.on\/(e.on<j/\(acc.getD e.on 0).testBit i=true))
def C4(j:Array Nat)(i):∀(l:List Edge) (s),(l.foldl (λs e=>if Region.binds .any e then s||| 2^e.on||| j.getD e.on 0 else s) s).testBit i=true ->
  s.testBit i=true\/∃e,e∈l/\Region.binds .any e=true/\(i=e.on\/(j.getD e.on 0).testBit i=true)
 |[],s,h=>.inl h
 |e::l,s,h=>by
  simp only[pD]at h;rcases C4 j i l _ h with h|⟨y,v,u⟩
  .grind
  grind
def Rh{p}{l}(h:th p l)(o):th (p++[o]) (xv l o):=by
 obtain⟨E,J⟩:=h;refine⟨by simp[xv,E],λj i v=>?_⟩;have low:∀k,k<l.size->(xv l o).getD k 0=l.getD k 0:=by
  intro k G;simp[xv,ku,Xl,zF G]
 rcases GO j l.size with q|D|K
 .rw[low j q]at v;obtain⟨F,C,e,A,u,y⟩:=J j i v;grind
 .subst D;refine⟨o,by rw[E];simp,?_⟩;have z:(o.after.foldl (λs e=>if Region.binds .any e then s||| 2^e.on||| l.getD e.on 0 else s) 0).testBit i=true:=by
   simpa[xv,ku]using v
  rw[<-OJ]at z;rcases C4 l i _ _ z with h|⟨e,C,A,u⟩
  .simp at h
  grind
 grind[xv]
def AQ(ops):th ops.toList (Region.before ops):=by
 have q:∀(l p:List Oper) (e:Array Nat),th p e->th (p++l) (l.foldl xv e):=by
  intro l
  induction l with
  |nil=>simp
  |cons o l v=>
   intro p e h;have:=v (p++[o]) _ (Rh h o);grind
 have y:th [] #[]:=⟨rfl,λj i h=>by simp at h⟩
 have:=q ops.toList [] #[] y;have u:Region.before ops=ops.toList.foldl xv #[]:=by
  unfold Region.before;rw[<-OJ];rfl
 grind
def BS (ops:Array Oper) (ax:Array Bool):Prop:=
 ∀j o,ax.getD j false=true->ops[j]?=some o->∀e,e∈o.after->Region.binds .any e=true->ax.getD e.on false=true
def xu{ax}(J:BS ops ax):∀(j i) (o),ops[j]?=some o->(∀e,e∈o.after->Region.binds .any e=true->ax.getD e.on false=true) ->
  JD (Region.before ops) i j=true->ax.getD i false=true:=by
 intro j
 induction j using Nat.strongRecOn with
 |_ j E=>
  intro i o F l I;obtain⟨D,L,e,C,A,y⟩:=(AQ ops).2 j i I;have q:ops[j]?=some D:=by simpa using L
  rw[F]at q;cases q;rcases y with rfl|⟨y,z⟩
  .exact l e C A
  .have G:=l e C A;obtain⟨v,K,_⟩:=(AQ ops).2 e.on i z;have u:ops[e.on]?=some v:=by simpa using K
   exact E e.on y i v u (J e.on v G u) z
def BS.set{ax}(C:BS ops ax){i}(hi:i∈Region.ready .any ops ax):BS ops (ax.setIfInBounds i true):=by
 intro j o y v e z A;obtain⟨E,D,l,u⟩:=mem_ready.1 hi;by_cases q:j=i
 .subst q;rw[v]at l;cases l;exact getD_set_true (u e z A)
 .rw[getD_set_ne false (Ne.symm q)]at y;exact getD_set_true (C j o y v e z A)
def BT (P:Program) (H:Hints) (ops:Array Oper) (Q:Ex->AAct->Prop):Nat->Array Bool->Heap->AAct->Prop
 |0,ax,_,A=>Region.ready .any ops ax=[]/\Q .normal A
 |fuel+1,ax,hs,A=>
  (Region.ready .any ops ax=[]->Q .normal A) /\
  ∀i∈Region.ready .any ops ax,∀o,ops[i]?=some o->fS P H ops Q o (BT P H ops Q fuel (ax.setIfInBounds i true)) hs A
def tg (H:Hints) (ops:Array Oper) (ax:Array Bool) (i:Nat) (oi:Oper):Prop:=∀j o,j≠i->ax.getD j true=false->ops[j]?=some o->JD (Region.before ops) i j=true\/rI H ops oi o=true
def tg.set{H}{ops}{ax}{i}{q}(h:tg H ops ax i q)(j):tg H ops (ax.setIfInBounds j true) i q:=by
 intro x o l hx u;by_cases e:j=x
 .simp_all
 .rw[getD_set_ne true e]at hx;exact h x o l hx u
def Gc{i}{C}{v}{E}(hi:ops[i]?=some C) :
  ∀(fuel) (ax) (D) (A),BS ops ax->tg H ops ax i C->i∈Region.ready .any ops ax->QS P H ops C D v E A ->
   BT P H ops Q fuel (ax.setIfInBounds i true) D (A.put C.dst v (E.ap A.h))->BT P H ops Q (fuel+1) ax D A:=by
 intro fuel
 induction fuel with
 |zero=>
  intro ax D A _ _ y q k;refine⟨λh=>(by grind),λj F o u=>?_⟩;by_cases l:j=i
  .subst l;rw[hi]at u;cases u;exact mG q k
  .have:=ready_mono F l;grind[fS,BT]
 |succ fuel S=>
  intro ax D A L M y q k;refine⟨λh=>(by grind),λj F o u=>?_⟩;by_cases l:j=i
  .subst l;rw[hi]at u;cases u;exact mG q k
  .have X:=k.2 j (ready_mono F l) o u;obtain⟨I,Z,G,J⟩:=mem_ready.1 F;rw[u]at G;cases G;have T:rI H ops C o=true:=by
    rcases M j o l I u with h|h
    .have z:=xu L j i o u (λe U V=>J e U V) h;have N:=(mem_ready.1 y).1;grind
    .exact h
   have z:=VY T q X;refine Cc ?_ z
   rintro K Y ⟨O,R⟩
   refine S (ax.setIfInBounds j true) K Y (L.set F) (M.set j) (ready_mono y (Ne.symm l)) O ?_;rw[Array.setIfInBounds_comm _ _ l];exact R
def EW (ax:Array Bool):Nat:=ax.toList.countP (·==false)
def DL{ax}{j}(h:ax.getD j true=false):EW (ax.setIfInBounds j true)+1=EW ax:=by
 have i:ax[j]?=some false:=by
  rw[ku]at h
  cases e:ax[j]? with
  |none=>grind
  |some b=>grind
 grind[EW]
def UO{ax}{j}(h:ax.getD j true=false):0<EW ax:=by
 have:=DL h;omega
def Qo{o}{K}{l}{A}(u:wY o=true)(q:sJ (cr H o)=true)(k:∀v,K l (A.put o.dst v A.h)):fS P H ops Q o K l A:=by
 have i:cr H o=.quiet:=by cases i:cr H o<;>rw[i]at q<;>first|rfl|cases q
 obtain⟨dst,op,ty,pos,j,e⟩:=o;unfold fS
 cases e with
 |some g=>simp[wY]at u
 |none=>
  refine⟨λ_=>?_,λh=>(by cases h)⟩;rw[i];cases op<;>simp only[wY,fD]at u
  .exact⟨rfl,k _⟩
  .exact⟨rfl,k _⟩
def TS.put{o j:Oper}{A}(q:TS P H ops Q o A)(i:∀d,j.dst=some d->d∉o.looksAt ops)(v):TS P H ops Q o (A.put j.dst v A.h):=by
 obtain⟨l,y,f,args,u,D,C,z⟩:=q;refine⟨(mN i).trans l,y,f,args,u,?_,?_,λT=>?_⟩
 .rw[<-D,kC];exact nR o (n8 i)
 .rw[kC];exact C
 .have e:({ A.put j.dst v A.h with tmps:=T }:AAct)={ A with tmps:=T }:=by
   cases j.dst<;>simp[AAct.put]
  grind
def Tw{i}{G}(hi:ops[i]?=some G) :
  ∀(fuel) (ax) (I) (A),EW ax<=fuel->BS ops ax->tg H ops ax i G->i∈Region.ready .any ops ax->TS P H ops Q G A->BT P H ops Q fuel ax I A:=by
 intro fuel
 induction fuel with
 |zero=>
  intro ax I A T _ _ z _;have:=UO (mem_ready.1 z).1
  omega
 |succ fuel S=>
  intro ax I A T N O z q;refine⟨λh=>(by grind),λj M o C=>?_⟩;by_cases y:j=i
  .subst y;rw[hi]at C;cases C;exact uL q
  .obtain⟨u,Y,D,F⟩:=mem_ready.1 M;rw[C]at D;cases D;have K:rI H ops G o=true:=by
    rcases O j o y u C with h|h
    .have J:=xu N j i o C (λe U V=>F e U V) h;have R:=(mem_ready.1 z).1;grind
    .exact h
   unfold rI at K;simp only[eI]at K;obtain⟨l,L,_⟩:=K;obtain⟨a1,Z,X⟩:=Oper.apart_spec L;have E:∀c,nw .thr c=false:=by intro c;cases c<;>rfl
   rw[q.2.1,E]at l;simp only[zU,oo,o0,eI]at l;refine Qo l.1 l.2 λv=>?_;refine S (ax.setIfInBounds j true) I _ ?_ (N.set M) (O.set j) (ready_mono z (Ne.symm y)) (q.put X v);have:=DL u;omega
def Zh (ops:Array Oper) (l:List Nat) (ax:Array Bool):Prop:=ax.size=ops.size/\∀j,ax.getD j true=false↔j∈l
def HG{l}{ax:Array Bool}{i}(q:i∉l)(h:∀j,ax.getD j true=false↔j∈i::l)(j):(ax.setIfInBounds i true).getD j true=false↔j∈l:=by
 by_cases e:i=j
 .simp_all
 simp_all;omega
def Hl:∀(l:List Nat) (ax),l.Nodup->(∀j,ax.getD j true=false↔j∈l)->EW ax<=l.length
 |[],ax,_,h=>by
  rcases q9 (EW ax) with e|e
  .omega
  .exfalso;unfold EW at e;obtain⟨b,z,u⟩:=List.countP_pos_iff.1 (show 0<List.countP (λx=>x==false) ax.toList from e);obtain⟨j,y⟩:=fN z;have q:b=false:=by simpa using u
   subst q;have:=(h j).1 (by simp_all)
   cases this
 |i::l,ax,v,h=>by
  have hi:ax.getD i true=false:=(h i).2 (by simp);have:=DL hi;have A:=Hl l (ax.setIfInBounds i true) (GS.1 v).2 (HG (GS.1 v).1 h);rw[bc];omega
def SO:∀(l) (os) (ax) (J) (A),l.map (λi=>ops[i]?)=os.map some->l.Nodup->Zh ops l ax->BS ops ax->Cv H ops (Region.before ops) l=true ->
  cp P H ops Q os J A->BT P H ops Q l.length ax J A:=by
 intro l
 induction l with
 |nil=>
  intro os ax J A K U D T hok h;have:os=[]:=by cases os<;>simp_all
  subst this;refine⟨?_,h⟩;refine List.eq_nil_iff_forall_not_mem.2 λj V=>?_;obtain⟨L,_⟩:=mem_ready.1 V
  exact absurd ((D.2 j).1 L) (by simp)
 |cons i l ih=>
  intro os ax J A K U D T hok h
  cases os with
  |nil=>simp at K
  |cons o rest=>
   simp only[bf,List.cons.injEq]at K;obtain⟨y,K⟩:=K;obtain⟨a3,a1⟩:=GS.1 U;rw[Cv,y]at hok;simp only[eI]at hok;obtain⟨⟨R,O⟩,Y⟩:=hok;have I:ax.getD i true=false:=(D.2 i).2 (by simp);have Z:i<ops.size:=(xC.1 y).1;have S:i∈Region.ready .any ops ax:=by
    refine mem_ready.2 ⟨I,o,y,λe K hb=>?_⟩;have:=(Array.all_eq_true_iff_forall_mem.1 R) e K;simp only[hb,Bool.not_true,oo,eI,decide_eq_true_eq,DG]at this;obtain⟨L,h2⟩:=this;have F:¬ax.getD e.on true=false:=λh'=>by
     have G:=(D.2 _).1 h';grind
    have G:e.on<ax.size:=by rw[D.1];exact L
    rw[ku,Xn G]at F |-;simpa using F
   have hB:tg H ops ax i o:=by
    intro j oj N V u;have M:=(D.2 j).1 V;rcases br.1 M with rfl|M
    .omega
    have:=kl.1 O j M;rw[u]at this;simp only[eI,RC]at this;exact this.2
   have a4:Zh ops l (ax.setIfInBounds i true):=⟨by simp[D.1],HG a3 D.2⟩
   have a5:=T.set S;rw[J']at h;have h':fS P H ops Q o (BT P H ops Q l.length (ax.setIfInBounds i true)) J A:=Cc (λJ A hk=>ih rest _ J A K a1 a4 a5 Y hk) h;by_cases ht:cr H o=.thr
   .rcases pL ht h' with⟨v,E,q,k⟩|q
    .exact Gc y _ _ _ A T hB S q k
    .exact Tw y _ _ J A (Hl (i::l) ax U D.2) T hB S q
   by_cases hb:(cr H o≠.bar/\cr H o≠.cal)\/bU ops A o=some false
   .obtain⟨v,E,q,k⟩:=rh (hb.imp (λh=>⟨h.1,ht,h.2⟩) id) h';exact Gc y _ _ _ A T hB S q k
   .have z:cr H o=.bar\/cr H o=.cal:=by
     by_cases L:cr H o=.bar
     .exact .inl L
     .grind
    refine⟨λh0=>?_,λj V oj u=>?_⟩
    .grind
    .have N:j=i:=by
      obtain⟨L,o',X,a0⟩:=mem_ready.1 V;rw[u]at X;cases X;refine Classical.byContradiction λa2=>?_;rcases hB j oj a2 L u with F|F
      .have G:=xu T j i oj u a0 F;grind
      .have C:∀c,nw .bar c=false/\nw .cal c=false:=by intro c;cases c<;>exact⟨rfl,rfl⟩
       unfold rI at F;rcases z with z|z
       .rw[z,(C _).1]at F;simp[zU]at F
       .rw[z,(C _).2]at F;simp[zU]at F
     grind
variable {M0:Nat->Prop} {S0:Mem} {b:Frame} {cs0:List Frame}
def A6{i h}(hx:dr i h){id}(j:j9 i id=true)(ob):dr i (h.set id ob):=by
 intro x o l q;by_cases e:id=x
 .subst e;unfold j9 at j;rw[l]at j;cases o<;>first|(cases j;done)|(cases q;done)
 .rw[eS e];exact hx x o l q
def RX{o}{K}{y}{A}(hx:dr y A.h)(k:fS P H ops Q o K y A) :
  (bU ops A o=some false/\K y (A.put o.dst (.p (.tuple [])) A.h)) \/
  (bU ops A o=some true/\mZ P A o.dst (λB=>∃C,dr C B.h/\K C B) Q (cv P (bd H) o A.eval A.h)) \/
  (bU ops A o=some true/\∃v E,J0 P H o y v E A/\dr y (E.ap A.h)/\K y (A.put o.dst v (E.ap A.h))):=by
 have O:(∃v E,QS P H ops o y v E A/\K y (A.put o.dst v (E.ap A.h)))\/TS P H ops Q o A\/(cr H o=.cal/\bU ops A o=some true/\tR P H Q y A (λv h=>K y (A.put o.dst v h)) (cv P (bd H) o A.eval A.h))\/¬(cr H o≠.bar\/bU ops A o=some false):=by
  by_cases ht:cr H o=.thr
  .rcases pL ht k with h|h
   .exact .inl h
   grind
  .by_cases J:cr H o=.cal
   .rcases qg J k with h|h
    .exact .inl h
    grind
   .by_cases D:cr H o≠.bar\/bU ops A o=some false
    .exact .inl (rh (D.imp (λh=>⟨h,ht,J⟩) id) k)
    grind
 rcases O with⟨v,E,q,k1⟩|⟨tw,tc,f,args,u,t1,t2,t3⟩|⟨J,hw,V⟩|D
 .have N:∀(r:OR),Qv P A.h r v->K y (A.put o.dst v A.h)->mZ P A o.dst (λB=>∃C,dr C B.h/\K C B) Q r:=by
   intro r X hk;rcases X with rfl|⟨f,args,rfl,F⟩
   .exact⟨y,by rw[kC];exact hx,hk⟩
   .have:=F A.h (dr.refl _);intro M0 m w e U S;obtain⟨I,G⟩:=this M0 m w e U S;refine⟨I,G.mono λ_ _ D=>?_⟩;obtain⟨r,h',m',⟨rfl,rfl⟩,rest⟩:=D;exact⟨.ret v,_,m',⟨y,by rw[kC];exact hx,hk⟩,rest⟩
  rcases q with⟨hw,rfl,rfl⟩|⟨hw,⟨F,rfl,q⟩|⟨F,rfl,q⟩|⟨F,t,rfl,q⟩|q|⟨F,T,a,x,id,a1,i,kk,ob,I,G,Z,h4,rfl,rfl⟩|⟨F,rfl,rfl,T,a,x,I,G⟩|⟨t,F,hE,hq⟩|⟨F,rfl,f,args,g1,g2⟩⟩
  .exact .inl ⟨hw,by simpa[HE.ap]using k1⟩
  .exact .inr (.inl ⟨hw,N _ q (by simpa[HE.ap]using k1)⟩)
  .refine .inr (.inl ⟨hw,N _ ?_ (by simpa[HE.ap]using k1)⟩);have L:=Pp (P:=P) (mu:=bd H) (o:=o) A.eval (SR F) y A.h hx;rcases q with q|⟨f,args,q,R⟩
   .exact .inl (L.1 _ q)
   .exact .inr ⟨f,args,L.2 _ _ q,λh' C=>R h' (hx.trans C)⟩
  .refine .inr (.inl ⟨hw,?_⟩);rw[q];exact⟨y,by rw[kC];grind[dr],k1⟩
  .refine .inr (.inr ⟨hw,v,E,q,?_,k1⟩);obtain⟨j,sz,z,F,I,G,Z,h4,rfl,rfl⟩:=q;exact A6 hx Z _
  .refine .inr (.inl ⟨hw,?_⟩);have M:cv P (bd H) o A.eval A.h=.skip (A.h.set id ob):=by
    unfold cv;rw[I];show iZ P T (A.eval a) (A.eval x) A.h=_;rw[G];exact h4
   rw[M];exact⟨y,by rw[kC];exact A6 hx Z _,k1⟩
  .refine .inr (.inl ⟨hw,?_⟩);have M:cv P (bd H) o A.eval A.h=.skip A.h:=by
    unfold cv;rw[I];exact G
   rw[M];exact⟨y,by rw[kC];exact hx,by simpa[HE.ap]using k1⟩
  .refine .inr (.inl ⟨hw,?_⟩);rw[hq];refine⟨y,?_,k1⟩;rw[kC];rcases hE with⟨l,rfl⟩|⟨id,ob,rfl,hd⟩
   .grind[dr,HE.ap]
   .exact A6 hx hd _
  .exact .inr (.inl ⟨hw,N _ (.inr ⟨f,args,g1,g2⟩) (by simpa[HE.ap]using k1)⟩)
 .refine .inr (.inl ⟨tw,?_⟩);rw[t1];intro M0 m w e U S;obtain⟨I,G⟩:=t2 M0 m w e U S;refine⟨I,G.mono λ_ _ D=>?_⟩;grind[uc,Ej,dr,AAct.put]
 .refine .inr (.inl ⟨hw,?_⟩);cases X:cv P (bd H) o A.eval A.h<;>rw[X]at V<;>first|exact V.elim|skip
  intro M0 m w e U S;obtain⟨I,G⟩:=V M0 m w e U S;refine⟨I,G.mono λ_ _ D=>?_⟩;obtain⟨r,h',m',Y,rest⟩:=D
  exact⟨r,h',m',by
   cases r with
   |ret v=>exact⟨y,by rw[kC];exact Y.1,Y.2⟩
   |panic v=>exact Y A.tmps (λ_ _=>rfl),rest⟩
 .have a0:cr H o=.bar:=Classical.byContradiction λhn=>D (.inl hn);unfold fS at k
  cases hw:bU ops A o with
  |none=>rw[hw]at k;exact k.elim
  |some b=>
   rw[hw,a0]at k
   cases b with
   |false=>grind
   |true=>
    have k1:mZ P A o.dst (λB=>K B.h B) Q (cv P (bd H) o A.eval A.h):=k.1 rfl;exact .inr (.inl ⟨rfl,qI (λB hB=>⟨B.h,dr.refl _,hB⟩) k1⟩)
def WL{n}{k}(hd:ops.toList.all (qd n)=true):∀(fuel t) (ax) (I) {m} {A} {a} {w},dr I A.h ->
  Rel P M0 S0 b cs0 m A a w->A.n=n->BT P H ops Q fuel ax I A ->
   qw P M0 S0 b cs0 n (lone (b.atR a (.inRegion ops (Region.linearise.go .any ops fuel t ax [])::k)) (bR A.rc cs0) w) k Q:=by
 intro fuel
 induction fuel with
 |zero=>
  intro t ax I m A a w hx q y h
  exact⟨.normal,A,m,a,w,h.2,y,q,.one (by rfl)⟩
 |succ fuel O=>
  intro t ax I m A a w hx q y h;obtain⟨h0,h1⟩:=h
  have a0:Region.linearise.go .any ops (fuel+1) t ax []=match (Region.ready .any ops ax)[t%(Region.ready .any ops ax).length]? with
   |some i=>Region.linearise.go .any ops fuel (t / (Region.ready .any ops ax).length) (ax.setIfInBounds i true) [i]
   |none=>[].reverse:=rfl
  rw[a0]
  cases hi:(Region.ready .any ops ax)[t%(Region.ready .any ops ax).length]? with
  |none=>
   have N:Region.ready .any ops ax=[]:=by
    cases X:Region.ready .any ops ax with
    |nil=>rfl
    |cons x xs=>
     rw[X]at hi;have Z:t%(x::xs).length<(x::xs).length:=zG _ (by simp);grind
   exact⟨.normal,A,m,a,w,h0 N,y,q,.one (by rfl)⟩
  |some i=>
   simp only[];rw[linearise_go_acc,List.reverse_singleton,BY];have C:=aB hi;obtain⟨_,o,J,_⟩:=mem_ready.1 C;have G:=h1 i C o J;have F:qd A.n o=true:=by
    rw[y];exact kl.1 hd o (MB.2 (Array.mem_of_getElem? J))
   rcases RX hx G with⟨hw,K⟩|⟨hw,K⟩|⟨hw,v,E,U,S,K⟩
   .have u:=q.wanted hw;have e:=stepR_op_skip (P:=P) (b:=b) (k:=k) (cs:=bR A.rc cs0) (w:=w) (rest:=Region.linearise.go .any ops fuel (t / (Region.ready .any ops ax).length) (ax.setIfInBounds i true) []) (xU J u);simp only[J,iv]at e;have l:=q.put (dst:=o.dst) (oK F) (rB _ _);have:=O (t / (Region.ready .any ops ax).length) (ax.setIfInBounds i true) I (by rw[kC];exact hx) l ((ri _ _ _ _).trans y) K;rw[ow]at this;exact this.of_steps (.one e)
   .have u:=q.wanted hw;rcases Lv (i:=i) (rest:=Region.linearise.go .any ops fuel (t / (Region.ready .any ops ax).length) (ax.setIfInBounds i true) []) (k:=k) J F u q K with⟨A',m',R,w',⟨V,T,hK⟩,D,l,e⟩|⟨v,A',m',R,w',v',M,hQ,D,l,hv,e⟩
    .exact(O _ _ V T l (D.trans y) hK).of_steps e
    .exact⟨.panic v,A',m',R,w',hQ,D.trans y,l,v',M,hv,e⟩
   .have u:=q.wanted hw;obtain⟨j,sz,z,hc,g1,g2,g3,g4,rfl,rfl⟩:=U;have L:=Qs hc;have Y:∀c,o.op≠.defer c:=by
     intro c a1;rw[a1]at L;cases L
    have hok:=UY (P:=P) (o:=o) q.hok g4 q.eval g1 g2;obtain⟨m',R,w',l,e⟩:=Ks (i:=i) (rest:=Region.linearise.go .any ops fuel (t / (Region.ready .any ops ax).length) (ax.setIfInBounds i true) []) (k:=k) J F u q Y hok;have:=O (t / (Region.ready .any ops ax).length) (ax.setIfInBounds i true) I (by rw[kC];exact S) l ((ri _ _ _ _).trans y) K;rw[ow]at this;exact this.of_steps e
def Fm:∀(l) (h),dr (wO h l) h/\(wO h l).length=h.length
 |[],h=>⟨dr.refl _,rfl⟩
 |id::l,h=>by
  obtain⟨v,u⟩:=Fm l (h.set id .dead);refine⟨v.trans λx o i q=>?_,by rw[wO,u];simp⟩;by_cases e:id=x
  .subst e;have j:=(aC.1 i).1;rw[jp (by simpa using j)]at i;cases i;cases q
  grind
def Iw(id)(h):dr (gE id h) h/\(gE id h).length=h.length:=by
 refine⟨λx o e i=>?_,by simp[gE]⟩;unfold gE at e;rw[DB]at e
 cases hx:h[x]? with
 |none=>grind
 |some y=>
  rw[hx]at e;simp only[i8,iu]at e;split at e
  .rw[<-e]
  .rw[<-e]at i;cases i
def PH(H)(ops)(A):dr (zT H ops A) A.h/\(zT H ops A).length=A.h.length:=by
 unfold zT;split
 .exact Iw _ _
 .exact Fm _ _
def NF(H)(ops)(A):dr (qe H ops A) (sO H ops A).h:=by
 intro x o e i;obtain⟨l,q⟩:=PH H ops A;unfold qe at e;show (A.h++_)[x]?=_;rcases dO x A.h.length with j|j
 .rw[bJ (by omega)]at e;rw[bJ j];exact l x o e i
 .rw[dB (by omega)]at e;have:=aB e;simp only[cA]at this;obtain⟨_,_,rfl⟩:=this;cases i
def Lz{α β}(f:α->β)(a b)(l):(Ie a b l).map f=Ie a b (l.map f):=by
 unfold Ie;rw[dQ];split
 .simp
 .rfl
def Sm{α}(a b)(l:List α):(Ie a b l).Perm l:=by
 unfold Ie;split
 .rename_i h;have e:l=l.take a++((l.drop a).take 1++((l.drop (a+1)).take (b-a)++l.drop (b+1))):=by
   have u:(l.drop (a+1)).take (b-a)++l.drop (b+1)=l.drop (a+1):=by
    have q:l.drop (b+1)=(l.drop (a+1)).drop (b-a):=by rw[vZ];congr 1;omega
    rw[q];exact ja _ _
   rw[u];have j:(l.drop a).take 1++l.drop (a+1)=l.drop a:=by
    have i:l.drop (a+1)=(l.drop a).drop 1:=by rw[vZ]
    rw[i];exact ja _ _
   rw[j];exact(ja _ _).symm
  refine List.Perm.trans ?_ (List.Perm.of_eq e.symm);rw[dD,dD];refine List.Perm.append_left _ ?_;rw[<-dD,<-dD];exact List.Perm.append_right _ List.perm_append_comm
 rfl
def Pw(H)(n):(wK H n).Perm (List.range n):=by
 unfold wK;split
 .exact Sm _ _ _
 rfl
def Vf(H)(ops:Array Oper):(wK H ops.size).map (λi=>ops[i]?)=(Bi H ops.toList).map some:=by
 have base:(List.range ops.size).map (λi=>ops[i]?)=ops.toList.map some:=by
  apply pE;intro i;rw[cX,cX];have e:ops.toList[i]?=ops[i]?:=by simp
  rw[e];rcases dO i ops.size with h|h
  .grind
  .grind
 unfold wK Bi;split
 .rw[Lz,base,Lz]
 .exact base
def Rel.drew{m}{A}{a}{w}(e:Rel P M0 S0 b cs0 m A a w):Rel P M0 S0 b cs0 m A a { w with drawn:=w.drawn+1 }:=
 e.ahead (Ev.drew _ ⟨m,A.h,w⟩) (HOk.drew e.hok)
def VM(E:P.follows .mixedOrders=true):eV P:=by
 intro M0 S0 b cs0 m A a w H ops Q n id k F hok C D h;have l:Cv H ops (Region.before ops) (wK H ops.size)=true/\(wK H ops.size).length=ops.size:=by
  unfold IU at hok;simp only[eI,decide_eq_true_eq]at hok;exact⟨hok.2,hok.1.2⟩
 have i:=Pw H ops.size;have q:=SO (wK H ops.size) _ (Array.replicate ops.size false) _ _ (Vf H ops) (i.nodup_iff.2 List.nodup_range) ⟨by simp,λj=>by
   rw[i.mem_iff,sq,ku];grind⟩ (λj o u G e I J=>by
   exfalso;rw[ku]at u;grind) l.1 h
 rw[l.2]at q;obtain⟨m',y⟩:=C.resv (un H ops.toList);have z:=stepR_region_draw (P:=P) (b:=b) (a:=a) (k:=k) (cs:=bR A.rc cs0) (w:=w) (ops:=ops) (id:=id);refine qw.of_steps (.one z) ?_;simp only[Region.schedule,E,oZ,if_true];exact WL (A:=sO H ops.toList A) F ops.size _ _ _ (NF H ops.toList A) y.drew D q
open Go.Proofs.Tryz renaming prog->TP
open Go.Proofs.Tryz
class Bx (α:Type) where
 val:α
abbrev Cont:=Ex->AAct->Prop
structure CodeK where
 P:Program
 H:Hints
 c:Code
 Q:Cont
structure OpsK where
 P:Program
 H:Hints
 ops:Array Oper
 rest:List Oper
 Q:Cont
structure OpK where
 P:Program
 H:Hints
 ops:Array Oper
 rest:List Oper
 Q:Cont
 dst:Option Tmp
structure DrK where
 P:Program
 H:Hints
 ops:Array Oper
 rest:List Oper
 Q:Cont
structure DOpK where
 P:Program
 H:Hints
 ops:Array Oper
 rest:List Oper
 Q:Cont
 op:Oper
def W [k:Bx CodeK] (A:AAct):Prop:=wp k.val.P k.val.H k.val.c k.val.Q A
def WO [k:Bx OpsK] (A:AAct):Prop:=ke k.val.P k.val.H k.val.ops k.val.Q k.val.rest A
def WQ [k:Bx Cont] (e:Ex) (A:AAct):Prop:=k.val e A
def WR [k:Bx OpK] (A:AAct) (r:OR):Prop:=mZ k.val.P A k.val.dst (ke k.val.P k.val.H k.val.ops k.val.Q k.val.rest) k.val.Q r
def WB [k:Bx ((Unit->Prop)×(Unit->Prop))] (b:Bool):Prop:=J5 b k.val.1 k.val.2
def WN [k:Bx ((Unit->Prop)×(Unit->Prop))] (b:Option Bool):Prop:=ui k.val.1 k.val.2 b
def WC [k:Bx ((Unit->Prop)×(Unit->Prop))] (v:AV):Prop:=G3 k.val.1 k.val.2 v
def WF [k:Bx OpK] (A:AAct) (f:FuncId) (args:List AV):Prop:=mZ k.val.P A k.val.dst (ke k.val.P k.val.H k.val.ops k.val.Q k.val.rest) k.val.Q (.call f args)
def WD [k:Bx DrK] (hs:Heap) (A:AAct):Prop:=cp k.val.P k.val.H k.val.ops k.val.Q k.val.rest hs A
def sa [k:Bx DOpK] (hs:Heap) (A:AAct) (d:DC):Prop:=
 Yt (λ_=>mZ k.val.P A k.val.op.dst (λB=>cp k.val.P k.val.H k.val.ops k.val.Q k.val.rest B.h B) k.val.Q (cv k.val.P (bd k.val.H) k.val.op A.eval A.h))
   (λ_=>EJ A.h (λv h=>cp k.val.P k.val.H k.val.ops k.val.Q k.val.rest hs (A.put k.val.op.dst v h)) (cv k.val.P (bd k.val.H) k.val.op A.eval A.h))
   (λ_=>Ap k.val.P A.h (λv=>cp k.val.P k.val.H k.val.ops k.val.Q k.val.rest hs (A.put k.val.op.dst v A.h)) (cv k.val.P (bd k.val.H) k.val.op A.eval A.h))
   (λ_=>Ap k.val.P hs (λv=>cp k.val.P k.val.H k.val.ops k.val.Q k.val.rest hs (A.put k.val.op.dst v A.h)) (cv k.val.P (bd k.val.H) k.val.op A.eval hs))
   (λj sz=>uk hs A.h j sz (λv h=>cp k.val.P k.val.H k.val.ops k.val.Q k.val.rest hs (A.put k.val.op.dst v h)) (je k.val.P A.eval k.val.op.op))
   (λ_=>x3 k.val.P hs A.h A.eval (λh=>cp k.val.P k.val.H k.val.ops k.val.Q k.val.rest hs (A.put k.val.op.dst (.p (.tuple [])) h)) k.val.op.op)
   (λ_=>yt k.val.P A.h A.eval (cp k.val.P k.val.H k.val.ops k.val.Q k.val.rest hs (A.put k.val.op.dst (.p (.tuple [])) A.h)) k.val.op.op)
   (λ_=>BK hs A.h (λv h=>cp k.val.P k.val.H k.val.ops k.val.Q k.val.rest hs (A.put k.val.op.dst v h)) (cv k.val.P (bd k.val.H) k.val.op A.eval A.h))
   (λ_=>A4 k.val.P k.val.Q A (λv=>cp k.val.P k.val.H k.val.ops k.val.Q k.val.rest hs (A.put k.val.op.dst v A.h)) (cv k.val.P (bd k.val.H) k.val.op A.eval A.h))
   (λ_=>tR k.val.P k.val.H k.val.Q hs A (λv h=>cp k.val.P k.val.H k.val.ops k.val.Q k.val.rest hs (A.put k.val.op.dst v h)) (cv k.val.P (bd k.val.H) k.val.op A.eval A.h))
   d
def WDS [k:Bx DOpK] (hs:Heap) (A:AAct) (j sz:Nat) (z:Option AV):Prop:=uk hs A.h j sz (λv h=>cp k.val.P k.val.H k.val.ops k.val.Q k.val.rest hs (A.put k.val.op.dst v h)) z
def WDK [k:Bx DOpK] (hs:Heap) (A:AAct) (T:TypeId) (a y:AV):Prop:=
 match a with
 |.ptr id ver i o=>j9 hs id=true/\sy (λh=>cp k.val.P k.val.H k.val.ops k.val.Q k.val.rest hs (A.put k.val.op.dst (.p (.tuple [])) h)) (iZ k.val.P T (.ptr id ver i o) y A.h)
 |_=>False
def WDT [k:Bx DOpK] (hs:Heap) (A:AAct) (r:OR):Prop:=sy (λh=>cp k.val.P k.val.H k.val.ops k.val.Q k.val.rest hs (A.put k.val.op.dst (.p (.tuple [])) h)) r
def Rv [k:Bx DOpK] (A:AAct) (r:OR):Prop:=mZ k.val.P A k.val.op.dst (λB=>cp k.val.P k.val.H k.val.ops k.val.Q k.val.rest B.h B) k.val.Q r
def WDA [k:Bx DOpK] (hs:Heap) (A:AAct) (r:OR):Prop:=EJ A.h (λv h=>cp k.val.P k.val.H k.val.ops k.val.Q k.val.rest hs (A.put k.val.op.dst v h)) r
def WDP [k:Bx DOpK] (hs:Heap) (A:AAct) (r:OR):Prop:=BK hs A.h (λv h=>cp k.val.P k.val.H k.val.ops k.val.Q k.val.rest hs (A.put k.val.op.dst v h)) r
def Rr [k:Bx DOpK] (hs:Heap) (A:AAct) (r:OR):Prop:=A4 k.val.P k.val.Q A (λv=>cp k.val.P k.val.H k.val.ops k.val.Q k.val.rest hs (A.put k.val.op.dst v A.h)) r
def JW [k:Bx DOpK] (hs h0:Heap) (A:AAct) (r:OR):Prop:=Ap k.val.P h0 (λv=>cp k.val.P k.val.H k.val.ops k.val.Q k.val.rest hs (A.put k.val.op.dst v A.h)) r
def Ze [k:Bx DOpK] (hs:Heap) (A:AAct) (r:OR):Prop:=tR k.val.P k.val.H k.val.Q hs A (λv h=>cp k.val.P k.val.H k.val.ops k.val.Q k.val.rest hs (A.put k.val.op.dst v h)) r
def H0:Hints:=λ_=>.std
def dx:List (Nat×Hint)->Hints
 |[],_=>.std
 |(k,h)::l,t=>if t=k then h else dx l t
def Qb(t):dx [] t=.std:=rfl
def Nr(k)(h)(l)(t):dx ((k,h)::l) t=if t=k then h else dx l t:=rfl
section
variable (P:Program) (H:Hints) (Q:Cont) (A:AAct)
def zaL(c):wp P H c Q A=@W ⟨P,H,c,Q⟩ A:=propext Iff.rfl
def Y5:@W ⟨P,H,.skip,Q⟩ A=@WQ ⟨Q⟩ .normal A:=propext Iff.rfl
def TB(i)(l):@W ⟨P,H,.region i ⟨l⟩ false,Q⟩ A=@WO ⟨P,H,⟨l⟩,l,Q⟩ A:=propext Iff.rfl
def Mi(i)(l):@W ⟨P,H,.region i ⟨l⟩ true,Q⟩ A=@WD ⟨P,H,⟨l⟩,Bi H l,Q⟩ (qe H l A) (sO H l A):=propext Iff.rfl
def LM:Hint->Bool
 |.slot _ _=>true
 |_=>false
def aD(i)(l)(h:LM (H 5000000)=false):@W ⟨P,H,.region i ⟨l⟩ true,Q⟩ A=@WD ⟨P,H,⟨l⟩,l,Q⟩ (qe H l A) (sO H l A):=by
 have e:Bi H l=l:=by
  unfold Bi;cases hh:H 5000000<;>rw[hh]at h<;>first|rfl|cases h
 rw[Mi,e]
def BB{o}:(∀j sz,cr H0 o≠.slot j sz)/\cr H0 o≠.sto/\∀t,cr H0 o≠.app t:=by
 have e:∀op,wn H0 op=.bar:=by
  intro op;unfold wn;split
  .rfl
  .rfl
 grind[cr,H0]
def E9:∀l,un H0 l=[]
 |[]=>rfl
 |o::l=>by
  unfold un;split
  .rename_i j sz h;exact absurd h (BB.1 j sz)
  .exact E9 l
def Cb(T):∀l,pN H0 T l=[]
 |[]=>rfl
 |o::l=>by
  unfold pN;split
  .rename_i h _;exact absurd h BB.2.1
  .rename_i h;exact absurd h (BB.2.2 _)
  .exact Cb T l
def Y8(i)(l):@W ⟨P,H0,.region i ⟨l⟩ true,Q⟩ A=@WD ⟨P,H0,⟨l⟩,l,Q⟩ A.h A:=by
 rw[aD _ _ _ _ _ _ rfl];unfold qe sO zT;rw[E9,Cb];simp[wO,M4,H0]
def zaJ(a b):@W ⟨P,H,.seq a b,Q⟩ A=@W ⟨P,H,a,fh (wp P H b Q) Q⟩ A:=propext Iff.rfl
def Y9(c)(x y):@W ⟨P,H,.cond c x y,Q⟩ A=@WC ⟨λ_=>wp P H x Q A,λ_=>wp P H y Q A⟩ (A.eval c):=propext Iff.rfl
def WW(id)(b):@W ⟨P,H,.block id b,Q⟩ A=@W ⟨P,H,b,lE id Q⟩ A:=propext Iff.rfl
def WS(b):@W ⟨P,H,.scope b,Q⟩ A=@W ⟨P,H,b,Q⟩ A:=propext Iff.rfl
def WT(l):@W ⟨P,H,.label l,Q⟩ A=@WQ ⟨Q⟩ .normal A:=propext Iff.rfl
def Y7(id):@W ⟨P,H,.exit id,Q⟩ A=@WQ ⟨Q⟩ (.exit id) A:=propext Iff.rfl
def zaK:@W ⟨P,H,.ret,Q⟩ A=@WQ ⟨Q⟩ .ret A:=propext Iff.rfl
def GH(b)(R):@WQ ⟨fh (wp P H b Q) R⟩ .normal A=@W ⟨P,H,b,Q⟩ A:=propext Iff.rfl
def Lh(K)(j):@WQ ⟨fh K Q⟩ (.exit j) A=@WQ ⟨Q⟩ (.exit j) A:=propext Iff.rfl
def Ot(K):@WQ ⟨fh K Q⟩ .ret A=@WQ ⟨Q⟩ .ret A:=propext Iff.rfl
def JS(K)(v):@WQ ⟨fh K Q⟩ (.panic v) A=@WQ ⟨Q⟩ (.panic v) A:=propext Iff.rfl
def Dv(id):@WQ ⟨lE id Q⟩ .normal A=@WQ ⟨Q⟩ .normal A:=propext Iff.rfl
def GL(id j):@WQ ⟨lE id Q⟩ (.exit j) A=if j=id then @WQ ⟨Q⟩ .normal A else @WQ ⟨Q⟩ (.exit j) A:=propext Iff.rfl
def JV(id):@WQ ⟨lE id Q⟩ .ret A=@WQ ⟨Q⟩ .ret A:=propext Iff.rfl
def EQ(id)(v):@WQ ⟨lE id Q⟩ (.panic v) A=@WQ ⟨Q⟩ (.panic v) A:=propext Iff.rfl
def Zc(ops):@WO ⟨P,H,ops,[],Q⟩ A=@WQ ⟨Q⟩ .normal A:=propext Iff.rfl
def kS(X Y):J5 true X Y=X ():=propext ⟨λh=>h.1 rfl,λh=>⟨λ_=>h,λh'=>(by cases h')⟩⟩
def mj(X Y):J5 false X Y=Y ():=propext ⟨λh=>h.2 rfl,λh=>⟨λh'=>(by cases h'),λ_=>h⟩⟩
def mP(m)(dst)(op)(ty)(pos)(after)(g)(e)(h) :
  cv P m ⟨dst,op,ty,pos,after,g⟩ e h=cv P m ⟨dst,op,ty, "", #[],none⟩ e h:=by rfl
def W0(ops)(rest)(dst)(op)(ty)(pos)(after) :
  @WO ⟨P,H,ops,⟨dst,op,ty,pos,after,none⟩::rest,Q⟩ A=@WR ⟨P,H,ops,rest,Q,dst⟩ A (cv P (bd H) ⟨dst,op,ty, "", #[],none⟩ A.eval A.h):=by
 rw[<-mP P (bd H) dst op ty pos after none];unfold WO WR;simp only[ke,bU,ui];exact kS _ _
def TF(ops)(rest)(dst)(op)(ty)(pos)(after)(j)(b) :
  @WO ⟨P,H,ops,⟨dst,op,ty,pos,after,some (j,b)⟩::rest,Q⟩ A =
  @WN ⟨λ_=>mZ P A dst (ke P H ops Q rest) Q (cv P (bd H) ⟨dst,op,ty,pos,after,some (j,b)⟩ A.eval A.h),
    λ_=>ke P H ops Q rest (A.put dst (.p (.tuple [])) A.h)⟩ (s6 A ((ops[j]?).bind (·.dst)) b):=propext Iff.rfl
def W1(X Y)(b):@WN ⟨X,Y⟩ (some b)=@WB ⟨X,Y⟩ b:=propext Iff.rfl
def Xg(X Y)(b):@WC ⟨X,Y⟩ (.p (.bool b))=@WB ⟨X,Y⟩ b:=propext Iff.rfl
def Zf(X Y)(b):@WB ⟨X,Y⟩ (!b)=@WB ⟨Y,X⟩ b:=by
 cases b
 .exact(kS X Y).trans (mj Y X).symm
 .exact(mj X Y).trans (kS Y X).symm
def Oy(ops)(rest)(d dst)(op)(ty)(pos)(after)(g)(Y) :
  @WB ⟨λ_=>mZ P A dst (ke P H ops Q rest) Q (cv P (bd H) ⟨d,op,ty,pos,after,g⟩ A.eval A.h),Y⟩ true =
   @WR ⟨P,H,ops,rest,Q,dst⟩ A (cv P (bd H) ⟨d,op,ty, "", #[],none⟩ A.eval A.h):=by
 rw[<-mP P (bd H) d op ty pos after g];exact kS _ _
def Ll(X)(ops)(l)(B):@WB ⟨X,λ_=>ke P H ops Q l B⟩ false=@WO ⟨P,H,ops,l,Q⟩ B:=mj _ _
def Ow(c)(Y):@WB ⟨λ_=>wp P H c Q A,Y⟩ true=@W ⟨P,H,c,Q⟩ A:=kS _ _
def Lj(c)(X):@WB ⟨X,λ_=>wp P H c Q A⟩ false=@W ⟨P,H,c,Q⟩ A:=mj _ _
def Za(ops)(rest)(dst)(v)(h):@WR ⟨P,H,ops,rest,Q,dst⟩ A (.val v h)=@WO ⟨P,H,ops,rest,Q⟩ (A.put dst v h):=propext Iff.rfl
def WX(ops)(rest)(dst)(h):@WR ⟨P,H,ops,rest,Q,dst⟩ A (.skip h)=@WO ⟨P,H,ops,rest,Q⟩ (A.put dst (.p (.tuple [])) h):=propext Iff.rfl
def WY(k)(f)(args):@WR ⟨k⟩ A (.call f args)=@WF ⟨k⟩ A f args:=propext Iff.rfl
def TD(ops)(rest)(dst)(v):@WR ⟨P,H,ops,rest,Q,dst⟩ A (.panic v)=@WQ ⟨Q⟩ (.panic v) A:=propext Iff.rfl
def Ou(rs)(n)(R):@WQ ⟨j7 P rs n R⟩ .ret A=(A.bs=n/\cW P rs (R A.rc) A.tmps A.df .ret A.h):=propext Iff.rfl
def GK(rs)(n)(R):@WQ ⟨j7 P rs n R⟩ .normal A=(A.bs=n/\cW P rs (R A.rc) A.tmps A.df .ret A.h):=propext Iff.rfl
def JU(rs)(n)(R)(v):@WQ ⟨j7 P rs n R⟩ (.panic v) A=(A.bs=n/\cW P rs (R A.rc) A.tmps A.df (.pan v) A.h):=propext Iff.rfl
def uA:AV->Option (List AV)->Option (List AV)
 |v,some l=>if v.single=true then some (v::l) else none
 |_,none=>none
def Ul:OR->Option (List AV)->Option (List AV)
 |.val v _,r=>uA v r
 |_,_=>none
def XF (R:AEnd->Heap->Prop) (h:Heap):Option AV->Prop
 |some v=>R (.ret v) h
 |none=>False
def PM(rs)(R)(T)(h):cW P rs R T [] .ret h=XF R h (qV (nQ P h T rs)):=propext Iff.rfl
def PN(rs)(R)(T)(h)(v):cW P rs R T [] (.pan v) h=R (.panic v) h:=propext Iff.rfl
def Pf(R)(h)(v):XF R h (some v)=R (.ret v) h:=propext Iff.rfl
def TA(h)(T):nQ P h T []=some []:=rfl
def Tz(h)(T)(t)(rs):nQ P h T (.tmp t::rs)=uA (T t) (nQ P h T rs):=by
 rw[nQ.eq_2];cases e:nQ P h T rs<;>rfl
def Ro(h)(T)(t)(ty)(rs):nQ P h T (.cell t ty::rs)=Ul (qo P ty (T t) h) (nQ P h T rs):=by
 rw[nQ.eq_2];unfold Oq;dsimp only;generalize nQ P h T rs=x;cases qo P ty (T t) h<;>cases x<;>rfl
def VX(v)(l):uA (.p v) (some l)=some (.p v::l):=rfl
def Qw(i j k o)(l):uA (.ptr i j k o) (some l)=some (.ptr i j k o::l):=rfl
def KM(i j k o)(l):uA (.slice i j k o) (some l)=some (.slice i j k o::l):=rfl
def Qx(cs)(l):uA (.agg cs) (some l)=some (.agg cs::l):=rfl
def NJ(f)(a c)(l):uA (.func f a c) (some l)=some (.func f a c::l):=rfl
def Qy(v)(h)(r):Ul (.val v h) r=uA v r:=rfl
def Ld:qV (some [])=some (.p (.tuple [])):=rfl
def Lc(v):qV (some [v])=some v:=rfl
def Lb(v u)(l):qV (some (v::u::l))=some (s4 (v::u::l)):=rfl
def aT{k}{b}(i:b=true->@WB ⟨k⟩ true)(e:b=false->@WB ⟨k⟩ false):@WB ⟨k⟩ b:=by
 cases b
 .exact e rfl
 .exact i rfl
def Zd(ops)(hs):@WD ⟨P,H,ops,[],Q⟩ hs A=@WQ ⟨Q⟩ .normal A:=propext Iff.rfl
def W3(ops)(rest)(hs)(dst)(op)(ty)(pos)(after) :
  @WD ⟨P,H,ops,⟨dst,op,ty,pos,after,none⟩::rest,Q⟩ hs A=@sa ⟨P,H,ops,rest,Q,⟨dst,op,ty,pos,after,none⟩⟩ hs A (cr H ⟨dst,op,ty, "", #[],none⟩):=by
 unfold WD sa;simp only[cp,bU,ui];exact kS _ _
def TI(ops)(rest)(hs)(dst)(op)(ty)(pos)(after)(j)(b) :
  @WD ⟨P,H,ops,⟨dst,op,ty,pos,after,some (j,b)⟩::rest,Q⟩ hs A =
  @WN ⟨λ_=>@sa ⟨P,H,ops,rest,Q,⟨dst,op,ty,pos,after,some (j,b)⟩⟩ hs A (cr H ⟨dst,op,ty, "", #[],none⟩),
    λ_=>@WD ⟨P,H,ops,rest,Q⟩ hs (A.put dst (.p (.tuple [])) A.h)⟩ (s6 A ((ops[j]?).bind (·.dst)) b):=propext Iff.rfl
def Li(k)(hs)(d)(Y):@WB ⟨λ_=>@sa ⟨k⟩ hs A d,Y⟩ true=@sa ⟨k⟩ hs A d:=kS _ _
def Lk(k)(hs)(B)(X):@WB ⟨X,λ_=>@WD ⟨k⟩ hs B⟩ false=@WD ⟨k⟩ hs B:=mj _ _
def JX(ops)(l)(B)(Y):@WB ⟨λ_=>ke P H ops Q l B,Y⟩ true=@WO ⟨P,H,ops,l,Q⟩ B:=kS _ _
def JZ(ops)(rest)(d dst)(op)(ty)(pos)(after)(g)(X) :
  @WB ⟨X,λ_=>mZ P A dst (ke P H ops Q rest) Q (cv P (bd H) ⟨d,op,ty,pos,after,g⟩ A.eval A.h)⟩ false =
   @WR ⟨P,H,ops,rest,Q,dst⟩ A (cv P (bd H) ⟨d,op,ty, "", #[],none⟩ A.eval A.h):=by
 rw[<-mP P (bd H) d op ty pos after g];exact mj _ _
def Ox(k)(hs)(B)(Y):@WB ⟨λ_=>@WD ⟨k⟩ hs B,Y⟩ true=@WD ⟨k⟩ hs B:=kS _ _
def JY(k)(hs)(d)(X):@WB ⟨X,λ_=>@sa ⟨k⟩ hs A d⟩ false=@sa ⟨k⟩ hs A d:=mj _ _
section
variable (ops:Array Oper) (rest:List Oper) (hs:Heap) (dst:Option Tmp) (op:Op) (ty:TypeId) (pos:String) (after:Array Edge) (g:Option (Nat×Bool))
def Xc:@sa ⟨P,H,ops,rest,Q,⟨dst,op,ty,pos,after,g⟩⟩ hs A .bar=@Rv ⟨P,H,ops,rest,Q,⟨dst,op,ty,pos,after,g⟩⟩ A (cv P (bd H) ⟨dst,op,ty, "", #[],none⟩ A.eval A.h):=by
 rfl
def Rt:@sa ⟨P,H,ops,rest,Q,⟨dst,op,ty,pos,after,g⟩⟩ hs A .alloc=@WDA ⟨P,H,ops,rest,Q,⟨dst,op,ty,pos,after,g⟩⟩ hs A (cv P (bd H) ⟨dst,op,ty, "", #[],none⟩ A.eval A.h):=by
 rfl
def Xd(t):@sa ⟨P,H,ops,rest,Q,⟨dst,op,ty,pos,after,g⟩⟩ hs A (.app t)=@WDP ⟨P,H,ops,rest,Q,⟨dst,op,ty,pos,after,g⟩⟩ hs A (cv P (bd H) ⟨dst,op,ty, "", #[],none⟩ A.eval A.h):=by
 rfl
def W7:@sa ⟨P,H,ops,rest,Q,⟨dst,op,ty,pos,after,g⟩⟩ hs A .thr=@Rr ⟨P,H,ops,rest,Q,⟨dst,op,ty,pos,after,g⟩⟩ hs A (cv P (bd H) ⟨dst,op,ty, "", #[],none⟩ A.eval A.h):=by
 rfl
def Xb:@sa ⟨P,H,ops,rest,Q,⟨dst,op,ty,pos,after,g⟩⟩ hs A .cal=@Ze ⟨P,H,ops,rest,Q,⟨dst,op,ty,pos,after,g⟩⟩ hs A (cv P (bd H) ⟨dst,op,ty, "", #[],none⟩ A.eval A.h):=by
 rfl
def Rs:@sa ⟨P,H,ops,rest,Q,⟨dst,op,ty,pos,after,g⟩⟩ hs A .quiet=@JW ⟨P,H,ops,rest,Q,⟨dst,op,ty,pos,after,g⟩⟩ hs A.h A (cv P (bd H) ⟨dst,op,ty, "", #[],none⟩ A.eval A.h):=by
 rfl
def Xa:@sa ⟨P,H,ops,rest,Q,⟨dst,op,ty,pos,after,g⟩⟩ hs A .low=@JW ⟨P,H,ops,rest,Q,⟨dst,op,ty,pos,after,g⟩⟩ hs hs A (cv P (bd H) ⟨dst,op,ty, "", #[],none⟩ A.eval hs):=by
 rfl
def TR(j sz):@sa ⟨P,H,ops,rest,Q,⟨dst,op,ty,pos,after,g⟩⟩ hs A (.slot j sz)=@WDS ⟨P,H,ops,rest,Q,⟨dst,op,ty,pos,after,g⟩⟩ hs A j sz (je P A.eval op):=propext Iff.rfl
def W8(T)(a x):@sa ⟨P,H,ops,rest,Q,⟨dst,.store T a x,ty,pos,after,g⟩⟩ hs A .sto=@WDK ⟨P,H,ops,rest,Q,⟨dst,.store T a x,ty,pos,after,g⟩⟩ hs A T (A.eval a) (A.eval x):=propext Iff.rfl
def W9(T)(a x):@sa ⟨P,H,ops,rest,Q,⟨dst,.store T a x,ty,pos,after,g⟩⟩ hs A .nop=(iZ P T (A.eval a) (A.eval x) A.h=.skip A.h/\@WD ⟨P,H,ops,rest,Q⟩ hs (A.put dst (.p (.tuple [])) A.h)):=propext Iff.rfl
def W6(T)(y)(id e i k):@WDK ⟨P,H,ops,rest,Q,⟨dst,op,ty,pos,after,g⟩⟩ hs A T (.ptr id e i k) y =
  (j9 hs id=true/\@WDT ⟨P,H,ops,rest,Q,⟨dst,op,ty,pos,after,g⟩⟩ hs A (iZ P T (.ptr id e i k) y A.h)):=propext Iff.rfl
def TJ(h):@WDT ⟨P,H,ops,rest,Q,⟨dst,op,ty,pos,after,g⟩⟩ hs A (.skip h)=@WD ⟨P,H,ops,rest,Q⟩ hs (A.put dst (.p (.tuple [])) h):=propext Iff.rfl
def TL(j sz)(z):@WDS ⟨P,H,ops,rest,Q,⟨dst,op,ty,pos,after,g⟩⟩ hs A j sz (some z) =
  (z.cells.map (·.length)=some sz/\j9 hs (hs.length-1-j)=true/\A.h[hs.length-1-j]?=some (.row sz [])/\@WD ⟨P,H,ops,rest,Q⟩ hs (A.put dst (.ptr (hs.length-1-j) 1 0 0) (A.h.set (hs.length-1-j) (.row sz [z])))):=propext Iff.rfl
def Xe(v)(h):@Rv ⟨P,H,ops,rest,Q,⟨dst,op,ty,pos,after,g⟩⟩ A (.val v h)=@WD ⟨P,H,ops,rest,Q⟩ (A.put dst v h).h (A.put dst v h):=propext Iff.rfl
def TT(h):@Rv ⟨P,H,ops,rest,Q,⟨dst,op,ty,pos,after,g⟩⟩ A (.skip h)=@WD ⟨P,H,ops,rest,Q⟩ (A.put dst (.p (.tuple [])) h).h (A.put dst (.p (.tuple [])) h):=propext Iff.rfl
def Ru(v):@Rv ⟨P,H,ops,rest,Q,⟨dst,op,ty,pos,after,g⟩⟩ A (.panic v)=@WQ ⟨Q⟩ (.panic v) A:=propext Iff.rfl
def Xf(v)(h):@WDA ⟨P,H,ops,rest,Q,⟨dst,op,ty,pos,after,g⟩⟩ hs A (.val v h)=((∃t,h=A.h++t)/\@WD ⟨P,H,ops,rest,Q⟩ hs (A.put dst v h)):=propext Iff.rfl
def W5(v)(h):@WDP ⟨P,H,ops,rest,Q,⟨dst,op,ty,pos,after,g⟩⟩ hs A (.val v h)=(G5 hs A.h h/\@WD ⟨P,H,ops,rest,Q⟩ hs (A.put dst v h)):=propext Iff.rfl
def W4(v)(e):@JW ⟨P,H,ops,rest,Q,⟨dst,op,ty,pos,after,g⟩⟩ hs e A (.val v e)=@WD ⟨P,H,ops,rest,Q⟩ hs (A.put dst v A.h):=
 propext ⟨λh=>h.2,λh=>⟨rfl,h⟩⟩
end
end
variable {P:Program}
def oX (M:Nat->Prop) (w:World) (cargs:Array Value) (pargs:List PV):Prop:=cargs.size=pargs.length/\∀(i:Nat) (c:PV),pargs[i]?=some c->RepP M w (cargs.getD i undef) c
def af (P:Program) (f:FuncId) (pargs:List PV) (v:PV):Prop:=
 ∀(M0:Nat->Prop) (w:World) (cargs:Array Value),(∀b,M0 b->b<w.heap.size)->vU P w->oX M0 w cargs pargs ->
  (∀w',(callFunc f cargs).run P w'=.ok (.enter f cargs) w') /\
  Calls P f cargs w λe w'=>∃v',e=.returned v'/\RepP M0 w' v' v/\Fr [] w w'
def pu{M0:Nat->Prop}{w:World}(h:∀b,M0 b->b<w.heap.size)(q:vU P w):HOk P M0 ⟨[],[],w⟩ where
 gl:=⟨q,λb _ e=>by simp[Own]at e⟩
 len:=rfl
 lt:=λb e=>by simp[Own]at e
 m0:=λb e=>⟨h b e,by simp[Own]⟩
 inj:=λi j b hi=>by simp at hi
 obj:=λid o l=>by simp at l
def Kq(L:eV P){H}{f}{fn}{c}{pargs}{v}{rs}{n}(J:P.funcs[f]?=some fn)(u:fn.body=some c)(z:fn.results.toList=rs)(G:fn.ntmps=n)(hok:cu H fn=true)
  (y:pargs.length<=n) (hw:SW P H c (j7 P rs 0 (λ_ r _=>r=.ret (.p v))) (start n .no (pargs.map .p) [])):af P f pargs v:=by
 intro M0 w l K I E;have C:eD (Rep M0 ⟨[],[],w⟩) l (pargs.map .p):=by
  refine⟨by simpa using E.1,λi c D=>?_⟩;simp only[cX,bg]at D;obtain⟨q,F,rfl⟩:=D;exact aR ((E.2 i q F).mono (λ_ _ _=>rfl) (λb u=>by
   rcases u with u|u
   .exact .inl u
   .simp[Own]at u))
 have:=uZ L (h:=[]) (R:=λr _=>r=.ret (.p v)) J u z G hok (by simpa using y) hw M0 [] w l (pu K I) C;refine⟨this.1,this.2.mono λe w' h=>?_⟩;obtain⟨r,h',m',rfl,A,M,j⟩:=h
 cases e with
 |returned v'=>exact⟨v',rfl,RepP.less (show RepP (Avoid M0 m') w' v' v from j) (λb u=>.inl u),A.fr⟩
 |panicked N=>exact j.elim
 |outgrown=>exact j.elim
def Kp(j:eV P){H}{f}{fn}{c}{pargs}{v}{rs}{n}(q:P.funcs[f]?=some fn)(u:fn.body=some c)(i:fn.results.toList=rs)(l:fn.ntmps=n)(hok:cu H fn=true)
  (e:pargs.length<=n) (hw:wp P H c (j7 P rs 0 (λ_ r _=>r=.ret (.p v))) (start n .no (pargs.map .p) [])):af P f pargs v:=
 Kq j q u i l hok e (lS j hw)
def rR{M0}{S}(i:HOk P M0 S){w'}(h:Fr [] S.w w'):HOk P M0 ⟨S.m,S.h,w'⟩/\Ev S.h.length S ⟨S.m,S.h,w'⟩:=by
 have j:∀b,b<S.w.heap.size->w'.heap[b]?=S.w.heap[b]?:=λb e=>h.block b e (by simp[Own])
 have l:Ev S.h.length S ⟨S.m,S.h,w'⟩:=
  {fr:=⟨h.os,h.tape,h.output,h.size,λb e _=>j b e,h.shape⟩
   sub:=λb e=>.inl e
   obj:=λid o _ q=>⟨o,q,ObjEv.refl _ _⟩ }
 exact⟨
  {len:=i.len
   lt:=λb e=>iy (i.lt b e) h.size
   m0:=λb e=>⟨iy (i.m0 b e).1 h.size,(i.m0 b e).2⟩
   inj:=i.inj
   gl:=l.glob i.gl
   obj:=λid o q=>(i.obj id o q).keep l λb e=>j b (i.lt b (aB (cI e))) },l⟩
def sM{f}{pargs}{v}{h}(E:af P f pargs v):aw P f (pargs.map .p) h (λr h'=>r=.ret (.p v)/\h'=h):=by
 intro M0 m w j u A;have F:∀b,Avoid M0 m b->b<w.heap.size:=λb q=>by
  rcases q with q|q
  .exact(u.m0 b q).1
  .exact u.lt b q
 have l:oX (Avoid M0 m) w j pargs:=by
  refine⟨by simpa using A.1,λi c hi=>?_⟩;have:=A.2 i (.p c) (by simp[hi]);exact this
 obtain⟨I,G⟩:=E (Avoid M0 m) w j F u.gl.1 l;refine⟨I,G.mono λe w' h=>?_⟩;obtain⟨v',rfl,C,y⟩:=h;obtain⟨D,z⟩:=rR u y;exact⟨.ret (.p v),_,m,⟨rfl,rfl⟩,z,D,C⟩
def aw.mono{f}{args}{h}{R i}(l:aw P f args h R)(j:∀r h',R r h'->i r h'):aw P f args h i:=
 λM0 m w e v u=>let ⟨A,z⟩:=l M0 m w e v u
  ⟨A,z.mono λ_ _ q=>let ⟨r,h',m',y,rest⟩:=q;⟨r,h',m',j r h' y,rest⟩⟩
def aa{P}{H}{ops}{rest}{Q}{dst}{A}{f}{args}{pargs}{v}(i:af P f pargs v)(j:args=pargs.map .p)
  (h:@WO ⟨P,H,ops,rest,Q⟩ (A.put dst (.p v) A.h)):@WF ⟨P,H,ops,rest,Q,dst⟩ A f args:=by
 subst j;refine(sM (h:=A.h) i).mono λr h' e=>?_;obtain⟨rfl,rfl⟩:=e;exact h
def aj{P}{H}{ops}{rest}{Q}{o}{hs j}{A}{f}{args}{pargs}{v}(e:af P f pargs v)(i:args=pargs.map .p)
  (h:@WD ⟨P,H,ops,rest,Q⟩ hs (A.put o.dst (.p v) A.h)):@JW ⟨P,H,ops,rest,Q,o⟩ hs j A (.call f args):=by
 subst i;exact⟨.p v,λ_ _=>sM e,h⟩
abbrev y0 (t:Nat):Prop:=dp TP t=some false
abbrev y1 (t a:Nat):Prop:=du TP t=some a
abbrev y2 (t a:Nat):Prop:=rZ TP t=some a
abbrev y3 (t:Nat):Prop:=qK TP t=some false
abbrev y4 (t a:Nat):Prop:=pw TP t a=true
abbrev y5 (t:Nat):Prop:=Iy TP t=false
abbrev y6 (t:Nat):Prop:=dp TP t=some true
abbrev y7 (t a b c:Nat):Prop:=tO TP t a=some (b,c)
abbrev y8 (t:Nat):Prop:=eL TP t=some [(0,1),(1,1),(2,1)]
abbrev y9 (t:Nat):Prop:=bW TP t=some (.agg [.int .i64 0,.int .i64 0])
abbrev vf (t:Nat):Prop:=eL TP t=some [(0,1),(1,1)]
abbrev Xw (t:Nat):Prop:=eL TP t=some [(0,1),(1,2),(3,1)]
abbrev Xv (t:Nat):Prop:=bW TP t=some (.agg [.int .i64 0,.int .i64 0,.int .i64 0,.int .i64 0,.int .i64 0])
abbrev OL (t:Nat):Prop:=eL TP t=none
abbrev Xu (t:Nat):Prop:=eL TP t=some [(0,1),(1,1),(2,1),(3,1)]
abbrev Xt (t:Nat):Prop:=bW TP t=some (.agg [.str ⟨#[]⟩,.int .i64 0,.int .i64 0,.int .i64 0])
abbrev Xs (t:Nat):Prop:=yX TP t=some [.int,.int]
abbrev OK (t:Nat):Prop:=bW TP t=some (.nilfunc)
abbrev Xr (t:Nat):Prop:=bW TP t=some (.agg [.int .i64 0,.int .i64 0,.int .i64 0,.int .i64 0])
def yT0:y0 3/\y1 3 1/\y2 3 8/\bW TP 3=some (.int .i64 0)/\y3 3/\y4 3 1/\y5 3/\D9 TP 3=.int/\y0 4/\y1 4 1/\bW TP 4=some (.bool false)/\fd TP 4=.bool/\y5 4/\y1 5 1/\y2 5 1/\y4 5 1/\y0 9/\y1 9 1/\y2 9 16/\bW TP 9=some (.str ⟨#[]⟩)/\fW TP 9=true/\y3 9/\y4 9 1/\y5 9/\y0 20/\y1 20 1/\y2 20 16/\y4 20 1/\fd TP 20=.iface/\y0 22/\y1 22 1/\bM TP 22=some 125/\y0 23/\y1 23 1/\bM TP 23=some 130/\y6 25/\y1 25 3/\bW TP 25=some (.agg [.nilslice,.nilslice,.int .i64 0])/\y7 25 0 0 22/\y7 25 1 1 23:=by and_intros<;>(show _=_;kernel_rfl)
def yT1:y7 25 2 2 3/\y8 25/\y5 25/\y0 26/\y1 26 1/\bM TP 26=some 137/\y0 27/\y1 27 1/\bM TP 27=some 146/\y0 28/\y1 28 1/\bM TP 28=some 150/\y6 30/\y1 30 2/\y2 30 16/\y9 30/\y7 30 0 0 3/\y7 30 1 1 3/\y4 30 2/\vf 30/\y5 30/\y6 32/\y1 32 6/\bW TP 32=some (.agg [.nilslice,.nilslice,.int .i64 0,.int .i64 0,.int .i64 0,.int .i64 0])/\y7 32 0 0 27/\y7 32 1 1 28/\y7 32 2 2 30/\y7 32 3 4 30/\eL TP 32=some [(0,1),(1,1),(2,2),(4,2)]/\y5 32/\y0 33/\y1 33 1/\bM TP 33=some 154/\y0 34/\y1 34 1/\bM TP 34=some 158/\y6 36/\y1 36 3/\bW TP 36=some (.agg [.nilslice,.nilslice,.int .i64 0])/\y7 36 0 0 33:=by and_intros<;>(show _=_;kernel_rfl)
def yT2:y7 36 1 1 34/\y7 36 2 2 3/\y8 36/\y5 36/\y0 37/\y1 37 1/\bM TP 37=some 162/\y6 39/\y1 39 4/\bW TP 39=some (.agg [.nilslice,.int .i64 0,.int .i64 0,.int .i64 0])/\y7 39 0 0 37/\y7 39 1 1 30/\y7 39 2 3 3/\Xw 39/\y5 39/\y6 41/\y1 41 17/\bW TP 41=some (.agg [.nilslice,.nilslice,.int .i64 0,.nilslice,.nilslice,.nilslice,.int .i64 0,.int .i64 0,.int .i64 0,.int .i64 0,.nilslice,.nilslice,.int .i64 0,.nilslice,.int .i64 0,.int .i64 0,.int .i64 0])/\y7 41 0 0 25/\y7 41 1 3 26/\y7 41 2 4 32/\y7 41 3 10 36/\y7 41 4 13 39/\eL TP 41=some [(0,3),(3,1),(4,6),(10,3),(13,4)]/\y5 41/\y0 42/\y1 42 1/\bW TP 42=some (.nilslice)/\bM TP 42=some 9/\y5 42/\y0 43/\y1 43 1/\bW TP 43=some (.int .i64 0)/\y3 43/\y5 43/\y0 49/\y1 49 1/\bM TP 49=some 81/\y0 50/\y1 50 1:=by and_intros<;>(show _=_;kernel_rfl)
def yT3:bM TP 50=some 84/\y0 51/\y1 51 1/\bM TP 51=some 88/\y0 52/\y1 52 1/\bM TP 52=some 90/\y6 54/\y1 54 6/\bW TP 54=some (.agg [.nilslice,.nilslice,.nilslice,.nilslice,.int .i64 0,.int .i64 0])/\y7 54 0 0 49/\y7 54 1 1 50/\y7 54 2 2 51/\y7 54 3 3 52/\y7 54 4 4 3/\y7 54 5 5 3/\eL TP 54=some [(0,1),(1,1),(2,1),(3,1),(4,1),(5,1)]/\y5 54/\Xv 71/\ik TP 71=some (5,43)/\OL 71/\y5 71/\y0 72/\y1 72 1/\bW TP 78=some (.agg [.nilslice,.nilslice,.nilslice,.nilslice,.int .i64 0,.int .i64 0,.nilslice,.nilslice,.int .i64 0,.nilslice,.nilslice,.nilslice,.int .i64 0,.int .i64 0,.int .i64 0,.int .i64 0,.nilslice,.nilslice,.int .i64 0,.nilslice,.int .i64 0,.int .i64 0,.int .i64 0])/\y7 78 0 0 54/\y7 78 1 6 41/\eL TP 78=some [(0,6),(6,17)]/\y0 79/\y1 79 1/\y2 79 24/\bW TP 79=some (.nilslice)/\bM TP 79=some 3/\y3 79/\y4 79 1/\fd TP 79=.slice/\y5 79/\y6 81/\y1 81 4/\y2 81 56:=by and_intros<;>(show _=_;kernel_rfl)
def yT4:bW TP 81=some (.agg [.str ⟨#[]⟩,.int .i64 0,.int .i64 0,.nilslice])/\y7 81 0 0 9/\y7 81 1 1 3/\y7 81 2 2 3/\y7 81 3 3 79/\y4 81 4/\Xu 81/\y5 81/\y6 84/\y1 84 4/\y2 84 40/\Xt 84/\y7 84 0 0 9/\y7 84 1 1 3/\y7 84 2 2 3/\y7 84 3 3 3/\y4 84 4/\Xu 84/\yX TP 84=some [.str,.int,.int,.int]/\y5 84/\y0 86/\y1 86 1/\bM TP 86=some 178/\fd TP 86=.slice/\y6 88/\y1 88 3/\y2 88 40/\bW TP 88=some (.agg [.int .i64 0,.int .i64 0,.nilslice])/\y7 88 0 0 3/\y7 88 1 1 3/\y7 88 2 2 86/\y4 88 3/\y8 88/\y5 88/\y6 90/\y1 90 2/\y2 90 16/\y9 90/\y7 90 0 0 3/\y7 90 1 1 3:=by and_intros<;>(show _=_;kernel_rfl)
def yT5:y4 90 2/\vf 90/\Xs 90/\y5 90/\y0 93/\y1 93 1/\OK 93/\fd TP 93=.func/\y5 93/\bM TP 95=some 5/\Bu TP 95=true/\bW TP 97=some (.agg [.nilptr,.nilslice])/\Iy TP 97=true/\Mb TP 97=some 5/\fd TP 102=.iface/\y6 119/\y1 119 4/\bW TP 119=some (.agg [.str ⟨#[]⟩,.nilslice,.nilslice,.str ⟨#[]⟩])/\y7 119 0 0 9/\y7 119 1 1 42/\y7 119 2 2 79/\y7 119 3 3 9/\Xu 119/\y5 119/\y6 125/\y1 125 2/\bW TP 125=some (.agg [.str ⟨#[]⟩,.int .i64 0])/\y7 125 0 0 9/\y7 125 1 1 3/\y4 125 2/\vf 125/\y5 125/\y0 127/\y1 127 1/\y0 128/\y1 128 1/\bM TP 128=some 30/\y6 130/\y1 130 2/\bW TP 130=some (.agg [.str ⟨#[]⟩,.nilslice]):=by and_intros<;>(show _=_;kernel_rfl)
def yT6:y7 130 0 0 9/\y7 130 1 1 128/\y4 130 2/\vf 130/\y5 130/\y0 132/\y1 132 1/\y0 135/\y1 135 1/\bM TP 135=some 209/\y6 137/\y1 137 7/\bW TP 137=some (.agg [.str ⟨#[]⟩,.int .i64 0,.int .i64 0,.int .i64 0,.int .i64 0,.int .i64 0,.nilslice])/\y7 137 0 0 9/\y7 137 1 1 3/\y7 137 2 2 30/\y7 137 3 4 30/\y7 137 4 6 135/\y4 137 7/\eL TP 137=some [(0,1),(1,1),(2,2),(4,2),(6,1)]/\y5 137/\y6 141/\y1 141 2/\bW TP 141=some (.agg [.nilslice,.int .i64 0])/\y7 141 0 0 135/\y7 141 1 1 3/\vf 141/\y6 146/\y1 146 4/\Xt 146/\y7 146 0 0 9/\y7 146 1 1 3/\y7 146 2 2 30/\y4 146 4/\eL TP 146=some [(0,1),(1,1),(2,2)]/\y5 146/\y0 148/\y1 148 1/\y6 150/\y1 150 8:=by and_intros<;>(show _=_;kernel_rfl)
def yT7:bW TP 150=some (.agg [.str ⟨#[]⟩,.int .i64 0,.int .i64 0,.int .i64 0,.int .i64 0,.int .i64 0,.int .i64 0,.int .i64 0])/\y7 150 0 0 9/\y7 150 1 1 30/\y7 150 2 3 30/\y7 150 3 5 30/\y7 150 4 7 3/\y4 150 8/\eL TP 150=some [(0,1),(1,2),(3,2),(5,2),(7,1)]/\y5 150/\y0 152/\y1 152 1/\y6 154/\y1 154 4/\Xt 154/\y7 154 0 0 9/\y7 154 1 1 30/\y7 154 2 3 3/\y4 154 4/\Xw 154/\y5 154/\y0 156/\y1 156 1/\y6 158/\y1 158 5/\bW TP 158=some (.agg [.str ⟨#[]⟩,.int .i64 0,.int .i64 0,.int .i64 0,.int .i64 0])/\y7 158 0 0 9/\y7 158 1 1 30/\y7 158 2 3 30/\y4 158 5/\eL TP 158=some [(0,1),(1,2),(3,2)]/\y5 158/\y0 160/\y1 160 1/\y6 162/\y1 162 4/\bW TP 162=some (.agg [.str ⟨#[]⟩,.int .i64 0,.int .i64 0,.nilslice])/\y7 162 0 0 9/\y7 162 1 1 30/\y7 162 2 3 79/\y4 162 4:=by and_intros<;>(show _=_;kernel_rfl)
def yT8:Xw 162/\y5 162/\y6 178/\y1 178 2/\y2 178 16/\y9 178/\y7 178 0 0 3/\y7 178 1 1 3/\y4 178 2/\vf 178/\Xs 178/\y5 178/\y6 187/\y1 187 2/\bW TP 187=some (.agg [.bool false,.nilfunc])/\y7 187 0 0 4/\y7 187 1 1 93/\vf 187/\y5 187/\y6 209/\y1 209 2/\y9 209/\y7 209 0 0 3/\y7 209 1 1 3/\y4 209 2/\vf 209/\y5 209/\bM TP 219=some 20/\y6 238/\y1 238 4/\Xr 238/\ik TP 238=some (4,3)/\OL 238/\y5 238/\y6 240/\y1 240 3/\bW TP 240=some (.agg [.int .i64 0,.int .i64 0,.int .i64 0])/\ik TP 240=some (3,3)/\OL 240/\y5 240:=by and_intros<;>(show _=_;kernel_rfl)
def yT9:y0 248/\y1 248 1/\bM TP 248=some 308/\y6 261/\y1 261 5/\Xv 261/\y7 261 0 0 3/\y7 261 1 1 3/\y7 261 2 2 3/\y7 261 3 3 30/\eL TP 261=some [(0,1),(1,1),(2,1),(3,2)]/\y6 263/\y1 263 5/\bW TP 263=some (.agg [.nilslice,.int .i64 0,.int .i64 0,.int .i64 0,.int .i64 0])/\y7 263 0 0 128/\y7 263 1 1 30/\y7 263 2 3 30/\eL TP 263=some [(0,1),(1,2),(3,2)]/\y5 263/\y0 273/\y1 273 1/\OK 273/\y5 273/\y0 289/\y1 289 1/\y0 291/\y1 291 1/\y0 293/\y1 293 1/\y6 308/\y1 308 2/\y2 308 16/\y9 308/\y7 308 0 0 3/\y7 308 1 1 3/\y4 308 2/\vf 308/\y5 308/\bM TP 318=some 79/\y0 349:=by and_intros<;>(show _=_;kernel_rfl)
def za0:y1 349 1/\y1 356 4/\Xr 356/\y7 356 0 0 3/\y7 356 1 1 3/\y7 356 2 2 30/\eL TP 356=some [(0,1),(1,1),(2,2)]/\y5 356/\y6 359/\y1 359 6/\bW TP 359=some (.agg [.str ⟨#[]⟩,.int .i64 0,.int .i64 0,.int .i64 0,.int .i64 0,.int .i64 0])/\y7 359 0 0 154/\y7 359 1 4 30/\y5 359/\Bm TP 362=some (3,3)/\y0 364/\y1 364 1/\bW TP 364=some (.nilptr)/\y5 364/\bW TP 371=some (.agg [.nilslice,.nilslice,.int .i64 0,.int .i64 0,.int .i64 0,.int .i64 0,.int .i64 0,.int .i64 0,.int .i64 0,.int .i64 0,.int .i64 0,.str ⟨#[]⟩,.int .i64 0,.int .i64 0,.int .i64 0,.int .i64 0,.int .i64 0,.int .i64 0,.int .i64 0])/\y7 371 0 0 32/\y7 371 1 6 261/\y7 371 2 11 150/\eL TP 371=some [(0,6),(6,5),(11,8)]/\bM TP 378=some 382/\y0 380/\y1 380 1/\y6 382/\y1 382 8/\y2 382 88/\bW TP 382=some (.agg [.str ⟨#[]⟩,.int .i64 0,.int .i64 0,.int .i64 0,.int .i64 0,.int .i64 0,.nilslice,.int .i64 0])/\y7 382 0 0 137/\y7 382 1 7 3/\eL TP 382=some [(0,7),(7,1)]/\y5 382/\y0 389/\y1 389 1/\OK 389/\y5 389/\y6 398:=by and_intros<;>(show _=_;kernel_rfl)
def zaZ:y1 398 2/\y9 398/\y7 398 0 0 3/\y7 398 1 1 3/\vf 398/\Xs 398/\y5 398/\y0 400/\y1 400 1/\OK 400/\y5 400/\bW TP 410=some (.agg [.nilslice,.nilslice,.int .i64 0,.nilslice])/\y7 410 0 0 25/\y7 410 1 3 79/\eL TP 410=some [(0,3),(3,1)]/\y0 413/\y1 413 1/\bW TP 413=some (.nilptr)/\y5 413/\y6 417/\y1 417 2/\y9 417/\y7 417 0 0 3/\y7 417 1 1 3/\vf 417/\y5 417/\D9 TP 417=.agg [.int,.int]/\y6 419/\y1 419 2/\y9 419/\y7 419 0 0 3/\y7 419 1 1 3/\vf 419/\y5 419/\y0 420/\y1 420 1/\OK 420/\y5 420/\y0 428/\y1 428 1:=by and_intros<;>(show _=_;kernel_rfl)
def zaY:y6 434/\y1 434 6/\bW TP 434=some (.agg [.int .i64 0,.int .i64 0,.int .i64 0,.int .i64 0,.int .i64 0,.int .i64 0])/\y7 434 0 0 3/\y7 434 1 1 3/\y7 434 2 2 3/\y7 434 3 3 3/\y7 434 4 4 3/\y7 434 5 5 3/\eL TP 434=some [(0,1),(1,1),(2,1),(3,1),(4,1),(5,1)]/\yX TP 434=some [.int,.int,.int,.int,.int,.int]/\y5 434/\y6 439/\y1 439 3/\bW TP 439=some (.agg [.int .i64 0,.int .i64 0,.int .i64 0])/\y7 439 0 0 3/\y7 439 1 1 3/\y7 439 2 2 3/\y8 439/\y5 439/\y0 451/\y1 451 1/\y4 451 1/\y0 454/\y1 454 1/\Bm TP 454=some (417,419)/\bW TP 456=some (.agg [.nilslice,.int .i64 0,.int .i64 0,.int .i64 0,.nilslice,.any])/\y7 456 0 0 39/\y7 456 1 4 248/\y7 456 2 5 454/\eL TP 456=some [(0,4),(4,1),(5,1)]/\y0 462/\y1 462 1/\y6 464/\y1 464 2/\bW TP 464=some (.agg [.int .i64 0,.nilfunc])/\y7 464 0 0 3/\y7 464 1 1 462/\y4 464 2/\vf 464:=by and_intros<;>(show _=_;kernel_rfl)
def zaX:y5 464/\bM TP 465=some 464/\bM TP 470=some 451/\Xv 474/\ik TP 474=some (5,3)/\y5 474/\bW TP 475=some (.agg [.nilfunc,.nilfunc,.nilfunc,.nilfunc,.nilfunc])/\ik TP 475=some (5,380)/\OL 475/\y6 478/\y1 478 4/\Xr 478/\ik TP 478=some (4,3)/\OL 478:=by and_intros<;>(show _=_;kernel_rfl)
attribute [go_sem] yT0 yT1 yT2 yT3 yT4 yT5 yT6 yT7 yT8 yT9 za0 zaZ zaY zaX
def zaq:qP TP 3 5=some .u8:=by kernel_rfl
def zap:qP TP 5 3=some .i64:=by kernel_rfl
def VS:qP TP 3 274=some .u64:=by kernel_rfl
def VT:qP TP 274 3=some .i64:=by kernel_rfl
attribute [go_sem] zaq zap VS VT
def cH:eV TP:=VM (by kernel_rfl)
def Mn:Hints:=dx [(66,.low),(67,.low),(68,.low),(69,.low),(70,.low),(6,.slot 1 4),(7,.slot 0 4),(71,.low),(1006070,.sto),(72,.low),(73,.low),(74,.low),(75,.low)]
def zba:cu Mn f12=true:=by kernel_rfl
def za9:cu H0 f18=true:=by kernel_rfl
def H19:Hints:=dx [(50,.low),(1013049,.sto),(51,.low)]
def za8:cu H19 f19=true:=by kernel_rfl
def H31:Hints:=dx [(52,.low),(1015051,.sto),(53,.low)]
def za7:cu H31 f31=true:=by kernel_rfl
def za6:cu H0 f39=true:=by kernel_rfl
def za5:cu H0 f43=true:=by kernel_rfl
def Mm:Hints:=dx [(70,.low),(1009069,.sto)]
def Sd:cu Mm f51=true:=by kernel_rfl
def Zx:Hints:=dx [(7,.low),(1000999,.sto),(8,.low),(1001999,.sto)]
def Ud:cu Zx f108=true:=by kernel_rfl
def Zw:Hints:=dx [(78,.low),(1006077,.sto),(79,.low),(80,.low),(81,.low),(88,.low)]
def Z4:cu Zw f111=true:=by kernel_rfl
def Zv:Hints:=dx [(44,.app 39),(45,.low),(46,.low),(47,.low),(48,.low),(49,.low)]
def Z3:cu Zv f113=true:=by kernel_rfl
def TY:Hints:=dx [(61,.low),(1006060,.sto),(64,.low)]
def Uc:cu TY f114=true:=by kernel_rfl
def Zu:Hints:=dx [(68,.low),(1006065,.sto),(57,.low),(1006049,.sto)]
def Z2:cu Zu f115=true:=by kernel_rfl
def TX:Hints:=dx [(40,.low),(1006037,.sto)]
def Ub:cu TX f116=true:=by kernel_rfl
def Z1:cu H0 f147=true:=by kernel_rfl
def Z0:cu H0 f154=true:=by kernel_rfl
def ZZ:cu H0 f156=true:=by kernel_rfl
def ZY:cu H0 f158=true:=by kernel_rfl
def ZX:cu H0 f168=true:=by kernel_rfl
def zB:Hints:=dx [(19,.low),(1004018,.nop),(62,.thr),(64,.thr)]
def ZW:cu zB f225=true:=by kernel_rfl
def Zt:Hints:=dx [(36,.low),(1004035,.nop)]
def ZV:cu Zt f254=true:=by kernel_rfl
def OH:Hints:=dx [(10,.app 5),(11,.low),(12,.low),(13,.low),(14,.low),(15,.low)]
def ZU:cu OH f267=true:=by kernel_rfl
def TW:Hints:=dx [(7,.low),(1000006,.sto),(8,.low)]
def M7:cu TW f284=true:=by kernel_rfl
def Zs:Hints:=dx [(22,.bar),(39,.bar)]
def ZT:cu Zs f291=true:=by kernel_rfl
def Zr:Hints:=dx [(28,.low),(1002024,.sto)]
def ZS:cu Zr f292=true:=by kernel_rfl
def ES:Hints:=dx [(31,.low),(1012030,.sto),(32,.low),(33,.low),(34,.low),(35,.low),(36,.low)]
def ZR:cu ES f324=true:=by kernel_rfl
def Zq:Hints:=dx [(34,.low),(35,.low),(36,.low),(37,.low),(38,.low),(39,.low),(40,.low),(41,.low),(42,.low),(43,.low),(44,.low),(45,.low),(14,.slot 2 2),(15,.slot 1 2),(16,.slot 0 1),(46,.low),(1014045,.sto),(47,.low),(48,.low),(49,.low),(50,.low),(51,.low),(52,.low),(53,.low),(54,.low),(55,.low),(56,.low),(57,.low),(58,.low),(59,.low),(60,.low),(61,.low),(62,.low),(63,.low),(64,.low),(65,.low),(66,.low),(1015057,.sto)]
def ZQ:cu Zq f349=true:=by kernel_rfl
def TV:Hints:=dx [(36,.low),(1002035,.nop)]
def ZP:cu TV f353=true:=by kernel_rfl
def Zp:Hints:=dx [(13,.low),(14,.low),(15,.low),(16,.low),(17,.low),(18,.low),(19,.low),(20,.low),(21,.low),(11,.slot 1 2),(12,.slot 0 2),(22,.low),(1011021,.sto),(23,.low),(24,.low),(25,.low),(26,.low),(27,.low),(28,.low),(29,.low),(30,.low)]
def ZO:cu Zp f363=true:=by kernel_rfl
def Zo:Hints:=dx [(40,.low),(1006039,.sto),(41,.low),(42,.low),(43,.low),(44,.low),(45,.low),(46,.low),(47,.low),(48,.low),(49,.low),(50,.low),(51,.low),(52,.low),(53,.low),(54,.low),(55,.low),(56,.low),(57,.low),(10,.low),(11,.low),(12,.low),(13,.low),(14,.low),(8,.slot 1 4),(9,.slot 0 8),(15,.low),(1008014,.sto),(16,.low),(17,.low),(18,.low),(19,.low),(20,.low)]
def ZN:cu Zo f366=true:=by kernel_rfl
def OG:Hints:=dx [(82,.low),(1004081,.sto)]
def ZM:cu OG f370=true:=by kernel_rfl
def Zn:Hints:=dx [(6,.low),(1000999,.sto),(7,.low)]
def Ua:cu Zn f379=true:=by kernel_rfl
def Zm:Hints:=dx [(16,.thr)]
def ZL:cu Zm f381=true:=by kernel_rfl
def BR:Hints:=dx [(23,.low),(1005022,.sto)]
def ZK:cu BR f382=true:=by kernel_rfl
def Zl:Hints:=dx [(29,.low),(1002028,.sto),(30,.low),(31,.low),(32,.low),(33,.low)]
def ZJ:cu Zl f392=true:=by kernel_rfl
def Zk:Hints:=dx [(67,.low),(1004066,.nop),(9,.low),(10,.low),(11,.low),(12,.low),(13,.low),(14,.low),(15,.low),(16,.low),(17,.low),(6,.slot 1 2),(7,.slot 0 8),(18,.low),(1006017,.sto),(19,.low),(20,.low),(21,.low),(22,.low),(23,.low),(24,.low),(25,.low),(26,.low),(1007021,.sto)]
def ZI:cu Zk f398=true:=by kernel_rfl
def OF:Hints:=dx [(27,.low),(28,.low),(29,.low),(30,.low),(31,.low),(6,.slot 1 2),(7,.slot 0 2),(32,.low),(1006031,.sto),(33,.low),(34,.low),(35,.low)]
def ZH:cu OF f406=true:=by kernel_rfl
def Zj:Hints:=dx [(36,.low),(37,.low),(38,.low),(39,.low),(40,.low),(41,.low),(4,.slot 1 2),(5,.slot 0 2),(42,.low),(1004041,.sto),(43,.low),(44,.low),(45,.low),(46,.low)]
def ZG:cu Zj f410=true:=by kernel_rfl
end Abs
end Go.Proofs.YtgafommgcfhkkaaGreatDoor
