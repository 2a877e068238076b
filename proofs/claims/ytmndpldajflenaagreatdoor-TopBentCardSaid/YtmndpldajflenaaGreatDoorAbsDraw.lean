/- LAWS: regions of any order: what the order of the text comes to, every order comes to.
  L -/
import Derived.Test.YtmndpldajflenaaGreatDoorAbsFunX
import Derived.Orders
set_option linter.all false
namespace Go.Proofs.YtmndpldajflenaaGreatDoor
namespace Abs
variable {P:Program} {H:Hints} {ops:Array Oper} {Q:Ex->AAct->Prop}
theorem jy{mu}{e e'}{h}(o)(he:∀x∈o.op.operands,e x=e' x):aW P mu o e h=aW P mu o e' h:=by
 obtain⟨dst,op,type,pos,after,guard⟩:=o;have pairs:∀ps:Array (Nat×Operand),(∀x∈ps.map (·.2),e x=e' x)->(ps.toList.map λq=>(q.1,e q.2))=(ps.toList.map λq=>(q.1,e' q.2)):=λps hp=>
  lv λq hm=>by
   simp only[hp q.2 (Array.mem_map.2 ⟨q,DI.1 hm,rfl⟩)]
 have lists:∀xs:Array Operand,(∀x∈xs,e x=e' x)->xs.toList.map e=xs.toList.map e':=λxs hp=>
  lv λx hm=>hp x (DI.1 hm)
 cases op<;>simp only[Op.operands]at he<;>simp only[aW]
 case build t ps=>rw[pairs ps λx hx=>he x (by simpa using hx)]
 case buildSlice t n ps=>rw[pairs ps λx hx=>he x (by simpa using hx)]
 case makeFunc fn first cap=>rw[lists first λx hx=>he x (by simp[hx]),lists cap λx hx=>he x (by simp[hx])]
 case slice t x lo hi mx=>
  have h0:e x=e' x:=he x (by simp);have h1:lo.map e=lo.map e':=by cases lo with|none=>rfl|some y=>simp only[dy,he y (by simp)]
  have h2:hi.map e=hi.map e':=by cases hi with|none=>rfl|some y=>simp only[dy,he y (by simp)]
  have h3:mx.map e=mx.map e':=by cases mx with|none=>rfl|some y=>simp only[dy,he y (by simp)]
  rw[h0,h1,h2,h3]
 case call c=>
  have ha:c.args.toList.map e=c.args.toList.map e':=lists c.args λx hx=>he x (by simp[Call.operands,hx])
  cases hc:c.callee with
  |value f=>simp only[ha,he f (by simp[Call.operands,hc])]
  |builtin b=>simp only[ha]
  |invoke r mm=>simp only[ha,he r (by simp[Call.operands,hc])]
 case defer c=>
  have ha:c.args.toList.map e=c.args.toList.map e':=lists c.args λx hx=>he x (by simp[Call.operands,hx])
  cases hc:c.callee with
  |value f=>simp only[ha,he f (by simp[Call.operands,hc])]
  |builtin b=>rfl
  |invoke r mm=>rfl
 case makeMap t r=>
  cases r with
  |none=>rfl
  |some y=>simp only[dy,he y (by simp)]
 all_goals (first|rfl|(simp_all;done))
theorem Ih{A:AAct}{dst}{v}{h}{x}(hx:∀d,dst=some d->x≠.tmp d):(A.put dst v h).eval x=A.eval x:=by
 cases dst with
 |none=>rfl
 |some d=>
  cases x with
  |tmp t=>
   have:t≠d:=λe=>hx d rfl (e▸rfl)
   simp[AAct.put,AAct.eval,rQ,this]
  |_=>rfl
theorem iU{A}{dst}{v}{h}{o}(hd:∀d,dst=some d->d∉o.looksAt ops):aX ops (A.put dst v h) o=aX ops A o:=by
 cases dst with
 |none=>rfl
 |some d=>
  unfold aX
  cases hg:o.guard with
  |none=>rfl
  |some gw=>
   obtain⟨g,want⟩:=gw;simp only;unfold m9
   cases ht:(ops[g]?).bind (·.dst) with
   |none=>rfl
   |some t=>
    have hne:t≠d:=λe=>hd d rfl (by subst e;simp[Oper.looksAt,hg,ht]);simp[AAct.put,rQ,hne]
theorem Af(A:AAct){x y}(v u)(h1 h2 h3)(h:∀d,x=some d->y≠some d):(A.put x v h1).put y u h2=(A.put y u h3).put x v h2:=by
 cases x with
 |none=>cases y<;>rfl
 |some d=>
  cases y with
  |none=>rfl
  |some e=>
   have hne:d≠e:=λhe=>h d rfl (he▸rfl);simp only[AAct.put,AAct.mk.injEq,true_and,and_true];funext s;simp only[rQ];by_cases h1:s=d
   .by_cases h2:s=e
    .exact absurd (h1.symm.trans h2) hne
    .simp[h1,hne]
   .simp[h1]
theorem bL.refl(h):bL h h:=λ_ _ e _=>e
theorem bL.trans{a b c}(h:bL a b)(k:bL b c):bL a c:=λid o e hd=>k id o (h id o e hd) hd
theorem bL.app(h u):bL h (h++u):=λid o e _=>by
 rw[br (aA.1 e).1];exact e
theorem pX{h u}(hs:bL h u){id sz:Nat}{xs}(hl:h[id]?=some (.row sz xs)):u[id]?=some (.row sz xs):=hs id _ hl rfl
theorem iS{h u}(hs:bL h u){id ver sz}(hl:cY h id ver=some sz):cY u id ver=some sz:=by
 obtain⟨xs,h1,h2⟩:=fR hl;simp[cY,pX hs h1,h2]
def dl (F:Heap->OR) (h u:Heap):Prop:=(∀v,F h=.val v h->F u=.val v u)/\∀f a,F h=.call f a->F u=.call f a
theorem dl.const{F}{h u}(k:(∃v,∀h,F h=.val v h)\/(∃f a,∀h,F h=.call f a)\/((∀v,F h≠.val v h)/\∀f a,F h≠.call f a)):dl F h u:=by
 rcases k with⟨v,k⟩|⟨f,a,k⟩|⟨k1,k2⟩
 .refine⟨λv' e=>?_,λf a e=>?_⟩
  .rw[k]at e;cases e;exact k _
  .rw[k]at e;cases e
 .refine⟨λv' e=>?_,λf a e=>?_⟩
  .rw[k]at e;cases e
  .rw[k]at e;cases e;exact k _
 .exact⟨λv e=>absurd e (k1 v),λf a e=>absurd e (k2 f a)⟩
theorem al{h}{X:AV->Prop}{Y:FuncId->List AV->Prop}:(∀v,OR.stuck=OR.val v h->X v)/\∀f a,OR.stuck=OR.call f a->Y f a:=
 ⟨λ_ e=>(by cases e),λ_ _ e=>(by cases e)⟩
theorem pL(v)(h u):dl (λh=>fP h v) h u:=by
 cases v with
 |none=>exact .const (.inr (.inr ⟨λv=>by simp[fP],λf a=>by simp[fP]⟩))
 |some v=>exact .const (.inl ⟨v,λ_=>rfl⟩)
theorem nL(v)(h u):dl (λh=>pp h v) h u:=by
 cases v with
 |none=>exact .const (.inr (.inr ⟨λv=>by simp[pp],λf a=>by simp[pp]⟩))
 |some v=>exact .const (.inl ⟨.p v,λ_=>rfl⟩)
theorem aI(h u):dl (λ_=>.stuck) h u:=.const (.inr (.inr ⟨λv=>by simp,λf a=>by simp⟩))
theorem aR(v)(h u):dl (λh=>.val v h) h u:=.const (.inl ⟨v,λ_=>rfl⟩)
theorem HK(T)(x)(h u)(hs:bL h u):dl (lr P T x) h u:=by
 cases x with
 |p q=>
  cases q with
  |ptr sz xs i o=>
   show dl (λh=>match xs[i]? with|some v=>fP h (jc P T (.p v) o)|none=>.stuck) h u
   cases xs[i]? with
   |none=>exact aI h u
   |some v=>exact pL _ h u
  |_=>exact aI h u
 |ptr id ver i o=>
  unfold dl lr;dsimp only
  cases hid:h[id]? with
  |none=>exact al
  |some ob=>
   cases ob with
   |row sz xs=>
    rw[pX hs hid];dsimp only;split
    .cases xs[i]? with
     |none=>exact al
     |some v=>exact pL _ h u
    .exact al
   |_=>exact al
 |_=>exact aI h u
theorem Ag{id ver}{v}(h u)(hs:bL h u):dl (λh=>match cY h id ver with|some _=>.val v h|none=>.stuck) h u:=by
 unfold dl;dsimp only
 cases hl:cY h id ver with
 |none=>exact al
 |some sz=>rw[iS hs hl];exact⟨λv e=>(by cases e;rfl),λf a e=>(by cases e)⟩
theorem yx(T)(x)(f)(h u)(hs:bL h u):dl (jP P T x f) h u:=by
 unfold jP
 cases nW P T f with
 |none=>exact aI h u
 |some q=>
  obtain⟨off,t⟩:=q;dsimp only
  cases bj P t with
  |none=>exact aI h u
  |some n=>
   dsimp only;by_cases hn:n=0
   .simp only[hn,if_true];exact aI h u
   .simp only[hn,if_false]
    cases x with
    |p q=>cases q<;>first|exact aR _ h u|exact aI h u
    |ptr id ver i o=>exact Ag h u hs
    |_=>exact aI h u
theorem FO(T)(x)(f)(h u):dl (qb P T x f) h u:=by
 unfold qb
 cases nW P T f with
 |none=>exact aI h u
 |some q=>
  obtain⟨off,t⟩:=q
  cases x with
  |p q=>cases q<;>first|exact pL _ h u|exact aI h u
  |agg cs=>exact pL _ h u
  |_=>exact aI h u
theorem b6{c}[Decidable c]{F}{h u}(k:dl F h u):dl (λh=>if c then F h else .stuck) h u:=by
 by_cases hc:c
 .simp only[hc,if_true];exact k
 .simp only[hc,if_false];exact aI h u
theorem yw(T)(x ix)(h u)(hs:bL h u):dl (fc P T x ix) h u:=by
 cases ix with
 |p qi=>
  cases qi with
  |int k i=>
   cases x with
   |p q=>
    cases q with
    |slice sz xs full=>
     unfold dl fc;dsimp only
     cases aH P T with
     |none=>exact al
     |some e=>exact b6 (aR _ h u)
    |ptr sz xs j o=>
     unfold dl fc;dsimp only
     cases cz P T with
     |none=>exact al
     |some q=>
      obtain⟨n,e⟩:=q;dsimp only
      cases bj P e with
      |none=>exact al
      |some s=>exact b6 (aR _ h u)
    |_=>exact aI h u
   |slice id ver off len=>
    unfold dl fc;dsimp only
    cases aH P T with
    |none=>exact al
    |some e=>
     cases hid:h[id]? with
     |none=>exact al
     |some ob=>
      cases ob with
      |row sz xs=>
       rw[pX hs hid]
       exact b6 (aR _ h u)
      |_=>exact al
   |arr id ver j o n=>
    unfold dl fc;dsimp only
    cases aH P T with
    |none=>exact al
    |some e=>
     cases hl:cY h id ver with
     |none=>exact al
     |some z=>rw[iS hs hl];exact b6 (aR _ h u)
   |ptr id ver j o=>
    unfold dl fc;dsimp only
    cases cz P T with
    |none=>exact al
    |some q=>
     obtain⟨n,e⟩:=q;dsimp only
     cases bj P e with
     |none=>exact al
     |some s=>
      cases hl:cY h id ver with
      |none=>exact al
      |some z=>rw[iS hs hl];exact b6 (aR _ h u)
   |_=>exact aI h u
  |_=>exact aI h u
 |_=>exact aI h u
theorem D4(T)(x k)(ok)(h u)(hs:bL h u):dl (ng P T x k ok) h u:=by
 unfold dl ng
 cases sj P T with
 |none=>exact al
 |some q=>
  obtain⟨K,E⟩:=q
  cases x with
  |ref t id=>
   cases t with
   |mp=>
    cases k with
    |p k=>
     dsimp only
     cases hid:h[id]? with
     |none=>exact al
     |some ob=>
      cases ob with
      |mp es=>
       rw[hs id _ hid rfl]
       cases ax P E with
       |none=>exact al
       |some z=>
        dsimp only;by_cases hk:qT P K k=true
        .simp only[if_pos hk]
         cases lb k es with
         |none=>exact al
         |some r=>cases r<;>exact aR _ h u
        .simp only[if_neg hk];exact al
      |_=>exact al
    |_=>exact al
   |_=>exact al
  |_=>exact al
theorem FN(T)(x ix)(h u):dl (sW P T x ix) h u:=by
 have agg:∀(x:AV) (i:Int),dl (λh=>match cz P T with
   |some (n,e)=>match bj P e with|some s=>if 0<=i/\i<n then fP h (jc P e x (i.toNat*s)) else .stuck|none=>.stuck
   |none=>.stuck) h u:=by
  intro x i
  cases cz P T with
  |none=>exact aI h u
  |some q=>
   obtain⟨n,e⟩:=q;dsimp only
   cases bj P e with
   |none=>exact aI h u
   |some s=>exact b6 (pL _ h u)
 cases ix with
 |p qi=>
  cases qi with
  |int k i=>
   cases x with
   |p q=>
    cases q with
    |str s=>
     refine b6 ?_
     cases s[i.toNat]? with
     |none=>exact aI h u
     |some b=>exact aR _ h u
    |agg cs=>exact agg _ i
    |_=>exact aI h u
   |agg cs=>exact agg _ i
   |_=>exact aI h u
  |_=>exact aI h u
 |_=>exact aI h u
theorem FM(T)(x)(lo hi mx)(h u)(hs:bL h u):dl (p9 P T x lo hi mx) h u:=by
 unfold dl p9
 cases j6 lo with
 |none=>exact al
 |some l=>
  cases j6 hi with
  |none=>exact al
  |some r=>
   cases j6 mx with
   |none=>exact al
   |some m=>
    cases x with
    |p q=>
     cases q with
     |slice sz xs full=>
      dsimp only
      cases aH P T with
      |none=>exact al
      |some e=>
       cases jf l r xs.length with
       |none=>exact al
       |some ab=>
        cases m with
        |none=>exact b6 (aR _ h u)
        |some m=>exact b6 (b6 (aR _ h u))
     |str s=>
      dsimp only
      cases jf l r s.size with
      |none=>exact al
      |some ab=>
       cases m with
       |none=>exact b6 (aR _ h u)
       |some m=>exact al
     |nilslice=>
      dsimp only
      cases aH P T with
      |none=>exact al
      |some e=>
       cases jf l r 0 with
       |none=>exact al
       |some ab=>
        cases m with
        |none=>exact b6 (aR _ h u)
        |some m=>exact al
     |_=>exact al
    |ptr id ver i o=>
     dsimp only
     cases cz P T with
     |none=>exact al
     |some q=>
      obtain⟨n,e⟩:=q
      cases m with
      |some m=>exact al
      |none=>
       dsimp only
       cases jf l r n with
       |none=>exact al
       |some ab=>
        cases hl:cY h id ver with
        |none=>exact al
        |some z=>rw[iS hs hl];exact b6 (aR _ h u)
    |slice id ver off len=>
     dsimp only
     cases aH P T with
     |none=>exact al
     |some e=>
      cases hid:h[id]? with
      |none=>exact al
      |some ob=>
       cases ob with
       |row sz xs=>
        rw[pX hs hid]
        cases jf l r len with
        |none=>
         cases m with
         |none=>exact b6 (aR _ h u)
         |some m=>exact b6 (aR _ h u)
        |some ab=>
         cases m with
         |none=>exact b6 (aR _ h u)
         |some m=>exact b6 (aR _ h u)
       |_=>exact al
    |_=>exact al
theorem JQ(T)(x)(h u)(hs:bL h u):dl (sV P T x) h u:=by
 cases x with
 |p q=>
  cases q with
  |str s=>exact b6 (aR _ h u)
  |slice sz xs full=>exact b6 (aR _ h u)
  |nilslice=>exact b6 (aR _ h u)
  |agg cs=>
   unfold dl sV;dsimp only
   cases cz P T with
   |none=>exact al
   |some q=>exact aR _ h u
  |_=>exact aI h u
 |arr id ver i o n=>
  unfold dl sV;dsimp only
  cases hl:cY h id ver with
  |none=>simp only[Option.isSome_none,gZ,and_false,if_false];exact al
  |some z=>rw[iS hs hl];exact b6 (aR _ h u)
 |slice id ver off len=>
  unfold dl sV;dsimp only
  cases hl:cY h id ver with
  |none=>simp only[Option.isSome_none,gZ,and_false,if_false];exact al
  |some z=>rw[iS hs hl];exact b6 (aR _ h u)
 |_=>exact aI h u
theorem JR(op)(T)(c)(x y)(h u):dl (xp P op T c x y) h u:=by
 unfold xp;split
 .split
  .exact nL _ h u
  .split
   .exact nL _ h u
   .exact aI h u
 .exact nL _ h u
 .split
  .exact nL _ h u
  .exact nL _ h u
  .exact aI h u
theorem LC(op)(x)(h u):dl (Dt op x) h u:=by
 unfold Dt;split
 .exact aR _ h u
 .exact aR _ h u
 .exact aI h u
theorem Cb(a b)(x)(h u):dl (lS P a b x) h u:=by
 unfold lS;split
 .split
  .exact aR _ h u
  .exact aI h u
 .exact b6 (aR _ h u)
 .rename_i y ys full
  cases hn:pU (y::ys) with
  |some ns=>exact b6 (aR _ h u)
  |none=>exact b6 (aI h u)
 .exact aI h u
theorem Ca(x)(i)(h u):dl (lR x i) h u:=by
 unfold lR;split
 .split
  .exact aR _ h u
  .exact aI h u
 .split
  .exact aR _ h u
  .exact aI h u
 .exact aI h u
theorem FQ(T)(ps)(h u):dl (qc P T ps) h u:=by
 unfold qc;split
 .split
  .split
   .exact aR _ h u
   .exact aI h u
  .split
   .split
    .split
     .exact aR _ h u
     .exact aI h u
    .exact aI h u
   .exact aI h u
 .exact aI h u
theorem wV(T)(mu)(n)(ps)(h u):dl (iW P T mu n ps) h u:=by
 unfold dl iW
 cases aH P T with
 |none=>exact al
 |some e=>
  dsimp only
  cases bj P e with
  |none=>exact al
  |some sz=>
   dsimp only
   cases od 0 sz ps with
   |none=>exact al
   |some xs=>
    dsimp only;by_cases hc:xs.length=n/\sz≠0/\n*sz<=16777216/\fJ P e sz=true
    .simp only[hc,and_self,not_false_eq_true,ne_eq,if_true]
     cases mu with
     |false=>
      cases bV xs with
      |some l=>exact aR _ h u
      |none=>exact⟨λv e=>(by injection e with e1 e2;exact absurd (congrArg List.length e2) (by simp)),λf a e=>(by cases e)⟩
     |true=>exact⟨λv e=>(by injection e with e1 e2;exact absurd (congrArg List.length e2) (by simp)),λf a e=>(by cases e)⟩
    .simp only[hc,if_false];exact al
theorem D5(f)(args)(h u):dl (λ_=>eX f args) h u:=by
 refine⟨λv e=>?_,λf a e=>e⟩;dsimp only at e;unfold eX at e;split at e<;>cases e
theorem wU(A)(ok)(x)(h u):dl (iV P A ok x) h u:=by
 unfold dl iV;split
 .split
  .exact⟨λv e=>(by cases e;rfl),λf a e=>(by cases e)⟩
  .split
   .split
    .exact⟨λv e=>(by cases e;rfl),λf a e=>(by cases e)⟩
    .exact al
   .exact al
 .split
  .exact⟨λv e=>(by cases e;rfl),λf a e=>(by cases e)⟩
  .split
   .split
    .exact⟨λv e=>(by cases e;rfl),λf a e=>(by cases e)⟩
    .exact al
   .exact al
 .exact al
theorem u7{mu}{o}(e)(hq:bR o.op=true)(h u)(hs:bL h u):dl (aW P mu o e) h u:=by
 obtain⟨dst,op,type,pos,after,guard⟩:=o;cases op<;>first|(simp only[bR,gZ]at hq;done)|skip
 case move x=>exact aR _ h u
 case assign x=>exact aR _ h u
 case pick c a b=>
  unfold dl aW;dsimp only;split
  .exact aR _ h u
  .exact al
 case build t ps=>exact FQ _ _ h u
 case buildSlice t n ps=>exact wV _ _ _ _ h u
 case load t a=>exact HK _ _ h u hs
 case nilCheck x=>
  unfold dl aW;dsimp only;split
  .exact aR _ h u
  .exact aR _ h u
  .split
   .exact aR _ h u
   .exact al
  .exact Ag h u hs
  .exact al
 case binOp op t x y ty=>exact JR _ _ _ _ _ h u
 case unOp op t x=>exact LC _ _ h u
 case convert a b x=>exact Cb _ _ _ h u
 case makeInterface t x=>
  unfold dl aW;dsimp only;split
  .split
   .exact aR _ h u
   .split
    .exact aR _ h u
    .exact al
   .exact al
  .exact al
 case makeFunc f a c=>exact b6 (aR _ h u)
 case slice t x lo hi mx=>exact FM _ _ _ _ _ h u hs
 case fieldAddr t x f=>exact yx _ _ _ h u hs
 case field t x f=>exact FO _ _ _ h u
 case indexAddr t x i=>exact yw _ _ _ h u hs
 case index t x i=>exact FN _ _ _ h u
 case extract x i=>exact Ca _ _ h u
 case lookup t x k ok=>exact D4 _ _ _ _ h u hs
 case typeAssert x t a ok=>exact wU _ _ _ h u
 case call c=>
  unfold dl aW;dsimp only
  cases hc:c.callee with
  |value f=>exact D5 _ _ h u
  |invoke r mm=>simp[bR,hc]at hq
  |builtin b=>
   dsimp only;cases b<;>first|(simp[bR,hc]at hq;done)|skip
   all_goals
    unfold kz;split
    .exact b6 (JQ _ _ h u hs)
    .simp_all
    .exact aR _ h u
    .exact aR _ h u
    .simp_all
    .simp_all
    .simp_all
    .exact al
end Abs
end Go.Proofs.YtmndpldajflenaaGreatDoor
namespace Go.Proofs.YtmndpldajflenaaGreatDoor
namespace Abs
variable {P:Program} {H:Hints} {ops:Array Oper} {Q:Ex->AAct->Prop}
def dB (P:Program) (H:Hints) (ops:Array Oper) (Q:Ex->AAct->Prop) (o:Oper) (K:Heap->AAct->Prop) (hs:Heap) (A:AAct):Prop:=
 oC (λ_=>L7
   (λ_=>ja P A o.dst (λB=>K B.h B) Q (aW P (au H) o A.eval A.h))
   (λ_=>xm A.h (λv h=>K hs (A.put o.dst v h)) (aW P (au H) o A.eval A.h))
   (λ_=>tN P A.h (λv=>K hs (A.put o.dst v A.h)) (aW P (au H) o A.eval A.h))
   (λ_=>tN P hs (λv=>K hs (A.put o.dst v A.h)) (aW P (au H) o A.eval hs))
   (λj sz=>oF hs A.h j sz (λv h=>K hs (A.put o.dst v h)) (fo P A.eval o.op))
   (λ_=>rV P hs A.h A.eval (λh=>K hs (A.put o.dst (.p (.tuple [])) h)) o.op)
   (λ_=>sc P A.h A.eval (K hs (A.put o.dst (.p (.tuple [])) A.h)) o.op)
   (λt=>mK P t (dE o.op) hs A.h (λv h=>K hs (A.put o.dst v h)) (λh=>aW P (au H) o A.eval h))
   (λ_=>ug P Q A (λv=>K hs (A.put o.dst v A.h)) (aW P (au H) o A.eval A.h))
   (λ_=>n4 P H Q hs A (λv h=>K hs (A.put o.dst v h)) (aW P (au H) o A.eval A.h))
   (bh H o))
  (λ_=>K hs (A.put o.dst (.p (.tuple [])) A.h)) (aX ops A o)
theorem BX(o)(rest)(hs)(A):bi P H ops Q (o::rest) hs A=dB P H ops Q o (bi P H ops Q rest) hs A:=by
 rw[bi];rfl
inductive HE where
 |app (t:Heap)
 |set (id:Nat) (o:AObj)
def HE.ap:HE->Heap->Heap
 |.app t,h=>h++t
 |.set id o,h=>h.set id o
theorem sL{hs:Heap}{i:Nat}(h:il hs i=true):i<hs.length:=by
 unfold il at h;rcases aw i hs.length with h1|h1
 .exact h1
 .rw[fq h1]at h;cases h
theorem yh{hs:Heap}{i:Nat}(h:eG hs i=true)(hi:i<hs.length):il hs i=true:=by
 unfold eG at h;unfold il;rw[aT hi]at h |-;cases hx:hs[i]<;>rw[hx]at h<;>first|rfl|cases h
theorem jn(hs h:Heap):(bD hs h).length=h.length:=by simp[bD]
theorem jo(hs h:Heap)(i:Nat):(bD hs h)[i]?=if il hs i=true then(h[i]?).map λ_=>.dead else h[i]?:=by
 unfold bD;rw[ua];cases h[i]?<;>simp;split<;>rfl
theorem Gd(h:Heap):bD [] h=h:=by
 apply iv;intro i;rw[jo,if_neg (by simp[il])]
theorem Ea(hs:Heap):bD hs []=[]:=rfl
theorem Eb(d:AObj)(hs:Heap)(o:AObj)(h:Heap):bD (d::hs) (o::h)=(if d.isDead=true then .dead else o)::bD hs h:=by
 unfold bD;rw[List.mapIdx_cons]
 congr 1
 cases d<;>rfl
theorem oH(hs h:Heap):bL (bD hs h) h:=λi o e hd=>by
 rw[jo]at e;split at e
 .cases hx:h[i]? with
  |none=>rw[hx]at e;cases e
  |some q=>rw[hx]at e;cases e;cases hd
 .exact e
theorem xT{hs h:Heap}{i:Nat}(hi:il hs i=true)(ob:AObj):bD hs (h.set i ob)=bD hs h:=by
 apply iv;intro j;rw[jo,jo];by_cases hj:i=j
 .subst hj;rw[if_pos hi,if_pos hi];rcases aw i h.length with h1|h1
  .rw[fp h1,aT h1];rfl
  .rw[fq (by simpa using h1),fq h1]
 .rw[cq hj]
theorem uR(hs h g:Heap)(i:Nat):(jS hs h g)[i]?=if il hs i=true then(g[i]?).map λ_=>h.getD i .dead else g[i]?:=by
 unfold jS;rw[ua];cases g[i]?<;>simp;split<;>rfl
theorem kQ{hs h:Heap}(hl:hs.length<=h.length)(l:Heap):jS hs h (bD hs h++l)=h++l:=by
 apply iv;intro i;rw[uR];rcases aw i h.length with h1|h1
 .rw[br (by rw[jn];exact h1),br h1,jo,aT h1];split
  .simp[bB,aT h1]
  .rfl
 .have:¬il hs i=true:=λe=>by have:=sL e;omega
  rw[if_neg this,ca (by rw[jn];exact h1),ca h1,jn]
theorem mN{hs h:Heap}{id:Nat}(hid:il hs id=false)(ob:AObj):jS hs h ((bD hs h).set id ob)=h.set id ob:=by
 apply iv;intro i;rw[uR];by_cases hi:id=i
 .subst hi;rw[if_neg (by rw[hid];simp)];rcases aw id h.length with h1|h1
  .rw[fp (by rw[jn];exact h1),fp h1]
  .rw[fq (by rw[Hp,jn];exact h1),fq (by rw[Hp];exact h1)]
 .rw[cq hi,cq hi,jo];split
  .rcases aw i h.length with h1|h1
   .simp[bB,aT h1]
   .rw[fq h1];rfl
  .rfl
theorem xx{hs h:Heap}(hl:hs.length<=h.length){E:HE}(hE:(∃l,E=.app l)\/∃id ob,E=.set id ob/\hs.length<=id):jS hs h (E.ap (bD hs h))=E.ap h:=by
 rcases hE with⟨l,rfl⟩|⟨id,ob,rfl,hi⟩
 .exact kQ hl l
 .refine mN ?_ ob;rw[wD];intro e;have:=sL e;omega
theorem AA{hs h:Heap}{i sz:Nat}{xs:List AV}(e:(bD hs h)[i]?=some (.row sz xs)):h[i]?=some (.row sz xs)/\il hs i=false:=by
 rw[jo]at e;split at e
 .cases hx:h[i]? with
  |none=>rw[hx]at e;cases e
  |some q=>rw[hx]at e;cases e
 .rename_i hn;exact⟨e,by simpa using hn⟩
theorem Ez{hs h:Heap}{sz:Nat}{y:AV}{ys:List AV}(e:eY (bD hs h) sz y=some ys):eY h sz y=some ys:=by
 unfold eY at e |-;split at e
 .exact e
 .exact e
 .exact e
 .rename_i id ver off len;split at e
  .rename_i sz' xs hx;rw[(AA hx).1];exact e
  .cases e
 .cases e
theorem G'{hs h:Heap}(hl:hs.length<=h.length){T U:TypeId}{x y v:AV}{g:Heap}(e:iX P T U x y (bD hs h)=.val v g):iX P T U x y h=.val v (jS hs h g):=by
 have h0:jS hs h (bD hs h)=h:=by have:=kQ hl (h:=h) [];simpa using this
 unfold iX at e |-
 cases hT:aH P T with
 |none=>rw[hT]at e;cases e
 |some el=>
  rw[hT]at e;dsimp only at e |-;by_cases hU:(aH P U).isSome=false/\dc P U=false
  .rw[if_pos hU]at e;cases e
  .rw[if_neg hU]at e |-
   cases hz:bj P el with
   |none=>rw[hz]at e;cases e
   |some sz=>
    cases hb:iP P el with
    |none=>rw[hz,hb]at e;cases e
    |some bytes=>
     rw[hz,hb]at e;dsimp only at e |-
     cases hy:eY (bD hs h) sz y with
     |none=>rw[hy]at e;cases e
     |some ys=>
      rw[hy]at e;rw[Ez hy];dsimp only at e |-;by_cases hc:sz≠0/\bytes<=256/\fJ P el sz=true
      .rw[if_pos hc]at e |-
       cases x with
       |p q=>
        cases q with
        |nilslice=>
         dsimp only at e |-;split at e
         .rename_i hr;rw[if_pos hr];split at e
          .rename_i hn;rw[if_pos hn];cases e;rw[h0]
          .rename_i hn;rw[if_neg hn];cases e;rw[kQ hl,jn]
         .cases e
        |slice sz' xs full=>
         cases full with
         |false=>cases e
         |true=>
          dsimp only at e |-;split at e
          .rename_i hr;rw[if_pos hr];split at e
           .rename_i hn;rw[if_pos hn];cases e;rw[h0]
           .rename_i hn;rw[if_neg hn];cases e;rw[kQ hl,jn]
          .cases e
        |_=>cases e
       |slice id ver off len=>
        dsimp only at e |-
        cases hx:(bD hs h)[id]? with
        |none=>rw[hx]at e;cases e
        |some ob=>
         rw[hx]at e
         cases ob with
         |row sz' xs=>
          obtain⟨hx2,hd⟩:=AA hx;rw[hx2];dsimp only at e |-;split at e
          .rename_i hr;rw[if_pos hr];cases e;rw[mN hd]
          .rename_i hr;rw[if_neg hr];split at e
           .rename_i hr2;rw[if_pos hr2];cases e;rw[mN hd]
           .cases e
         |_=>cases e
       |_=>cases e
      .rw[if_neg hc]at e;cases e
theorem LH{mu:Nat->Bool}{o:Oper}{ev:Operand->AV}(hm:dE o.op=true){hs h:Heap}(hl:hs.length<=h.length){v:AV}{g:Heap}(e:aW P mu o ev (bD hs h)=.val v g):aW P mu o ev h=.val v (jS hs h g):=by
 obtain⟨dst,op,type,pos,after,guard⟩:=o;cases op<;>simp only[dE,gZ]at hm;rename_i c
 cases hc:c.callee with
 |value f=>rw[hc]at hm;cases hm
 |invoke r m=>rw[hc]at hm;cases hm
 |builtin b=>
  rw[hc]at hm;cases b<;>simp only[gZ]at hm;unfold aW at e |-;simp only[hc]at e |-;have key:∀args:List AV,kz P .append c.argTypes args (bD hs h)=.val v g->kz P .append c.argTypes args h=.val v (jS hs h g):=by
   intro args e
   match args,e with
   |[x,y],e=>
    have e':(if c.argTypes.size=2 then iX P (c.argTypes.getD 0 0) (c.argTypes.getD 1 0) x y (bD hs h) else .stuck)=.val v g:=e;show (if c.argTypes.size=2 then iX P (c.argTypes.getD 0 0) (c.argTypes.getD 1 0) x y h else .stuck)=_;split at e'
    .rename_i h2;rw[if_pos h2];exact G' hl e'
    .cases e'
   |[],e=>cases e
   |[_],e=>cases e
   |_::_::_::_,e=>cases e
  exact key _ e
theorem rG{op:Op}(h:dE op=true):bR op=false:=by
 cases op<;>simp only[dE,gZ]at h;rename_i c
 cases hc:c.callee with
 |value f=>rw[hc]at h;cases h
 |invoke r m=>rw[hc]at h;cases h
 |builtin b=>rw[hc]at h;cases b<;>first|(simp only[bR,hc];done)|cases h
def Qv (P:Program) (h:Heap) (r:OR) (v:AV):Prop:=
 r=.val v h\/∃f args,r=.call f args/\∀h',bL h h'->aN P f args h' (λr h''=>r=.ret v/\h''=h')
def BQ (P:Program) (H:Hints) (o:Oper) (hs:Heap) (v:AV) (E:HE) (A:AAct):Prop:=
 ∃j sz z,bh H o=.slot j sz/\fo P A.eval o.op=some z/\z.cells.map (·.length)=some sz/\eG hs (hs.length-1-j)=true/\A.h[hs.length-1-j]?=some (.row sz []) /\
  v=.ptr (hs.length-1-j) 1 0 0/\E=.set (hs.length-1-j) (.row sz [z])
def Jm (P:Program) (H:Hints) (o:Oper) (hs:Heap) (v:AV) (E:HE) (A:AAct):Prop:=
 bh H o=.sto/\∃T a x id ver i k ob,o.op=.store T a x/\A.eval a=.ptr id ver i k/\eG hs id=true/\fi P T (.ptr id ver i k) (A.eval x) A.h=.skip (A.h.set id ob)/\v=.p (.tuple [])/\E=.set id ob
def Jo (P:Program) (H:Hints) (o:Oper) (v:AV) (E:HE) (A:AAct):Prop:=
 bh H o=.nop/\v=.p (.tuple [])/\E=.app []/\∃T a x,o.op=.store T a x/\fi P T (A.eval a) (A.eval x) A.h=.skip A.h
def uI (P:Program) (H:Hints) (o:Oper) (hs:Heap) (v:AV) (E:HE) (A:AAct):Prop:=
 0<hs.length /\
 ((dE o.op=true/\hs.length<=A.h.length/\((∃l,E=.app l)\/∃id ob,E=.set id ob/\hs.length<=id)/\aW P (au H) o A.eval (bD hs A.h)=.val v (E.ap (bD hs A.h))) \/
  (bR o.op=true/\E=.app []/\Qv P (bD hs A.h) (aW P (au H) o A.eval (bD hs A.h)) v) \/
  (bR o.op=true/\∃id,hs.length<=id/\E=.set id .dead/\∃f args,aW P (au H) o A.eval (bD hs A.h)=.call f args/\∀h',bL (bD hs A.h) h'->aN P f args h' (λr h''=>r=.ret v/\h''=h'.set id .dead)))
def Jq (P:Program) (H:Hints) (o:Oper) (hs:Heap) (v:AV) (E:HE) (A:AAct):Prop:=
 ∃t,bh H o=.app t/\((kb t=false/\((∃l,E=.app l)\/∃id ob,E=.set id ob/\eG hs id=true)/\aW P (au H) o A.eval A.h=.val v (E.ap A.h))\/(kb t=true/\uI P H o hs v E A))
def Jn (P:Program) (H:Hints) (o:Oper) (v:AV) (E:HE) (A:AAct):Prop:=
 bh H o=.thr/\E=.app []/\∃f args,aW P (au H) o A.eval A.h=.call f args/\∀h',bL A.h h'->aN P f args h' (λr h''=>r=.ret v/\h''=h')
def TS (P:Program) (H:Hints) (ops:Array Oper) (Q:Ex->AAct->Prop) (o:Oper) (A:AAct):Prop:=
 aX ops A o=some true/\bh H o=.thr/\∃f args v,aW P (au H) o A.eval A.h=.call f args/\aN P f args A.h (λr h''=>r=.panic v/\h''=A.h)/\∀T,Q (.panic v) { A with tmps:=T }
def QS (P:Program) (H:Hints) (ops:Array Oper) (o:Oper) (hs:Heap) (v:AV) (E:HE) (A:AAct):Prop:=
 (aX ops A o=some false/\v=.p (.tuple [])/\E=.app []) \/
 (aX ops A o=some true /\
  ((bh H o=.quiet/\E=.app []/\Qv P A.h (aW P (au H) o A.eval A.h) v) \/
   (bh H o=.low/\E=.app []/\Qv P hs (aW P (au H) o A.eval hs) v) \/
   (bh H o=.alloc/\∃t,E=.app t/\aW P (au H) o A.eval A.h=.val v (A.h++t)) \/
   BQ P H o hs v E A\/Jm P H o hs v E A\/Jo P H o v E A\/Jq P H o hs v E A\/Jn P H o v E A))
theorem E0{T}{id ver i k}{y}{h h'}(e:fi P T (.ptr id ver i k) y h=.skip h'):∃ob,h'=h.set id ob:=by
 unfold fi at e;split at e
 .rename_i n hx _;split at e
  .split at e
   .split at e
    .split at e
     .cases hx;cases e;exact⟨_,rfl⟩
     .cases e
    .cases e
   .cases e
  .cases e
 .cases e
theorem m4{h}{K}{r}:tN P h K r↔∃v,Qv P h r v/\K v:=by
 constructor
 .intro k;cases r<;>first|exact k.elim|skip
  case val v h'=>obtain⟨rfl,k⟩:=k;exact⟨v,.inl rfl,k⟩
  case call f args=>obtain⟨v,k1,k2⟩:=k;exact⟨v,.inr ⟨f,args,rfl,k1⟩,k2⟩
 .rintro⟨v,rfl|⟨f,args,rfl,k1⟩,k2⟩
  .exact⟨rfl,k2⟩
  .exact⟨v,k1,k2⟩
theorem Bc{o:Oper}{t:Nat}(h:bh H o=.app t)(hm:kb t=true)(ha:dE o.op=false):bR o.op=true:=by
 unfold bh at h;split at h
 .unfold oE at h;split at h
  .split at h<;>cases h
  .cases h
 .split at h
  .split at h
   .cases h
   .split at h<;>cases h
  .cases h
  .split at h<;>cases h
  .split at h<;>cases h
  .rename_i t';split at h
   .rename_i hc;cases h;rw[AN,if_pos hm,ha]at hc;simpa using hc
   .cases h
  .split at h<;>cases h
  .split at h<;>cases h
  .cases h
theorem iR{o}{K}{hs}{A}{v}{E}(q:QS P H ops o hs v E A)(k:K hs (A.put o.dst v (E.ap A.h))):dB P H ops Q o K hs A:=by
 unfold dB;rcases q with⟨hw,rfl,rfl⟩|⟨hw,q⟩
 .rw[hw];refine⟨λh=>(by cases h),λ_=>?_⟩;simpa[HE.ap]using k
 .rw[hw];refine⟨λ_=>?_,λh=>(by cases h)⟩;rcases q with⟨hc,rfl,q⟩|⟨hc,rfl,q⟩|⟨hc,t,rfl,q⟩|⟨j,sz,z,hc,h1,h2,h3,h4,rfl,rfl⟩|⟨hc,T,a,x,id,ver,i,kk,ob,h1,h2,h3,h4,rfl,rfl⟩|⟨hc,rfl,rfl,T,a,x,h1,h2⟩|⟨t,hc,hE⟩|⟨hc,rfl,f,args,h1,h2⟩
  .rw[hc];exact m4.2 ⟨v,q,by simpa[HE.ap]using k⟩
  .rw[hc];exact m4.2 ⟨v,q,by simpa[HE.ap]using k⟩
  .rw[hc,q];exact⟨⟨t,rfl⟩,k⟩
  .rw[hc];refine(show oF hs A.h j sz (λv h=>K hs (A.put o.dst v h)) (fo P A.eval o.op) from ?_);rw[h1];exact⟨h2,h3,h4,k⟩
  .rw[hc];refine(show rV P hs A.h A.eval (λh=>K hs (A.put o.dst (.p (.tuple [])) h)) o.op from ?_);rw[h1];show (match A.eval a with|.ptr id ver i o=>eG hs id=true/\mP _ (fi P T (.ptr id ver i o) (A.eval x) A.h)|_=>False);rw[h2];refine⟨h3,?_⟩;rw[h4];exact k
  .rw[hc];refine(show sc P A.h A.eval (K hs (A.put o.dst (.p (.tuple [])) A.h)) o.op from ?_);rw[h1];exact⟨h2,by simpa[HE.ap]using k⟩
  .rw[hc];show mK P t (dE o.op) hs A.h (λv h=>K hs (A.put o.dst v h)) (λh=>aW P (au H) o A.eval h);unfold mK;rcases hE with⟨hm,hE,hq⟩|⟨hm,h0,hq⟩
   .rw[if_neg (by rw[hm];simp)];show BD hs A.h _ (aW P (au H) o A.eval A.h);rw[hq];refine⟨?_,k⟩;rcases hE with⟨l,rfl⟩|⟨id,ob,rfl,hd⟩
    .exact .inl ⟨l,rfl⟩
    .exact .inr ⟨id,ob,rfl,hd⟩
   .rw[if_pos hm];rcases hq with⟨hap,hl,hE,hq⟩|⟨hqu,rfl,hq⟩|⟨hqu,id,hid,rfl,f,args,hq,hcall⟩
    .show nN P _ hs A.h _ (aW P (au H) o A.eval (bD hs A.h));rw[hq];simp only[nN,hap,if_true];refine⟨⟨h0,hl⟩,?_,by rw[xx hl hE];exact k⟩;rcases hE with⟨l,rfl⟩|⟨id,ob,rfl,hd⟩
     .exact .inl ⟨l,rfl⟩
     .exact .inr ⟨id,ob,rfl,hd⟩
    .have hap:dE o.op=false:=by
      cases hx:dE o.op with
      |false=>rfl
      |true=>rw[rG hx]at hqu;cases hqu
     have k':K hs (A.put o.dst v A.h):=by simpa[HE.ap]using k
     show nN P _ hs A.h _ (aW P (au H) o A.eval (bD hs A.h));rcases hq with hq|⟨f,args,hq,hcall⟩
     .rw[hq];simp only[nN,hap,gZ,if_false];exact⟨h0,trivial,k'⟩
     .rw[hq];exact⟨hap,h0,.inl ⟨v,hcall,k'⟩⟩
    .have hap:dE o.op=false:=by
      cases hx:dE o.op with
      |false=>rfl
      |true=>rw[rG hx]at hqu;cases hqu
     show nN P _ hs A.h _ (aW P (au H) o A.eval (bD hs A.h));rw[hq];exact⟨hap,h0,.inr ⟨v,id,hid,hcall,k⟩⟩
  .rw[hc,h1];exact .inl ⟨v,h2,by simpa[HE.ap]using k⟩
theorem pm{o}{K}{hs}{A}(q:TS P H ops Q o A):dB P H ops Q o K hs A:=by
 obtain⟨hw,hc,f,args,v,h1,h2,h3⟩:=q;unfold dB;rw[hw];refine⟨λ_=>?_,λh=>(by cases h)⟩;rw[hc,h1];exact .inr ⟨v,h2,h3⟩
theorem kS{o}{K}{hs}{A}(hc:bh H o=.thr)(k:dB P H ops Q o K hs A) :
  (∃v E,QS P H ops o hs v E A/\K hs (A.put o.dst v (E.ap A.h)))\/TS P H ops Q o A:=by
 unfold dB at k
 cases hw:aX ops A o with
 |none=>rw[hw]at k;exact k.elim
 |some b=>
  rw[hw]at k
  cases b with
  |false=>exact .inl ⟨_,.app [],.inl ⟨hw,rfl,rfl⟩,by simpa[HE.ap]using k.2 rfl⟩
  |true=>
   have k1:=k.1 rfl;rw[hc]at k1;have k2:ug P Q A (λv=>K hs (A.put o.dst v A.h)) (aW P (au H) o A.eval A.h):=k1;cases hr:aW P (au H) o A.eval A.h<;>rw[hr]at k2<;>first|exact k2.elim|skip
   rename_i f args;rcases k2 with⟨v,h1,h2⟩|⟨v,h1,h2⟩
   .exact .inl ⟨v,.app [],.inr ⟨hw,.inr (.inr (.inr (.inr (.inr (.inr (.inr ⟨hc,rfl,f,args,hr,h1⟩))))))⟩,by simpa[HE.ap]using h2⟩
   .exact .inr ⟨hw,hc,f,args,v,hr,h1,h2⟩
theorem GN{hs}{A}{K K'}{r}(hk:∀v h,K v h->K' v h)(k:n4 P H Q hs A K r):n4 P H Q hs A K' r:=by
 cases r<;>first|exact k.elim|skip
 intro M0 m w cargs hS ha;obtain⟨h1,h2⟩:=k M0 m w cargs hS ha;refine⟨h1,h2.mono λ_ _ hb=>?_⟩;obtain⟨r,h',m',hR,rest⟩:=hb;exact⟨r,h',m',by cases r<;>first|exact⟨hR.1,hk _ _ hR.2⟩|exact hR,rest⟩
theorem lp{o}{K}{hs}{A}(hc:bh H o=.cal)(k:dB P H ops Q o K hs A) :
  (∃v E,QS P H ops o hs v E A/\K hs (A.put o.dst v (E.ap A.h)))\/(aX ops A o=some true/\n4 P H Q hs A (λv h=>K hs (A.put o.dst v h)) (aW P (au H) o A.eval A.h)):=by
 unfold dB at k
 cases hw:aX ops A o with
 |none=>rw[hw]at k;exact k.elim
 |some b=>
  rw[hw]at k
  cases b with
  |false=>exact .inl ⟨_,.app [],.inl ⟨hw,rfl,rfl⟩,by simpa[HE.ap]using k.2 rfl⟩
  |true=>
   have k1:=k.1 rfl;rw[hc]at k1;exact .inr ⟨rfl,k1⟩
theorem rW{o}{K}{hs}{A}(hc:bh H o=.cal)(hw:aX ops A o=some true)(k:n4 P H Q hs A (λv h=>K hs (A.put o.dst v h)) (aW P (au H) o A.eval A.h)):dB P H ops Q o K hs A:=by
 unfold dB;rw[hw];refine⟨λ_=>?_,λh=>(by cases h)⟩;rw[hc];exact k
theorem lW{o}{K}{hs}{A}(hb:(bh H o≠.bar/\bh H o≠.thr/\bh H o≠.cal)\/aX ops A o=some false)(k:dB P H ops Q o K hs A) :
  ∃v E,QS P H ops o hs v E A/\K hs (A.put o.dst v (E.ap A.h)):=by
 unfold dB at k
 cases hw:aX ops A o with
 |none=>rw[hw]at k;exact k.elim
 |some b=>
  rw[hw]at k
  cases b with
  |false=>exact⟨_,.app [],.inl ⟨hw,rfl,rfl⟩,by simpa[HE.ap]using k.2 rfl⟩
  |true=>
   have k1:=k.1 rfl
   cases hc:bh H o with
   |bar=>
    rcases hb with hb|hb
    .exact absurd hc hb.1
    .rw[hw]at hb;cases hb
   |thr=>
    rcases hb with hb|hb
    .exact absurd hc hb.2.1
    .rw[hw]at hb;cases hb
   |cal=>
    rcases hb with hb|hb
    .exact absurd hc hb.2.2
    .rw[hw]at hb;cases hb
   |alloc=>
    rw[hc]at k1;cases hr:aW P (au H) o A.eval A.h<;>rw[hr]at k1<;>first|exact k1.elim|skip
    rename_i v h';obtain⟨⟨t,rfl⟩,k2⟩:=k1
    exact⟨v,.app t,.inr ⟨hw,.inr (.inr (.inl ⟨hc,t,rfl,hr⟩))⟩,k2⟩
   |quiet=>
    rw[hc]at k1;obtain⟨v,q,k2⟩:=m4.1 k1
    exact⟨v,.app [],.inr ⟨hw,.inl ⟨hc,rfl,q⟩⟩,by simpa[HE.ap]using k2⟩
   |low=>
    rw[hc]at k1;obtain⟨v,q,k2⟩:=m4.1 k1
    exact⟨v,.app [],.inr ⟨hw,.inr (.inl ⟨hc,rfl,q⟩)⟩,by simpa[HE.ap]using k2⟩
   |slot j sz=>
    rw[hc]at k1;have k2:oF hs A.h j sz (λv h=>K hs (A.put o.dst v h)) (fo P A.eval o.op):=k1
    cases hz:fo P A.eval o.op with
    |none=>rw[hz]at k2;exact k2.elim
    |some z=>
     rw[hz]at k2;obtain⟨h1,h2,h3,k3⟩:=k2
     exact⟨_,.set _ _,.inr ⟨hw,.inr (.inr (.inr (.inl ⟨j,sz,z,hc,hz,h1,h2,h3,rfl,rfl⟩)))⟩,k3⟩
   |sto=>
    rw[hc]at k1;have k2:rV P hs A.h A.eval (λh=>K hs (A.put o.dst (.p (.tuple [])) h)) o.op:=k1;unfold rV at k2;split at k2
    .rename_i T a x hop;split at k2
     .rename_i id ver i kk ha;obtain⟨h1,k3⟩:=k2;unfold mP at k3;split at k3
      .rename_i h' hst;obtain⟨ob,rfl⟩:=E0 hst;exact⟨_,.set id ob,.inr ⟨hw,.inr (.inr (.inr (.inr (.inl ⟨hc,T,a,x,id,ver,i,kk,ob,hop,ha,h1,hst,rfl,rfl⟩))))⟩,k3⟩
      .exact k3.elim
     .exact k2.elim
    .exact k2.elim
   |nop=>
    rw[hc]at k1;have k2:sc P A.h A.eval (K hs (A.put o.dst (.p (.tuple [])) A.h)) o.op:=k1;unfold sc at k2;split at k2
    .rename_i T a x hop;exact⟨_,.app [],.inr ⟨hw,.inr (.inr (.inr (.inr (.inr (.inl ⟨hc,rfl,rfl,T,a,x,hop,k2.1⟩)))))⟩,by simpa[HE.ap]using k2.2⟩
    .exact k2.elim
   |app t=>
    rw[hc]at k1;have k2:mK P t (dE o.op) hs A.h (λv h=>K hs (A.put o.dst v h)) (λh=>aW P (au H) o A.eval h):=k1;unfold mK at k2;split at k2
    .rename_i hm;dsimp only at k2;cases hr:aW P (au H) o A.eval (bD hs A.h)<;>rw[hr]at k2<;>first|exact k2.elim|skip
     .rename_i v g;simp only[nN]at k2;split at k2
      .rename_i hap;obtain⟨⟨h0,hl⟩,hE,k3⟩:=k2;rcases hE with⟨l,rfl⟩|⟨id,ob,rfl,hid⟩
       .refine⟨v,.app l,.inr ⟨hw,.inr (.inr (.inr (.inr (.inr (.inr (.inl ⟨t,hc,.inr ⟨hm,h0,.inl ⟨hap,hl,.inl ⟨l,rfl⟩,hr⟩⟩⟩))))))⟩,?_⟩;rw[kQ hl]at k3;exact k3
       .refine⟨v,.set id ob,.inr ⟨hw,.inr (.inr (.inr (.inr (.inr (.inr (.inl ⟨t,hc,.inr ⟨hm,h0,.inl ⟨hap,hl,.inr ⟨id,ob,rfl,hid⟩,hr⟩⟩⟩))))))⟩,?_⟩;rw[mN (by rw[wD];intro e;have:=sL e;omega)]at k3;exact k3
      .rename_i hap;obtain⟨h0,rfl,k3⟩:=k2;have hqu:bR o.op=true:=Bc hc hm (by simpa using hap);exact⟨v,.app [],.inr ⟨hw,.inr (.inr (.inr (.inr (.inr (.inr (.inl ⟨t,hc,.inr ⟨hm,h0,.inr (.inl ⟨hqu,rfl,.inl hr⟩)⟩⟩))))))⟩,by simpa[HE.ap]using k3⟩
     .rename_i f args;obtain⟨hap,h0,k2⟩:=k2;have hqu:bR o.op=true:=Bc hc hm hap;rcases k2 with⟨v,hcall,k3⟩|⟨v,id,hid,hcall,k3⟩
      .exact⟨v,.app [],.inr ⟨hw,.inr (.inr (.inr (.inr (.inr (.inr (.inl ⟨t,hc,.inr ⟨hm,h0,.inr (.inl ⟨hqu,rfl,.inr ⟨f,args,hr,hcall⟩⟩)⟩⟩))))))⟩,by simpa[HE.ap]using k3⟩
      .exact⟨v,.set id .dead,.inr ⟨hw,.inr (.inr (.inr (.inr (.inr (.inr (.inl ⟨t,hc,.inr ⟨hm,h0,.inr (.inr ⟨hqu,id,hid,rfl,f,args,hr,hcall⟩)⟩⟩))))))⟩,k3⟩
    .rename_i hm;have hm':kb t=false:=by simpa using hm
     dsimp only at k2;cases hr:aW P (au H) o A.eval A.h<;>rw[hr]at k2<;>first|exact k2.elim|skip
     rename_i v h';obtain⟨⟨l,rfl⟩|⟨id,ob,rfl,hd⟩,k3⟩:=k2
     .exact⟨v,.app l,.inr ⟨hw,.inr (.inr (.inr (.inr (.inr (.inr (.inl ⟨t,hc,.inl ⟨hm',.inl ⟨l,rfl⟩,hr⟩⟩))))))⟩,k3⟩
     .exact⟨v,.set id ob,.inr ⟨hw,.inr (.inr (.inr (.inr (.inr (.inr (.inl ⟨t,hc,.inl ⟨hm',.inr ⟨id,ob,rfl,hd⟩,hr⟩⟩))))))⟩,k3⟩
theorem lE{A}{dst}{K K'}{r}(h:∀B,K B->K' B)(k:ja P A dst K Q r):ja P A dst K' Q r:=by
 cases r with
 |val v h'=>exact h _ k
 |skip h'=>exact h _ k
 |call f args=>
  intro M0 m w cargs hS ha;obtain⟨h1,h2⟩:=k M0 m w cargs hS ha;refine⟨h1,h2.mono λ_ _ hb=>?_⟩;obtain⟨r,h',m',hR,rest⟩:=hb
  exact⟨r,h',m',by cases r<;>first|exact h _ hR|exact hR,rest⟩
 |yld l args=>
  refine⟨k.1,λM0 m w cargs bl hS ha hbl=>?_⟩;obtain⟨f,tmps,asx,bd,h1,h2⟩:=k.2 M0 m w cargs bl hS ha hbl;refine⟨f,tmps,asx,bd,h1,λc cs=>?_⟩;obtain⟨e,w',⟨r,h',m',hR,rest⟩,hs⟩:=h2 c cs
  exact⟨e,w',⟨r,h',m',by cases r<;>first|exact h _ hR|exact hR,rest⟩,hs⟩
 |dfr d=>
  simp only[ja]at k |-;have gen:∀{X Y:Prop} {c:Rc},(X->Y)->rf X c->rf Y c:=λhx hc=>by
   rename_i c;cases c<;>first|exact False.elim hc|exact hx hc
  exact gen (h _) k
 |recover=>
  simp only[ja]at k |-;have gen:∀{X Y:AAct->PV->Prop} {c:Rc},(∀B v,X B v->Y B v)->HH A X c->HH A Y c:=λhx hc=>by
   rename_i c;cases c<;>first|exact False.elim hc|exact hx _ _ hc
  exact gen (λ_ _=>h _) k
 |panic v=>exact k
 |stuck=>exact k
theorem uV{o}{K K'}{hs}{A}(h:∀hs A,K hs A->K' hs A)(k:dB P H ops Q o K hs A):dB P H ops Q o K' hs A:=by
 by_cases ht:bh H o=.thr
 .rcases kS ht k with⟨v,E,q,k1⟩|q
  .exact iR q (h _ _ k1)
  .exact pm q
 by_cases hcl:bh H o=.cal
 .rcases lp hcl k with⟨v,E,q,k1⟩|⟨hw,k1⟩
  .exact iR q (h _ _ k1)
  .exact rW hcl hw (GN (λv h' hk=>h _ _ hk) k1)
 by_cases hb:bh H o≠.bar\/aX ops A o=some false
 .obtain⟨v,E,q,k1⟩:=lW (hb.imp (λh=>⟨h,ht,hcl⟩) id) k;exact iR q (h _ _ k1)
 .have hb1:bh H o=.bar:=Classical.byContradiction λhn=>hb (.inl hn);unfold dB at k |-
  cases hw:aX ops A o with
  |none=>rw[hw]at k;exact k.elim
  |some b=>
   rw[hw,hb1]at k;rw[hb1]
   cases b with
   |false=>exact absurd (.inr hw) hb
   |true=>
    have k1:ja P A o.dst (λB=>K B.h B) Q (aW P (au H) o A.eval A.h):=k.1 rfl;exact⟨λ_=>lE (K':=λB=>K' B.h B) (λB=>h B.h B) k1,λh=>(by cases h)⟩
theorem EC{o}(h:bh H o=.quiet):bR o.op=true:=by
 unfold bh at h;split at h
 .unfold oE at h;split at h
  .split at h<;>cases h
  .cases h
 .split at h
  .split at h
   .cases h
   .split at h
    .assumption
    .cases h
  .cases h
  .split at h<;>cases h
  .split at h<;>cases h
  .split at h<;>cases h
  .split at h<;>cases h
  .split at h<;>cases h
  .cases h
theorem In{o}(h:bh H o=.low):bR o.op=true:=by
 unfold bh at h;split at h
 .unfold oE at h;split at h
  .split at h<;>cases h
  .cases h
 .split at h
  .split at h
   .cases h
   .split at h<;>cases h
  .cases h
  .split at h
   .assumption
   .cases h
  .split at h<;>cases h
  .split at h<;>cases h
  .split at h<;>cases h
  .split at h<;>cases h
  .cases h
theorem GB{o}{j sz}(h:bh H o=.slot j sz):uv o.op=true:=by
 unfold bh at h;split at h
 .unfold oE at h;split at h
  .split at h<;>cases h
  .cases h
 .split at h
  .split at h
   .cases h
   .split at h<;>cases h
  .cases h
  .split at h<;>cases h
  .split at h
   .assumption
   .cases h
  .split at h<;>cases h
  .split at h<;>cases h
  .split at h<;>cases h
  .cases h
theorem iI{e e'}{o:Oper}(he:∀x∈o.op.operands,e x=e' x):fo P e o.op=fo P e' o.op:=by
 unfold fo;split
 .rfl
 .rename_i T x hop;rw[he x (by rw[hop];simp[Op.operands])]
 .rfl
theorem jJ{A:AAct}{dst}{v}{h}{o:Oper}(hd:∀d,dst=some d->d∉o.looksAt ops):∀x∈o.op.operands,(A.put dst v h).eval x=A.eval x:=by
 intro x hx;refine Ih λd hd' hxd=>hd d hd' ?_;subst hxd;exact List.mem_append_left _ (List.mem_filterMap.2 ⟨.tmp d,by simpa using hx,rfl⟩)
theorem QS.same{o}{hs}{v}{E}{A B}(q:QS P H ops o hs v E A)(hw:aX ops B o=aX ops A o)(he:∀x∈o.op.operands,B.eval x=A.eval x)(hh:B.h=A.h):QS P H ops o hs v E B:=by
 have hop:∀h,aW P (au H) o B.eval h=aW P (au H) o A.eval h:=λh=>jy o he;unfold QS BQ Jm Jo Jq uI Jn at *
 rw[hw,hh,iI he];simp only[hop];rcases q with q|⟨q1,q|q|q|q|⟨hc,T,a,x,id,ver,i,kk,ob,h1,h2,h3,h4,h5⟩|⟨hc,h1,h2,T,a,x,h3,h4⟩|q⟩
 .exact .inl q
 .exact .inr ⟨q1,.inl q⟩
 .exact .inr ⟨q1,.inr (.inl q)⟩
 .exact .inr ⟨q1,.inr (.inr (.inl q))⟩
 .exact .inr ⟨q1,.inr (.inr (.inr (.inl q)))⟩
 .refine .inr ⟨q1,.inr (.inr (.inr (.inr (.inl ⟨hc,T,a,x,id,ver,i,kk,ob,h1,?_,h3,?_,h5⟩))))⟩
  .rw[he a (by rw[h1];simp[Op.operands])];exact h2
  .rw[he x (by rw[h1];simp[Op.operands])];exact h4
 .refine .inr ⟨q1,.inr (.inr (.inr (.inr (.inr (.inl ⟨hc,h1,h2,T,a,x,h3,?_⟩)))))⟩;rw[he a (by rw[h3];simp[Op.operands]),he x (by rw[h3];simp[Op.operands])];exact h4
 .exact .inr ⟨q1,.inr (.inr (.inr (.inr (.inr (.inr q)))))⟩
theorem C9{o:Oper}{hs:Heap}{v:AV}{E:HE}{A:AAct}(h:uI P H o hs v E A){r:Nat}(hr:r<hs.length):(E.ap A.h)[r]?=A.h[r]?/\∀x,(E.ap A.h).set r x=E.ap (A.h.set r x):=by
 obtain⟨_,⟨_,hl,hE,_⟩|⟨_,rfl,_⟩|⟨_,id,hid,rfl,_⟩⟩:=h
 rotate_right
 .refine⟨cq (by omega),λx=>?_⟩;show (A.h.set id .dead).set r x=(A.h.set r x).set id .dead;exact List.set_comm _ _ (by omega)
 .rcases hE with⟨l,rfl⟩|⟨id,ob,rfl,hid⟩
  .refine⟨br (by omega),λx=>?_⟩;show (A.h++l).set r x=A.h.set r x++l;rw[List.set_append,if_pos (by omega)]
  .refine⟨cq (by omega),λx=>?_⟩;show (A.h.set id ob).set r x=(A.h.set r x).set id ob;exact List.set_comm _ _ (by omega)
 .exact⟨by simp[HE.ap],λx=>by simp[HE.ap]⟩
theorem F8{o:Oper}{hs:Heap}{v:AV}{E:HE}{A B:AAct}(h:uI P H o hs v E A)(he:∀h,aW P (au H) o B.eval h=aW P (au H) o A.eval h)(hm:bD hs B.h=bD hs A.h)(hl:B.h.length=A.h.length):uI P H o hs v E B:=by
 unfold uI at *
 rw[hm,hl,he];exact h
theorem Kp{o o'}{hs}{v}{E}{A}{K}(hp:ml H ops o o'=true)(q:QS P H ops o hs v E A)
  (k:dB P H ops Q o' K hs (A.put o.dst v (E.ap A.h))):dB P H ops Q o' (λhs' A'=>QS P H ops o hs' v E A'/\K hs' (A'.put o.dst v (E.ap A'.h))) hs A:=by
 unfold ml at hp;simp only[bY]at hp;obtain⟨hall,hap,hkp⟩:=hp;obtain⟨a1,a2,a3⟩:=Oper.apart_spec hap;have hb2:bh H o'≠.bar:=by
  intro hb;have hall':∀c,ii c .bar=false:=by intro c;cases c<;>rfl
  rw[hb,hall']at hall;simp[mS]at hall
 by_cases hcl:bh H o'=.cal/\aX ops (A.put o.dst v (E.ap A.h)) o'=some true
 .obtain⟨hcl,hwt⟩:=hcl;have hlow:bh H o=.low:=by
   rw[hcl]at hall;cases hc:bh H o<;>rw[hc]at hall<;>first|rfl|(simp[ii,oI,mS]at hall)
  have hE:E=.app []/\∀A',aX ops A' o=aX ops A o->(∀x∈o.op.operands,A'.eval x=A.eval x)->QS P H ops o hs v E A':=by
   rcases q with⟨hw,hv,hE⟩|⟨hw,⟨hc',_⟩|⟨hc',hE,hq⟩|⟨hc',_⟩|⟨_,_,_,hc',_⟩|⟨hc',_⟩|⟨hc',_⟩|⟨_,hc',_⟩|⟨hc',_⟩⟩
   .exact⟨hE,λA' h1 _=>.inl ⟨h1.trans hw,hv,hE⟩⟩
   .rw[hlow]at hc';cases hc'
   .refine⟨hE,λA' h1 h2=>.inr ⟨h1.trans hw,.inr (.inl ⟨hc',hE,?_⟩)⟩⟩;rw[jy o h2];exact hq
   all_goals (rw[hlow]at hc';cases hc')
  obtain⟨rfl,hqs⟩:=hE;rcases lp hcl k with⟨v',E',q',k'⟩|⟨_,kc⟩
  .rcases q' with⟨hw',_⟩|⟨_,⟨hc',_⟩|⟨hc',_⟩|⟨hc',_⟩|⟨_,_,_,hc',_⟩|⟨hc',_⟩|⟨hc',_⟩|⟨_,hc',_⟩|⟨hc',_⟩⟩
   .rw[hwt]at hw';cases hw'
   all_goals (rw[hcl]at hc';cases hc')
  .have e1:(A.put o.dst v (HE.ap (.app []) A.h)).h=A.h:=by rw[fF];simp[HE.ap]
   have e2:aW P (au H) o' (A.put o.dst v (HE.ap (.app []) A.h)).eval A.h=aW P (au H) o' A.eval A.h:=jy o' (jJ a1);refine rW hcl ((iU a1).symm.trans hwt) ?_;rw[e1,e2]at kc;cases hr:aW P (au H) o' A.eval A.h<;>rw[hr]at kc<;>first|exact kc.elim|skip
   rename_i f args;have kc2:aN P f args A.h (xd (λu h=>bL hs h/\K hs ((A.put o.dst v (HE.ap (.app []) A.h)).put o'.dst u h)) (λu h=>∀T,kept H T (A.put o.dst v (HE.ap (.app []) A.h)).tmps->Q (.panic u) { A.put o.dst v (HE.ap (.app []) A.h) with tmps:=T,h:=h })):=by
    have:aN P f args (A.put o.dst v (HE.ap (.app []) A.h)).h (xd (λu h=>bL hs h/\K hs ((A.put o.dst v (HE.ap (.app []) A.h)).put o'.dst u h)) (λu h=>∀T,kept H T (A.put o.dst v (HE.ap (.app []) A.h)).tmps->Q (.panic u) { A.put o.dst v (HE.ap (.app []) A.h) with tmps:=T,h:=h })):=kc;rw[e1]at this;exact this
   intro M0 m w cargs hS ha;obtain⟨h1,h2⟩:=kc2 M0 m w cargs hS ha;refine⟨h1,h2.mono λ_ _ hb=>?_⟩;obtain⟨r,h',m',hR,rest⟩:=hb;refine⟨r,h',m',?_,rest⟩
   cases r with
   |ret u=>
    refine⟨hR.1,hqs _ (iU a3) (jJ a3),?_⟩;have e3:HE.ap (.app []) (A.put o'.dst u h').h=h':=by rw[fF];simp[HE.ap]
    rw[e3,<-Af A v u (HE.ap (.app []) A.h) h' h' a2]
    exact hR.2
   |panic u=>
    intro T hT;have:=hR T (λt ht=>by
     rw[hT t ht];unfold Ji at hkp;rw[hcl]at hkp
     cases hd:o.dst with
     |none=>rfl
     |some d=>
      rw[hd]at hkp;have hne:t≠d:=by
       rintro rfl
       simp[ht]at hkp
      simp[AAct.put,rQ,hne])
    have e:({ A.put o.dst v (HE.ap (.app []) A.h) with tmps:=T,h:=h' }:AAct)={ A with tmps:=T,h:=h' }:=by
     cases o.dst<;>simp[AAct.put]
    rw[e]at this;exact this
 have hcase:(∃v' E',QS P H ops o' hs v' E' (A.put o.dst v (E.ap A.h))/\K hs ((A.put o.dst v (E.ap A.h)).put o'.dst v' (E'.ap (A.put o.dst v (E.ap A.h)).h)))\/(TS P H ops Q o' (A.put o.dst v (E.ap A.h))/\E=.app []):=by
  by_cases ht:bh H o'=.thr
  .rcases kS ht k with h|h
   .exact .inl h
   .refine .inr ⟨h,?_⟩;rw[ht]at hall;rcases q with⟨_,_,h⟩|⟨_,⟨_,h,_⟩|⟨_,h,_⟩|⟨hc',_⟩|⟨_,_,_,hc',_⟩|⟨hc',_⟩|⟨hc',_⟩|⟨_,hc',_⟩|⟨hc',_⟩⟩
    .exact h
    .exact h
    .exact h
    all_goals (rw[hc']at hall;simp[ii,oI,mS]at hall)
  .by_cases hcl2:bh H o'=.cal
   .rcases lp hcl2 k with h|⟨h,_⟩
    .exact .inl h
    .exact absurd ⟨hcl2,h⟩ hcl
   .exact .inl (lW (.inl ⟨hb2,ht,hcl2⟩) k)
 rcases hcase with⟨v',E',q',k'⟩|⟨⟨tw,tc,f,args,u,t1,t2,t3⟩,rfl⟩
 rotate_left
 .refine pm ⟨(iU a1).symm.trans tw,tc,f,args,u,?_,?_,λT=>?_⟩
  .rw[<-t1,fF];simp only[HE.ap,co];exact(jy o' (jJ a1)).symm
  .rw[fF]at t2;simpa[HE.ap]using t2
  .have:=t3 T;have e:({ A.put o.dst v (HE.ap (.app []) A.h) with tmps:=T }:AAct)={ A with tmps:=T }:=by
    cases o.dst<;>simp[AAct.put,HE.ap]
   rw[e]at this;exact this
 have hput:(A.put o.dst v (E.ap A.h)).h=E.ap A.h:=fF _ _ _ _;have hput':(A.put o'.dst v' (E'.ap A.h)).h=E'.ap A.h:=fF _ _ _ _;have ee:∀x∈o'.op.operands,(A.put o.dst v (E.ap A.h)).eval x=A.eval x:=jJ a1;have ew:aX ops (A.put o.dst v (E.ap A.h)) o'=aX ops A o':=iU a1;have ee':∀x∈o.op.operands,(A.put o'.dst v' (E'.ap A.h)).eval x=A.eval x:=jJ a3;have ew':aX ops (A.put o'.dst v' (E'.ap A.h)) o=aX ops A o:=iU a3;have hop:∀h,aW P (au H) o' (A.put o.dst v (E.ap A.h)).eval h=aW P (au H) o' A.eval h:=λh=>jy o' ee;have hop':∀h,aW P (au H) o (A.put o'.dst v' (E'.ap A.h)).eval h=aW P (au H) o A.eval h:=λh=>jy o ee'
 have fin:QS P H ops o' hs v' E' A->QS P H ops o hs v E (A.put o'.dst v' (E'.ap A.h))->E.ap (E'.ap A.h)=E'.ap (E.ap A.h) ->
   dB P H ops Q o' (λhs' A'=>QS P H ops o hs' v E A'/\K hs' (A'.put o.dst v (E.ap A'.h))) hs A:=by
  intro qA qB hEE;refine iR qA ⟨qB,?_⟩;rw[hput'];rw[hput]at k';have:(A.put o'.dst v' (E'.ap A.h)).put o.dst v (E.ap (E'.ap A.h))=(A.put o.dst v (E.ap A.h)).put o'.dst v' (E'.ap (E.ap A.h)):=by
   rw[hEE];exact(Af A v v' _ _ _ a2).symm
  rw[this];exact k'
 have still:E=.app []->QS P H ops o' hs v' E' A:=λhE=>by
  refine q'.same ew.symm (λx hx=>(ee x hx).symm) ?_;rw[hput,hE];simp[HE.ap]
 have still':E'=.app []->QS P H ops o hs v E (A.put o'.dst v' (E'.ap A.h)):=λhE=>by
  refine q.same ew' ee' ?_;rw[hput',hE];simp[HE.ap]
 have lowA:(aX ops A o'=some false/\v'=.p (.tuple [])/\E'=.app [])\/(aX ops A o'=some true/\bh H o'=.low/\E'=.app []/\Qv P hs (aW P (au H) o' A.eval hs) v') ->
   dB P H ops Q o' (λhs' A'=>QS P H ops o hs' v E A'/\K hs' (A'.put o.dst v (E.ap A'.h))) hs A:=by
  rintro(⟨hw,hv,hE⟩|⟨hw,hc,hE,hq⟩)
  .exact fin (.inl ⟨hw,hv,hE⟩) (still' hE) (by rw[hE];simp[HE.ap])
  .exact fin (.inr ⟨hw,.inr (.inl ⟨hc,hE,hq⟩)⟩) (still' hE) (by rw[hE];simp[HE.ap])
 have q0:=q';unfold QS at q';rw[ew]at q';simp only[hop]at q';have q1:=q;rcases q with⟨hw,rfl,rfl⟩|⟨hw,⟨hc,rfl,hq⟩|⟨hc,rfl,hq⟩|⟨hc,t,rfl,hq⟩|hsl|hst|hnp|hap'|hret⟩
 .exact fin (still rfl) (.inl ⟨ew'.trans hw,rfl,rfl⟩) (by simp[HE.ap])
 .have happ:∃t',E'=.app t':=by
   rcases q' with⟨_,_,h⟩|⟨_,⟨_,h,_⟩|⟨_,h,_⟩|⟨_,t',h,_⟩|⟨_,_,_,hc',_⟩|⟨hc',_⟩|⟨_,_,h,_⟩|⟨_,hc',_⟩|⟨hc',hE',_⟩⟩
   .exact⟨_,h⟩
   .exact⟨_,h⟩
   .exact⟨_,h⟩
   .exact⟨t',h⟩
   .rw[hc,hc']at hall;cases hall
   .rw[hc,hc']at hall;cases hall
   .exact⟨_,h⟩
   .rw[hc,hc']at hall;cases hall
   .exact⟨_,hE'⟩
  obtain⟨t',rfl⟩:=happ;refine fin (still rfl) (.inr ⟨ew'.trans hw,.inl ⟨hc,rfl,?_⟩⟩) (by simp[HE.ap]);rw[hput',hop'];have hpre:=u7 (P:=P) (mu:=au H) (o:=o) A.eval (EC hc) A.h (A.h++t') (bL.app _ _);rcases hq with hq|⟨f,args,hq,hcall⟩
  .exact .inl (hpre.1 _ hq)
  .exact .inr ⟨f,args,hpre.2 _ _ hq,λh' hs'=>hcall h' ((bL.app _ _).trans hs')⟩
 .exact fin (still rfl) (.inr ⟨ew'.trans hw,.inr (.inl ⟨hc,rfl,by rw[hop'];exact hq⟩)⟩) (by simp[HE.ap])
 .rcases q' with h|⟨hw',⟨hc',_⟩|h|⟨hc',_⟩|⟨_,_,_,hc',_⟩|⟨hc',_⟩|⟨hc',_⟩|⟨_,hc',_⟩|⟨hc',hE',_⟩⟩
  .exact lowA (.inl h)
  .rw[hc,hc']at hall;cases hall
  .exact lowA (.inr ⟨hw',h⟩)
  .rw[hc,hc']at hall;cases hall
  .rw[hc,hc']at hall;cases hall
  .rw[hc,hc']at hall;cases hall
  .rw[hc,hc']at hall;cases hall
  .rw[hc,hc']at hall;cases hall
  .rw[hc,hc']at hall;cases hall
 .obtain⟨j,sz,z,hc,h1,h2,h3,h4,rfl,rfl⟩:=hsl;rcases q' with h|⟨hw',⟨hc',_⟩|h|⟨hc',_⟩|⟨j',sz',z',hc',g1,g2,g3,g4,rfl,rfl⟩|⟨hc',_⟩|⟨hc',_⟩|⟨t',hc',hm'⟩|⟨hc',hE',_⟩⟩
  .exact lowA (.inl h)
  .rw[hc,hc']at hall;cases hall
  .exact lowA (.inr ⟨hw',h⟩)
  .rw[hc,hc']at hall;cases hall
  .rw[hput]at g4;have hne:hs.length-1-j≠hs.length-1-j':=by
    intro e;have hlt:=(aA.1 h4).1;have g5:(A.h.set (hs.length-1-j) (.row sz [z]))[hs.length-1-j']?=some (.row sz' []):=g4;rw[<-e,fp hlt]at g5;cases g5
   have g5:A.h[hs.length-1-j']?=some (.row sz' []):=by
    have:(A.h.set (hs.length-1-j) (.row sz [z]))[hs.length-1-j']?=some (.row sz' []):=g4;rwa [cq hne]at this
   refine fin (.inr ⟨hw',.inr (.inr (.inr (.inl ⟨j',sz',z',hc',?_,g2,g3,g5,rfl,rfl⟩)))⟩) (.inr ⟨ew'.trans hw,.inr (.inr (.inr (.inl ⟨j,sz,z,hc,?_,h2,h3,?_,rfl,rfl⟩)))⟩) ?_
   .rw[<-iI ee];exact g1
   .rw[iI ee'];exact h1
   .rw[hput'];show (A.h.set (hs.length-1-j') (.row sz' [z']))[hs.length-1-j]?=_;rw[cq (Ne.symm hne)];exact h4
   .exact List.set_comm _ _ (Ne.symm hne)
  .rw[hc,hc']at hall;cases hall
  .rw[hc,hc']at hall;cases hall
  .have hmsk:kb t'=true:=by rw[hc,hc']at hall;simpa[ii,oI]using hall
   rcases hm' with⟨hf,_⟩|⟨_,hq'⟩
   .rw[hmsk]at hf;cases hf
   have hpos:=hq'.1;have hr:hs.length-1-j<hs.length:=by omega
   have hdead:=yh h3 hr;have hq2:uI P H o' hs v' E' A:=F8 hq' (λh=>(hop h).symm) (by rw[hput];exact(xT hdead _).symm) (by rw[hput];simp[HE.ap]);have eff:=C9 hq2 hr;refine fin (.inr ⟨hw',.inr (.inr (.inr (.inr (.inr (.inr (.inl ⟨t',hc',.inr ⟨hmsk,hq2⟩⟩))))))⟩) (.inr ⟨ew'.trans hw,.inr (.inr (.inr (.inl ⟨j,sz,z,hc,?_,h2,h3,?_,rfl,rfl⟩)))⟩) ?_
   .rw[iI ee'];exact h1
   .rw[hput',eff.1];exact h4
   .exact eff.2 _
  .rw[hc,hc']at hall;cases hall
 .have hc:=hst.1;rcases q' with h|⟨hw',⟨hc',_⟩|h|⟨hc',_⟩|⟨_,_,_,hc',_⟩|⟨hc',_⟩|⟨hc',_⟩|⟨_,hc',_⟩|⟨hc',hE',_⟩⟩
  .exact lowA (.inl h)
  .rw[hc,hc']at hall;cases hall
  .exact lowA (.inr ⟨hw',h⟩)
  .rw[hc,hc']at hall;cases hall
  .rw[hc,hc']at hall;cases hall
  .rw[hc,hc']at hall;cases hall
  .rw[hc,hc']at hall;cases hall
  .rw[hc,hc']at hall;cases hall
  .rw[hc,hc']at hall;cases hall
 .obtain⟨hc,rfl,rfl,T,a,x,h1,h2⟩:=hnp;have hE':E'=.app []:=by
   rcases q' with⟨_,_,h⟩|⟨_,⟨_,h,_⟩|⟨_,h,_⟩|⟨hc',_⟩|⟨_,_,_,hc',_⟩|⟨hc',_⟩|⟨_,_,h,_⟩|⟨_,hc',_⟩|⟨hc',_,_⟩⟩
   .exact h
   .exact h
   .exact h
   .rw[hc,hc']at hall;cases hall
   .rw[hc,hc']at hall;cases hall
   .rw[hc,hc']at hall;cases hall
   .exact h
   .rw[hc,hc']at hall;cases hall
   .rw[hc,hc']at hall;cases hall
  exact fin (still rfl) (still' hE') (by rw[hE'])
 .obtain⟨t,hc,hm⟩:=hap';rcases q' with h|⟨hw',⟨hc',_⟩|h|⟨hc',_⟩|⟨j',sz',z',hc',g1,g2,g3,g4,rfl,rfl⟩|⟨hc',_⟩|⟨hc',_⟩|⟨_,hc',_⟩|⟨hc',hE',_⟩⟩
  .exact lowA (.inl h)
  .rw[hc,hc']at hall;cases hall
  .exact lowA (.inr ⟨hw',h⟩)
  .rw[hc,hc']at hall;cases hall
  .have hmsk:kb t=true:=by rw[hc,hc']at hall;simpa[ii,oI]using hall
   rcases hm with⟨hf,_⟩|⟨_,hq⟩
   .rw[hmsk]at hf;cases hf
   have hpos:=hq.1;have hr:hs.length-1-j'<hs.length:=by omega
   have hdead:=yh g3 hr;have eff:=C9 hq hr;rw[hput,eff.1]at g4;refine fin (.inr ⟨hw',.inr (.inr (.inr (.inl ⟨j',sz',z',hc',?_,g2,g3,g4,rfl,rfl⟩)))⟩) (.inr ⟨ew'.trans hw,.inr (.inr (.inr (.inr (.inr (.inr (.inl ⟨t,hc,.inr ⟨hmsk,?_⟩⟩))))))⟩) ?_
   .rw[<-iI ee];exact g1
   .exact F8 hq hop' (by rw[hput'];exact xT hdead _) (by rw[hput'];simp[HE.ap])
   .exact(eff.2 _).symm
  all_goals (rw[hc,hc']at hall;cases hall)
 .obtain⟨hc,rfl,hrest⟩:=hret;have hE':E'=.app []:=by
   rcases q' with⟨_,_,h⟩|⟨_,⟨_,h,_⟩|⟨_,h,_⟩|⟨hc',_⟩|⟨_,_,_,hc',_⟩|⟨hc',_⟩|⟨_,_,h,_⟩|⟨_,hc',_⟩|⟨_,h,_⟩⟩
   .exact h
   .exact h
   .exact h
   .rw[hc,hc']at hall;simp[ii,mS]at hall
   .rw[hc,hc']at hall;simp[ii,mS]at hall
   .rw[hc,hc']at hall;simp[ii,mS]at hall
   .exact h
   .rw[hc,hc']at hall;simp[ii,mS]at hall
   .exact h
  exact fin (still rfl) (still' hE') (by rw[hE'])
end Abs
end Go.Proofs.YtmndpldajflenaaGreatDoor
namespace Go.Proofs.YtmndpldajflenaaGreatDoor
namespace Abs
variable {P:Program} {H:Hints} {ops:Array Oper} {Q:Ex->AAct->Prop}
def rl (acc:Array Nat) (o:Oper):Array Nat:=acc.push (o.after.foldl (λs e=>if Region.binds .any e then s||| 2^e.on||| acc.getD e.on 0 else s) 0)
def nj (p:List Oper) (acc:Array Nat):Prop:=
 acc.size=p.length/\∀j i,(acc.getD j 0).testBit i=true->∃o,p[j]?=some o/\∃e,e∈o.after/\Region.binds .any e=true/\(i=e.on\/(e.on<j/\(acc.getD e.on 0).testBit i=true))
theorem vJ(acc:Array Nat)(i):∀(l:List Edge) (s),(l.foldl (λs e=>if Region.binds .any e then s||| 2^e.on||| acc.getD e.on 0 else s) s).testBit i=true ->
  s.testBit i=true\/∃e,e∈l/\Region.binds .any e=true/\(i=e.on\/(acc.getD e.on 0).testBit i=true)
 |[],s,h=>.inl h
 |e::l,s,h=>by
  simp only[np]at h;rcases vJ acc i l _ h with h|⟨e',h1,h2⟩
  .by_cases hb:Region.binds .any e=true
   .simp only[hb,if_true,Nat.testBit_or,DF]at h;rcases h with(h|h)|h
    .exact .inl h
    .refine .inr ⟨e,by simp,hb,.inl ?_⟩;rw[Nat.testBit_two_pow]at h;exact(of_decide_eq_true h).symm
    .exact .inr ⟨e,by simp,hb,.inr h⟩
   .simp only[hb,if_false,gZ]at h;exact .inl h
  .exact .inr ⟨e',by simp[h1],h2⟩
theorem G8{p}{acc}(h:nj p acc)(o):nj (p++[o]) (rl acc o):=by
 obtain⟨h1,h2⟩:=h;refine⟨by simp[rl,h1],λj i hj=>?_⟩;have low:∀k,k<acc.size->(rl acc o).getD k 0=acc.getD k 0:=by
  intro k hk;simp[rl,gG,Array.getElem?_push,uM hk]
 rcases Nat.lt_trichotomy j acc.size with hlt|heq|hgt
 .rw[low j hlt]at hj;obtain⟨o',h3,e,h4,h5,h6⟩:=h2 j i hj;refine⟨o',by rw[br (by omega)];exact h3,e,h4,h5,?_⟩;rcases h6 with h6|⟨h6,h7⟩
  .exact .inl h6
  .exact .inr ⟨h6,by rw[low e.on (by omega)];exact h7⟩
 .subst heq;refine⟨o,by rw[h1];simp,?_⟩;have hj':(o.after.foldl (λs e=>if Region.binds .any e then s||| 2^e.on||| acc.getD e.on 0 else s) 0).testBit i=true:=by
   simpa[rl,gG]using hj
  rw[<-Fh]at hj';rcases vJ acc i _ _ hj' with h|⟨e,h3,h4,h5⟩
  .simp at h
  .refine⟨e,DI.1 h3,h4,?_⟩;rcases h5 with h5|h5
   .exact .inl h5
   .have hlt:e.on<acc.size:=by
     rcases aw e.on acc.size with hx|hx
     .exact hx
     .simp[gG,xv hx]at h5
    exact .inr ⟨hlt,by rw[low _ hlt];exact h5⟩
 .have:(rl acc o).getD j 0=0:=by
   simp[rl,gG,xv (show (acc.push _).size<=j by simp;omega)]
  rw[this]at hj;simp at hj
theorem t7(ops):nj ops.toList (Region.before ops):=by
 have key:∀(l p:List Oper) (acc:Array Nat),nj p acc->nj (p++l) (l.foldl rl acc):=by
  intro l
  induction l with
  |nil=>intro p acc h;simpa using h
  |cons o l ih=>
   intro p acc h;have:=ih (p++[o]) _ (G8 h o);simpa using this
 have h0:nj [] #[]:=⟨rfl,λj i h=>by simp at h⟩
 have:=key ops.toList [] #[] h0;have heq:Region.before ops=ops.toList.foldl rl #[]:=by
  unfold Region.before;rw[<-Fh];rfl
 rw[heq];simpa using this
def uJ (ops:Array Oper) (ah:Array Bool):Prop:=
 ∀j o,ah.getD j false=true->ops[j]?=some o->∀e,e∈o.after->Region.binds .any e=true->ah.getD e.on false=true
theorem rk{ah}(hD:uJ ops ah):∀(j i) (o),ops[j]?=some o->(∀e,e∈o.after->Region.binds .any e=true->ah.getD e.on false=true) ->
  Bw (Region.before ops) i j=true->ah.getD i false=true:=by
 intro j
 induction j using Nat.strongRecOn with
 |_ j ih=>
  intro i o ho hall hb;obtain⟨o',h1,e,h2,h3,h4⟩:=(t7 ops).2 j i hb;have ho':ops[j]?=some o':=by simpa using h1
  rw[ho]at ho';cases ho';rcases h4 with rfl|⟨h4,h5⟩
  .exact hall e h2 h3
  .have hl:=hall e h2 h3;obtain⟨o2,h6,_⟩:=(t7 ops).2 e.on i h5;have h6':ops[e.on]?=some o2:=by simpa using h6
   exact ih e.on h4 i o2 h6' (hD e.on o2 hl h6') h5
theorem uJ.set{ah}(hD:uJ ops ah){i}(hi:i∈Region.ready .any ops ah):uJ ops (ah.setIfInBounds i true):=by
 intro j o hj ho e he hb;obtain⟨h0,oi,hoi,hall⟩:=mem_ready.1 hi;by_cases hji:j=i
 .subst hji;rw[ho]at hoi;cases hoi;exact getD_set_true (hall e he hb)
 .rw[getD_set_ne false (Ne.symm hji)]at hj;exact getD_set_true (hD j o hj ho e he hb)
def uK (P:Program) (H:Hints) (ops:Array Oper) (Q:Ex->AAct->Prop):Nat->Array Bool->Heap->AAct->Prop
 |0,ah,_,A=>Region.ready .any ops ah=[]/\Q .normal A
 |fuel+1,ah,hs,A=>
  (Region.ready .any ops ah=[]->Q .normal A) /\
  ∀i∈Region.ready .any ops ah,∀o,ops[i]?=some o->dB P H ops Q o (uK P H ops Q fuel (ah.setIfInBounds i true)) hs A
def ni (H:Hints) (ops:Array Oper) (ah:Array Bool) (i:Nat) (oi:Oper):Prop:=∀j o,j≠i->ah.getD j true=false->ops[j]?=some o->Bw (Region.before ops) i j=true\/ml H ops oi o=true
theorem pY{ah:Array Bool}{j}:(ah.setIfInBounds j true).getD j true=true:=by
 rw[gG,Array.getElem?_setIfInBounds];rw[if_pos rfl];split<;>rfl
theorem ni.set{H}{ops}{ah}{i}{oi}(h:ni H ops ah i oi)(j):ni H ops (ah.setIfInBounds j true) i oi:=by
 intro x o hxi hx ho;by_cases hxj:j=x
 .subst hxj;rw[pY]at hx;cases hx
 .rw[getD_set_ne true hxj]at hx;exact h x o hxi hx ho
theorem ym{i}{oi}{v}{E}(hi:ops[i]?=some oi) :
  ∀(fuel) (ah) (hs) (A),uJ ops ah->ni H ops ah i oi->i∈Region.ready .any ops ah->QS P H ops oi hs v E A ->
   uK P H ops Q fuel (ah.setIfInBounds i true) hs (A.put oi.dst v (E.ap A.h))->uK P H ops Q (fuel+1) ah hs A:=by
 intro fuel
 induction fuel with
 |zero=>
  intro ah hs A _ _ hr q k;refine⟨λh=>(by rw[h]at hr;cases hr),λj hj o ho=>?_⟩;by_cases hji:j=i
  .subst hji;rw[hi]at ho;cases ho;exact iR q k
  .have:=ready_mono hj hji;rw[k.1]at this
   cases this
 |succ fuel ih=>
  intro ah hs A hD hB hr q k;refine⟨λh=>(by rw[h]at hr;cases hr),λj hj o ho=>?_⟩;by_cases hji:j=i
  .subst hji;rw[hi]at ho;cases ho;exact iR q k
  .have h1:=k.2 j (ready_mono hj hji) o ho;obtain⟨hjun,oj,hoj,hall⟩:=mem_ready.1 hj;rw[ho]at hoj;cases hoj;have hp:ml H ops oi o=true:=by
    rcases hB j o hji hjun ho with h|h
    .have h2:=rk hD j i o ho (λe he hb=>hall e he hb) h;have h0:=(mem_ready.1 hr).1;rcases aw i ah.size with h'|h'
     .simp[h']at h0 h2;rw[h0]at h2;cases h2
     .simp[xv h']at h2
    .exact h
   have h2:=Kp hp q h1;refine uV ?_ h2
   rintro hs' A' ⟨q',k'⟩
   refine ih (ah.setIfInBounds j true) hs' A' (hD.set hj) (hB.set j) (ready_mono hr (Ne.symm hji)) q' ?_;rw[Array.setIfInBounds_comm _ _ hji];exact k'
def xy (ah:Array Bool):Nat:=ah.toList.countP (·==false)
theorem vO:∀(l:List Bool) (j),l[j]?=some false->(l.set j true).countP (·==false)+1=l.countP (·==false)
 |[],j,h=>by simp at h
 |b::l,0,h=>by
  have:b=false:=by simpa using h
  subst this
  simp
 |b::l,j+1,h=>by
  have:=vO l j (by simpa using h);simp only[List.set_cons_succ,List.countP_cons];omega
theorem wF{ah}{j}(h:ah.getD j true=false):xy (ah.setIfInBounds j true)+1=xy ah:=by
 have h1:ah[j]?=some false:=by
  rw[gG]at h
  cases hj:ah[j]? with
  |none=>rw[hj]at h;simp at h
  |some b=>rw[hj]at h;simp at h;rw[h]
 unfold xy;rw[Array.toList_setIfInBounds];exact vO _ _ (by simpa using h1)
theorem JB{ah}{j}(h:ah.getD j true=false):0<xy ah:=by
 have:=wF h;omega
theorem Gz{o}{K}{hs}{A}(hf:qW o=true)(hq:mS (bh H o)=true)(k:∀v,K hs (A.put o.dst v A.h)):dB P H ops Q o K hs A:=by
 have hc:bh H o=.quiet:=by cases hc:bh H o<;>rw[hc]at hq<;>first|rfl|cases hq
 obtain⟨dst,op,ty,pos,after,guard⟩:=o;unfold dB
 cases guard with
 |some g=>simp[qW]at hf
 |none=>
  refine⟨λ_=>?_,λh=>(by cases h)⟩;rw[hc];cases op<;>simp only[qW,gZ]at hf
  .exact⟨rfl,k _⟩
  .exact⟨rfl,k _⟩
theorem TS.put{o o':Oper}{A}(q:TS P H ops Q o A)(hap:∀d,o'.dst=some d->d∉o.looksAt ops)(v):TS P H ops Q o (A.put o'.dst v A.h):=by
 obtain⟨tw,tc,f,args,u,t1,t2,t3⟩:=q;refine⟨(iU hap).trans tw,tc,f,args,u,?_,?_,λT=>?_⟩
 .rw[<-t1,fF];exact jy o (jJ hap)
 .rw[fF];exact t2
 .have e:({ A.put o'.dst v A.h with tmps:=T }:AAct)={ A with tmps:=T }:=by
   cases o'.dst<;>simp[AAct.put]
  rw[e];exact t3 T
theorem II{i}{oi}(hi:ops[i]?=some oi) :
  ∀(fuel) (ah) (hs) (A),xy ah<=fuel->uJ ops ah->ni H ops ah i oi->i∈Region.ready .any ops ah->TS P H ops Q oi A->uK P H ops Q fuel ah hs A:=by
 intro fuel
 induction fuel with
 |zero=>
  intro ah hs A hu _ _ hr _;have:=JB (mem_ready.1 hr).1
  omega
 |succ fuel ih=>
  intro ah hs A hu hD hB hr q;refine⟨λh=>(by rw[h]at hr;cases hr),λj hj o ho=>?_⟩;by_cases hji:j=i
  .subst hji;rw[hi]at ho;cases ho;exact pm q
  .obtain⟨hjun,oj,hoj,hall⟩:=mem_ready.1 hj;rw[ho]at hoj;cases hoj;have hp:ml H ops oi o=true:=by
    rcases hB j o hji hjun ho with h|h
    .have h2:=rk hD j i o ho (λe he hb=>hall e he hb) h;have h0:=(mem_ready.1 hr).1;rcases aw i ah.size with h'|h'
     .simp[h']at h0 h2;rw[h0]at h2;cases h2
     .simp[xv h']at h2
    .exact h
   unfold ml at hp;simp only[bY]at hp;obtain⟨hpd,hap,_⟩:=hp;obtain⟨a1,a2,a3⟩:=Oper.apart_spec hap;have hthr:∀c,ii .thr c=false:=by intro c;cases c<;>rfl
   rw[q.2.1,hthr]at hpd;simp only[oI,gA,kM,bY]at hpd;refine Gz hpd.1 hpd.2 λv=>?_;refine ih (ah.setIfInBounds j true) hs _ ?_ (hD.set hj) (hB.set j) (ready_mono hr (Ne.symm hji)) (q.put a3 v);have:=wF hjun;omega
def MO (ops:Array Oper) (l:List Nat) (ah:Array Bool):Prop:=ah.size=ops.size/\∀j,ah.getD j true=false↔j∈l
theorem z7{l}{ah:Array Bool}{i}(hil:i∉l)(h:∀j,ah.getD j true=false↔j∈i::l)(j):(ah.setIfInBounds i true).getD j true=false↔j∈l:=by
 by_cases hij:i=j
 .subst hij;rw[pY];exact⟨λh=>(by cases h),λh=>absurd h hil⟩
 .rw[getD_set_ne true hij,h j];simp[Ne.symm hij]
theorem zI:∀(l:List Nat) (ah),l.Nodup->(∀j,ah.getD j true=false↔j∈l)->xy ah<=l.length
 |[],ah,_,h=>by
  rcases ow (xy ah) with h0|h0
  .omega
  .exfalso;unfold xy at h0;obtain⟨b,hb,hb2⟩:=List.countP_pos_iff.1 (show 0<List.countP (λx=>x==false) ah.toList from h0);obtain⟨j,hj⟩:=eL hb;have hb3:b=false:=by simpa using hb2
   subst hb3;have:=(h j).1 (by rw[gG,<-Array.getElem?_toList,hj];rfl)
   cases this
 |i::l,ah,hn,h=>by
  have hi:ah.getD i true=false:=(h i).2 (by simp);have:=wF hi;have ih:=zI l (ah.setIfInBounds i true) (qg.1 hn).2 (z7 (qg.1 hn).1 h);rw[du];omega
theorem Il:∀(l) (os) (ah) (hs) (A),l.map (λi=>ops[i]?)=os.map some->l.Nodup->MO ops l ah->uJ ops ah->vb H ops (Region.before ops) l=true ->
  bi P H ops Q os hs A->uK P H ops Q l.length ah hs A:=by
 intro l
 induction l with
 |nil=>
  intro os ah hs A he hn hR hD hok h;have:os=[]:=by cases os<;>simp_all
  subst this;refine⟨?_,h⟩;refine List.eq_nil_iff_forall_not_mem.2 λj hj=>?_;obtain⟨h1,_⟩:=mem_ready.1 hj
  exact absurd ((hR.2 j).1 h1) (by simp)
 |cons i l ih=>
  intro os ah hs A he hn hR hD hok h
  cases os with
  |nil=>simp at he
  |cons o rest=>
   simp only[iu,List.cons.injEq]at he;obtain⟨hoi,he⟩:=he;obtain⟨hil,hnl⟩:=qg.1 hn;rw[vb,hoi]at hok;simp only[bY]at hok;obtain⟨⟨hedge,hpair⟩,hokl⟩:=hok;have hiu:ah.getD i true=false:=(hR.2 i).2 (by simp);have hisz:i<ops.size:=(uL.1 hoi).1;have hr:i∈Region.ready .any ops ah:=by
    refine mem_ready.2 ⟨hiu,o,hoi,λe he hb=>?_⟩;have:=(Array.all_eq_true_iff_forall_mem.1 hedge) e he;simp only[hb,Bool.not_true,gA,bY,decide_eq_true_eq,ud]at this;obtain⟨h1,h2⟩:=this;have h3:¬ah.getD e.on true=false:=λh'=>by
     have h4:=(hR.2 _).1 h';rw[<-List.contains_iff_mem]at h4;rw[h4]at h2;cases h2
    have h4:e.on<ah.size:=by rw[hR.1];exact h1
    rw[gG,Fg h4]at h3 |-;simpa using h3
   have hB:ni H ops ah i o:=by
    intro j oj hji hj hoj;have hjl:=(hR.2 j).1 hj;rcases dQ.1 hjl with rfl|hjl
    .exact absurd rfl hji
    have:=iw.1 hpair j hjl;rw[hoj]at this;simp only[bY,DF]at this;exact this.2
   have hR':MO ops l (ah.setIfInBounds i true):=⟨by simp[hR.1],z7 hil hR.2⟩
   have hD':=hD.set hr;rw[BX]at h;have h':dB P H ops Q o (uK P H ops Q l.length (ah.setIfInBounds i true)) hs A:=uV (λhs A hk=>ih rest _ hs A he hnl hR' hD' hokl hk) h;by_cases ht:bh H o=.thr
   .rcases kS ht h' with⟨v,E,q,k⟩|q
    .exact ym hoi _ _ _ A hD hB hr q k
    .exact II hoi _ _ hs A (zI (i::l) ah hn hR.2) hD hB hr q
   by_cases hb:(bh H o≠.bar/\bh H o≠.cal)\/aX ops A o=some false
   .obtain⟨v,E,q,k⟩:=lW (hb.imp (λh=>⟨h.1,ht,h.2⟩) id) h';exact ym hoi _ _ _ A hD hB hr q k
   .have hb1:bh H o=.bar\/bh H o=.cal:=by
     by_cases h1:bh H o=.bar
     .exact .inl h1
     .exact .inr (Classical.byContradiction λhn=>hb (.inl ⟨h1,hn⟩))
    refine⟨λh0=>?_,λj hj oj hoj=>?_⟩
    .rw[h0]at hr;cases hr
    .have hji:j=i:=by
      obtain⟨h1,o',ho',hall⟩:=mem_ready.1 hj;rw[hoj]at ho';cases ho';refine Classical.byContradiction λhne=>?_;rcases hB j oj hne h1 hoj with h3|h3
      .have h4:=rk hD j i oj hoj hall h3;have h5:i<ah.size:=by rw[hR.1];exact hisz
       rw[gG,Fg h5]at hiu h4;simp at hiu h4;rw[hiu]at h4;cases h4
      .have hall':∀c,ii .bar c=false/\ii .cal c=false:=by intro c;cases c<;>exact⟨rfl,rfl⟩
       unfold ml at h3;rcases hb1 with hb1|hb1
       .rw[hb1,(hall' _).1]at h3;simp[oI]at h3
       .rw[hb1,(hall' _).2]at h3;simp[oI]at h3
     subst hji;rw[hoi]at hoj;cases hoj;exact h'
variable {M0:Nat->Prop} {S0:Mem} {b:Frame} {cs0:List Frame}
theorem nA{hs h}(hx:bL hs h){id}(hd:eG hs id=true)(ob):bL hs (h.set id ob):=by
 intro x o ho hn;by_cases hxi:id=x
 .subst hxi;unfold eG at hd;rw[ho]at hd;cases o<;>first|(cases hd;done)|(cases hn;done)
 .rw[cq hxi];exact hx x o ho hn
theorem Hy{o}{K}{hs}{A}(hx:bL hs A.h)(k:dB P H ops Q o K hs A) :
  (aX ops A o=some false/\K hs (A.put o.dst (.p (.tuple [])) A.h)) \/
  (aX ops A o=some true/\ja P A o.dst (λB=>∃hs',bL hs' B.h/\K hs' B) Q (aW P (au H) o A.eval A.h)) \/
  (aX ops A o=some true/\∃v E,BQ P H o hs v E A/\bL hs (E.ap A.h)/\K hs (A.put o.dst v (E.ap A.h))):=by
 have hcase:(∃v E,QS P H ops o hs v E A/\K hs (A.put o.dst v (E.ap A.h)))\/TS P H ops Q o A\/(bh H o=.cal/\aX ops A o=some true/\n4 P H Q hs A (λv h=>K hs (A.put o.dst v h)) (aW P (au H) o A.eval A.h))\/¬(bh H o≠.bar\/aX ops A o=some false):=by
  by_cases ht:bh H o=.thr
  .rcases kS ht k with h|h
   .exact .inl h
   .exact .inr (.inl h)
  .by_cases hcl:bh H o=.cal
   .rcases lp hcl k with h|h
    .exact .inl h
    .exact .inr (.inr (.inl ⟨hcl,h⟩))
   .by_cases hb:bh H o≠.bar\/aX ops A o=some false
    .exact .inl (lW (hb.imp (λh=>⟨h,ht,hcl⟩) id) k)
    .exact .inr (.inr (.inr hb))
 rcases hcase with⟨v,E,q,k1⟩|⟨tw,tc,f,args,u,t1,t2,t3⟩|⟨hcl,hw,kc⟩|hb
 .have fin:∀(r:OR),Qv P A.h r v->K hs (A.put o.dst v A.h)->ja P A o.dst (λB=>∃hs',bL hs' B.h/\K hs' B) Q r:=by
   intro r hr hk;rcases hr with rfl|⟨f,args,rfl,hc⟩
   .exact⟨hs,by rw[fF];exact hx,hk⟩
   .have:=hc A.h (bL.refl _);intro M0 m w cargs hS ha;obtain⟨h1,h2⟩:=this M0 m w cargs hS ha;refine⟨h1,h2.mono λ_ _ hb=>?_⟩;obtain⟨r,h',m',⟨rfl,rfl⟩,rest⟩:=hb;exact⟨.ret v,_,m',⟨hs,by rw[fF];exact hx,hk⟩,rest⟩
  rcases q with⟨hw,rfl,rfl⟩|⟨hw,⟨hc,rfl,q⟩|⟨hc,rfl,q⟩|⟨hc,t,rfl,q⟩|q|⟨hc,T,a,x,id,ver,i,kk,ob,h1,h2,h3,h4,rfl,rfl⟩|⟨hc,rfl,rfl,T,a,x,h1,h2⟩|⟨t,hc,hE⟩|⟨hc,rfl,f,args,g1,g2⟩⟩
  .exact .inl ⟨hw,by simpa[HE.ap]using k1⟩
  .exact .inr (.inl ⟨hw,fin _ q (by simpa[HE.ap]using k1)⟩)
  .refine .inr (.inl ⟨hw,fin _ ?_ (by simpa[HE.ap]using k1)⟩);have hpre:=u7 (P:=P) (mu:=au H) (o:=o) A.eval (In hc) hs A.h hx;rcases q with q|⟨f,args,q,hcall⟩
   .exact .inl (hpre.1 _ q)
   .exact .inr ⟨f,args,hpre.2 _ _ q,λh' hs'=>hcall h' (hx.trans hs')⟩
  .refine .inr (.inl ⟨hw,?_⟩);rw[q];exact⟨hs,by rw[fF];exact hx.trans (bL.app _ _),k1⟩
  .refine .inr (.inr ⟨hw,v,E,q,?_,k1⟩);obtain⟨j,sz,z,hc,h1,h2,h3,h4,rfl,rfl⟩:=q;exact nA hx h3 _
  .refine .inr (.inl ⟨hw,?_⟩);have hop:aW P (au H) o A.eval A.h=.skip (A.h.set id ob):=by
    unfold aW;rw[h1];show fi P T (A.eval a) (A.eval x) A.h=_;rw[h2];exact h4
   rw[hop];exact⟨hs,by rw[fF];exact nA hx h3 _,k1⟩
  .refine .inr (.inl ⟨hw,?_⟩);have hop:aW P (au H) o A.eval A.h=.skip A.h:=by
    unfold aW;rw[h1];exact h2
   rw[hop];exact⟨hs,by rw[fF];exact hx,by simpa[HE.ap]using k1⟩
  .refine .inr (.inl ⟨hw,?_⟩);rcases hE with⟨_,hE,hq⟩|⟨_,h0,⟨hap,hl,hE,hq⟩|⟨hqu,rfl,hq⟩|⟨hqu,id,hid,rfl,f,args,hq,hcall⟩⟩
   .rw[hq];refine⟨hs,?_,k1⟩;rw[fF];rcases hE with⟨l,rfl⟩|⟨id,ob,rfl,hd⟩
    .exact hx.trans (bL.app _ _)
    .exact nA hx hd _
   .rw[LH hap hl hq,xx hl hE];refine⟨hs,?_,k1⟩;rw[fF];rcases hE with⟨l,rfl⟩|⟨id,ob,rfl,hd⟩
    .exact hx.trans (bL.app _ _)
    .exact nA hx (by unfold eG;rw[fq hd]) _
   .have hpre:=u7 (P:=P) (mu:=au H) (o:=o) A.eval hqu (bD hs A.h) A.h (oH hs A.h);refine fin _ ?_ (by simpa[HE.ap]using k1);rcases hq with hq|⟨f,args,hq,hcall⟩
    .exact .inl (hpre.1 _ hq)
    .exact .inr ⟨f,args,hpre.2 _ _ hq,λh' hs'=>hcall h' ((oH hs A.h).trans hs')⟩
   .have hpre:=u7 (P:=P) (mu:=au H) (o:=o) A.eval hqu (bD hs A.h) A.h (oH hs A.h);rw[hpre.2 _ _ hq];have:=hcall A.h (oH hs A.h);intro M0 m w cargs hS ha;obtain⟨h1,h2⟩:=this M0 m w cargs hS ha;refine⟨h1,h2.mono λ_ _ hb=>?_⟩;obtain⟨r,h',m',⟨rfl,rfl⟩,rest⟩:=hb;exact⟨.ret v,_,m',⟨hs,by rw[fF];exact nA hx (by unfold eG;rw[fq hid]) _,k1⟩,rest⟩
  .exact .inr (.inl ⟨hw,fin _ (.inr ⟨f,args,g1,g2⟩) (by simpa[HE.ap]using k1)⟩)
 .refine .inr (.inl ⟨tw,?_⟩);rw[t1];intro M0 m w cargs hS ha;obtain⟨h1,h2⟩:=t2 M0 m w cargs hS ha;refine⟨h1,h2.mono λ_ _ hb=>?_⟩;obtain⟨r,h',m',⟨rfl,rfl⟩,rest⟩:=hb;exact⟨.panic u,_,m',t3 A.tmps,rest⟩
 .refine .inr (.inl ⟨hw,?_⟩);cases hr:aW P (au H) o A.eval A.h<;>rw[hr]at kc<;>first|exact kc.elim|skip
  intro M0 m w cargs hS ha;obtain⟨h1,h2⟩:=kc M0 m w cargs hS ha;refine⟨h1,h2.mono λ_ _ hb=>?_⟩;obtain⟨r,h',m',hR,rest⟩:=hb
  exact⟨r,h',m',by
   cases r with
   |ret v=>exact⟨hs,by rw[fF];exact hR.1,hR.2⟩
   |panic v=>exact hR A.tmps (λ_ _=>rfl),rest⟩
 .have hb1:bh H o=.bar:=Classical.byContradiction λhn=>hb (.inl hn);unfold dB at k
  cases hw:aX ops A o with
  |none=>rw[hw]at k;exact k.elim
  |some b=>
   rw[hw,hb1]at k
   cases b with
   |false=>exact absurd (.inr hw) hb
   |true=>
    have k1:ja P A o.dst (λB=>K B.h B) Q (aW P (au H) o A.eval A.h):=k.1 rfl;exact .inr (.inl ⟨rfl,lE (λB hB=>⟨B.h,bL.refl _,hB⟩) k1⟩)
theorem KL{n}{k}(hd:ops.toList.all (lj n)=true):∀(fuel t) (ah) (hs) {m} {A} {a} {w},bL hs A.h ->
  Rel P M0 S0 b cs0 m A a w->A.n=n->uK P H ops Q fuel ah hs A ->
   oU P M0 S0 b cs0 n (lone (b.atR a (.inRegion ops (Region.linearise.go .any ops fuel t ah [])::k)) (bn A.rc cs0) w) k Q:=by
 intro fuel
 induction fuel with
 |zero=>
  intro t ah hs m A a w hx hr hn h
  exact⟨.normal,A,m,a,w,h.2,hn,hr,.one (by simp only[Region.linearise.go,List.reverse_nil];exact stepR_region_end)⟩
 |succ fuel ih=>
  intro t ah hs m A a w hx hr hn h;obtain⟨h0,h1⟩:=h
  have hgo:Region.linearise.go .any ops (fuel+1) t ah []=match (Region.ready .any ops ah)[t%(Region.ready .any ops ah).length]? with
   |some i=>Region.linearise.go .any ops fuel (t / (Region.ready .any ops ah).length) (ah.setIfInBounds i true) [i]
   |none=>[].reverse:=rfl
  rw[hgo]
  cases hi:(Region.ready .any ops ah)[t%(Region.ready .any ops ah).length]? with
  |none=>
   have hnil:Region.ready .any ops ah=[]:=by
    cases hrr:Region.ready .any ops ah with
    |nil=>rfl
    |cons x xs=>
     rw[hrr]at hi;have hlt:t%(x::xs).length<(x::xs).length:=kN _ (by simp);simp at hi;simp at hlt;omega
   exact⟨.normal,A,m,a,w,h0 hnil,hn,hr,.one (by simp only[List.reverse_nil];exact stepR_region_end)⟩
  |some i=>
   simp only[];rw[linearise_go_acc,List.reverse_singleton,List.singleton_append];have hmem:=aV hi;obtain⟨_,o,ho,_⟩:=mem_ready.1 hmem;have hstep:=h1 i hmem o ho;have hdo:lj A.n o=true:=by
    rw[hn];exact iw.1 hd o (DI.2 (Array.mem_of_getElem? ho))
   rcases Hy hx hstep with⟨hw,hk⟩|⟨hw,hk⟩|⟨hw,v,E,hsl,hxs,hk⟩
   .have hwm:=hr.wanted hw;have hs1:=stepR_op_skip (P:=P) (b:=b) (k:=k) (cs:=bn A.rc cs0) (w:=w) (rest:=Region.linearise.go .any ops fuel (t / (Region.ready .any ops ah).length) (ah.setIfInBounds i true) []) (rP ho hwm);simp only[ho,ot]at hs1;have hr':=hr.put (dst:=o.dst) (j3 hdo) (me _ _);have:=ih (t / (Region.ready .any ops ah).length) (ah.setIfInBounds i true) hs (by rw[fF];exact hx) hr' ((lX _ _ _ _).trans hn) hk;rw[jV]at this;exact this.of_steps (.one hs1)
   .have hwm:=hr.wanted hw;rcases C3 (i:=i) (rest:=Region.linearise.go .any ops fuel (t / (Region.ready .any ops ah).length) (ah.setIfInBounds i true) []) (k:=k) ho hdo hwm hr hk with⟨A',m',a',w',⟨hs',hx',hK⟩,hn',hr',hs1⟩|⟨v,A',m',a',w',v',todo,hQ,hn',hr',hv,hs1⟩
    .exact(ih _ _ hs' hx' hr' (hn'.trans hn) hK).of_steps hs1
    .exact⟨.panic v,A',m',a',w',hQ,hn'.trans hn,hr',v',todo,hv,hs1⟩
   .have hwm:=hr.wanted hw;obtain⟨j,sz,z,hc,g1,g2,g3,g4,rfl,rfl⟩:=hsl;have hso:=GB hc;have hnd:∀c,o.op≠.defer c:=by
     intro c hcc;rw[hcc]at hso;cases hso
    have hok:=JI (P:=P) (o:=o) hr.hok g4 hr.eval g1 g2;obtain⟨m',a',w',hr',hs1⟩:=Ce (i:=i) (rest:=Region.linearise.go .any ops fuel (t / (Region.ready .any ops ah).length) (ah.setIfInBounds i true) []) (k:=k) ho hdo hwm hr hnd hok;have:=ih (t / (Region.ready .any ops ah).length) (ah.setIfInBounds i true) hs (by rw[fF];exact hxs) hr' ((lX _ _ _ _).trans hn) hk;rw[jV]at this;exact this.of_steps hs1
theorem xS:∀(l) (h),bL (qO h l) h/\(qO h l).length=h.length
 |[],h=>⟨bL.refl _,rfl⟩
 |id::l,h=>by
  obtain⟨h1,h2⟩:=xS l (h.set id .dead);refine⟨h1.trans λx o ho hn=>?_,by rw[qO,h2];simp⟩;by_cases hxi:id=x
  .subst hxi;have hlt:=(aA.1 ho).1;rw[fp (by simpa using hlt)]at ho;cases ho;cases hn
  .rwa [cq hxi]at ho
theorem AK(id)(h):bL (jp id h) h/\(jp id h).length=h.length:=by
 refine⟨λx o ho hn=>?_,by simp[jp]⟩;unfold jp at ho;rw[ua]at ho
 cases hx:h[x]? with
 |none=>rw[hx]at ho;cases ho
 |some y=>
  rw[hx]at ho;simp only[dy,iy]at ho;split at ho
  .rw[<-ho]
  .rw[<-ho]at hn;cases hn
theorem Gc(H)(ops)(A):bL (ti H ops A) A.h/\(ti H ops A).length=A.h.length:=by
 unfold ti;split
 .exact AK _ _
 .exact xS _ _
theorem EB(H)(ops)(A):bL (lk H ops A) (mU H ops A).h:=by
 intro x o ho hn;obtain⟨h1,h2⟩:=Gc H ops A;unfold lk at ho;show (A.h++_)[x]?=_;rcases aw x A.h.length with hl|hl
 .rw[br (by omega)]at ho;rw[br hl];exact h1 x o ho hn
 .rw[ca (by omega)]at ho;have:=aV ho;simp only[eK]at this;obtain⟨_,_,rfl⟩:=this;cases hn
theorem C8{α β}(f:α->β)(a b)(l):(Aw a b l).map f=Aw a b (l.map f):=by
 unfold Aw;rw[qj];split
 .simp[qh,List.map_drop]
 .rfl
theorem HU{α}(a b)(l:List α):(Aw a b l).Perm l:=by
 unfold Aw;split
 .rename_i h;have e:l=l.take a++((l.drop a).take 1++((l.drop (a+1)).take (b-a)++l.drop (b+1))):=by
   have e1:(l.drop (a+1)).take (b-a)++l.drop (b+1)=l.drop (a+1):=by
    have e2:l.drop (b+1)=(l.drop (a+1)).drop (b-a):=by rw[nq];congr 1;omega
    rw[e2];exact ox _ _
   rw[e1];have e3:(l.drop a).take 1++l.drop (a+1)=l.drop a:=by
    have e4:l.drop (a+1)=(l.drop a).drop 1:=by rw[nq]
    rw[e4];exact ox _ _
   rw[e3];exact(ox _ _).symm
  refine List.Perm.trans ?_ (List.Perm.of_eq e.symm);rw[bJ,bJ];refine List.Perm.append_left _ ?_;rw[<-bJ,<-bJ];exact List.Perm.append_right _ List.perm_append_comm
 .exact .refl _
theorem F1(H)(n):(qJ H n).Perm (List.range n):=by
 unfold qJ;split
 .exact HU _ _ _
 .exact .refl _
theorem JU(H)(ops:Array Oper):(qJ H ops.size).map (λi=>ops[i]?)=(ur H ops.toList).map some:=by
 have base:(List.range ops.size).map (λi=>ops[i]?)=ops.toList.map some:=by
  apply iv;intro i;rw[bU,bU];have e:ops.toList[i]?=ops[i]?:=by simp
  rw[e];rcases aw i ops.size with h|h
  .have e2:(List.range ops.size)[i]?=some i:=by simp[h]
   rw[e2,Fg h];simp[h]
  .have e2:(List.range ops.size)[i]?=none:=fq (by simpa using h);rw[e2,xv h];rfl
 unfold qJ ur;split
 .rw[C8,base,C8]
 .exact base
theorem Rel.drew{m}{A}{a}{w}(hr:Rel P M0 S0 b cs0 m A a w):Rel P M0 S0 b cs0 m A a { w with drawn:=w.drawn+1 }:=
 hr.ahead (Ev.drew _ ⟨m,A.h,w⟩) (HOk.drew hr.hok)
theorem Kb(hm:P.follows .mixedOrders=true):eZ P:=by
 intro M0 S0 b cs0 m A a w H ops Q n id k hd hok hr hn h;have hok2:vb H ops (Region.before ops) (qJ H ops.size)=true/\(qJ H ops.size).length=ops.size:=by
  unfold A8 at hok;simp only[bY,decide_eq_true_eq]at hok;exact⟨hok.2,hok.1.2⟩
 have hper:=F1 H ops.size;have hany:=Il (qJ H ops.size) _ (Array.replicate ops.size false) _ _ (JU H ops) (hper.nodup_iff.2 List.nodup_range) ⟨by simp,λj=>by
   rw[hper.mem_iff,bX,gG];by_cases hj:j<ops.size
   .simp[hj]
   .simp[hj]⟩ (λj o hj ho e he hb=>by
   exfalso;rw[gG]at hj;by_cases hj2:j<ops.size
   .simp[hj2]at hj
   .simp[hj2]at hj) hok2.1 h
 rw[hok2.2]at hany;obtain⟨m',hr'⟩:=hr.resv (oG H ops.toList);have hs:=stepR_region_draw (P:=P) (b:=b) (a:=a) (k:=k) (cs:=bn A.rc cs0) (w:=w) (ops:=ops) (id:=id);refine oU.of_steps (.one hs) ?_;simp only[Region.schedule,hm,gY,if_true];exact KL (A:=mU H ops.toList A) hd ops.size _ _ _ (EB H ops.toList A) hr'.drew hn hany
end Abs
end Go.Proofs.YtmndpldajflenaaGreatDoor
