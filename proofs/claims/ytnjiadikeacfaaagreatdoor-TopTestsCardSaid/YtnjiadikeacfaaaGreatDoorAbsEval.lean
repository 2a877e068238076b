/- THE WALK OF THE ABSTRACT MACHINE BY REWRITING: what is not to be looked into stands in pla -/
import Derived.Test.YtnjiadikeacfaaaGreatDoorAbsDraw
set_option linter.all false
namespace Go.Proofs.YtnjiadikeacfaaaGreatDoor
namespace Abs
class Bx (α:Type) where
 val:α
abbrev Cont:=Ex->AAct->Prop
structure CodeK where
 P:Program
 H:Hints
 c:Code
 Q:Cont
structure OpsK where
 P:Program
 H:Hints
 ops:Array Oper
 rest:List Oper
 Q:Cont
structure OpK where
 P:Program
 H:Hints
 ops:Array Oper
 rest:List Oper
 Q:Cont
 dst:Option Tmp
structure DrK where
 P:Program
 H:Hints
 ops:Array Oper
 rest:List Oper
 Q:Cont
structure DOpK where
 P:Program
 H:Hints
 ops:Array Oper
 rest:List Oper
 Q:Cont
 op:Oper
def W [k:Bx CodeK] (A:AAct):Prop:=wp k.val.P k.val.H k.val.c k.val.Q A
def WO [k:Bx OpsK] (A:AAct):Prop:=iF k.val.P k.val.H k.val.ops k.val.Q k.val.rest A
def WQ [k:Bx Cont] (e:Ex) (A:AAct):Prop:=k.val e A
def WR [k:Bx OpK] (A:AAct) (r:OR):Prop:=kA k.val.P A k.val.dst (iF k.val.P k.val.H k.val.ops k.val.Q k.val.rest) k.val.Q r
def WB [k:Bx ((Unit->Prop)×(Unit->Prop))] (b:Bool):Prop:=Gl b k.val.1 k.val.2
def WN [k:Bx ((Unit->Prop)×(Unit->Prop))] (b:Option Bool):Prop:=rG k.val.1 k.val.2 b
def WC [k:Bx ((Unit->Prop)×(Unit->Prop))] (v:AV):Prop:=DF k.val.1 k.val.2 v
def WF [k:Bx OpK] (A:AAct) (f:FuncId) (args:List AV):Prop:=kA k.val.P A k.val.dst (iF k.val.P k.val.H k.val.ops k.val.Q k.val.rest) k.val.Q (.call f args)
def WD [k:Bx DrK] (hs:Heap) (A:AAct):Prop:=bP k.val.P k.val.H k.val.ops k.val.Q k.val.rest hs A
def pn [k:Bx DOpK] (hs:Heap) (A:AAct) (d:DC):Prop:=
 T3 (λ_=>kA k.val.P A k.val.op.dst (λB=>bP k.val.P k.val.H k.val.ops k.val.Q k.val.rest B.h B) k.val.Q (bV k.val.P (aN k.val.H) k.val.op A.eval A.h))
   (λ_=>BF A.h (λv h=>bP k.val.P k.val.H k.val.ops k.val.Q k.val.rest hs (A.put k.val.op.dst v h)) (bV k.val.P (aN k.val.H) k.val.op A.eval A.h))
   (λ_=>xp k.val.P A.h (λv=>bP k.val.P k.val.H k.val.ops k.val.Q k.val.rest hs (A.put k.val.op.dst v A.h)) (bV k.val.P (aN k.val.H) k.val.op A.eval A.h))
   (λ_=>xp k.val.P hs (λv=>bP k.val.P k.val.H k.val.ops k.val.Q k.val.rest hs (A.put k.val.op.dst v A.h)) (bV k.val.P (aN k.val.H) k.val.op A.eval hs))
   (λj sz=>rJ hs A.h j sz (λv h=>bP k.val.P k.val.H k.val.ops k.val.Q k.val.rest hs (A.put k.val.op.dst v h)) (gI k.val.P A.eval k.val.op.op))
   (λ_=>u6 k.val.P hs A.h A.eval (λh=>bP k.val.P k.val.H k.val.ops k.val.Q k.val.rest hs (A.put k.val.op.dst (.p (.tuple [])) h)) k.val.op.op)
   (λ_=>vt k.val.P A.h A.eval (bP k.val.P k.val.H k.val.ops k.val.Q k.val.rest hs (A.put k.val.op.dst (.p (.tuple [])) A.h)) k.val.op.op)
   (λ_=>yQ hs A.h (λv h=>bP k.val.P k.val.H k.val.ops k.val.Q k.val.rest hs (A.put k.val.op.dst v h)) (bV k.val.P (aN k.val.H) k.val.op A.eval A.h))
   (λ_=>x8 k.val.P k.val.Q A (λv=>bP k.val.P k.val.H k.val.ops k.val.Q k.val.rest hs (A.put k.val.op.dst v A.h)) (bV k.val.P (aN k.val.H) k.val.op A.eval A.h))
   (λ_=>rg k.val.P k.val.H k.val.Q hs A (λv h=>bP k.val.P k.val.H k.val.ops k.val.Q k.val.rest hs (A.put k.val.op.dst v h)) (bV k.val.P (aN k.val.H) k.val.op A.eval A.h))
   d
def Wd [k:Bx DOpK] (hs:Heap) (A:AAct) (j sz:Nat) (z:Option AV):Prop:=rJ hs A.h j sz (λv h=>bP k.val.P k.val.H k.val.ops k.val.Q k.val.rest hs (A.put k.val.op.dst v h)) z
def Wg [k:Bx DOpK] (hs:Heap) (A:AAct) (T:TypeId) (a y:AV):Prop:=
 match a with
 |.ptr id ver i o=>iC hs id=true/\pT (λh=>bP k.val.P k.val.H k.val.ops k.val.Q k.val.rest hs (A.put k.val.op.dst (.p (.tuple [])) h)) (gE k.val.P T (.ptr id ver i o) y A.h)
 |_=>False
def Wc [k:Bx DOpK] (hs:Heap) (A:AAct) (r:OR):Prop:=pT (λh=>bP k.val.P k.val.H k.val.ops k.val.Q k.val.rest hs (A.put k.val.op.dst (.p (.tuple [])) h)) r
def M5 [k:Bx DOpK] (A:AAct) (r:OR):Prop:=kA k.val.P A k.val.op.dst (λB=>bP k.val.P k.val.H k.val.ops k.val.Q k.val.rest B.h B) k.val.Q r
def Wh [k:Bx DOpK] (hs:Heap) (A:AAct) (r:OR):Prop:=BF A.h (λv h=>bP k.val.P k.val.H k.val.ops k.val.Q k.val.rest hs (A.put k.val.op.dst v h)) r
def We [k:Bx DOpK] (hs:Heap) (A:AAct) (r:OR):Prop:=yQ hs A.h (λv h=>bP k.val.P k.val.H k.val.ops k.val.Q k.val.rest hs (A.put k.val.op.dst v h)) r
def MZ [k:Bx DOpK] (hs:Heap) (A:AAct) (r:OR):Prop:=x8 k.val.P k.val.Q A (λv=>bP k.val.P k.val.H k.val.ops k.val.Q k.val.rest hs (A.put k.val.op.dst v A.h)) r
def Ga [k:Bx DOpK] (hs h0:Heap) (A:AAct) (r:OR):Prop:=xp k.val.P h0 (λv=>bP k.val.P k.val.H k.val.ops k.val.Q k.val.rest hs (A.put k.val.op.dst v A.h)) r
def Wf [k:Bx DOpK] (hs:Heap) (A:AAct) (r:OR):Prop:=rg k.val.P k.val.H k.val.Q hs A (λv h=>bP k.val.P k.val.H k.val.ops k.val.Q k.val.rest hs (A.put k.val.op.dst v h)) r
def H0:Hints:=λ_=>.std
def eu:List (Nat×Hint)->Hints
 |[],_=>.std
 |(k,h)::l,t=>if t=k then h else eu l t
theorem L1(t):eu [] t=.std:=rfl
theorem JH(k)(h)(l)(t):eu ((k,h)::l) t=if t=k then h else eu l t:=rfl
section
variable (P:Program) (H:Hints) (Q:Cont) (A:AAct)
theorem V'(c):wp P H c Q A=@W ⟨P,H,c,Q⟩ A:=propext Iff.rfl
theorem UF:@W ⟨P,H,.skip,Q⟩ A=@WQ ⟨Q⟩ .normal A:=propext Iff.rfl
theorem Pk(i)(l):@W ⟨P,H,.region i ⟨l⟩ false,Q⟩ A=@WO ⟨P,H,⟨l⟩,l,Q⟩ A:=propext Iff.rfl
theorem Iw(i)(l):@W ⟨P,H,.region i ⟨l⟩ true,Q⟩ A=@WD ⟨P,H,⟨l⟩,yp H l,Q⟩ (nA H l A) (p9 H l A):=propext Iff.rfl
def HZ:Hint->Bool
 |.slot _ _=>true
 |_=>false
theorem aV(i)(l)(h:HZ (H 5000000)=false):@W ⟨P,H,.region i ⟨l⟩ true,Q⟩ A=@WD ⟨P,H,⟨l⟩,l,Q⟩ (nA H l A) (p9 H l A):=by
 have e:yp H l=l:=by
  unfold yp;cases hh:H 5000000<;>rw[hh]at h<;>first|rfl|cases h
 rw[Iw,e]
theorem yK{o}:(∀j sz,bQ H0 o≠.slot j sz)/\bQ H0 o≠.sto/\∀t,bQ H0 o≠.app t:=by
 have h0:∀op,tF H0 op=.bar:=by
  intro op;unfold tF;split
  .rfl
  .rfl
 unfold bQ;split
 .rw[h0];exact⟨λj sz=>by simp,by simp,λt=>by simp⟩
 .show (∀j sz,(if oX o.op=true then DC.alloc else if eH o.op=true then .quiet else .bar)≠.slot j sz)/\(if oX o.op=true then DC.alloc else if eH o.op=true then .quiet else .bar)≠.sto/\∀t,(if oX o.op=true then DC.alloc else if eH o.op=true then .quiet else .bar)≠.app t;split
  .exact⟨λj sz=>by simp,by simp,λt=>by simp⟩
  .split
   .exact⟨λj sz=>by simp,by simp,λt=>by simp⟩
   .exact⟨λj sz=>by simp,by simp,λt=>by simp⟩
theorem B3:∀l,rK H0 l=[]
 |[]=>rfl
 |o::l=>by
  unfold rK;split
  .rename_i j sz h;exact absurd h (yK.1 j sz)
  .exact B3 l
theorem zi(T):∀l,mT H0 T l=[]
 |[]=>rfl
 |o::l=>by
  unfold mT;split
  .rename_i h _;exact absurd h yK.2.1
  .rename_i h;exact absurd h (yK.2.2 _)
  .exact zi T l
theorem UI(i)(l):@W ⟨P,H0,.region i ⟨l⟩ true,Q⟩ A=@WD ⟨P,H0,⟨l⟩,l,Q⟩ A.h A:=by
 rw[aV _ _ _ _ _ _ rfl];unfold nA p9 wQ;rw[B3,zi];simp[tX,Jl,H0]
theorem V8(a b):@W ⟨P,H,.seq a b,Q⟩ A=@W ⟨P,H,a,dT (wp P H b Q) Q⟩ A:=propext Iff.rfl
theorem UJ(c)(x y):@W ⟨P,H,.cond c x y,Q⟩ A=@WC ⟨λ_=>wp P H x Q A,λ_=>wp P H y Q A⟩ (A.eval c):=propext Iff.rfl
theorem Sd(id)(b):@W ⟨P,H,.block id b,Q⟩ A=@W ⟨P,H,b,jG id Q⟩ A:=propext Iff.rfl
theorem R8(b):@W ⟨P,H,.scope b,Q⟩ A=@W ⟨P,H,b,Q⟩ A:=propext Iff.rfl
theorem Sa(l):@W ⟨P,H,.label l,Q⟩ A=@WQ ⟨Q⟩ .normal A:=propext Iff.rfl
theorem UH(id):@W ⟨P,H,.exit id,Q⟩ A=@WQ ⟨Q⟩ (.exit id) A:=propext Iff.rfl
theorem V9:@W ⟨P,H,.ret,Q⟩ A=@WQ ⟨Q⟩ .ret A:=propext Iff.rfl
theorem Dl(b)(R):@WQ ⟨dT (wp P H b Q) R⟩ .normal A=@W ⟨P,H,b,Q⟩ A:=propext Iff.rfl
theorem Ht(K)(j):@WQ ⟨dT K Q⟩ (.exit j) A=@WQ ⟨Q⟩ (.exit j) A:=propext Iff.rfl
theorem Kn(K):@WQ ⟨dT K Q⟩ .ret A=@WQ ⟨Q⟩ .ret A:=propext Iff.rfl
theorem F7(K)(v):@WQ ⟨dT K Q⟩ (.panic v) A=@WQ ⟨Q⟩ (.panic v) A:=propext Iff.rfl
theorem AC(id):@WQ ⟨jG id Q⟩ .normal A=@WQ ⟨Q⟩ .normal A:=propext Iff.rfl
theorem Dp(id j):@WQ ⟨jG id Q⟩ (.exit j) A=if j=id then @WQ ⟨Q⟩ .normal A else @WQ ⟨Q⟩ (.exit j) A:=propext Iff.rfl
theorem F'(id):@WQ ⟨jG id Q⟩ .ret A=@WQ ⟨Q⟩ .ret A:=propext Iff.rfl
theorem BM(id)(v):@WQ ⟨jG id Q⟩ (.panic v) A=@WQ ⟨Q⟩ (.panic v) A:=propext Iff.rfl
theorem UM(ops):@WO ⟨P,H,ops,[],Q⟩ A=@WQ ⟨Q⟩ .normal A:=propext Iff.rfl
theorem jg(X Y):Gl true X Y=X ():=propext ⟨λh=>h.1 rfl,λh=>⟨λ_=>h,λh'=>(by cases h')⟩⟩
theorem j2(X Y):Gl false X Y=Y ():=propext ⟨λh=>h.2 rfl,λh=>⟨λh'=>(by cases h'),λ_=>h⟩⟩
theorem kw(m)(dst)(op)(ty)(pos)(after)(g)(e)(h) :
  bV P m ⟨dst,op,ty,pos,after,g⟩ e h=bV P m ⟨dst,op,ty, "", #[],none⟩ e h:=by cases op<;>rfl
theorem Sh(ops)(rest)(dst)(op)(ty)(pos)(after) :
  @WO ⟨P,H,ops,⟨dst,op,ty,pos,after,none⟩::rest,Q⟩ A=@WR ⟨P,H,ops,rest,Q,dst⟩ A (bV P (aN H) ⟨dst,op,ty, "", #[],none⟩ A.eval A.h):=by
 rw[<-kw P (aN H) dst op ty pos after none];unfold WO WR;simp only[iF,bz,rG];exact jg _ _
theorem Pp(ops)(rest)(dst)(op)(ty)(pos)(after)(j)(b) :
  @WO ⟨P,H,ops,⟨dst,op,ty,pos,after,some (j,b)⟩::rest,Q⟩ A =
  @WN ⟨λ_=>kA P A dst (iF P H ops Q rest) Q (bV P (aN H) ⟨dst,op,ty,pos,after,some (j,b)⟩ A.eval A.h),
    λ_=>iF P H ops Q rest (A.put dst (.p (.tuple [])) A.h)⟩ (qo A ((ops[j]?).bind (·.dst)) b):=propext Iff.rfl
theorem Si(X Y)(b):@WN ⟨X,Y⟩ (some b)=@WB ⟨X,Y⟩ b:=propext Iff.rfl
theorem Sz(X Y)(b):@WC ⟨X,Y⟩ (.p (.bool b))=@WB ⟨X,Y⟩ b:=propext Iff.rfl
theorem UO(X Y)(b):@WB ⟨X,Y⟩ (!b)=@WB ⟨Y,X⟩ b:=by
 cases b
 .exact(jg X Y).trans (j2 Y X).symm
 .exact(j2 X Y).trans (jg Y X).symm
theorem Ks(ops)(rest)(d dst)(op)(ty)(pos)(after)(g)(Y) :
  @WB ⟨λ_=>kA P A dst (iF P H ops Q rest) Q (bV P (aN H) ⟨d,op,ty,pos,after,g⟩ A.eval A.h),Y⟩ true =
   @WR ⟨P,H,ops,rest,Q,dst⟩ A (bV P (aN H) ⟨d,op,ty, "", #[],none⟩ A.eval A.h):=by
 rw[<-kw P (aN H) d op ty pos after g];exact jg _ _
theorem Hx(X)(ops)(l)(B):@WB ⟨X,λ_=>iF P H ops Q l B⟩ false=@WO ⟨P,H,ops,l,Q⟩ B:=j2 _ _
theorem Kq(c)(Y):@WB ⟨λ_=>wp P H c Q A,Y⟩ true=@W ⟨P,H,c,Q⟩ A:=jg _ _
theorem Hv(c)(X):@WB ⟨X,λ_=>wp P H c Q A⟩ false=@W ⟨P,H,c,Q⟩ A:=j2 _ _
theorem UK(ops)(rest)(dst)(v)(h):@WR ⟨P,H,ops,rest,Q,dst⟩ A (.val v h)=@WO ⟨P,H,ops,rest,Q⟩ (A.put dst v h):=propext Iff.rfl
theorem Se(ops)(rest)(dst)(h):@WR ⟨P,H,ops,rest,Q,dst⟩ A (.skip h)=@WO ⟨P,H,ops,rest,Q⟩ (A.put dst (.p (.tuple [])) h):=propext Iff.rfl
theorem Sf(k)(f)(args):@WR ⟨k⟩ A (.call f args)=@WF ⟨k⟩ A f args:=propext Iff.rfl
theorem Pm(ops)(rest)(dst)(v):@WR ⟨P,H,ops,rest,Q,dst⟩ A (.panic v)=@WQ ⟨Q⟩ (.panic v) A:=propext Iff.rfl
theorem Ko(rs)(n)(R):@WQ ⟨iB P rs n R⟩ .ret A=(A.bs=n/\cg P rs (R A.rc) A.tmps A.df .ret A.h):=propext Iff.rfl
theorem Do(rs)(n)(R):@WQ ⟨iB P rs n R⟩ .normal A=(A.bs=n/\cg P rs (R A.rc) A.tmps A.df .ret A.h):=propext Iff.rfl
theorem F9(rs)(n)(R)(v):@WQ ⟨iB P rs n R⟩ (.panic v) A=(A.bs=n/\cg P rs (R A.rc) A.tmps A.df (.pan v) A.h):=propext Iff.rfl
def rY:AV->Option (List AV)->Option (List AV)
 |v,some l=>if v.single=true then some (v::l) else none
 |_,none=>none
def PX:OR->Option (List AV)->Option (List AV)
 |.val v _,r=>rY v r
 |_,_=>none
def S4 (R:AEnd->Heap->Prop) (h:Heap):Option AV->Prop
 |some v=>R (.ret v) h
 |none=>False
theorem LA(rs)(R)(T)(h):cg P rs R T [] .ret h=S4 R h (oc (lf P h T rs)):=propext Iff.rfl
theorem LB(rs)(R)(T)(h)(v):cg P rs R T [] (.pan v) h=R (.panic v) h:=propext Iff.rfl
theorem K4(R)(h)(v):S4 R h (some v)=R (.ret v) h:=propext Iff.rfl
theorem Pj(h)(T):lf P h T []=some []:=rfl
theorem Pi(h)(T)(t)(rs):lf P h T (.tmp t::rs)=rY (T t) (lf P h T rs):=by
 rw[lf.eq_2];cases hr:lf P h T rs<;>rfl
theorem MW(h)(T)(t)(ty)(rs):lf P h T (.cell t ty::rs)=PX (nF P ty (T t) h) (lf P h T rs):=by
 rw[lf.eq_2];unfold Km;dsimp only;generalize lf P h T rs=x;cases nF P ty (T t) h<;>cases x<;>rfl
theorem Rs(v)(l):rY (.p v) (some l)=some (.p v::l):=rfl
theorem Mf(i j k o)(l):rY (.ptr i j k o) (some l)=some (.ptr i j k o::l):=rfl
theorem GX(i j k o)(l):rY (.slice i j k o) (some l)=some (.slice i j k o::l):=rfl
theorem Mg(cs)(l):rY (.agg cs) (some l)=some (.agg cs::l):=rfl
theorem JT(f)(a c)(l):rY (.func f a c) (some l)=some (.func f a c::l):=rfl
theorem Mh(v)(h)(r):PX (.val v h) r=rY v r:=rfl
theorem Hp:oc (some [])=some (.p (.tuple [])):=rfl
theorem Ho(v):oc (some [v])=some v:=rfl
theorem Hn(v u)(l):oc (some (v::u::l))=some (qk (v::u::l)):=rfl
theorem aR{k}{b}(h1:b=true->@WB ⟨k⟩ true)(h2:b=false->@WB ⟨k⟩ false):@WB ⟨k⟩ b:=by
 cases b
 .exact h2 rfl
 .exact h1 rfl
theorem UN(ops)(hs):@WD ⟨P,H,ops,[],Q⟩ hs A=@WQ ⟨Q⟩ .normal A:=propext Iff.rfl
theorem Sk(ops)(rest)(hs)(dst)(op)(ty)(pos)(after) :
  @WD ⟨P,H,ops,⟨dst,op,ty,pos,after,none⟩::rest,Q⟩ hs A=@pn ⟨P,H,ops,rest,Q,⟨dst,op,ty,pos,after,none⟩⟩ hs A (bQ H ⟨dst,op,ty, "", #[],none⟩):=by
 unfold WD pn;simp only[bP,bz,rG];exact jg _ _
theorem Pq(ops)(rest)(hs)(dst)(op)(ty)(pos)(after)(j)(b) :
  @WD ⟨P,H,ops,⟨dst,op,ty,pos,after,some (j,b)⟩::rest,Q⟩ hs A =
  @WN ⟨λ_=>@pn ⟨P,H,ops,rest,Q,⟨dst,op,ty,pos,after,some (j,b)⟩⟩ hs A (bQ H ⟨dst,op,ty, "", #[],none⟩),
    λ_=>@WD ⟨P,H,ops,rest,Q⟩ hs (A.put dst (.p (.tuple [])) A.h)⟩ (qo A ((ops[j]?).bind (·.dst)) b):=propext Iff.rfl
theorem Hu(k)(hs)(d)(Y):@WB ⟨λ_=>@pn ⟨k⟩ hs A d,Y⟩ true=@pn ⟨k⟩ hs A d:=jg _ _
theorem Hw(k)(hs)(B)(X):@WB ⟨X,λ_=>@WD ⟨k⟩ hs B⟩ false=@WD ⟨k⟩ hs B:=j2 _ _
theorem Gb(ops)(l)(B)(Y):@WB ⟨λ_=>iF P H ops Q l B,Y⟩ true=@WO ⟨P,H,ops,l,Q⟩ B:=jg _ _
theorem Gd(ops)(rest)(d dst)(op)(ty)(pos)(after)(g)(X) :
  @WB ⟨X,λ_=>kA P A dst (iF P H ops Q rest) Q (bV P (aN H) ⟨d,op,ty,pos,after,g⟩ A.eval A.h)⟩ false =
   @WR ⟨P,H,ops,rest,Q,dst⟩ A (bV P (aN H) ⟨d,op,ty, "", #[],none⟩ A.eval A.h):=by
 rw[<-kw P (aN H) d op ty pos after g];exact j2 _ _
theorem Kr(k)(hs)(B)(Y):@WB ⟨λ_=>@WD ⟨k⟩ hs B,Y⟩ true=@WD ⟨k⟩ hs B:=jg _ _
theorem Gc(k)(hs)(d)(X):@WB ⟨X,λ_=>@pn ⟨k⟩ hs A d⟩ false=@pn ⟨k⟩ hs A d:=j2 _ _
section
variable (ops:Array Oper) (rest:List Oper) (hs:Heap) (dst:Option Tmp) (op:Op) (ty:TypeId) (pos:String) (after:Array Edge) (g:Option (Nat×Bool))
theorem Sv:@pn ⟨P,H,ops,rest,Q,⟨dst,op,ty,pos,after,g⟩⟩ hs A .bar=@M5 ⟨P,H,ops,rest,Q,⟨dst,op,ty,pos,after,g⟩⟩ A (bV P (aN H) ⟨dst,op,ty, "", #[],none⟩ A.eval A.h):=by
 rw[<-kw P (aN H) dst op ty pos after g];exact propext Iff.rfl
theorem M3:@pn ⟨P,H,ops,rest,Q,⟨dst,op,ty,pos,after,g⟩⟩ hs A .alloc=@Wh ⟨P,H,ops,rest,Q,⟨dst,op,ty,pos,after,g⟩⟩ hs A (bV P (aN H) ⟨dst,op,ty, "", #[],none⟩ A.eval A.h):=by
 rw[<-kw P (aN H) dst op ty pos after g];exact propext Iff.rfl
theorem Sw(t):@pn ⟨P,H,ops,rest,Q,⟨dst,op,ty,pos,after,g⟩⟩ hs A (.app t)=@We ⟨P,H,ops,rest,Q,⟨dst,op,ty,pos,after,g⟩⟩ hs A (bV P (aN H) ⟨dst,op,ty, "", #[],none⟩ A.eval A.h):=by
 rw[<-kw P (aN H) dst op ty pos after g];exact propext Iff.rfl
theorem Sq:@pn ⟨P,H,ops,rest,Q,⟨dst,op,ty,pos,after,g⟩⟩ hs A .thr=@MZ ⟨P,H,ops,rest,Q,⟨dst,op,ty,pos,after,g⟩⟩ hs A (bV P (aN H) ⟨dst,op,ty, "", #[],none⟩ A.eval A.h):=by
 rw[<-kw P (aN H) dst op ty pos after g];exact propext Iff.rfl
theorem Su:@pn ⟨P,H,ops,rest,Q,⟨dst,op,ty,pos,after,g⟩⟩ hs A .cal=@Wf ⟨P,H,ops,rest,Q,⟨dst,op,ty,pos,after,g⟩⟩ hs A (bV P (aN H) ⟨dst,op,ty, "", #[],none⟩ A.eval A.h):=by
 rw[<-kw P (aN H) dst op ty pos after g];exact propext Iff.rfl
theorem M2:@pn ⟨P,H,ops,rest,Q,⟨dst,op,ty,pos,after,g⟩⟩ hs A .quiet=@Ga ⟨P,H,ops,rest,Q,⟨dst,op,ty,pos,after,g⟩⟩ hs A.h A (bV P (aN H) ⟨dst,op,ty, "", #[],none⟩ A.eval A.h):=by
 rw[<-kw P (aN H) dst op ty pos after g];exact propext Iff.rfl
theorem St:@pn ⟨P,H,ops,rest,Q,⟨dst,op,ty,pos,after,g⟩⟩ hs A .low=@Ga ⟨P,H,ops,rest,Q,⟨dst,op,ty,pos,after,g⟩⟩ hs hs A (bV P (aN H) ⟨dst,op,ty, "", #[],none⟩ A.eval hs):=by
 rw[<-kw P (aN H) dst op ty pos after g];exact propext Iff.rfl
theorem Px(j sz):@pn ⟨P,H,ops,rest,Q,⟨dst,op,ty,pos,after,g⟩⟩ hs A (.slot j sz)=@Wd ⟨P,H,ops,rest,Q,⟨dst,op,ty,pos,after,g⟩⟩ hs A j sz (gI P A.eval op):=propext Iff.rfl
theorem Sr(T)(a x):@pn ⟨P,H,ops,rest,Q,⟨dst,.store T a x,ty,pos,after,g⟩⟩ hs A .sto=@Wg ⟨P,H,ops,rest,Q,⟨dst,.store T a x,ty,pos,after,g⟩⟩ hs A T (A.eval a) (A.eval x):=propext Iff.rfl
theorem Ss(T)(a x):@pn ⟨P,H,ops,rest,Q,⟨dst,.store T a x,ty,pos,after,g⟩⟩ hs A .nop=(gE P T (A.eval a) (A.eval x) A.h=.skip A.h/\@WD ⟨P,H,ops,rest,Q⟩ hs (A.put dst (.p (.tuple [])) A.h)):=propext Iff.rfl
theorem Sp(T)(y)(id ver i k):@Wg ⟨P,H,ops,rest,Q,⟨dst,op,ty,pos,after,g⟩⟩ hs A T (.ptr id ver i k) y =
  (iC hs id=true/\@Wc ⟨P,H,ops,rest,Q,⟨dst,op,ty,pos,after,g⟩⟩ hs A (gE P T (.ptr id ver i k) y A.h)):=propext Iff.rfl
theorem Pr(h):@Wc ⟨P,H,ops,rest,Q,⟨dst,op,ty,pos,after,g⟩⟩ hs A (.skip h)=@WD ⟨P,H,ops,rest,Q⟩ hs (A.put dst (.p (.tuple [])) h):=propext Iff.rfl
theorem Pt(j sz)(z):@Wd ⟨P,H,ops,rest,Q,⟨dst,op,ty,pos,after,g⟩⟩ hs A j sz (some z) =
  (z.cells.map (·.length)=some sz/\iC hs (hs.length-1-j)=true/\A.h[hs.length-1-j]?=some (.row sz [])/\@WD ⟨P,H,ops,rest,Q⟩ hs (A.put dst (.ptr (hs.length-1-j) 1 0 0) (A.h.set (hs.length-1-j) (.row sz [z])))):=propext Iff.rfl
theorem Sx(v)(h):@M5 ⟨P,H,ops,rest,Q,⟨dst,op,ty,pos,after,g⟩⟩ A (.val v h)=@WD ⟨P,H,ops,rest,Q⟩ (A.put dst v h).h (A.put dst v h):=propext Iff.rfl
theorem Py(h):@M5 ⟨P,H,ops,rest,Q,⟨dst,op,ty,pos,after,g⟩⟩ A (.skip h)=@WD ⟨P,H,ops,rest,Q⟩ (A.put dst (.p (.tuple [])) h).h (A.put dst (.p (.tuple [])) h):=propext Iff.rfl
theorem M4(v):@M5 ⟨P,H,ops,rest,Q,⟨dst,op,ty,pos,after,g⟩⟩ A (.panic v)=@WQ ⟨Q⟩ (.panic v) A:=propext Iff.rfl
theorem Sy(v)(h):@Wh ⟨P,H,ops,rest,Q,⟨dst,op,ty,pos,after,g⟩⟩ hs A (.val v h)=((∃t,h=A.h++t)/\@WD ⟨P,H,ops,rest,Q⟩ hs (A.put dst v h)):=propext Iff.rfl
theorem So(v)(h):@We ⟨P,H,ops,rest,Q,⟨dst,op,ty,pos,after,g⟩⟩ hs A (.val v h)=(P7 hs A.h h/\@WD ⟨P,H,ops,rest,Q⟩ hs (A.put dst v h)):=propext Iff.rfl
theorem Sl(v)(h0):@Ga ⟨P,H,ops,rest,Q,⟨dst,op,ty,pos,after,g⟩⟩ hs h0 A (.val v h0)=@WD ⟨P,H,ops,rest,Q⟩ hs (A.put dst v A.h):=
 propext ⟨λh=>h.2,λh=>⟨rfl,h⟩⟩
end
end
variable {P:Program}
def qg (M:Nat->Prop) (w:World) (cargs:Array Value) (pargs:List PV):Prop:=cargs.size=pargs.length/\∀(i:Nat) (c:PV),pargs[i]?=some c->RepP M w (cargs.getD i undef) c
def af (P:Program) (f:FuncId) (pargs:List PV) (v:PV):Prop:=
 ∀(M0:Nat->Prop) (w:World) (cargs:Array Value),(∀b,M0 b->b<w.heap.size)->uQ P w->qg M0 w cargs pargs ->
  (∀w',(callFunc f cargs).run P w'=.ok (.enter f cargs) w') /\
  Calls P f cargs w λe w'=>∃v',e=.returned v'/\RepP M0 w' v' v/\Fr [] w w'
theorem qn{M0:Nat->Prop}{w:World}(h:∀b,M0 b->b<w.heap.size)(hg:uQ P w):HOk P M0 ⟨[],[],w⟩ where
 gl:=⟨hg,λb _ hb=>by simp[Own]at hb⟩
 len:=rfl
 lt:=λb hb=>by simp[Own]at hb
 m0:=λb hb=>⟨h b hb,by simp[Own]⟩
 inj:=λi j b hi=>by simp at hi
 obj:=λid o ho=>by simp at ho
theorem xt(hD:dK P){H}{f}{fn}{c}{pargs}{v}{rs}{n}(hf:P.funcs[f]?=some fn)(hb:fn.body=some c)(hrs:fn.results.toList=rs)(hn:fn.ntmps=n)(hok:cv H fn=true)
  (hlen:pargs.length<=n) (hw:SW P H c (iB P rs 0 (λ_ r _=>r=.ret (.p v))) (aW n .no (pargs.map .p) [])):af P f pargs v:=by
 intro M0 w cargs hM hg ha;have ha':dE (Rep M0 ⟨[],[],w⟩) cargs (pargs.map .p):=by
  refine⟨by simpa using ha.1,λi c hc=>?_⟩;simp only[cz,cd]at hc;obtain⟨q,hq,rfl⟩:=hc;exact aF ((ha.2 i q hq).mono (λ_ _ _=>rfl) (λb hb=>by
   rcases hb with hb|hb
   .exact .inl hb
   .simp[Own]at hb))
 have:=xz hD (h:=[]) (R:=λr _=>r=.ret (.p v)) hf hb hrs hn hok (by simpa using hlen) hw M0 [] w cargs (qn hM hg) ha';refine⟨this.1,this.2.mono λe w' h=>?_⟩;obtain⟨r,h',m',rfl,hev,hk,hend⟩:=h
 cases e with
 |returned v'=>exact⟨v',rfl,RepP.less (show RepP (Avoid M0 m') w' v' v from hend) (λb hb=>.inl hb),hev.fr⟩
 |panicked ch=>exact hend.elim
 |outgrown=>exact hend.elim
theorem GF(hD:dK P){H}{f}{fn}{c}{pargs}{v}{rs}{n}(hf:P.funcs[f]?=some fn)(hb:fn.body=some c)(hrs:fn.results.toList=rs)(hn:fn.ntmps=n)(hok:cv H fn=true)
  (hlen:pargs.length<=n) (hw:wp P H c (iB P rs 0 (λ_ r _=>r=.ret (.p v))) (aW n .no (pargs.map .p) [])):af P f pargs v:=
 xt hD hf hb hrs hn hok hlen (rD hD hw)
theorem rV{M0}{S}(hS:HOk P M0 S){w'}(h:Fr [] S.w w'):HOk P M0 ⟨S.m,S.h,w'⟩/\Ev S.h.length S ⟨S.m,S.h,w'⟩:=by
 have hall:∀b,b<S.w.heap.size->w'.heap[b]?=S.w.heap[b]?:=λb hb=>h.block b hb (by simp[Own])
 have hev:Ev S.h.length S ⟨S.m,S.h,w'⟩:=
  {fr:=⟨h.os,h.tape,h.output,h.size,λb hb _=>hall b hb,h.shape⟩
   sub:=λb hb=>.inl hb
   obj:=λid o _ ho=>⟨o,ho,ObjEv.refl _ _⟩ }
 exact⟨
  {len:=hS.len
   lt:=λb hb=>gb (hS.lt b hb) h.size
   m0:=λb hb=>⟨gb (hS.m0 b hb).1 h.size,(hS.m0 b hb).2⟩
   inj:=hS.inj
   gl:=hev.glob hS.gl
   obj:=λid o ho=>(hS.obj id o ho).keep hev λb hb=>hall b (hS.lt b (aT (cu hb))) },hev⟩
theorem p8{f}{pargs}{v}{h}(hc:af P f pargs v):aB P f (pargs.map .p) h (λr h'=>r=.ret (.p v)/\h'=h):=by
 intro M0 m w cargs hS ha;have hM:∀b,Avoid M0 m b->b<w.heap.size:=λb hb=>by
  rcases hb with hb|hb
  .exact(hS.m0 b hb).1
  .exact hS.lt b hb
 have hargs:qg (Avoid M0 m) w cargs pargs:=by
  refine⟨by simpa using ha.1,λi c hi=>?_⟩;have:=ha.2 i (.p c) (by simp[hi]);exact this
 obtain⟨h1,h2⟩:=hc (Avoid M0 m) w cargs hM hS.gl.1 hargs;refine⟨h1,h2.mono λe w' h=>?_⟩;obtain⟨v',rfl,hv,hfr⟩:=h;obtain⟨hk,hev⟩:=rV hS hfr;exact⟨.ret (.p v),_,m,⟨rfl,rfl⟩,hev,hk,hv⟩
theorem aB.mono{f}{args}{h}{R R'}(hc:aB P f args h R)(hr:∀r h',R r h'->R' r h'):aB P f args h R':=
 λM0 m w cargs hS ha=>let ⟨h1,h2⟩:=hc M0 m w cargs hS ha
  ⟨h1,h2.mono λ_ _ hb=>let ⟨r,h',m',hR,rest⟩:=hb;⟨r,h',m',hr r h' hR,rest⟩⟩
theorem ae{P}{H}{ops}{rest}{Q}{dst}{A}{f}{args}{pargs}{v}(hc:af P f pargs v)(ha:args=pargs.map .p)
  (h:@WO ⟨P,H,ops,rest,Q⟩ (A.put dst (.p v) A.h)):@WF ⟨P,H,ops,rest,Q,dst⟩ A f args:=by
 subst ha;refine(p8 (h:=A.h) hc).mono λr h' hr=>?_;obtain⟨rfl,rfl⟩:=hr;exact h
theorem ay{P}{H}{ops}{rest}{Q}{o}{hs h0}{A}{f}{args}{pargs}{v}(hc:af P f pargs v)(ha:args=pargs.map .p)
  (h:@WD ⟨P,H,ops,rest,Q⟩ hs (A.put o.dst (.p v) A.h)):@Ga ⟨P,H,ops,rest,Q,o⟩ hs h0 A (.call f args):=by
 subst ha;exact⟨.p v,λ_ _=>p8 hc,h⟩
end Abs
end Go.Proofs.YtnjiadikeacfaaaGreatDoor
