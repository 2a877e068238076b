/- CONTRACTS of functions and laws. No conditions but those in the heads. -/
import Derived.Test.YtgafommgcfhkkaaGreatDoorAbsOpsBX
import Derived.RangeFuncRecord
import Derived.WideKeyRuns
import Derived.Laws.BytesArg
import Derived.AtR
import Derived.Recover
set_option linter.all false
namespace Go.Proofs.YtgafommgcfhkkaaGreatDoor
namespace Abs
variable {P:Program} {M0:Nat->Prop}
def cI{m:List (Option Nat)}{id b}(h:m.getD id none=some b):m[id]?=some (some b):=by
 grind
def Hw{w:World}{bl}{x ob}(hx:w.heap[bl]?=some x)(j:w.shape? bl=none)(i:∀C T f,ob≠.cells C T f)(c):(w.putObj bl ob).shape? c=w.shape? c:=by
 by_cases e:c=bl
 .subst e;rw[j];unfold World.shape?;rw[World.putObj_heap_same (xC.1 hx).1];grind
 .unfold World.shape?;rw[World.putObj_heap_other e]
def lq{S}(v:HOk P M0 S){id bl}{I o}{x ob}(u:S.m.getD id none=some bl)(J:S.h[id]?=some I)(hx:S.w.heap[bl]?=some x)
  (N:S.w.shape? bl=none) (M:∀C T f,ob≠.cells C T f) (G:ObjEv (some bl) I (some bl) o)
  (E:Ev S.h.length S ⟨S.m,S.h.set id o,S.w.putObj bl ob⟩->(S.w.putObj bl ob).heap[bl]?=some ob->ObjOk P M0 ⟨S.m,S.h.set id o,S.w.putObj bl ob⟩ (some bl) o) :
  HOk P M0 ⟨S.m,S.h.set id o,S.w.putObj bl ob⟩/\Ev S.h.length S ⟨S.m,S.h.set id o,S.w.putObj bl ob⟩:=by
 have F:=(xC.1 hx).1;have q:=(aC.1 J).1;have D:Own S.m bl:=aB (cI u)
 have z:Ev S.h.length S ⟨S.m,S.h.set id o,S.w.putObj bl ob⟩:=
  {fr:=⟨rfl,rfl,rfl,by simp,λc _ K=>World.putObj_heap_other (λe=>K (e▸D)),λc _=>Hw hx N M c⟩
   sub:=λc h=>.inl h
   obj:=λy A O l=>by
    by_cases j:y=id
    .grind
    .exact⟨A,by grind,ObjEv.refl _ _⟩ }
 refine⟨?_,z⟩
 exact
  {len:=by simpa using v.len
   lt:=λc h=>iy (v.lt c h) z.fr.size
   m0:=λc h=>⟨iy (v.m0 c h).1 z.fr.size,(v.m0 c h).2⟩
   inj:=v.inj
   obj:=λy A l=>by
    by_cases j:y=id
    .subst j;have i:(S.h.set y o)[y]?=some A:=l;rw[jp q]at i;cases i;show ObjOk P M0 _ (S.m.getD y none) _;rw[u];exact E z (World.putObj_heap_same F)
    .have i:(S.h.set id o)[y]?=some A:=l;rw[eS (Ne.symm j)]at i;refine(v.obj y A i).keep z λc L=>World.putObj_heap_other λe=>j ?_;subst e;exact v.inj y id c (cI L) (cI u)
   gl:=z.glob v.gl }
def wQ{w:World}{bl}{r}(h:w.heap[bl]?=some (.loop r)):w.shape? bl=none:=by
 unfold World.shape?;rw[h]
def El{w:World}{bl}{ds}(h:w.heap[bl]?=some (.deferred ds)):w.shape? bl=none:=by
 unfold World.shape?;rw[h]
def Nl{w:World}{bl pos}{s}(h:w.heap[bl]?=some (.stringIter s pos)):w.shape? bl=none:=by
 unfold World.shape?;rw[h]
def R'{S}(j:HOk P M0 S){T}{v}{x}(hx:Rep M0 S v x):aU P M0 S (Instr.range T v) (Dr P T x S.h):=by
 unfold Dr;split
 .rename_i s;split
  .rename_i i;have q:RepP (Avoid M0 S.m) S.w v (.str s):=hx;cases q;have l:P.underlying T=some .string:=by
    unfold fW at i;split at i
    .assumption
    .cases i
   have e:=run_range_string (P:=P) S.w T s l;refine⟨S.new (.strIter s 0) (.stringIter s 0),_,rfl,e,Ev.new _ M0 j (ba _) _ _,j.new ⟨_,rfl,cg _ _⟩,?_⟩;refine⟨⟨S.w.heap.size,rfl⟩,.inr ⟨⟨.strIter s 0,by simp[Mem.new],rfl⟩,S.w.heap.size,?_,rfl⟩⟩;have:=j.len;grind[Mem.new]
  simp[aU]
 simp[aU]
def Vk{S}(u:HOk P M0 S){b}{T}{v}{x}(hx:Rep M0 S v x):aU P M0 S (Instr.next v b T) (G6 b x S.h):=by
 unfold G6;split
 .rename_i id;split
  .rename_i s pos e;obtain⟨_,D|⟨_,bl,A,E⟩⟩:=hx
   .grind
   .have y:v=.pointer (some ⟨bl,0,none⟩):=E;subst y;obtain⟨I,l,j⟩:=u.obj id _ e;rw[A]at l;cases l;have G:=(xC.1 j).1;split
    .rename_i q
     obtain⟨F,z⟩:=lq u (o:=.strIter s (pos+(Utf8.decode s pos).2)) (ob:=.stringIter s (pos+(Utf8.decode s pos).2)) A e j (Nl j) (by simp)
      (.inr (.inr ⟨by grind,rfl,rfl⟩)) (λ_ hx=>⟨bl,rfl,hx⟩)
     refine⟨_,.tuple #[.bool true,.int .i64 pos,.int .i32 (Utf8.decode s pos).1],rfl,?_,z,F,?_⟩
     .simp only[Instr.next,getObj,setObj,Sem.run_bind,Sem.run,j,Result.andThen,q,if_true];rfl
     .refine RepP.tuple rfl λi c hi=>?_
      match i,hi with
      |0,hi=>cases hi;exact .bool _
      |1,hi=>cases hi;exact .int _ _
      |2,hi=>cases hi;exact .int _ _
    .rename_i q;refine⟨S,.tuple #[.bool false],rfl,?_,Ev.refl _ _,u,?_⟩
     .simp[Instr.next,getObj,Sem.run,j,q]
     .refine RepP.tuple rfl λi c hi=>?_
      match i,hi with
      |0,hi=>cases hi;exact .bool _
  simp[aU]
 simp[aU]
def ph{w:World}{bl e}{C}(h:w.heap[bl]?=some (.map C e)):w.shape? bl=none:=by
 unfold World.shape?;rw[h]
def M'{S}(e:HOk P M0 S){T}:aU P M0 S (Instr.makeMap T none) (.val (.ref .mp S.h.length) (S.h++[.mp []])):=by
 refine⟨S.new (.mp []) (.map #[] 0),.map (some S.w.heap.size),rfl,rfl,Ev.new _ M0 e (ba _) _ _,e.new ⟨_,#[],0,rfl,cg _ _,trivial⟩,?_⟩;refine⟨⟨S.w.heap.size,rfl⟩,.inr ⟨⟨.mp [],by simp[Mem.new],rfl⟩,S.w.heap.size,?_,rfl⟩⟩;have:=e.len;grind[Mem.new]
def zA (d:TypeDesc) (kv:Value) (k:PV):Prop:=(∃kk j a,d=.int kk/\kv=.int j a/\k=.int j a)\/∃s,d=.string/\kv=.string s/\k=.str s
def HA{d}{i e}{k q}{M}{w}{b}(u:zA d i k)(l:RepP M w e q)(h:lf k q=some b):Instr.sameNow d i e=some b:=by
 rcases u with⟨v,j,a,rfl,rfl,rfl⟩|⟨s,rfl,rfl,rfl⟩
 .cases q<;>first|(cases h;done)|skip
  cases l;exact h
 .cases q<;>first|(cases h;done)|skip
  cases l;exact h
def R3{d}{kv qv}{k q}{M}{w}(hk:zA d kv k)(hq:RepP M w qv q)(h:lf k q=some true):qv=kv:=by
 rcases hk with⟨kk,j,a,rfl,rfl,rfl⟩|⟨s,rfl,rfl,rfl⟩
 .cases q<;>first|(cases h;done)|skip
  cases hq;simp only[lf]at h;grind
 .cases q<;>first|(cases h;done)|skip
  cases hq;rename_i s';have h':(s==s')=true:=kw h;cases s with|mk x=>cases s' with|mk y=>rw[show x=y from eq_of_beq (show (x==y)=true from h')]
def I2{b}{K}{d}{e}{k}(l:zA d e k)(i:P.underlying K=some d)(w):(Instr.checkKey b 10000 K e).run P w=.ok () w:=by
 unfold Instr.checkKey;rcases l with⟨q,j,a,rfl,rfl,rfl⟩|⟨s,rfl,rfl,rfl⟩
 .simp only[Sem.run_bind,run_underlying i,bN];rfl
 .simp only[Sem.run_bind,run_underlying i,bN];rfl
def HB{d}{kv}{k}(hk:zA d kv k):Instr.sameBits 10000 kv kv=true:=by
 rcases hk with⟨kk,j,a,rfl,rfl,rfl⟩|⟨s,rfl,rfl,rfl⟩
 .simp[Instr.sameBits]
 .unfold Instr.sameBits;cases s with|mk x=>exact(beq_self_eq_true x:(x==x)=true)
def za{T}{k}{M}{w}{X}{a}{n}{x}(h:Dc P T=some k)(l:lH M w X a)(hx:a[n]?=some x):(part T X n).run P w=.ok (X.getD n undef) w:=by
 have j:n<X.size:=by have:=(aC.1 hx).1;rw[l.1];exact this
 have e:dp P T=some false:=by
  unfold Dc at h;unfold dp;split at h<;>first|grind|grind
 simp[part,lX e,j,ku]
def SN{k}{x}{s}(h:qu k x x=some s):k=I1 x:=by
 cases k<;>cases x<;>simp_all [qu,I1]
def FK:∀{e} {a} {t},fx e a a=some t->e=a.map I1
 |[],[],_,_=>rfl
 |[],_::_,_,h=>by cases h
 |_::_,[],_,h=>by cases h
 |k::e,x::a,t,h=>by
  rw[fx]at h;split at h
  .rename_i s u j i;rw[bf,<-SN j,<-FK i]
  .cases h
def yg{M}{w}(e){X Y}{a b}(hX:lH M w X a)(hY:lH M w Y b):∀(fs) (n) (ks) (t),yh P fs n=some ks->fx ks (a.drop n) (b.drop n)=some t ->
  (Op.eqFields (e+1) X Y fs).run P w=.ok t w
 |[],n,ks,t,h,ht=>by
  simp only[yh,iu]at h;subst h;cases ha:a.drop n<;>cases hb:b.drop n<;>rw[ha,hb]at ht<;>simp only[fx,reduceCtorEq,iu]at ht;subst ht
  rfl
 |f::fs,n,ks,t,h,ht=>by
  rw[yh]at h;split at h
  .rename_i hf;obtain⟨hname,hoff⟩:=hf;split at h
   .rename_i k r hk hr;cases h
    cases ha:a.drop n with
    |nil=>rw[ha]at ht;cases ht
    |cons x a'=>
     cases hb:b.drop n with
     |nil=>rw[ha,hb]at ht;cases ht
     |cons y b'=>
      rw[ha,hb,fx]at ht;split at ht
      .rename_i s u h1 h2;cases ht
       have hax:a[n]?=some x:=by have:(a.drop n)[0]?=some x:=by rw[ha];rfl
                                 simpa using this
       have hby:b[n]?=some y:=by have:(b.drop n)[0]?=some y:=by rw[hb];rfl
                                 simpa using this
       have ha1:a.drop (n+1)=a':=by have:=congrArg List.tail ha;simpa using this
       have hb1:b.drop (n+1)=b':=by have:=congrArg List.tail hb;simpa using this
       have ih:=yg e hX hY fs (n+1) r u hr (by grind);have px:=za (w:=w) hk hX hax;have py:=za (w:=w) hk hY hby;have rx:=hX.2 n x hax;have ry:=hY.2 n y hby;have heq:(Op.equalIn (e+1) f.type (X.getD n undef) (Y.getD n undef)).run P w=.ok s w:=by
        generalize X.getD n undef=vx at rx |-;generalize Y.getD n undef=vy at ry |-;unfold Dc at hk;split at hk
        .rename_i hu;cases hk;cases x<;>cases y<;>simp only[qu,reduceCtorEq,iu]at h1;cases rx;cases ry;rw[run_equalIn_bool' w e f.type _ _ hu,h1]
        .rename_i q hu;cases hk;cases x<;>cases y<;>simp only[qu,reduceCtorEq]at h1;split at h1
         .rename_i hkk;subst hkk;cases h1;cases rx;cases ry;rw[run_equalIn_int w e f.type _ _ _ _ hu]
         .cases h1
        .rename_i hu;cases hk;cases x<;>cases y<;>simp only[qu,reduceCtorEq,iu]at h1;cases rx;cases ry;rw[run_equalIn_string w e f.type _ _ hu,<-beq_toListBytes,h1]
        .cases hk
       simp only[Op.eqFields];rw[if_pos hname,hoff];simp only[Sem.run_bind,px,py,bN,heq]
       cases s with
       |true=>grind
       |false=>simp
      .cases ht
   .cases h
  .cases h
def J8 (P:Program) (M:Nat->Prop) (w:World) (K:TypeId) (kv:Value) (k:PV):Prop:=
 ∃fs ks C a,P.underlying K=some (.struct fs)/\¬P.stoodInHeld K=true/\yh P fs.toList 0=some ks/\kv=.agg C/\k=.agg a/\lH M w C a/\(fx ks a a).isSome=true
def ub (P:Program) (M:Nat->Prop) (w:World) (K:TypeId) (kv:Value) (k:PV):Prop:=(∃d,P.underlying K=some d/\zA d kv k)\/J8 P M w K kv k
def yE{K}{k}{M}{w}{y}(h:wW P K k=true)(q:RepP M w y k):ub P M w K y k:=by
 unfold wW at h;split at h
 .rename_i j a e;cases q;unfold D9 at e;split at e
  .rename_i A i;exact .inl ⟨_,i,.inl ⟨A,j,a,rfl,rfl,rfl⟩⟩
  .cases e
  .grind
  .cases e
 .rename_i s e;cases q;unfold D9 at e;split at e
  .cases e
  .rename_i i;exact .inl ⟨_,i,.inr ⟨s,rfl,rfl,rfl⟩⟩
  .grind
  .cases e
 .rename_i z a e;unfold D9 at e;split at e
  .cases e
  .cases e
  .rename_i E i;split at e
   .cases e
   .rename_i u;split at e
    .rename_i F l;cases e
     cases q with
     |@agg C _ D _ v=>exact .inr ⟨E,z,C,a,i,u,l,rfl,rfl,⟨D,v⟩,h⟩
    .cases e
  .cases e
 .cases h
def Gd{K}{y v}{k q}{M}{w}{b}(L:J8 P M w K y k)(I:RepP M w v q)(h:lf k q=some b):(Op.equal K y v).run P w=.ok b w:=by
 obtain⟨A,E,C,a,z,j,i,rfl,rfl,N,G⟩:=L;cases q<;>first|(cases h;done)|skip
 rename_i O;obtain⟨t,F⟩:=iM.1 G;have u:=FK F
 cases I with
 |@agg D _ J _ l=>
  rw[lf,<-u]at h;have e:P.fieldsOf K=A:=by simp[Program.fieldsOf,z]
  show (Op.equalIn (9999+1) K _ _).run P w=_;rw[run_equalIn_struct w 9999 K C D (by rw[e];exact z) (by simpa using j),e];exact yg 9998 N ⟨J,l⟩ A.toList 0 E b i (by simpa using h)
def Rn{bb}{K}{kv}{k}{M}{w}(hk:J8 P M w K kv k):(Instr.checkKey bb 10000 K kv).run P w=.ok () w:=by
 obtain⟨fs,ks,C,a,hu,hst,hrow,rfl,rfl,hC,hs⟩:=hk;obtain⟨t,ht⟩:=iM.1 hs;rw[show (10000:Nat)=9999+1 from rfl,Instr.checkKey];simp only[Sem.run_bind,run_underlying hu,bN];rw[<-Array.forIn_toList]
 have:∀(L:List Field) (n:Nat) (ks:List CK) (t:Bool),yh P L n=some ks->fx ks (a.drop n) (a.drop n)=some t ->
   (forIn (m:=Sem) L PUnit.unit λf _=>if f.name ≠ "_" then do
     let x<-part f.type C f.offset
     Instr.checkKey bb 9999 f.type x
     pure (ForInStep.yield PUnit.unit)
    else pure (ForInStep.yield PUnit.unit)).run P w=.ok PUnit.unit w:=by
  intro L
  induction L with
  |nil=>simp
  |cons f L ih=>
   intro n ks t h ht;rw[yh]at h;split at h
   .rename_i hf;obtain⟨hname,hoff⟩:=hf;split at h
    .rename_i k r hk hr;cases h
     cases ha:a.drop n with
     |nil=>rw[ha]at ht;cases ht
     |cons x a'=>
      rw[ha,fx]at ht;split at ht
      .rename_i s u h1 h2
       have hax:a[n]?=some x:=by have:(a.drop n)[0]?=some x:=by rw[ha];rfl
                                 simpa using this
       have ha1:a.drop (n+1)=a':=by have:=congrArg List.tail ha;simpa using this
       have ih':=ih (n+1) r u hr (by grind);have px:=za (w:=w) hk hC hax;have rx:=hC.2 n x hax;have hck:(Instr.checkKey bb 9999 f.type (C.getD n undef)).run P w=.ok () w:=by
        generalize C.getD n undef=vx at rx |-;rw[show (9999:Nat)=9998+1 from rfl,Instr.checkKey];unfold Dc at hk;split at hk
        .rename_i hu';cases hk;cases x<;>simp only[qu,reduceCtorEq,iu]at h1;cases rx;simp only[Sem.run_bind,run_underlying hu',bN];rfl
        .rename_i q hu';cases hk;cases x<;>simp only[qu,reduceCtorEq]at h1;cases rx;simp only[Sem.run_bind,run_underlying hu',bN];rfl
        .rename_i hu';cases hk;cases x<;>simp only[qu,reduceCtorEq,iu]at h1;cases rx;simp only[Sem.run_bind,run_underlying hu',bN];rfl
        .cases hk
       simp_all
      .cases ht
    .cases h
   .cases h
 have hh:=this fs.toList 0 ks t hrow (by grind);simp_all
def FJ:∀{j} {a b},fx j a b=some true->a.length=b.length/\∀(i:Nat) (x y),a[i]?=some x->b[i]?=some y->∃k,qu k x y=some true
 |[],[],[],_=>⟨rfl,λi x y h=>by simp at h⟩
 |[],[],_::_,h=>by cases h
 |[],_::_,_,h=>by cases h
 |_::_,[],_,h=>by cases h
 |_::_,_::_,[],h=>by cases h
 |k::j,x::a,y::b,h=>by
  rw[fx]at h;split at h
  .rename_i s u A z;have h:(s&&u)=true:=kw h;rw[eI]at h;obtain⟨rfl,rfl⟩:=h;obtain⟨q,v⟩:=FJ z;grind
  .cases h
def QB{M}{w}{vx vy}{x y}{k}{n}(h:qu k x y=some true)(hx:RepP M w vx x)(hy:RepP M w vy y):Instr.sameBits n vy vx=true:=by
 cases k<;>cases x<;>cases y<;>simp only[qu,reduceCtorEq,iu]at h
 .cases hx;cases hy;simp[Instr.sameBits,eq_of_beq h]
 .split at h
  .rename_i hk;subst hk;cases hx;cases hy;simp[Instr.sameBits,eq_of_beq (kw h)]
  .cases h
 .cases hx;cases hy;unfold Instr.sameBits;rename_i s t;cases s with|mk x=>cases t with|mk y=>rw[show x=y from eq_of_beq (show (x==y)=true from h)];exact(beq_self_eq_true y:(y==y)=true)
def rS{l}{K}{i}{k}{M}{w}(e:ub P M w K i k):(Instr.checkKey l 10000 K i).run P w=.ok () w:=by
 rcases e with⟨d,j,e⟩|e
 .exact I2 e j w
 .exact Rn e
def rv (P:Program) (K:TypeId) (kv:Value) (C:List MapEntry) (i:Nat) (q:Option (Nat×Value)) (w:World):Prop:=
 (∃d,P.underlying K=some d/\Instr.findNow d kv C i=some q)\/((∃fs,P.underlying K=some (.struct fs))/\(Instr.findAsking K kv C i).run P w=.ok q w)
def rv.run{K}{e}{C}{q}{w}(h:rv P K e C 0 q w):(Instr.findKey K e C).run P w=.ok q w:=by
 rcases h with⟨d,j,h⟩|⟨⟨l,i⟩,h⟩
 .unfold Instr.findKey;simp only[Sem.run_bind,run_underlying j,bN];rw[h];rfl
 .rw[run_findKey_eq w (by rw[i]) e C];exact h
def xd{M}{K}{y E}{k q}{w}(u:ub P M w K y k)(F:RepP M w E q)(G:lf k q=some false){e}(J:e.key=E){C}{i}{r}
  (l:rv P K y C (i+1) r w):rv P K y (e::C) i r w:=by
 subst J;rcases u with⟨d,z,u⟩|u
 .rcases l with⟨N,j,l⟩|⟨⟨I,v⟩,_⟩
  .rw[z]at j;cases j;refine .inl ⟨d,z,?_⟩;rw[Instr.findNow,HA u F G];exact l
  .rw[z]at v;cases v;rcases u with⟨_,_,_,h,_⟩|⟨_,h,_⟩<;>cases h
 .have D:=Gd u F G;obtain⟨I,O,Y,a,v,U,T,L,S,R⟩:=u;have A:(Instr.findAsking K y C (i+1)).run P w=.ok r w:=by
   rcases l with⟨N,j,l⟩|⟨_,l⟩
   .rw[v]at j;cases j
    cases C with
    |nil=>cases l;rfl
    |cons V X=>subst L;simp[Instr.findNow,Instr.sameNow]at l
   .exact l
  refine .inr ⟨⟨I,v⟩,?_⟩;rw[Instr.findAsking];simp_all
def FI{M}{K}{v u}{k q}{w}(j:ub P M w K v k)(y:RepP M w u q)(z:lf k q=some true){e}(D:e.key=u){C}{i} :
  rv P K v (e::C) i (some (i,e.val)) w:=by
 subst D;rcases j with⟨d,E,j⟩|j
 .refine .inl ⟨d,E,?_⟩;rw[Instr.findNow,HA j y z]
 .have l:=Gd j y z;obtain⟨F,G,R,a,A,O,N,L,J,I⟩:=j;refine .inr ⟨⟨F,A⟩,?_⟩;rw[Instr.findAsking];simp_all
def Bw{R}{M}{w}(A:∀v q,R v (.p q)->RepP M w v q){K}{D}{k}(y:ub P M w K D k) :
  ∀{C} {es} {r} (i:Nat),i7 R C es->nD k es=some r ->
   match r with|none=>rv P K D C i none w|some v=>∃j u,rv P K D C i (some (j,u)) w/\R u (.p v)
 |[],[],r,i,_,h=>by
  cases h;rcases y with⟨d,G,y⟩|y
  .exact .inl ⟨d,G,rfl⟩
  .obtain⟨N,L,C,a,F,_⟩:=y
   exact .inl ⟨_,F,rfl⟩
 |[],_::_,_,_,l,_=>l.elim
 |_::_,[],_,_,l,_=>l.elim
 |e::C,(q,v)::es,r,i,l,h=>by
  rw[nD]at h;split at h
  .rename_i z;cases h;exact⟨i,e.val,FI y (A _ _ l.1) z rfl,l.2.1⟩
  .rename_i z;have E:=Bw A y (i+1) l.2.2 h
   cases r with
   |none=>exact xd y (A _ _ l.1) z rfl E
   |some v=>obtain⟨j,u,J,I⟩:=E;exact⟨j,u,xd y (A _ _ l.1) z rfl J,I⟩
  .cases h
def SI{K}{z y}{k q}{M}{w}(j:ub P M w K z k)(A:RepP M w y q)(h:lf k q=some true):Instr.sameBits 10000 y z=true:=by
 rcases j with⟨d,X,j⟩|j
 .rw[R3 j A h];exact HB j
 .obtain⟨fs,T,C,a,U,Z,Y,rfl,rfl,l,V⟩:=j;cases q<;>first|(cases h;done)|skip
  rename_i b
  cases A with
  |@agg D _ L _ v=>
   obtain⟨N,O⟩:=FJ h;have u:D.size=C.size:=by rw[L,l.1,N]
   rw[show (10000:Nat)=9999+1 from rfl,Instr.sameBits,u,beq_self_eq_true,o0,kl];intro p J;obtain⟨i,hi,rfl⟩:=List.getElem_of_mem J;rw[List.getElem_zip];have e:i<D.size/\i<C.size:=by simp at hi;omega
   have F:i<a.length:=by rw[<-l.1];exact e.2
   have E:i<b.length:=by omega
   obtain⟨k,j⟩:=O i a[i] b[i] (bL F) (bL E);have I:=l.2 i _ (bL F);have G:=v i _ (bL E);have S:C.getD i undef=C.toList[i]'(by grind):=by simp[ku,e.2]
   have R:D.getD i undef=D.toList[i]'(by grind):=by simp[ku,e.1]
   rw[S]at I;rw[R]at G;exact QB j I G
def DT{R}{M}{w}(I:∀v q,R v (.p q)->RepP M w v q){K}{D u}{k v}(A:ub P M w K D k)(E:R D (.p k))(F:R u (.p v)) :
  ∀{C} {es z} (i),i7 R C es->p4 k v es=some z ->
   (∃j x e,rv P K D C i (some (i+j,x)) w/\C[j]?=some e/\Instr.sameBits 10000 e.key D=true/\i7 R (C.modify j λe=>{ e with key:=D,val:=u }) z) \/
   (rv P K D C i none w/\∀n,i7 R (C++[{ key:=D,val:=u,born:=n }]) z)
 |[],[],z,i,_,h=>by
  cases h;refine .inr ⟨?_,λn=>⟨E,F,trivial⟩⟩;rcases A with⟨d,N,A⟩|A
  .exact .inl ⟨d,N,rfl⟩
  .obtain⟨Y,X,C,a,F,_⟩:=A
   exact .inl ⟨_,F,rfl⟩
 |[],_::_,_,_,l,_=>l.elim
 |_::_,[],_,_,l,_=>l.elim
 |e::C,(q,x)::es,z,i,l,h=>by
  rw[p4]at h;split at h
  .rename_i G;cases h;refine .inl ⟨0,e.val,e,FI A (I _ _ l.1) G rfl,rfl,SI A (I _ _ l.1) G,?_⟩;grind[i7]
  .rename_i G;simp only[bg]at h;obtain⟨r,T,rfl⟩:=h;rcases DT I A E F (i+1) l.2.2 T with⟨j,y,V,L,J,S,O⟩|⟨L,J⟩
   .refine .inl ⟨j+1,y,V,?_,by simpa using J,S,?_⟩
    .have U:i+(j+1)=i+1+j:=by omega
     rw[U];exact xd A (I _ _ l.1) G rfl L
    grind[i7]
   .exact .inr ⟨xd A (I _ _ l.1) G rfl L,λn=>⟨l.1,l.2.1,J n⟩⟩
  .cases h
def Fo{T K E}(h:Bm P T=some (K,E)):P.underlying T=some (.map K E):=by
 unfold Bm at h;grind
def Ig{S}(A:HOk P M0 S){v}{id}{es}(hx:Rep M0 S v (.ref .mp id))(j:S.h[id]?=some (.mp es)) :
  ∃bl C e,v=.map (some bl)/\S.m.getD id none=some bl/\S.w.heap[bl]?=some (.map C e)/\i7 (cb M0 S) C.toList es:=by
 obtain⟨_,u|⟨_,bl,q,y⟩⟩:=hx
 .grind
 .obtain⟨D,C,e,i,z,l⟩:=A.obj id _ j;rw[q]at i;cases i;exact⟨bl,C,e,y,q,z,l⟩
def PJ{S}(J:HOk P M0 S){T}{v u}{x y}{ok}(hx:Rep M0 S v x)(X:Rep M0 S u y):aU P M0 S (Instr.lookup T v u ok) (td P T x y ok S.h):=by
 unfold td;split
 .rename_i K E id k hT;have Y:=Fo hT;split
  .rename_i es z U V;split
   .rename_i R;have O:RepP (Avoid M0 S.m) S.w u k:=X;have G:=yE R O;obtain⟨bl,C,a0,rfl,hm,hb,l⟩:=Ig J hx U;obtain⟨F,N,M⟩:=lQ V S.w
    have e:∀q,rv P K u C.toList 0 q S.w->(Instr.lookup T (.map (some bl)) u ok).run P S.w=.ok (match q with
      |some (_,x)=>if ok then .tuple #[x,.bool true] else x
      |none=>if ok then .tuple #[F,.bool false] else F) S.w:=λq Z=>by
     unfold Instr.lookup;simp only[Sem.run_bind,run_underlying Y,bN,getObj,Sem.run,hb];simp[rS G,Z.run]
     cases q with
     |none=>simp[N]
     |some x=>rfl
    have A:∀(v:Value) (q:PV),cb M0 S v (.p q)->RepP (Avoid M0 S.m) S.w v q:=λv q h=>h;split
    .rename_i q I;obtain⟨j,x,L,h2⟩:=Bw A G 0 l I;refine⟨S,_,rfl,e _ L,Ev.refl _ _,J,?_⟩;have D:=A _ _ h2;cases ok
     .exact aR D
     .refine aR (RepP.tuple rfl λi c hi=>?_)
      match i,hi with
      |0,hi=>simp_all
      |1,hi=>cases hi;exact .bool _
    .rename_i I;have L:=Bw A G 0 l I;refine⟨S,_,rfl,e _ L,Ev.refl _ _,J,?_⟩;have D:RepP (Avoid M0 S.m) S.w F z:=iS M;cases ok
     .exact aR D
     .refine aR (RepP.tuple rfl λi c hi=>?_)
      match i,hi with
      |0,hi=>simp_all
      |1,hi=>cases hi;exact .bool _
    simp[aU]
   simp[aU]
  simp[aU]
 simp[aU]
def M9{S}(E:HOk P M0 S){v}{id}{f}(hx:Rep M0 S v (.ref .mp id))(j:S.h[id]?=some (.memo f)) :
  qr f/\∃es,(∀p,p∈es->f p.1 p.2=true)/\∃bl C e,v=.map (some bl)/\S.m.getD id none=some bl/\S.w.heap[bl]?=some (.map C e)/\i7 (cb M0 S) C.toList es:=by
 obtain⟨_,u|⟨_,bl,q,y⟩⟩:=hx
 .grind
 .obtain⟨z,es,A,F,C,e,i,D,l⟩:=E.obj id _ j;rw[q]at i;cases i;exact⟨z,es,A,bl,C,e,y,q,D,l⟩
def Ij{f}(l:qr f){k v}(j:f k v=true):∀{es},(∀p,p∈es->f p.1 p.2=true)->∃i,p4 k v es=some i/\∀p,p∈i->f p.1 p.2=true
 |[],_=>⟨[(k,v)],rfl,λp e=>by grind⟩
 |(q,u)::r,h=>by
  obtain⟨b,y,_⟩:=l k q v u j (h (q,u) (by simp));rw[p4,y]
  cases b with
  |true=>
   grind
  |false=>
   obtain⟨i,A,z⟩:=Ij l j (es:=r) λp e=>h p (by simp[e]);refine⟨(q,u)::i,by simp[A],λp e=>?_⟩;grind
def Ik{S}(X:HOk P M0 S){T}{v u c}{x y z}(hx:Rep M0 S v x)(hy:Rep M0 S u y)(hz:Rep M0 S c z):Dx P M0 S (Instr.mapUpdate T v u c) (sS P T x y z S.h):=by
 unfold sS;split
 .rename_i K E id k q hT;have hu:=Fo hT;split
  .rename_i es l;split
   .rename_i I;have G:RepP (Avoid M0 S.m) S.w u k:=hy;have N:=yE I G;obtain⟨bl,C,i,rfl,Y,A,L⟩:=Ig X hx l;have V:∀(v:Value) (q:PV),cb M0 S v (.p q)->RepP (Avoid M0 S.m) S.w v q:=λv q h=>h;split
    .rename_i J hp;rcases DT V N (show cb M0 S u (.p k) from G) (show cb M0 S c (.p q) from hz) 0 L hp with⟨j,x,e,M,R,h3,h4⟩|⟨M,R⟩
     .rw[gZ]at M
      obtain⟨D,F⟩:=lq X (o:=.mp J) (ob:=.map (C.modify j λe=>{ e with key:=u,val:=c }) i) Y l A (ph A) (by simp)
       (.inr (.inr ⟨by simp[AObj.tag],rfl,rfl⟩)) (λO hx=>⟨bl,_,i,rfl,hx,by rw[Array.toList_modify];exact h4.mono λv a=>O.keepS⟩)
      refine⟨_,rfl,?_,F,D⟩;unfold Instr.mapUpdate;simp only[Sem.run_bind,run_underlying hu,bN,getObj,Sem.run,A,rS N];simp[Sem.run_bind,M.run];have hC:C[j]?=some e:=by simpa using R
      have U:(Instr.keyThatStays e.key u).run P S.w=.ok u S.w:=by
       unfold Instr.keyThatStays;rw[if_pos h3];rfl
      rw[hC];simp only[i8,gY,U,bN];simp[setObj,Sem.run,World.putObj,A]
     .obtain⟨D,F⟩:=lq X (o:=.mp J) (ob:=.map (C.push { key:=u,val:=c,born:=i }) (i+1)) Y l A (ph A) (by simp)
       (.inr (.inr ⟨by simp[AObj.tag],rfl,rfl⟩)) (λO hx=>⟨bl,_,_,rfl,hx,by rw[Array.toList_push];exact(R i).mono λv a=>O.keepS⟩)
      refine⟨_,rfl,?_,F,D⟩;unfold Instr.mapUpdate;simp only[Sem.run_bind,run_underlying hu,bN,getObj,Sem.run,A,rS N];simp[M.run];simp[setObj,Sem.run,World.putObj,A]
    simp[Dx]
   simp[Dx]
  .rename_i f l;split
   .rename_i I;obtain⟨I,a0⟩:=I;have G:RepP (Avoid M0 S.m) S.w u k:=hy;have N:=yE I G;obtain⟨hg,es,hf,bl,C,i,rfl,Y,A,L⟩:=M9 X hx l;obtain⟨J,hp,Z⟩:=Ij hg a0 hf;have V:∀(v:Value) (q:PV),cb M0 S v (.p q)->RepP (Avoid M0 S.m) S.w v q:=λv q h=>h;rcases DT V N (show cb M0 S u (.p k) from G) (show cb M0 S c (.p q) from hz) 0 L hp with⟨j,x,e,M,R,h3,h4⟩|⟨M,R⟩
    .rw[gZ]at M
     obtain⟨D,F⟩:=lq X (o:=.memo f) (ob:=.map (C.modify j λe=>{ e with key:=u,val:=c }) i) Y l A (ph A) (by simp)
      (.inr (.inr ⟨by simp[AObj.tag],rfl,rfl⟩)) (λO hx=>⟨hg,J,Z,bl,_,i,rfl,hx,by rw[Array.toList_modify];exact h4.mono λv a=>O.keepS⟩)
     refine⟨_,kU l,?_,F,D⟩;unfold Instr.mapUpdate;simp only[Sem.run_bind,run_underlying hu,bN,getObj,Sem.run,A,rS N];simp[Sem.run_bind,M.run];have hC:C[j]?=some e:=by simpa using R
     have U:(Instr.keyThatStays e.key u).run P S.w=.ok u S.w:=by
      unfold Instr.keyThatStays;rw[if_pos h3];rfl
     rw[hC];simp only[i8,gY,U,bN];simp[setObj,Sem.run,World.putObj,A]
    .obtain⟨D,F⟩:=lq X (o:=.memo f) (ob:=.map (C.push { key:=u,val:=c,born:=i }) (i+1)) Y l A (ph A) (by simp)
      (.inr (.inr ⟨by simp[AObj.tag],rfl,rfl⟩)) (λO hx=>⟨hg,J,Z,bl,_,_,rfl,hx,by rw[Array.toList_push];exact(R i).mono λv a=>O.keepS⟩)
     refine⟨_,kU l,?_,F,D⟩;unfold Instr.mapUpdate;simp only[Sem.run_bind,run_underlying hu,bN,getObj,Sem.run,A,rS N];simp[M.run];simp[setObj,Sem.run,World.putObj,A]
   simp[Dx]
  simp[Dx]
 simp[Dx]
def Gj{S}(F:HOk P M0 S){T A}{ok}{v}{x}(hx:Rep M0 S v x):aU P M0 S (Instr.typeAssert v T A ok) (mO P A ok x S.h):=by
 unfold mO;split
 .rename_i t q e;split
  .rename_i l;subst l;have C:RepP (Avoid M0 S.m) S.w v (.iface t q):=hx
   cases C with
   |@iface _ v' _ y=>
    unfold qK at e;split at e
    .cases e
    .rename_i d u j;refine⟨S,if ok then .tuple #[v',.bool true] else v',rfl,?_,Ev.refl _ _,F,?_⟩
     .unfold Instr.typeAssert;simp only[Sem.run_bind,run_underlying j,bN];rfl
     .cases ok
      .exact aR y
      .refine aR (RepP.tuple rfl λi c hi=>?_)
       match i,hi with
       |0,hi=>simp_all
       |1,hi=>cases hi;exact .bool _
    .cases e
  .rename_i l;split
   .rename_i hok;subst hok;split
    .rename_i z I;obtain⟨G,E,D⟩:=lQ I S.w;have C:RepP (Avoid M0 S.m) S.w v (.iface t q):=hx
     cases C with
     |@iface _ v' _ y=>
      unfold qK at e;split at e
      .cases e
      .rename_i d u j;refine⟨S,.tuple #[G,.bool false],rfl,?_,Ev.refl _ _,F,?_⟩
       .unfold Instr.typeAssert;simp only[Sem.run_bind,run_underlying j,bN];simp_all
       .refine aR (RepP.tuple rfl λi c hi=>?_)
        match i,hi with
        |0,hi=>cases hi;exact iS D
        |1,hi=>cases hi;exact .bool _
      .cases e
    simp[aU]
   simp[aU]
 simp[aU]
variable {P:Program} {M0:Nat->Prop} {S:Mem}
def xB (P:Program) (M0:Nat->Prop) (S:Mem) (s:Sem Next):OR->Prop
 |.val v h=>∃(S':Mem) (v':Value),S'.h=h/\s.run P S.w=.ok (.value v') S'.w/\Ev S.h.length S S'/\HOk P M0 S'/\Rep M0 S' v' v
 |.skip h=>∃S':Mem,S'.h=h/\s.run P S.w=.ok .skip S'.w/\Ev S.h.length S S'/\HOk P M0 S'
 |.call f args=>∃cargs:Array Value,s.run P S.w=(callFunc f cargs).run P S.w/\eD (Rep M0 S) cargs args
 |.panic v=>∃v':Value,s.run P S.w=.halt (.panic v') S.w/\RepP (Avoid M0 S.m) S.w v' v
 |.yld l args=>∃(b:Nat) (cargs:Array Value),s.run P S.w=(Instr.yield b cargs).run P S.w/\eD (Rep M0 S) cargs args/\(S.h[l]?=some .dead\/S.m.getD l none=some b)
 |.dfr (.fn g args)=>∃(fv:Fn) (cap dargs cargs:Array Value),s.run P S.w=.ok (.defer { target:=.fn fv cap,args:=dargs }) S.w /\
   (∀w,(invoke (.fn fv cap) dargs).run P w=(callFunc g cargs).run P w)/\eD (Rep M0 S) cargs args
 |.dfr _=>False
 |.recover=>s.run P S.w=.ok .recover S.w
 |.stuck=>True
def aU.op{s}{r}(h:aU P M0 S s r):xB P M0 S (do let v<-s;Pure.pure (Next.value v)) r:=by
 cases r with
 |val v hh=>
  obtain⟨l,v',j,i,e⟩:=h
  exact⟨l,v',j,by simp[i],e⟩
 |skip _=>exact h.elim
 |call _ _=>exact h.elim
 |panic _=>exact h.elim
 |yld _ _=>exact h.elim
 |dfr _=>exact h.elim
 |recover=>exact h.elim
 |stuck=>exact trivial
def Dx.op{s}{r}(h:Dx P M0 S s r):xB P M0 S (do s;Pure.pure Next.skip) r:=by
 cases r with
 |skip hh=>
  obtain⟨l,j,i,e⟩:=h
  exact⟨l,j,by simp[i],e⟩
 |val _ _=>exact h.elim
 |call _ _=>exact h.elim
 |panic _=>exact h.elim
 |yld _ _=>exact h.elim
 |dfr _=>exact h.elim
 |recover=>exact h.elim
 |stuck=>exact trivial
def Kg{op}{T}{x y}{a b}(w)(i:(∀C D,¬(a=.agg C/\b=.agg D))\/P.eqGuardType P.depth T=false)
  (e:¬(a=.nilIface/\b=.nilIface)\/(m7 x||m7 y)=true):(eqGuard op T x y a b).run P w=.ok () w:=by
 by_cases l:∃C D,a=.agg C/\b=.agg D
 .obtain⟨C,D,rfl,rfl⟩:=l;rcases i with i|i
  .grind
  .exact run_eqGuard_agg w op T x y C D i
 .by_cases j:a=.nilIface/\b=.nilIface
  .obtain⟨rfl,rfl⟩:=j;rcases e with e|e
   .grind
   .cases op<;>first
     |rfl
     |(cases x<;>cases y<;>first|rfl|exact absurd e (by simp[m7]))
  .exact Ai w (λC D h=>l ⟨C,D,h⟩) j
def Y0(z:HOk P M0 S){op}{T}{xo u}{x y}{a b}(hx:Rep M0 S a x)(E:Rep M0 S b y) :
  aU P M0 S (do eqGuard op T xo u a b;binOp op T a b) (EL P op T (m7 xo||m7 u) x y S.h):=by
 have e:((∀C D,¬(a=.agg C/\b=.agg D))\/P.eqGuardType P.depth T=false)->(¬(a=.nilIface/\b=.nilIface)\/(m7 xo||m7 u)=true) ->
   ∀r:OR,aU P M0 S (binOp op T a b) r->aU P M0 S (do eqGuard op T xo u a b;binOp op T a b) r:=by
  intro K J r N;have R:=Kg (op:=op) (T:=T) (x:=xo) (y:=u) (P:=P) S.w K J
  cases r with
  |val v h=>
   simp_all[aU]
  |stuck=>exact trivial
  |_=>exact N.elim
 unfold EL;split
 .rename_i k i V j;have:=jR hx;subst this;have:=jR E;subst this;split
  .exact e (.inl (by simp)) (.inl (by simp)) _ (vo z λq l=>KC l _ _)
  .rename_i M;split
   .rename_i O;subst O;exact e (.inl (by simp)) (.inl (by simp)) _ (vo z λq l=>P' (by simpa using M) l _ _)
   simp[aU]
 .rename_i s t;have K:RepP (Avoid M0 S.m) S.w a (.str s):=hx;have J:RepP (Avoid M0 S.m) S.w b (.str t):=E;cases K;cases J;exact e (.inl (by simp)) (.inl (by simp)) _ (vo z λq l=>O5 l _ _)
 .split
  .cases I:JP P T (m7 xo||m7 u) x y with
   |none=>exact trivial
   |some t=>
    obtain⟨⟨G,F⟩,A,L⟩:=Uk hx E I;exact e A L _ (vo z λq l=>by cases l;exact⟨_,G,.bool _⟩)
  .cases I:JP P T (m7 xo||m7 u) x y with
   |none=>exact trivial
   |some t=>
    obtain⟨⟨G,F⟩,A,L⟩:=Uk hx E I;exact e A L _ (vo z λq l=>by cases l;exact⟨_,F,.bool _⟩)
  simp[aU]
def Zz(e:HOk P M0 S){op}{x}{a}(hx:Rep M0 S a x):aU P M0 S (Op.unary op a) (Mg op x S.h):=by
 unfold Mg;split
 .have:=qU hx;subst this;exact aU.pure e (v':=.bool _) rfl (aR (.bool _))
 .have:=jR hx;subst this;exact aU.pure e (v':=.int _ _) (by simp[Op.unary,Op.intArith]) (aR (.int _ _))
 simp[aU]
def Fw:∀{l} {ns},rM l=some ns->ns.length=l.length/\∀(i:Nat) (n),ns[i]?=some n->l[i]?=some (.int .u8 n)
 |[],ns,h=>by cases h;simp
 |x::r,ns,h=>by
  unfold rM at h;split at h
  .grind
  .rename_i n v e;cases e;simp only[bg]at h;obtain⟨y,j,rfl⟩:=h;obtain⟨u,q⟩:=Fw j;grind
  .cases h
def NI(G:HOk P M0 S){l dst}{x}{a}(hx:Rep M0 S a x):aU P M0 S (convert l dst a) (qX P l dst x S.h):=by
 unfold qX;split
 .rename_i U n;have:=jR hx;subst this;split
  .rename_i k F;unfold qP at F;split at F
   .rename_i d T j D;cases F;refine aU.pure G (v':=.int k (k.wrap n)) ?_ (aR (.int _ _));simp[convert,run_underlying j,run_underlying D,Conv.intToInt]
   .cases F
  simp[aU]
 .rename_i s;split
  .rename_i C;have j:RepP (Avoid M0 S.m) S.w a (.str s):=hx;cases j;refine aU.pure G (v':=.string s) ?_ (aR (.str _));simp[convert,run_underlying (gM C.1),run_underlying (gM C.2)]
  simp[aU]
 .rename_i y ys full;split
  .rename_i C;split
   .rename_i ns I;obtain⟨e,M,O⟩:∃e,P.underlying l=some (.slice e)/\P.underlying e=some (.int .u8):=by
     have j:=C.1;unfold Bu at j
     cases A:bM P l with
     |none=>grind
     |some e=>
      rw[A]at j;refine⟨e,di A,?_⟩;grind
    have j:RepP (Avoid M0 S.m) S.w a (.slice 1 (y::ys) full):=hx;obtain⟨q,J⟩:=Fw I
    cases j with
    |slice f u L K R V v N=>
     rename_i b off len cap;refine aU.pure G (v':=.string (strOfNums ns)) (run_convert_bytes_arg S.w l e M O b off len cap ns (by rw[u,q]) (λi hi=>?_) dst (gM C.2)) (aR (.str _));have E:i<ns.length:=by rw[q,<-u];exact hi
     have A:=J i _ (bL E);have D:=N i 0 _ _ A rfl;rw[v i (by omega)];rw[Nat.mul_one,kx]at D;generalize f i=z at D;cases D;simp[da,bL E]
   simp[aU]
  simp[aU]
 simp[aU]
def ND(q:HOk P M0 S){x}{a}{i}(hx:Rep M0 S a x):aU P M0 S (Instr.extract a i) (qW x i S.h):=by
 unfold qW;split
 .rename_i l;split
  .rename_i v e;have y:RepP (Avoid M0 S.m) S.w a (.tuple l):=hx
   cases y with
   |@tuple C _ u j=>
    have hi:=(aC.1 e).1;refine aU.pure q (v':=C.getD i undef) ?_ (aR (j i v e));simp[Instr.extract,show i<C.size by omega]
  simp[aU]
 .rename_i l;split
  .rename_i v e;obtain⟨C,rfl,u,j⟩:=hx;have hi:=(aC.1 e).1;refine aU.pure q (v':=C.getD i undef) ?_ (qG (j i v e));simp[Instr.extract,show i<C.size by omega]
  simp[aU]
 simp[aU]
def tA{ρ}{e}(j:∀x,Rep M0 S (ρ x) (e x))(xs:Array Operand):eD (Rep M0 S) (xs.map ρ) (xs.toList.map e):=by
 refine⟨by simp,λi c hi=>?_⟩;simp only[cX,bg]at hi;obtain⟨x,hx,rfl⟩:=hi;simp_all
def xF{v}{a}(h:a.plain=true)(e:Rep M0 S v a):dw M0 S v a:=by
 cases a<;>first|exact e|(simp[AV.plain]at h)
def Ky(D:HOk P M0 S){fn}{F C}{first cap}(q:eD (Rep M0 S) F first)(l:eD (Rep M0 S) C cap)(y:first.all AV.plain=true)(u:cap.all AV.plain=true) :
  aU P M0 S (Instr.makeFunc fn F C) (.val (CC fn first cap) S.h):=by
 refine aU.pure D (v':=.func fn F C) rfl ?_;rw[kl]at y u;unfold CC;split
 .rename_i a b A z;have G:=kD A;have E:=kD z;subst G;subst E;exact aR (.func (by simpa using q.1) (by simpa using l.1) (λi c hi=>q.2 i (.p c) (by simp[hi])) (λi c hi=>l.2 i (.p c) (by simp[hi])))
 .exact⟨F,C,rfl,q.imp λv c j e=>xF (y c j) e,l.imp λv c j e=>xF (u c j) e⟩
def fA{R}{A B}{a b}(h:eD R A a)(k:eD R B b):eD R (A++B) (a++b):=by
 refine⟨by simp[h.1,k.1],λi c hi=>?_⟩;rcases dO i a.length with e|e
 .rw[bJ e]at hi;have:(A++B).getD i undef=A.getD i undef:=by
   have:=h.1;simp[ku,T0,show i<A.size by omega]
  rw[this];exact h.2 i c hi
 .rw[dB e]at hi;have:(A++B).getD i undef=B.getD (i-a.length) undef:=by
   have:=h.1;simp[ku,T0,this,show ¬i<a.length by omega]
  rw[this];exact k.2 _ c hi
def pe{C}{l:List PV}(j:C.size=l.length)(h:∀(i) (c),l[i]?=some c->RepP (Avoid M0 S.m) S.w (C.getD i undef) c):eD (Rep M0 S) C (l.map .p):=by
 refine⟨by simpa using j,λi c hi=>?_⟩;simp only[cX,bg]at hi;obtain⟨q,e,rfl⟩:=hi;exact aR (h i q e)
def nj{v}{a}(h:dw M0 S v a):Rep M0 S v a:=by
 cases a<;>first|exact h|exact False.elim h
def P0{f}{j}{args}{C}(i:Rep M0 S j f)(q:eD (Rep M0 S) C args) :
  xB P M0 S (do let d<-Deferred.ofValue j C;invoke d.target d.args) (ip f args):=by
 unfold ip;split
 .rename_i g first cap
  have e:RepP (Avoid M0 S.m) S.w j (.func (.func g) first cap):=i
  cases e with
  |@func _ F K _ _ i A e y=>
   refine⟨F++C++K,?_,fA (fA (pe i e) q) (pe A y)⟩;rfl
 .rename_i g first cap
  obtain⟨F,K,rfl,e,y⟩:=i;refine⟨F++C++K,?_,fA (fA (e.imp λv c _ u=>nj u) q) (y.imp λv c _ u=>nj u)⟩;rfl
 .rename_i l;have e:dw M0 S j (.ref .yl l):=i;rcases e.2 with z|⟨_,b,D,rfl⟩
  .obtain⟨⟨b,rfl⟩,_⟩:=e;exact⟨b,C,by simp[Deferred.ofValue,invoke,yj],q,.inl z⟩
  .exact⟨b,C,by simp[Deferred.ofValue,invoke,yj],q,.inr D⟩
 simp[xB]
def SQ{f}{q}{args}{C}(j:Rep M0 S q f)(z:eD (Rep M0 S) C args) :
  xB P M0 S (do let d<-Deferred.ofValue q C;Pure.pure (Next.defer d)) (zx f args):=by
 unfold zx ip;split
 .rename_i g l e;split at e
  .rename_i D first cap
   cases e;have i:RepP (Avoid M0 S.m) S.w q (.func (.func g) first cap):=j
   cases i with
   |@func _ F K _ _ j A i y=>
    refine⟨.func g,K,F++C,F++C++K,by rfl,λw=>by simp[invoke],fA (fA (pe j i) z) (pe A y)⟩
  .rename_i D first cap
   cases e;obtain⟨F,K,rfl,i,y⟩:=j;exact⟨.func g,K,F++C,F++C++K,by rfl,λw=>by simp[invoke],fA (fA (i.imp λv c _ u=>nj u) z) (y.imp λv c _ u=>nj u)⟩
  .cases e
  .cases e
 simp[xB]
def Hh{z}{n sz}(l:z.size=sz){i j}(hi:i<n)(e:j<sz):(Builtin.zeroCells z n).getD (i*sz+j) undef=z.getD j undef:=by
 subst l;have u:i*z.size+j<n*z.size:=j3 hi e;have q:(i*z.size+j)%z.size=j:=by rw[BX,Nat.mul_add_mod,My e]
 simp[Builtin.zeroCells,u,q,e,getElem!_pos]
def SU(hS:HOk P M0 S){T}{x}{v}{ty}(hx:Rep M0 S v x):aU P M0 S (Builtin.clear_ #[T] ty #[v]) (Ds P T x S.h):=by
 unfold Ds;split
 .rename_i e id b1 off len he;split
  .rename_i sz xs q z E b3 hz;split
   .rename_i hc;obtain⟨rfl,hv,b6,a4,b2,a5⟩:=hc;have hu:=di he;obtain⟨J,a6,a8⟩:=lQ hz S.w;have Z:Rep M0 S J (.p z):=iS a8;obtain⟨cs,F⟩:=iM.1 a5;obtain⟨X,a7⟩:=kB Z F;have L:cs.length=q:=by
     cases z with
     |tuple l=>simp[AV.cells]at F
     |_=>(simp[AV.cells]at F;grind)
    have N:(Builtin.zeroCells J.cells len).size=(List.replicate len (AV.p z)).length*q:=by simp[Builtin.zeroCells,X,L]
    have I:eO M0 S q (Builtin.zeroCells J.cells len) (List.replicate len (AV.p z)):=by
     intro i y hi;have Y:i<len:=by have:=(aC.1 hi).1;simpa using this
     rw[AT,if_pos Y]at hi;cases hi;refine⟨cs,F,L,λj c hc=>?_⟩;have b7:=(aC.1 hc).1;rw[Hh (by rw[X,L]) Y (by omega)];exact a7 j c hc
    have O:Rep M0 S (.tuple #[]) (.p (.tuple [])):=aR (.tuple rfl λi c hi=>by simp at hi);have A:len=0->(∃a cap,v=.slice a 0 cap)->aU P M0 S (Builtin.clear_ #[T] ty #[v]) (.val (.p (.tuple [])) (S.h.set id (.row q (xs.take off++List.replicate len (AV.p z)++xs.drop (off+len))))):=by
     rintro rfl ⟨a,cap,rfl⟩
     refine⟨S,.tuple #[],?_,?_,Ev.refl _ _,hS,O⟩
     .simp only[GQ,bI,kx,ja];exact(kU E).symm
     .cases a<;>simp[Builtin.clear_,run_underlying hu]
    rcases dM hx.2 E hv with⟨h1,h2,h3,ad,cap,rfl⟩|⟨b,cap,T',n,hm,rfl,b0,b4,a9,a3⟩|⟨b5,rfl,U⟩
    .grind
    .rcases q9 len with U|U
     .grind
     .obtain⟨C,T2,M,u,a2⟩:=gK hS E hm;have D:(List.replicate len (AV.p z)).length=len:=by simp
      have a1:(xs.take off++List.replicate len (AV.p z)++xs.drop (off+len)).length=xs.length:=by simp;omega
      have R:off*q+(Builtin.zeroCells J.cells len).size<=C.size:=by
       rw[N,D,<-eW];exact fP (gp q (by omega)) u
      have a0:=rT D (by rw[N,D]) I;have V:=kA (P:=P) b T2 (Builtin.zeroCells J.cells len).toList (off*q) 0 C S.w M (by simpa using R) a0;have K:(lJ C (off*q) (Builtin.zeroCells J.cells len).toList).size=C.size:=jV _ _ _;have en:=Ev.set S.h.length E hm M K (xs':=xs.take off++List.replicate len (AV.p z)++xs.drop (off+len)) (by omega);have G:=xf a2 u N I (p:=off) (by rw[D];omega);rw[D]at G
      refine⟨S.set id (.row q (xs.take off++List.replicate len (AV.p z)++xs.drop (off+len))) b (lJ C (off*q) (Builtin.zeroCells J.cells len).toList),.tuple #[],rfl,?_,en,
       HOk.set hS E hm M K (by omega) (by grind) G,aR (.tuple rfl λi c hi=>by simp at hi)⟩
      obtain⟨m,rfl⟩:∃m,len=m+1:=⟨len-1,by omega⟩
      simp only[kx]at V;simp[Builtin.clear_,run_underlying hu,a6,V,Mem.set]
    grind
   simp[aU]
  simp[aU]
 simp[aU]
def Qu(V:HOk P M0 S){sz len}{y}{v}{ys}(U:Rep M0 S v y)(h:Ad S.h sz len y=some ys) :
  ∃(D:Array Value) (m:Nat),(Builtin.lenOf v).run P S.w=.ok m S.w/\Nat.min m len=ys.length/\(Builtin.firstCells sz ys.length v).run P S.w=.ok D S.w/\D.size=ys.length*sz/\eO M0 S sz D ys:=by
 unfold Ad at h;split at h
 .rename_i id a1 off n;split at h
  .rename_i l xs A;split at h
   .rename_i F;obtain⟨rfl,hv,a4⟩:=F;cases h;have M:Nat.min n len<=n:=Nat.min_le_left _ _;have e:=B' off (Nat.min n len) xs (by omega);rcases dM U.2 A hv with⟨rfl,a2,X,ad,cap,rfl⟩|⟨b,cap,T',n',hm,rfl,Z,a3,O,G⟩|⟨Y,rfl,rfl⟩
    .have z:Nat.min 0 len=0:=Nat.zero_min _;rw[z]at e |-;refine⟨#[],0,rfl,by rw[e,z],?_,by simp[e],λi x hx=>by grind⟩;rw[e]
     cases ad with
     |none=>rfl
     |some a=>simp[Builtin.firstCells,loadCells,loadCellsFrom]
    .obtain⟨C,T,hb,u,N⟩:=gK V A hm;have E:(off+n)*l<=C.size:=fP (gp l (by omega)) u;have R:Nat.min n len*l<=n*l:=gp l M;rw[eW]at E;refine⟨((List.range (Nat.min n len*l)).map λk=>C.getD (off*l+k) undef).toArray,n,rfl,by rw[e],?_,by simp[e],λi x hx=>?_⟩
     .have:=run_loadCells (P:=P) S.w ⟨b,off*l,none⟩ (Nat.min n len*l) (λk=>C.getD (off*l+k) undef) (λj hj=>by
       rw[gI]
       exact kP hb _ (by omega))
      simpa[Builtin.firstCells,e]using this
     .have q:=(aC.1 hx).1;rw[e]at q;have L:xs[off+i]?=some x:=by
       unfold sub at hx;rw[om,if_pos q,sc]at hx;exact hx
      obtain⟨cs,K,J,I⟩:=N _ x L;refine⟨cs,K,J,λj c F=>?_⟩;have a5:=(aC.1 F).1;rw[jN _ _ _ (j3 q (by omega))];grind
    .have z:Nat.min 0 len=0:=Nat.zero_min _;rw[z]at e |-;exact⟨#[],0,rfl,by rw[e,z],by rw[e];rfl,by simp[e],λi x hx=>by grind⟩
   .cases h
  .cases h
 .rename_i l xs full;split at h
  .rename_i a0 he;split at h
   .rename_i hl;cases h;obtain⟨D,K,J,I,h4⟩:=n9 V U he;grind
   .cases h
  .cases h
 .cases h
def VW(O:HOk P M0 S){T}{ts}(hT:ts[0]?=some T){x y}{v u}{ty}(hx:Rep M0 S v x)(hy:Rep M0 S u y):aU P M0 S (Builtin.copy_ ts ty #[v,u]) (G7 P T x y S.h):=by
 unfold G7;split
 .rename_i e id a4 off len he;split
  .rename_i sz xs j q I;split
   .rename_i hc;obtain⟨rfl,hv,a8⟩:=hc;split
    .rename_i ys Z;obtain⟨D,m,h1,U,Y,R,h5⟩:=Qu O hy Z;have hu:=di he;have a5:ys.length<=len:=by rw[<-U];exact Nat.min_le_right _ _
     have M:Rep M0 S (goInt (ys.length:Int)) (.p (.int .i64 (ys.length:Int))):=aR (.int _ _);have l:ys.length=0->(∃a cap,v=.slice a len cap)->aU P M0 S (Builtin.copy_ ts ty #[v,u]) (.val (.p (.int .i64 (ys.length:Int))) (S.h.set id (.row j (xs.take off++ys++xs.drop (off+ys.length))))):=by
      rintro G ⟨a,cap,rfl⟩
      have a0:ys=[]:=qx G;subst a0;have a1:D=#[]:=Array.eq_empty_of_size_eq_zero (by simpa using R);subst a1;refine⟨S,goInt (([]:List AV).length:Int),?_,?_,Ev.refl _ _,O,M⟩
      .simp only[bS,bI,kx,ja];exact(kU q).symm
      .simp only[bS]at U Y |-;unfold Builtin.copy_;cases a<;>simp[hT,run_underlying hu,cj I,h1,U,Y,storeCells]
     rcases dM hx.2 q hv with⟨e1,e2,e3,ad,cap,rfl⟩|⟨b,cap,T',n,X,rfl,a3,a6,a2,V⟩|⟨a7,rfl,G⟩
     .grind
     .rcases q9 ys.length with G|G
      .grind
      .obtain⟨C,T2,A,i,N⟩:=gK O q X;have L:(xs.take off++ys++xs.drop (off+ys.length)).length=xs.length:=by simp;omega
       have F:off*j+D.size<=C.size:=by
        rw[R,<-eW];exact fP (gp j (by omega)) i
       have K:=rT rfl R h5;have J:=kA (P:=P) b T2 D.toList (off*j) 0 C S.w A (by simpa using F) K;have z:(lJ C (off*j) D.toList).size=C.size:=jV _ _ _;have en:=Ev.set S.h.length q X A z (xs':=xs.take off++ys++xs.drop (off+ys.length)) (by omega);have E:=xf N i R h5 (p:=off) (by omega)
       refine⟨S.set id (.row j (xs.take off++ys++xs.drop (off+ys.length))) b (lJ C (off*j) D.toList),goInt (ys.length:Int),rfl,?_,en,
        HOk.set O q X A z (by omega) (by grind) E,aR (.int _ _)⟩
       simp only[kx]at J;unfold Builtin.copy_;simp[hT,run_underlying hu,cj I,h1,U,Y,J,Mem.set]
     grind
    simp[aU]
   simp[aU]
  simp[aU]
 simp[aU]
def Oa(D:HOk P M0 S){b}{ts}{ty}{cs}{C}{args}(E:eD (Rep M0 S) C args) :
  xB P M0 S (builtin b ts ty cs C) (tZ P b ts args S.h):=by
 have one:∀x,args=[x]->∃v,C=#[v]/\Rep M0 S v x:=by
  intro x hx;subst hx;have F:=E.1;have:C=#[C.getD 0 undef]:=by
   apply tk
   .simpa using F
   .simp_all
  exact⟨C.getD 0 undef,this,E.2 0 x rfl⟩
 have two:∀x y,args=[x,y]->∃u v,C=#[u,v]/\Rep M0 S u x/\Rep M0 S v y:=by
  intro x y hx;subst hx;have F:=E.1;have:C=#[C.getD 0 undef,C.getD 1 undef]:=by
   apply tk
   .simpa using F
   .intro i z q;have:i=0\/i=1:=by simp at q;omega
    rcases this with rfl|rfl<;>simp[z]
  exact⟨_,_,this,E.2 0 x rfl,E.2 1 y rfl⟩
 unfold tZ;split
 .rename_i x;obtain⟨v,rfl,l⟩:=one _ rfl;split
  .rename_i e;have:ts=#[ts.getD 0 0]:=by
    apply tk
    .simpa using e
    .simp_all
   have h:=(XW (P:=P) (T:=ts.getD 0 0) (ty:=ty) D l).op;rw[<-this]at h;exact h
  simp[xB]
 .rename_i x y;obtain⟨u,v,rfl,A,l⟩:=two _ _ rfl;split
  .rename_i e;have:ts=#[ts.getD 0 0,ts.getD 1 0]:=by
    apply tk
    .simpa using e
    .intro i z q;have:i=0\/i=1:=by simp at q;omega
     rcases this with rfl|rfl<;>simp[z]
   have h:=(Gb (P:=P) (T:=ts.getD 0 0) (U:=ts.getD 1 0) (ty:=ty) D A l).op;rw[<-this]at h;exact h
  simp[xB]
 .rename_i j a k b;obtain⟨u,v,rfl,A,l⟩:=two _ _ rfl;have:=jR A;subst this;have:=jR l;subst this;refine⟨S,_,rfl,?_,Ev.refl _ _,D,aR (.int _ _)⟩;rfl
 .rename_i j a k b;obtain⟨u,v,rfl,A,l⟩:=two _ _ rfl;have:=jR A;subst this;have:=jR l;subst this;refine⟨S,_,rfl,?_,Ev.refl _ _,D,aR (.int _ _)⟩;rfl
 .rfl
 .rename_i x;obtain⟨v,rfl,l⟩:=one _ rfl;split
  .rename_i e;have:ts=#[ts.getD 0 0]:=by
    apply tk
    .simpa using e
    .simp_all
   have h:=(SU (P:=P) (T:=ts.getD 0 0) (ty:=ty) D l).op;rw[<-this]at h;exact h
  simp[xB]
 .rename_i x y;obtain⟨u,v,rfl,A,l⟩:=two _ _ rfl;split
  .rename_i e;exact(VW (P:=P) (T:=ts.getD 0 0) (ts:=ts) (ty:=ty) D (by simp[ku,e]) A l).op
  simp[xB]
 simp[xB]
def ZD(D:HOk P M0 S){mu}{o}{ρ}{e}(u:∀x,Rep M0 S (ρ x) (e x)):xB P M0 S (execOp ρ o) (cv P mu o e S.h):=by
 have C:∀(v:AV) (v':Value) (s:Sem Next),s.run P S.w=.ok (.value v') S.w->Rep M0 S v' v->xB P M0 S s (.val v S.h):=
  λv v' s E G=>⟨S,v',rfl,E,Ev.refl _ _,D,G⟩
 unfold cv;split
 .rename_i x j;unfold execOp;rw[j];exact C _ _ _ rfl (u x)
 .rename_i x j;unfold execOp;rw[j];exact C _ _ _ rfl (u x)
 .rename_i c a b j;unfold execOp;rw[j];dsimp only;split
  .rename_i t ht;have:=u c;rw[ht]at this;have hb:=qU this;refine C _ (if t then ρ a else ρ b) _ ?_ (by grind);simp only[hb];rfl
  simp[xB]
 .rename_i T j;unfold execOp;rw[j];dsimp only;split
  .split
   .rename_i O _;exact(La D O).op
   simp[xB]
  .split
   .rename_i z O;split
    .rename_i F;exact(Tx D O F).op
    simp[xB]
   simp[xB]
 .rename_i T x j;unfold execOp;rw[j];dsimp only;split
  .rename_i cs U;exact(Fk D (u x) U).op
  simp[xB]
 .rename_i T ps j;unfold execOp;rw[j];dsimp only;refine(Tm D (by simp) λi p q E G=>?_).op;grind
 .rename_i T n ps j;unfold execOp;rw[j];dsimp only;refine(GF D (by simp) λi p q E G=>?_).op;grind
 .rename_i T a j;unfold execOp;rw[j];exact(Vo D (u a)).op
 .rename_i T a x j;unfold execOp;rw[j];exact(RU D (u a) (u x)).op
 .rename_i x j;split
  .rename_i sz xs i X hx;have h:=u x;rw[hx]at h;have E:RepP (Avoid M0 S.m) S.w (ρ x) (.ptr sz xs i X):=h;generalize I:ρ x=v at E
   cases E with
   |ptr f V hs hM F hr=>exact C _ _ _ (by unfold execOp;rw[j];simp only[I];rfl) (aR (.ptr f V hs hM F hr))
  .rename_i id a0 i X hx;split
   .rename_i sz hl;obtain⟨xs,M,I⟩:=nE hl;have h:=u x;rw[hx]at h;obtain⟨b,hm,L⟩:=dM h.2 M I;exact C _ _ _ (by unfold execOp;rw[j];simp only[L];rfl) (wS M I hm)
   simp[xB]
  simp[xB]
 .rename_i op T x y yT j;unfold execOp;rw[j];exact(Y0 D (u x) (u y)).op
 .rename_i op T x j;unfold execOp;rw[j];exact(Zz D (u x)).op
 .rename_i a1 dst x j;unfold execOp;rw[j];exact(NI D (u x)).op
 .rename_i T x j;unfold execOp;rw[j];dsimp only;split
  .rename_i N;split
   .rename_i v I;have h:=u x;rw[I]at h;refine C _ (.iface T (ρ x)) _ ?_ (aR (.iface h));unfold qK at N;split at N
    .cases N
    .rename_i d hd hu;unfold Instr.makeInterface;simp only[Sem.run_bind,run_underlying hu,bN];rfl
    .cases N
   simp[xB]
  simp[xB]
 .rename_i fn first cap j
  unfold execOp;rw[j];dsimp only;split
  .rename_i F;exact(Ky D (tA u first) (tA u cap) F.1 F.2).op
  simp[xB]
 .rename_i T l c j;unfold execOp;rw[j];exact(Il D (u l) (u c)).op
 .rename_i T x lo hi Y j;unfold execOp;rw[j];dsimp only;have J:∀(z:Option Operand) (a:AV) (v:Value),z.map e=some a->z.map ρ=some v->Rep M0 S v a:=by
   intro z a v E G
   cases z with
   |none=>cases E
   |some z=>grind
  exact(RZ D (u x) (by simp) (by simp) (by cases Y<;>rfl) (J lo) (J hi) (J Y)).op
 .rename_i T x f j;unfold execOp;rw[j];exact(IP D (u x)).op
 .rename_i T x f j;unfold execOp;rw[j];exact(SK D (u x)).op
 .rename_i T x i j;unfold execOp;rw[j];exact(IA D (u x) (u i)).op
 .rename_i T x i j;unfold execOp;rw[j];exact(Sy D (u x) (u i)).op
 .rename_i t i j;unfold execOp;rw[j];exact(ND D (u t)).op
 .rename_i c j;unfold execOp;rw[j];dsimp only;split
  .rename_i f F;have:=P0 (P:=P) (u f) (tA u c.args);simp only[resolve,F];exact this
  .rename_i b F;have:=Oa (P:=P) (b:=b) (ts:=c.argTypes) (ty:=o.type) (cs:=c.args.map λ| .const _=>true|_=>false) D (tA u c.args);simp only[resolve,F];exact this
  simp[xB]
 .rename_i c j;unfold execOp;rw[j];dsimp only;split
  .rename_i f F;have:=SQ (P:=P) (u f) (tA u c.args);simp only[resolve,F];exact this
  simp[xB]
 .rename_i x j;unfold execOp;rw[j];dsimp only;split
  .rename_i t v I;have h:=u x;rw[I]at h;have E:RepP (Avoid M0 S.m) S.w (ρ x) (.iface t v):=h;generalize L:ρ x=vx at E
   cases E with
   |iface G=>exact⟨_,by rfl,.iface G⟩
  simp[xB]
 .rename_i x T A ok j;unfold execOp;rw[j];exact(Gj D (u x)).op
 .rename_i T x j;unfold execOp;rw[j];exact(R' D (u x)).op
 .rename_i i b j;unfold execOp;rw[j];exact(Vk D (u i)).op
 .rename_i T r j;unfold execOp;rw[j]
  cases r with
  |none=>exact(M' D).op
  |some _=>exact trivial
 .rename_i T x k ok j;unfold execOp;rw[j];exact(PJ D (u x) (u k)).op
 .rename_i T m k v j;unfold execOp;rw[j];exact(Ik D (u m) (u k) (u v)).op
 simp[xB]
def Rz (M0:Nat->Prop) (S:Mem):Ending->AEnd->Prop
 |.returned v',.ret v=>Rep M0 S v' v
 |.panicked ch,.panic v=>∃v',ch=[{ v:=v',recovered:=false }]/\RepP (Avoid M0 S.m) S.w v' v
 |_,_=>False
def uc (P:Program) (M0:Nat->Prop) (S:Mem) (R:AEnd->Heap->Prop) (e:Ending) (w':World):Prop:=
 ∃(r:AEnd) (h':Heap) (m':List (Option Nat)),R r h'/\Ev S.h.length S ⟨m',h',w'⟩/\HOk P M0 ⟨m',h',w'⟩/\Rz M0 ⟨m',h',w'⟩ e r
def aw (P:Program) (f:FuncId) (args:List AV) (h:Heap) (R:AEnd->Heap->Prop):Prop:=
 ∀(M0:Nat->Prop) (m:List (Option Nat)) (w:World) (cargs:Array Value),HOk P M0 ⟨m,h,w⟩->eD (Rep M0 ⟨m,h,w⟩) cargs args ->
  (∀w',(callFunc f cargs).run P w'=.ok (.enter f cargs) w')/\Calls P f cargs w (uc P M0 ⟨m,h,w⟩ R)
def ve (P:Program) (l:Nat) (args:List AV) (h:Heap) (R:AEnd->Heap->Prop):Prop:=
 (∃o,h[l]?=some o/\o.tag=some .yl) /\
 ∀(M0:Nat->Prop) (m:List (Option Nat)) (w:World) (cargs:Array Value) (b:Nat),HOk P M0 ⟨m,h,w⟩->eD (Rep M0 ⟨m,h,w⟩) cargs args->m.getD l none=some b ->
  ∃(f:FuncId) (tmps:Array Value) (assign body:Code),(Instr.yield b cargs).run P w=.ok (.round b f tmps assign body) w /\
   ∀(c:Frame) (cs:List Frame),∃e w',uc P M0 ⟨m,h,w⟩ R e w' /\
    match e with
    |.returned v=>Steps P (lone (Frame.round b f tmps assign body .normal) (c::cs) w) (lone (c.finish v) cs w')
    |.panicked ch=>Steps P (lone (Frame.round b f tmps assign body .normal) (c::cs) w) (lone (c.raise ch) cs w')
    |.outgrown=>False
inductive AMode where
 |ret
 |pan (v:PV)
 |recd (v:PV)
def Ac:AMode->AMode
 |.recd _=>.ret
 |u=>u
def kt (M0:Nat->Prop) (S:Mem) (um:FrameMode):AMode->Prop
 |.ret=>um=.returning
 |.pan v=>∃v',um=.panicking [{ v:=v',recovered:=false }]/\RepP (Avoid M0 S.m) S.w v' v
 |.recd _=>∃v',um=.panicking [{ v:=v',recovered:=true }]
def lk (P:Program) (f:FuncId) (args:List AV) (u:AMode) (h:Heap) (R:AEnd->AMode->Heap->Prop):Prop:=
 ∀(M0:Nat->Prop) (m:List (Option Nat)) (w:World) (cargs:Array Value) (um:FrameMode),HOk P M0 ⟨m,h,w⟩->eD (Rep M0 ⟨m,h,w⟩) cargs args->kt M0 ⟨m,h,w⟩ um u ->
  (∀w',(callFunc f cargs).run P w'=.ok (.enter f cargs) w') /\
  CallsD P f cargs um w λe um' w'=>∃(r:AEnd) (u':AMode) (h':Heap) (m':List (Option Nat)),R r u' h'/\Ev h.length ⟨m,h,w⟩ ⟨m',h',w'⟩/\HOk P M0 ⟨m',h',w'⟩ /\
   Rz M0 ⟨m',h',w'⟩ e r/\kt M0 ⟨m',h',w'⟩ um' u'
def J4 (P:Program) (M0:Nat->Prop) (S:Mem) (d:Deferred):ADef->Prop
 |.fn g args=>∃(fv:Fn) (cap dargs cargs:Array Value),d={ target:=.fn fv cap,args:=dargs } /\
   (∀w,(invoke (.fn fv cap) dargs).run P w=(callFunc g cargs).run P w)/\eD (Rep M0 S) cargs args
 |.collected id=>∃b,d={ target:=.collected b,args:=#[] }/\(S.h[id]?=some .dead\/(S.h[id]?=some .dblock/\S.m.getD id none=some b))
def DefsRep (P:Program) (M0:Nat->Prop) (S:Mem):List Deferred->List ADef->Prop
 |[],[]=>True
 |d::ds,x::xs=>J4 P M0 S d x/\DefsRep P M0 S ds xs
 |_,_=>False
def RcRep (M0:Nat->Prop) (S:Mem) (b:Frame) (cs0:List Frame):Rc->Prop
 |.no=>b.roundOf=none
 |.rnd=>b.roundOf.isSome=true/\b.kind=.normal
 |.none=>b.roundOf=none/\b.kind=.deferred/\recoverD cs0=none
 |.pend v=>b.roundOf=none/\b.kind=.deferred/\∃v' cs1,recoverD cs0=some (v',cs1)/\RepP (Avoid M0 S.m) S.w v' v
 |.got _=>b.roundOf=none/\b.kind=.deferred/\∃v' cs1,recoverD cs0=some (v',cs1)
def bR:Rc->List Frame->List Frame
 |.got _,cs=>match recoverD cs with|some (_,c)=>c|none=>cs
 |_,cs=>cs
structure Rel (P:Program) (M0:Nat->Prop) (S0:Mem) (b:Frame) (cs0:List Frame) (m:List (Option Nat)) (A:AAct) (a:Act) (w:World):Prop where
 size:a.tmps.size=A.n
 tmps:∀t,Rep M0 ⟨m,A.h,w⟩ (a.tmps.getD t undef) (A.tmps t)
 hok:HOk P M0 ⟨m,A.h,w⟩
 ev:Ev A.bs S0 ⟨m,A.h,w⟩
 le:A.bs<=A.h.length/\∃f,P.funcs[b.fn]?=some f
 df:DefsRep P M0 ⟨m,A.h,w⟩ a.defers A.df
 rc:RcRep M0 ⟨m,A.h,w⟩ b cs0 A.rc
def gU (P:Program) (A B:AAct):Prop:=
 B.n=A.n/\B.rc=A.rc/\∀M0 S0 b cs0 m a w,Rel P M0 S0 b cs0 m A a w->∃m',Rel P M0 S0 b cs0 m' B a w
def Ej (K:AV->Heap->Prop) (Q:PV->Heap->Prop):AEnd->Heap->Prop
 |.ret v,h=>K v h
 |.panic v,h=>Q v h
def xg (K:Prop):Rc->Prop
 |.rnd=>False
 |_=>K
def R6 (A:AAct) (K:AAct->PV->Prop):Rc->Prop
 |.none=>K A .niliface
 |.pend v=>K { A with rc:=.got v } v
 |.got _=>K A .niliface
 |_=>False
def mZ (P:Program) (A:AAct) (dst:Option Tmp) (K:AAct->Prop) (Q:Ex->AAct->Prop):OR->Prop
 |.val v h=>K (A.put dst v h)
 |.skip h=>K (A.put dst (.p (.tuple [])) h)
 |.call f args=>aw P f args A.h (Ej (λv h=>K (A.put dst v h)) (λv h=>Q (.panic v) { A with h:=h }))
 |.yld l args=>ve P l args A.h (Ej (λv h=>K (A.put dst v h)) (λv h=>Q (.panic v) { A with h:=h }))
 |.dfr d=>xg (K ({ A with df:=d::A.df }.put dst (.p (.tuple [])) A.h)) A.rc
 |.recover=>R6 A (λB v=>K (B.put dst (.p v) A.h)) A.rc
 |.panic v=>Q (.panic v) A
 |.stuck=>False
def ui (X Y:Unit->Prop):Option Bool->Prop
 |some b=>J5 b X Y
 |none=>False
def G3 (X Y:Unit->Prop):AV->Prop
 |.p (.bool b)=>J5 b X Y
 |_=>False
def fh (K:AAct->Prop) (Q:Ex->AAct->Prop):Ex->AAct->Prop
 |.normal,A=>K A
 |.exit j,A=>Q (.exit j) A
 |.ret,A=>Q .ret A
 |.panic v,A=>Q (.panic v) A
def lE (id:Nat) (Q:Ex->AAct->Prop):Ex->AAct->Prop
 |.exit j,A=>if j=id then Q .normal A else Q (.exit j) A
 |.normal,A=>Q .normal A
 |.ret,A=>Q .ret A
 |.panic v,A=>Q (.panic v) A
inductive Hint where
 |std|mut|low|bar
  |slot (j sz:Nat)
  |sto
  |nop
  |app (t:Nat)
  |thr
  |cal
 deriving DecidableEq
def Hint.isMut:Hint->Bool
 |.mut=>true
 |_=>false
abbrev Hints:=Nat->Hint
def bd (H:Hints):Nat->Bool:=λd=>(H d).isMut
def ke (P:Program) (H:Hints) (ops:Array Oper) (Q:Ex->AAct->Prop):List Oper->AAct->Prop
 |[],A=>Q .normal A
 |o::rest,A=>
   ui (λ_=>mZ P A o.dst (ke P H ops Q rest) Q (cv P (bd H) o A.eval A.h))
    (λ_=>ke P H ops Q rest (A.put o.dst (.p (.tuple [])) A.h)) (bU ops A o)
def AObj.isDead:AObj->Bool
 |.dead=>true
 |_=>false
def dr (h h':Heap):Prop:=∀(id:Nat) (o:AObj),h[id]?=some o->o.isDead=false->h'[id]?=some o
inductive DC where
 |bar|alloc|quiet|low
 |slot (j sz:Nat)
 |sto
 |nop
 |app (t:Nat)
 |thr
 |cal
 deriving DecidableEq
def rL:Op->Bool
 |.alloc _=>true
 |.box _ _=>true
 |.makeSlice _ _ _=>true
 |.makeMap _ none=>true
 |_=>false
def Bt:Op->Bool
 |.alloc _=>true
 |.box _ _=>true
 |_=>false
def fX:Op->Bool
 |.move _|.assign _|.pick _ _ _|.build _ _|.buildSlice _ _ _|.load _ _|.nilCheck _|.binOp _ _ _ _ _|.unOp _ _ _|.convert _ _ _|.makeInterface _ _|.makeFunc _ _ _
 |.slice _ _ _ _ _|.fieldAddr _ _ _|.field _ _ _|.indexAddr _ _ _|.index _ _ _|.extract _ _|.lookup _ _ _ _|.typeAssert _ _ _ _=>true
 |.call c=>
  match c.callee with
  |.value _=>true
  |.builtin .len=>true
  |.builtin .min=>true
  |.builtin .max=>true
  |_=>false
 |_=>false
def CR:Op->Bool
 |.call c=>match c.callee with|.builtin .append=>true|.builtin .copy=>true|_=>false
 |_=>false
def T4:Operand->Nat
 |.tmp x=>x
 |_=>999
def wn (H:Hints):Op->DC
 |.store _ (.tmp t) y=>match H (1000000+1000*t+T4 y) with|.sto=>.sto|.nop=>.nop|_=>.bar
 |_=>.bar
def cr (H:Hints) (o:Oper):DC:=
 match o.dst with
 |none=>wn H o.op
 |some d=>
  match H d with
  |.std=>if rL o.op=true then .alloc else if fX o.op=true then .quiet else .bar
  |.mut=>.alloc
  |.low=>if fX o.op=true then .low else .bar
  |.slot j sz=>if Bt o.op=true then .slot j sz else .bar
  |.app t=>if CR o.op=true then .app t else .bar
  |.thr=>if fX o.op=true then .thr else .bar
  |.cal=>if fX o.op=true then .cal else .bar
  |_=>.bar
def Ap (P:Program) (h:Heap) (K:AV->Prop):OR->Prop
 |.val v h'=>h'=h/\K v
 |.call f args=>∃v,(∀h',dr h h'->aw P f args h' (λr h''=>r=.ret v/\h''=h'))/\K v
 |_=>False
def EJ (h:Heap) (K:AV->Heap->Prop):OR->Prop
 |.val v h'=>(∃t,h'=h++t)/\K v h'
 |_=>False
def je (P:Program) (e:Operand->AV):Op->Option AV
 |.alloc T=>(bW P T).map .p
 |.box _ x=>some (e x)
 |_=>none
def j9 (hs:Heap) (id:Nat):Bool:=
 match hs[id]? with
 |some .dead=>true
 |none=>true
 |_=>false
def uk (hs h:Heap) (j sz:Nat) (K:AV->Heap->Prop):Option AV->Prop
 |some z=>z.cells.map (·.length)=some sz/\j9 hs (hs.length-1-j)=true/\h[hs.length-1-j]?=some (.row sz [])/\K (.ptr (hs.length-1-j) 1 0 0) (h.set (hs.length-1-j) (.row sz [z]))
 |none=>False
def sy (K:Heap->Prop):OR->Prop
 |.skip h=>K h
 |_=>False
def x3 (P:Program) (hs h:Heap) (e:Operand->AV) (K:Heap->Prop):Op->Prop
 |.store T a x=>match e a with
  |.ptr id ver i o=>j9 hs id=true/\sy K (iZ P T (.ptr id ver i o) (e x) h)
  |_=>False
 |_=>False
def yt (P:Program) (h:Heap) (e:Operand->AV) (K:Prop):Op->Prop
 |.store T a x=>iZ P T (e a) (e x) h=.skip h/\K
 |_=>False
def G5 (hs h h':Heap):Prop:=(∃t,h'=h++t)\/∃id ob,h'=h.set id ob/\j9 hs id=true
def BK (hs h:Heap) (K:AV->Heap->Prop):OR->Prop
 |.val v h'=>G5 hs h h'/\K v h'
 |_=>False
def A4 (P:Program) (Q:Ex->AAct->Prop) (A:AAct) (K:AV->Prop):OR->Prop
 |.call f args=>(∃v,(∀h',dr A.h h'->aw P f args h' (λr h''=>r=.ret v/\h''=h'))/\K v) \/
   ∃v,aw P f args A.h (λr h''=>r=.panic v/\h''=A.h)/\∀T,Q (.panic v) { A with tmps:=T }
 |_=>False
def Ng (H:Hints) (T S:Nat->AV):Prop:=∀t,H (6000000+t)=.nop->T t=S t
def tR (P:Program) (H:Hints) (Q:Ex->AAct->Prop) (hs:Heap) (A:AAct) (K:AV->Heap->Prop):OR->Prop
 |.call f args=>aw P f args A.h (Ej (λv h=>dr hs h/\K v h) (λv h=>∀T,Ng H T A.tmps->Q (.panic v) { A with tmps:=T,h:=h }))
 |_=>False
def Yt (X Y Z W:Unit->Prop) (U:Nat->Nat->Prop) (V N E R C:Unit->Prop):DC->Prop
 |.bar=>X ()
 |.alloc=>Y ()
 |.quiet=>Z ()
 |.low=>W ()
 |.slot j sz=>U j sz
 |.sto=>V ()
 |.nop=>N ()
 |.app _=>E ()
 |.thr=>R ()
 |.cal=>C ()
def cp (P:Program) (H:Hints) (ops:Array Oper) (Q:Ex->AAct->Prop):List Oper->Heap->AAct->Prop
 |[],_,A=>Q .normal A
 |o::rest,hs,A=>
   ui (λ_=>Yt
     (λ_=>mZ P A o.dst (λB=>cp P H ops Q rest B.h B) Q (cv P (bd H) o A.eval A.h))
     (λ_=>EJ A.h (λv h=>cp P H ops Q rest hs (A.put o.dst v h)) (cv P (bd H) o A.eval A.h))
     (λ_=>Ap P A.h (λv=>cp P H ops Q rest hs (A.put o.dst v A.h)) (cv P (bd H) o A.eval A.h))
     (λ_=>Ap P hs (λv=>cp P H ops Q rest hs (A.put o.dst v A.h)) (cv P (bd H) o A.eval hs))
     (λj sz=>uk hs A.h j sz (λv h=>cp P H ops Q rest hs (A.put o.dst v h)) (je P A.eval o.op))
     (λ_=>x3 P hs A.h A.eval (λh=>cp P H ops Q rest hs (A.put o.dst (.p (.tuple [])) h)) o.op)
     (λ_=>yt P A.h A.eval (cp P H ops Q rest hs (A.put o.dst (.p (.tuple [])) A.h)) o.op)
     (λ_=>BK hs A.h (λv h=>cp P H ops Q rest hs (A.put o.dst v h)) (cv P (bd H) o A.eval A.h))
     (λ_=>A4 P Q A (λv=>cp P H ops Q rest hs (A.put o.dst v A.h)) (cv P (bd H) o A.eval A.h))
     (λ_=>tR P H Q hs A (λv h=>cp P H ops Q rest hs (A.put o.dst v h)) (cv P (bd H) o A.eval A.h))
     (cr H o))
    (λ_=>cp P H ops Q rest hs (A.put o.dst (.p (.tuple [])) A.h)) (bU ops A o)
def un (H:Hints):List Oper->List Nat
 |[]=>[]
 |o::l=>match cr H o with|.slot _ sz=>sz::un H l|_=>un H l
def pN (H:Hints) (T:Nat->AV):List Oper->List Nat
 |[]=>[]
 |o::l=>match cr H o,o.op with
  |.sto,.store _ (.tmp t) _=>(match T t with|.ptr id _ _ _=>id::pN H T l|_=>pN H T l)
  |.app t,_=>(match T t with|.slice id _ _ _=>id::pN H T l|_=>pN H T l)
  |_,_=>pN H T l
def wO (h:Heap):List Nat->Heap
 |[]=>h
 |id::l=>wO (h.set id .dead) l
def gE (id:Nat) (h:Heap):Heap:=h.mapIdx λi o=>if i=id then o else .dead
def M4 (H:Hints) (T:Nat->AV):Option Nat:=match H 5000001 with|.app t=>(match T t with|.ptr id _ _ _=>some id|.slice id _ _ _=>some id|_=>none)|.nop=>some 1000000000|_=>none
def zT (H:Hints) (ops:List Oper) (A:AAct):Heap:=match M4 H A.tmps with|some id=>gE id A.h|none=>wO A.h (pN H A.tmps ops)
def qe (H:Hints) (ops:List Oper) (A:AAct):Heap:=zT H ops A++(un H ops).map λ_=>.dead
def Ie {α:Type} (a b:Nat) (l:List α):List α:=if a<b/\b<l.length then l.take a++(l.drop (a+1)).take (b-a)++(l.drop a).take 1++l.drop (b+1) else l
def wK (H:Hints) (n:Nat):List Nat:=match H 5000000 with|.slot a b=>Ie a b (List.range n)|_=>List.range n
def Bi (H:Hints) (l:List Oper):List Oper:=match H 5000000 with|.slot a b=>Ie a b l|_=>l
def sO (H:Hints) (ops:List Oper) (A:AAct):AAct:={ A with h:=A.h++(un H ops).map λsz=>.row sz [] }
def wX (Q:Ex->AAct->Prop) (A:AAct):Option Code->Prop
 |none=>Q .normal A
 |some .ret=>Q .ret A
 |some (.exit id)=>Q (.exit id) A
 |_=>False
def pj (Q:Ex->AAct->Prop) (A:AAct) (l:Nat):Option AObj->Prop
 |some (.loop _ _ _ _ _ st pend)=>st≠.busy/\wX Q { A with h:=A.h.set l .dead } pend
 |_=>False
def yp (P:Program) (A:AAct) (h:Heap) (l:Nat) (Q:Ex->AAct->Prop):OR->Prop
 |.call g args=>aw P g args h (Ej (λ_ h'=>pj Q { A with h:=h',df:=.collected l::A.df } (l+1) h'[l+1]?)
   (λv h'=>Q (.panic v) { A with h:=h',df:=.collected l::A.df }))
 |_=>False
def wp (P:Program) (H:Hints):Code->(Ex->AAct->Prop)->AAct->Prop
 |.skip,Q,A=>Q .normal A
 |.region _ ops false,Q,A=>ke P H ops Q ops.toList A
 |.region _ ops true,Q,A=>cp P H ops Q (Bi H ops.toList) (qe H ops.toList A) (sO H ops.toList A)
 |.seq a b,Q,A=>wp P H a (fh (wp P H b Q) Q) A
 |.cond c x y,Q,A=>G3 (λ_=>wp P H x Q A) (λ_=>wp P H y Q A) (A.eval c)
 |.block id b,Q,A=>wp P H b (lE id Q) A
 |.loop b,Q,A=>∀X:AAct->Prop,(∀B,wp P H b (fh (λC=>∃D,gU P C D/\X D) Q) B->X B)->∃B,gU P A B/\X B
 |.rangeFunc g ps assign body,Q,A=>xg (yp P A (A.h++[.dblock,.loop A.n A.tmps ps assign body .ready none]) A.h.length Q (ip (A.eval g) [.ref .yl (A.h.length+1)])) A.rc
 |.exit id,Q,A=>Q (.exit id) A
 |.ret,Q,A=>Q .ret A
 |.scope b,Q,A=>wp P H b Q A
 |.label _,Q,A=>Q .normal A
 |_,_,_=>False
def qd (n:Nat) (o:Oper):Bool:=match o.dst with|some d=>decide (d<n)|none=>true
def JD (b:Array Nat) (i j:Nat):Bool:=(b.getD j 0).testBit i
def nw:DC->DC->Bool
 |.alloc,.low=>true
 |.quiet,.alloc|.quiet,.quiet|.quiet,.low=>true
 |.low,.alloc|.low,.quiet|.low,.low|.low,.slot _ _|.low,.sto=>true
 |.slot _ _,.low|.slot _ _,.slot _ _=>true
 |.sto,.low=>true
 |.app _,.low|.low,.app _=>true
 |.nop,.low|.nop,.quiet|.nop,.nop|.low,.nop|.quiet,.nop=>true
 |.quiet,.thr|.low,.thr=>true
 |.low,.cal=>true
 |_,_=>false
def wY (o:Oper):Bool:=
 match o.guard,o.op with
 |none,.move _=>true
 |none,.assign _=>true
 |_,_=>false
def zU:DC->Bool
 |.thr=>true
 |_=>false
def sJ:DC->Bool
 |.quiet=>true
 |_=>false
def Un (H:Hints) (x y:Oper):Bool:=
 match cr H y with
 |.cal=>(match x.dst with|some d=>decide (H (6000000+d)≠.nop)|none=>true)
 |_=>true
def rI (H:Hints) (ops:Array Oper) (x y:Oper):Bool:=(nw (cr H x) (cr H y)||(zU (cr H x)&&wY y&&sJ (cr H y)))&&(Oper.apart ops x y&&Un H x y)
def Cv (H:Hints) (ops:Array Oper) (b:Array Nat):List Nat->Bool
 |[]=>true
 |i::r=>
  (match ops[i]? with
   |some x=>(x.after.all λe=>!Region.binds .any e||(decide (e.on<ops.size)&&!(i::r).contains e.on)) &&
    r.all λj=>!(i==j)&&(match ops[j]? with|some y=>JD b i j||rI H ops x y|none=>false)
   |none=>false)&&Cv H ops b r
def IU (H:Hints) (ops:Array Oper):Bool:=
 (ops.toList.all λy=>Region.noSelect ops)&&decide ((wK H ops.size).length=ops.size)&&Cv H ops (Region.before ops) (wK H ops.size)
def dV (H:Hints) (n:Nat):Code->Bool
 |.region _ ops false=>ops.toList.all (qd n)
 |.region _ ops true=>ops.toList.all (qd n)&&IU H ops
 |.seq a b=>dV H n a&&dV H n b
 |.cond _ a b=>dV H n a&&dV H n b
 |.block _ b=>dV H n b
 |.loop b=>dV H n b
 |.rangeFunc _ _ a b=>dV H n a&&dV H n b
 |.scope b=>dV H n b
 |_=>true
end Abs
end Go.Proofs.YtgafommgcfhkkaaGreatDoor
