/- LAWS: objects that are no rows are replaced: loops over functions, walks over texts. -/
import Derived.Test.YtoapoaoelpcniaaGreatDoorAbsOpsDX
import Derived.RangeFuncRecord
import Derived.WideKeyRuns
set_option linter.all false
namespace Go.Proofs.YtoapoaoelpcniaaGreatDoor
namespace Abs
variable {P:Program} {M0:Nat->Prop}
theorem cK{m:List (Option Nat)}{id b}(h:m.getD id none=some b):m[id]?=some (some b):=by
 rw[cd]at h
 cases hq:m[id]? with
 |none=>simp[hq]at h
 |some z=>simp[hq]at h;rw[h]
theorem FW{w:World}{bl}{x ob}(hx:w.heap[bl]?=some x)(h1:w.shape? bl=none)(h2:∀C T f,ob≠.cells C T f)(c):(w.putObj bl ob).shape? c=w.shape? c:=by
 by_cases hc:c=bl
 .subst hc;rw[h1];unfold World.shape?;rw[World.putObj_heap_same (r6.1 hx).1];cases ob<;>first|rfl|exact absurd rfl (h2 _ _ _)
 .unfold World.shape?;rw[World.putObj_heap_other hc]
theorem kf{S}(hS:HOk P M0 S){id bl}{o0 o}{x ob}(hid:S.m.getD id none=some bl)(h0:S.h[id]?=some o0)(hx:S.w.heap[bl]?=some x)
  (h1:S.w.shape? bl=none) (h2:∀C T f,ob≠.cells C T f) (hev:ObjEv (some bl) o0 (some bl) o)
  (hob:Ev S.h.length S ⟨S.m,S.h.set id o,S.w.putObj bl ob⟩->(S.w.putObj bl ob).heap[bl]?=some ob->ObjOk P M0 ⟨S.m,S.h.set id o,S.w.putObj bl ob⟩ (some bl) o) :
  HOk P M0 ⟨S.m,S.h.set id o,S.w.putObj bl ob⟩/\Ev S.h.length S ⟨S.m,S.h.set id o,S.w.putObj bl ob⟩:=by
 have hlt:=(r6.1 hx).1;have hidlt:=(aF.1 h0).1;have hown:Own S.m bl:=aG (cK hid)
 have he:Ev S.h.length S ⟨S.m,S.h.set id o,S.w.putObj bl ob⟩:=
  {fr:=⟨rfl,rfl,rfl,by simp[World.putObj],λc _ hn=>World.putObj_heap_other (λe=>hn (e▸hown)),λc _=>FW hx h1 h2 c⟩
   sub:=λc h=>.inl h
   obj:=λy oy hy hoy=>by
    by_cases hyi:y=id
    .subst hyi;rw[h0]at hoy;cases hoy;refine⟨o,by simp[hidlt],?_⟩;show ObjEv (S.m.getD y none) _ (S.m.getD y none) _;rw[hid];exact hev
    .exact⟨oy,by simp[eo (Ne.symm hyi),hoy],ObjEv.refl _ _⟩ }
 refine⟨?_,he⟩
 exact
  {len:=by simpa using hS.len
   lt:=λc h=>jM (hS.lt c h) he.fr.size
   m0:=λc h=>⟨jM (hS.m0 c h).1 he.fr.size,(hS.m0 c h).2⟩
   inj:=hS.inj
   obj:=λy oy hoy=>by
    by_cases hyi:y=id
    .subst hyi;have hoy':(S.h.set y o)[y]?=some oy:=hoy;rw[jf hidlt]at hoy';cases hoy';show ObjOk P M0 _ (S.m.getD y none) _;rw[hid];exact hob he (World.putObj_heap_same hlt)
    .have hoy':(S.h.set id o)[y]?=some oy:=hoy;rw[eo (Ne.symm hyi)]at hoy';refine(hS.obj y oy hoy').keep he λc hc=>World.putObj_heap_other λe=>hyi ?_;subst e;exact hS.inj y id c (cK hc) (cK hid)
   gl:=he.glob hS.gl }
theorem vK{w:World}{bl}{r}(h:w.heap[bl]?=some (.loop r)):w.shape? bl=none:=by
 unfold World.shape?;rw[h]
theorem CJ{w:World}{bl}{ds}(h:w.heap[bl]?=some (.deferred ds)):w.shape? bl=none:=by
 unfold World.shape?;rw[h]
theorem Ly{w:World}{bl pos}{s}(h:w.heap[bl]?=some (.stringIter s pos)):w.shape? bl=none:=by
 unfold World.shape?;rw[h]
theorem PO{S}(hS:HOk P M0 S){T}{v}{x}(hx:Rep M0 S v x):aM P M0 S (Instr.range T v) (BU P T x S.h):=by
 unfold BU;split
 .rename_i s;split
  .rename_i hT;have h1:RepP (Avoid M0 S.m) S.w v (.str s):=hx;cases h1;have hu:P.underlying T=some .string:=by
    unfold e9 at hT;split at hT
    .assumption
    .cases hT
   have hrun:=run_range_string (P:=P) S.w T s hu;refine⟨S.new (.strIter s 0) (.stringIter s 0),_,rfl,hrun,Ev.new _ M0 hS (bB _) _ _,hS.new ⟨_,rfl,bK _ _⟩,?_⟩;refine⟨⟨S.w.heap.size,rfl⟩,.inr ⟨⟨.strIter s 0,by simp[Mem.new],rfl⟩,S.w.heap.size,?_,rfl⟩⟩;have:=hS.len;simp[Mem.new,<-this]
  .exact trivial
 .exact trivial
theorem SN{S}(hS:HOk P M0 S){b}{T}{v}{x}(hx:Rep M0 S v x):aM P M0 S (Instr.next v b T) (Fm b x S.h):=by
 unfold Fm;split
 .rename_i id;split
  .rename_i s pos hid;obtain⟨_,hd|⟨_,bl,hm,hv⟩⟩:=hx
   .rw[hid]at hd;cases hd
   .have hv':v=.pointer (some ⟨bl,0,none⟩):=hv;subst hv';obtain⟨bl',hm',hb⟩:=hS.obj id _ hid;rw[hm]at hm';cases hm';have hlt:=(r6.1 hb).1;split
    .rename_i hp
     obtain⟨hk,hev⟩:=kf hS (o:=.strIter s (pos+(Utf8.decode s pos).2)) (ob:=.stringIter s (pos+(Utf8.decode s pos).2)) hm hid hb (Ly hb) (by intro C T f;simp)
      (.inr (.inr ⟨by simp[AObj.tag],rfl,rfl⟩)) (λ_ hx=>⟨bl,rfl,hx⟩)
     refine⟨_,.tuple #[.bool true,.int .i64 pos,.int .i32 (Utf8.decode s pos).1],rfl,?_,hev,hk,?_⟩
     .simp only[Instr.next,getObj,setObj,Sem.run_bind,Sem.run,hb,Result.andThen,hp,if_true];simp[goInt,World.putObj]
     .refine RepP.tuple rfl λi c hi=>?_
      match i,hi with
      |0,hi=>cases hi;exact .bool _
      |1,hi=>cases hi;exact .int _ _
      |2,hi=>cases hi;exact .int _ _
    .rename_i hp;refine⟨S,.tuple #[.bool false],rfl,?_,Ev.refl _ _,hS,?_⟩
     .simp[Instr.next,getObj,Sem.run,hb,hp]
     .refine RepP.tuple rfl λi c hi=>?_
      match i,hi with
      |0,hi=>cases hi;exact .bool _
  .exact trivial
 .exact trivial
theorem nO{w:World}{bl clk}{C}(h:w.heap[bl]?=some (.map C clk)):w.shape? bl=none:=by
 unfold World.shape?;rw[h]
theorem Lp{S}(hS:HOk P M0 S){T}:aM P M0 S (Instr.makeMap T none) (.val (.ref .mp S.h.length) (S.h++[.mp []])):=by
 refine⟨S.new (.mp []) (.map #[] 0),.map (some S.w.heap.size),rfl,rfl,Ev.new _ M0 hS (bB _) _ _,hS.new ⟨_,#[],0,rfl,bK _ _,trivial⟩,?_⟩;refine⟨⟨S.w.heap.size,rfl⟩,.inr ⟨⟨.mp [],by simp[Mem.new],rfl⟩,S.w.heap.size,?_,rfl⟩⟩;have:=hS.len;simp[Mem.new,<-this]
def yd (d:TypeDesc) (kv:Value) (k:PV):Prop:=(∃kk j a,d=.int kk/\kv=.int j a/\k=.int j a)\/∃s,d=.string/\kv=.string s/\k=.str s
theorem FZ{d}{kv qv}{k q}{M}{w}{b}(hk:yd d kv k)(hq:RepP M w qv q)(h:j0 k q=some b):Instr.sameNow d kv qv=some b:=by
 rcases hk with⟨kk,j,a,rfl,rfl,rfl⟩|⟨s,rfl,rfl,rfl⟩
 .cases q<;>first|(cases h;done)|skip
  cases hq;exact h
 .cases q<;>first|(cases h;done)|skip
  cases hq;exact h
theorem PG{d}{kv qv}{k q}{M}{w}(hk:yd d kv k)(hq:RepP M w qv q)(h:j0 k q=some true):qv=kv:=by
 rcases hk with⟨kk,j,a,rfl,rfl,rfl⟩|⟨s,rfl,rfl,rfl⟩
 .cases q<;>first|(cases h;done)|skip
  cases hq;simp only[j0]at h;split at h
  .rename_i e;subst e;rw[eq_of_beq (lq h)]
  .cases h
 .cases q<;>first|(cases h;done)|skip
  cases hq;rename_i s';have h':(s==s')=true:=lq h;cases s with|mk x=>cases s' with|mk y=>rw[show x=y from eq_of_beq (show (x==y)=true from h')]
theorem Hb{b}{K}{d}{kv}{k}(hk:yd d kv k)(hu:P.underlying K=some d)(w):(Instr.checkKey b 10000 K kv).run P w=.ok () w:=by
 unfold Instr.checkKey;rcases hk with⟨kk,j,a,rfl,rfl,rfl⟩|⟨s,rfl,rfl,rfl⟩
 .simp only[Sem.run_bind,run_underlying hu,dl];rfl
 .simp only[Sem.run_bind,run_underlying hu,dl];rfl
theorem F0{d}{kv}{k}(hk:yd d kv k):Instr.sameBits 10000 kv kv=true:=by
 rcases hk with⟨kk,j,a,rfl,rfl,rfl⟩|⟨s,rfl,rfl,rfl⟩
 .simp[Instr.sameBits]
 .unfold Instr.sameBits;cases s with|mk x=>exact(beq_self_eq_true x:(x==x)=true)
theorem xL{T}{k}{M}{w}{X}{a}{n}{x}(h:BF P T=some k)(hX:kt M w X a)(hx:a[n]?=some x):(part T X n).run P w=.ok (X.getD n undef) w:=by
 have hn:n<X.size:=by have:=(aF.1 hx).1;rw[hX.1];exact this
 have hag:bZ P T=some false:=by
  unfold BF at h;unfold bZ;split at h<;>first|(cases h;done)|(rename_i hu;rw[hu])
 simp[part,kE hag,hn,fQ]
theorem Qx{k}{x}{s}(h:ph k x x=some s):k=Ha x:=by
 cases k<;>cases x<;>simp_all [ph,Ha]
theorem D0:∀{ks} {a} {t},eK ks a a=some t->ks=a.map Ha
 |[],[],_,_=>rfl
 |[],_::_,_,h=>by cases h
 |_::_,[],_,h=>by cases h
 |k::ks,x::a,t,h=>by
  rw[eK]at h;split at h
  .rename_i s u h1 h2;rw[bL,<-Qx h1,<-D0 h2]
  .cases h
theorem w8{M}{w}(e){X Y}{a b}(hX:kt M w X a)(hY:kt M w Y b):∀(fs) (n) (ks) (t),w9 P fs n=some ks->eK ks (a.drop n) (b.drop n)=some t ->
  (Op.eqFields (e+1) X Y fs).run P w=.ok t w
 |[],n,ks,t,h,ht=>by
  simp only[w9,jO]at h;subst h;cases ha:a.drop n<;>cases hb:b.drop n<;>rw[ha,hb]at ht<;>simp only[eK,reduceCtorEq,jO]at ht;subst ht
  rfl
 |f::fs,n,ks,t,h,ht=>by
  rw[w9]at h;split at h
  .rename_i hf;obtain⟨hname,hoff⟩:=hf;split at h
   .rename_i k r hk hr;cases h
    cases ha:a.drop n with
    |nil=>rw[ha]at ht;cases ht
    |cons x a'=>
     cases hb:b.drop n with
     |nil=>rw[ha,hb]at ht;cases ht
     |cons y b'=>
      rw[ha,hb,eK]at ht;split at ht
      .rename_i s u h1 h2;cases ht
       have hax:a[n]?=some x:=by have:(a.drop n)[0]?=some x:=by rw[ha];rfl
                                 simpa using this
       have hby:b[n]?=some y:=by have:(b.drop n)[0]?=some y:=by rw[hb];rfl
                                 simpa using this
       have ha1:a.drop (n+1)=a':=by have:=congrArg List.tail ha;simpa using this
       have hb1:b.drop (n+1)=b':=by have:=congrArg List.tail hb;simpa using this
       have ih:=w8 e hX hY fs (n+1) r u hr (by rw[ha1,hb1];exact h2);have px:=xL (w:=w) hk hX hax;have py:=xL (w:=w) hk hY hby;have rx:=hX.2 n x hax;have ry:=hY.2 n y hby;have heq:(Op.equalIn (e+1) f.type (X.getD n undef) (Y.getD n undef)).run P w=.ok s w:=by
        generalize X.getD n undef=vx at rx |-;generalize Y.getD n undef=vy at ry |-;unfold BF at hk;split at hk
        .rename_i hu;cases hk;cases x<;>cases y<;>simp only[ph,reduceCtorEq,jO]at h1;cases rx;cases ry;rw[run_equalIn_bool' w e f.type _ _ hu,h1]
        .rename_i q hu;cases hk;cases x<;>cases y<;>simp only[ph,reduceCtorEq]at h1;split at h1
         .rename_i hkk;subst hkk;cases h1;cases rx;cases ry;rw[run_equalIn_int w e f.type _ _ _ _ hu]
         .cases h1
        .rename_i hu;cases hk;cases x<;>cases y<;>simp only[ph,reduceCtorEq,jO]at h1;cases rx;cases ry;rw[run_equalIn_string w e f.type _ _ hu,<-beq_toListBytes,h1]
        .cases hk
       simp only[Op.eqFields];rw[if_pos hname,hoff];simp only[Sem.run_bind,px,py,dl,heq]
       cases s with
       |true=>simpa using ih
       |false=>simp
      .cases ht
   .cases h
  .cases h
def Ic (P:Program) (M:Nat->Prop) (w:World) (K:TypeId) (kv:Value) (k:PV):Prop:=
 ∃fs ks C a,P.underlying K=some (.struct fs)/\¬P.stoodInHeld K=true/\w9 P fs.toList 0=some ks/\kv=.agg C/\k=.agg a/\kt M w C a/\(eK ks a a).isSome=true
def sX (P:Program) (M:Nat->Prop) (w:World) (K:TypeId) (kv:Value) (k:PV):Prop:=(∃d,P.underlying K=some d/\yd d kv k)\/Ic P M w K kv k
theorem xu{K}{k}{M}{w}{kv}(h:vP P K k=true)(hr:RepP M w kv k):sX P M w K kv k:=by
 unfold vP at h;split at h
 .rename_i j a hk;cases hr;unfold pD at hk;split at hk
  .rename_i kk hu;exact .inl ⟨_,hu,.inl ⟨kk,j,a,rfl,rfl,rfl⟩⟩
  .cases hk
  .split at hk
   .cases hk
   .split at hk<;>cases hk
  .cases hk
 .rename_i s hk;cases hr;unfold pD at hk;split at hk
  .cases hk
  .rename_i hu;exact .inl ⟨_,hu,.inr ⟨s,rfl,rfl,rfl⟩⟩
  .split at hk
   .cases hk
   .split at hk<;>cases hk
  .cases hk
 .rename_i ks a hk;unfold pD at hk;split at hk
  .cases hk
  .cases hk
  .rename_i fs hu;split at hk
   .cases hk
   .rename_i hst;split at hk
    .rename_i ks' hrow;cases hk
     cases hr with
     |@agg C _ hn _ hrr=>exact .inr ⟨fs,ks,C,a,hu,hst,hrow,rfl,rfl,⟨hn,hrr⟩,h⟩
    .cases hk
  .cases hk
 .cases h
theorem El{K}{kv qv}{k q}{M}{w}{b}(hk:Ic P M w K kv k)(hq:RepP M w qv q)(h:j0 k q=some b):(Op.equal K kv qv).run P w=.ok b w:=by
 obtain⟨fs,ks,C,a,hu,hst,hrow,rfl,rfl,hC,hs⟩:=hk;cases q<;>first|(cases h;done)|skip
 rename_i a2;obtain⟨t,ht⟩:=j6.1 hs;have hks:=D0 ht
 cases hq with
 |@agg D _ hn _ hrr=>
  rw[j0,<-hks]at h;have hfo:P.fieldsOf K=fs:=by simp[Program.fieldsOf,hu]
  show (Op.equalIn (9999+1) K _ _).run P w=_;rw[run_equalIn_struct w 9999 K C D (by rw[hfo];exact hu) (by simpa using hst),hfo];exact w8 9998 hC ⟨hn,hrr⟩ fs.toList 0 ks b hrow (by simpa using h)
theorem OS{bb}{K}{kv}{k}{M}{w}(hk:Ic P M w K kv k):(Instr.checkKey bb 10000 K kv).run P w=.ok () w:=by
 obtain⟨fs,ks,C,a,hu,hst,hrow,rfl,rfl,hC,hs⟩:=hk;obtain⟨t,ht⟩:=j6.1 hs;rw[show (10000:Nat)=9999+1 from rfl,Instr.checkKey];simp only[Sem.run_bind,run_underlying hu,dl];rw[<-Array.forIn_toList]
 have:∀(L:List Field) (n:Nat) (ks:List CK) (t:Bool),w9 P L n=some ks->eK ks (a.drop n) (a.drop n)=some t ->
   (forIn (m:=Sem) L PUnit.unit λf _=>if f.name ≠ "_" then do
     let x<-part f.type C f.offset
     Instr.checkKey bb 9999 f.type x
     pure (ForInStep.yield PUnit.unit)
    else pure (ForInStep.yield PUnit.unit)).run P w=.ok PUnit.unit w:=by
  intro L
  induction L with
  |nil=>intro n ks t _ _;simp
  |cons f L ih=>
   intro n ks t h ht;rw[w9]at h;split at h
   .rename_i hf;obtain⟨hname,hoff⟩:=hf;split at h
    .rename_i k r hk hr;cases h
     cases ha:a.drop n with
     |nil=>rw[ha]at ht;cases ht
     |cons x a'=>
      rw[ha,eK]at ht;split at ht
      .rename_i s u h1 h2
       have hax:a[n]?=some x:=by have:(a.drop n)[0]?=some x:=by rw[ha];rfl
                                 simpa using this
       have ha1:a.drop (n+1)=a':=by have:=congrArg List.tail ha;simpa using this
       have ih':=ih (n+1) r u hr (by rw[ha1];exact h2);have px:=xL (w:=w) hk hC hax;have rx:=hC.2 n x hax;have hck:(Instr.checkKey bb 9999 f.type (C.getD n undef)).run P w=.ok () w:=by
        generalize C.getD n undef=vx at rx |-;rw[show (9999:Nat)=9998+1 from rfl,Instr.checkKey];unfold BF at hk;split at hk
        .rename_i hu';cases hk;cases x<;>simp only[ph,reduceCtorEq,jO]at h1;cases rx;simp only[Sem.run_bind,run_underlying hu',dl];rfl
        .rename_i q hu';cases hk;cases x<;>simp only[ph,reduceCtorEq]at h1;cases rx;simp only[Sem.run_bind,run_underlying hu',dl];rfl
        .rename_i hu';cases hk;cases x<;>simp only[ph,reduceCtorEq,jO]at h1;cases rx;simp only[Sem.run_bind,run_underlying hu',dl];rfl
        .cases hk
       simp only[List.forIn_cons,Sem.run_bind,hname,ne_eq,not_false_eq_true,if_true,hoff,dl,px,hck,Sem.run_pure];simpa using ih'
      .cases ht
    .cases h
   .cases h
 have hh:=this fs.toList 0 ks t hrow (by simpa using ht);simp at hh |-;rw[hh];rfl
theorem DZ:∀{ks} {a b},eK ks a b=some true->a.length=b.length/\∀(i:Nat) (x y),a[i]?=some x->b[i]?=some y->∃k,ph k x y=some true
 |[],[],[],_=>⟨rfl,λi x y h=>by simp at h⟩
 |[],[],_::_,h=>by cases h
 |[],_::_,_,h=>by cases h
 |_::_,[],_,h=>by cases h
 |_::_,_::_,[],h=>by cases h
 |k::ks,x::a,y::b,h=>by
  rw[eK]at h;split at h
  .rename_i s u h1 h2;have h:(s&&u)=true:=lq h;rw[cG]at h;obtain⟨rfl,rfl⟩:=h;obtain⟨hl,he⟩:=DZ h2;refine⟨by simp[hl],λi x' y' hx hy=>?_⟩
   cases i with
   |zero=>simp at hx hy;subst hx;subst hy;exact⟨k,h1⟩
   |succ i=>exact he i x' y' (by simpa using hx) (by simpa using hy)
  .cases h
theorem Od{M}{w}{vx vy}{x y}{k}{n}(h:ph k x y=some true)(hx:RepP M w vx x)(hy:RepP M w vy y):Instr.sameBits n vy vx=true:=by
 cases k<;>cases x<;>cases y<;>simp only[ph,reduceCtorEq,jO]at h
 .cases hx;cases hy;simp[Instr.sameBits,eq_of_beq h]
 .split at h
  .rename_i hk;subst hk;cases hx;cases hy;simp[Instr.sameBits,eq_of_beq (lq h)]
  .cases h
 .cases hx;cases hy;unfold Instr.sameBits;rename_i s t;cases s with|mk x=>cases t with|mk y=>rw[show x=y from eq_of_beq (show (x==y)=true from h)];exact(beq_self_eq_true y:(y==y)=true)
theorem qF{bb}{K}{kv}{k}{M}{w}(hk:sX P M w K kv k):(Instr.checkKey bb 10000 K kv).run P w=.ok () w:=by
 rcases hk with⟨d,hd,hk⟩|hk
 .exact Hb hk hd w
 .exact OS hk
def qd (P:Program) (K:TypeId) (kv:Value) (C:List MapEntry) (i:Nat) (q:Option (Nat×Value)) (w:World):Prop:=
 (∃d,P.underlying K=some d/\Instr.findNow d kv C i=some q)\/((∃fs,P.underlying K=some (.struct fs))/\(Instr.findAsking K kv C i).run P w=.ok q w)
theorem qd.run{K}{kv}{C}{q}{w}(h:qd P K kv C 0 q w):(Instr.findKey K kv C).run P w=.ok q w:=by
 rcases h with⟨d,hd,h⟩|⟨⟨fs,hu⟩,h⟩
 .unfold Instr.findKey;simp only[Sem.run_bind,run_underlying hd,dl];rw[h];rfl
 .rw[run_findKey_eq w (by rw[hu]) kv C];exact h
theorem vX{M}{K}{kv qv}{k q}{w}(hk:sX P M w K kv k)(hq:RepP M w qv q)(hb:j0 k q=some false){e}(he:e.key=qv){C}{i}{r}
  (hr:qd P K kv C (i+1) r w):qd P K kv (e::C) i r w:=by
 subst he;rcases hk with⟨d,hd,hk⟩|hk
 .rcases hr with⟨d',hd',hr⟩|⟨⟨fs,hu⟩,_⟩
  .rw[hd]at hd';cases hd';refine .inl ⟨d,hd,?_⟩;rw[Instr.findNow,FZ hk hq hb];exact hr
  .rw[hd]at hu;cases hu;rcases hk with⟨_,_,_,h,_⟩|⟨_,h,_⟩<;>cases h
 .have heq:=El hk hq hb;obtain⟨fs,ks,C0,a,hu,h1,h2,h3,h4,h5⟩:=hk;have hr2:(Instr.findAsking K kv C (i+1)).run P w=.ok r w:=by
   rcases hr with⟨d',hd',hr⟩|⟨_,hr⟩
   .rw[hu]at hd';cases hd'
    cases C with
    |nil=>cases hr;rfl
    |cons e2 C2=>subst h3;simp[Instr.findNow,Instr.sameNow]at hr
   .exact hr
  refine .inr ⟨⟨fs,hu⟩,?_⟩;rw[Instr.findAsking];simp only[Sem.run_bind,heq,dl];simpa using hr2
theorem DY{M}{K}{kv qv}{k q}{w}(hk:sX P M w K kv k)(hq:RepP M w qv q)(hb:j0 k q=some true){e}(he:e.key=qv){C}{i} :
  qd P K kv (e::C) i (some (i,e.val)) w:=by
 subst he;rcases hk with⟨d,hd,hk⟩|hk
 .refine .inl ⟨d,hd,?_⟩;rw[Instr.findNow,FZ hk hq hb]
 .have heq:=El hk hq hb;obtain⟨fs,ks,C0,a,hu,h1,h2,h3,h4,h5⟩:=hk;refine .inr ⟨⟨fs,hu⟩,?_⟩;rw[Instr.findAsking];simp only[Sem.run_bind,heq,dl];simp
theorem Ad{R}{M}{w}(hR:∀v q,R v (.p q)->RepP M w v q){K}{kv}{k}(hk:sX P M w K kv k) :
  ∀{C} {es} {r} (i:Nat),gZ R C es->lS k es=some r ->
   match r with|none=>qd P K kv C i none w|some v=>∃j u,qd P K kv C i (some (j,u)) w/\R u (.p v)
 |[],[],r,i,_,h=>by
  cases h;rcases hk with⟨d,hd,hk⟩|hk
  .exact .inl ⟨d,hd,rfl⟩
  .obtain⟨fs,ks,C,a,hu,_⟩:=hk
   exact .inl ⟨_,hu,rfl⟩
 |[],_::_,_,_,hm,_=>hm.elim
 |_::_,[],_,_,hm,_=>hm.elim
 |e::C,(q,v)::es,r,i,hm,h=>by
  rw[lS]at h;split at h
  .rename_i hq;cases h;exact⟨i,e.val,DY hk (hR _ _ hm.1) hq rfl,hm.2.1⟩
  .rename_i hq;have ih:=Ad hR hk (i+1) hm.2.2 h
   cases r with
   |none=>exact vX hk (hR _ _ hm.1) hq rfl ih
   |some v=>obtain⟨j,u,h1,h2⟩:=ih;exact⟨j,u,vX hk (hR _ _ hm.1) hq rfl h1,h2⟩
  .cases h
theorem Qr{K}{kv qv}{k q}{M}{w}(hk:sX P M w K kv k)(hq:RepP M w qv q)(h:j0 k q=some true):Instr.sameBits 10000 qv kv=true:=by
 rcases hk with⟨d,hd,hk⟩|hk
 .rw[PG hk hq h];exact F0 hk
 .obtain⟨fs,ks,C,a,hu,h1,h2,rfl,rfl,hC,hs⟩:=hk;cases q<;>first|(cases h;done)|skip
  rename_i b
  cases hq with
  |@agg D _ hn _ hrr=>
   obtain⟨hl,he⟩:=DZ h;have hs1:D.size=C.size:=by rw[hn,hC.1,hl]
   rw[show (10000:Nat)=9999+1 from rfl,Instr.sameBits,hs1,beq_self_eq_true,ng,lm];intro p hp;obtain⟨i,hi,rfl⟩:=List.getElem_of_mem hp;rw[List.getElem_zip];have hi':i<D.size/\i<C.size:=by simp at hi;omega
   have ha:i<a.length:=by rw[<-hC.1];exact hi'.2
   have hb:i<b.length:=by omega
   obtain⟨k,hk⟩:=he i a[i] b[i] (dc ha) (dc hb);have g1:=hC.2 i _ (dc ha);have g2:=hrr i _ (dc hb);have e1:C.getD i undef=C.toList[i]'(by simpa using hi'.2):=by simp[fQ,hi'.2]
   have e2:D.getD i undef=D.toList[i]'(by simpa using hi'.1):=by simp[fQ,hi'.1]
   rw[e1]at g1;rw[e2]at g2;exact Od hk g1 g2
theorem Cn{R}{M}{w}(hR:∀v q,R v (.p q)->RepP M w v q){K}{kv u}{k v}(hk:sX P M w K kv k)(hkr:R kv (.p k))(hu:R u (.p v)) :
  ∀{C} {es es'} (i),gZ R C es->oC k v es=some es' ->
   (∃j x e,qd P K kv C i (some (i+j,x)) w/\C[j]?=some e/\Instr.sameBits 10000 e.key kv=true/\gZ R (C.modify j λe=>{ e with key:=kv,val:=u }) es') \/
   (qd P K kv C i none w/\∀n,gZ R (C++[{ key:=kv,val:=u,born:=n }]) es')
 |[],[],es',i,_,h=>by
  cases h;refine .inr ⟨?_,λn=>⟨hkr,hu,trivial⟩⟩;rcases hk with⟨d,hd,hk⟩|hk
  .exact .inl ⟨d,hd,rfl⟩
  .obtain⟨fs,ks,C,a,hu,_⟩:=hk
   exact .inl ⟨_,hu,rfl⟩
 |[],_::_,_,_,hm,_=>hm.elim
 |_::_,[],_,_,hm,_=>hm.elim
 |e::C,(q,x)::es,es',i,hm,h=>by
  rw[oC]at h;split at h
  .rename_i hq;cases h;refine .inl ⟨0,e.val,e,DY hk (hR _ _ hm.1) hq rfl,rfl,Qr hk (hR _ _ hm.1) hq,?_⟩;exact⟨hkr,hu,hm.2.2⟩
  .rename_i hq;simp only[cg]at h;obtain⟨r,h1,rfl⟩:=h;rcases Cn hR hk hkr hu (i+1) hm.2.2 h1 with⟨j,y,e',h2,h3,h4,h5⟩|⟨h2,h3⟩
   .refine .inl ⟨j+1,y,e',?_,by simpa using h3,h4,?_⟩
    .have e0:i+(j+1)=i+1+j:=by omega
     rw[e0];exact vX hk (hR _ _ hm.1) hq rfl h2
    .rw[List.modify_succ_cons];exact⟨hm.1,hm.2.1,h5⟩
   .exact .inr ⟨vX hk (hR _ _ hm.1) hq rfl h2,λn=>⟨hm.1,hm.2.1,h3 n⟩⟩
  .cases h
theorem DI{T K E}(h:zS P T=some (K,E)):P.underlying T=some (.map K E):=by
 unfold zS at h;split at h
 .rename_i hu;cases h;exact hu
 .cases h
theorem Gv{S}(hS:HOk P M0 S){v}{id}{es}(hx:Rep M0 S v (.ref .mp id))(hid:S.h[id]?=some (.mp es)) :
  ∃bl C clk,v=.map (some bl)/\S.m.getD id none=some bl/\S.w.heap[bl]?=some (.map C clk)/\gZ (bO M0 S) C.toList es:=by
 obtain⟨_,hd|⟨_,bl,hm,hv⟩⟩:=hx
 .rw[hid]at hd;cases hd
 .obtain⟨bl',C,clk,hm',hb,hrel⟩:=hS.obj id _ hid;rw[hm]at hm';cases hm';exact⟨bl,C,clk,hv,hm,hb,hrel⟩
theorem Ny{S}(hS:HOk P M0 S){T}{v u}{x y}{ok}(hx:Rep M0 S v x)(hy:Rep M0 S u y):aM P M0 S (Instr.lookup T v u ok) (rX P T x y ok S.h):=by
 unfold rX;split
 .rename_i K E id k hT;have hu:=DI hT;split
  .rename_i es z hid hz;split
   .rename_i hko;have hyr:RepP (Avoid M0 S.m) S.w u k:=hy;have hk:=xu hko hyr;obtain⟨bl,C,clk,rfl,hm,hb,hrel⟩:=Gv hS hx hid;obtain⟨zv,hz1,hz2⟩:=kz hz S.w
    have hrun:∀q,qd P K u C.toList 0 q S.w->(Instr.lookup T (.map (some bl)) u ok).run P S.w=.ok (match q with
      |some (_,x)=>if ok then .tuple #[x,.bool true] else x
      |none=>if ok then .tuple #[zv,.bool false] else zv) S.w:=λq hq=>by
     unfold Instr.lookup;simp only[Sem.run_bind,run_underlying hu,dl,getObj,Sem.run,hb];simp[qF hk,hq.run]
     cases q with
     |none=>simp[hz1]
     |some x=>rfl
    have hRR:∀(v:Value) (q:PV),bO M0 S v (.p q)->RepP (Avoid M0 S.m) S.w v q:=λv q h=>h;split
    .rename_i q hg;obtain⟨j,x,h1,h2⟩:=Ad hRR hk 0 hrel hg;refine⟨S,_,rfl,hrun _ h1,Ev.refl _ _,hS,?_⟩;have h3:=hRR _ _ h2;cases ok
     .exact aH h3
     .refine aH (RepP.tuple rfl λi c hi=>?_)
      match i,hi with
      |0,hi=>cases hi;exact h3
      |1,hi=>cases hi;exact .bool _
    .rename_i hg;have h1:=Ad hRR hk 0 hrel hg;refine⟨S,_,rfl,hrun _ h1,Ev.refl _ _,hS,?_⟩;have h3:RepP (Avoid M0 S.m) S.w zv z:=gP hz2;cases ok
     .exact aH h3
     .refine aH (RepP.tuple rfl λi c hi=>?_)
      match i,hi with
      |0,hi=>cases hi;exact h3
      |1,hi=>cases hi;exact .bool _
    .exact trivial
   .exact trivial
  .exact trivial
 .exact trivial
theorem Lo{S}(hS:HOk P M0 S){v}{id}{f}(hx:Rep M0 S v (.ref .mp id))(hid:S.h[id]?=some (.memo f)) :
  pe f/\∃es,(∀p,p∈es->f p.1 p.2=true)/\∃bl C clk,v=.map (some bl)/\S.m.getD id none=some bl/\S.w.heap[bl]?=some (.map C clk)/\gZ (bO M0 S) C.toList es:=by
 obtain⟨_,hd|⟨_,bl,hm,hv⟩⟩:=hx
 .rw[hid]at hd;cases hd
 .obtain⟨hg,es,hf,bl',C,clk,hm',hb,hrel⟩:=hS.obj id _ hid;rw[hm]at hm';cases hm';exact⟨hg,es,hf,bl,C,clk,hv,hm,hb,hrel⟩
theorem Gz{f}(hg:pe f){k v}(hk:f k v=true):∀{es},(∀p,p∈es->f p.1 p.2=true)->∃es',oC k v es=some es'/\∀p,p∈es'->f p.1 p.2=true
 |[],_=>⟨[(k,v)],rfl,λp hp=>by rw[gh.1 hp];exact hk⟩
 |(q,u)::r,h=>by
  obtain⟨b,hb,_⟩:=hg k q v u hk (h (q,u) (by simp));rw[oC,hb]
  cases b with
  |true=>
   refine⟨_,rfl,λp hp=>?_⟩;rcases ci.1 hp with rfl|hp
   .exact hk
   .exact h p (by simp[hp])
  |false=>
   obtain⟨es',h1,h2⟩:=Gz hg hk (es:=r) λp hp=>h p (by simp[hp]);refine⟨(q,u)::es',by simp[h1],λp hp=>?_⟩;rcases ci.1 hp with rfl|hp
   .exact h _ (by simp)
   .exact h2 p hp
theorem GA{S}(hS:HOk P M0 S){T}{v u c}{x y z}(hx:Rep M0 S v x)(hy:Rep M0 S u y)(hz:Rep M0 S c z):BZ P M0 S (Instr.mapUpdate T v u c) (rM P T x y z S.h):=by
 unfold rM;split
 .rename_i K E id k q hT;have hu:=DI hT;split
  .rename_i es hid;split
   .rename_i hko;have hyr:RepP (Avoid M0 S.m) S.w u k:=hy;have hk:=xu hko hyr;obtain⟨bl,C,clk,rfl,hm,hb,hrel⟩:=Gv hS hx hid;have hRR:∀(v:Value) (q:PV),bO M0 S v (.p q)->RepP (Avoid M0 S.m) S.w v q:=λv q h=>h;split
    .rename_i es' hp;rcases Cn hRR hk (show bO M0 S u (.p k) from hyr) (show bO M0 S c (.p q) from hz) 0 hrel hp with⟨j,x,e,h1,h2,h3,h4⟩|⟨h1,h2⟩
     .rw[iq]at h1
      obtain⟨hk',hev⟩:=kf hS (o:=.mp es') (ob:=.map (C.modify j λe=>{ e with key:=u,val:=c }) clk) hm hid hb (nO hb) (by intro C T f;simp)
       (.inr (.inr ⟨by simp[AObj.tag],rfl,rfl⟩)) (λhe hx=>⟨bl,_,clk,rfl,hx,by rw[Array.toList_modify];exact h4.mono λv a=>he.keepS⟩)
      refine⟨_,rfl,?_,hev,hk'⟩;unfold Instr.mapUpdate;simp only[Sem.run_bind,run_underlying hu,dl,getObj,Sem.run,hb,qF hk];simp[Sem.run_bind,h1.run];have hC:C[j]?=some e:=by simpa using h2
      have hks:(Instr.keyThatStays e.key u).run P S.w=.ok u S.w:=by
       unfold Instr.keyThatStays;rw[if_pos h3];rfl
      rw[hC];simp only[jX,je,hks,dl];simp[setObj,Sem.run,World.putObj,hb]
     .obtain⟨hk',hev⟩:=kf hS (o:=.mp es') (ob:=.map (C.push { key:=u,val:=c,born:=clk }) (clk+1)) hm hid hb (nO hb) (by intro C T f;simp)
       (.inr (.inr ⟨by simp[AObj.tag],rfl,rfl⟩)) (λhe hx=>⟨bl,_,_,rfl,hx,by rw[Array.toList_push];exact(h2 clk).mono λv a=>he.keepS⟩)
      refine⟨_,rfl,?_,hev,hk'⟩;unfold Instr.mapUpdate;simp only[Sem.run_bind,run_underlying hu,dl,getObj,Sem.run,hb,qF hk];simp[h1.run];simp[setObj,Sem.run,World.putObj,hb]
    .exact trivial
   .exact trivial
  .rename_i f hid;split
   .rename_i hko;obtain⟨hko,hfk⟩:=hko;have hyr:RepP (Avoid M0 S.m) S.w u k:=hy;have hk:=xu hko hyr;obtain⟨hg,es,hf,bl,C,clk,rfl,hm,hb,hrel⟩:=Lo hS hx hid;obtain⟨es',hp,hf'⟩:=Gz hg hfk hf;have hRR:∀(v:Value) (q:PV),bO M0 S v (.p q)->RepP (Avoid M0 S.m) S.w v q:=λv q h=>h;rcases Cn hRR hk (show bO M0 S u (.p k) from hyr) (show bO M0 S c (.p q) from hz) 0 hrel hp with⟨j,x,e,h1,h2,h3,h4⟩|⟨h1,h2⟩
    .rw[iq]at h1
     obtain⟨hk',hev⟩:=kf hS (o:=.memo f) (ob:=.map (C.modify j λe=>{ e with key:=u,val:=c }) clk) hm hid hb (nO hb) (by intro C T f;simp)
      (.inr (.inr ⟨by simp[AObj.tag],rfl,rfl⟩)) (λhe hx=>⟨hg,es',hf',bl,_,clk,rfl,hx,by rw[Array.toList_modify];exact h4.mono λv a=>he.keepS⟩)
     refine⟨_,jP hid,?_,hev,hk'⟩;unfold Instr.mapUpdate;simp only[Sem.run_bind,run_underlying hu,dl,getObj,Sem.run,hb,qF hk];simp[Sem.run_bind,h1.run];have hC:C[j]?=some e:=by simpa using h2
     have hks:(Instr.keyThatStays e.key u).run P S.w=.ok u S.w:=by
      unfold Instr.keyThatStays;rw[if_pos h3];rfl
     rw[hC];simp only[jX,je,hks,dl];simp[setObj,Sem.run,World.putObj,hb]
    .obtain⟨hk',hev⟩:=kf hS (o:=.memo f) (ob:=.map (C.push { key:=u,val:=c,born:=clk }) (clk+1)) hm hid hb (nO hb) (by intro C T f;simp)
      (.inr (.inr ⟨by simp[AObj.tag],rfl,rfl⟩)) (λhe hx=>⟨hg,es',hf',bl,_,_,rfl,hx,by rw[Array.toList_push];exact(h2 clk).mono λv a=>he.keepS⟩)
     refine⟨_,jP hid,?_,hev,hk'⟩;unfold Instr.mapUpdate;simp only[Sem.run_bind,run_underlying hu,dl,getObj,Sem.run,hb,qF hk];simp[h1.run];simp[setObj,Sem.run,World.putObj,hb]
   .exact trivial
  .exact trivial
 .exact trivial
theorem Et{S}(hS:HOk P M0 S){T A}{ok}{v}{x}(hx:Rep M0 S v x):aM P M0 S (Instr.typeAssert v T A ok) (lj P A ok x S.h):=by
 unfold lj;split
 .rename_i t q hA;split
  .rename_i ht;subst ht;have h1:RepP (Avoid M0 S.m) S.w v (.iface t q):=hx
   cases h1 with
   |@iface _ v' _ h2=>
    unfold gB at hA;split at hA
    .cases hA
    .rename_i d hd hu;refine⟨S,if ok then .tuple #[v',.bool true] else v',rfl,?_,Ev.refl _ _,hS,?_⟩
     .unfold Instr.typeAssert;simp only[Sem.run_bind,run_underlying hu,dl];cases d<;>first|(cases ok<;>simp;done)|exact absurd rfl (hd _)
     .cases ok
      .exact aH h2
      .refine aH (RepP.tuple rfl λi c hi=>?_)
       match i,hi with
       |0,hi=>cases hi;exact h2
       |1,hi=>cases hi;exact .bool _
    .cases hA
  .rename_i ht;split
   .rename_i hok;subst hok;split
    .rename_i z hz;obtain⟨zv,hz1,hz2⟩:=kz hz S.w;have h1:RepP (Avoid M0 S.m) S.w v (.iface t q):=hx
     cases h1 with
     |@iface _ v' _ h2=>
      unfold gB at hA;split at hA
      .cases hA
      .rename_i d hd hu;refine⟨S,.tuple #[zv,.bool false],rfl,?_,Ev.refl _ _,hS,?_⟩
       .unfold Instr.typeAssert;simp only[Sem.run_bind,run_underlying hu,dl];cases d<;>first|(simp[ht,hz1];done)|exact absurd rfl (hd _)
       .refine aH (RepP.tuple rfl λi c hi=>?_)
        match i,hi with
        |0,hi=>cases hi;exact gP hz2
        |1,hi=>cases hi;exact .bool _
      .cases hA
    .exact trivial
   .exact trivial
 .exact trivial
end Abs
end Go.Proofs.YtoapoaoelpcniaaGreatDoor
