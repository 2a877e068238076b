/- LAWS: objects that are no rows are replaced: loops over functions, walks over texts. -/
import Derived.Test.YtmndpldajflenaaGreatDoorAbsOpsE
import Derived.RangeFuncRecord
import Derived.WideKeyRuns
set_option linter.all false
namespace Go.Proofs.YtmndpldajflenaaGreatDoor
namespace Abs
variable {P:Program} {M0:Nat->Prop}
theorem cu{m:List (Option Nat)}{id b}(h:m.getD id none=some b):m[id]?=some (some b):=by
 rw[cr]at h
 cases a:m[id]? with
 |none=>simp[a]at h
 |some z=>simp[a]at h;rw[h]
theorem Dn{w:World}{bl}{x ob}(hx:w.heap[bl]?=some x)(i:w.shape? bl=none)(e:∀C T f,ob≠.cells C T f)(c):(w.putObj bl ob).shape? c=w.shape? c:=by
 by_cases a:c=bl
 .subst a;rw[i];unfold World.shape?;rw[World.putObj_heap_same (tQ.1 hx).1];cases ob<;>first|rfl|exact absurd rfl (e _ _ _)
 .unfold World.shape?;rw[World.putObj_heap_other a]
theorem jx{S}(u:HOk P M0 S){id bl}{G o}{x ob}(q:S.m.getD id none=some bl)(I:S.h[id]?=some G)(hx:S.w.heap[bl]?=some x)
  (M:S.w.shape? bl=none) (L:∀C T f,ob≠.cells C T f) (F:ObjEv (some bl) G (some bl) o)
  (D:Ev S.h.length S ⟨S.m,S.h.set id o,S.w.putObj bl ob⟩->(S.w.putObj bl ob).heap[bl]?=some ob->ObjOk P M0 ⟨S.m,S.h.set id o,S.w.putObj bl ob⟩ (some bl) o) :
  HOk P M0 ⟨S.m,S.h.set id o,S.w.putObj bl ob⟩/\Ev S.h.length S ⟨S.m,S.h.set id o,S.w.putObj bl ob⟩:=by
 have E:=(tQ.1 hx).1;have l:=(aB.1 I).1;have A:Own S.m bl:=aG (cu q)
 have v:Ev S.h.length S ⟨S.m,S.h.set id o,S.w.putObj bl ob⟩:=
  {fr:=⟨rfl,rfl,rfl,by simp[World.putObj],λc _ J=>World.putObj_heap_other (λe=>J (e▸A)),λc _=>Dn hx M L c⟩
   sub:=λc h=>.inl h
   obj:=λy z N j=>by
    by_cases i:y=id
    .subst i;rw[I]at j;cases j;refine⟨o,by simp[l],?_⟩;show ObjEv (S.m.getD y none) _ (S.m.getD y none) _;rw[q];exact F
    .exact⟨z,by simp[db (Ne.symm i),j],ObjEv.refl _ _⟩ }
 refine⟨?_,v⟩
 exact
  {len:=by simpa using u.len
   lt:=λc h=>gk (u.lt c h) v.fr.size
   m0:=λc h=>⟨gk (u.m0 c h).1 v.fr.size,(u.m0 c h).2⟩
   inj:=u.inj
   obj:=λy z j=>by
    by_cases i:y=id
    .subst i;have a:(S.h.set y o)[y]?=some z:=j;rw[fZ l]at a;cases a;show ObjOk P M0 _ (S.m.getD y none) _;rw[q];exact D v (World.putObj_heap_same E)
    .have a:(S.h.set id o)[y]?=some z:=j;rw[db (Ne.symm i)]at a;refine(u.obj y z a).keep v λc K=>World.putObj_heap_other λe=>i ?_;subst e;exact u.inj y id c (cu K) (cu q)
   gl:=v.glob u.gl }
theorem tg{w:World}{bl}{r}(h:w.heap[bl]?=some (.loop r)):w.shape? bl=none:=by
 unfold World.shape?;rw[h]
theorem Av{w:World}{bl}{a}(h:w.heap[bl]?=some (.deferred a)):w.shape? bl=none:=by
 unfold World.shape?;rw[h]
theorem IN{w:World}{bl pos}{s}(h:w.heap[bl]?=some (.stringIter s pos)):w.shape? bl=none:=by
 unfold World.shape?;rw[h]
theorem MQ{S}(i:HOk P M0 S){T}{v}{x}(hx:Rep M0 S v x):aF P M0 S (Instr.range T v) (zA P T x S.h):=by
 unfold zA;split
 .rename_i s;split
  .rename_i e;have l:RepP (Avoid M0 S.m) S.w v (.str s):=hx;cases l;have j:P.underlying T=some .string:=by
    unfold eg at e;split at e
    .assumption
    .cases e
   have a:=run_range_string (P:=P) S.w T s j;refine⟨S.new (.strIter s 0) (.stringIter s 0),_,rfl,a,Ev.new _ M0 i (ba _) _ _,i.new ⟨_,rfl,bw _ _⟩,?_⟩;refine⟨⟨S.w.heap.size,rfl⟩,.inr ⟨⟨.strIter s 0,by simp[Mem.new],rfl⟩,S.w.heap.size,?_,rfl⟩⟩;have:=i.len;simp[Mem.new,<-this]
  .exact trivial
 .exact trivial
theorem PA{S}(q:HOk P M0 S){b}{T}{v}{x}(hx:Rep M0 S v x):aF P M0 S (Instr.next v b T) (CV b x S.h):=by
 unfold CV;split
 .rename_i id;split
  .rename_i s pos a;obtain⟨_,A|⟨_,bl,z,D⟩⟩:=hx
   .rw[a]at A;cases A
   .have u:v=.pointer (some ⟨bl,0,none⟩):=D;subst u;obtain⟨G,j,e⟩:=q.obj id _ a;rw[z]at j;cases j;have F:=(tQ.1 e).1;split
    .rename_i l
     obtain⟨E,y⟩:=jx q (o:=.strIter s (pos+(Utf8.decode s pos).2)) (ob:=.stringIter s (pos+(Utf8.decode s pos).2)) z a e (IN e) (by intro C T f;simp)
      (.inr (.inr ⟨by simp[AObj.tag],rfl,rfl⟩)) (λ_ hx=>⟨bl,rfl,hx⟩)
     refine⟨_,.tuple #[.bool true,.int .i64 pos,.int .i32 (Utf8.decode s pos).1],rfl,?_,y,E,?_⟩
     .simp only[Instr.next,getObj,setObj,Sem.run_bind,Sem.run,e,Result.andThen,l,if_true];simp[goInt,World.putObj]
     .refine RepP.tuple rfl λi c hi=>?_
      match i,hi with
      |0,hi=>cases hi;exact .bool _
      |1,hi=>cases hi;exact .int _ _
      |2,hi=>cases hi;exact .int _ _
    .rename_i l;refine⟨S,.tuple #[.bool false],rfl,?_,Ev.refl _ _,q,?_⟩
     .simp[Instr.next,getObj,Sem.run,e,l]
     .refine RepP.tuple rfl λi c hi=>?_
      match i,hi with
      |0,hi=>cases hi;exact .bool _
  .exact trivial
 .exact trivial
theorem mr{w:World}{bl a}{C}(h:w.heap[bl]?=some (.map C a)):w.shape? bl=none:=by
 unfold World.shape?;rw[h]
theorem ID{S}(a:HOk P M0 S){T}:aF P M0 S (Instr.makeMap T none) (.val (.ref .mp S.h.length) (S.h++[.mp []])):=by
 refine⟨S.new (.mp []) (.map #[] 0),.map (some S.w.heap.size),rfl,rfl,Ev.new _ M0 a (ba _) _ _,a.new ⟨_,#[],0,rfl,bw _ _,trivial⟩,?_⟩;refine⟨⟨S.w.heap.size,rfl⟩,.inr ⟨⟨.mp [],by simp[Mem.new],rfl⟩,S.w.heap.size,?_,rfl⟩⟩;have:=a.len;simp[Mem.new,<-this]
def vm (d:TypeDesc) (kv:Value) (k:PV):Prop:=(∃kk j a,d=.int kk/\kv=.int j a/\k=.int j a)\/∃s,d=.string/\kv=.string s/\k=.str s
theorem Dp{d}{i e}{k q}{M}{w}{b}(o:vm d i k)(l:RepP M w e q)(h:jn k q=some b):Instr.sameNow d i e=some b:=by
 rcases o with⟨u,j,a,rfl,rfl,rfl⟩|⟨s,rfl,rfl,rfl⟩
 .cases q<;>first|(cases h;done)|skip
  cases l;exact h
 .cases q<;>first|(cases h;done)|skip
  cases l;exact h
theorem MJ{d}{kv qv}{k q}{M}{w}(hk:vm d kv k)(hq:RepP M w qv q)(h:jn k q=some true):qv=kv:=by
 rcases hk with⟨kk,j,a,rfl,rfl,rfl⟩|⟨s,rfl,rfl,rfl⟩
 .cases q<;>first|(cases h;done)|skip
  cases hq;simp only[jn]at h;split at h
  .rename_i e;subst e;rw[eq_of_beq (lS h)]
  .cases h
 .cases q<;>first|(cases h;done)|skip
  cases hq;rename_i s';have h':(s==s')=true:=lS h;cases s with|mk x=>cases s' with|mk y=>rw[show x=y from eq_of_beq (show (x==y)=true from h')]
theorem EG{b}{K}{d}{e}{k}(l:vm d e k)(i:P.underlying K=some d)(w):(Instr.checkKey b 10000 K e).run P w=.ok () w:=by
 unfold Instr.checkKey;rcases l with⟨o,j,a,rfl,rfl,rfl⟩|⟨s,rfl,rfl,rfl⟩
 .simp only[Sem.run_bind,run_underlying i,aS];rfl
 .simp only[Sem.run_bind,run_underlying i,aS];rfl
theorem Dq{d}{kv}{k}(hk:vm d kv k):Instr.sameBits 10000 kv kv=true:=by
 rcases hk with⟨kk,j,a,rfl,rfl,rfl⟩|⟨s,rfl,rfl,rfl⟩
 .simp[Instr.sameBits]
 .unfold Instr.sameBits;cases s with|mk x=>exact(beq_self_eq_true x:(x==x)=true)
theorem Nx{k}{x}{s}(h:pq k x x=some s):k=EF x:=by
 cases k<;>cases x<;>simp_all [pq,EF]
theorem BN:∀{e} {a} {t},dN e a a=some t->e=a.map EF
 |[],[],_,_=>rfl
 |[],_::_,_,h=>by cases h
 |_::_,[],_,h=>by cases h
 |k::e,x::a,t,h=>by
  rw[dN]at h;split at h
  .rename_i s u j i;rw[bK,<-Nx j,<-BN i]
  .cases h
theorem wC{bb:Bool}{M:Nat->Prop}{w:World}{d:Nat}{T:TypeId}{k:CK}(j:bL P T=some 1)(l:bn P T=some false)
  (e:∀(X:Array Value) (a:List PV),fY M w X a->(dN [k] a a).isSome=true->(Instr.checkKey bb d T (dq P T X)).run P w=.ok () w) {X:Array Value} {a:List PV} (o:fY M w X a) :
  ∀(m i:Nat),(dN (List.replicate m k) (a.drop i) (a.drop i)).isSome=true ->
   (forIn (m:=Sem) (List.range' i m) PUnit.unit λi _=>do
     let n<-sizeOf T
     let x<-part T X (i*n)
     Instr.checkKey bb d T x
     pure (ForInStep.yield PUnit.unit)).run P w=.ok PUnit.unit w
 |0,_,_=>rfl
 |m+1,i,h=>by
  obtain⟨t,A⟩:=fp.1 h;obtain⟨s,u,C,q,rfl⟩:=lN (k1:=[k]) (k2:=List.replicate m k) (by simpa[vt]using A);rw[qe]at q;have v:=(eZ A).1;simp at v;have F:=o.1;have z:=hY o i 1 (by omega);have D:=jw (n:=i) (X:=X) j (by rw[l];rfl) (by omega) (λ_=>by omega) w;have y:=e _ _ z (by rw[show [k].length=1 from rfl]at C;rw[C];rfl);have E:=wC j l e o m (i+1) (by rw[show i+[k].length=i+1 from rfl]at q;rw[q];rfl);rw[List.range'_succ];simp only[List.forIn_cons,Sem.run_bind,be j,aS,Nat.mul_one,D,y,Sem.run_pure];exact E
theorem ow{bb:Bool}{M:Nat->Prop}{w:World}:∀(d e:Nat),d<=e->∀(T:TypeId) (v:List CK),gw P d T=some v->(bn P T).isSome=true->∀(X:Array Value) (a:List PV),fY M w X a->(dN v a a).isSome=true ->
   (Instr.checkKey bb e T (dq P T X)).run P w=.ok () w
 |0,_,_,T,v,h,_,_,_,_,_=>by simp[gw]at h
 |d+1,0,a1,_,_,_,_,_,_,_,_=>by omega
 |d+1,e+1,a1,T,v,h,y,X,a,U,N=>by
  obtain⟨t,G⟩:=fp.1 N;have hl:=eZ G;have one:∀(k:CK),v=[k]->∃x,a=[x]/\(∃s,pq k x x=some s)/\RepP M w (X.getD 0 undef) x:=by
   intro k V;subst V;obtain⟨x,rfl⟩:=xT.1 hl.1;refine⟨x,rfl,?_,U.2 0 x rfl⟩;simp only[dN]at G;split at G
   .rename_i s u A q;exact⟨_,A⟩
   .cases G
  rw[Instr.checkKey];simp only[gw]at h;split at h
  .rename_i l;cases h;obtain⟨x,rfl,⟨s,A⟩,q⟩:=one _ rfl;have z:dq P T X=X.getD 0 undef:=by simp[dq,bn,l]
   rw[z];generalize X.getD 0 undef=vx at q |-;cases x<;>simp only[pq,reduceCtorEq,iH]at A;cases q;simp only[Sem.run_bind,run_underlying l,aS];rfl
  .rename_i k l;cases h;obtain⟨x,rfl,⟨s,A⟩,q⟩:=one _ rfl;have z:dq P T X=X.getD 0 undef:=by simp[dq,bn,l]
   rw[z];generalize X.getD 0 undef=vx at q |-;cases x<;>simp only[pq,reduceCtorEq]at A;cases q;simp only[Sem.run_bind,run_underlying l,aS];rfl
  .rename_i l;cases h;obtain⟨x,rfl,⟨s,A⟩,q⟩:=one _ rfl;have z:dq P T X=X.getD 0 undef:=by simp[dq,bn,l]
   rw[z];generalize X.getD 0 undef=vx at q |-;cases x<;>simp only[pq,reduceCtorEq,iH]at A;cases q;simp only[Sem.run_bind,run_underlying l,aS];rfl
  .rename_i fs l;split at h
   .cases h
   .rename_i a3;have z:dq P T X=.agg X:=by simp[dq,bn,l]
    rw[z];simp only[Sem.run_bind,run_underlying l,aS];rw[<-Array.forIn_toList]
    have Y:∀(L:List Field) (n:Nat) (v:List CK),qx P (gw P d) L n=some v->(dN v (a.drop n) (a.drop n)).isSome=true ->
      (forIn (m:=Sem) L PUnit.unit λf _=>if f.name ≠ "_" then do
        let x<-part f.type X f.offset
        Instr.checkKey bb e f.type x
        pure (ForInStep.yield PUnit.unit)
       else pure (ForInStep.yield PUnit.unit)).run P w=.ok PUnit.unit w:=by
     intro L
     induction L with
     |nil=>intro n v _ _;simp
     |cons f L ih=>
      intro n v h N;simp only[qx]at h;split at h
      .rename_i j;obtain⟨j,D⟩:=j;split at h
       .rename_i k1 I;split at h
        .rename_i o;obtain⟨o,y⟩:=o;split at h
         .rename_i r hr;cases h;obtain⟨t,G⟩:=fp.1 N;obtain⟨s,u,A,q,rfl⟩:=lN G;rw[qe]at q;have a0:=(eZ G).1;have hp:=By I;have a4:=U.1;have O:=ih (n+k1.length) r hr (by rw[q];rfl);by_cases J:k1.length=0
          .have E:bn P f.type=some true:=by
            obtain⟨g,hg⟩:=fp.1 y
            cases g with
            |true=>exact hg
            |false=>exact absurd J (hp hg)
           have Z:(part f.type X n).run P w=.ok (dq P f.type #[]) w:=by
            have he:X.extract n (n+0)=#[]:=C8.1 (by simp;omega);simp only[part,Sem.run_bind,jN E,aS,if_true,be o,J,Sem.run_pure,he,dq,E]
           have S:k1=[]:=sK.1 J;subst S;have C:fY M w #[] []:=⟨rfl,λi c hi=>by simp at hi⟩
           have K:=ow (bb:=bb) d e (by omega) f.type [] I y #[] [] C rfl;simp only[List.forIn_cons,Sem.run_bind,j,ne_eq,not_false_eq_true,if_true,D,aS,Z,K,Sem.run_pure];simpa using O
          .have R:n+k1.length<=a.length:=by simp at a0;omega
           have a2:=hY U n k1.length R;have K:=ow (bb:=bb) d e (by omega) f.type k1 I y _ _ a2 (by rw[A];rfl);have px:=jw (n:=n) (X:=X) o y (by omega) hp w;simp only[List.forIn_cons,Sem.run_bind,j,ne_eq,not_false_eq_true,if_true,D,aS,px,K,Sem.run_pure];simpa using O
         .cases h
        .cases h
       .cases h
      .cases h
    have hh:=Y fs.toList 0 v h (by simpa using N);simp at hh |-;rw[hh];rfl
  .rename_i n el l;split at h
   .rename_i k V;split at h
    .rename_i hc;obtain⟨o,F⟩:=hc;cases h;have z:dq P T X=.agg X:=by simp[dq,bn,l]
     rw[z];simp only[Sem.run_bind,run_underlying l,aS];have hh:=wC (bb:=bb) (d:=e) o F (λX' a' h4 h5=>ow d e (by omega) el [k] V (by rw[F];rfl) X' a' h4 h5) U n 0 (by simpa using N);simp only[Std.Legacy.Range.forIn_eq_forIn_range',Std.Legacy.Range.size,Nat.sub_zero,Nat.add_one_sub_one,Nat.div_one];simp at hh |-;rw[hh];rfl
    .cases h
   .cases h
  .cases h
def FD (P:Program) (M:Nat->Prop) (w:World) (K:TypeId) (kv:Value) (k:PV):Prop:=
 ∃fs ks C a,P.underlying K=some (.struct fs)/\gw P 20 K=some ks/\kv=.agg C/\k=.agg a/\fY M w C a/\(dN ks a a).isSome=true
def qX (P:Program) (M:Nat->Prop) (w:World) (K:TypeId) (kv:Value) (k:PV):Prop:=(∃d,P.underlying K=some d/\vm d kv k)\/FD P M w K kv k
theorem uJ{K}{k}{M}{w}{u}(h:tj P K k=true)(o:RepP M w u k):qX P M w K u k:=by
 unfold tj at h;split at h
 .rename_i j a e;cases o;unfold xm at e;split at e
  .rename_i y i;exact .inl ⟨_,i,.inl ⟨y,j,a,rfl,rfl,rfl⟩⟩
  .cases e
  .split at e<;>cases e
  .cases e
 .rename_i s e;cases o;unfold xm at e;split at e
  .cases e
  .rename_i i;exact .inl ⟨_,i,.inr ⟨s,rfl,rfl,rfl⟩⟩
  .split at e<;>cases e
  .cases e
 .rename_i v a e;unfold xm at e;split at e
  .cases e
  .cases e
  .rename_i A i;split at e
   .rename_i D l;cases e
    cases o with
    |@agg C _ z _ q=>exact .inr ⟨A,v,C,a,i,l,rfl,rfl,⟨z,q⟩,h⟩
   .cases e
  .cases e
 .cases h
theorem B8{K}{o l}{k q}{M}{w}{b}(G:FD P M w K o k)(E:RepP M w l q)(h:jn k q=some b):(Op.equal K o l).run P w=.ok b w:=by
 obtain⟨L,y,C,a,v,e,rfl,rfl,I,A⟩:=G;cases q<;>first|(cases h;done)|skip
 rename_i J;obtain⟨t,z⟩:=fp.1 A;have j:=BN z;have u:∀Z:Array Value,dq P K Z=.agg Z:=λZ=>by simp[dq,bn,v]
 cases E with
 |@agg D _ F _ i=>
  rw[jn,<-j]at h;have:=th 20 10000 (by decide) K y e (by simp[bn,v]) C D a J b I ⟨F,i⟩ h;rw[u,u]at this;exact this
theorem L5{bb}{K}{i}{k}{M}{w}(u:FD P M w K i k):(Instr.checkKey bb 10000 K i).run P w=.ok () w:=by
 obtain⟨y,l,C,a,j,e,rfl,rfl,v,q⟩:=u;have o:∀Z:Array Value,dq P K Z=.agg Z:=λZ=>by simp[dq,bn,j]
 have:=ow (bb:=bb) 20 10000 (by decide) K l e (by simp[bn,j]) C a v q;rw[o]at this;exact this
theorem BM:∀{j} {a b},dN j a b=some true->a.length=b.length/\∀(i:Nat) (x y),a[i]?=some x->b[i]?=some y->∃k,pq k x y=some true
 |[],[],[],_=>⟨rfl,λi x y h=>by simp at h⟩
 |[],[],_::_,h=>by cases h
 |[],_::_,_,h=>by cases h
 |_::_,[],_,h=>by cases h
 |_::_,_::_,[],h=>by cases h
 |k::j,x::a,y::b,h=>by
  rw[dN]at h;split at h
  .rename_i s u z v;have h:(s&&u)=true:=lS h;rw[dQ]at h;obtain⟨rfl,rfl⟩:=h;obtain⟨o,q⟩:=BM v;refine⟨by simp[o],λi x' l hx e=>?_⟩
   cases i with
   |zero=>simp at hx e;subst hx;subst e;exact⟨k,z⟩
   |succ i=>exact q i x' l (by simpa using hx) (by simpa using e)
  .cases h
theorem Ly{M}{w}{vx vy}{x y}{k}{n}(h:pq k x y=some true)(hx:RepP M w vx x)(hy:RepP M w vy y):Instr.sameBits n vy vx=true:=by
 cases k<;>cases x<;>cases y<;>simp only[pq,reduceCtorEq,iH]at h
 .cases hx;cases hy;simp[Instr.sameBits,eq_of_beq h]
 .split at h
  .rename_i hk;subst hk;cases hx;cases hy;simp[Instr.sameBits,eq_of_beq (lS h)]
  .cases h
 .cases hx;cases hy;unfold Instr.sameBits;rename_i s t;cases s with|mk x=>cases t with|mk y=>rw[show x=y from eq_of_beq (show (x==y)=true from h)];exact(beq_self_eq_true y:(y==y)=true)
theorem oY{bb}{K}{e}{k}{M}{w}(a:qX P M w K e k):(Instr.checkKey bb 10000 K e).run P w=.ok () w:=by
 rcases a with⟨d,i,a⟩|a
 .exact EG a i w
 .exact L5 a
def oE (P:Program) (K:TypeId) (kv:Value) (C:List MapEntry) (i:Nat) (q:Option (Nat×Value)) (w:World):Prop:=
 (∃d,P.underlying K=some d/\Instr.findNow d kv C i=some q)\/((∃fs,P.underlying K=some (.struct fs))/\(Instr.findAsking K kv C i).run P w=.ok q w)
theorem oE.run{K}{a}{C}{q}{w}(h:oE P K a C 0 q w):(Instr.findKey K a C).run P w=.ok q w:=by
 rcases h with⟨d,i,h⟩|⟨⟨j,e⟩,h⟩
 .unfold Instr.findKey;simp only[Sem.run_bind,run_underlying i,aS];rw[h];rfl
 .rw[run_findKey_eq w (by rw[e]) a C];exact h
theorem tA{M}{K}{v D}{k q}{w}(o:qX P M w K v k)(E:RepP M w D q)(F:jn k q=some false){e}(I:e.key=D){C}{i}{r}
  (l:oE P K v C (i+1) r w):oE P K v (e::C) i r w:=by
 subst I;rcases o with⟨d,y,o⟩|o
 .rcases l with⟨L,j,l⟩|⟨⟨G,u⟩,_⟩
  .rw[y]at j;cases j;refine .inl ⟨d,y,?_⟩;rw[Instr.findNow,Dp o E F];exact l
  .rw[y]at u;cases u;rcases o with⟨_,_,_,h,_⟩|⟨_,h,_⟩<;>cases h
 .have A:=B8 o E F;obtain⟨G,N,V,a,u,S,J,R,O⟩:=o;have z:(Instr.findAsking K v C (i+1)).run P w=.ok r w:=by
   rcases l with⟨L,j,l⟩|⟨_,l⟩
   .rw[u]at j;cases j
    cases C with
    |nil=>cases l;rfl
    |cons T U=>subst J;simp[Instr.findNow,Instr.sameNow]at l
   .exact l
  refine .inr ⟨⟨G,u⟩,?_⟩;rw[Instr.findAsking];simp only[Sem.run_bind,A,aS];simpa using z
theorem BL{M}{K}{u o}{k q}{w}(j:qX P M w K u k)(v:RepP M w o q)(y:jn k q=some true){e}(A:e.key=o){C}{i} :
  oE P K u (e::C) i (some (i,e.val)) w:=by
 subst A;rcases j with⟨d,D,j⟩|j
 .refine .inl ⟨d,D,?_⟩;rw[Instr.findNow,Dp j v y]
 .have l:=B8 j v y;obtain⟨E,F,N,a,z,L,J,I,G⟩:=j;refine .inr ⟨⟨E,z⟩,?_⟩;rw[Instr.findAsking];simp only[Sem.run_bind,l,aS];simp
theorem xw{R}{M}{w}(z:∀v q,R v (.p q)->RepP M w v q){K}{A}{k}(o:qX P M w K A k) :
  ∀{C} {es} {r} (i:Nat),gE R C es->kR k es=some r ->
   match r with|none=>oE P K A C i none w|some v=>∃j u,oE P K A C i (some (j,u)) w/\R u (.p v)
 |[],[],r,i,_,h=>by
  cases h;rcases o with⟨d,F,o⟩|o
  .exact .inl ⟨d,F,rfl⟩
  .obtain⟨L,J,C,a,E,_⟩:=o
   exact .inl ⟨_,E,rfl⟩
 |[],_::_,_,_,l,_=>l.elim
 |_::_,[],_,_,l,_=>l.elim
 |e::C,(q,v)::es,r,i,l,h=>by
  rw[kR]at h;split at h
  .rename_i y;cases h;exact⟨i,e.val,BL o (z _ _ l.1) y rfl,l.2.1⟩
  .rename_i y;have D:=xw z o (i+1) l.2.2 h
   cases r with
   |none=>exact tA o (z _ _ l.1) y rfl D
   |some v=>obtain⟨j,u,I,G⟩:=D;exact⟨j,u,tA o (z _ _ l.1) y rfl I,G⟩
  .cases h
theorem Ns{K}{y v}{k q}{M}{w}(j:qX P M w K y k)(z:RepP M w v q)(h:jn k q=some true):Instr.sameBits 10000 v y=true:=by
 rcases j with⟨d,V,j⟩|j
 .rw[MJ j z h];exact Dq j
 .obtain⟨Y,S,C,a,T,X,rfl,rfl,l,U⟩:=j;cases q<;>first|(cases h;done)|skip
  rename_i b
  cases z with
  |@agg D _ J _ u=>
   obtain⟨L,N⟩:=BM h;have o:D.size=C.size:=by rw[J,l.1,L]
   rw[show (10000:Nat)=9999+1 from rfl,Instr.sameBits,o,beq_self_eq_true,zS,kC];intro p I;obtain⟨i,hi,rfl⟩:=List.getElem_of_mem I;rw[List.getElem_zip];have e:i<D.size/\i<C.size:=by simp at hi;omega
   have E:i<a.length:=by rw[<-l.1];exact e.2
   have A:i<b.length:=by omega
   obtain⟨k,j⟩:=N i a[i] b[i] (bO E) (bO A);have G:=l.2 i _ (bO E);have F:=u i _ (bO A);have R:C.getD i undef=C.toList[i]'(by simpa using e.2):=by simp[ji,e.2]
   have O:D.getD i undef=D.toList[i]'(by simpa using e.1):=by simp[ji,e.1]
   rw[R]at G;rw[O]at F;exact Ly j G F
theorem Aa{R}{M}{w}(G:∀v q,R v (.p q)->RepP M w v q){K}{A u}{k v}(z:qX P M w K A k)(D:R A (.p k))(E:R u (.p v)) :
  ∀{C} {es o} (i),gE R C es->mU k v es=some o ->
   (∃j x e,oE P K A C i (some (i+j,x)) w/\C[j]?=some e/\Instr.sameBits 10000 e.key A=true/\gE R (C.modify j λe=>{ e with key:=A,val:=u }) o) \/
   (oE P K A C i none w/\∀n,gE R (C++[{ key:=A,val:=u,born:=n }]) o)
 |[],[],o,i,_,h=>by
  cases h;refine .inr ⟨?_,λn=>⟨D,E,trivial⟩⟩;rcases z with⟨d,L,z⟩|z
  .exact .inl ⟨d,L,rfl⟩
  .obtain⟨X,V,C,a,E,_⟩:=z
   exact .inl ⟨_,E,rfl⟩
 |[],_::_,_,_,l,_=>l.elim
 |_::_,[],_,_,l,_=>l.elim
 |e::C,(q,x)::es,o,i,l,h=>by
  rw[mU]at h;split at h
  .rename_i F;cases h;refine .inl ⟨0,e.val,e,BL z (G _ _ l.1) F rfl,rfl,Ns z (G _ _ l.1) F,?_⟩;exact⟨D,E,l.2.2⟩
  .rename_i F;simp only[bC]at h;obtain⟨r,S,rfl⟩:=h;rcases Aa G z D E (i+1) l.2.2 S with⟨j,y,U,J,I,O,N⟩|⟨J,I⟩
   .refine .inl ⟨j+1,y,U,?_,by simpa using I,O,?_⟩
    .have T:i+(j+1)=i+1+j:=by omega
     rw[T];exact tA z (G _ _ l.1) F rfl J
    .rw[List.modify_succ_cons];exact⟨l.1,l.2.1,N⟩
   .exact .inr ⟨tA z (G _ _ l.1) F rfl J,λn=>⟨l.1,l.2.1,I n⟩⟩
  .cases h
theorem Bs{T K E}(h:xi P T=some (K,E)):P.underlying T=some (.map K E):=by
 unfold xi at h;split at h
 .rename_i a;cases h;exact a
 .cases h
theorem DV{S}(y:HOk P M0 S){v}{id}{es}(hx:Rep M0 S v (.ref .mp id))(i:S.h[id]?=some (.mp es)) :
  ∃bl C a,v=.map (some bl)/\S.m.getD id none=some bl/\S.w.heap[bl]?=some (.map C a)/\gE (bm M0 S) C.toList es:=by
 obtain⟨_,o|⟨_,bl,l,q⟩⟩:=hx
 .rw[i]at o;cases o
 .obtain⟨z,C,a,e,u,j⟩:=y.obj id _ i;rw[l]at e;cases e;exact⟨bl,C,a,q,l,u,j⟩
theorem KN{S}(G:HOk P M0 S){T}{v u}{x y}{ok}(hx:Rep M0 S v x)(U:Rep M0 S u y):aF P M0 S (Instr.lookup T v u ok) (p9 P T x y ok S.h):=by
 unfold p9;split
 .rename_i K E id k Z;have V:=Bs Z;split
  .rename_i es z O R;split
   .rename_i N;have M:RepP (Avoid M0 S.m) S.w u k:=U;have D:=uJ N M;obtain⟨bl,C,a0,rfl,hm,Y,e⟩:=DV G hx O;obtain⟨A,L,J⟩:=iJ R S.w
    have a:∀q,oE P K u C.toList 0 q S.w->(Instr.lookup T (.map (some bl)) u ok).run P S.w=.ok (match q with
      |some (_,x)=>if ok then .tuple #[x,.bool true] else x
      |none=>if ok then .tuple #[A,.bool false] else A) S.w:=λq X=>by
     unfold Instr.lookup;simp only[Sem.run_bind,run_underlying V,aS,getObj,Sem.run,Y];simp[oY D,X.run]
     cases q with
     |none=>simp[L]
     |some x=>rfl
    have l:∀(v:Value) (q:PV),bm M0 S v (.p q)->RepP (Avoid M0 S.m) S.w v q:=λv q h=>h;split
    .rename_i q F;obtain⟨j,x,I,h2⟩:=xw l D 0 e F;refine⟨S,_,rfl,a _ I,Ev.refl _ _,G,?_⟩;have o:=l _ _ h2;cases ok
     .exact aC o
     .refine aC (RepP.tuple rfl λi c hi=>?_)
      match i,hi with
      |0,hi=>cases hi;exact o
      |1,hi=>cases hi;exact .bool _
    .rename_i F;have I:=xw l D 0 e F;refine⟨S,_,rfl,a _ I,Ev.refl _ _,G,?_⟩;have o:RepP (Avoid M0 S.m) S.w A z:=fB J;cases ok
     .exact aC o
     .refine aC (RepP.tuple rfl λi c hi=>?_)
      match i,hi with
      |0,hi=>cases hi;exact o
      |1,hi=>cases hi;exact .bool _
    .exact trivial
   .exact trivial
  .exact trivial
 .exact trivial
theorem IA{S}(A:HOk P M0 S){v}{id}{f}(hx:Rep M0 S v (.ref .mp id))(i:S.h[id]?=some (.memo f)) :
  nB f/\∃es,(∀p,p∈es->f p.1 p.2=true)/\∃bl C a,v=.map (some bl)/\S.m.getD id none=some bl/\S.w.heap[bl]?=some (.map C a)/\gE (bm M0 S) C.toList es:=by
 obtain⟨_,o|⟨_,bl,l,q⟩⟩:=hx
 .rw[i]at o;cases o
 .obtain⟨u,es,y,D,C,a,e,z,j⟩:=A.obj id _ i;rw[l]at e;cases e;exact⟨u,es,y,bl,C,a,q,l,z,j⟩
theorem DY{f}(j:nB f){k v}(i:f k v=true):∀{es},(∀p,p∈es->f p.1 p.2=true)->∃e,mU k v es=some e/\∀p,p∈e->f p.1 p.2=true
 |[],_=>⟨[(k,v)],rfl,λp a=>by rw[dT.1 a];exact i⟩
 |(q,u)::r,h=>by
  obtain⟨b,l,_⟩:=j k q v u i (h (q,u) (by simp));rw[mU,l]
  cases b with
  |true=>
   refine⟨_,rfl,λp a=>?_⟩;rcases ce.1 a with rfl|a
   .exact i
   .exact h p (by simp[a])
  |false=>
   obtain⟨e,y,o⟩:=DY j i (es:=r) λp a=>h p (by simp[a]);refine⟨(q,u)::e,by simp[y],λp a=>?_⟩;rcases ce.1 a with rfl|a
   .exact h _ (by simp)
   .exact o p a
theorem D0{S}(X:HOk P M0 S){T}{v u c}{x y z}(hx:Rep M0 S v x)(hy:Rep M0 S u y)(hz:Rep M0 S c z):zF P M0 S (Instr.mapUpdate T v u c) (pT P T x y z S.h):=by
 unfold pT;split
 .rename_i K E id k q hT;have hu:=Bs hT;split
  .rename_i es l;split
   .rename_i I;have G:RepP (Avoid M0 S.m) S.w u k:=hy;have N:=uJ I G;obtain⟨bl,C,i,rfl,Y,A,L⟩:=DV X hx l;have V:∀(v:Value) (q:PV),bm M0 S v (.p q)->RepP (Avoid M0 S.m) S.w v q:=λv q h=>h;split
    .rename_i J hp;rcases Aa V N (show bm M0 S u (.p k) from G) (show bm M0 S c (.p q) from hz) 0 L hp with⟨j,x,e,M,R,h3,h4⟩|⟨M,R⟩
     .rw[gV]at M
      obtain⟨D,F⟩:=jx X (o:=.mp J) (ob:=.map (C.modify j λe=>{ e with key:=u,val:=c }) i) Y l A (mr A) (by intro C T f;simp)
       (.inr (.inr ⟨by simp[AObj.tag],rfl,rfl⟩)) (λO hx=>⟨bl,_,i,rfl,hx,by rw[Array.toList_modify];exact h4.mono λv a=>O.keepS⟩)
      refine⟨_,rfl,?_,F,D⟩;unfold Instr.mapUpdate;simp only[Sem.run_bind,run_underlying hu,aS,getObj,Sem.run,A,oY N];simp[Sem.run_bind,M.run];have hC:C[j]?=some e:=by simpa using R
      have U:(Instr.keyThatStays e.key u).run P S.w=.ok u S.w:=by
       unfold Instr.keyThatStays;rw[if_pos h3];rfl
      rw[hC];simp only[jI,fT,U,aS];simp[setObj,Sem.run,World.putObj,A]
     .obtain⟨D,F⟩:=jx X (o:=.mp J) (ob:=.map (C.push { key:=u,val:=c,born:=i }) (i+1)) Y l A (mr A) (by intro C T f;simp)
       (.inr (.inr ⟨by simp[AObj.tag],rfl,rfl⟩)) (λO hx=>⟨bl,_,_,rfl,hx,by rw[Array.toList_push];exact(R i).mono λv a=>O.keepS⟩)
      refine⟨_,rfl,?_,F,D⟩;unfold Instr.mapUpdate;simp only[Sem.run_bind,run_underlying hu,aS,getObj,Sem.run,A,oY N];simp[M.run];simp[setObj,Sem.run,World.putObj,A]
    .exact trivial
   .exact trivial
  .rename_i f l;split
   .rename_i I;obtain⟨I,a0⟩:=I;have G:RepP (Avoid M0 S.m) S.w u k:=hy;have N:=uJ I G;obtain⟨hg,es,hf,bl,C,i,rfl,Y,A,L⟩:=IA X hx l;obtain⟨J,hp,Z⟩:=DY hg a0 hf;have V:∀(v:Value) (q:PV),bm M0 S v (.p q)->RepP (Avoid M0 S.m) S.w v q:=λv q h=>h;rcases Aa V N (show bm M0 S u (.p k) from G) (show bm M0 S c (.p q) from hz) 0 L hp with⟨j,x,e,M,R,h3,h4⟩|⟨M,R⟩
    .rw[gV]at M
     obtain⟨D,F⟩:=jx X (o:=.memo f) (ob:=.map (C.modify j λe=>{ e with key:=u,val:=c }) i) Y l A (mr A) (by intro C T f;simp)
      (.inr (.inr ⟨by simp[AObj.tag],rfl,rfl⟩)) (λO hx=>⟨hg,J,Z,bl,_,i,rfl,hx,by rw[Array.toList_modify];exact h4.mono λv a=>O.keepS⟩)
     refine⟨_,je l,?_,F,D⟩;unfold Instr.mapUpdate;simp only[Sem.run_bind,run_underlying hu,aS,getObj,Sem.run,A,oY N];simp[Sem.run_bind,M.run];have hC:C[j]?=some e:=by simpa using R
     have U:(Instr.keyThatStays e.key u).run P S.w=.ok u S.w:=by
      unfold Instr.keyThatStays;rw[if_pos h3];rfl
     rw[hC];simp only[jI,fT,U,aS];simp[setObj,Sem.run,World.putObj,A]
    .obtain⟨D,F⟩:=jx X (o:=.memo f) (ob:=.map (C.push { key:=u,val:=c,born:=i }) (i+1)) Y l A (mr A) (by intro C T f;simp)
      (.inr (.inr ⟨by simp[AObj.tag],rfl,rfl⟩)) (λO hx=>⟨hg,J,Z,bl,_,_,rfl,hx,by rw[Array.toList_push];exact(R i).mono λv a=>O.keepS⟩)
     refine⟨_,je l,?_,F,D⟩;unfold Instr.mapUpdate;simp only[Sem.run_bind,run_underlying hu,aS,getObj,Sem.run,A,oY N];simp[M.run];simp[setObj,Sem.run,World.putObj,A]
   .exact trivial
  .exact trivial
 .exact trivial
theorem Cc{S}(C:HOk P M0 S){T A}{ok}{v}{x}(hx:Rep M0 S v x):aF P M0 S (Instr.typeAssert v T A ok) (kj P A ok x S.h):=by
 unfold kj;split
 .rename_i t q e;split
  .rename_i o;subst o;have G:RepP (Avoid M0 S.m) S.w v (.iface t q):=hx
   cases G with
   |@iface _ v' _ F=>
    unfold jW at e;split at e
    .cases e
    .rename_i d l j;refine⟨S,if ok then .tuple #[v',.bool true] else v',rfl,?_,Ev.refl _ _,C,?_⟩
     .unfold Instr.typeAssert;simp only[Sem.run_bind,run_underlying j,aS];cases d<;>first|(cases ok<;>simp;done)|exact absurd rfl (l _)
     .cases ok
      .exact aC F
      .refine aC (RepP.tuple rfl λi c hi=>?_)
       match i,hi with
       |0,hi=>cases hi;exact F
       |1,hi=>cases hi;exact .bool _
    .cases e
  .rename_i o;split
   .rename_i hok;subst hok;split
    .rename_i z E;obtain⟨D,y,u⟩:=iJ E S.w;have G:RepP (Avoid M0 S.m) S.w v (.iface t q):=hx
     cases G with
     |@iface _ v' _ F=>
      unfold jW at e;split at e
      .cases e
      .rename_i d l j;refine⟨S,.tuple #[D,.bool false],rfl,?_,Ev.refl _ _,C,?_⟩
       .unfold Instr.typeAssert;simp only[Sem.run_bind,run_underlying j,aS];cases d<;>first|(simp[o,Sem.run_bind,y];done)|exact absurd rfl (l _)
       .refine aC (RepP.tuple rfl λi c hi=>?_)
        match i,hi with
        |0,hi=>cases hi;exact fB u
        |1,hi=>cases hi;exact .bool _
      .cases e
    .exact trivial
   .exact trivial
 .rename_i t id e;obtain⟨a,rfl,I⟩:=wX (show bB M0 S v (.iptr t id) from hx);have j:∃d,P.underlying A=some d/\∀x,d≠.interface x:=by
   unfold jW at e;split at e
   .cases e
   .rename_i d l j;exact⟨d,j,l⟩
   .cases e
  obtain⟨d,j,l⟩:=j;split
  .rename_i o;subst o;refine⟨S,if ok then .tuple #[.pointer a,.bool true] else .pointer a,rfl,?_,Ev.refl _ _,C,?_⟩
   .unfold Instr.typeAssert;simp only[Sem.run_bind,run_underlying j,aS];cases d<;>first|(cases ok<;>simp;done)|exact absurd rfl (l _)
   .cases ok
    .exact I
    .refine⟨_,rfl,rfl,λi c hi=>?_⟩
     match i,hi with
     |0,hi=>cases hi;exact I
     |1,hi=>cases hi;exact RepP.bool _
  .rename_i o;split
   .rename_i hok;subst hok;split
    .rename_i z E;obtain⟨D,y,u⟩:=iJ E S.w;refine⟨S,.tuple #[D,.bool false],rfl,?_,Ev.refl _ _,C,?_⟩
     .unfold Instr.typeAssert;simp only[Sem.run_bind,run_underlying j,aS];cases d<;>first|(simp[o,Sem.run_bind,y];done)|exact absurd rfl (l _)
     .refine aC (RepP.tuple rfl λi c hi=>?_)
      match i,hi with
      |0,hi=>cases hi;exact fB u
      |1,hi=>cases hi;exact .bool _
    .exact trivial
   .exact trivial
 .exact trivial
end Abs
end Go.Proofs.YtmndpldajflenaaGreatDoor
