/- LAWS: objects that are no rows are replaced: loops over functions, walks over texts. -/
import Derived.Test.YtmndpldajflenaaGreatDoorAbsOpsE
import Derived.RangeFuncRecord
import Derived.WideKeyRuns
set_option linter.all false
namespace Go.Proofs.YtmndpldajflenaaGreatDoor
namespace Abs
variable {P:Program} {M0:Nat->Prop}
theorem cp{m:List (Option Nat)}{id b}(h:m.getD id none=some b):m[id]?=some (some b):=by
 rw[bB]at h
 cases hq:m[id]? with
 |none=>simp[hq]at h
 |some z=>simp[hq]at h;rw[h]
theorem zV{w:World}{bl}{x ob}(hx:w.heap[bl]?=some x)(h1:w.shape? bl=none)(h2:∀C T f,ob≠.cells C T f)(c):(w.putObj bl ob).shape? c=w.shape? c:=by
 by_cases hc:c=bl
 .subst hc;rw[h1];unfold World.shape?;rw[World.putObj_heap_same (uL.1 hx).1];cases ob<;>first|rfl|exact absurd rfl (h2 _ _ _)
 .unfold World.shape?;rw[World.putObj_heap_other hc]
theorem ig{S}(hS:HOk P M0 S){id bl}{o0 o}{x ob}(hid:S.m.getD id none=some bl)(h0:S.h[id]?=some o0)(hx:S.w.heap[bl]?=some x)
  (h1:S.w.shape? bl=none) (h2:∀C T f,ob≠.cells C T f) (hev:ObjEv (some bl) o0 (some bl) o)
  (hob:Ev S.h.length S ⟨S.m,S.h.set id o,S.w.putObj bl ob⟩->(S.w.putObj bl ob).heap[bl]?=some ob->ObjOk P M0 ⟨S.m,S.h.set id o,S.w.putObj bl ob⟩ (some bl) o) :
  HOk P M0 ⟨S.m,S.h.set id o,S.w.putObj bl ob⟩/\Ev S.h.length S ⟨S.m,S.h.set id o,S.w.putObj bl ob⟩:=by
 have hlt:=(uL.1 hx).1;have hidlt:=(aA.1 h0).1;have hown:Own S.m bl:=aV (cp hid)
 have he:Ev S.h.length S ⟨S.m,S.h.set id o,S.w.putObj bl ob⟩:=
  {fr:=⟨rfl,rfl,rfl,by simp[World.putObj],λc _ hn=>World.putObj_heap_other (λe=>hn (e▸hown)),λc _=>zV hx h1 h2 c⟩
   sub:=λc h=>.inl h
   obj:=λy oy hy hoy=>by
    by_cases hyi:y=id
    .subst hyi;rw[h0]at hoy;cases hoy;refine⟨o,by simp[hidlt],?_⟩;show ObjEv (S.m.getD y none) _ (S.m.getD y none) _;rw[hid];exact hev
    .exact⟨oy,by simp[cq (Ne.symm hyi),hoy],ObjEv.refl _ _⟩ }
 refine⟨?_,he⟩
 exact
  {len:=by simpa using hS.len
   lt:=λc h=>hP (hS.lt c h) he.fr.size
   m0:=λc h=>⟨hP (hS.m0 c h).1 he.fr.size,(hS.m0 c h).2⟩
   inj:=hS.inj
   obj:=λy oy hoy=>by
    by_cases hyi:y=id
    .subst hyi;have hoy':(S.h.set y o)[y]?=some oy:=hoy;rw[fp hidlt]at hoy';cases hoy';show ObjOk P M0 _ (S.m.getD y none) _;rw[hid];exact hob he (World.putObj_heap_same hlt)
    .have hoy':(S.h.set id o)[y]?=some oy:=hoy;rw[cq (Ne.symm hyi)]at hoy';refine(hS.obj y oy hoy').keep he λc hc=>World.putObj_heap_other λe=>hyi ?_;subst e;exact hS.inj y id c (cp hc) (cp hid)
   gl:=he.glob hS.gl }
theorem qP{w:World}{bl}{r}(h:w.heap[bl]?=some (.loop r)):w.shape? bl=none:=by
 unfold World.shape?;rw[h]
theorem xe{w:World}{bl}{ds}(h:w.heap[bl]?=some (.deferred ds)):w.shape? bl=none:=by
 unfold World.shape?;rw[h]
theorem Ej{w:World}{bl pos}{s}(h:w.heap[bl]?=some (.stringIter s pos)):w.shape? bl=none:=by
 unfold World.shape?;rw[h]
theorem HI{S}(hS:HOk P M0 S){T}{v}{x}(hx:Rep M0 S v x):aB P M0 S (Instr.range T v) (vY P T x S.h):=by
 unfold vY;split
 .rename_i s;split
  .rename_i hT;have h1:RepP (Avoid M0 S.m) S.w v (.str s):=hx;cases h1;have hu:P.underlying T=some .string:=by
    unfold dc at hT;split at hT
    .assumption
    .cases hT
   have hrun:=run_range_string (P:=P) S.w T s hu;refine⟨S.new (.strIter s 0) (.stringIter s 0),_,rfl,hrun,Ev.new _ M0 hS (aJ _) _ _,hS.new ⟨_,rfl,bf _ _⟩,?_⟩;refine⟨⟨S.w.heap.size,rfl⟩,.inr ⟨⟨.strIter s 0,by simp[Mem.new],rfl⟩,S.w.heap.size,?_,rfl⟩⟩;have:=hS.len;simp[Mem.new,<-this]
  .exact trivial
 .exact trivial
theorem JX{S}(hS:HOk P M0 S){b}{T}{v}{x}(hx:Rep M0 S v x):aB P M0 S (Instr.next v b T) (zd b x S.h):=by
 unfold zd;split
 .rename_i id;split
  .rename_i s pos hid;obtain⟨_,hd|⟨_,bl,hm,hv⟩⟩:=hx
   .rw[hid]at hd;cases hd
   .have hv':v=.pointer (some ⟨bl,0,none⟩):=hv;subst hv';obtain⟨bl',hm',hb⟩:=hS.obj id _ hid;rw[hm]at hm';cases hm';have hlt:=(uL.1 hb).1;split
    .rename_i hp
     obtain⟨hk,hev⟩:=ig hS (o:=.strIter s (pos+(Utf8.decode s pos).2)) (ob:=.stringIter s (pos+(Utf8.decode s pos).2)) hm hid hb (Ej hb) (by intro C T f;simp)
      (.inr (.inr ⟨by simp[AObj.tag],rfl,rfl⟩)) (λ_ hx=>⟨bl,rfl,hx⟩)
     refine⟨_,.tuple #[.bool true,.int .i64 pos,.int .i32 (Utf8.decode s pos).1],rfl,?_,hev,hk,?_⟩
     .simp only[Instr.next,getObj,setObj,Sem.run_bind,Sem.run,hb,Result.andThen,hp,if_true];simp[goInt,World.putObj]
     .refine RepP.tuple rfl λi c hi=>?_
      match i,hi with
      |0,hi=>cases hi;exact .bool _
      |1,hi=>cases hi;exact .int _ _
      |2,hi=>cases hi;exact .int _ _
    .rename_i hp;refine⟨S,.tuple #[.bool false],rfl,?_,Ev.refl _ _,hS,?_⟩
     .simp[Instr.next,getObj,Sem.run,hb,hp]
     .refine RepP.tuple rfl λi c hi=>?_
      match i,hi with
      |0,hi=>cases hi;exact .bool _
  .exact trivial
 .exact trivial
theorem kE{w:World}{bl clk}{C}(h:w.heap[bl]?=some (.map C clk)):w.shape? bl=none:=by
 unfold World.shape?;rw[h]
theorem Ec{S}(hS:HOk P M0 S){T}:aB P M0 S (Instr.makeMap T none) (.val (.ref .mp S.h.length) (S.h++[.mp []])):=by
 refine⟨S.new (.mp []) (.map #[] 0),.map (some S.w.heap.size),rfl,rfl,Ev.new _ M0 hS (aJ _) _ _,hS.new ⟨_,#[],0,rfl,bf _ _,trivial⟩,?_⟩;refine⟨⟨S.w.heap.size,rfl⟩,.inr ⟨⟨.mp [],by simp[Mem.new],rfl⟩,S.w.heap.size,?_,rfl⟩⟩;have:=hS.len;simp[Mem.new,<-this]
def sY (d:TypeDesc) (kv:Value) (k:PV):Prop:=(∃kk j a,d=.int kk/\kv=.int j a/\k=.int j a)\/∃s,d=.string/\kv=.string s/\k=.str s
theorem zX{d}{kv qv}{k q}{M}{w}{b}(hk:sY d kv k)(hq:RepP M w qv q)(h:jF k q=some b):Instr.sameNow d kv qv=some b:=by
 rcases hk with⟨kk,j,a,rfl,rfl,rfl⟩|⟨s,rfl,rfl,rfl⟩
 .cases q<;>first|(cases h;done)|skip
  cases hq;exact h
 .cases q<;>first|(cases h;done)|skip
  cases hq;exact h
theorem HB{d}{kv qv}{k q}{M}{w}(hk:sY d kv k)(hq:RepP M w qv q)(h:jF k q=some true):qv=kv:=by
 rcases hk with⟨kk,j,a,rfl,rfl,rfl⟩|⟨s,rfl,rfl,rfl⟩
 .cases q<;>first|(cases h;done)|skip
  cases hq;simp only[jF]at h;split at h
  .rename_i e;subst e;rw[eq_of_beq (fW h)]
  .cases h
 .cases q<;>first|(cases h;done)|skip
  cases hq;rename_i s';have h':(s==s')=true:=fW h;cases s with|mk x=>cases s' with|mk y=>rw[show x=y from eq_of_beq (show (x==y)=true from h')]
theorem Be{b}{K}{d}{kv}{k}(hk:sY d kv k)(hu:P.underlying K=some d)(w):(Instr.checkKey b 10000 K kv).run P w=.ok () w:=by
 unfold Instr.checkKey;rcases hk with⟨kk,j,a,rfl,rfl,rfl⟩|⟨s,rfl,rfl,rfl⟩
 .simp only[Sem.run_bind,run_underlying hu,aG];rfl
 .simp only[Sem.run_bind,run_underlying hu,aG];rfl
theorem zY{d}{kv}{k}(hk:sY d kv k):Instr.sameBits 10000 kv kv=true:=by
 rcases hk with⟨kk,j,a,rfl,rfl,rfl⟩|⟨s,rfl,rfl,rfl⟩
 .simp[Instr.sameBits]
 .unfold Instr.sameBits;cases s with|mk x=>exact(beq_self_eq_true x:(x==x)=true)
theorem Ij{k}{x}{s}(h:mM k x x=some s):k=xf x:=by
 cases k<;>cases x<;>simp_all [mM,xf]
theorem yg:∀{ks} {a} {t},cb ks a a=some t->ks=a.map xf
 |[],[],_,_=>rfl
 |[],_::_,_,h=>by cases h
 |_::_,[],_,h=>by cases h
 |k::ks,x::a,t,h=>by
  rw[cb]at h;split at h
  .rename_i s u h1 h2;rw[iu,<-Ij h1,<-yg h2]
  .cases h
theorem tY{bb:Bool}{M:Nat->Prop}{w:World}{d:Nat}{T:TypeId}{k:CK}(hsz:bj P T=some 1)(hag:aZ P T=some false)
  (hrec:∀(X:Array Value) (a:List PV),eT M w X a->(cb [k] a a).isSome=true->(Instr.checkKey bb d T (cr P T X)).run P w=.ok () w) {X:Array Value} {a:List PV} (hX:eT M w X a) :
  ∀(m i:Nat),(cb (List.replicate m k) (a.drop i) (a.drop i)).isSome=true ->
   (forIn (m:=Sem) (List.range' i m) PUnit.unit λi _=>do
     let n<-sizeOf T
     let x<-part T X (i*n)
     Instr.checkKey bb d T x
     pure (ForInStep.yield PUnit.unit)).run P w=.ok PUnit.unit w
 |0,_,_=>rfl
 |m+1,i,h=>by
  obtain⟨t,ht⟩:=ec.1 h;obtain⟨s,u,h1,h2,rfl⟩:=j2 (k1:=[k]) (k2:=List.replicate m k) (by simpa[wv]using ht);rw[nq]at h2;have hla:=(dI ht).1;simp at hla;have hsa:=hX.1;have hX1:=fK hX i 1 (by omega);have px:=ic (n:=i) (X:=X) hsz (by rw[hag];rfl) (by omega) (λ_=>by omega) w;have hck:=hrec _ _ hX1 (by rw[show [k].length=1 from rfl]at h1;rw[h1];rfl);have ih:=tY hsz hag hrec hX m (i+1) (by rw[show i+[k].length=i+1 from rfl]at h2;rw[h2];rfl);rw[List.range'_succ];simp only[List.forIn_cons,Sem.run_bind,aU hsz,aG,Nat.mul_one,px,hck,Sem.run_pure];exact ih
theorem l9{bb:Bool}{M:Nat->Prop}{w:World}:∀(d e:Nat),d<=e->∀(T:TypeId) (ks:List CK),ff P d T=some ks->(aZ P T).isSome=true->∀(X:Array Value) (a:List PV),eT M w X a->(cb ks a a).isSome=true ->
   (Instr.checkKey bb e T (cr P T X)).run P w=.ok () w
 |0,_,_,T,ks,h,_,_,_,_,_=>by simp[ff]at h
 |d+1,0,hde,_,_,_,_,_,_,_,_=>by omega
 |d+1,e+1,hde,T,ks,h,hag,X,a,hX,hs=>by
  obtain⟨t,ht⟩:=ec.1 hs;have hl:=dI ht;have one:∀(k:CK),ks=[k]->∃x,a=[x]/\(∃s,mM k x x=some s)/\RepP M w (X.getD 0 undef) x:=by
   intro k hk;subst hk;obtain⟨x,rfl⟩:=zk.1 hl.1;refine⟨x,rfl,?_,hX.2 0 x rfl⟩;simp only[cb]at ht;split at ht
   .rename_i s u h1 h2;exact⟨_,h1⟩
   .cases ht
  rw[Instr.checkKey];simp only[ff]at h;split at h
  .rename_i hu;cases h;obtain⟨x,rfl,⟨s,h1⟩,h2⟩:=one _ rfl;have hv:cr P T X=X.getD 0 undef:=by simp[cr,aZ,hu]
   rw[hv];generalize X.getD 0 undef=vx at h2 |-;cases x<;>simp only[mM,reduceCtorEq,iy]at h1;cases h2;simp only[Sem.run_bind,run_underlying hu,aG];rfl
  .rename_i k hu;cases h;obtain⟨x,rfl,⟨s,h1⟩,h2⟩:=one _ rfl;have hv:cr P T X=X.getD 0 undef:=by simp[cr,aZ,hu]
   rw[hv];generalize X.getD 0 undef=vx at h2 |-;cases x<;>simp only[mM,reduceCtorEq]at h1;cases h2;simp only[Sem.run_bind,run_underlying hu,aG];rfl
  .rename_i hu;cases h;obtain⟨x,rfl,⟨s,h1⟩,h2⟩:=one _ rfl;have hv:cr P T X=X.getD 0 undef:=by simp[cr,aZ,hu]
   rw[hv];generalize X.getD 0 undef=vx at h2 |-;cases x<;>simp only[mM,reduceCtorEq,iy]at h1;cases h2;simp only[Sem.run_bind,run_underlying hu,aG];rfl
  .rename_i fs hu;split at h
   .cases h
   .rename_i hst;have hv:cr P T X=.agg X:=by simp[cr,aZ,hu]
    rw[hv];simp only[Sem.run_bind,run_underlying hu,aG];rw[<-Array.forIn_toList]
    have key:∀(L:List Field) (n:Nat) (ks:List CK),nR P (ff P d) L n=some ks->(cb ks (a.drop n) (a.drop n)).isSome=true ->
      (forIn (m:=Sem) L PUnit.unit λf _=>if f.name ≠ "_" then do
        let x<-part f.type X f.offset
        Instr.checkKey bb e f.type x
        pure (ForInStep.yield PUnit.unit)
       else pure (ForInStep.yield PUnit.unit)).run P w=.ok PUnit.unit w:=by
     intro L
     induction L with
     |nil=>intro n ks _ _;simp
     |cons f L ih=>
      intro n ks h hs;simp only[nR]at h;split at h
      .rename_i hname;obtain⟨hname,hoff⟩:=hname;split at h
       .rename_i k1 hk1;split at h
        .rename_i hsz;obtain⟨hsz,hag⟩:=hsz;split at h
         .rename_i r hr;cases h;obtain⟨t,ht⟩:=ec.1 hs;obtain⟨s,u,h1,h2,rfl⟩:=j2 ht;rw[nq]at h2;have hla:=(dI ht).1;have hp:=xW hk1;have hsa:=hX.1;have ih':=ih (n+k1.length) r hr (by rw[h2];rfl);by_cases hk0:k1.length=0
          .have hagt:aZ P f.type=some true:=by
            obtain⟨g,hg⟩:=ec.1 hag
            cases g with
            |true=>exact hg
            |false=>exact absurd hk0 (hp hg)
           have hpx:(part f.type X n).run P w=.ok (cr P f.type #[]) w:=by
            have he:X.extract n (n+0)=#[]:=zB.1 (by simp;omega);simp only[part,Sem.run_bind,iA hagt,aG,if_true,aU hsz,hk0,Sem.run_pure,he,cr,hagt]
           have hk1n:k1=[]:=wA.1 hk0;subst hk1n;have hempty:eT M w #[] []:=⟨rfl,λi c hi=>by simp at hi⟩
           have hck:=l9 (bb:=bb) d e (by omega) f.type [] hk1 hag #[] [] hempty rfl;simp only[List.forIn_cons,Sem.run_bind,hname,ne_eq,not_false_eq_true,if_true,hoff,aG,hpx,hck,Sem.run_pure];simpa using ih'
          .have hna':n+k1.length<=a.length:=by simp at hla;omega
           have hX1:=fK hX n k1.length hna';have hck:=l9 (bb:=bb) d e (by omega) f.type k1 hk1 hag _ _ hX1 (by rw[h1];rfl);have px:=ic (n:=n) (X:=X) hsz hag (by omega) hp w;simp only[List.forIn_cons,Sem.run_bind,hname,ne_eq,not_false_eq_true,if_true,hoff,aG,px,hck,Sem.run_pure];simpa using ih'
         .cases h
        .cases h
       .cases h
      .cases h
    have hh:=key fs.toList 0 ks h (by simpa using hs);simp at hh |-;rw[hh];rfl
  .rename_i n el hu;split at h
   .rename_i k hk;split at h
    .rename_i hc;obtain⟨hsz,hage⟩:=hc;cases h;have hv:cr P T X=.agg X:=by simp[cr,aZ,hu]
     rw[hv];simp only[Sem.run_bind,run_underlying hu,aG];have hh:=tY (bb:=bb) (d:=e) hsz hage (λX' a' h4 h5=>l9 d e (by omega) el [k] hk (by rw[hage];rfl) X' a' h4 h5) hX n 0 (by simpa using hs);simp only[Std.Legacy.Range.forIn_eq_forIn_range',Std.Legacy.Range.size,Nat.sub_zero,Nat.add_one_sub_one,Nat.div_one];simp at hh |-;rw[hh];rfl
    .cases h
   .cases h
  .cases h
def BV (P:Program) (M:Nat->Prop) (w:World) (K:TypeId) (kv:Value) (k:PV):Prop:=
 ∃fs ks C a,P.underlying K=some (.struct fs)/\ff P 20 K=some ks/\kv=.agg C/\k=.agg a/\eT M w C a/\(cb ks a a).isSome=true
def oo (P:Program) (M:Nat->Prop) (w:World) (K:TypeId) (kv:Value) (k:PV):Prop:=(∃d,P.underlying K=some d/\sY d kv k)\/BV P M w K kv k
theorem su{K}{k}{M}{w}{kv}(h:qT P K k=true)(hr:RepP M w kv k):oo P M w K kv k:=by
 unfold qT at h;split at h
 .rename_i j a hk;cases hr;unfold sv at hk;split at hk
  .rename_i kk hu;exact .inl ⟨_,hu,.inl ⟨kk,j,a,rfl,rfl,rfl⟩⟩
  .cases hk
  .split at hk<;>cases hk
  .cases hk
 .rename_i s hk;cases hr;unfold sv at hk;split at hk
  .cases hk
  .rename_i hu;exact .inl ⟨_,hu,.inr ⟨s,rfl,rfl,rfl⟩⟩
  .split at hk<;>cases hk
  .cases hk
 .rename_i ks a hk;unfold sv at hk;split at hk
  .cases hk
  .cases hk
  .rename_i fs hu;split at hk
   .rename_i ks' hrow;cases hk
    cases hr with
    |@agg C _ hn _ hrr=>exact .inr ⟨fs,ks,C,a,hu,hrow,rfl,rfl,⟨hn,hrr⟩,h⟩
   .cases hk
  .cases hk
 .cases h
theorem yn{K}{kv qv}{k q}{M}{w}{b}(hk:BV P M w K kv k)(hq:RepP M w qv q)(h:jF k q=some b):(Op.equal K kv qv).run P w=.ok b w:=by
 obtain⟨fs,ks,C,a,hu,hrow,rfl,rfl,hC,hs⟩:=hk;cases q<;>first|(cases h;done)|skip
 rename_i a2;obtain⟨t,ht⟩:=ec.1 hs;have hks:=yg ht;have hv:∀Z:Array Value,cr P K Z=.agg Z:=λZ=>by simp[cr,aZ,hu]
 cases hq with
 |@agg D _ hn _ hrr=>
  rw[jF,<-hks]at h;have:=qR 20 10000 (by decide) K ks hrow (by simp[aZ,hu]) C D a a2 b hC ⟨hn,hrr⟩ h;rw[hv,hv]at this;exact this
theorem Hd{bb}{K}{kv}{k}{M}{w}(hk:BV P M w K kv k):(Instr.checkKey bb 10000 K kv).run P w=.ok () w:=by
 obtain⟨fs,ks,C,a,hu,hrow,rfl,rfl,hC,hs⟩:=hk;have hv:∀Z:Array Value,cr P K Z=.agg Z:=λZ=>by simp[cr,aZ,hu]
 have:=l9 (bb:=bb) 20 10000 (by decide) K ks hrow (by simp[aZ,hu]) C a hC hs;rw[hv]at this;exact this
theorem yf:∀{ks} {a b},cb ks a b=some true->a.length=b.length/\∀(i:Nat) (x y),a[i]?=some x->b[i]?=some y->∃k,mM k x y=some true
 |[],[],[],_=>⟨rfl,λi x y h=>by simp at h⟩
 |[],[],_::_,h=>by cases h
 |[],_::_,_,h=>by cases h
 |_::_,[],_,h=>by cases h
 |_::_,_::_,[],h=>by cases h
 |k::ks,x::a,y::b,h=>by
  rw[cb]at h;split at h
  .rename_i s u h1 h2;have h:(s&&u)=true:=fW h;rw[bY]at h;obtain⟨rfl,rfl⟩:=h;obtain⟨hl,he⟩:=yf h2;refine⟨by simp[hl],λi x' y' hx hy=>?_⟩
   cases i with
   |zero=>simp at hx hy;subst hx;subst hy;exact⟨k,h1⟩
   |succ i=>exact he i x' y' (by simpa using hx) (by simpa using hy)
  .cases h
theorem GL{M}{w}{vx vy}{x y}{k}{n}(h:mM k x y=some true)(hx:RepP M w vx x)(hy:RepP M w vy y):Instr.sameBits n vy vx=true:=by
 cases k<;>cases x<;>cases y<;>simp only[mM,reduceCtorEq,iy]at h
 .cases hx;cases hy;simp[Instr.sameBits,eq_of_beq h]
 .split at h
  .rename_i hk;subst hk;cases hx;cases hy;simp[Instr.sameBits,eq_of_beq (fW h)]
  .cases h
 .cases hx;cases hy;unfold Instr.sameBits;rename_i s t;cases s with|mk x=>cases t with|mk y=>rw[show x=y from eq_of_beq (show (x==y)=true from h)];exact(beq_self_eq_true y:(y==y)=true)
theorem mz{bb}{K}{kv}{k}{M}{w}(hk:oo P M w K kv k):(Instr.checkKey bb 10000 K kv).run P w=.ok () w:=by
 rcases hk with⟨d,hd,hk⟩|hk
 .exact Be hk hd w
 .exact Hd hk
def md (P:Program) (K:TypeId) (kv:Value) (C:List MapEntry) (i:Nat) (q:Option (Nat×Value)) (w:World):Prop:=
 (∃d,P.underlying K=some d/\Instr.findNow d kv C i=some q)\/((∃fs,P.underlying K=some (.struct fs))/\(Instr.findAsking K kv C i).run P w=.ok q w)
theorem md.run{K}{kv}{C}{q}{w}(h:md P K kv C 0 q w):(Instr.findKey K kv C).run P w=.ok q w:=by
 rcases h with⟨d,hd,h⟩|⟨⟨fs,hu⟩,h⟩
 .unfold Instr.findKey;simp only[Sem.run_bind,run_underlying hd,aG];rw[h];rfl
 .rw[run_findKey_eq w (by rw[hu]) kv C];exact h
theorem q9{M}{K}{kv qv}{k q}{w}(hk:oo P M w K kv k)(hq:RepP M w qv q)(hb:jF k q=some false){e}(he:e.key=qv){C}{i}{r}
  (hr:md P K kv C (i+1) r w):md P K kv (e::C) i r w:=by
 subst he;rcases hk with⟨d,hd,hk⟩|hk
 .rcases hr with⟨d',hd',hr⟩|⟨⟨fs,hu⟩,_⟩
  .rw[hd]at hd';cases hd';refine .inl ⟨d,hd,?_⟩;rw[Instr.findNow,zX hk hq hb];exact hr
  .rw[hd]at hu;cases hu;rcases hk with⟨_,_,_,h,_⟩|⟨_,h,_⟩<;>cases h
 .have heq:=yn hk hq hb;obtain⟨fs,ks,C0,a,hu,h2,h3,h4,h5⟩:=hk;have hr2:(Instr.findAsking K kv C (i+1)).run P w=.ok r w:=by
   rcases hr with⟨d',hd',hr⟩|⟨_,hr⟩
   .rw[hu]at hd';cases hd'
    cases C with
    |nil=>cases hr;rfl
    |cons e2 C2=>subst h3;simp[Instr.findNow,Instr.sameNow]at hr
   .exact hr
  refine .inr ⟨⟨fs,hu⟩,?_⟩;rw[Instr.findAsking];simp only[Sem.run_bind,heq,aG];simpa using hr2
theorem yc{M}{K}{kv qv}{k q}{w}(hk:oo P M w K kv k)(hq:RepP M w qv q)(hb:jF k q=some true){e}(he:e.key=qv){C}{i} :
  md P K kv (e::C) i (some (i,e.val)) w:=by
 subst he;rcases hk with⟨d,hd,hk⟩|hk
 .refine .inl ⟨d,hd,?_⟩;rw[Instr.findNow,zX hk hq hb]
 .have heq:=yn hk hq hb;obtain⟨fs,ks,C0,a,hu,h2,h3,h4,h5⟩:=hk;refine .inr ⟨⟨fs,hu⟩,?_⟩;rw[Instr.findAsking];simp only[Sem.run_bind,heq,aG];simp
theorem uB{R}{M}{w}(hR:∀v q,R v (.p q)->RepP M w v q){K}{kv}{k}(hk:oo P M w K kv k) :
  ∀{C} {es} {r} (i:Nat),fk R C es->lb k es=some r ->
   match r with|none=>md P K kv C i none w|some v=>∃j u,md P K kv C i (some (j,u)) w/\R u (.p v)
 |[],[],r,i,_,h=>by
  cases h;rcases hk with⟨d,hd,hk⟩|hk
  .exact .inl ⟨d,hd,rfl⟩
  .obtain⟨fs,ks,C,a,hu,_⟩:=hk
   exact .inl ⟨_,hu,rfl⟩
 |[],_::_,_,_,hm,_=>hm.elim
 |_::_,[],_,_,hm,_=>hm.elim
 |e::C,(q,v)::es,r,i,hm,h=>by
  rw[lb]at h;split at h
  .rename_i hq;cases h;exact⟨i,e.val,yc hk (hR _ _ hm.1) hq rfl,hm.2.1⟩
  .rename_i hq;have ih:=uB hR hk (i+1) hm.2.2 h
   cases r with
   |none=>exact q9 hk (hR _ _ hm.1) hq rfl ih
   |some v=>obtain⟨j,u,h1,h2⟩:=ih;exact⟨j,u,q9 hk (hR _ _ hm.1) hq rfl h1,h2⟩
  .cases h
theorem If{K}{kv qv}{k q}{M}{w}(hk:oo P M w K kv k)(hq:RepP M w qv q)(h:jF k q=some true):Instr.sameBits 10000 qv kv=true:=by
 rcases hk with⟨d,hd,hk⟩|hk
 .rw[HB hk hq h];exact zY hk
 .obtain⟨fs,ks,C,a,hu,h1,rfl,rfl,hC,hs⟩:=hk;cases q<;>first|(cases h;done)|skip
  rename_i b
  cases hq with
  |@agg D _ hn _ hrr=>
   obtain⟨hl,he⟩:=yf h;have hs1:D.size=C.size:=by rw[hn,hC.1,hl]
   rw[show (10000:Nat)=9999+1 from rfl,Instr.sameBits,hs1,beq_self_eq_true,kM,iw];intro p hp;obtain⟨i,hi,rfl⟩:=List.getElem_of_mem hp;rw[List.getElem_zip];have hi':i<D.size/\i<C.size:=by simp at hi;omega
   have ha:i<a.length:=by rw[<-hC.1];exact hi'.2
   have hb:i<b.length:=by omega
   obtain⟨k,hk⟩:=he i a[i] b[i] (aT ha) (aT hb);have g1:=hC.2 i _ (aT ha);have g2:=hrr i _ (aT hb);have e1:C.getD i undef=C.toList[i]'(by simpa using hi'.2):=by simp[gG,hi'.2]
   have e2:D.getD i undef=D.toList[i]'(by simpa using hi'.1):=by simp[gG,hi'.1]
   rw[e1]at g1;rw[e2]at g2;exact GL hk g1 g2
theorem wS{R}{M}{w}(hR:∀v q,R v (.p q)->RepP M w v q){K}{kv u}{k v}(hk:oo P M w K kv k)(hkr:R kv (.p k))(hu:R u (.p v)) :
  ∀{C} {es es'} (i),fk R C es->nP k v es=some es' ->
   (∃j x e,md P K kv C i (some (i+j,x)) w/\C[j]?=some e/\Instr.sameBits 10000 e.key kv=true/\fk R (C.modify j λe=>{ e with key:=kv,val:=u }) es') \/
   (md P K kv C i none w/\∀n,fk R (C++[{ key:=kv,val:=u,born:=n }]) es')
 |[],[],es',i,_,h=>by
  cases h;refine .inr ⟨?_,λn=>⟨hkr,hu,trivial⟩⟩;rcases hk with⟨d,hd,hk⟩|hk
  .exact .inl ⟨d,hd,rfl⟩
  .obtain⟨fs,ks,C,a,hu,_⟩:=hk
   exact .inl ⟨_,hu,rfl⟩
 |[],_::_,_,_,hm,_=>hm.elim
 |_::_,[],_,_,hm,_=>hm.elim
 |e::C,(q,x)::es,es',i,hm,h=>by
  rw[nP]at h;split at h
  .rename_i hq;cases h;refine .inl ⟨0,e.val,e,yc hk (hR _ _ hm.1) hq rfl,rfl,If hk (hR _ _ hm.1) hq,?_⟩;exact⟨hkr,hu,hm.2.2⟩
  .rename_i hq;simp only[bx]at h;obtain⟨r,h1,rfl⟩:=h;rcases wS hR hk hkr hu (i+1) hm.2.2 h1 with⟨j,y,e',h2,h3,h4,h5⟩|⟨h2,h3⟩
   .refine .inl ⟨j+1,y,e',?_,by simpa using h3,h4,?_⟩
    .have e0:i+(j+1)=i+1+j:=by omega
     rw[e0];exact q9 hk (hR _ _ hm.1) hq rfl h2
    .rw[List.modify_succ_cons];exact⟨hm.1,hm.2.1,h5⟩
   .exact .inr ⟨q9 hk (hR _ _ hm.1) hq rfl h2,λn=>⟨hm.1,hm.2.1,h3 n⟩⟩
  .cases h
theorem xU{T K E}(h:sj P T=some (K,E)):P.underlying T=some (.map K E):=by
 unfold sj at h;split at h
 .rename_i hu;cases h;exact hu
 .cases h
theorem Ax{S}(hS:HOk P M0 S){v}{id}{es}(hx:Rep M0 S v (.ref .mp id))(hid:S.h[id]?=some (.mp es)) :
  ∃bl C clk,v=.map (some bl)/\S.m.getD id none=some bl/\S.w.heap[bl]?=some (.map C clk)/\fk (aY M0 S) C.toList es:=by
 obtain⟨_,hd|⟨_,bl,hm,hv⟩⟩:=hx
 .rw[hid]at hd;cases hd
 .obtain⟨bl',C,clk,hm',hb,hrel⟩:=hS.obj id _ hid;rw[hm]at hm';cases hm';exact⟨bl,C,clk,hv,hm,hb,hrel⟩
theorem Ge{S}(hS:HOk P M0 S){T}{v u}{x y}{ok}(hx:Rep M0 S v x)(hy:Rep M0 S u y):aB P M0 S (Instr.lookup T v u ok) (ng P T x y ok S.h):=by
 unfold ng;split
 .rename_i K E id k hT;have hu:=xU hT;split
  .rename_i es z hid hz;split
   .rename_i hko;have hyr:RepP (Avoid M0 S.m) S.w u k:=hy;have hk:=su hko hyr;obtain⟨bl,C,clk,rfl,hm,hb,hrel⟩:=Ax hS hx hid;obtain⟨zv,hz1,hz2⟩:=gH hz S.w
    have hrun:∀q,md P K u C.toList 0 q S.w->(Instr.lookup T (.map (some bl)) u ok).run P S.w=.ok (match q with
      |some (_,x)=>if ok then .tuple #[x,.bool true] else x
      |none=>if ok then .tuple #[zv,.bool false] else zv) S.w:=λq hq=>by
     unfold Instr.lookup;simp only[Sem.run_bind,run_underlying hu,aG,getObj,Sem.run,hb];simp[mz hk,hq.run]
     cases q with
     |none=>simp[hz1]
     |some x=>rfl
    have hRR:∀(v:Value) (q:PV),aY M0 S v (.p q)->RepP (Avoid M0 S.m) S.w v q:=λv q h=>h;split
    .rename_i q hg;obtain⟨j,x,h1,h2⟩:=uB hRR hk 0 hrel hg;refine⟨S,_,rfl,hrun _ h1,Ev.refl _ _,hS,?_⟩;have h3:=hRR _ _ h2;cases ok
     .exact ar h3
     .refine ar (RepP.tuple rfl λi c hi=>?_)
      match i,hi with
      |0,hi=>cases hi;exact h3
      |1,hi=>cases hi;exact .bool _
    .rename_i hg;have h1:=uB hRR hk 0 hrel hg;refine⟨S,_,rfl,hrun _ h1,Ev.refl _ _,hS,?_⟩;have h3:RepP (Avoid M0 S.m) S.w zv z:=eb hz2;cases ok
     .exact ar h3
     .refine ar (RepP.tuple rfl λi c hi=>?_)
      match i,hi with
      |0,hi=>cases hi;exact h3
      |1,hi=>cases hi;exact .bool _
    .exact trivial
   .exact trivial
  .exact trivial
 .exact trivial
theorem D9{S}(hS:HOk P M0 S){v}{id}{f}(hx:Rep M0 S v (.ref .mp id))(hid:S.h[id]?=some (.memo f)) :
  lu f/\∃es,(∀p,p∈es->f p.1 p.2=true)/\∃bl C clk,v=.map (some bl)/\S.m.getD id none=some bl/\S.w.heap[bl]?=some (.map C clk)/\fk (aY M0 S) C.toList es:=by
 obtain⟨_,hd|⟨_,bl,hm,hv⟩⟩:=hx
 .rw[hid]at hd;cases hd
 .obtain⟨hg,es,hf,bl',C,clk,hm',hb,hrel⟩:=hS.obj id _ hid;rw[hm]at hm';cases hm';exact⟨hg,es,hf,bl,C,clk,hv,hm,hb,hrel⟩
theorem Ay{f}(hg:lu f){k v}(hk:f k v=true):∀{es},(∀p,p∈es->f p.1 p.2=true)->∃es',nP k v es=some es'/\∀p,p∈es'->f p.1 p.2=true
 |[],_=>⟨[(k,v)],rfl,λp hp=>by rw[DA.1 hp];exact hk⟩
 |(q,u)::r,h=>by
  obtain⟨b,hb,_⟩:=hg k q v u hk (h (q,u) (by simp));rw[nP,hb]
  cases b with
  |true=>
   refine⟨_,rfl,λp hp=>?_⟩;rcases dQ.1 hp with rfl|hp
   .exact hk
   .exact h p (by simp[hp])
  |false=>
   obtain⟨es',h1,h2⟩:=Ay hg hk (es:=r) λp hp=>h p (by simp[hp]);refine⟨(q,u)::es',by simp[h1],λp hp=>?_⟩;rcases dQ.1 hp with rfl|hp
   .exact h _ (by simp)
   .exact h2 p hp
theorem AC{S}(hS:HOk P M0 S){T}{v u c}{x y z}(hx:Rep M0 S v x)(hy:Rep M0 S u y)(hz:Rep M0 S c z):wh P M0 S (Instr.mapUpdate T v u c) (mY P T x y z S.h):=by
 unfold mY;split
 .rename_i K E id k q hT;have hu:=xU hT;split
  .rename_i es hid;split
   .rename_i hko;have hyr:RepP (Avoid M0 S.m) S.w u k:=hy;have hk:=su hko hyr;obtain⟨bl,C,clk,rfl,hm,hb,hrel⟩:=Ax hS hx hid;have hRR:∀(v:Value) (q:PV),aY M0 S v (.p q)->RepP (Avoid M0 S.m) S.w v q:=λv q h=>h;split
    .rename_i es' hp;rcases wS hRR hk (show aY M0 S u (.p k) from hyr) (show aY M0 S c (.p q) from hz) 0 hrel hp with⟨j,x,e,h1,h2,h3,h4⟩|⟨h1,h2⟩
     .rw[eN]at h1
      obtain⟨hk',hev⟩:=ig hS (o:=.mp es') (ob:=.map (C.modify j λe=>{ e with key:=u,val:=c }) clk) hm hid hb (kE hb) (by intro C T f;simp)
       (.inr (.inr ⟨by simp[AObj.tag],rfl,rfl⟩)) (λhe hx=>⟨bl,_,clk,rfl,hx,by rw[Array.toList_modify];exact h4.mono λv a=>he.keepS⟩)
      refine⟨_,rfl,?_,hev,hk'⟩;unfold Instr.mapUpdate;simp only[Sem.run_bind,run_underlying hu,aG,getObj,Sem.run,hb,mz hk];simp[Sem.run_bind,h1.run];have hC:C[j]?=some e:=by simpa using h2
      have hks:(Instr.keyThatStays e.key u).run P S.w=.ok u S.w:=by
       unfold Instr.keyThatStays;rw[if_pos h3];rfl
      rw[hC];simp only[dy,jz,hks,aG];simp[setObj,Sem.run,World.putObj,hb]
     .obtain⟨hk',hev⟩:=ig hS (o:=.mp es') (ob:=.map (C.push { key:=u,val:=c,born:=clk }) (clk+1)) hm hid hb (kE hb) (by intro C T f;simp)
       (.inr (.inr ⟨by simp[AObj.tag],rfl,rfl⟩)) (λhe hx=>⟨bl,_,_,rfl,hx,by rw[Array.toList_push];exact(h2 clk).mono λv a=>he.keepS⟩)
      refine⟨_,rfl,?_,hev,hk'⟩;unfold Instr.mapUpdate;simp only[Sem.run_bind,run_underlying hu,aG,getObj,Sem.run,hb,mz hk];simp[h1.run];simp[setObj,Sem.run,World.putObj,hb]
    .exact trivial
   .exact trivial
  .rename_i f hid;split
   .rename_i hko;obtain⟨hko,hfk⟩:=hko;have hyr:RepP (Avoid M0 S.m) S.w u k:=hy;have hk:=su hko hyr;obtain⟨hg,es,hf,bl,C,clk,rfl,hm,hb,hrel⟩:=D9 hS hx hid;obtain⟨es',hp,hf'⟩:=Ay hg hfk hf;have hRR:∀(v:Value) (q:PV),aY M0 S v (.p q)->RepP (Avoid M0 S.m) S.w v q:=λv q h=>h;rcases wS hRR hk (show aY M0 S u (.p k) from hyr) (show aY M0 S c (.p q) from hz) 0 hrel hp with⟨j,x,e,h1,h2,h3,h4⟩|⟨h1,h2⟩
    .rw[eN]at h1
     obtain⟨hk',hev⟩:=ig hS (o:=.memo f) (ob:=.map (C.modify j λe=>{ e with key:=u,val:=c }) clk) hm hid hb (kE hb) (by intro C T f;simp)
      (.inr (.inr ⟨by simp[AObj.tag],rfl,rfl⟩)) (λhe hx=>⟨hg,es',hf',bl,_,clk,rfl,hx,by rw[Array.toList_modify];exact h4.mono λv a=>he.keepS⟩)
     refine⟨_,ji hid,?_,hev,hk'⟩;unfold Instr.mapUpdate;simp only[Sem.run_bind,run_underlying hu,aG,getObj,Sem.run,hb,mz hk];simp[Sem.run_bind,h1.run];have hC:C[j]?=some e:=by simpa using h2
     have hks:(Instr.keyThatStays e.key u).run P S.w=.ok u S.w:=by
      unfold Instr.keyThatStays;rw[if_pos h3];rfl
     rw[hC];simp only[dy,jz,hks,aG];simp[setObj,Sem.run,World.putObj,hb]
    .obtain⟨hk',hev⟩:=ig hS (o:=.memo f) (ob:=.map (C.push { key:=u,val:=c,born:=clk }) (clk+1)) hm hid hb (kE hb) (by intro C T f;simp)
      (.inr (.inr ⟨by simp[AObj.tag],rfl,rfl⟩)) (λhe hx=>⟨hg,es',hf',bl,_,_,rfl,hx,by rw[Array.toList_push];exact(h2 clk).mono λv a=>he.keepS⟩)
     refine⟨_,ji hid,?_,hev,hk'⟩;unfold Instr.mapUpdate;simp only[Sem.run_bind,run_underlying hu,aG,getObj,Sem.run,hb,mz hk];simp[h1.run];simp[setObj,Sem.run,World.putObj,hb]
   .exact trivial
  .exact trivial
 .exact trivial
theorem yu{S}(hS:HOk P M0 S){T A}{ok}{v}{x}(hx:Rep M0 S v x):aB P M0 S (Instr.typeAssert v T A ok) (iV P A ok x S.h):=by
 unfold iV;split
 .rename_i t q hA;split
  .rename_i ht;subst ht;have h1:RepP (Avoid M0 S.m) S.w v (.iface t q):=hx
   cases h1 with
   |@iface _ v' _ h2=>
    unfold iD at hA;split at hA
    .cases hA
    .rename_i d hd hu;refine⟨S,if ok then .tuple #[v',.bool true] else v',rfl,?_,Ev.refl _ _,hS,?_⟩
     .unfold Instr.typeAssert;simp only[Sem.run_bind,run_underlying hu,aG];cases d<;>first|(cases ok<;>simp;done)|exact absurd rfl (hd _)
     .cases ok
      .exact ar h2
      .refine ar (RepP.tuple rfl λi c hi=>?_)
       match i,hi with
       |0,hi=>cases hi;exact h2
       |1,hi=>cases hi;exact .bool _
    .cases hA
  .rename_i ht;split
   .rename_i hok;subst hok;split
    .rename_i z hz;obtain⟨zv,hz1,hz2⟩:=gH hz S.w;have h1:RepP (Avoid M0 S.m) S.w v (.iface t q):=hx
     cases h1 with
     |@iface _ v' _ h2=>
      unfold iD at hA;split at hA
      .cases hA
      .rename_i d hd hu;refine⟨S,.tuple #[zv,.bool false],rfl,?_,Ev.refl _ _,hS,?_⟩
       .unfold Instr.typeAssert;simp only[Sem.run_bind,run_underlying hu,aG];cases d<;>first|(simp[ht,Sem.run_bind,hz1];done)|exact absurd rfl (hd _)
       .refine ar (RepP.tuple rfl λi c hi=>?_)
        match i,hi with
        |0,hi=>cases hi;exact eb hz2
        |1,hi=>cases hi;exact .bool _
      .cases hA
    .exact trivial
   .exact trivial
 .rename_i t id hA;obtain⟨a,rfl,hp⟩:=qz (show bp M0 S v (.iptr t id) from hx);have hu:∃d,P.underlying A=some d/\∀x,d≠.interface x:=by
   unfold iD at hA;split at hA
   .cases hA
   .rename_i d hd hu;exact⟨d,hu,hd⟩
   .cases hA
  obtain⟨d,hu,hd⟩:=hu;split
  .rename_i ht;subst ht;refine⟨S,if ok then .tuple #[.pointer a,.bool true] else .pointer a,rfl,?_,Ev.refl _ _,hS,?_⟩
   .unfold Instr.typeAssert;simp only[Sem.run_bind,run_underlying hu,aG];cases d<;>first|(cases ok<;>simp;done)|exact absurd rfl (hd _)
   .cases ok
    .exact hp
    .refine⟨_,rfl,rfl,λi c hi=>?_⟩
     match i,hi with
     |0,hi=>cases hi;exact hp
     |1,hi=>cases hi;exact RepP.bool _
  .rename_i ht;split
   .rename_i hok;subst hok;split
    .rename_i z hz;obtain⟨zv,hz1,hz2⟩:=gH hz S.w;refine⟨S,.tuple #[zv,.bool false],rfl,?_,Ev.refl _ _,hS,?_⟩
     .unfold Instr.typeAssert;simp only[Sem.run_bind,run_underlying hu,aG];cases d<;>first|(simp[ht,Sem.run_bind,hz1];done)|exact absurd rfl (hd _)
     .refine ar (RepP.tuple rfl λi c hi=>?_)
      match i,hi with
      |0,hi=>cases hi;exact eb hz2
      |1,hi=>cases hi;exact .bool _
    .exact trivial
   .exact trivial
 .exact trivial
end Abs
end Go.Proofs.YtmndpldajflenaaGreatDoor
