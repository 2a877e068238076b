/- CONTRACTS of the program's functions, and laws on what they return. No conditions but those in the theorems' heads. -/
import Derived.Test.YtoapoaoelpcniaaGreatDoorAbsPut
import Derived.Laws.BytesArg
import Derived.AtR
import Derived.Recover
set_option linter.all false
namespace Go.Proofs.YtoapoaoelpcniaaGreatDoor
namespace Abs
variable {P:Program} {M0:Nat->Prop} {S:Mem}
def wq (P:Program) (M0:Nat->Prop) (S:Mem) (s:Sem Next):OR->Prop
 |.val v h=>∃(S':Mem) (v':Value),S'.h=h/\s.run P S.w=.ok (.value v') S'.w/\Ev S.h.length S S'/\HOk P M0 S'/\Rep M0 S' v' v
 |.skip h=>∃S':Mem,S'.h=h/\s.run P S.w=.ok .skip S'.w/\Ev S.h.length S S'/\HOk P M0 S'
 |.call f args=>∃cargs:Array Value,s.run P S.w=(callFunc f cargs).run P S.w/\dZ (Rep M0 S) cargs args
 |.panic v=>∃v':Value,s.run P S.w=.halt (.panic v') S.w/\RepP (Avoid M0 S.m) S.w v' v
 |.yld l args=>∃(b:Nat) (cargs:Array Value),s.run P S.w=(Instr.yield b cargs).run P S.w/\dZ (Rep M0 S) cargs args/\(S.h[l]?=some .dead\/S.m.getD l none=some b)
 |.dfr (.fn g args)=>∃(fv:Fn) (cap dargs cargs:Array Value),s.run P S.w=.ok (.defer { target:=.fn fv cap,args:=dargs }) S.w /\
   (∀w,(invoke (.fn fv cap) dargs).run P w=(callFunc g cargs).run P w)/\dZ (Rep M0 S) cargs args
 |.dfr _=>False
 |.recover=>s.run P S.w=.ok .recover S.w
 |.stuck=>True
theorem aM.op{s}{r}(h:aM P M0 S s r):wq P M0 S (do let v<-s;Pure.pure (Next.value v)) r:=by
 cases r with
 |val v hh=>
  obtain⟨S',v',h1,h2,h3⟩:=h
  exact⟨S',v',h1,by simp[h2],h3⟩
 |skip _=>exact h.elim
 |call _ _=>exact h.elim
 |panic _=>exact h.elim
 |yld _ _=>exact h.elim
 |dfr _=>exact h.elim
 |recover=>exact h.elim
 |stuck=>exact trivial
theorem BZ.op{s}{r}(h:BZ P M0 S s r):wq P M0 S (do s;Pure.pure Next.skip) r:=by
 cases r with
 |skip hh=>
  obtain⟨S',h1,h2,h3⟩:=h
  exact⟨S',h1,by simp[h2],h3⟩
 |val _ _=>exact h.elim
 |call _ _=>exact h.elim
 |panic _=>exact h.elim
 |yld _ _=>exact h.elim
 |dfr _=>exact h.elim
 |recover=>exact h.elim
 |stuck=>exact trivial
theorem Il{op}{T}{x y}{a b}(w)(h1:(∀C D,¬(a=.agg C/\b=.agg D))\/P.eqGuardType P.depth T=false)
  (h2:¬(a=.nilIface/\b=.nilIface)\/(lE x||lE y)=true):(eqGuard op T x y a b).run P w=.ok () w:=by
 by_cases ha:∃C D,a=.agg C/\b=.agg D
 .obtain⟨C,D,rfl,rfl⟩:=ha;rcases h1 with h1|h1
  .exact absurd ⟨rfl,rfl⟩ (h1 C D)
  .exact run_eqGuard_agg w op T x y C D h1
 .by_cases hn:a=.nilIface/\b=.nilIface
  .obtain⟨rfl,rfl⟩:=hn;rcases h2 with h2|h2
   .exact absurd ⟨rfl,rfl⟩ h2
   .cases op<;>first
     |rfl
     |(cases x<;>cases y<;>first|rfl|exact absurd h2 (by simp[lE]))
  .exact yU w (λC D h=>ha ⟨C,D,h⟩) hn
theorem Wo(hS:HOk P M0 S){op}{T}{xo yo}{x y}{a b}(hx:Rep M0 S a x)(hy:Rep M0 S b y) :
  aM P M0 S (do eqGuard op T xo yo a b;binOp op T a b) (C6 P op T (lE xo||lE yo) x y S.h):=by
 have guardOk:((∀C D,¬(a=.agg C/\b=.agg D))\/P.eqGuardType P.depth T=false)->(¬(a=.nilIface/\b=.nilIface)\/(lE xo||lE yo)=true) ->
   ∀r:OR,aM P M0 S (binOp op T a b) r->aM P M0 S (do eqGuard op T xo yo a b;binOp op T a b) r:=by
  intro h1 h2 r hr;have hg:=Il (op:=op) (T:=T) (x:=xo) (y:=yo) (P:=P) S.w h1 h2
  cases r with
  |val v h=>
   obtain⟨S',v',g1,g2,g3⟩:=hr
   exact⟨S',v',g1,by simp[hg,g2],g3⟩
  |stuck=>exact trivial
  |_=>exact hr.elim
 unfold C6;split
 .rename_i k i k' j;have:=iJ hx;subst this;have:=iJ hy;subst this;split
  .exact guardOk (.inl (by simp)) (.inl (by simp)) _ (ul hS λq hq=>IE hq _ _)
  .rename_i hsh;split
   .rename_i hk;subst hk;exact guardOk (.inl (by simp)) (.inl (by simp)) _ (ul hS λq hq=>NV (by simpa using hsh) hq _ _)
   .exact trivial
 .rename_i s t;have h1:RepP (Avoid M0 S.m) S.w a (.str s):=hx;have h2:RepP (Avoid M0 S.m) S.w b (.str t):=hy;cases h1;cases h2;exact guardOk (.inl (by simp)) (.inl (by simp)) _ (ul hS λq hq=>MQ hq _ _)
 .split
  .cases he:HO P T (lE xo||lE yo) x y with
   |none=>exact trivial
   |some t=>
    obtain⟨⟨g1,g2⟩,g3,g4⟩:=RT hx hy he;exact guardOk g3 g4 _ (ul hS λq hq=>by cases hq;exact⟨_,g1,.bool _⟩)
  .cases he:HO P T (lE xo||lE yo) x y with
   |none=>exact trivial
   |some t=>
    obtain⟨⟨g1,g2⟩,g3,g4⟩:=RT hx hy he;exact guardOk g3 g4 _ (ul hS λq hq=>by cases hq;exact⟨_,g2,.bool _⟩)
  .exact trivial
theorem Xa(hS:HOk P M0 S){op}{x}{a}(hx:Rep M0 S a x):aM P M0 S (Op.unary op a) (Km op x S.h):=by
 unfold Km;split
 .have:=nJ hx;subst this;exact aM.pure hS (v':=.bool _) rfl (aH (.bool _))
 .have:=iJ hx;subst this;exact aM.pure hS (v':=.int _ _) (by simp[Op.unary,Op.intArith]) (aH (.int _ _))
 .exact trivial
theorem DO:∀{l} {ns},uo l=some ns->ns.length=l.length/\∀(i:Nat) (n),ns[i]?=some n->l[i]?=some (.int .u8 n)
 |[],ns,h=>by cases h;exact⟨rfl,by simp⟩
 |x::r,ns,h=>by
  unfold uo at h;split at h
  .rename_i he;cases he
  .rename_i n r' he;cases he;simp only[cg]at h;obtain⟨ms,hm,rfl⟩:=h;obtain⟨h1,h2⟩:=DO hm;refine⟨by simp[h1],λi m hi=>?_⟩
   cases i with
   |zero=>cases hi;rfl
   |succ i=>exact h2 i m (by simpa using hi)
  .cases h
theorem LS(hS:HOk P M0 S){src dst}{x}{a}(hx:Rep M0 S a x):aM P M0 S (convert src dst a) (pR P src dst x S.h):=by
 unfold pR;split
 .rename_i k' n;have:=iJ hx;subst this;split
  .rename_i k hk;unfold dT at hk;split at hk
   .rename_i d k2 h1 h2;cases hk;refine aM.pure hS (v':=.int k (k.wrap n)) ?_ (aH (.int _ _));simp[convert,run_underlying h1,run_underlying h2,Conv.intToInt]
   .cases hk
  .exact trivial
 .rename_i s;split
  .rename_i hc;have h1:RepP (Avoid M0 S.m) S.w a (.str s):=hx;cases h1;refine aM.pure hS (v':=.string s) ?_ (aH (.str _));simp[convert,run_underlying (fH hc.1),run_underlying (fH hc.2)]
  .exact trivial
 .rename_i y ys full;split
  .rename_i hc;split
   .rename_i ns hns;obtain⟨e,hs,he⟩:∃e,P.underlying src=some (.slice e)/\P.underlying e=some (.int .u8):=by
     have h1:=hc.1;unfold z6 at h1
     cases hq:bv P src with
     |none=>rw[hq]at h1;cases h1
     |some e=>
      rw[hq]at h1;refine⟨e,cB hq,?_⟩;dsimp only at h1;split at h1
      .assumption
      .cases h1
    have h1:RepP (Avoid M0 S.m) S.w a (.slice 1 (y::ys) full):=hx;obtain⟨hlen,hat⟩:=DO hns
    cases h1 with
    |slice f hln hcap hfull hsz hM hcell hr=>
     rename_i b off len cap;refine aM.pure hS (v':=.string (strOfNums ns)) (run_convert_bytes_arg S.w src e hs he b off len cap ns (by rw[hln,hlen]) (λi hi=>?_) dst (fH hc.2)) (aH (.str _));have hi2:i<ns.length:=by rw[hlen,<-hln];exact hi
     have hq:=hat i _ (dc hi2);have h2:=hr i 0 _ _ hq rfl;rw[hcell i (by rw[Nat.mul_one,<-hln];exact hi)];rw[Nat.mul_one,pk]at h2;generalize f i=z at h2;cases h2;simp[cd,dc hi2]
   .exact trivial
  .exact trivial
 .exact trivial
theorem LN(hS:HOk P M0 S){x}{a}{i}(hx:Rep M0 S a x):aM P M0 S (Instr.extract a i) (pQ x i S.h):=by
 unfold pQ;split
 .rename_i vs;split
  .rename_i v hv;have h1:RepP (Avoid M0 S.m) S.w a (.tuple vs):=hx
   cases h1 with
   |@tuple C _ hn hr=>
    have hi:=(aF.1 hv).1;refine aM.pure hS (v':=C.getD i undef) ?_ (aH (hr i v hv));simp[Instr.extract,show i<C.size by omega]
  .exact trivial
 .rename_i vs;split
  .rename_i v hv;obtain⟨C,rfl,hn,hr⟩:=hx;have hi:=(aF.1 hv).1;refine aM.pure hS (v':=C.getD i undef) ?_ (pz (hr i v hv));simp[Instr.extract,show i<C.size by omega]
  .exact trivial
 .exact trivial
theorem sk{ρ}{e}(he:∀x,Rep M0 S (ρ x) (e x))(xs:Array Operand):dZ (Rep M0 S) (xs.map ρ) (xs.toList.map e):=by
 refine⟨by simp,λi c hi=>?_⟩;simp only[cO,cg]at hi;obtain⟨x,hx,rfl⟩:=hi;have hil:=(aF.1 hx).1;have:(xs.map ρ).getD i undef=ρ x:=by
  apply getD_some;rw[Array.getElem?_map];rw[Array.getElem?_toList]at hx;simp[hx]
 rw[this];exact he x
theorem wu{v}{a}(h:a.plain=true)(hr:Rep M0 S v a):cS M0 S v a:=by
 cases a<;>first|exact hr|(simp[AV.plain]at h)
theorem IB(hS:HOk P M0 S){fn}{F C}{first cap}(h1:dZ (Rep M0 S) F first)(h2:dZ (Rep M0 S) C cap)(p1:first.all AV.plain=true)(p2:cap.all AV.plain=true) :
  aM P M0 S (Instr.makeFunc fn F C) (.val (A8 fn first cap) S.h):=by
 refine aM.pure hS (v':=.func fn F C) rfl ?_;rw[lm]at p1 p2;unfold A8;split
 .rename_i a b ha hb;have e1:=ju ha;have e2:=ju hb;subst e1;subst e2;exact aH (.func (by simpa using h1.1) (by simpa using h2.1) (λi c hi=>h1.2 i (.p c) (by simp[hi])) (λi c hi=>h2.2 i (.p c) (by simp[hi])))
 .exact⟨F,C,rfl,h1.imp λv c hc hr=>wu (p1 c hc) hr,h2.imp λv c hc hr=>wu (p2 c hc) hr⟩
theorem eO{R}{A B}{a b}(h:dZ R A a)(k:dZ R B b):dZ R (A++B) (a++b):=by
 refine⟨by simp[h.1,k.1],λi c hi=>?_⟩;rcases dF i a.length with hl|hl
 .rw[aX hl]at hi;have:(A++B).getD i undef=A.getD i undef:=by
   have:=h.1;simp[fQ,E3,show i<A.size by omega]
  rw[this];exact h.2 i c hi
 .rw[bW hl]at hi;have:(A++B).getD i undef=B.getD (i-a.length) undef:=by
   have:=h.1;simp[fQ,E3,this,show ¬i<a.length by omega]
  rw[this];exact k.2 _ c hi
theorem nL{C}{l:List PV}(hn:C.size=l.length)(h:∀(i) (c),l[i]?=some c->RepP (Avoid M0 S.m) S.w (C.getD i undef) c):dZ (Rep M0 S) C (l.map .p):=by
 refine⟨by simpa using hn,λi c hi=>?_⟩;simp only[cO,cg]at hi;obtain⟨q,hq,rfl⟩:=hi;exact aH (h i q hq)
theorem lM{v}{a}(h:cS M0 S v a):Rep M0 S v a:=by
 cases a<;>first|exact h|exact False.elim h
theorem NN{f}{vf}{args}{C}(hf:Rep M0 S vf f)(ha:dZ (Rep M0 S) C args) :
  wq P M0 S (do let d<-Deferred.ofValue vf C;invoke d.target d.args) (ga f args):=by
 unfold ga;split
 .rename_i g first cap
  have h1:RepP (Avoid M0 S.m) S.w vf (.func (.func g) first cap):=hf
  cases h1 with
  |@func _ F K _ _ hf hc h1 h2=>
   refine⟨F++C++K,?_,eO (eO (nL hf h1) ha) (nL hc h2)⟩;simp[Deferred.ofValue,invoke]
 .rename_i g first cap
  obtain⟨F,K,rfl,h1,h2⟩:=hf;refine⟨F++C++K,?_,eO (eO (h1.imp λv c _ hr=>lM hr) ha) (h2.imp λv c _ hr=>lM hr)⟩;simp[Deferred.ofValue,invoke]
 .rename_i l;have h1:cS M0 S vf (.ref .yl l):=hf;rcases h1.2 with hd|⟨_,b,hb,rfl⟩
  .obtain⟨⟨b,rfl⟩,_⟩:=h1;exact⟨b,C,by simp[Deferred.ofValue,invoke,xa],ha,.inl hd⟩
  .exact⟨b,C,by simp[Deferred.ofValue,invoke,xa],ha,.inr hb⟩
 .exact trivial
theorem QB{f}{vf}{args}{C}(hf:Rep M0 S vf f)(ha:dZ (Rep M0 S) C args) :
  wq P M0 S (do let d<-Deferred.ofValue vf C;Pure.pure (Next.defer d)) (yb f args):=by
 unfold yb ga;split
 .rename_i g l hg;split at hg
  .rename_i g' first cap
   cases hg;have h1:RepP (Avoid M0 S.m) S.w vf (.func (.func g) first cap):=hf
   cases h1 with
   |@func _ F K _ _ hf hc h1 h2=>
    refine⟨.func g,K,F++C,F++C++K,by simp[Deferred.ofValue],λw=>by simp[invoke],eO (eO (nL hf h1) ha) (nL hc h2)⟩
  .rename_i g' first cap
   cases hg;obtain⟨F,K,rfl,h1,h2⟩:=hf;exact⟨.func g,K,F++C,F++C++K,by simp[Deferred.ofValue],λw=>by simp[invoke],eO (eO (h1.imp λv c _ hr=>lM hr) ha) (h2.imp λv c _ hr=>lM hr)⟩
  .cases hg
  .cases hg
 .exact trivial
theorem FA{z}{n sz}(hz:z.size=sz){i j}(hi:i<n)(hj:j<sz):(Builtin.zeroCells z n).getD (i*sz+j) undef=z.getD j undef:=by
 subst hz;have h1:i*z.size+j<n*z.size:=iT hi hj;have h2:(i*z.size+j)%z.size=j:=by rw[KA,Nat.mul_add_mod,O8 hj]
 simp[Builtin.zeroCells,h1,h2,hj,getElem!_pos]
theorem QJ(hS:HOk P M0 S){T}{x}{v}{ty}(hx:Rep M0 S v x):aM P M0 S (Builtin.clear_ #[T] ty #[v]) (BV P T x S.h):=by
 unfold BV;split
 .rename_i e id ver off len he;split
  .rename_i sz xs sz' z hid hsz hz;split
   .rename_i hc;obtain⟨rfl,hv,hle,hzl,hz0,hzc⟩:=hc;have hu:=cB he;obtain⟨vz,hvz,hcz⟩:=kz hz S.w;have hrep:Rep M0 S vz (.p z):=gP hcz;obtain⟨cs,hcs⟩:=j6.1 hzc;obtain⟨hnz,hrz⟩:=js hrep hcs;have hcl:cs.length=sz':=by
     cases z with
     |tuple l=>simp[AV.cells]at hcs
     |_=>(simp[AV.cells]at hcs;subst hcs;simpa using hzl)
    have hDs:(Builtin.zeroCells vz.cells len).size=(List.replicate len (AV.p z)).length*sz':=by simp[Builtin.zeroCells,hnz,hcl]
    have hDel:dW M0 S sz' (Builtin.zeroCells vz.cells len) (List.replicate len (AV.p z)):=by
     intro i y hi;have hil:i<len:=by have:=(aF.1 hi).1;simpa using this
     rw[KP,if_pos hil]at hi;cases hi;refine⟨cs,hcs,hcl,λj c hc=>?_⟩;have hjl:=(aF.1 hc).1;rw[FA (by rw[hnz,hcl]) hil (by omega)];exact hrz j c hc
    have hunit:Rep M0 S (.tuple #[]) (.p (.tuple [])):=aH (.tuple rfl λi c hi=>by simp at hi);have none0:len=0->(∃a cap,v=.slice a 0 cap)->aM P M0 S (Builtin.clear_ #[T] ty #[v]) (.val (.p (.tuple [])) (S.h.set id (.row sz' (xs.take off++List.replicate len (AV.p z)++xs.drop (off+len))))):=by
     rintro rfl ⟨a,cap,rfl⟩
     refine⟨S,.tuple #[],?_,?_,Ev.refl _ _,hS,hunit⟩
     .simp only[Pe,bC,pk,lr];exact(jP hid).symm
     .cases a<;>simp[Builtin.clear_,run_underlying hu]
    rcases di hx.2 hid hv with⟨h1,h2,h3,ad,cap,rfl⟩|⟨b,cap,T',n,hm,rfl,hcap,hsh,hfit,hreach⟩|⟨hmn,rfl,h0⟩
    .exact none0 h1 ⟨_,_,rfl⟩
    .rcases tN len with h0|h0
     .exact none0 h0 ⟨_,_,by rw[h0]⟩
     .obtain⟨C,T2,hb2,hsize2,hel2⟩:=fF hS hid hm;have hlr:(List.replicate len (AV.p z)).length=len:=by simp
      have hnew:(xs.take off++List.replicate len (AV.p z)++xs.drop (off+len)).length=xs.length:=by simp;omega
      have hfit2:off*sz'+(Builtin.zeroCells vz.cells len).size<=C.size:=by
       rw[hDs,hlr,<-fM];exact lH (jN sz' (by omega)) hsize2
      have hone:=qG hlr (by rw[hDs,hlr]) hDel;have hst:=jr (P:=P) b T2 (Builtin.zeroCells vz.cells len).toList (off*sz') 0 C S.w hb2 (by simpa using hfit2) hone;have hov:(kw C (off*sz') (Builtin.zeroCells vz.cells len).toList).size=C.size:=iO _ _ _;have en:=Ev.set S.h.length hid hm hb2 hov (xs':=xs.take off++List.replicate len (AV.p z)++xs.drop (off+len)) (by omega);have hover:=vZ hel2 hsize2 hDs hDel (p:=off) (by rw[hlr];omega);rw[hlr]at hover
      refine⟨S.set id (.row sz' (xs.take off++List.replicate len (AV.p z)++xs.drop (off+len))) b (kw C (off*sz') (Builtin.zeroCells vz.cells len).toList),.tuple #[],rfl,?_,en,
       HOk.set hS hid hm hb2 hov (by omega) (by rw[hov,hnew];exact hsize2) hover,aH (.tuple rfl λi c hi=>by simp at hi)⟩
      obtain⟨m,rfl⟩:∃m,len=m+1:=⟨len-1,by omega⟩
      simp only[pk]at hst;simp[Builtin.clear_,run_underlying hu,hvz,hst,Mem.set]
    .exact none0 h0 ⟨_,_,rfl⟩
   .exact trivial
  .exact trivial
 .exact trivial
theorem N7(hS:HOk P M0 S){sz len}{y}{v}{ys}(hy:Rep M0 S v y)(h:yP S.h sz len y=some ys) :
  ∃(D:Array Value) (m:Nat),(Builtin.lenOf v).run P S.w=.ok m S.w/\Nat.min m len=ys.length/\(Builtin.firstCells sz ys.length v).run P S.w=.ok D S.w/\D.size=ys.length*sz/\dW M0 S sz D ys:=by
 unfold yP at h;split at h
 .rename_i id ver off n;split at h
  .rename_i sz' xs hid;split at h
   .rename_i hc;obtain⟨rfl,hv,hle⟩:=hc;cases h;have hmn:Nat.min n len<=n:=Nat.min_le_left _ _;have hsl:=AD off (Nat.min n len) xs (by omega);rcases di hy.2 hid hv with⟨rfl,hv0,hoff,ad,cap,rfl⟩|⟨b,cap,T',n',hm,rfl,hcap,hsh,hroom,hreach⟩|⟨hmn',rfl,rfl⟩
    .have e0:Nat.min 0 len=0:=Nat.zero_min _;rw[e0]at hsl |-;refine⟨#[],0,rfl,by rw[hsl,e0],?_,by simp[hsl],λi x hx=>by simp[sub]at hx⟩;rw[hsl]
     cases ad with
     |none=>rfl
     |some a=>simp[Builtin.firstCells,loadCells,loadCellsFrom]
    .obtain⟨C,T,hb,hsize,hel⟩:=fF hS hid hm;have hmul:(off+n)*sz'<=C.size:=lH (jN sz' (by omega)) hsize;have hmul2:Nat.min n len*sz'<=n*sz':=jN sz' hmn;rw[fM]at hmul;refine⟨((List.range (Nat.min n len*sz')).map λk=>C.getD (off*sz'+k) undef).toArray,n,rfl,by rw[hsl],?_,by simp[hsl],λi x hx=>?_⟩
     .have:=run_loadCells (P:=P) S.w ⟨b,off*sz',none⟩ (Nat.min n len*sz') (λk=>C.getD (off*sz'+k) undef) (λj hj=>by
       rw[fD]
       exact jE hb _ (by omega))
      simpa[Builtin.firstCells,hsl]using this
     .have hil:=(aF.1 hx).1;rw[hsl]at hil;have hx':xs[off+i]?=some x:=by
       unfold sub at hx;rw[pg,if_pos hil,nb]at hx;exact hx
      obtain⟨cs,h1,h2,h3⟩:=hel _ x hx';refine⟨cs,h1,h2,λj c hc=>?_⟩;have hjl:=(aF.1 hc).1;rw[iG _ _ _ (iT hil (by omega))];have:=h3 j c hc;rwa [fM,jW]at this
    .have e0:Nat.min 0 len=0:=Nat.zero_min _;rw[e0]at hsl |-;exact⟨#[],0,rfl,by rw[hsl,e0],by rw[hsl];rfl,by simp[hsl],λi x hx=>by simp[sub]at hx⟩
   .cases h
  .cases h
 .rename_i sz' xs full;split at h
  .rename_i ys' he;split at h
   .rename_i hl;cases h;obtain⟨D,h1,h2,h3,h4⟩:=my hS hy he;exact⟨D,ys.length,h1,E8 hl,h2 S.w rfl,h3,h4⟩
   .cases h
  .cases h
 .cases h
theorem Ts(hS:HOk P M0 S){T}{ts}(hT:ts[0]?=some T){x y}{v u}{ty}(hx:Rep M0 S v x)(hy:Rep M0 S u y):aM P M0 S (Builtin.copy_ ts ty #[v,u]) (Fo P T x y S.h):=by
 unfold Fo;split
 .rename_i e id ver off len he;split
  .rename_i sz xs sz' hid hsz;split
   .rename_i hc;obtain⟨rfl,hv,hle⟩:=hc;split
    .rename_i ys hys;obtain⟨D,m,h1,h2,h3,h4,h5⟩:=N7 hS hy hys;have hu:=cB he;have hyl:ys.length<=len:=by rw[<-h2];exact Nat.min_le_right _ _
     have hint:Rep M0 S (goInt (ys.length:Int)) (.p (.int .i64 (ys.length:Int))):=aH (.int _ _);have none0:ys.length=0->(∃a cap,v=.slice a len cap)->aM P M0 S (Builtin.copy_ ts ty #[v,u]) (.val (.p (.int .i64 (ys.length:Int))) (S.h.set id (.row sz' (xs.take off++ys++xs.drop (off+ys.length))))):=by
      rintro h0 ⟨a,cap,rfl⟩
      have hy0:ys=[]:=tK h0;subst hy0;have hD0:D=#[]:=Array.eq_empty_of_size_eq_zero (by simpa using h4);subst hD0;refine⟨S,goInt (([]:List AV).length:Int),?_,?_,Ev.refl _ _,hS,hint⟩
      .simp only[cw,bC,pk,lr];exact(jP hid).symm
      .simp only[cw]at h2 h3 |-;unfold Builtin.copy_;cases a<;>simp[hT,run_underlying hu,bP hsz,h1,h2,h3,storeCells]
     rcases di hx.2 hid hv with⟨e1,e2,e3,ad,cap,rfl⟩|⟨b,cap,T',n,hm,rfl,hcap,hsh,hfit,hreach⟩|⟨hmn,rfl,h0⟩
     .exact none0 (by omega) ⟨_,_,by rw[e1]⟩
     .rcases tN ys.length with h0|h0
      .exact none0 h0 ⟨_,_,rfl⟩
      .obtain⟨C,T2,hb2,hsize2,hel2⟩:=fF hS hid hm;have hnew:(xs.take off++ys++xs.drop (off+ys.length)).length=xs.length:=by simp;omega
       have hfit2:off*sz'+D.size<=C.size:=by
        rw[h4,<-fM];exact lH (jN sz' (by omega)) hsize2
       have hone:=qG rfl h4 h5;have hst:=jr (P:=P) b T2 D.toList (off*sz') 0 C S.w hb2 (by simpa using hfit2) hone;have hov:(kw C (off*sz') D.toList).size=C.size:=iO _ _ _;have en:=Ev.set S.h.length hid hm hb2 hov (xs':=xs.take off++ys++xs.drop (off+ys.length)) (by omega);have hover:=vZ hel2 hsize2 h4 h5 (p:=off) (by omega)
       refine⟨S.set id (.row sz' (xs.take off++ys++xs.drop (off+ys.length))) b (kw C (off*sz') D.toList),goInt (ys.length:Int),rfl,?_,en,
        HOk.set hS hid hm hb2 hov (by omega) (by rw[hov,hnew];exact hsize2) hover,aH (.int _ _)⟩
       simp only[pk]at hst;unfold Builtin.copy_;simp[hT,run_underlying hu,bP hsz,h1,h2,h3,hst,Mem.set]
     .exact none0 (by omega) ⟨_,_,by rw[h0]⟩
    .exact trivial
   .exact trivial
  .exact trivial
 .exact trivial
theorem L8(hS:HOk P M0 S){b}{ts}{ty}{cs}{C}{args}(ha:dZ (Rep M0 S) C args) :
  wq P M0 S (builtin b ts ty cs C) (sR P b ts args S.h):=by
 have one:∀x,args=[x]->∃v,C=#[v]/\Rep M0 S v x:=by
  intro x hx;subst hx;have hn:=ha.1;have:C=#[C.getD 0 undef]:=by
   apply nw
   .simpa using hn
   .intro i h1 h2;have:i=0:=by simp at h2;omega
    subst this;simp[h1]
  exact⟨C.getD 0 undef,this,ha.2 0 x rfl⟩
 have two:∀x y,args=[x,y]->∃u v,C=#[u,v]/\Rep M0 S u x/\Rep M0 S v y:=by
  intro x y hx;subst hx;have hn:=ha.1;have:C=#[C.getD 0 undef,C.getD 1 undef]:=by
   apply nw
   .simpa using hn
   .intro i h1 h2;have:i=0\/i=1:=by simp at h2;omega
    rcases this with rfl|rfl<;>simp[h1]
  exact⟨_,_,this,ha.2 0 x rfl,ha.2 1 y rfl⟩
 unfold sR;split
 .rename_i x;obtain⟨v,rfl,hv⟩:=one _ rfl;split
  .rename_i hts;have:ts=#[ts.getD 0 0]:=by
    apply nw
    .simpa using hts
    .intro i h1 h2;have:i=0:=by simp at h2;omega
     subst this;simp[h1]
   have h:=(Vj (P:=P) (T:=ts.getD 0 0) (ty:=ty) hS hv).op;rw[<-this]at h;exact h
  .exact trivial
 .rename_i x y;obtain⟨u,v,rfl,hu,hv⟩:=two _ _ rfl;split
  .rename_i hts;have:ts=#[ts.getD 0 0,ts.getD 1 0]:=by
    apply nw
    .simpa using hts
    .intro i h1 h2;have:i=0\/i=1:=by simp at h2;omega
     rcases this with rfl|rfl<;>simp[h1]
   have h:=(Ei (P:=P) (T:=ts.getD 0 0) (U:=ts.getD 1 0) (ty:=ty) hS hu hv).op;rw[<-this]at h;exact h
  .exact trivial
 .rename_i j a k b;obtain⟨u,v,rfl,hu,hv⟩:=two _ _ rfl;have:=iJ hu;subst this;have:=iJ hv;subst this;refine⟨S,_,rfl,?_,Ev.refl _ _,hS,aH (.int _ _)⟩;simp[builtin,Builtin.min_,Builtin.min2]
 .rename_i j a k b;obtain⟨u,v,rfl,hu,hv⟩:=two _ _ rfl;have:=iJ hu;subst this;have:=iJ hv;subst this;refine⟨S,_,rfl,?_,Ev.refl _ _,hS,aH (.int _ _)⟩;simp[builtin,Builtin.max_,Builtin.max2]
 .show (builtin .recover ts ty cs C).run P S.w=.ok .recover S.w;simp[builtin]
 .rename_i x;obtain⟨v,rfl,hv⟩:=one _ rfl;split
  .rename_i hts;have:ts=#[ts.getD 0 0]:=by
    apply nw
    .simpa using hts
    .intro i h1 h2;have:i=0:=by simp at h2;omega
     subst this;simp[h1]
   have h:=(QJ (P:=P) (T:=ts.getD 0 0) (ty:=ty) hS hv).op;rw[<-this]at h;exact h
  .exact trivial
 .rename_i x y;obtain⟨u,v,rfl,hu,hv⟩:=two _ _ rfl;split
  .rename_i hts;exact(Ts (P:=P) (T:=ts.getD 0 0) (ts:=ts) (ty:=ty) hS (by simp[fQ,hts]) hu hv).op
  .exact trivial
 .exact trivial
theorem Xe(hS:HOk P M0 S){mu}{o}{ρ}{e}(he:∀x,Rep M0 S (ρ x) (e x)):wq P M0 S (execOp ρ o) (b8 P mu o e S.h):=by
 have pure1:∀(v:AV) (v':Value) (s:Sem Next),s.run P S.w=.ok (.value v') S.w->Rep M0 S v' v->wq P M0 S s (.val v S.h):=
  λv v' s h1 h2=>⟨S,v',rfl,h1,Ev.refl _ _,hS,h2⟩
 unfold b8;split
 .rename_i x hop;unfold execOp;rw[hop];exact pure1 _ _ _ rfl (he x)
 .rename_i x hop;unfold execOp;rw[hop];exact pure1 _ _ _ rfl (he x)
 .rename_i c a b hop;unfold execOp;rw[hop];dsimp only;split
  .rename_i t ht;have:=he c;rw[ht]at this;have hb:=nJ this;refine pure1 _ (if t then ρ a else ρ b) _ ?_ (by cases t<;>simp<;>exact he _);simp only[hb];cases t<;>simp[asBool]
  .exact trivial
 .rename_i T hop;unfold execOp;rw[hop];dsimp only;split
  .split
   .rename_i hz _;exact(Jg hS hz).op
   .exact trivial
  .split
   .rename_i z hz;split
    .rename_i hc;exact(Rk hS hz hc).op
    .exact trivial
   .exact trivial
 .rename_i T x hop;unfold execOp;rw[hop];dsimp only;split
  .rename_i cs hcs;exact(DF hS (he x) hcs).op
  .exact trivial
 .rename_i T ps hop;unfold execOp;rw[hop];dsimp only;refine(Q5 hS (by simp) λi p q h1 h2=>?_).op;simp only[cO,cg,Array.toList_map]at h1 h2;obtain⟨r,h3,rfl⟩:=h1;obtain⟨r',h4,rfl⟩:=h2;rw[h3]at h4;cases h4;exact⟨rfl,he _⟩
 .rename_i T n ps hop;unfold execOp;rw[hop];dsimp only;refine(EQ hS (by simp) λi p q h1 h2=>?_).op;simp only[cO,cg,Array.toList_map]at h1 h2;obtain⟨r,h3,rfl⟩:=h1;obtain⟨r',h4,rfl⟩:=h2;rw[h3]at h4;cases h4;exact⟨rfl,he _⟩
 .rename_i T a hop;unfold execOp;rw[hop];exact(SS hS (he a)).op
 .rename_i T a x hop;unfold execOp;rw[hop];exact(Pv hS (he a) (he x)).op
 .rename_i x hop;split
  .rename_i sz xs i o' hx;have h:=he x;rw[hx]at h;have h1:RepP (Avoid M0 S.m) S.w (ρ x) (.ptr sz xs i o'):=h;generalize hv:ρ x=v at h1
   cases h1 with
   |ptr f hat hs hM hc hr=>exact pure1 _ _ _ (by unfold execOp;rw[hop];simp only[hv];rfl) (aH (.ptr f hat hs hM hc hr))
  .rename_i id ver i o' hx;split
   .rename_i sz hl;obtain⟨xs,hid,hv⟩:=lU hl;have h:=he x;rw[hx]at h;obtain⟨b,hm,hvx⟩:=di h.2 hid hv;exact pure1 _ _ _ (by unfold execOp;rw[hop];simp only[hvx];rfl) (vL hid hv hm)
   .exact trivial
  .exact trivial
 .rename_i op T x y yT hop;unfold execOp;rw[hop];exact(Wo hS (he x) (he y)).op
 .rename_i op T x hop;unfold execOp;rw[hop];exact(Xa hS (he x)).op
 .rename_i src dst x hop;unfold execOp;rw[hop];exact(LS hS (he x)).op
 .rename_i T x hop;unfold execOp;rw[hop];dsimp only;split
  .rename_i hT;split
   .rename_i v hv;have h:=he x;rw[hv]at h;refine pure1 _ (.iface T (ρ x)) _ ?_ (aH (.iface h));unfold gB at hT;split at hT
    .cases hT
    .rename_i d hd hu;unfold Instr.makeInterface;simp only[Sem.run_bind,run_underlying hu,dl];cases d<;>first|rfl|exact absurd rfl (hd _)
    .cases hT
   .exact trivial
  .exact trivial
 .rename_i fn first cap hop
  unfold execOp;rw[hop];dsimp only;split
  .rename_i hc;exact(IB hS (sk he first) (sk he cap) hc.1 hc.2).op
  .exact trivial
 .rename_i T l c hop;unfold execOp;rw[hop];exact(GB hS (he l) (he c)).op
 .rename_i T x lo hi mx hop;unfold execOp;rw[hop];dsimp only;have key:∀(z:Option Operand) (a:AV) (v:Value),z.map e=some a->z.map ρ=some v->Rep M0 S v a:=by
   intro z a v h1 h2
   cases z with
   |none=>cases h1
   |some z=>cases h1;cases h2;exact he z
  exact(PA hS (he x) (by cases lo<;>rfl) (by cases hi<;>rfl) (by cases mx<;>rfl) (key lo) (key hi) (key mx)).op
 .rename_i T x f hop;unfold execOp;rw[hop];exact(GW hS (he x)).op
 .rename_i T x f hop;unfold execOp;rw[hop];exact(Qt hS (he x)).op
 .rename_i T x i hop;unfold execOp;rw[hop];exact(GP hS (he x) (he i)).op
 .rename_i T x i hop;unfold execOp;rw[hop];exact(Qg hS (he x) (he i)).op
 .rename_i t i hop;unfold execOp;rw[hop];exact(LN hS (he t)).op
 .rename_i c hop;unfold execOp;rw[hop];dsimp only;split
  .rename_i f hc;have:=NN (P:=P) (he f) (sk he c.args);simp only[resolve,hc];exact this
  .rename_i b hc;have:=L8 (P:=P) (b:=b) (ts:=c.argTypes) (ty:=o.type) (cs:=c.args.map λ| .const _=>true|_=>false) hS (sk he c.args);simp only[resolve,hc];exact this
  .exact trivial
 .rename_i c hop;unfold execOp;rw[hop];dsimp only;split
  .rename_i f hc;have:=QB (P:=P) (he f) (sk he c.args);simp only[resolve,hc];exact this
  .exact trivial
 .rename_i x hop;unfold execOp;rw[hop];dsimp only;split
  .rename_i t v hv;have h:=he x;rw[hv]at h;have h1:RepP (Avoid M0 S.m) S.w (ρ x) (.iface t v):=h;generalize hvx:ρ x=vx at h1
   cases h1 with
   |iface h2=>exact⟨_,by simp[Instr.panic],.iface h2⟩
  .exact trivial
 .rename_i x T A ok hop;unfold execOp;rw[hop];exact(Et hS (he x)).op
 .rename_i T x hop;unfold execOp;rw[hop];exact(PO hS (he x)).op
 .rename_i i b hop;unfold execOp;rw[hop];exact(SN hS (he i)).op
 .rename_i T r hop;unfold execOp;rw[hop]
  cases r with
  |none=>exact(Lp hS).op
  |some _=>exact trivial
 .rename_i T x k ok hop;unfold execOp;rw[hop];exact(Ny hS (he x) (he k)).op
 .rename_i T m k v hop;unfold execOp;rw[hop];exact(GA hS (he m) (he k) (he v)).op
 .exact trivial
end Abs
end Go.Proofs.YtoapoaoelpcniaaGreatDoor
namespace Go.Proofs.YtoapoaoelpcniaaGreatDoor
namespace Abs
def O6 (M0:Nat->Prop) (S:Mem):Ending->AEnd->Prop
 |.returned v',.ret v=>Rep M0 S v' v
 |.panicked ch,.panic v=>∃v',ch=[{ v:=v',recovered:=false }]/\RepP (Avoid M0 S.m) S.w v' v
 |_,_=>False
def sY (P:Program) (M0:Nat->Prop) (S:Mem) (R:AEnd->Heap->Prop) (e:Ending) (w':World):Prop:=
 ∃(r:AEnd) (h':Heap) (m':List (Option Nat)),R r h'/\Ev S.h.length S ⟨m',h',w'⟩/\HOk P M0 ⟨m',h',w'⟩/\O6 M0 ⟨m',h',w'⟩ e r
def aD (P:Program) (f:FuncId) (args:List AV) (h:Heap) (R:AEnd->Heap->Prop):Prop:=
 ∀(M0:Nat->Prop) (m:List (Option Nat)) (w:World) (cargs:Array Value),HOk P M0 ⟨m,h,w⟩->dZ (Rep M0 ⟨m,h,w⟩) cargs args ->
  (∀w',(callFunc f cargs).run P w'=.ok (.enter f cargs) w')/\Calls P f cargs w (sY P M0 ⟨m,h,w⟩ R)
def ue (P:Program) (l:Nat) (args:List AV) (h:Heap) (R:AEnd->Heap->Prop):Prop:=
 (∃o,h[l]?=some o/\o.tag=some .yl) /\
 ∀(M0:Nat->Prop) (m:List (Option Nat)) (w:World) (cargs:Array Value) (b:Nat),HOk P M0 ⟨m,h,w⟩->dZ (Rep M0 ⟨m,h,w⟩) cargs args->m.getD l none=some b ->
  ∃(f:FuncId) (tmps:Array Value) (assign body:Code),(Instr.yield b cargs).run P w=.ok (.round b f tmps assign body) w /\
   ∀(c:Frame) (cs:List Frame),∃e w',sY P M0 ⟨m,h,w⟩ R e w' /\
    match e with
    |.returned v=>Steps P (lone (Frame.round b f tmps assign body .normal) (c::cs) w) (lone (c.finish v) cs w')
    |.panicked ch=>Steps P (lone (Frame.round b f tmps assign body .normal) (c::cs) w) (lone (c.raise ch) cs w')
    |.outgrown=>False
inductive AMode where
 |ret
 |pan (v:PV)
 |recd (v:PV)
def yO:AMode->AMode
 |.recd _=>.ret
 |u=>u
def jm (M0:Nat->Prop) (S:Mem) (um:FrameMode):AMode->Prop
 |.ret=>um=.returning
 |.pan v=>∃v',um=.panicking [{ v:=v',recovered:=false }]/\RepP (Avoid M0 S.m) S.w v' v
 |.recd _=>∃v',um=.panicking [{ v:=v',recovered:=true }]
def j3 (P:Program) (f:FuncId) (args:List AV) (u:AMode) (h:Heap) (R:AEnd->AMode->Heap->Prop):Prop:=
 ∀(M0:Nat->Prop) (m:List (Option Nat)) (w:World) (cargs:Array Value) (um:FrameMode),HOk P M0 ⟨m,h,w⟩->dZ (Rep M0 ⟨m,h,w⟩) cargs args->jm M0 ⟨m,h,w⟩ um u ->
  (∀w',(callFunc f cargs).run P w'=.ok (.enter f cargs) w') /\
  CallsD P f cargs um w λe um' w'=>∃(r:AEnd) (u':AMode) (h':Heap) (m':List (Option Nat)),R r u' h'/\Ev h.length ⟨m,h,w⟩ ⟨m',h',w'⟩/\HOk P M0 ⟨m',h',w'⟩ /\
   O6 M0 ⟨m',h',w'⟩ e r/\jm M0 ⟨m',h',w'⟩ um' u'
def H9 (P:Program) (M0:Nat->Prop) (S:Mem) (d:Deferred):ADef->Prop
 |.fn g args=>∃(fv:Fn) (cap dargs cargs:Array Value),d={ target:=.fn fv cap,args:=dargs } /\
   (∀w,(invoke (.fn fv cap) dargs).run P w=(callFunc g cargs).run P w)/\dZ (Rep M0 S) cargs args
 |.collected id=>∃b,d={ target:=.collected b,args:=#[] }/\(S.h[id]?=some .dead\/(S.h[id]?=some .dblock/\S.m.getD id none=some b))
def DefsRep (P:Program) (M0:Nat->Prop) (S:Mem):List Deferred->List ADef->Prop
 |[],[]=>True
 |d::ds,x::xs=>H9 P M0 S d x/\DefsRep P M0 S ds xs
 |_,_=>False
def RcRep (M0:Nat->Prop) (S:Mem) (b:Frame) (cs0:List Frame):Rc->Prop
 |.no=>b.roundOf=none
 |.rnd=>b.roundOf.isSome=true/\b.kind=.normal
 |.none=>b.roundOf=none/\b.kind=.deferred/\recoverD cs0=none
 |.pend v=>b.roundOf=none/\b.kind=.deferred/\∃v' cs1,recoverD cs0=some (v',cs1)/\RepP (Avoid M0 S.m) S.w v' v
 |.got _=>b.roundOf=none/\b.kind=.deferred/\∃v' cs1,recoverD cs0=some (v',cs1)
def bu:Rc->List Frame->List Frame
 |.got _,cs=>match recoverD cs with|some (_,c)=>c|none=>cs
 |_,cs=>cs
structure Rel (P:Program) (M0:Nat->Prop) (S0:Mem) (b:Frame) (cs0:List Frame) (m:List (Option Nat)) (A:AAct) (a:Act) (w:World):Prop where
 size:a.tmps.size=A.n
 tmps:∀t,Rep M0 ⟨m,A.h,w⟩ (a.tmps.getD t undef) (A.tmps t)
 hok:HOk P M0 ⟨m,A.h,w⟩
 ev:Ev A.bs S0 ⟨m,A.h,w⟩
 le:A.bs<=A.h.length/\∃f,P.funcs[b.fn]?=some f
 df:DefsRep P M0 ⟨m,A.h,w⟩ a.defers A.df
 rc:RcRep M0 ⟨m,A.h,w⟩ b cs0 A.rc
def f7 (P:Program) (A B:AAct):Prop:=
 B.n=A.n/\B.rc=A.rc/\∀M0 S0 b cs0 m a w,Rel P M0 S0 b cs0 m A a w->∃m',Rel P M0 S0 b cs0 m' B a w
def CG (K:AV->Heap->Prop) (Q:PV->Heap->Prop):AEnd->Heap->Prop
 |.ret v,h=>K v h
 |.panic v,h=>Q v h
def v6 (K:Prop):Rc->Prop
 |.rnd=>False
 |_=>K
def PJ (A:AAct) (K:AAct->PV->Prop):Rc->Prop
 |.none=>K A .niliface
 |.pend v=>K { A with rc:=.got v } v
 |.got _=>K A .niliface
 |_=>False
def lz (P:Program) (A:AAct) (dst:Option Tmp) (K:AAct->Prop) (Q:Ex->AAct->Prop):OR->Prop
 |.val v h=>K (A.put dst v h)
 |.skip h=>K (A.put dst (.p (.tuple [])) h)
 |.call f args=>aD P f args A.h (CG (λv h=>K (A.put dst v h)) (λv h=>Q (.panic v) { A with h:=h }))
 |.yld l args=>ue P l args A.h (CG (λv h=>K (A.put dst v h)) (λv h=>Q (.panic v) { A with h:=h }))
 |.dfr d=>v6 (K ({ A with df:=d::A.df }.put dst (.p (.tuple [])) A.h)) A.rc
 |.recover=>PJ A (λB v=>K (B.put dst (.p v) A.h)) A.rc
 |.panic v=>Q (.panic v) A
 |.stuck=>False
def tf (X Y:Unit->Prop):Option Bool->Prop
 |some b=>H' b X Y
 |none=>False
def Fi (X Y:Unit->Prop):AV->Prop
 |.p (.bool b)=>H' b X Y
 |_=>False
def ep (K:AAct->Prop) (Q:Ex->AAct->Prop):Ex->AAct->Prop
 |.normal,A=>K A
 |.exit j,A=>Q (.exit j) A
 |.ret,A=>Q .ret A
 |.panic v,A=>Q (.panic v) A
def kp (id:Nat) (Q:Ex->AAct->Prop):Ex->AAct->Prop
 |.exit j,A=>if j=id then Q .normal A else Q (.exit j) A
 |.normal,A=>Q .normal A
 |.ret,A=>Q .ret A
 |.panic v,A=>Q (.panic v) A
inductive Hint where
 |std|mut|low|bar
  |slot (j sz:Nat)
  |sto
  |nop
  |app (t:Nat)
  |thr
  |cal
 deriving DecidableEq
def Hint.isMut:Hint->Bool
 |.mut=>true
 |_=>false
abbrev Hints:=Nat->Hint
def aS (H:Hints):Nat->Bool:=λd=>(H d).isMut
def i7 (P:Program) (H:Hints) (ops:Array Oper) (Q:Ex->AAct->Prop):List Oper->AAct->Prop
 |[],A=>Q .normal A
 |o::rest,A=>
   tf (λ_=>lz P A o.dst (i7 P H ops Q rest) Q (b8 P (aS H) o A.eval A.h))
    (λ_=>i7 P H ops Q rest (A.put o.dst (.p (.tuple [])) A.h)) (bA ops A o)
def AObj.isDead:AObj->Bool
 |.dead=>true
 |_=>false
def cL (h h':Heap):Prop:=∀(id:Nat) (o:AObj),h[id]?=some o->o.isDead=false->h'[id]?=some o
inductive DC where
 |bar|alloc|quiet|low
 |slot (j sz:Nat)
 |sto
 |nop
 |app (t:Nat)
 |thr
 |cal
 deriving DecidableEq
def qy:Op->Bool
 |.alloc _=>true
 |.box _ _=>true
 |.makeSlice _ _ _=>true
 |.makeMap _ none=>true
 |_=>false
def zZ:Op->Bool
 |.alloc _=>true
 |.box _ _=>true
 |_=>false
def fa:Op->Bool
 |.move _|.assign _|.pick _ _ _|.build _ _|.buildSlice _ _ _|.load _ _|.nilCheck _|.binOp _ _ _ _ _|.unOp _ _ _|.convert _ _ _|.makeInterface _ _|.makeFunc _ _ _
 |.slice _ _ _ _ _|.fieldAddr _ _ _|.field _ _ _|.indexAddr _ _ _|.index _ _ _|.extract _ _|.lookup _ _ _ _|.typeAssert _ _ _ _=>true
 |.call c=>
  match c.callee with
  |.value _=>true
  |.builtin .len=>true
  |.builtin .min=>true
  |.builtin .max=>true
  |_=>false
 |_=>false
def Bl:Op->Bool
 |.call c=>match c.callee with|.builtin .append=>true|.builtin .copy=>true|_=>false
 |_=>false
def RH:Operand->Nat
 |.tmp x=>x
 |_=>999
def u7 (H:Hints):Op->DC
 |.store _ (.tmp t) y=>match H (1000000+1000*t+RH y) with|.sto=>.sto|.nop=>.nop|_=>.bar
 |_=>.bar
def bT (H:Hints) (o:Oper):DC:=
 match o.dst with
 |none=>u7 H o.op
 |some d=>
  match H d with
  |.std=>if qy o.op=true then .alloc else if fa o.op=true then .quiet else .bar
  |.mut=>.alloc
  |.low=>if fa o.op=true then .low else .bar
  |.slot j sz=>if zZ o.op=true then .slot j sz else .bar
  |.app t=>if Bl o.op=true then .app t else .bar
  |.thr=>if fa o.op=true then .thr else .bar
  |.cal=>if fa o.op=true then .cal else .bar
  |_=>.bar
def y0 (P:Program) (h:Heap) (K:AV->Prop):OR->Prop
 |.val v h'=>h'=h/\K v
 |.call f args=>∃v,(∀h',cL h h'->aD P f args h' (λr h''=>r=.ret v/\h''=h'))/\K v
 |_=>False
def C4 (h:Heap) (K:AV->Heap->Prop):OR->Prop
 |.val v h'=>(∃t,h'=h++t)/\K v h'
 |_=>False
def g9 (P:Program) (e:Operand->AV):Op->Option AV
 |.alloc T=>(au P T).map .p
 |.box _ x=>some (e x)
 |_=>none
def iX (hs:Heap) (id:Nat):Bool:=
 match hs[id]? with
 |some .dead=>true
 |none=>true
 |_=>false
def tj (hs h:Heap) (j sz:Nat) (K:AV->Heap->Prop):Option AV->Prop
 |some z=>z.cells.map (·.length)=some sz/\iX hs (hs.length-1-j)=true/\h[hs.length-1-j]?=some (.row sz [])/\K (.ptr (hs.length-1-j) 1 0 0) (h.set (hs.length-1-j) (.row sz [z]))
 |none=>False
def rq (K:Heap->Prop):OR->Prop
 |.skip h=>K h
 |_=>False
def wO (P:Program) (hs h:Heap) (e:Operand->AV) (K:Heap->Prop):Op->Prop
 |.store T a x=>match e a with
  |.ptr id ver i o=>iX hs id=true/\rq K (gX P T (.ptr id ver i o) (e x) h)
  |_=>False
 |_=>False
def xi (P:Program) (h:Heap) (e:Operand->AV) (K:Prop):Op->Prop
 |.store T a x=>gX P T (e a) (e x) h=.skip h/\K
 |_=>False
def R5 (hs h h':Heap):Prop:=(∃t,h'=h++t)\/∃id ob,h'=h.set id ob/\iX hs id=true
def Al (hs h:Heap) (K:AV->Heap->Prop):OR->Prop
 |.val v h'=>R5 hs h h'/\K v h'
 |_=>False
def zD (P:Program) (Q:Ex->AAct->Prop) (A:AAct) (K:AV->Prop):OR->Prop
 |.call f args=>(∃v,(∀h',cL A.h h'->aD P f args h' (λr h''=>r=.ret v/\h''=h'))/\K v) \/
   ∃v,aD P f args A.h (λr h''=>r=.panic v/\h''=A.h)/\∀T,Q (.panic v) { A with tmps:=T }
 |_=>False
def Lt (H:Hints) (T S:Nat->AV):Prop:=∀t,H (6000000+t)=.nop->T t=S t
def sK (P:Program) (H:Hints) (Q:Ex->AAct->Prop) (hs:Heap) (A:AAct) (K:AV->Heap->Prop):OR->Prop
 |.call f args=>aD P f args A.h (CG (λv h=>cL hs h/\K v h) (λv h=>∀T,Lt H T A.tmps->Q (.panic v) { A with tmps:=T,h:=h }))
 |_=>False
def VO (X Y Z W:Unit->Prop) (U:Nat->Nat->Prop) (V N E R C:Unit->Prop):DC->Prop
 |.bar=>X ()
 |.alloc=>Y ()
 |.quiet=>Z ()
 |.low=>W ()
 |.slot j sz=>U j sz
 |.sto=>V ()
 |.nop=>N ()
 |.app _=>E ()
 |.thr=>R ()
 |.cal=>C ()
def bR (P:Program) (H:Hints) (ops:Array Oper) (Q:Ex->AAct->Prop):List Oper->Heap->AAct->Prop
 |[],_,A=>Q .normal A
 |o::rest,hs,A=>
   tf (λ_=>VO
     (λ_=>lz P A o.dst (λB=>bR P H ops Q rest B.h B) Q (b8 P (aS H) o A.eval A.h))
     (λ_=>C4 A.h (λv h=>bR P H ops Q rest hs (A.put o.dst v h)) (b8 P (aS H) o A.eval A.h))
     (λ_=>y0 P A.h (λv=>bR P H ops Q rest hs (A.put o.dst v A.h)) (b8 P (aS H) o A.eval A.h))
     (λ_=>y0 P hs (λv=>bR P H ops Q rest hs (A.put o.dst v A.h)) (b8 P (aS H) o A.eval hs))
     (λj sz=>tj hs A.h j sz (λv h=>bR P H ops Q rest hs (A.put o.dst v h)) (g9 P A.eval o.op))
     (λ_=>wO P hs A.h A.eval (λh=>bR P H ops Q rest hs (A.put o.dst (.p (.tuple [])) h)) o.op)
     (λ_=>xi P A.h A.eval (bR P H ops Q rest hs (A.put o.dst (.p (.tuple [])) A.h)) o.op)
     (λ_=>Al hs A.h (λv h=>bR P H ops Q rest hs (A.put o.dst v h)) (b8 P (aS H) o A.eval A.h))
     (λ_=>zD P Q A (λv=>bR P H ops Q rest hs (A.put o.dst v A.h)) (b8 P (aS H) o A.eval A.h))
     (λ_=>sK P H Q hs A (λv h=>bR P H ops Q rest hs (A.put o.dst v h)) (b8 P (aS H) o A.eval A.h))
     (bT H o))
    (λ_=>bR P H ops Q rest hs (A.put o.dst (.p (.tuple [])) A.h)) (bA ops A o)
def tm (H:Hints):List Oper->List Nat
 |[]=>[]
 |o::l=>match bT H o with|.slot _ sz=>sz::tm H l|_=>tm H l
def n9 (H:Hints) (T:Nat->AV):List Oper->List Nat
 |[]=>[]
 |o::l=>match bT H o,o.op with
  |.sto,.store _ (.tmp t) _=>(match T t with|.ptr id _ _ _=>id::n9 H T l|_=>n9 H T l)
  |.app t,_=>(match T t with|.slice id _ _ _=>id::n9 H T l|_=>n9 H T l)
  |_,_=>n9 H T l
def vF (h:Heap):List Nat->Heap
 |[]=>h
 |id::l=>vF (h.set id .dead) l
def gA (id:Nat) (h:Heap):Heap:=h.mapIdx λi o=>if i=id then o else .dead
def Li (H:Hints) (T:Nat->AV):Option Nat:=match H 5000001 with|.app t=>(match T t with|.ptr id _ _ _=>some id|.slice id _ _ _=>some id|_=>none)|.nop=>some 1000000000|_=>none
def yu (H:Hints) (ops:List Oper) (A:AAct):Heap:=match Li H A.tmps with|some id=>gA id A.h|none=>vF A.h (n9 H A.tmps ops)
def oU (H:Hints) (ops:List Oper) (A:AAct):Heap:=yu H ops A++(tm H ops).map λ_=>.dead
def Gt {α:Type} (a b:Nat) (l:List α):List α:=if a<b/\b<l.length then l.take a++(l.drop (a+1)).take (b-a)++(l.drop a).take 1++l.drop (b+1) else l
def vt (H:Hints) (n:Nat):List Nat:=match H 5000000 with|.slot a b=>Gt a b (List.range n)|_=>List.range n
def zP (H:Hints) (l:List Oper):List Oper:=match H 5000000 with|.slot a b=>Gt a b l|_=>l
def rH (H:Hints) (ops:List Oper) (A:AAct):AAct:={ A with h:=A.h++(tm H ops).map λsz=>.row sz [] }
def vR (Q:Ex->AAct->Prop) (A:AAct):Option Code->Prop
 |none=>Q .normal A
 |some .ret=>Q .ret A
 |some (.exit id)=>Q (.exit id) A
 |_=>False
def nP (Q:Ex->AAct->Prop) (A:AAct) (l:Nat):Option AObj->Prop
 |some (.loop _ _ _ _ _ st pend)=>st≠.busy/\vR Q { A with h:=A.h.set l .dead } pend
 |_=>False
def xd (P:Program) (A:AAct) (h:Heap) (l:Nat) (Q:Ex->AAct->Prop):OR->Prop
 |.call g args=>aD P g args h (CG (λ_ h'=>nP Q { A with h:=h',df:=.collected l::A.df } (l+1) h'[l+1]?)
   (λv h'=>Q (.panic v) { A with h:=h',df:=.collected l::A.df }))
 |_=>False
def wp (P:Program) (H:Hints):Code->(Ex->AAct->Prop)->AAct->Prop
 |.skip,Q,A=>Q .normal A
 |.region _ ops false,Q,A=>i7 P H ops Q ops.toList A
 |.region _ ops true,Q,A=>bR P H ops Q (zP H ops.toList) (oU H ops.toList A) (rH H ops.toList A)
 |.seq a b,Q,A=>wp P H a (ep (wp P H b Q) Q) A
 |.cond c x y,Q,A=>Fi (λ_=>wp P H x Q A) (λ_=>wp P H y Q A) (A.eval c)
 |.block id b,Q,A=>wp P H b (kp id Q) A
 |.loop b,Q,A=>∀X:AAct->Prop,(∀B,wp P H b (ep (λC=>∃D,f7 P C D/\X D) Q) B->X B)->∃B,f7 P A B/\X B
 |.rangeFunc g ps assign body,Q,A=>v6 (xd P A (A.h++[.dblock,.loop A.n A.tmps ps assign body .ready none]) A.h.length Q (ga (A.eval g) [.ref .yl (A.h.length+1)])) A.rc
 |.exit id,Q,A=>Q (.exit id) A
 |.ret,Q,A=>Q .ret A
 |.scope b,Q,A=>wp P H b Q A
 |.label _,Q,A=>Q .normal A
 |_,_,_=>False
def oT (n:Nat) (o:Oper):Bool:=match o.dst with|some d=>decide (d<n)|none=>true
def HD (b:Array Nat) (i j:Nat):Bool:=(b.getD j 0).testBit i
def lQ:DC->DC->Bool
 |.alloc,.low=>true
 |.quiet,.alloc|.quiet,.quiet|.quiet,.low=>true
 |.low,.alloc|.low,.quiet|.low,.low|.low,.slot _ _|.low,.sto=>true
 |.slot _ _,.low|.slot _ _,.slot _ _=>true
 |.sto,.low=>true
 |.app _,.low|.low,.app _=>true
 |.nop,.low|.nop,.quiet|.nop,.nop|.low,.nop|.quiet,.nop=>true
 |.quiet,.thr|.low,.thr=>true
 |.low,.cal=>true
 |_,_=>false
def vS (o:Oper):Bool:=
 match o.guard,o.op with
 |none,.move _=>true
 |none,.assign _=>true
 |_,_=>false
def yw:DC->Bool
 |.thr=>true
 |_=>false
def rE:DC->Bool
 |.quiet=>true
 |_=>false
def RW (H:Hints) (x y:Oper):Bool:=
 match bT H y with
 |.cal=>(match x.dst with|some d=>decide (H (6000000+d)≠.nop)|none=>true)
 |_=>true
def qr (H:Hints) (ops:Array Oper) (x y:Oper):Bool:=(lQ (bT H x) (bT H y)||(yw (bT H x)&&vS y&&rE (bT H y)))&&(Oper.apart ops x y&&RW H x y)
def AY (H:Hints) (ops:Array Oper) (b:Array Nat):List Nat->Bool
 |[]=>true
 |i::r=>
  (match ops[i]? with
   |some x=>(x.after.all λe=>!Region.binds .any e||(decide (e.on<ops.size)&&!(i::r).contains e.on)) &&
    r.all λj=>!(i==j)&&(match ops[j]? with|some y=>HD b i j||qr H ops x y|none=>false)
   |none=>false)&&AY H ops b r
def G2 (H:Hints) (ops:Array Oper):Bool:=
 (ops.toList.all λy=>Region.noSelect ops)&&decide ((vt H ops.size).length=ops.size)&&AY H ops (Region.before ops) (vt H ops.size)
def dh (H:Hints) (n:Nat):Code->Bool
 |.region _ ops false=>ops.toList.all (oT n)
 |.region _ ops true=>ops.toList.all (oT n)&&G2 H ops
 |.seq a b=>dh H n a&&dh H n b
 |.cond _ a b=>dh H n a&&dh H n b
 |.block _ b=>dh H n b
 |.loop b=>dh H n b
 |.rangeFunc _ _ a b=>dh H n a&&dh H n b
 |.scope b=>dh H n b
 |_=>true
end Abs
end Go.Proofs.YtoapoaoelpcniaaGreatDoor
