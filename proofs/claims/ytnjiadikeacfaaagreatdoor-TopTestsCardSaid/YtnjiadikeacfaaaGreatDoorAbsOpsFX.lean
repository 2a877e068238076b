/- CONTRACTS of the program's functions, and laws on what they return. No conditions but those in the theorems' heads. -/
import Derived.Test.YtnjiadikeacfaaaGreatDoorAbsPut
import Derived.Laws.BytesArg
import Derived.AtR
import Derived.Recover
set_option linter.all false
namespace Go.Proofs.YtnjiadikeacfaaaGreatDoor
namespace Abs
variable {P:Program} {M0:Nat->Prop} {S:Mem}
def uI (P:Program) (M0:Nat->Prop) (S:Mem) (s:Sem Next):OR->Prop
 |.val v h=>∃(S':Mem) (v':Value),S'.h=h/\s.run P S.w=.ok (.value v') S'.w/\Ev S.h.length S S'/\HOk P M0 S'/\Rep M0 S' v' v
 |.skip h=>∃S':Mem,S'.h=h/\s.run P S.w=.ok .skip S'.w/\Ev S.h.length S S'/\HOk P M0 S'
 |.call f args=>∃cargs:Array Value,s.run P S.w=(callFunc f cargs).run P S.w/\dE (Rep M0 S) cargs args
 |.panic v=>∃v':Value,s.run P S.w=.halt (.panic v') S.w/\RepP (Avoid M0 S.m) S.w v' v
 |.yld l args=>∃(b:Nat) (cargs:Array Value),s.run P S.w=(Instr.yield b cargs).run P S.w/\dE (Rep M0 S) cargs args/\(S.h[l]?=some .dead\/S.m.getD l none=some b)
 |.dfr (.fn g args)=>∃(fv:Fn) (cap dargs cargs:Array Value),s.run P S.w=.ok (.defer { target:=.fn fv cap,args:=dargs }) S.w /\
   (∀w,(invoke (.fn fv cap) dargs).run P w=(callFunc g cargs).run P w)/\dE (Rep M0 S) cargs args
 |.dfr _=>False
 |.recover=>s.run P S.w=.ok .recover S.w
 |.stuck=>True
theorem aI.op{s}{r}(h:aI P M0 S s r):uI P M0 S (do let v<-s;Pure.pure (Next.value v)) r:=by
 cases r with
 |val v hh=>
  obtain⟨S',v',h1,h2,h3⟩:=h
  exact⟨S',v',h1,by simp[h2],h3⟩
 |skip _=>exact h.elim
 |call _ _=>exact h.elim
 |panic _=>exact h.elim
 |yld _ _=>exact h.elim
 |dfr _=>exact h.elim
 |recover=>exact h.elim
 |stuck=>exact trivial
theorem AD.op{s}{r}(h:AD P M0 S s r):uI P M0 S (do s;Pure.pure Next.skip) r:=by
 cases r with
 |skip hh=>
  obtain⟨S',h1,h2,h3⟩:=h
  exact⟨S',h1,by simp[h2],h3⟩
 |val _ _=>exact h.elim
 |call _ _=>exact h.elim
 |panic _=>exact h.elim
 |yld _ _=>exact h.elim
 |dfr _=>exact h.elim
 |recover=>exact h.elim
 |stuck=>exact trivial
theorem Gw{op}{T}{x y}{a b}(w)(h1:(∀C D,¬(a=.agg C/\b=.agg D))\/P.eqGuardType P.depth T=false)
  (h2:¬(a=.nilIface/\b=.nilIface)\/(kG x||kG y)=true):(eqGuard op T x y a b).run P w=.ok () w:=by
 by_cases ha:∃C D,a=.agg C/\b=.agg D
 .obtain⟨C,D,rfl,rfl⟩:=ha;rcases h1 with h1|h1
  .exact absurd ⟨rfl,rfl⟩ (h1 C D)
  .exact run_eqGuard_agg w op T x y C D h1
 .by_cases hn:a=.nilIface/\b=.nilIface
  .obtain⟨rfl,rfl⟩:=hn;rcases h2 with h2|h2
   .exact absurd ⟨rfl,rfl⟩ h2
   .cases op<;>first
     |rfl
     |(cases x<;>cases y<;>first|rfl|exact absurd h2 (by simp[kG]))
  .exact xi w (λC D h=>ha ⟨C,D,h⟩) hn
theorem Uz(hS:HOk P M0 S){op}{T}{xo yo}{x y}{a b}(hx:Rep M0 S a x)(hy:Rep M0 S b y) :
  aI P M0 S (do eqGuard op T xo yo a b;binOp op T a b) (BH P op T (kG xo||kG yo) x y S.h):=by
 have guardOk:((∀C D,¬(a=.agg C/\b=.agg D))\/P.eqGuardType P.depth T=false)->(¬(a=.nilIface/\b=.nilIface)\/(kG xo||kG yo)=true) ->
   ∀r:OR,aI P M0 S (binOp op T a b) r->aI P M0 S (do eqGuard op T xo yo a b;binOp op T a b) r:=by
  intro h1 h2 r hr;have hg:=Gw (op:=op) (T:=T) (x:=xo) (y:=yo) (P:=P) S.w h1 h2
  cases r with
  |val v h=>
   obtain⟨S',v',g1,g2,g3⟩:=hr
   exact⟨S',v',g1,by simp[hg,g2],g3⟩
  |stuck=>exact trivial
  |_=>exact hr.elim
 unfold BH;split
 .rename_i k i k' j;have:=ii hx;subst this;have:=ii hy;subst this;split
  .exact guardOk (.inl (by simp)) (.inl (by simp)) _ (sG hS λq hq=>GQ hq _ _)
  .rename_i hsh;split
   .rename_i hk;subst hk;exact guardOk (.inl (by simp)) (.inl (by simp)) _ (sG hS λq hq=>LY (by simpa using hsh) hq _ _)
   .exact trivial
 .rename_i s t;have h1:RepP (Avoid M0 S.m) S.w a (.str s):=hx;have h2:RepP (Avoid M0 S.m) S.w b (.str t):=hy;cases h1;cases h2;exact guardOk (.inl (by simp)) (.inl (by simp)) _ (sG hS λq hq=>KR hq _ _)
 .split
  .cases he:F5 P T (kG xo||kG yo) x y with
   |none=>exact trivial
   |some t=>
    obtain⟨⟨g1,g2⟩,g3,g4⟩:=PW hx hy he;exact guardOk g3 g4 _ (sG hS λq hq=>by cases hq;exact⟨_,g1,.bool _⟩)
  .cases he:F5 P T (kG xo||kG yo) x y with
   |none=>exact trivial
   |some t=>
    obtain⟨⟨g1,g2⟩,g3,g4⟩:=PW hx hy he;exact guardOk g3 g4 _ (sG hS λq hq=>by cases hq;exact⟨_,g2,.bool _⟩)
  .exact trivial
theorem U8(hS:HOk P M0 S){op}{x}{a}(hx:Rep M0 S a x):aI P M0 S (Op.unary op a) (Iu op x S.h):=by
 unfold Iu;split
 .have:=n9 hx;subst this;exact aI.pure hS (v':=.bool _) rfl (aF (.bool _))
 .have:=ii hx;subst this;exact aI.pure hS (v':=.int _ _) (by simp[Op.unary,Op.intArith]) (aF (.int _ _))
 .exact trivial
theorem Co:∀{l} {ns},sJ l=some ns->ns.length=l.length/\∀(i:Nat) (n),ns[i]?=some n->l[i]?=some (.int .u8 n)
 |[],ns,h=>by cases h;exact⟨rfl,by simp⟩
 |x::r,ns,h=>by
  unfold sJ at h;split at h
  .rename_i he;cases he
  .rename_i n r' he;cases he;simp only[cd]at h;obtain⟨ms,hm,rfl⟩:=h;obtain⟨h1,h2⟩:=Co hm;refine⟨by simp[h1],λi m hi=>?_⟩
   cases i with
   |zero=>cases hi;rfl
   |succ i=>exact h2 i m (by simpa using hi)
  .cases h
theorem JS(hS:HOk P M0 S){src dst}{x}{a}(hx:Rep M0 S a x):aI P M0 S (convert src dst a) (oe P src dst x S.h):=by
 unfold oe;split
 .rename_i k' n;have:=ii hx;subst this;split
  .rename_i k hk;unfold dW at hk;split at hk
   .rename_i d k2 h1 h2;cases hk;refine aI.pure hS (v':=.int k (k.wrap n)) ?_ (aF (.int _ _));simp[convert,run_underlying h1,run_underlying h2,Conv.intToInt]
   .cases hk
  .exact trivial
 .rename_i s;split
  .rename_i hc;have h1:RepP (Avoid M0 S.m) S.w a (.str s):=hx;cases h1;refine aI.pure hS (v':=.string s) ?_ (aF (.str _));simp[convert,run_underlying (fm hc.1),run_underlying (fm hc.2)]
  .exact trivial
 .rename_i y ys full;split
  .rename_i hc;split
   .rename_i ns hns;obtain⟨e,hs,he⟩:∃e,P.underlying src=some (.slice e)/\P.underlying e=some (.int .u8):=by
     have h1:=hc.1;unfold yC at h1
     cases hq:bu P src with
     |none=>rw[hq]at h1;cases h1
     |some e=>
      rw[hq]at h1;refine⟨e,cq hq,?_⟩;dsimp only at h1;split at h1
      .assumption
      .cases h1
    have h1:RepP (Avoid M0 S.m) S.w a (.slice 1 (y::ys) full):=hx;obtain⟨hlen,hat⟩:=Co hns
    cases h1 with
    |slice f hln hcap hfull hsz hM hcell hr=>
     rename_i b off len cap;refine aI.pure hS (v':=.string (strOfNums ns)) (run_convert_bytes_arg S.w src e hs he b off len cap ns (by rw[hln,hlen]) (λi hi=>?_) dst (fm hc.2)) (aF (.str _));have hi2:i<ns.length:=by rw[hlen,<-hln];exact hi
     have hq:=hat i _ (bA hi2);have h2:=hr i 0 _ _ hq rfl;rw[hcell i (by rw[Nat.mul_one,<-hln];exact hi)];rw[Nat.mul_one,ik]at h2;generalize f i=z at h2;cases h2;simp[cG,bA hi2]
   .exact trivial
  .exact trivial
 .exact trivial
theorem JO(hS:HOk P M0 S){x}{a}{i}(hx:Rep M0 S a x):aI P M0 S (Instr.extract a i) (od x i S.h):=by
 unfold od;split
 .rename_i vs;split
  .rename_i v hv;have h1:RepP (Avoid M0 S.m) S.w a (.tuple vs):=hx
   cases h1 with
   |@tuple C _ hn hr=>
    have hi:=(ax.1 hv).1;refine aI.pure hS (v':=C.getD i undef) ?_ (aF (hr i v hv));simp[Instr.extract,show i<C.size by omega]
  .exact trivial
 .rename_i vs;split
  .rename_i v hv;obtain⟨C,rfl,hn,hr⟩:=hx;have hi:=(ax.1 hv).1;refine aI.pure hS (v':=C.getD i undef) ?_ (nQ (hr i v hv));simp[Instr.extract,show i<C.size by omega]
  .exact trivial
 .exact trivial
theorem qK{ρ}{e}(he:∀x,Rep M0 S (ρ x) (e x))(xs:Array Operand):dE (Rep M0 S) (xs.map ρ) (xs.toList.map e):=by
 refine⟨by simp,λi c hi=>?_⟩;simp only[cz,cd]at hi;obtain⟨x,hx,rfl⟩:=hi;have hil:=(ax.1 hx).1;have:(xs.map ρ).getD i undef=ρ x:=by
  apply getD_some;rw[Array.getElem?_map];rw[Array.getElem?_toList]at hx;simp[hx]
 rw[this];exact he x
theorem uK{v}{a}(h:a.plain=true)(hr:Rep M0 S v a):cD M0 S v a:=by
 cases a<;>first|exact hr|(simp[AV.plain]at h)
theorem GM(hS:HOk P M0 S){fn}{F C}{first cap}(h1:dE (Rep M0 S) F first)(h2:dE (Rep M0 S) C cap)(p1:first.all AV.plain=true)(p2:cap.all AV.plain=true) :
  aI P M0 S (Instr.makeFunc fn F C) (.val (zJ fn first cap) S.h):=by
 refine aI.pure hS (v':=.func fn F C) rfl ?_;rw[kK]at p1 p2;unfold zJ;split
 .rename_i a b ha hb;have e1:=iV ha;have e2:=iV hb;subst e1;subst e2;exact aF (.func (by simpa using h1.1) (by simpa using h2.1) (λi c hi=>h1.2 i (.p c) (by simp[hi])) (λi c hi=>h2.2 i (.p c) (by simp[hi])))
 .exact⟨F,C,rfl,h1.imp λv c hc hr=>uK (p1 c hc) hr,h2.imp λv c hc hr=>uK (p2 c hc) hr⟩
theorem em{R}{A B}{a b}(h:dE R A a)(k:dE R B b):dE R (A++B) (a++b):=by
 refine⟨by simp[h.1,k.1],λi c hi=>?_⟩;rcases dg i a.length with hl|hl
 .rw[aZ hl]at hi;have:(A++B).getD i undef=A.getD i undef:=by
   have:=h.1;simp[fz,Dx,show i<A.size by omega]
  rw[this];exact h.2 i c hi
 .rw[cm hl]at hi;have:(A++B).getD i undef=B.getD (i-a.length) undef:=by
   have:=h.1;simp[fz,Dx,this,show ¬i<a.length by omega]
  rw[this];exact k.2 _ c hi
theorem mA{C}{l:List PV}(hn:C.size=l.length)(h:∀(i) (c),l[i]?=some c->RepP (Avoid M0 S.m) S.w (C.getD i undef) c):dE (Rep M0 S) C (l.map .p):=by
 refine⟨by simpa using hn,λi c hi=>?_⟩;simp only[cz,cd]at hi;obtain⟨q,hq,rfl⟩:=hi;exact aF (h i q hq)
theorem kQ{v}{a}(h:cD M0 S v a):Rep M0 S v a:=by
 cases a<;>first|exact h|exact False.elim h
theorem LO{f}{vf}{args}{C}(hf:Rep M0 S vf f)(ha:dE (Rep M0 S) C args) :
  uI P M0 S (do let d<-Deferred.ofValue vf C;invoke d.target d.args) (fN f args):=by
 unfold fN;split
 .rename_i g first cap
  have h1:RepP (Avoid M0 S.m) S.w vf (.func (.func g) first cap):=hf
  cases h1 with
  |@func _ F K _ _ hf hc h1 h2=>
   refine⟨F++C++K,?_,em (em (mA hf h1) ha) (mA hc h2)⟩;simp[Deferred.ofValue,invoke]
 .rename_i g first cap
  obtain⟨F,K,rfl,h1,h2⟩:=hf;refine⟨F++C++K,?_,em (em (h1.imp λv c _ hr=>kQ hr) ha) (h2.imp λv c _ hr=>kQ hr)⟩;simp[Deferred.ofValue,invoke]
 .rename_i l;have h1:cD M0 S vf (.ref .yl l):=hf;rcases h1.2 with hd|⟨_,b,hb,rfl⟩
  .obtain⟨⟨b,rfl⟩,_⟩:=h1;exact⟨b,C,by simp[Deferred.ofValue,invoke,vn],ha,.inl hd⟩
  .exact⟨b,C,by simp[Deferred.ofValue,invoke,vn],ha,.inr hb⟩
 .exact trivial
theorem OF{f}{vf}{args}{C}(hf:Rep M0 S vf f)(ha:dE (Rep M0 S) C args) :
  uI P M0 S (do let d<-Deferred.ofValue vf C;Pure.pure (Next.defer d)) (wm f args):=by
 unfold wm fN;split
 .rename_i g l hg;split at hg
  .rename_i g' first cap
   cases hg;have h1:RepP (Avoid M0 S.m) S.w vf (.func (.func g) first cap):=hf
   cases h1 with
   |@func _ F K _ _ hf hc h1 h2=>
    refine⟨.func g,K,F++C,F++C++K,by simp[Deferred.ofValue],λw=>by simp[invoke],em (em (mA hf h1) ha) (mA hc h2)⟩
  .rename_i g' first cap
   cases hg;obtain⟨F,K,rfl,h1,h2⟩:=hf;exact⟨.func g,K,F++C,F++C++K,by simp[Deferred.ofValue],λw=>by simp[invoke],em (em (h1.imp λv c _ hr=>kQ hr) ha) (h2.imp λv c _ hr=>kQ hr)⟩
  .cases hg
  .cases hg
 .exact trivial
theorem DV{z}{n sz}(hz:z.size=sz){i j}(hi:i<n)(hj:j<sz):(Builtin.zeroCells z n).getD (i*sz+j) undef=z.getD j undef:=by
 subst hz;have h1:i*z.size+j<n*z.size:=iy hi hj;have h2:(i*z.size+j)%z.size=j:=by rw[Dr,Nat.mul_add_mod,IQ hj]
 simp[Builtin.zeroCells,h1,h2,hj,getElem!_pos]
theorem OJ(hS:HOk P M0 S){T}{x}{v}{ty}(hx:Rep M0 S v x):aI P M0 S (Builtin.clear_ #[T] ty #[v]) (Az P T x S.h):=by
 unfold Az;split
 .rename_i e id ver off len he;split
  .rename_i sz xs sz' z hid hsz hz;split
   .rename_i hc;obtain⟨rfl,hv,hle,hzl,hz0,hzc⟩:=hc;have hu:=cq he;obtain⟨vz,hvz,hcz⟩:=jR hz S.w;have hrep:Rep M0 S vz (.p z):=gu hcz;obtain⟨cs,hcs⟩:=jv.1 hzc;obtain⟨hnz,hrz⟩:=iT hrep hcs;have hcl:cs.length=sz':=by
     cases z with
     |tuple l=>simp[AV.cells]at hcs
     |_=>(simp[AV.cells]at hcs;subst hcs;simpa using hzl)
    have hDs:(Builtin.zeroCells vz.cells len).size=(List.replicate len (AV.p z)).length*sz':=by simp[Builtin.zeroCells,hnz,hcl]
    have hDel:dy M0 S sz' (Builtin.zeroCells vz.cells len) (List.replicate len (AV.p z)):=by
     intro i y hi;have hil:i<len:=by have:=(ax.1 hi).1;simpa using this
     rw[IP,if_pos hil]at hi;cases hi;refine⟨cs,hcs,hcl,λj c hc=>?_⟩;have hjl:=(ax.1 hc).1;rw[DV (by rw[hnz,hcl]) hil (by omega)];exact hrz j c hc
    have hunit:Rep M0 S (.tuple #[]) (.p (.tuple [])):=aF (.tuple rfl λi c hi=>by simp at hi);have none0:len=0->(∃a cap,v=.slice a 0 cap)->aI P M0 S (Builtin.clear_ #[T] ty #[v]) (.val (.p (.tuple [])) (S.h.set id (.row sz' (xs.take off++List.replicate len (AV.p z)++xs.drop (off+len))))):=by
     rintro rfl ⟨a,cap,rfl⟩
     refine⟨S,.tuple #[],?_,?_,Ev.refl _ _,hS,hunit⟩
     .simp only[Nc,bw,ik,rC];exact(ji hid).symm
     .cases a<;>simp[Builtin.clear_,run_underlying hu]
    rcases cR hx.2 hid hv with⟨h1,h2,h3,ad,cap,rfl⟩|⟨b,cap,T',n,hm,rfl,hcap,hsh,hfit,hreach⟩|⟨hmn,rfl,h0⟩
    .exact none0 h1 ⟨_,_,rfl⟩
    .rcases oo len with h0|h0
     .exact none0 h0 ⟨_,_,by rw[h0]⟩
     .obtain⟨C,T2,hb2,hsize2,hel2⟩:=fk hS hid hm;have hlr:(List.replicate len (AV.p z)).length=len:=by simp
      have hnew:(xs.take off++List.replicate len (AV.p z)++xs.drop (off+len)).length=xs.length:=by simp;omega
      have hfit2:off*sz'+(Builtin.zeroCells vz.cells len).size<=C.size:=by
       rw[hDs,hlr,<-fx];exact iN (gc sz' (by omega)) hsize2
      have hone:=pe hlr (by rw[hDs,hlr]) hDel;have hst:=iS (P:=P) b T2 (Builtin.zeroCells vz.cells len).toList (off*sz') 0 C S.w hb2 (by simpa using hfit2) hone;have hov:(jN C (off*sz') (Builtin.zeroCells vz.cells len).toList).size=C.size:=ip _ _ _;have en:=Ev.set S.h.length hid hm hb2 hov (xs':=xs.take off++List.replicate len (AV.p z)++xs.drop (off+len)) (by omega);have hover:=uq hel2 hsize2 hDs hDel (p:=off) (by rw[hlr];omega);rw[hlr]at hover
      refine⟨S.set id (.row sz' (xs.take off++List.replicate len (AV.p z)++xs.drop (off+len))) b (jN C (off*sz') (Builtin.zeroCells vz.cells len).toList),.tuple #[],rfl,?_,en,
       HOk.set hS hid hm hb2 hov (by omega) (by rw[hov,hnew];exact hsize2) hover,aF (.tuple rfl λi c hi=>by simp at hi)⟩
      obtain⟨m,rfl⟩:∃m,len=m+1:=⟨len-1,by omega⟩
      simp only[ik]at hst;simp[Builtin.clear_,run_underlying hu,hvz,hst,Mem.set]
    .exact none0 h0 ⟨_,_,rfl⟩
   .exact trivial
  .exact trivial
 .exact trivial
theorem Me(hS:HOk P M0 S){sz len}{y}{v}{ys}(hy:Rep M0 S v y)(h:xf S.h sz len y=some ys) :
  ∃(D:Array Value) (m:Nat),(Builtin.lenOf v).run P S.w=.ok m S.w/\Nat.min m len=ys.length/\(Builtin.firstCells sz ys.length v).run P S.w=.ok D S.w/\D.size=ys.length*sz/\dy M0 S sz D ys:=by
 unfold xf at h;split at h
 .rename_i id ver off n;split at h
  .rename_i sz' xs hid;split at h
   .rename_i hc;obtain⟨rfl,hv,hle⟩:=hc;cases h;have hmn:Nat.min n len<=n:=Nat.min_le_left _ _;have hsl:=zg off (Nat.min n len) xs (by omega);rcases cR hy.2 hid hv with⟨rfl,hv0,hoff,ad,cap,rfl⟩|⟨b,cap,T',n',hm,rfl,hcap,hsh,hroom,hreach⟩|⟨hmn',rfl,rfl⟩
    .have e0:Nat.min 0 len=0:=Nat.zero_min _;rw[e0]at hsl |-;refine⟨#[],0,rfl,by rw[hsl,e0],?_,by simp[hsl],λi x hx=>by simp[sub]at hx⟩;rw[hsl]
     cases ad with
     |none=>rfl
     |some a=>simp[Builtin.firstCells,loadCells,loadCellsFrom]
    .obtain⟨C,T,hb,hsize,hel⟩:=fk hS hid hm;have hmul:(off+n)*sz'<=C.size:=iN (gc sz' (by omega)) hsize;have hmul2:Nat.min n len*sz'<=n*sz':=gc sz' hmn;rw[fx]at hmul;refine⟨((List.range (Nat.min n len*sz')).map λk=>C.getD (off*sz'+k) undef).toArray,n,rfl,by rw[hsl],?_,by simp[hsl],λi x hx=>?_⟩
     .have:=run_loadCells (P:=P) S.w ⟨b,off*sz',none⟩ (Nat.min n len*sz') (λk=>C.getD (off*sz'+k) undef) (λj hj=>by
       rw[fh]
       exact jb hb _ (by omega))
      simpa[Builtin.firstCells,hsl]using this
     .have hil:=(ax.1 hx).1;rw[hsl]at hil;have hx':xs[off+i]?=some x:=by
       unfold sub at hx;rw[jp,if_pos hil,sc]at hx;exact hx
      obtain⟨cs,h1,h2,h3⟩:=hel _ x hx';refine⟨cs,h1,h2,λj c hc=>?_⟩;have hjl:=(ax.1 hc).1;rw[ic _ _ _ (iy hil (by omega))];have:=h3 j c hc;rwa [fx,lE]at this
    .have e0:Nat.min 0 len=0:=Nat.zero_min _;rw[e0]at hsl |-;exact⟨#[],0,rfl,by rw[hsl,e0],by rw[hsl];rfl,by simp[hsl],λi x hx=>by simp[sub]at hx⟩
   .cases h
  .cases h
 .rename_i sz' xs full;split at h
  .rename_i ys' he;split at h
   .rename_i hl;cases h;obtain⟨D,h1,h2,h3,h4⟩:=lA hS hy he;exact⟨D,ys.length,h1,IJ hl,h2 S.w rfl,h3,h4⟩
   .cases h
  .cases h
 .cases h
theorem Rr(hS:HOk P M0 S){T}{ts}(hT:ts[0]?=some T){x y}{v u}{ty}(hx:Rep M0 S v x)(hy:Rep M0 S u y):aI P M0 S (Builtin.copy_ ts ty #[v,u]) (DJ P T x y S.h):=by
 unfold DJ;split
 .rename_i e id ver off len he;split
  .rename_i sz xs sz' hid hsz;split
   .rename_i hc;obtain⟨rfl,hv,hle⟩:=hc;split
    .rename_i ys hys;obtain⟨D,m,h1,h2,h3,h4,h5⟩:=Me hS hy hys;have hu:=cq he;have hyl:ys.length<=len:=by rw[<-h2];exact Nat.min_le_right _ _
     have hint:Rep M0 S (goInt (ys.length:Int)) (.p (.int .i64 (ys.length:Int))):=aF (.int _ _);have none0:ys.length=0->(∃a cap,v=.slice a len cap)->aI P M0 S (Builtin.copy_ ts ty #[v,u]) (.val (.p (.int .i64 (ys.length:Int))) (S.h.set id (.row sz' (xs.take off++ys++xs.drop (off+ys.length))))):=by
      rintro h0 ⟨a,cap,rfl⟩
      have hy0:ys=[]:=ot h0;subst hy0;have hD0:D=#[]:=Array.eq_empty_of_size_eq_zero (by simpa using h4);subst hD0;refine⟨S,goInt (([]:List AV).length:Int),?_,?_,Ev.refl _ _,hS,hint⟩
      .simp only[cH,bw,ik,rC];exact(ji hid).symm
      .simp only[cH]at h2 h3 |-;unfold Builtin.copy_;cases a<;>simp[hT,run_underlying hu,bN hsz,h1,h2,h3,storeCells]
     rcases cR hx.2 hid hv with⟨e1,e2,e3,ad,cap,rfl⟩|⟨b,cap,T',n,hm,rfl,hcap,hsh,hfit,hreach⟩|⟨hmn,rfl,h0⟩
     .exact none0 (by omega) ⟨_,_,by rw[e1]⟩
     .rcases oo ys.length with h0|h0
      .exact none0 h0 ⟨_,_,rfl⟩
      .obtain⟨C,T2,hb2,hsize2,hel2⟩:=fk hS hid hm;have hnew:(xs.take off++ys++xs.drop (off+ys.length)).length=xs.length:=by simp;omega
       have hfit2:off*sz'+D.size<=C.size:=by
        rw[h4,<-fx];exact iN (gc sz' (by omega)) hsize2
       have hone:=pe rfl h4 h5;have hst:=iS (P:=P) b T2 D.toList (off*sz') 0 C S.w hb2 (by simpa using hfit2) hone;have hov:(jN C (off*sz') D.toList).size=C.size:=ip _ _ _;have en:=Ev.set S.h.length hid hm hb2 hov (xs':=xs.take off++ys++xs.drop (off+ys.length)) (by omega);have hover:=uq hel2 hsize2 h4 h5 (p:=off) (by omega)
       refine⟨S.set id (.row sz' (xs.take off++ys++xs.drop (off+ys.length))) b (jN C (off*sz') D.toList),goInt (ys.length:Int),rfl,?_,en,
        HOk.set hS hid hm hb2 hov (by omega) (by rw[hov,hnew];exact hsize2) hover,aF (.int _ _)⟩
       simp only[ik]at hst;unfold Builtin.copy_;simp[hT,run_underlying hu,bN hsz,h1,h2,h3,hst,Mem.set]
     .exact none0 (by omega) ⟨_,_,by rw[h0]⟩
    .exact trivial
   .exact trivial
  .exact trivial
 .exact trivial
theorem J8(hS:HOk P M0 S){b}{ts}{ty}{cs}{C}{args}(ha:dE (Rep M0 S) C args) :
  uI P M0 S (builtin b ts ty cs C) (rn P b ts args S.h):=by
 have one:∀x,args=[x]->∃v,C=#[v]/\Rep M0 S v x:=by
  intro x hx;subst hx;have hn:=ha.1;have:C=#[C.getD 0 undef]:=by
   apply qw
   .simpa using hn
   .intro i h1 h2;have:i=0:=by simp at h2;omega
    subst this;simp[h1]
  exact⟨C.getD 0 undef,this,ha.2 0 x rfl⟩
 have two:∀x y,args=[x,y]->∃u v,C=#[u,v]/\Rep M0 S u x/\Rep M0 S v y:=by
  intro x y hx;subst hx;have hn:=ha.1;have:C=#[C.getD 0 undef,C.getD 1 undef]:=by
   apply qw
   .simpa using hn
   .intro i h1 h2;have:i=0\/i=1:=by simp at h2;omega
    rcases this with rfl|rfl<;>simp[h1]
  exact⟨_,_,this,ha.2 0 x rfl,ha.2 1 y rfl⟩
 unfold rn;split
 .rename_i x;obtain⟨v,rfl,hv⟩:=one _ rfl;split
  .rename_i hts;have:ts=#[ts.getD 0 0]:=by
    apply qw
    .simpa using hts
    .intro i h1 h2;have:i=0:=by simp at h2;omega
     subst this;simp[h1]
   have h:=(To (P:=P) (T:=ts.getD 0 0) (ty:=ty) hS hv).op;rw[<-this]at h;exact h
  .exact trivial
 .rename_i x y;obtain⟨u,v,rfl,hu,hv⟩:=two _ _ rfl;split
  .rename_i hts;have:ts=#[ts.getD 0 0,ts.getD 1 0]:=by
    apply qw
    .simpa using hts
    .intro i h1 h2;have:i=0\/i=1:=by simp at h2;omega
     rcases this with rfl|rfl<;>simp[h1]
   have h:=(CR (P:=P) (T:=ts.getD 0 0) (U:=ts.getD 1 0) (ty:=ty) hS hu hv).op;rw[<-this]at h;exact h
  .exact trivial
 .rename_i j a k b;obtain⟨u,v,rfl,hu,hv⟩:=two _ _ rfl;have:=ii hu;subst this;have:=ii hv;subst this;refine⟨S,_,rfl,?_,Ev.refl _ _,hS,aF (.int _ _)⟩;simp[builtin,Builtin.min_,Builtin.min2]
 .rename_i j a k b;obtain⟨u,v,rfl,hu,hv⟩:=two _ _ rfl;have:=ii hu;subst this;have:=ii hv;subst this;refine⟨S,_,rfl,?_,Ev.refl _ _,hS,aF (.int _ _)⟩;simp[builtin,Builtin.max_,Builtin.max2]
 .show (builtin .recover ts ty cs C).run P S.w=.ok .recover S.w;simp[builtin]
 .rename_i x;obtain⟨v,rfl,hv⟩:=one _ rfl;split
  .rename_i hts;have:ts=#[ts.getD 0 0]:=by
    apply qw
    .simpa using hts
    .intro i h1 h2;have:i=0:=by simp at h2;omega
     subst this;simp[h1]
   have h:=(OJ (P:=P) (T:=ts.getD 0 0) (ty:=ty) hS hv).op;rw[<-this]at h;exact h
  .exact trivial
 .rename_i x y;obtain⟨u,v,rfl,hu,hv⟩:=two _ _ rfl;split
  .rename_i hts;exact(Rr (P:=P) (T:=ts.getD 0 0) (ts:=ts) (ty:=ty) hS (by simp[fz,hts]) hu hv).op
  .exact trivial
 .exact trivial
theorem Vd(hS:HOk P M0 S){mu}{o}{ρ}{e}(he:∀x,Rep M0 S (ρ x) (e x)):uI P M0 S (execOp ρ o) (bV P mu o e S.h):=by
 have pure1:∀(v:AV) (v':Value) (s:Sem Next),s.run P S.w=.ok (.value v') S.w->Rep M0 S v' v->uI P M0 S s (.val v S.h):=
  λv v' s h1 h2=>⟨S,v',rfl,h1,Ev.refl _ _,hS,h2⟩
 unfold bV;split
 .rename_i x hop;unfold execOp;rw[hop];exact pure1 _ _ _ rfl (he x)
 .rename_i x hop;unfold execOp;rw[hop];exact pure1 _ _ _ rfl (he x)
 .rename_i c a b hop;unfold execOp;rw[hop];dsimp only;split
  .rename_i t ht;have:=he c;rw[ht]at this;have hb:=n9 this;refine pure1 _ (if t then ρ a else ρ b) _ ?_ (by cases t<;>simp<;>exact he _);simp only[hb];cases t<;>simp[asBool]
  .exact trivial
 .rename_i T hop;unfold execOp;rw[hop];dsimp only;split
  .split
   .rename_i hz _;exact(Hm hS hz).op
   .exact trivial
  .split
   .rename_i z hz;split
    .rename_i hc;exact(Pg hS hz hc).op
    .exact trivial
   .exact trivial
 .rename_i T x hop;unfold execOp;rw[hop];dsimp only;split
  .rename_i cs hcs;exact(Ce hS (he x) hcs).op
  .exact trivial
 .rename_i T ps hop;unfold execOp;rw[hop];dsimp only;refine(O5 hS (by simp) λi p q h1 h2=>?_).op;simp only[cz,cd,Array.toList_map]at h1 h2;obtain⟨r,h3,rfl⟩:=h1;obtain⟨r',h4,rfl⟩:=h2;rw[h3]at h4;cases h4;exact⟨rfl,he _⟩
 .rename_i T n ps hop;unfold execOp;rw[hop];dsimp only;refine(Dj hS (by simp) λi p q h1 h2=>?_).op;simp only[cz,cd,Array.toList_map]at h1 h2;obtain⟨r,h3,rfl⟩:=h1;obtain⟨r',h4,rfl⟩:=h2;rw[h3]at h4;cases h4;exact⟨rfl,he _⟩
 .rename_i T a hop;unfold execOp;rw[hop];exact(QP hS (he a)).op
 .rename_i T a x hop;unfold execOp;rw[hop];exact(NC hS (he a) (he x)).op
 .rename_i x hop;split
  .rename_i sz xs i o' hx;have h:=he x;rw[hx]at h;have h1:RepP (Avoid M0 S.m) S.w (ρ x) (.ptr sz xs i o'):=h;generalize hv:ρ x=v at h1
   cases h1 with
   |ptr f hat hs hM hc hr=>exact pure1 _ _ _ (by unfold execOp;rw[hop];simp only[hv];rfl) (aF (.ptr f hat hs hM hc hr))
  .rename_i id ver i o' hx;split
   .rename_i sz hl;obtain⟨xs,hid,hv⟩:=k8 hl;have h:=he x;rw[hx]at h;obtain⟨b,hm,hvx⟩:=cR h.2 hid hv;exact pure1 _ _ _ (by unfold execOp;rw[hop];simp only[hvx];rfl) (ua hid hv hm)
   .exact trivial
  .exact trivial
 .rename_i op T x y yT hop;unfold execOp;rw[hop];exact(Uz hS (he x) (he y)).op
 .rename_i op T x hop;unfold execOp;rw[hop];exact(U8 hS (he x)).op
 .rename_i src dst x hop;unfold execOp;rw[hop];exact(JS hS (he x)).op
 .rename_i T x hop;unfold execOp;rw[hop];dsimp only;split
  .rename_i hT;split
   .rename_i v hv;have h:=he x;rw[hv]at h;refine pure1 _ (.iface T (ρ x)) _ ?_ (aF (.iface h));unfold fZ at hT;split at hT
    .cases hT
    .rename_i d hd hu;unfold Instr.makeInterface;simp only[Sem.run_bind,run_underlying hu,cb];cases d<;>first|rfl|exact absurd rfl (hd _)
    .cases hT
   .exact trivial
  .exact trivial
 .rename_i fn first cap hop
  unfold execOp;rw[hop];dsimp only;split
  .rename_i hc;exact(GM hS (qK he first) (qK he cap) hc.1 hc.2).op
  .exact trivial
 .rename_i T l c hop;unfold execOp;rw[hop];exact(ES hS (he l) (he c)).op
 .rename_i T x lo hi mx hop;unfold execOp;rw[hop];dsimp only;have key:∀(z:Option Operand) (a:AV) (v:Value),z.map e=some a->z.map ρ=some v->Rep M0 S v a:=by
   intro z a v h1 h2
   cases z with
   |none=>cases h1
   |some z=>cases h1;cases h2;exact he z
  exact(NG hS (he x) (by cases lo<;>rfl) (by cases hi<;>rfl) (by cases mx<;>rfl) (key lo) (key hi) (key mx)).op
 .rename_i T x f hop;unfold execOp;rw[hop];exact(Ff hS (he x)).op
 .rename_i T x f hop;unfold execOp;rw[hop];exact(Oz hS (he x)).op
 .rename_i T x i hop;unfold execOp;rw[hop];exact(E7 hS (he x) (he i)).op
 .rename_i T x i hop;unfold execOp;rw[hop];exact(Oi hS (he x) (he i)).op
 .rename_i t i hop;unfold execOp;rw[hop];exact(JO hS (he t)).op
 .rename_i c hop;unfold execOp;rw[hop];dsimp only;split
  .rename_i f hc;have:=LO (P:=P) (he f) (qK he c.args);simp only[resolve,hc];exact this
  .rename_i b hc;have:=J8 (P:=P) (b:=b) (ts:=c.argTypes) (ty:=o.type) (cs:=c.args.map λ| .const _=>true|_=>false) hS (qK he c.args);simp only[resolve,hc];exact this
  .exact trivial
 .rename_i c hop;unfold execOp;rw[hop];dsimp only;split
  .rename_i f hc;have:=OF (P:=P) (he f) (qK he c.args);simp only[resolve,hc];exact this
  .exact trivial
 .rename_i x hop;unfold execOp;rw[hop];dsimp only;split
  .rename_i t v hv;have h:=he x;rw[hv]at h;have h1:RepP (Avoid M0 S.m) S.w (ρ x) (.iface t v):=h;generalize hvx:ρ x=vx at h1
   cases h1 with
   |iface h2=>exact⟨_,by simp[Instr.panic],.iface h2⟩
  .exact trivial
 .rename_i x T A ok hop;unfold execOp;rw[hop];exact(C1 hS (he x)).op
 .rename_i T x hop;unfold execOp;rw[hop];exact(NT hS (he x)).op
 .rename_i i b hop;unfold execOp;rw[hop];exact(QK hS (he i)).op
 .rename_i T r hop;unfold execOp;rw[hop]
  cases r with
  |none=>exact(Jq hS).op
  |some _=>exact trivial
 .rename_i T x k ok hop;unfold execOp;rw[hop];exact(Ly hS (he x) (he k)).op
 .rename_i T m k v hop;unfold execOp;rw[hop];exact(ER hS (he m) (he k) (he v)).op
 .exact trivial
end Abs
end Go.Proofs.YtnjiadikeacfaaaGreatDoor
namespace Go.Proofs.YtnjiadikeacfaaaGreatDoor
namespace Abs
def M9 (M0:Nat->Prop) (S:Mem):Ending->AEnd->Prop
 |.returned v',.ret v=>Rep M0 S v' v
 |.panicked ch,.panic v=>∃v',ch=[{ v:=v',recovered:=false }]/\RepP (Avoid M0 S.m) S.w v' v
 |_,_=>False
def rA (P:Program) (M0:Nat->Prop) (S:Mem) (R:AEnd->Heap->Prop) (e:Ending) (w':World):Prop:=
 ∃(r:AEnd) (h':Heap) (m':List (Option Nat)),R r h'/\Ev S.h.length S ⟨m',h',w'⟩/\HOk P M0 ⟨m',h',w'⟩/\M9 M0 ⟨m',h',w'⟩ e r
def aB (P:Program) (f:FuncId) (args:List AV) (h:Heap) (R:AEnd->Heap->Prop):Prop:=
 ∀(M0:Nat->Prop) (m:List (Option Nat)) (w:World) (cargs:Array Value),HOk P M0 ⟨m,h,w⟩->dE (Rep M0 ⟨m,h,w⟩) cargs args ->
  (∀w',(callFunc f cargs).run P w'=.ok (.enter f cargs) w')/\Calls P f cargs w (rA P M0 ⟨m,h,w⟩ R)
def sC (P:Program) (l:Nat) (args:List AV) (h:Heap) (R:AEnd->Heap->Prop):Prop:=
 (∃o,h[l]?=some o/\o.tag=some .yl) /\
 ∀(M0:Nat->Prop) (m:List (Option Nat)) (w:World) (cargs:Array Value) (b:Nat),HOk P M0 ⟨m,h,w⟩->dE (Rep M0 ⟨m,h,w⟩) cargs args->m.getD l none=some b ->
  ∃(f:FuncId) (tmps:Array Value) (assign body:Code),(Instr.yield b cargs).run P w=.ok (.round b f tmps assign body) w /\
   ∀(c:Frame) (cs:List Frame),∃e w',rA P M0 ⟨m,h,w⟩ R e w' /\
    match e with
    |.returned v=>Steps P (lone (Frame.round b f tmps assign body .normal) (c::cs) w) (lone (c.finish v) cs w')
    |.panicked ch=>Steps P (lone (Frame.round b f tmps assign body .normal) (c::cs) w) (lone (c.raise ch) cs w')
    |.outgrown=>False
inductive AMode where
 |ret
 |pan (v:PV)
 |recd (v:PV)
def xe:AMode->AMode
 |.recd _=>.ret
 |u=>u
def iM (M0:Nat->Prop) (S:Mem) (um:FrameMode):AMode->Prop
 |.ret=>um=.returning
 |.pan v=>∃v',um=.panicking [{ v:=v',recovered:=false }]/\RepP (Avoid M0 S.m) S.w v' v
 |.recd _=>∃v',um=.panicking [{ v:=v',recovered:=true }]
def ju (P:Program) (f:FuncId) (args:List AV) (u:AMode) (h:Heap) (R:AEnd->AMode->Heap->Prop):Prop:=
 ∀(M0:Nat->Prop) (m:List (Option Nat)) (w:World) (cargs:Array Value) (um:FrameMode),HOk P M0 ⟨m,h,w⟩->dE (Rep M0 ⟨m,h,w⟩) cargs args->iM M0 ⟨m,h,w⟩ um u ->
  (∀w',(callFunc f cargs).run P w'=.ok (.enter f cargs) w') /\
  CallsD P f cargs um w λe um' w'=>∃(r:AEnd) (u':AMode) (h':Heap) (m':List (Option Nat)),R r u' h'/\Ev h.length ⟨m,h,w⟩ ⟨m',h',w'⟩/\HOk P M0 ⟨m',h',w'⟩ /\
   M9 M0 ⟨m',h',w'⟩ e r/\iM M0 ⟨m',h',w'⟩ um' u'
def Gk (P:Program) (M0:Nat->Prop) (S:Mem) (d:Deferred):ADef->Prop
 |.fn g args=>∃(fv:Fn) (cap dargs cargs:Array Value),d={ target:=.fn fv cap,args:=dargs } /\
   (∀w,(invoke (.fn fv cap) dargs).run P w=(callFunc g cargs).run P w)/\dE (Rep M0 S) cargs args
 |.collected id=>∃b,d={ target:=.collected b,args:=#[] }/\(S.h[id]?=some .dead\/(S.h[id]?=some .dblock/\S.m.getD id none=some b))
def DefsRep (P:Program) (M0:Nat->Prop) (S:Mem):List Deferred->List ADef->Prop
 |[],[]=>True
 |d::ds,x::xs=>Gk P M0 S d x/\DefsRep P M0 S ds xs
 |_,_=>False
def RcRep (M0:Nat->Prop) (S:Mem) (b:Frame) (cs0:List Frame):Rc->Prop
 |.no=>b.roundOf=none
 |.rnd=>b.roundOf.isSome=true/\b.kind=.normal
 |.none=>b.roundOf=none/\b.kind=.deferred/\recoverD cs0=none
 |.pend v=>b.roundOf=none/\b.kind=.deferred/\∃v' cs1,recoverD cs0=some (v',cs1)/\RepP (Avoid M0 S.m) S.w v' v
 |.got _=>b.roundOf=none/\b.kind=.deferred/\∃v' cs1,recoverD cs0=some (v',cs1)
def bv:Rc->List Frame->List Frame
 |.got _,cs=>match recoverD cs with|some (_,c)=>c|none=>cs
 |_,cs=>cs
structure Rel (P:Program) (M0:Nat->Prop) (S0:Mem) (b:Frame) (cs0:List Frame) (m:List (Option Nat)) (A:AAct) (a:Act) (w:World):Prop where
 size:a.tmps.size=A.n
 tmps:∀t,Rep M0 ⟨m,A.h,w⟩ (a.tmps.getD t undef) (A.tmps t)
 hok:HOk P M0 ⟨m,A.h,w⟩
 ev:Ev A.bs S0 ⟨m,A.h,w⟩
 le:A.bs<=A.h.length/\∃f,P.funcs[b.fn]?=some f
 df:DefsRep P M0 ⟨m,A.h,w⟩ a.defers A.df
 rc:RcRep M0 ⟨m,A.h,w⟩ b cs0 A.rc
def fJ (P:Program) (A B:AAct):Prop:=
 B.n=A.n/\B.rc=A.rc/\∀M0 S0 b cs0 m a w,Rel P M0 S0 b cs0 m A a w->∃m',Rel P M0 S0 b cs0 m' B a w
def Bh (K:AV->Heap->Prop) (Q:PV->Heap->Prop):AEnd->Heap->Prop
 |.ret v,h=>K v h
 |.panic v,h=>Q v h
def ur (K:Prop):Rc->Prop
 |.rnd=>False
 |_=>K
def NP (A:AAct) (K:AAct->PV->Prop):Rc->Prop
 |.none=>K A .niliface
 |.pend v=>K { A with rc:=.got v } v
 |.got _=>K A .niliface
 |_=>False
def kA (P:Program) (A:AAct) (dst:Option Tmp) (K:AAct->Prop) (Q:Ex->AAct->Prop):OR->Prop
 |.val v h=>K (A.put dst v h)
 |.skip h=>K (A.put dst (.p (.tuple [])) h)
 |.call f args=>aB P f args A.h (Bh (λv h=>K (A.put dst v h)) (λv h=>Q (.panic v) { A with h:=h }))
 |.yld l args=>sC P l args A.h (Bh (λv h=>K (A.put dst v h)) (λv h=>Q (.panic v) { A with h:=h }))
 |.dfr d=>ur (K ({ A with df:=d::A.df }.put dst (.p (.tuple [])) A.h)) A.rc
 |.recover=>NP A (λB v=>K (B.put dst (.p v) A.h)) A.rc
 |.panic v=>Q (.panic v) A
 |.stuck=>False
def rG (X Y:Unit->Prop):Option Bool->Prop
 |some b=>Gl b X Y
 |none=>False
def DF (X Y:Unit->Prop):AV->Prop
 |.p (.bool b)=>Gl b X Y
 |_=>False
def dT (K:AAct->Prop) (Q:Ex->AAct->Prop):Ex->AAct->Prop
 |.normal,A=>K A
 |.exit j,A=>Q (.exit j) A
 |.ret,A=>Q .ret A
 |.panic v,A=>Q (.panic v) A
def jG (id:Nat) (Q:Ex->AAct->Prop):Ex->AAct->Prop
 |.exit j,A=>if j=id then Q .normal A else Q (.exit j) A
 |.normal,A=>Q .normal A
 |.ret,A=>Q .ret A
 |.panic v,A=>Q (.panic v) A
inductive Hint where
 |std|mut|low|bar
  |slot (j sz:Nat)
  |sto
  |nop
  |app (t:Nat)
  |thr
  |cal
 deriving DecidableEq
def Hint.isMut:Hint->Bool
 |.mut=>true
 |_=>false
abbrev Hints:=Nat->Hint
def aN (H:Hints):Nat->Bool:=λd=>(H d).isMut
def iF (P:Program) (H:Hints) (ops:Array Oper) (Q:Ex->AAct->Prop):List Oper->AAct->Prop
 |[],A=>Q .normal A
 |o::rest,A=>
   rG (λ_=>kA P A o.dst (iF P H ops Q rest) Q (bV P (aN H) o A.eval A.h))
    (λ_=>iF P H ops Q rest (A.put o.dst (.p (.tuple [])) A.h)) (bz ops A o)
def AObj.isDead:AObj->Bool
 |.dead=>true
 |_=>false
def cw (h h':Heap):Prop:=∀(id:Nat) (o:AObj),h[id]?=some o->o.isDead=false->h'[id]?=some o
inductive DC where
 |bar|alloc|quiet|low
 |slot (j sz:Nat)
 |sto
 |nop
 |app (t:Nat)
 |thr
 |cal
 deriving DecidableEq
def oX:Op->Bool
 |.alloc _=>true
 |.box _ _=>true
 |.makeSlice _ _ _=>true
 |.makeMap _ none=>true
 |_=>false
def yz:Op->Bool
 |.alloc _=>true
 |.box _ _=>true
 |_=>false
def eH:Op->Bool
 |.move _|.assign _|.pick _ _ _|.build _ _|.buildSlice _ _ _|.load _ _|.nilCheck _|.binOp _ _ _ _ _|.unOp _ _ _|.convert _ _ _|.makeInterface _ _|.makeFunc _ _ _
 |.slice _ _ _ _ _|.fieldAddr _ _ _|.field _ _ _|.indexAddr _ _ _|.index _ _ _|.extract _ _|.lookup _ _ _ _|.typeAssert _ _ _ _=>true
 |.call c=>
  match c.callee with
  |.value _=>true
  |.builtin .len=>true
  |.builtin .min=>true
  |.builtin .max=>true
  |_=>false
 |_=>false
def zV:Op->Bool
 |.call c=>match c.callee with|.builtin .append=>true|.builtin .copy=>true|_=>false
 |_=>false
def PH:Operand->Nat
 |.tmp x=>x
 |_=>999
def tF (H:Hints):Op->DC
 |.store _ (.tmp t) y=>match H (1000000+1000*t+PH y) with|.sto=>.sto|.nop=>.nop|_=>.bar
 |_=>.bar
def bQ (H:Hints) (o:Oper):DC:=
 match o.dst with
 |none=>tF H o.op
 |some d=>
  match H d with
  |.std=>if oX o.op=true then .alloc else if eH o.op=true then .quiet else .bar
  |.mut=>.alloc
  |.low=>if eH o.op=true then .low else .bar
  |.slot j sz=>if yz o.op=true then .slot j sz else .bar
  |.app t=>if zV o.op=true then .app t else .bar
  |.thr=>if eH o.op=true then .thr else .bar
  |.cal=>if eH o.op=true then .cal else .bar
  |_=>.bar
def xp (P:Program) (h:Heap) (K:AV->Prop):OR->Prop
 |.val v h'=>h'=h/\K v
 |.call f args=>∃v,(∀h',cw h h'->aB P f args h' (λr h''=>r=.ret v/\h''=h'))/\K v
 |_=>False
def BF (h:Heap) (K:AV->Heap->Prop):OR->Prop
 |.val v h'=>(∃t,h'=h++t)/\K v h'
 |_=>False
def gI (P:Program) (e:Operand->AV):Op->Option AV
 |.alloc T=>(an P T).map .p
 |.box _ x=>some (e x)
 |_=>none
def iC (hs:Heap) (id:Nat):Bool:=
 match hs[id]? with
 |some .dead=>true
 |none=>true
 |_=>false
def rJ (hs h:Heap) (j sz:Nat) (K:AV->Heap->Prop):Option AV->Prop
 |some z=>z.cells.map (·.length)=some sz/\iC hs (hs.length-1-j)=true/\h[hs.length-1-j]?=some (.row sz [])/\K (.ptr (hs.length-1-j) 1 0 0) (h.set (hs.length-1-j) (.row sz [z]))
 |none=>False
def pT (K:Heap->Prop):OR->Prop
 |.skip h=>K h
 |_=>False
def u6 (P:Program) (hs h:Heap) (e:Operand->AV) (K:Heap->Prop):Op->Prop
 |.store T a x=>match e a with
  |.ptr id ver i o=>iC hs id=true/\pT K (gE P T (.ptr id ver i o) (e x) h)
  |_=>False
 |_=>False
def vt (P:Program) (h:Heap) (e:Operand->AV) (K:Prop):Op->Prop
 |.store T a x=>gE P T (e a) (e x) h=.skip h/\K
 |_=>False
def P7 (hs h h':Heap):Prop:=(∃t,h'=h++t)\/∃id ob,h'=h.set id ob/\iC hs id=true
def yQ (hs h:Heap) (K:AV->Heap->Prop):OR->Prop
 |.val v h'=>P7 hs h h'/\K v h'
 |_=>False
def x8 (P:Program) (Q:Ex->AAct->Prop) (A:AAct) (K:AV->Prop):OR->Prop
 |.call f args=>(∃v,(∀h',cw A.h h'->aB P f args h' (λr h''=>r=.ret v/\h''=h'))/\K v) \/
   ∃v,aB P f args A.h (λr h''=>r=.panic v/\h''=A.h)/\∀T,Q (.panic v) { A with tmps:=T }
 |_=>False
def Ju (H:Hints) (T S:Nat->AV):Prop:=∀t,H (6000000+t)=.nop->T t=S t
def rg (P:Program) (H:Hints) (Q:Ex->AAct->Prop) (hs:Heap) (A:AAct) (K:AV->Heap->Prop):OR->Prop
 |.call f args=>aB P f args A.h (Bh (λv h=>cw hs h/\K v h) (λv h=>∀T,Ju H T A.tmps->Q (.panic v) { A with tmps:=T,h:=h }))
 |_=>False
def T3 (X Y Z W:Unit->Prop) (U:Nat->Nat->Prop) (V N E R C:Unit->Prop):DC->Prop
 |.bar=>X ()
 |.alloc=>Y ()
 |.quiet=>Z ()
 |.low=>W ()
 |.slot j sz=>U j sz
 |.sto=>V ()
 |.nop=>N ()
 |.app _=>E ()
 |.thr=>R ()
 |.cal=>C ()
def bP (P:Program) (H:Hints) (ops:Array Oper) (Q:Ex->AAct->Prop):List Oper->Heap->AAct->Prop
 |[],_,A=>Q .normal A
 |o::rest,hs,A=>
   rG (λ_=>T3
     (λ_=>kA P A o.dst (λB=>bP P H ops Q rest B.h B) Q (bV P (aN H) o A.eval A.h))
     (λ_=>BF A.h (λv h=>bP P H ops Q rest hs (A.put o.dst v h)) (bV P (aN H) o A.eval A.h))
     (λ_=>xp P A.h (λv=>bP P H ops Q rest hs (A.put o.dst v A.h)) (bV P (aN H) o A.eval A.h))
     (λ_=>xp P hs (λv=>bP P H ops Q rest hs (A.put o.dst v A.h)) (bV P (aN H) o A.eval hs))
     (λj sz=>rJ hs A.h j sz (λv h=>bP P H ops Q rest hs (A.put o.dst v h)) (gI P A.eval o.op))
     (λ_=>u6 P hs A.h A.eval (λh=>bP P H ops Q rest hs (A.put o.dst (.p (.tuple [])) h)) o.op)
     (λ_=>vt P A.h A.eval (bP P H ops Q rest hs (A.put o.dst (.p (.tuple [])) A.h)) o.op)
     (λ_=>yQ hs A.h (λv h=>bP P H ops Q rest hs (A.put o.dst v h)) (bV P (aN H) o A.eval A.h))
     (λ_=>x8 P Q A (λv=>bP P H ops Q rest hs (A.put o.dst v A.h)) (bV P (aN H) o A.eval A.h))
     (λ_=>rg P H Q hs A (λv h=>bP P H ops Q rest hs (A.put o.dst v h)) (bV P (aN H) o A.eval A.h))
     (bQ H o))
    (λ_=>bP P H ops Q rest hs (A.put o.dst (.p (.tuple [])) A.h)) (bz ops A o)
def rK (H:Hints):List Oper->List Nat
 |[]=>[]
 |o::l=>match bQ H o with|.slot _ sz=>sz::rK H l|_=>rK H l
def mT (H:Hints) (T:Nat->AV):List Oper->List Nat
 |[]=>[]
 |o::l=>match bQ H o,o.op with
  |.sto,.store _ (.tmp t) _=>(match T t with|.ptr id _ _ _=>id::mT H T l|_=>mT H T l)
  |.app t,_=>(match T t with|.slice id _ _ _=>id::mT H T l|_=>mT H T l)
  |_,_=>mT H T l
def tX (h:Heap):List Nat->Heap
 |[]=>h
 |id::l=>tX (h.set id .dead) l
def fY (id:Nat) (h:Heap):Heap:=h.mapIdx λi o=>if i=id then o else .dead
def Jl (H:Hints) (T:Nat->AV):Option Nat:=match H 5000001 with|.app t=>(match T t with|.ptr id _ _ _=>some id|.slice id _ _ _=>some id|_=>none)|.nop=>some 1000000000|_=>none
def wQ (H:Hints) (ops:List Oper) (A:AAct):Heap:=match Jl H A.tmps with|some id=>fY id A.h|none=>tX A.h (mT H A.tmps ops)
def nA (H:Hints) (ops:List Oper) (A:AAct):Heap:=wQ H ops A++(rK H ops).map λ_=>.dead
def EK {α:Type} (a b:Nat) (l:List α):List α:=if a<b/\b<l.length then l.take a++(l.drop (a+1)).take (b-a)++(l.drop a).take 1++l.drop (b+1) else l
def tT (H:Hints) (n:Nat):List Nat:=match H 5000000 with|.slot a b=>EK a b (List.range n)|_=>List.range n
def yp (H:Hints) (l:List Oper):List Oper:=match H 5000000 with|.slot a b=>EK a b l|_=>l
def p9 (H:Hints) (ops:List Oper) (A:AAct):AAct:={ A with h:=A.h++(rK H ops).map λsz=>.row sz [] }
def uh (Q:Ex->AAct->Prop) (A:AAct):Option Code->Prop
 |none=>Q .normal A
 |some .ret=>Q .ret A
 |some (.exit id)=>Q (.exit id) A
 |_=>False
def mE (Q:Ex->AAct->Prop) (A:AAct) (l:Nat):Option AObj->Prop
 |some (.loop _ _ _ _ _ st pend)=>st≠.busy/\uh Q { A with h:=A.h.set l .dead } pend
 |_=>False
def vp (P:Program) (A:AAct) (h:Heap) (l:Nat) (Q:Ex->AAct->Prop):OR->Prop
 |.call g args=>aB P g args h (Bh (λ_ h'=>mE Q { A with h:=h',df:=.collected l::A.df } (l+1) h'[l+1]?)
   (λv h'=>Q (.panic v) { A with h:=h',df:=.collected l::A.df }))
 |_=>False
def wp (P:Program) (H:Hints):Code->(Ex->AAct->Prop)->AAct->Prop
 |.skip,Q,A=>Q .normal A
 |.region _ ops false,Q,A=>iF P H ops Q ops.toList A
 |.region _ ops true,Q,A=>bP P H ops Q (yp H ops.toList) (nA H ops.toList A) (p9 H ops.toList A)
 |.seq a b,Q,A=>wp P H a (dT (wp P H b Q) Q) A
 |.cond c x y,Q,A=>DF (λ_=>wp P H x Q A) (λ_=>wp P H y Q A) (A.eval c)
 |.block id b,Q,A=>wp P H b (jG id Q) A
 |.loop b,Q,A=>∀X:AAct->Prop,(∀B,wp P H b (dT (λC=>∃D,fJ P C D/\X D) Q) B->X B)->∃B,fJ P A B/\X B
 |.rangeFunc g ps assign body,Q,A=>ur (vp P A (A.h++[.dblock,.loop A.n A.tmps ps assign body .ready none]) A.h.length Q (fN (A.eval g) [.ref .yl (A.h.length+1)])) A.rc
 |.exit id,Q,A=>Q (.exit id) A
 |.ret,Q,A=>Q .ret A
 |.scope b,Q,A=>wp P H b Q A
 |.label _,Q,A=>Q .normal A
 |_,_,_=>False
def ny (n:Nat) (o:Oper):Bool:=match o.dst with|some d=>decide (d<n)|none=>true
def FV (b:Array Nat) (i j:Nat):Bool:=(b.getD j 0).testBit i
def kU:DC->DC->Bool
 |.alloc,.low=>true
 |.quiet,.alloc|.quiet,.quiet|.quiet,.low=>true
 |.low,.alloc|.low,.quiet|.low,.low|.low,.slot _ _|.low,.sto=>true
 |.slot _ _,.low|.slot _ _,.slot _ _=>true
 |.sto,.low=>true
 |.app _,.low|.low,.app _=>true
 |.nop,.low|.nop,.quiet|.nop,.nop|.low,.nop|.quiet,.nop=>true
 |.quiet,.thr|.low,.thr=>true
 |.low,.cal=>true
 |_,_=>false
def ui (o:Oper):Bool:=
 match o.guard,o.op with
 |none,.move _=>true
 |none,.assign _=>true
 |_,_=>false
def wS:DC->Bool
 |.thr=>true
 |_=>false
def p6:DC->Bool
 |.quiet=>true
 |_=>false
def PY (H:Hints) (x y:Oper):Bool:=
 match bQ H y with
 |.cal=>(match x.dst with|some d=>decide (H (6000000+d)≠.nop)|none=>true)
 |_=>true
def oQ (H:Hints) (ops:Array Oper) (x y:Oper):Bool:=(kU (bQ H x) (bQ H y)||(wS (bQ H x)&&ui y&&p6 (bQ H y)))&&(Oper.apart ops x y&&PY H x y)
def zA (H:Hints) (ops:Array Oper) (b:Array Nat):List Nat->Bool
 |[]=>true
 |i::r=>
  (match ops[i]? with
   |some x=>(x.after.all λe=>!Region.binds .any e||(decide (e.on<ops.size)&&!(i::r).contains e.on)) &&
    r.all λj=>!(i==j)&&(match ops[j]? with|some y=>FV b i j||oQ H ops x y|none=>false)
   |none=>false)&&zA H ops b r
def Fi (H:Hints) (ops:Array Oper):Bool:=
 (ops.toList.all λy=>Region.noSelect ops)&&decide ((tT H ops.size).length=ops.size)&&zA H ops (Region.before ops) (tT H ops.size)
def cU (H:Hints) (n:Nat):Code->Bool
 |.region _ ops false=>ops.toList.all (ny n)
 |.region _ ops true=>ops.toList.all (ny n)&&Fi H ops
 |.seq a b=>cU H n a&&cU H n b
 |.cond _ a b=>cU H n a&&cU H n b
 |.block _ b=>cU H n b
 |.loop b=>cU H n b
 |.rangeFunc _ _ a b=>cU H n a&&cU H n b
 |.scope b=>cU H n b
 |_=>true
end Abs
end Go.Proofs.YtnjiadikeacfaaaGreatDoor
