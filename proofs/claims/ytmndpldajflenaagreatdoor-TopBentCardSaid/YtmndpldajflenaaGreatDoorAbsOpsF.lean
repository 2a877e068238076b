/- LAWS: every operation of the abstract machine and the model's. -/
import Derived.Test.YtmndpldajflenaaGreatDoorAbsPut
import Derived.Laws.BytesArg
set_option linter.all false
namespace Go.Proofs.YtmndpldajflenaaGreatDoor
namespace Abs
variable {P:Program} {M0:Nat->Prop} {S:Mem}
def pE (P:Program) (M0:Nat->Prop) (S:Mem) (s:Sem Next):OR->Prop
 |.val v h=>∃(S':Mem) (v':Value),S'.h=h/\s.run P S.w=.ok (.value v') S'.w/\Ev S.h.length S S'/\HOk P M0 S'/\Rep M0 S' v' v
 |.skip h=>∃S':Mem,S'.h=h/\s.run P S.w=.ok .skip S'.w/\Ev S.h.length S S'/\HOk P M0 S'
 |.call f args=>∃cargs:Array Value,s.run P S.w=(callFunc f cargs).run P S.w/\cK (Rep M0 S) cargs args
 |.panic v=>∃v':Value,s.run P S.w=.halt (.panic v') S.w/\RepP (Avoid M0 S.m) S.w v' v
 |.yld l args=>∃(b:Nat) (cargs:Array Value),s.run P S.w=(Instr.yield b cargs).run P S.w/\cK (Rep M0 S) cargs args/\(S.h[l]?=some .dead\/S.m.getD l none=some b)
 |.dfr (.fn g args)=>∃(fv:Fn) (cap dargs cargs:Array Value),s.run P S.w=.ok (.defer { target:=.fn fv cap,args:=dargs }) S.w /\
   (∀w,(invoke (.fn fv cap) dargs).run P w=(callFunc g cargs).run P w)/\cK (Rep M0 S) cargs args
 |.dfr _=>False
 |.recover=>s.run P S.w=.ok .recover S.w
 |.stuck=>True
theorem aB.op{s}{r}(h:aB P M0 S s r):pE P M0 S (do let v<-s;Pure.pure (Next.value v)) r:=by
 cases r with
 |val v hh=>
  obtain⟨S',v',h1,h2,h3⟩:=h
  exact⟨S',v',h1,by simp[h2],h3⟩
 |skip _=>exact h.elim
 |call _ _=>exact h.elim
 |panic _=>exact h.elim
 |yld _ _=>exact h.elim
 |dfr _=>exact h.elim
 |recover=>exact h.elim
 |stuck=>exact trivial
theorem wh.op{s}{r}(h:wh P M0 S s r):pE P M0 S (do s;Pure.pure Next.skip) r:=by
 cases r with
 |skip hh=>
  obtain⟨S',h1,h2,h3⟩:=h
  exact⟨S',h1,by simp[h2],h3⟩
 |val _ _=>exact h.elim
 |call _ _=>exact h.elim
 |panic _=>exact h.elim
 |yld _ _=>exact h.elim
 |dfr _=>exact h.elim
 |recover=>exact h.elim
 |stuck=>exact trivial
theorem B8{op}{T}{x y}{a b}(w)(h1:(∀C D,¬(a=.agg C/\b=.agg D))\/P.eqGuardType P.depth T=false)
  (h2:¬(a=.nilIface/\b=.nilIface)\/(jd x||jd y)=true):(eqGuard op T x y a b).run P w=.ok () w:=by
 by_cases ha:∃C D,a=.agg C/\b=.agg D
 .obtain⟨C,D,rfl,rfl⟩:=ha;rcases h1 with h1|h1
  .exact absurd ⟨rfl,rfl⟩ (h1 C D)
  .exact run_eqGuard_agg w op T x y C D h1
 .by_cases hn:a=.nilIface/\b=.nilIface
  .obtain⟨rfl,rfl⟩:=hn;rcases h2 with h2|h2
   .exact absurd ⟨rfl,rfl⟩ h2
   .cases op<;>first
     |rfl
     |(cases x<;>cases y<;>first|rfl|exact absurd h2 (by simp[jd]))
  .exact tG w (λC D h=>ha ⟨C,D,h⟩) hn
theorem MB(hS:HOk P M0 S){op}{T}{xo yo}{x y}{a b}(hx:Rep M0 S a x)(hy:Rep M0 S b y) :
  aB P M0 S (do eqGuard op T xo yo a b;binOp op T a b) (xp P op T (jd xo||jd yo) x y S.h):=by
 have guardOk:((∀C D,¬(a=.agg C/\b=.agg D))\/P.eqGuardType P.depth T=false)->(¬(a=.nilIface/\b=.nilIface)\/(jd xo||jd yo)=true) ->
   ∀r:OR,aB P M0 S (binOp op T a b) r->aB P M0 S (do eqGuard op T xo yo a b;binOp op T a b) r:=by
  intro h1 h2 r hr;have hg:=B8 (op:=op) (T:=T) (x:=xo) (y:=yo) (P:=P) S.w h1 h2
  cases r with
  |val v h=>
   obtain⟨S',v',g1,g2,g3⟩:=hr
   exact⟨S',v',g1,by simp[hg,g2],g3⟩
  |stuck=>exact trivial
  |_=>exact hr.elim
 unfold xp;split
 .rename_i k i k' j;have:=fI hx;subst this;have:=fI hy;subst this;split
  .exact guardOk (.inl (by simp)) (.inl (by simp)) _ (pO hS λq hq=>Cn hq _ _)
  .rename_i hsh;split
   .rename_i hk;subst hk;exact guardOk (.inl (by simp)) (.inl (by simp)) _ (pO hS λq hq=>Gs (by simpa using hsh) hq _ _)
   .exact trivial
 .rename_i s t;have h1:RepP (Avoid M0 S.m) S.w a (.str s):=hx;have h2:RepP (Avoid M0 S.m) S.w b (.str t):=hy;cases h1;cases h2;exact guardOk (.inl (by simp)) (.inl (by simp)) _ (pO hS λq hq=>Fs hq _ _)
 .split
  .cases he:BI P T (jd xo||jd yo) x y with
   |none=>exact trivial
   |some t=>
    obtain⟨⟨g1,g2⟩,g3,g4⟩:=Jg hx hy he;exact guardOk g3 g4 _ (pO hS λq hq=>by cases hq;exact⟨_,g1,.bool _⟩)
  .cases he:BI P T (jd xo||jd yo) x y with
   |none=>exact trivial
   |some t=>
    obtain⟨⟨g1,g2⟩,g3,g4⟩:=Jg hx hy he;exact guardOk g3 g4 _ (pO hS λq hq=>by cases hq;exact⟨_,g2,.bool _⟩)
  .exact trivial
theorem MR(hS:HOk P M0 S){op}{x}{a}(hx:Rep M0 S a x):aB P M0 S (Op.unary op a) (Dt op x S.h):=by
 unfold Dt;split
 .have:=lN hx;subst this;exact aB.pure hS (v':=.bool _) rfl (ar (.bool _))
 .have:=fI hx;subst this;exact aB.pure hS (v':=.int _ _) (by simp[Op.unary,Op.intArith]) (ar (.int _ _))
 .exact trivial
theorem xY:∀{l} {ns},pU l=some ns->ns.length=l.length/\∀(i:Nat) (n),ns[i]?=some n->l[i]?=some (.int .u8 n)
 |[],ns,h=>by cases h;exact⟨rfl,by simp⟩
 |x::r,ns,h=>by
  unfold pU at h;split at h
  .rename_i he;cases he
  .rename_i n r' he;cases he;simp only[bx]at h;obtain⟨ms,hm,rfl⟩:=h;obtain⟨h1,h2⟩:=xY hm;refine⟨by simp[h1],λi m hi=>?_⟩
   cases i with
   |zero=>cases hi;rfl
   |succ i=>exact h2 i m (by simpa using hi)
  .cases h
theorem ED(hS:HOk P M0 S){src dst}{x}{a}(hx:Rep M0 S a x):aB P M0 S (convert src dst a) (lS P src dst x S.h):=by
 unfold lS;split
 .rename_i k' n;have:=fI hx;subst this;split
  .rename_i k hk;unfold cu at hk;split at hk
   .rename_i d k2 h1 h2;cases hk;refine aB.pure hS (v':=.int k (k.wrap n)) ?_ (ar (.int _ _));simp[convert,run_underlying h1,run_underlying h2,Conv.intToInt]
   .cases hk
  .exact trivial
 .rename_i s;split
  .rename_i hc;have h1:RepP (Avoid M0 S.m) S.w a (.str s):=hx;cases h1;refine aB.pure hS (v':=.string s) ?_ (ar (.str _));simp[convert,run_underlying (dV hc.1),run_underlying (dV hc.2)]
  .exact trivial
 .rename_i y ys full;split
  .rename_i hc;split
   .rename_i ns hns;obtain⟨e,hs,he⟩:∃e,P.underlying src=some (.slice e)/\P.underlying e=some (.int .u8):=by
     have h1:=hc.1;unfold uw at h1
     cases hq:aH P src with
     |none=>rw[hq]at h1;cases h1
     |some e=>
      rw[hq]at h1;refine⟨e,bA hq,?_⟩;dsimp only at h1;split at h1
      .assumption
      .cases h1
    have h1:RepP (Avoid M0 S.m) S.w a (.slice 1 (y::ys) full):=hx;obtain⟨hlen,hat⟩:=xY hns
    cases h1 with
    |slice f hln hcap hfull hsz hM hcell hr=>
     rename_i b off len cap;refine aB.pure hS (v':=.string (strOfNums ns)) (run_convert_bytes_arg S.w src e hs he b off len cap ns (by rw[hln,hlen]) (λi hi=>?_) dst (dV hc.2)) (ar (.str _));have hi2:i<ns.length:=by rw[hlen,<-hln];exact hi
     have hq:=hat i _ (aT hi2);have h2:=hr i 0 _ _ hq rfl;rw[hcell i (by rw[Nat.mul_one,<-hln];exact hi)];rw[Nat.mul_one,j5]at h2;generalize f i=z at h2;cases h2;simp[bB,aT hi2]
   .exact trivial
  .exact trivial
 .exact trivial
theorem Ey(hS:HOk P M0 S){x}{a}{i}(hx:Rep M0 S a x):aB P M0 S (Instr.extract a i) (lR x i S.h):=by
 unfold lR;split
 .rename_i vs;split
  .rename_i v hv;have h1:RepP (Avoid M0 S.m) S.w a (.tuple vs):=hx
   cases h1 with
   |@tuple C _ hn hr=>
    have hi:=(aA.1 hv).1;refine aB.pure hS (v':=C.getD i undef) ?_ (ar (hr i v hv));simp[Instr.extract,show i<C.size by omega]
  .exact trivial
 .rename_i vs;split
  .rename_i v hv;obtain⟨C,rfl,hn,hr⟩:=hx;have hi:=(aA.1 hv).1;refine aB.pure hS (v':=C.getD i undef) ?_ (lz (hr i v hv));simp[Instr.extract,show i<C.size by omega]
  .exact trivial
 .exact trivial
theorem lA{ρ}{e}(he:∀x,Rep M0 S (ρ x) (e x))(xs:Array Operand):cK (Rep M0 S) (xs.map ρ) (xs.toList.map e):=by
 refine⟨by simp,λi c hi=>?_⟩;simp only[bU,bx]at hi;obtain⟨x,hx,rfl⟩:=hi;have hil:=(aA.1 hx).1;have:(xs.map ρ).getD i undef=ρ x:=by
  apply getD_some;rw[Array.getElem?_map];rw[Array.getElem?_toList]at hx;simp[hx]
 rw[this];exact he x
theorem rz{v}{a}(h:a.plain=true)(hr:Rep M0 S v a):bp M0 S v a:=by
 cases a<;>first|exact hr|(simp[AV.plain]at h)
theorem Cj(hS:HOk P M0 S){fn}{F C}{first cap}(h1:cK (Rep M0 S) F first)(h2:cK (Rep M0 S) C cap)(p1:first.all AV.plain=true)(p2:cap.all AV.plain=true) :
  aB P M0 S (Instr.makeFunc fn F C) (.val (vn fn first cap) S.h):=by
 refine aB.pure hS (v':=.func fn F C) rfl ?_;rw[iw]at p1 p2;unfold vn;split
 .rename_i a b ha hb;have e1:=gM ha;have e2:=gM hb;subst e1;subst e2;exact ar (.func (by simpa using h1.1) (by simpa using h2.1) (λi c hi=>h1.2 i (.p c) (by simp[hi])) (λi c hi=>h2.2 i (.p c) (by simp[hi])))
 .exact⟨F,C,rfl,h1.imp λv c hc hr=>rz (p1 c hc) hr,h2.imp λv c hc hr=>rz (p2 c hc) hr⟩
theorem cP{R}{A B}{a b}(h:cK R A a)(k:cK R B b):cK R (A++B) (a++b):=by
 refine⟨by simp[h.1,k.1],λi c hi=>?_⟩;rcases aw i a.length with hl|hl
 .rw[br hl]at hi;have:(A++B).getD i undef=A.getD i undef:=by
   have:=h.1;simp[gG,IY,show i<A.size by omega]
  rw[this];exact h.2 i c hi
 .rw[ca hl]at hi;have:(A++B).getD i undef=B.getD (i-a.length) undef:=by
   have:=h.1;simp[gG,IY,this,show ¬i<a.length by omega]
  rw[this];exact k.2 _ c hi
theorem kB{C}{l:List PV}(hn:C.size=l.length)(h:∀(i) (c),l[i]?=some c->RepP (Avoid M0 S.m) S.w (C.getD i undef) c):cK (Rep M0 S) C (l.map .p):=by
 refine⟨by simpa using hn,λi c hi=>?_⟩;simp only[bU,bx]at hi;obtain⟨q,hq,rfl⟩:=hi;exact ar (h i q hq)
theorem jj{v}{a}(h:bp M0 S v a):Rep M0 S v a:=by
 cases a<;>first|exact h|exact False.elim h
theorem Gq{f}{vf}{args}{C}(hf:Rep M0 S vf f)(ha:cK (Rep M0 S) C args) :
  pE P M0 S (do let d<-Deferred.ofValue vf C;invoke d.target d.args) (eX f args):=by
 unfold eX;split
 .rename_i g first cap
  have h1:RepP (Avoid M0 S.m) S.w vf (.func (.func g) first cap):=hf
  cases h1 with
  |@func _ F K _ _ hf hc h1 h2=>
   refine⟨F++C++K,?_,cP (cP (kB hf h1) ha) (kB hc h2)⟩;simp[Deferred.ofValue,invoke]
 .rename_i g first cap
  obtain⟨F,K,rfl,h1,h2⟩:=hf;refine⟨F++C++K,?_,cP (cP (h1.imp λv c _ hr=>jj hr) ha) (h2.imp λv c _ hr=>jj hr)⟩;simp[Deferred.ofValue,invoke]
 .rename_i l;have h1:bp M0 S vf (.ref .yl l):=hf;rcases h1.2 with hd|⟨_,b,hb,rfl⟩
  .obtain⟨⟨b,rfl⟩,_⟩:=h1;exact⟨b,C,by simp[Deferred.ofValue,invoke,rZ],ha,.inl hd⟩
  .exact⟨b,C,by simp[Deferred.ofValue,invoke,rZ],ha,.inr hb⟩
 .exact trivial
theorem F'{name:String}{x:AV}{vx:Value}{args:List AV}{C:Array Value}(hx:Rep M0 S vx x)(ha:cK (Rep M0 S) C args) :
  pE P M0 S (invoke (.fn (.method name) #[]) (#[vx]++C)) (qa P name x args):=by
 unfold qa;split
 .rename_i t id;obtain⟨a,rfl,hp⟩:=qz (show bp M0 S vx (.iptr t id) from hx);split
  .rename_i f hf;unfold lF at hf;split at hf
   .rename_i m hm;split at hf
    .rename_i hpath;split at hf
     .rename_i g e hfn hu;cases hf
      cases hi:P.info? t with
      |none=>rw[hi]at hm;simp at hm
      |some i=>
       rw[hi]at hm;simp only[dy,ot]at hm;have hp':m.path=#[]:=by simpa using hpath
       refine⟨#[.pointer a]++C,?_,cP (A:=#[.pointer a]) (a:=[.ptr id 1 0 0]) ⟨rfl,λi c hi=>?_⟩ ha⟩
       .have hfuel:∃n,P.types.size+Made.depth=n+1:=⟨P.types.size+Made.depth-1,by have:Made.depth=100:=rfl;omega⟩
        obtain⟨n,hn⟩:=hfuel;have h0:(#[Value.iface t (.pointer a)]++C)[0]?=some (.iface t (.pointer a)):=by rw[Array.getElem?_append_left (by simp)];rfl
        have h1:(#[Value.iface t (.pointer a)]++C).extract 1 (#[Value.iface t (.pointer a)]++C).size=C:=by
         apply Array.ext';simp
        simp only[invoke,h0,h1,callMethod,Sem.run_bind,run_program,aG,hn,method,typeInfo,hi,hm,hp',follow,receiverAt,hfn,run_underlying hu];simp only[hm,hp',follow,Sem.run_bind,Sem.run_pure,aG,hfn,receiverAt,run_underlying hu,Place.get,callFunc]
       .match i,hi with
        |0,hi=>cases hi;exact hp
     .cases hf
    .cases hf
   .cases hf
  .exact trivial
 .exact trivial
theorem Cg{name:String}{t:TypeId}{a:Option Addr}{f:FuncId}{w:World}(hf:lF P t name=some f):(nilAhead (P.types.size+Made.depth) t (.pointer a) name).run P w=.ok (some false) w:=by
 unfold lF at hf;split at hf
 .rename_i m hm;split at hf
  .rename_i hpath;split at hf
   .rename_i g e hfn hu
    cases hi:P.info? t with
    |none=>rw[hi]at hm;simp at hm
    |some i=>
     rw[hi]at hm;simp only[dy,ot]at hm;have hp':m.path=#[]:=by simpa using hpath
     have hfuel:∃n,P.types.size+Made.depth=n+1:=⟨P.types.size+Made.depth-1,by have:Made.depth=100:=rfl;omega⟩
     obtain⟨n,hn⟩:=hfuel;simp only[hn,nilAhead,typeInfo,Sem.run_bind,run_program,aG,hi];simp only[hm,hp',followBlind,Sem.run_bind,Sem.run_pure,aG,hfn]
   .cases hf
  .cases hf
 .cases hf
theorem Im{f}{vf}{args}{C}(hf:Rep M0 S vf f)(ha:cK (Rep M0 S) C args) :
  pE P M0 S (do let d<-Deferred.ofValue vf C;Pure.pure (Next.defer d)) (sX f args):=by
 unfold sX eX;split
 .rename_i g l hg;split at hg
  .rename_i g' first cap
   cases hg;have h1:RepP (Avoid M0 S.m) S.w vf (.func (.func g) first cap):=hf
   cases h1 with
   |@func _ F K _ _ hf hc h1 h2=>
    refine⟨.func g,K,F++C,F++C++K,by simp[Deferred.ofValue],λw=>by simp[invoke],cP (cP (kB hf h1) ha) (kB hc h2)⟩
  .rename_i g' first cap
   cases hg;obtain⟨F,K,rfl,h1,h2⟩:=hf;exact⟨.func g,K,F++C,F++C++K,by simp[Deferred.ofValue],λw=>by simp[invoke],cP (cP (h1.imp λv c _ hr=>jj hr) ha) (h2.imp λv c _ hr=>jj hr)⟩
  .cases hg
  .cases hg
 .exact trivial
theorem zC{z}{n sz}(hz:z.size=sz){i j}(hi:i<n)(hj:j<sz):(Builtin.zeroCells z n).getD (i*sz+j) undef=z.getD j undef:=by
 subst hz;have h1:i*z.size+j<n*z.size:=fS hi hj;have h2:(i*z.size+j)%z.size=j:=by rw[s7,Nat.mul_add_mod,DH hj]
 simp[Builtin.zeroCells,h1,h2,hj,getElem!_pos]
theorem Ip(hS:HOk P M0 S){T}{x}{v}{ty}(hx:Rep M0 S v x):aB P M0 S (Builtin.clear_ #[T] ty #[v]) (vZ P T x S.h):=by
 unfold vZ;split
 .rename_i e id ver off len he;split
  .rename_i sz xs sz' z hid hsz hz;split
   .rename_i hc;obtain⟨rfl,hv,hle,hzl,hz0,hzc⟩:=hc;have hu:=bA he;obtain⟨vz,hvz,hcz⟩:=gH hz S.w;have hrep:Rep M0 S vz (.p z):=eb hcz;obtain⟨cs,hcs⟩:=ec.1 hzc;obtain⟨hnz,hrz⟩:=gL hrep hcs;have hcl:cs.length=sz':=by
     cases z with
     |tuple l=>simp[AV.cells]at hcs
     |_=>(simp[AV.cells]at hcs;subst hcs;simpa using hzl)
    have hDs:(Builtin.zeroCells vz.cells len).size=(List.replicate len (AV.p z)).length*sz':=by simp[Builtin.zeroCells,hnz,hcl]
    have hDel:cA M0 S sz' (Builtin.zeroCells vz.cells len) (List.replicate len (AV.p z)):=by
     intro i y hi;have hil:i<len:=by have:=(aA.1 hi).1;simpa using this
     rw[zu,if_pos hil]at hi;cases hi;refine⟨cs,hcs,hcl,λj c hc=>?_⟩;have hjl:=(aA.1 hc).1;rw[zC (by rw[hnz,hcl]) hil (by omega)];exact hrz j c hc
    have hunit:Rep M0 S (.tuple #[]) (.p (.tuple [])):=ar (.tuple rfl λi c hi=>by simp at hi);have none0:len=0->(∃a cap,v=.slice a 0 cap)->aB P M0 S (Builtin.clear_ #[T] ty #[v]) (.val (.p (.tuple [])) (S.h.set id (.row sz' (xs.take off++List.replicate len (AV.p z)++xs.drop (off+len))))):=by
     rintro rfl ⟨a,cap,rfl⟩
     refine⟨S,.tuple #[],?_,?_,Ev.refl _ _,hS,hunit⟩
     .simp only[List.replicate_zero,co,j5,ox];exact(ji hid).symm
     .cases a<;>simp[Builtin.clear_,run_underlying hu]
    rcases bK hx.2 hid hv with⟨h1,h2,h3,ad,cap,rfl⟩|⟨b,cap,T',n,hm,rfl,hcap,hsh,hfit,hreach⟩|⟨hmn,rfl,h0⟩
    .exact none0 h1 ⟨_,_,rfl⟩
    .rcases ow len with h0|h0
     .exact none0 h0 ⟨_,_,by rw[h0]⟩
     .obtain⟨C,T2,hb2,hsize2,hel2⟩:=dU hS hid hm;have hlr:(List.replicate len (AV.p z)).length=len:=by simp
      have hnew:(xs.take off++List.replicate len (AV.p z)++xs.drop (off+len)).length=xs.length:=by simp;omega
      have hfit2:off*sz'+(Builtin.zeroCells vz.cells len).size<=C.size:=by
       rw[hDs,hlr,<-cG];exact iZ (eO sz' (by omega)) hsize2
      have hone:=mB hlr (by rw[hDs,hlr]) hDel;have hst:=gK (P:=P) b T2 (Builtin.zeroCells vz.cells len).toList (off*sz') 0 C S.w hb2 (by simpa using hfit2) hone;have hov:(iq C (off*sz') (Builtin.zeroCells vz.cells len).toList).size=C.size:=fO _ _ _;have en:=Ev.set S.h.length hid hm hb2 hov (xs':=xs.take off++List.replicate len (AV.p z)++xs.drop (off+len)) (by omega);have hover:=rb hel2 hsize2 hDs hDel (p:=off) (by rw[hlr];omega);rw[hlr]at hover
      refine⟨S.set id (.row sz' (xs.take off++List.replicate len (AV.p z)++xs.drop (off+len))) b (iq C (off*sz') (Builtin.zeroCells vz.cells len).toList),.tuple #[],rfl,?_,en,
       HOk.set hS hid hm hb2 hov (by omega) (by rw[hov,hnew];exact hsize2) hover,ar (.tuple rfl λi c hi=>by simp at hi)⟩
      obtain⟨m,rfl⟩:∃m,len=m+1:=⟨len-1,by omega⟩
      simp only[j5]at hst;simp[Builtin.clear_,run_underlying hu,hvz,hst,Mem.set]
    .exact none0 h0 ⟨_,_,rfl⟩
   .exact trivial
  .exact trivial
 .exact trivial
theorem GH(hS:HOk P M0 S){sz len}{y}{v}{ys}(hy:Rep M0 S v y)(h:tE S.h sz len y=some ys) :
  ∃(D:Array Value) (m:Nat),(Builtin.lenOf v).run P S.w=.ok m S.w/\Nat.min m len=ys.length/\(Builtin.firstCells sz ys.length v).run P S.w=.ok D S.w/\D.size=ys.length*sz/\cA M0 S sz D ys:=by
 unfold tE at h;split at h
 .rename_i id ver off n;split at h
  .rename_i sz' xs hid;split at h
   .rename_i hc;obtain⟨rfl,hv,hle⟩:=hc;cases h;have hmn:Nat.min n len<=n:=Nat.min_le_left _ _;have hsl:=uS off (Nat.min n len) xs (by omega);rcases bK hy.2 hid hv with⟨rfl,hv0,hoff,ad,cap,rfl⟩|⟨b,cap,T',n',hm,rfl,hcap,hsh,hroom,hreach⟩|⟨hmn',rfl,rfl⟩
    .have e0:Nat.min 0 len=0:=Nat.zero_min _;rw[e0]at hsl |-;refine⟨#[],0,rfl,by rw[hsl,e0],?_,by simp[hsl],λi x hx=>by simp[sub]at hx⟩;rw[hsl]
     cases ad with
     |none=>rfl
     |some a=>simp[Builtin.firstCells,loadCells,loadCellsFrom]
    .obtain⟨C,T,hb,hsize,hel⟩:=dU hS hid hm;have hmul:(off+n)*sz'<=C.size:=iZ (eO sz' (by omega)) hsize;have hmul2:Nat.min n len*sz'<=n*sz':=eO sz' hmn;rw[cG]at hmul;refine⟨((List.range (Nat.min n len*sz')).map λk=>C.getD (off*sz'+k) undef).toArray,n,rfl,by rw[hsl],?_,by simp[hsl],λi x hx=>?_⟩
     .have:=run_loadCells (P:=P) S.w ⟨b,off*sz',none⟩ (Nat.min n len*sz') (λk=>C.getD (off*sz'+k) undef) (λj hj=>by
       rw[dg]
       exact gU hb _ (by omega))
      simpa[Builtin.firstCells,hsl]using this
     .have hil:=(aA.1 hx).1;rw[hsl]at hil;have hx':xs[off+i]?=some x:=by
       unfold sub at hx;rw[kh,if_pos hil,nn]at hx;exact hx
      obtain⟨cs,h1,h2,h3⟩:=hel _ x hx';refine⟨cs,h1,h2,λj c hc=>?_⟩;have hjl:=(aA.1 hc).1;rw[fH _ _ _ (fS hil (by omega))];have:=h3 j c hc;rwa [cG,fX]at this
    .have e0:Nat.min 0 len=0:=Nat.zero_min _;rw[e0]at hsl |-;exact⟨#[],0,rfl,by rw[hsl,e0],by rw[hsl];rfl,by simp[hsl],λi x hx=>by simp[sub]at hx⟩
   .cases h
  .cases h
 .rename_i sz' xs full;split at h
  .rename_i ys' he;split at h
   .rename_i hl;cases h;obtain⟨D,h1,h2,h3,h4⟩:=jK hS hy he;exact⟨D,ys.length,h1,yM hl,h2 S.w rfl,h3,h4⟩
   .cases h
  .cases h
 .cases h
theorem Kn(hS:HOk P M0 S){T}{ts}(hT:ts[0]?=some T){x y}{v u}{ty}(hx:Rep M0 S v x)(hy:Rep M0 S u y):aB P M0 S (Builtin.copy_ ts ty #[v,u]) (ze P T x y S.h):=by
 unfold ze;split
 .rename_i e id ver off len he;split
  .rename_i sz xs sz' hid hsz;split
   .rename_i hc;obtain⟨rfl,hv,hle⟩:=hc;split
    .rename_i ys hys;obtain⟨D,m,h1,h2,h3,h4,h5⟩:=GH hS hy hys;have hu:=bA he;have hyl:ys.length<=len:=by rw[<-h2];exact Nat.min_le_right _ _
     have hint:Rep M0 S (goInt (ys.length:Int)) (.p (.int .i64 (ys.length:Int))):=ar (.int _ _);have none0:ys.length=0->(∃a cap,v=.slice a len cap)->aB P M0 S (Builtin.copy_ ts ty #[v,u]) (.val (.p (.int .i64 (ys.length:Int))) (S.h.set id (.row sz' (xs.take off++ys++xs.drop (off+ys.length))))):=by
      rintro h0 ⟨a,cap,rfl⟩
      have hy0:ys=[]:=DB h0;subst hy0;have hD0:D=#[]:=Array.eq_empty_of_size_eq_zero (by simpa using h4);subst hD0;refine⟨S,goInt (([]:List AV).length:Int),?_,?_,Ev.refl _ _,hS,hint⟩
      .simp only[gz,co,j5,ox];exact(ji hid).symm
      .simp only[gz]at h2 h3 |-;unfold Builtin.copy_;cases a<;>simp[hT,run_underlying hu,aU hsz,h1,h2,h3,storeCells]
     rcases bK hx.2 hid hv with⟨e1,e2,e3,ad,cap,rfl⟩|⟨b,cap,T',n,hm,rfl,hcap,hsh,hfit,hreach⟩|⟨hmn,rfl,h0⟩
     .exact none0 (by omega) ⟨_,_,by rw[e1]⟩
     .rcases ow ys.length with h0|h0
      .exact none0 h0 ⟨_,_,rfl⟩
      .obtain⟨C,T2,hb2,hsize2,hel2⟩:=dU hS hid hm;have hnew:(xs.take off++ys++xs.drop (off+ys.length)).length=xs.length:=by simp;omega
       have hfit2:off*sz'+D.size<=C.size:=by
        rw[h4,<-cG];exact iZ (eO sz' (by omega)) hsize2
       have hone:=mB rfl h4 h5;have hst:=gK (P:=P) b T2 D.toList (off*sz') 0 C S.w hb2 (by simpa using hfit2) hone;have hov:(iq C (off*sz') D.toList).size=C.size:=fO _ _ _;have en:=Ev.set S.h.length hid hm hb2 hov (xs':=xs.take off++ys++xs.drop (off+ys.length)) (by omega);have hover:=rb hel2 hsize2 h4 h5 (p:=off) (by omega)
       refine⟨S.set id (.row sz' (xs.take off++ys++xs.drop (off+ys.length))) b (iq C (off*sz') D.toList),goInt (ys.length:Int),rfl,?_,en,
        HOk.set hS hid hm hb2 hov (by omega) (by rw[hov,hnew];exact hsize2) hover,ar (.int _ _)⟩
       simp only[j5]at hst;unfold Builtin.copy_;simp[hT,run_underlying hu,aU hsz,h1,h2,h3,hst,Mem.set]
     .exact none0 (by omega) ⟨_,_,by rw[h0]⟩
    .exact trivial
   .exact trivial
  .exact trivial
 .exact trivial
theorem EM(hS:HOk P M0 S){b}{ts}{ty}{cs}{C}{args}(ha:cK (Rep M0 S) C args) :
  pE P M0 S (builtin b ts ty cs C) (kz P b ts args S.h):=by
 have one:∀x,args=[x]->∃v,C=#[v]/\Rep M0 S v x:=by
  intro x hx;subst hx;have hn:=ha.1;have:C=#[C.getD 0 undef]:=by
   apply oz
   .simpa using hn
   .intro i h1 h2;have:i=0:=by simp at h2;omega
    subst this;simp[h1]
  exact⟨C.getD 0 undef,this,ha.2 0 x rfl⟩
 have two:∀x y,args=[x,y]->∃u v,C=#[u,v]/\Rep M0 S u x/\Rep M0 S v y:=by
  intro x y hx;subst hx;have hn:=ha.1;have:C=#[C.getD 0 undef,C.getD 1 undef]:=by
   apply oz
   .simpa using hn
   .intro i h1 h2;have:i=0\/i=1:=by simp at h2;omega
    rcases this with rfl|rfl<;>simp[h1]
  exact⟨_,_,this,ha.2 0 x rfl,ha.2 1 y rfl⟩
 unfold kz;split
 .rename_i x;obtain⟨v,rfl,hv⟩:=one _ rfl;split
  .rename_i hts;have:ts=#[ts.getD 0 0]:=by
    apply oz
    .simpa using hts
    .intro i h1 h2;have:i=0:=by simp at h2;omega
     subst this;simp[h1]
   have h:=(LI (P:=P) (T:=ts.getD 0 0) (ty:=ty) hS hv).op;rw[<-this]at h;exact h
  .exact trivial
 .rename_i x y;obtain⟨u,v,rfl,hu,hv⟩:=two _ _ rfl;split
  .rename_i hts;have:ts=#[ts.getD 0 0,ts.getD 1 0]:=by
    apply oz
    .simpa using hts
    .intro i h1 h2;have:i=0\/i=1:=by simp at h2;omega
     rcases this with rfl|rfl<;>simp[h1]
   have h:=(yk (P:=P) (T:=ts.getD 0 0) (U:=ts.getD 1 0) (ty:=ty) hS hu hv).op;rw[<-this]at h;exact h
  .exact trivial
 .rename_i j a k b;obtain⟨u,v,rfl,hu,hv⟩:=two _ _ rfl;have:=fI hu;subst this;have:=fI hv;subst this;refine⟨S,_,rfl,?_,Ev.refl _ _,hS,ar (.int _ _)⟩;simp[builtin,Builtin.min_,Builtin.min2]
 .rename_i j a k b;obtain⟨u,v,rfl,hu,hv⟩:=two _ _ rfl;have:=fI hu;subst this;have:=fI hv;subst this;refine⟨S,_,rfl,?_,Ev.refl _ _,hS,ar (.int _ _)⟩;simp[builtin,Builtin.max_,Builtin.max2]
 .show (builtin .recover ts ty cs C).run P S.w=.ok .recover S.w;simp[builtin]
 .rename_i x;obtain⟨v,rfl,hv⟩:=one _ rfl;split
  .rename_i hts;have:ts=#[ts.getD 0 0]:=by
    apply oz
    .simpa using hts
    .intro i h1 h2;have:i=0:=by simp at h2;omega
     subst this;simp[h1]
   have h:=(Ip (P:=P) (T:=ts.getD 0 0) (ty:=ty) hS hv).op;rw[<-this]at h;exact h
  .exact trivial
 .rename_i x y;obtain⟨u,v,rfl,hu,hv⟩:=two _ _ rfl;split
  .rename_i hts;exact(Kn (P:=P) (T:=ts.getD 0 0) (ts:=ts) (ty:=ty) hS (by simp[gG,hts]) hu hv).op
  .exact trivial
 .exact trivial
theorem MZ(hS:HOk P M0 S){mu}{o}{ρ}{e}(he:∀x,Rep M0 S (ρ x) (e x)):pE P M0 S (execOp ρ o) (aW P mu o e S.h):=by
 have pure1:∀(v:AV) (v':Value) (s:Sem Next),s.run P S.w=.ok (.value v') S.w->Rep M0 S v' v->pE P M0 S s (.val v S.h):=
  λv v' s h1 h2=>⟨S,v',rfl,h1,Ev.refl _ _,hS,h2⟩
 unfold aW;split
 .rename_i x hop;unfold execOp;rw[hop];exact pure1 _ _ _ rfl (he x)
 .rename_i x hop;unfold execOp;rw[hop];exact pure1 _ _ _ rfl (he x)
 .rename_i c a b hop;unfold execOp;rw[hop];dsimp only;split
  .rename_i t ht;have:=he c;rw[ht]at this;have hb:=lN this;refine pure1 _ (if t then ρ a else ρ b) _ ?_ (by cases t<;>simp<;>exact he _);simp only[hb];cases t<;>simp[asBool]
  .exact trivial
 .rename_i T hop;unfold execOp;rw[hop];dsimp only;split
  .split
   .rename_i hz _;exact(CG hS hz).op
   .exact trivial
  .split
   .rename_i z hz;split
    .rename_i hc;exact(IK hS hz hc).op
    .exact trivial
   .exact trivial
 .rename_i T x hop;unfold execOp;rw[hop];dsimp only;split
  .rename_i cs hcs;exact(xO hS (he x) hcs).op
  .exact trivial
 .rename_i T ps hop;unfold execOp;rw[hop];dsimp only;refine(Iy hS (by simp) λi p q h1 h2=>?_).op;simp only[bU,bx,Array.toList_map]at h1 h2;obtain⟨r,h3,rfl⟩:=h1;obtain⟨r',h4,rfl⟩:=h2;rw[h3]at h4;cases h4;exact⟨rfl,he _⟩
 .rename_i T n ps hop;unfold execOp;rw[hop];dsimp only;refine(yE hS (by simp) λi p q h1 h2=>?_).op;simp only[bU,bx,Array.toList_map]at h1 h2;obtain⟨r,h3,rfl⟩:=h1;obtain⟨r',h4,rfl⟩:=h2;rw[h3]at h4;cases h4;exact⟨rfl,he _⟩
 .rename_i T a hop;unfold execOp;rw[hop];exact(JY hS (he a)).op
 .rename_i T a x hop;unfold execOp;rw[hop];exact(Hx hS (he a) (he x)).op
 .rename_i x hop;split
  .rename_i sz xs i o' hx;have h:=he x;rw[hx]at h;have h1:RepP (Avoid M0 S.m) S.w (ρ x) (.ptr sz xs i o'):=h;generalize hv:ρ x=v at h1
   cases h1 with
   |ptr f hat hs hM hc hr=>exact pure1 _ _ _ (by unfold execOp;rw[hop];simp only[hv];rfl) (ar (.ptr f hat hs hM hc hr))
  .rename_i t id hx;have h:=he x;rw[hx]at h;obtain⟨a,hv,hp⟩:=qz (show bp M0 S (ρ x) (.iptr t id) from h);exact pure1 _ _ _ (by unfold execOp;rw[hop];simp only[hv];rfl) (hv▸h)
  .rename_i name t id cap hx;split
   .rename_i f hf;have h:=he x;rw[hx]at h;have h':=h;obtain⟨F,K,hv,h1,h2⟩:=h';obtain⟨a,ha,hp⟩:=qz (show bp M0 S (F.getD 0 undef) (.iptr t id) from h1.2 0 _ rfl);have hsz:F.size=1:=h1.1;have hF0:(F[0]?:Option Value)=some (.iface t (.pointer a)):=by
     rw[Fg (by omega)];rw[gG,Fg (by omega)]at ha;exact congrArg some ha
    exact pure1 _ _ _ (by
     unfold execOp;rw[hop];simp only[hv,hF0,Sem.run_bind,run_program,aG,Cg hf]
     rfl) (hv▸h)
   .exact trivial
  .rename_i id ver i o' hx;split
   .rename_i sz hl;obtain⟨xs,hid,hv⟩:=fR hl;have h:=he x;rw[hx]at h;obtain⟨b,hm,hvx⟩:=bK h.2 hid hv;exact pure1 _ _ _ (by unfold execOp;rw[hop];simp only[hvx];rfl) (nQ hid hv hm)
   .exact trivial
  .exact trivial
 .rename_i op T x y yT hop;unfold execOp;rw[hop];exact(MB hS (he x) (he y)).op
 .rename_i op T x hop;unfold execOp;rw[hop];exact(MR hS (he x)).op
 .rename_i src dst x hop;unfold execOp;rw[hop];exact(ED hS (he x)).op
 .rename_i T x hop;unfold execOp;rw[hop];dsimp only;split
  .rename_i hT;split
   .rename_i v hv;have h:=he x;rw[hv]at h;refine pure1 _ (.iface T (ρ x)) _ ?_ (ar (.iface h));unfold iD at hT;split at hT
    .cases hT
    .rename_i d hd hu;unfold Instr.makeInterface;simp only[Sem.run_bind,run_underlying hu,aG];cases d<;>first|rfl|exact absurd rfl (hd _)
    .cases hT
   .rename_i id ver i o' hv;split
    .rename_i hc;obtain⟨rfl,rfl,rfl⟩:=hc;have h:=he x;rw[hv]at h;refine pure1 _ (.iface T (ρ x)) _ ?_ (H3 (show bp M0 S (ρ x) (.ptr id 1 0 0) from h));unfold iD at hT;split at hT
     .cases hT
     .rename_i d hd hu;unfold Instr.makeInterface;simp only[Sem.run_bind,run_underlying hu,aG];cases d<;>first|rfl|exact absurd rfl (hd _)
     .cases hT
    .exact trivial
   .exact trivial
  .exact trivial
 .rename_i fn first cap hop
  unfold execOp;rw[hop];dsimp only;split
  .rename_i hc;exact(Cj hS (lA he first) (lA he cap) hc.1 hc.2).op
  .exact trivial
 .rename_i T l c hop;unfold execOp;rw[hop];exact(AD hS (he l) (he c)).op
 .rename_i T x lo hi mx hop;unfold execOp;rw[hop];dsimp only;have key:∀(z:Option Operand) (a:AV) (v:Value),z.map e=some a->z.map ρ=some v->Rep M0 S v a:=by
   intro z a v h1 h2
   cases z with
   |none=>cases h1
   |some z=>cases h1;cases h2;exact he z
  exact(HA hS (he x) (by cases lo<;>rfl) (by cases hi<;>rfl) (by cases mx<;>rfl) (key lo) (key hi) (key mx)).op
 .rename_i T x f hop;unfold execOp;rw[hop];exact(AZ hS (he x)).op
 .rename_i T x f hop;unfold execOp;rw[hop];exact(Ig hS (he x)).op
 .rename_i T x i hop;unfold execOp;rw[hop];exact(AP hS (he x) (he i)).op
 .rename_i T x i hop;unfold execOp;rw[hop];exact(H8 hS (he x) (he i)).op
 .rename_i t i hop;unfold execOp;rw[hop];exact(Ey hS (he t)).op
 .rename_i c hop;unfold execOp;rw[hop];dsimp only;split
  .rename_i f hc;have:=Gq (P:=P) (he f) (lA he c.args);simp only[resolve,hc];exact this
  .rename_i b hc;have:=EM (P:=P) (b:=b) (ts:=c.argTypes) (ty:=o.type) (cs:=c.args.map λ| .const _=>true|_=>false) hS (lA he c.args);simp only[resolve,hc];exact this
  .rename_i r name hc;have:=F' (P:=P) (name:=name) (he r) (lA he c.args);simp only[resolve,hc];exact this
 .rename_i c hop;unfold execOp;rw[hop];dsimp only;split
  .rename_i f hc;have:=Im (P:=P) (he f) (lA he c.args);simp only[resolve,hc];exact this
  .exact trivial
 .rename_i x hop;unfold execOp;rw[hop];dsimp only;split
  .rename_i t v hv;have h:=he x;rw[hv]at h;have h1:RepP (Avoid M0 S.m) S.w (ρ x) (.iface t v):=h;generalize hvx:ρ x=vx at h1
   cases h1 with
   |iface h2=>exact⟨_,by simp[hvx,Instr.panic],.iface h2⟩
  .exact trivial
 .rename_i x T A ok hop;unfold execOp;rw[hop];exact(yu hS (he x)).op
 .rename_i T x hop;unfold execOp;rw[hop];exact(HI hS (he x)).op
 .rename_i i b hop;unfold execOp;rw[hop];exact(JX hS (he i)).op
 .rename_i T r hop;unfold execOp;rw[hop]
  cases r with
  |none=>exact(Ec hS).op
  |some _=>exact trivial
 .rename_i T x k ok hop;unfold execOp;rw[hop];exact(Ge hS (he x) (he k)).op
 .rename_i T m k v hop;unfold execOp;rw[hop];exact(AC hS (he m) (he k) (he v)).op
 .exact trivial
end Abs
end Go.Proofs.YtmndpldajflenaaGreatDoor
