/- LAWS: every operation of the abstract machine and the model's. -/
import Derived.Test.YtmndpldajflenaaGreatDoorAbsPut
import Derived.Laws.BytesArg
set_option linter.all false
namespace Go.Proofs.YtmndpldajflenaaGreatDoor
namespace Abs
variable {P:Program} {M0:Nat->Prop} {S:Mem}
def rS (P:Program) (M0:Nat->Prop) (S:Mem) (s:Sem Next):OR->Prop
 |.val v h=>∃(S':Mem) (v':Value),S'.h=h/\s.run P S.w=.ok (.value v') S'.w/\Ev S.h.length S S'/\HOk P M0 S'/\Rep M0 S' v' v
 |.skip h=>∃S':Mem,S'.h=h/\s.run P S.w=.ok .skip S'.w/\Ev S.h.length S S'/\HOk P M0 S'
 |.call f args=>∃cargs:Array Value,s.run P S.w=(callFunc f cargs).run P S.w/\dz (Rep M0 S) cargs args
 |.panic v=>∃v':Value,s.run P S.w=.halt (.panic v') S.w/\RepP (Avoid M0 S.m) S.w v' v
 |.yld l args=>∃(b:Nat) (cargs:Array Value),s.run P S.w=(Instr.yield b cargs).run P S.w/\dz (Rep M0 S) cargs args/\(S.h[l]?=some .dead\/S.m.getD l none=some b)
 |.dfr (.fn g args)=>∃(fv:Fn) (cap dargs cargs:Array Value),s.run P S.w=.ok (.defer { target:=.fn fv cap,args:=dargs }) S.w /\
   (∀w,(invoke (.fn fv cap) dargs).run P w=(callFunc g cargs).run P w)/\dz (Rep M0 S) cargs args
 |.dfr _=>False
 |.recover=>s.run P S.w=.ok .recover S.w
 |.stuck=>True
theorem aF.op{s}{r}(h:aF P M0 S s r):rS P M0 S (do let v<-s;Pure.pure (Next.value v)) r:=by
 cases r with
 |val v hh=>
  obtain⟨j,v',i,e,a⟩:=h
  exact⟨j,v',i,by simp[e],a⟩
 |skip _=>exact h.elim
 |call _ _=>exact h.elim
 |panic _=>exact h.elim
 |yld _ _=>exact h.elim
 |dfr _=>exact h.elim
 |recover=>exact h.elim
 |stuck=>exact trivial
theorem zF.op{s}{r}(h:zF P M0 S s r):rS P M0 S (do s;Pure.pure Next.skip) r:=by
 cases r with
 |skip hh=>
  obtain⟨j,i,e,a⟩:=h
  exact⟨j,i,by simp[e],a⟩
 |val _ _=>exact h.elim
 |call _ _=>exact h.elim
 |panic _=>exact h.elim
 |yld _ _=>exact h.elim
 |dfr _=>exact h.elim
 |recover=>exact h.elim
 |stuck=>exact trivial
theorem FL{op}{T}{x y}{a b}(w)(i:(∀C D,¬(a=.agg C/\b=.agg D))\/P.eqGuardType P.depth T=false)
  (e:¬(a=.nilIface/\b=.nilIface)\/(kx x||kx y)=true):(eqGuard op T x y a b).run P w=.ok () w:=by
 by_cases l:∃C D,a=.agg C/\b=.agg D
 .obtain⟨C,D,rfl,rfl⟩:=l;rcases i with i|i
  .exact absurd ⟨rfl,rfl⟩ (i C D)
  .exact run_eqGuard_agg w op T x y C D i
 .by_cases j:a=.nilIface/\b=.nilIface
  .obtain⟨rfl,rfl⟩:=j;rcases e with e|e
   .exact absurd ⟨rfl,rfl⟩ e
   .cases op<;>first
     |rfl
     |(cases x<;>cases y<;>first|rfl|exact absurd e (by simp[kx]))
  .exact wa w (λC D h=>l ⟨C,D,h⟩) j
theorem Ta(u:HOk P M0 S){op}{T}{xo o}{x y}{a b}(hx:Rep M0 S a x)(A:Rep M0 S b y) :
  aF P M0 S (do eqGuard op T xo o a b;binOp op T a b) (AS P op T (kx xo||kx o) x y S.h):=by
 have e:((∀C D,¬(a=.agg C/\b=.agg D))\/P.eqGuardType P.depth T=false)->(¬(a=.nilIface/\b=.nilIface)\/(kx xo||kx o)=true) ->
   ∀r:OR,aF P M0 S (binOp op T a b) r->aF P M0 S (do eqGuard op T xo o a b;binOp op T a b) r:=by
  intro J I r M;have O:=FL (op:=op) (T:=T) (x:=xo) (y:=o) (P:=P) S.w J I
  cases r with
  |val v h=>
   obtain⟨R,v',F,E,z⟩:=M
   exact⟨R,v',F,by simp[O,E],z⟩
  |stuck=>exact trivial
  |_=>exact M.elim
 unfold AS;split
 .rename_i k i U j;have:=hL hx;subst this;have:=hL A;subst this;split
  .exact e (.inl (by simp)) (.inl (by simp)) _ (rY u λq l=>F5 l _ _)
  .rename_i L;split
   .rename_i N;subst N;exact e (.inl (by simp)) (.inl (by simp)) _ (rY u λq l=>K7 (by simpa using L) l _ _)
   .exact trivial
 .rename_i s t;have J:RepP (Avoid M0 S.m) S.w a (.str s):=hx;have I:RepP (Avoid M0 S.m) S.w b (.str t):=A;cases J;cases I;exact e (.inl (by simp)) (.inl (by simp)) _ (rY u λq l=>J7 l _ _)
 .split
  .cases G:Fh P T (kx xo||kx o) x y with
   |none=>exact trivial
   |some t=>
    obtain⟨⟨F,E⟩,z,K⟩:=OS hx A G;exact e z K _ (rY u λq l=>by cases l;exact⟨_,F,.bool _⟩)
  .cases G:Fh P T (kx xo||kx o) x y with
   |none=>exact trivial
   |some t=>
    obtain⟨⟨F,E⟩,z,K⟩:=OS hx A G;exact e z K _ (rY u λq l=>by cases l;exact⟨_,E,.bool _⟩)
  .exact trivial
theorem TE(e:HOk P M0 S){op}{x}{a}(hx:Rep M0 S a x):aF P M0 S (Op.unary op a) (HG op x S.h):=by
 unfold HG;split
 .have:=nX hx;subst this;exact aF.pure e (v':=.bool _) rfl (aC (.bool _))
 .have:=hL hx;subst this;exact aF.pure e (v':=.int _ _) (by simp[Op.unary,Op.intArith]) (aC (.int _ _))
 .exact trivial
theorem BA:∀{l} {ns},r8 l=some ns->ns.length=l.length/\∀(i:Nat) (n),ns[i]?=some n->l[i]?=some (.int .u8 n)
 |[],ns,h=>by cases h;exact⟨rfl,by simp⟩
 |x::r,ns,h=>by
  unfold r8 at h;split at h
  .rename_i a;cases a
  .rename_i n q a;cases a;simp only[bC]at h;obtain⟨u,e,rfl⟩:=h;obtain⟨o,j⟩:=BA e;refine⟨by simp[o],λi m hi=>?_⟩
   cases i with
   |zero=>cases hi;rfl
   |succ i=>exact j i m (by simpa using hi)
  .cases h
theorem I8(E:HOk P M0 S){src dst}{x}{a}(hx:Rep M0 S a x):aF P M0 S (convert src dst a) (n6 P src dst x S.h):=by
 unfold n6;split
 .rename_i O n;have:=hL hx;subst this;split
  .rename_i k D;unfold dx at D;split at D
   .rename_i d k2 j A;cases D;refine aF.pure E (v':=.int k (k.wrap n)) ?_ (aC (.int _ _));simp[convert,run_underlying j,run_underlying A,Conv.intToInt]
   .cases D
  .exact trivial
 .rename_i s;split
  .rename_i v;have j:RepP (Avoid M0 S.m) S.w a (.str s):=hx;cases j;refine aF.pure E (v':=.string s) ?_ (aC (.str _));simp[convert,run_underlying (fk v.1),run_underlying (fk v.2)]
  .exact trivial
 .rename_i y ys full;split
  .rename_i v;split
   .rename_i ns F;obtain⟨e,K,M⟩:∃e,P.underlying src=some (.slice e)/\P.underlying e=some (.int .u8):=by
     have j:=v.1;unfold xt at j
     cases u:aP P src with
     |none=>rw[u]at j;cases j
     |some e=>
      rw[u]at j;refine⟨e,bW u,?_⟩;dsimp only at j;split at j
      .assumption
      .cases j
    have j:RepP (Avoid M0 S.m) S.w a (.slice 1 (y::ys) full):=hx;obtain⟨l,G⟩:=BA F
    cases j with
    |slice f o J I N R q L=>
     rename_i b off len cap;refine aF.pure E (v':=.string (strOfNums ns)) (run_convert_bytes_arg S.w src e K M b off len cap ns (by rw[o,l]) (λi hi=>?_) dst (fk v.2)) (aC (.str _));have C:i<ns.length:=by rw[l,<-o];exact hi
     have u:=G i _ (bO C);have A:=L i 0 _ _ u rfl;rw[q i (by rw[Nat.mul_one,<-o];exact hi)];rw[Nat.mul_one,jK]at A;generalize f i=z at A;cases A;simp[cr,bO C]
   .exact trivial
  .exact trivial
 .exact trivial
theorem I2(o:HOk P M0 S){x}{a}{i}(hx:Rep M0 S a x):aF P M0 S (Instr.extract a i) (nZ x i S.h):=by
 unfold nZ;split
 .rename_i l;split
  .rename_i v e;have u:RepP (Avoid M0 S.m) S.w a (.tuple l):=hx
   cases u with
   |@tuple C _ q j=>
    have hi:=(aB.1 e).1;refine aF.pure o (v':=C.getD i undef) ?_ (aC (j i v e));simp[Instr.extract,show i<C.size by omega]
  .exact trivial
 .rename_i l;split
  .rename_i v e;obtain⟨C,rfl,q,j⟩:=hx;have hi:=(aB.1 e).1;refine aF.pure o (v':=C.getD i undef) ?_ (nI (j i v e));simp[Instr.extract,show i<C.size by omega]
  .exact trivial
 .exact trivial
theorem nJ{ρ}{e}(a:∀x,Rep M0 S (ρ x) (e x))(xs:Array Operand):dz (Rep M0 S) (xs.map ρ) (xs.toList.map e):=by
 refine⟨by simp,λi c hi=>?_⟩;simp only[cW,bC]at hi;obtain⟨x,hx,rfl⟩:=hi;have j:=(aB.1 hx).1;have:(xs.map ρ).getD i undef=ρ x:=by
  apply getD_some;rw[Array.getElem?_map];rw[Array.getElem?_toList]at hx;simp[hx]
 rw[this];exact a x
theorem tT{v}{a}(h:a.plain=true)(e:Rep M0 S v a):bB M0 S v a:=by
 cases a<;>first|exact e|(simp[AV.plain]at h)
theorem F2(A:HOk P M0 S){fn}{F C}{first cap}(o:dz (Rep M0 S) F first)(l:dz (Rep M0 S) C cap)(u:first.all AV.plain=true)(q:cap.all AV.plain=true) :
  aF P M0 S (Instr.makeFunc fn F C) (.val (yA fn first cap) S.h):=by
 refine aF.pure A (v':=.func fn F C) rfl ?_;rw[kC]at u q;unfold yA;split
 .rename_i a b z y;have E:=iQ z;have D:=iQ y;subst E;subst D;exact aC (.func (by simpa using o.1) (by simpa using l.1) (λi c hi=>o.2 i (.p c) (by simp[hi])) (λi c hi=>l.2 i (.p c) (by simp[hi])))
 .exact⟨F,C,rfl,o.imp λv c j e=>tT (u c j) e,l.imp λv c j e=>tT (q c j) e⟩
theorem dP{R}{A B}{a b}(h:dz R A a)(k:dz R B b):dz R (A++B) (a++b):=by
 refine⟨by simp[h.1,k.1],λi c hi=>?_⟩;rcases cx i a.length with e|e
 .rw[bp e]at hi;have:(A++B).getD i undef=A.getD i undef:=by
   have:=h.1;simp[ji,OA,show i<A.size by omega]
  rw[this];exact h.2 i c hi
 .rw[cG e]at hi;have:(A++B).getD i undef=B.getD (i-a.length) undef:=by
   have:=h.1;simp[ji,OA,this,show ¬i<a.length by omega]
  rw[this];exact k.2 _ c hi
theorem mo{C}{l:List PV}(e:C.size=l.length)(h:∀(i) (c),l[i]?=some c->RepP (Avoid M0 S.m) S.w (C.getD i undef) c):dz (Rep M0 S) C (l.map .p):=by
 refine⟨by simpa using e,λi c hi=>?_⟩;simp only[cW,bC]at hi;obtain⟨q,a,rfl⟩:=hi;exact aC (h i q a)
theorem kJ{v}{a}(h:bB M0 S v a):Rep M0 S v a:=by
 cases a<;>first|exact h|exact False.elim h
theorem KZ{f}{i}{args}{C}(e:Rep M0 S i f)(j:dz (Rep M0 S) C args) :
  rS P M0 S (do let d<-Deferred.ofValue i C;invoke d.target d.args) (fO f args):=by
 unfold fO;split
 .rename_i g first cap
  have a:RepP (Avoid M0 S.m) S.w i (.func (.func g) first cap):=e
  cases a with
  |@func _ F K _ _ e y a q=>
   refine⟨F++C++K,?_,dP (dP (mo e a) j) (mo y q)⟩;simp[Deferred.ofValue,invoke]
 .rename_i g first cap
  obtain⟨F,K,rfl,a,q⟩:=e;refine⟨F++C++K,?_,dP (dP (a.imp λv c _ o=>kJ o) j) (q.imp λv c _ o=>kJ o)⟩;simp[Deferred.ofValue,invoke]
 .rename_i l;have a:bB M0 S i (.ref .yl l):=e;rcases a.2 with u|⟨_,b,z,rfl⟩
  .obtain⟨⟨b,rfl⟩,_⟩:=a;exact⟨b,C,by simp[Deferred.ofValue,invoke,uv],j,.inl u⟩
  .exact⟨b,C,by simp[Deferred.ofValue,invoke,uv],j,.inr z⟩
 .exact trivial
theorem KF{name:String}{x:AV}{y:Value}{args:List AV}{C:Array Value}(hx:Rep M0 S y x)(F:dz (Rep M0 S) C args) :
  rS P M0 S (invoke (.fn (.method name) #[]) (#[y]++C)) (AR P name x args):=by
 unfold AR;split
 .rename_i t id;obtain⟨a,rfl,D⟩:=wX (show bB M0 S y (.iptr t id) from hx);split
  .rename_i f j;unfold Aj at j;split at j
   .rename_i m q;split at j
    .rename_i l;split at j
     .rename_i g e v z;cases j
      cases hi:P.info? t with
      |none=>rw[hi]at q;simp at q
      |some i=>
       rw[hi]at q;simp only[jI,n9]at q;have u:m.path=#[]:=by simpa using l
       refine⟨#[.pointer a]++C,?_,dP (A:=#[.pointer a]) (a:=[.ptr id 1 0 0]) ⟨rfl,λi c hi=>?_⟩ F⟩
       .have o:∃n,P.types.size+Made.depth=n+1:=⟨P.types.size+Made.depth-1,by have:Made.depth=100:=rfl;omega⟩
        obtain⟨n,E⟩:=o;have I:(#[Value.iface t (.pointer a)]++C)[0]?=some (.iface t (.pointer a)):=by rw[Array.getElem?_append_left (by simp)];rfl
        have G:(#[Value.iface t (.pointer a)]++C).extract 1 (#[Value.iface t (.pointer a)]++C).size=C:=by
         apply Array.ext';simp
        simp only[invoke,I,G,callMethod,Sem.run_bind,run_program,aS,E,method,typeInfo,hi,q,u,follow,receiverAt,v,run_underlying z];simp only[q,u,follow,Sem.run_bind,Sem.run_pure,aS,v,receiverAt,run_underlying z,Place.get,callFunc]
       .match i,hi with
        |0,hi=>cases hi;exact D
     .cases j
    .cases j
   .cases j
  .exact trivial
 .exact trivial
theorem NA{f}{j}{args}{C}(i:Rep M0 S j f)(u:dz (Rep M0 S) C args) :
  rS P M0 S (do let d<-Deferred.ofValue j C;Pure.pure (Next.defer d)) (vi f args):=by
 unfold vi fO;split
 .rename_i g l a;split at a
  .rename_i z first cap
   cases a;have e:RepP (Avoid M0 S.m) S.w j (.func (.func g) first cap):=i
   cases e with
   |@func _ F K _ _ i y e q=>
    refine⟨.func g,K,F++C,F++C++K,by simp[Deferred.ofValue],λw=>by simp[invoke],dP (dP (mo i e) u) (mo y q)⟩
  .rename_i z first cap
   cases a;obtain⟨F,K,rfl,e,q⟩:=i;exact⟨.func g,K,F++C,F++C++K,by simp[Deferred.ofValue],λw=>by simp[invoke],dP (dP (e.imp λv c _ o=>kJ o) u) (q.imp λv c _ o=>kJ o)⟩
  .cases a
  .cases a
 .exact trivial
theorem C9{z}{n sz}(e:z.size=sz){i j}(hi:i<n)(a:j<sz):(Builtin.zeroCells z n).getD (i*sz+j) undef=z.getD j undef:=by
 subst e;have o:i*z.size+j<n*z.size:=im hi a;have l:(i*z.size+j)%z.size=j:=by rw[CE,Nat.mul_add_mod,H1 a]
 simp[Builtin.zeroCells,o,l,a,getElem!_pos]
theorem NF(hS:HOk P M0 S){T}{x}{v}{ty}(hx:Rep M0 S v x):aF P M0 S (Builtin.clear_ #[T] ty #[v]) (zB P T x S.h):=by
 unfold zB;split
 .rename_i e id b0 off len he;split
  .rename_i sz xs o z D b2 hz;split
   .rename_i hc;obtain⟨rfl,hv,b5,a3,b1,a4⟩:=hc;have hu:=bW he;obtain⟨I,a5,a7⟩:=iJ hz S.w;have Y:Rep M0 S I (.p z):=fB a7;obtain⟨cs,E⟩:=fp.1 a4;obtain⟨V,a6⟩:=iP Y E;have K:cs.length=o:=by
     cases z with
     |tuple l=>simp[AV.cells]at E
     |_=>(simp[AV.cells]at E;subst E;simpa using a3)
    have M:(Builtin.zeroCells I.cells len).size=(List.replicate len (AV.p z)).length*o:=by simp[Builtin.zeroCells,V,K]
    have G:dA M0 S o (Builtin.zeroCells I.cells len) (List.replicate len (AV.p z)):=by
     intro i y hi;have X:i<len:=by have:=(aB.1 hi).1;simpa using this
     rw[Mj,if_pos X]at hi;cases hi;refine⟨cs,E,K,λj c hc=>?_⟩;have b6:=(aB.1 hc).1;rw[C9 (by rw[V,K]) X (by omega)];exact a6 j c hc
    have N:Rep M0 S (.tuple #[]) (.p (.tuple [])):=aC (.tuple rfl λi c hi=>by simp at hi);have u:len=0->(∃a cap,v=.slice a 0 cap)->aF P M0 S (Builtin.clear_ #[T] ty #[v]) (.val (.p (.tuple [])) (S.h.set id (.row o (xs.take off++List.replicate len (AV.p z)++xs.drop (off+len))))):=by
     rintro rfl ⟨a,cap,rfl⟩
     refine⟨S,.tuple #[],?_,?_,Ev.refl _ _,hS,N⟩
     .simp only[H6,bt,jK,mE];exact(je D).symm
     .cases a<;>simp[Builtin.clear_,run_underlying hu]
    rcases cm hx.2 D hv with⟨h1,h2,h3,ad,cap,rfl⟩|⟨b,cap,T',n,hm,rfl,a9,b3,a8,a2⟩|⟨b4,rfl,R⟩
    .exact u h1 ⟨_,_,rfl⟩
    .rcases pu len with R|R
     .exact u R ⟨_,_,by rw[R]⟩
     .obtain⟨C,T2,L,q,a1⟩:=fj hS D hm;have A:(List.replicate len (AV.p z)).length=len:=by simp
      have a0:(xs.take off++List.replicate len (AV.p z)++xs.drop (off+len)).length=xs.length:=by simp;omega
      have O:off*o+(Builtin.zeroCells I.cells len).size<=C.size:=by
       rw[M,A,<-dK];exact iI (fU o (by omega)) q
      have Z:=oZ A (by rw[M,A]) G;have U:=iO (P:=P) b T2 (Builtin.zeroCells I.cells len).toList (off*o) 0 C S.w L (by simpa using O) Z;have J:(jH C (off*o) (Builtin.zeroCells I.cells len).toList).size=C.size:=ic _ _ _;have en:=Ev.set S.h.length D hm L J (xs':=xs.take off++List.replicate len (AV.p z)++xs.drop (off+len)) (by omega);have F:=tC a1 q M G (p:=off) (by rw[A];omega);rw[A]at F
      refine⟨S.set id (.row o (xs.take off++List.replicate len (AV.p z)++xs.drop (off+len))) b (jH C (off*o) (Builtin.zeroCells I.cells len).toList),.tuple #[],rfl,?_,en,
       HOk.set hS D hm L J (by omega) (by rw[J,a0];exact q) F,aC (.tuple rfl λi c hi=>by simp at hi)⟩
      obtain⟨m,rfl⟩:∃m,len=m+1:=⟨len-1,by omega⟩
      simp only[jK]at U;simp[Builtin.clear_,run_underlying hu,a5,U,Mem.set]
    .exact u R ⟨_,_,rfl⟩
   .exact trivial
  .exact trivial
 .exact trivial
theorem Lq(U:HOk P M0 S){sz len}{y}{v}{ys}(R:Rep M0 S v y)(h:vZ S.h sz len y=some ys) :
  ∃(D:Array Value) (m:Nat),(Builtin.lenOf v).run P S.w=.ok m S.w/\Nat.min m len=ys.length/\(Builtin.firstCells sz ys.length v).run P S.w=.ok D S.w/\D.size=ys.length*sz/\dA M0 S sz D ys:=by
 unfold vZ at h;split at h
 .rename_i id a1 off n;split at h
  .rename_i l xs z;split at h
   .rename_i E;obtain⟨rfl,Z,a4⟩:=E;cases h;have L:Nat.min n len<=n:=Nat.min_le_left _ _;have e:=x3 off (Nat.min n len) xs (by omega);rcases cm R.2 z Z with⟨rfl,a2,V,ad,cap,rfl⟩|⟨b,cap,T',n',hm,rfl,Y,a3,N,F⟩|⟨X,rfl,rfl⟩
    .have u:Nat.min 0 len=0:=Nat.zero_min _;rw[u]at e |-;refine⟨#[],0,rfl,by rw[e,u],?_,by simp[e],λi x hx=>by simp[sub]at hx⟩;rw[e]
     cases ad with
     |none=>rfl
     |some a=>simp[Builtin.firstCells,loadCells,loadCellsFrom]
    .obtain⟨C,T,hb,q,M⟩:=fj U z hm;have A:(off+n)*l<=C.size:=iI (fU l (by omega)) q;have O:Nat.min n len*l<=n*l:=fU l L;rw[dK]at A;refine⟨((List.range (Nat.min n len*l)).map λk=>C.getD (off*l+k) undef).toArray,n,rfl,by rw[e],?_,by simp[e],λi x hx=>?_⟩
     .have:=run_loadCells (P:=P) S.w ⟨b,off*l,none⟩ (Nat.min n len*l) (λk=>C.getD (off*l+k) undef) (λj hj=>by
       rw[ei]
       exact i6 hb _ (by omega))
      simpa[Builtin.firstCells,e]using this
     .have o:=(aB.1 hx).1;rw[e]at o;have K:xs[off+i]?=some x:=by
       unfold sub at hx;rw[kB,if_pos o,qc]at hx;exact hx
      obtain⟨cs,J,I,G⟩:=M _ x K;refine⟨cs,J,I,λj c E=>?_⟩;have a5:=(aB.1 E).1;rw[hH _ _ _ (im o (by omega))];have:=G j c E;rwa [dK,gW]at this
    .have u:Nat.min 0 len=0:=Nat.zero_min _;rw[u]at e |-;exact⟨#[],0,rfl,by rw[e,u],by rw[e];rfl,by simp[e],λi x hx=>by simp[sub]at hx⟩
   .cases h
  .cases h
 .rename_i l xs full;split at h
  .rename_i a0 he;split at h
   .rename_i hl;cases h;obtain⟨D,J,I,G,h4⟩:=lv U R he;exact⟨D,ys.length,J,CF hl,I S.w rfl,G,h4⟩
   .cases h
  .cases h
 .cases h
theorem Qf(N:HOk P M0 S){T}{ts}(hT:ts[0]?=some T){x y}{v u}{ty}(hx:Rep M0 S v x)(hy:Rep M0 S u y):aF P M0 S (Builtin.copy_ ts ty #[v,u]) (CW P T x y S.h):=by
 unfold CW;split
 .rename_i e id a3 off len he;split
  .rename_i sz xs j o G;split
   .rename_i hc;obtain⟨rfl,hv,a7⟩:=hc;split
    .rename_i ys Y;obtain⟨D,m,h1,R,X,O,h5⟩:=Lq N hy Y;have hu:=bW he;have a4:ys.length<=len:=by rw[<-R];exact Nat.min_le_right _ _
     have L:Rep M0 S (goInt (ys.length:Int)) (.p (.int .i64 (ys.length:Int))):=aC (.int _ _);have l:ys.length=0->(∃a cap,v=.slice a len cap)->aF P M0 S (Builtin.copy_ ts ty #[v,u]) (.val (.p (.int .i64 (ys.length:Int))) (S.h.set id (.row j (xs.take off++ys++xs.drop (off+ys.length))))):=by
      rintro F ⟨a,cap,rfl⟩
      have Z:ys=[]:=sy F;subst Z;have a0:D=#[]:=Array.eq_empty_of_size_eq_zero (by simpa using O);subst a0;refine⟨S,goInt (([]:List AV).length:Int),?_,?_,Ev.refl _ _,N,L⟩
      .simp only[dL,bt,jK,mE];exact(je o).symm
      .simp only[dL]at R X |-;unfold Builtin.copy_;cases a<;>simp[hT,run_underlying hu,be G,h1,R,X,storeCells]
     rcases cm hx.2 o hv with⟨e1,e2,e3,ad,cap,rfl⟩|⟨b,cap,T',n,V,rfl,a2,a5,a1,U⟩|⟨a6,rfl,F⟩
     .exact l (by omega) ⟨_,_,by rw[e1]⟩
     .rcases pu ys.length with F|F
      .exact l F ⟨_,_,rfl⟩
      .obtain⟨C,T2,z,i,M⟩:=fj N o V;have K:(xs.take off++ys++xs.drop (off+ys.length)).length=xs.length:=by simp;omega
       have E:off*j+D.size<=C.size:=by
        rw[O,<-dK];exact iI (fU j (by omega)) i
       have J:=oZ rfl O h5;have I:=iO (P:=P) b T2 D.toList (off*j) 0 C S.w z (by simpa using E) J;have q:(jH C (off*j) D.toList).size=C.size:=ic _ _ _;have en:=Ev.set S.h.length o V z q (xs':=xs.take off++ys++xs.drop (off+ys.length)) (by omega);have A:=tC M i O h5 (p:=off) (by omega)
       refine⟨S.set id (.row j (xs.take off++ys++xs.drop (off+ys.length))) b (jH C (off*j) D.toList),goInt (ys.length:Int),rfl,?_,en,
        HOk.set N o V z q (by omega) (by rw[q,K];exact i) A,aC (.int _ _)⟩
       simp only[jK]at I;unfold Builtin.copy_;simp[hT,run_underlying hu,be G,h1,R,X,I,Mem.set]
     .exact l (by omega) ⟨_,_,by rw[F]⟩
    .exact trivial
   .exact trivial
  .exact trivial
 .exact trivial
theorem Jo(A:HOk P M0 S){b}{ts}{ty}{cs}{C}{args}(D:dz (Rep M0 S) C args) :
  rS P M0 S (builtin b ts ty cs C) (mi P b ts args S.h):=by
 have one:∀x,args=[x]->∃v,C=#[v]/\Rep M0 S v x:=by
  intro x hx;subst hx;have E:=D.1;have:C=#[C.getD 0 undef]:=by
   apply qg
   .simpa using E
   .intro i q o;have:i=0:=by simp at o;omega
    subst this;simp[q]
  exact⟨C.getD 0 undef,this,D.2 0 x rfl⟩
 have two:∀x y,args=[x,y]->∃u v,C=#[u,v]/\Rep M0 S u x/\Rep M0 S v y:=by
  intro x y hx;subst hx;have E:=D.1;have:C=#[C.getD 0 undef,C.getD 1 undef]:=by
   apply qg
   .simpa using E
   .intro i q o;have:i=0\/i=1:=by simp at o;omega
    rcases this with rfl|rfl<;>simp[q]
  exact⟨_,_,this,D.2 0 x rfl,D.2 1 y rfl⟩
 unfold mi;split
 .rename_i x;obtain⟨v,rfl,l⟩:=one _ rfl;split
  .rename_i e;have:ts=#[ts.getD 0 0]:=by
    apply qg
    .simpa using e
    .intro i q o;have:i=0:=by simp at o;omega
     subst this;simp[q]
   have h:=(R7 (P:=P) (T:=ts.getD 0 0) (ty:=ty) A l).op;rw[<-this]at h;exact h
  .exact trivial
 .rename_i x y;obtain⟨u,v,rfl,z,l⟩:=two _ _ rfl;split
  .rename_i e;have:ts=#[ts.getD 0 0,ts.getD 1 0]:=by
    apply qg
    .simpa using e
    .intro i q o;have:i=0\/i=1:=by simp at o;omega
     rcases this with rfl|rfl<;>simp[q]
   have h:=(B5 (P:=P) (T:=ts.getD 0 0) (U:=ts.getD 1 0) (ty:=ty) A z l).op;rw[<-this]at h;exact h
  .exact trivial
 .rename_i j a k b;obtain⟨u,v,rfl,z,l⟩:=two _ _ rfl;have:=hL z;subst this;have:=hL l;subst this;refine⟨S,_,rfl,?_,Ev.refl _ _,A,aC (.int _ _)⟩;simp[builtin,Builtin.min_,Builtin.min2]
 .rename_i j a k b;obtain⟨u,v,rfl,z,l⟩:=two _ _ rfl;have:=hL z;subst this;have:=hL l;subst this;refine⟨S,_,rfl,?_,Ev.refl _ _,A,aC (.int _ _)⟩;simp[builtin,Builtin.max_,Builtin.max2]
 .show (builtin .recover ts ty cs C).run P S.w=.ok .recover S.w;simp[builtin]
 .rename_i x;obtain⟨v,rfl,l⟩:=one _ rfl;split
  .rename_i e;have:ts=#[ts.getD 0 0]:=by
    apply qg
    .simpa using e
    .intro i q o;have:i=0:=by simp at o;omega
     subst this;simp[q]
   have h:=(NF (P:=P) (T:=ts.getD 0 0) (ty:=ty) A l).op;rw[<-this]at h;exact h
  .exact trivial
 .rename_i x y;obtain⟨u,v,rfl,z,l⟩:=two _ _ rfl;split
  .rename_i e;exact(Qf (P:=P) (T:=ts.getD 0 0) (ts:=ts) (ty:=ty) A (by simp[ji,e]) z l).op
  .exact trivial
 .exact trivial
theorem TL(D:HOk P M0 S){mu}{o}{ρ}{e}(u:∀x,Rep M0 S (ρ x) (e x)):rS P M0 S (execOp ρ o) (bh P mu o e S.h):=by
 have C:∀(v:AV) (v':Value) (s:Sem Next),s.run P S.w=.ok (.value v') S.w->Rep M0 S v' v->rS P M0 S s (.val v S.h):=
  λv v' s F I=>⟨S,v',rfl,F,Ev.refl _ _,D,I⟩
 unfold bh;split
 .rename_i x j;unfold execOp;rw[j];exact C _ _ _ rfl (u x)
 .rename_i x j;unfold execOp;rw[j];exact C _ _ _ rfl (u x)
 .rename_i c a b j;unfold execOp;rw[j];dsimp only;split
  .rename_i t ht;have:=u c;rw[ht]at this;have hb:=nX this;refine C _ (if t then ρ a else ρ b) _ ?_ (by cases t<;>simp<;>exact u _);simp only[hb];cases t<;>simp[asBool]
  .exact trivial
 .rename_i T j;unfold execOp;rw[j];dsimp only;split
  .split
   .rename_i R _;exact(GC D R).op
   .exact trivial
  .split
   .rename_i z R;split
    .rename_i E;exact(Oc D R E).op
    .exact trivial
   .exact trivial
 .rename_i T x j;unfold execOp;rw[j];dsimp only;split
  .rename_i cs Z;exact(Bo D (u x) Z).op
  .exact trivial
 .rename_i T ps j;unfold execOp;rw[j];dsimp only;refine(N0 D (by simp) λi p q F I=>?_).op;simp only[cW,bC,Array.toList_map]at F I;obtain⟨r,X,rfl⟩:=F;obtain⟨r',M,rfl⟩:=I;rw[X]at M;cases M;exact⟨rfl,u _⟩
 .rename_i T n ps j;unfold execOp;rw[j];dsimp only;refine(Cv D (by simp) λi p q F I=>?_).op;simp only[cW,bC,Array.toList_map]at F I;obtain⟨r,X,rfl⟩:=F;obtain⟨r',M,rfl⟩:=I;rw[X]at M;cases M;exact⟨rfl,u _⟩
 .rename_i T a j;unfold execOp;rw[j];exact(PF D (u a)).op
 .rename_i T a x j;unfold execOp;rw[j];exact(MA D (u a) (u x)).op
 .rename_i x j;split
  .rename_i sz xs i O hx;have h:=u x;rw[hx]at h;have F:RepP (Avoid M0 S.m) S.w (ρ x) (.ptr sz xs i O):=h;generalize G:ρ x=v at F
   cases F with
   |ptr f a0 hs hM E hr=>exact C _ _ _ (by unfold execOp;rw[j];simp only[G];rfl) (aC (.ptr f a0 hs hM E hr))
  .rename_i t id hx;have h:=u x;rw[hx]at h;obtain⟨a,G,hp⟩:=wX (show bB M0 S (ρ x) (.iptr t id) from h);exact C _ _ _ (by unfold execOp;rw[j];simp only[G];rfl) (G▸h)
  .rename_i id Y i O hx;split
   .rename_i sz hl;obtain⟨xs,N,G⟩:=il hl;have h:=u x;rw[hx]at h;obtain⟨b,hm,L⟩:=cm h.2 N G;exact C _ _ _ (by unfold execOp;rw[j];simp only[L];rfl) (qw N G hm)
   .exact trivial
  .exact trivial
 .rename_i op T x y yT j;unfold execOp;rw[j];exact(Ta D (u x) (u y)).op
 .rename_i op T x j;unfold execOp;rw[j];exact(TE D (u x)).op
 .rename_i src dst x j;unfold execOp;rw[j];exact(I8 D (u x)).op
 .rename_i T x j;unfold execOp;rw[j];dsimp only;split
  .rename_i J;split
   .rename_i v G;have h:=u x;rw[G]at h;refine C _ (.iface T (ρ x)) _ ?_ (aC (.iface h));unfold jW at J;split at J
    .cases J
    .rename_i d V U;unfold Instr.makeInterface;simp only[Sem.run_bind,run_underlying U,aS];cases d<;>first|rfl|exact absurd rfl (V _)
    .cases J
   .rename_i id Y i O G;split
    .rename_i E;obtain⟨rfl,rfl,rfl⟩:=E;have h:=u x;rw[G]at h;refine C _ (.iface T (ρ x)) _ ?_ (Nb (show bB M0 S (ρ x) (.ptr id 1 0 0) from h));unfold jW at J;split at J
     .cases J
     .rename_i d V U;unfold Instr.makeInterface;simp only[Sem.run_bind,run_underlying U,aS];cases d<;>first|rfl|exact absurd rfl (V _)
     .cases J
    .exact trivial
   .exact trivial
  .exact trivial
 .rename_i fn first cap j
  unfold execOp;rw[j];dsimp only;split
  .rename_i E;exact(F2 D (nJ u first) (nJ u cap) E.1 E.2).op
  .exact trivial
 .rename_i T l c j;unfold execOp;rw[j];exact(D1 D (u l) (u c)).op
 .rename_i T x lo hi mx j;unfold execOp;rw[j];dsimp only;have K:∀(z:Option Operand) (a:AV) (v:Value),z.map e=some a->z.map ρ=some v->Rep M0 S v a:=by
   intro z a v F I
   cases z with
   |none=>cases F
   |some z=>cases F;cases I;exact u z
  exact(MF D (u x) (by cases lo<;>rfl) (by cases hi<;>rfl) (by cases mx<;>rfl) (K lo) (K hi) (K mx)).op
 .rename_i T x f j;unfold execOp;rw[j];exact(Es D (u x)).op
 .rename_i T x f j;unfold execOp;rw[j];exact(Nu D (u x)).op
 .rename_i T x i j;unfold execOp;rw[j];exact(Ej D (u x) (u i)).op
 .rename_i T x i j;unfold execOp;rw[j];exact(Ng D (u x) (u i)).op
 .rename_i t i j;unfold execOp;rw[j];exact(I2 D (u t)).op
 .rename_i c j;unfold execOp;rw[j];dsimp only;split
  .rename_i f E;have:=KZ (P:=P) (u f) (nJ u c.args);simp only[resolve,E];exact this
  .rename_i b E;have:=Jo (P:=P) (b:=b) (ts:=c.argTypes) (ty:=o.type) (cs:=c.args.map λ| .const _=>true|_=>false) D (nJ u c.args);simp only[resolve,E];exact this
  .rename_i r name E;have:=KF (P:=P) (name:=name) (u r) (nJ u c.args);simp only[resolve,E];exact this
 .rename_i c j;unfold execOp;rw[j];dsimp only;split
  .rename_i f E;have:=NA (P:=P) (u f) (nJ u c.args);simp only[resolve,E];exact this
  .exact trivial
 .rename_i x j;unfold execOp;rw[j];dsimp only;split
  .rename_i t v G;have h:=u x;rw[G]at h;have F:RepP (Avoid M0 S.m) S.w (ρ x) (.iface t v):=h;generalize L:ρ x=vx at F
   cases F with
   |iface I=>exact⟨_,by simp[L,Instr.panic],.iface I⟩
  .exact trivial
 .rename_i x T A ok j;unfold execOp;rw[j];exact(Cc D (u x)).op
 .rename_i T x j;unfold execOp;rw[j];exact(MQ D (u x)).op
 .rename_i i b j;unfold execOp;rw[j];exact(PA D (u i)).op
 .rename_i T r j;unfold execOp;rw[j]
  cases r with
  |none=>exact(ID D).op
  |some _=>exact trivial
 .rename_i T x k ok j;unfold execOp;rw[j];exact(KN D (u x) (u k)).op
 .rename_i T m k v j;unfold execOp;rw[j];exact(D0 D (u m) (u k) (u v)).op
 .exact trivial
end Abs
end Go.Proofs.YtmndpldajflenaaGreatDoor
