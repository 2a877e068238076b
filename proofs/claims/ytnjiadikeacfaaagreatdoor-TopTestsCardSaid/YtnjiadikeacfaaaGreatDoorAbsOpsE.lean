/- LAWS: operations of the abstract machine and the model's: arithmetic, comparisons, the res -/
import Derived.Test.YtnjiadikeacfaaaGreatDoorAbsOpsD
set_option linter.all false
namespace Go.Proofs.YtnjiadikeacfaaaGreatDoor
namespace Abs
variable {P:Program} {M0:Nat->Prop} {S:Mem}
theorem sG(hS:HOk P M0 S){s}{r}(h:∀q,r=some q->∃v',s.run P S.w=.ok v' S.w/\RepP (Avoid M0 S.m) S.w v' q):aI P M0 S s (sg S.h r):=by
 cases r with
 |none=>exact trivial
 |some q=>obtain⟨v',h1,h2⟩:=h q rfl;exact aI.pure hS h1 (aF h2)
theorem xi{op}{T}{x y}{a b}(w)(h1:∀C D,¬(a=.agg C/\b=.agg D))(h2:¬(a=.nilIface/\b=.nilIface)):(eqGuard op T x y a b).run P w=.ok () w:=by
 cases op<;>first
  |rfl
  |(unfold eqGuard
    cases a<;>first
     |rfl
     |(cases b<;>first
       |rfl
       |exact absurd ⟨rfl,rfl⟩ (h1 _ _)
       |exact absurd ⟨rfl,rfl⟩ h2))
theorem LY{op}{T}{k}{a b}{q}(hs:wT op=false)(h:sK op k a b=some q)(w)(M) :
  ∃v',(binOp op T (.int k a) (.int k b)).run P w=.ok v' w/\RepP M w v' q:=by
 cases op<;>simp only[sK,wT,reduceCtorEq,gk]at h hs
 case add=>subst h;exact⟨_,by simp[binOp,Op.intArith],.int _ _⟩
 case sub=>subst h;exact⟨_,by simp[binOp,Op.intArith],.int _ _⟩
 case mul=>subst h;exact⟨_,by simp[binOp,Op.intArith],.int _ _⟩
 case quo=>
  split at h
  .cases h
  .rename_i hb;cases h;exact⟨_,by simp[binOp,Op.intDiv,hb],.int _ _⟩
 case rem=>
  split at h
  .cases h
  .rename_i hb;cases h;exact⟨_,by simp[binOp,Op.intDiv,hb],.int _ _⟩
 case and=>
  subst h;refine⟨_,?_,.int _ _⟩;show (if k≠k then stuck "BinOp: operands of different kinds" else Op.intBits .and k a b:Sem Value).run P w=_;rw[if_neg (by simp)];rfl
 case or=>
  subst h;refine⟨_,?_,.int _ _⟩;show (if k≠k then stuck "BinOp: operands of different kinds" else Op.intBits .or k a b:Sem Value).run P w=_;rw[if_neg (by simp)];rfl
 case andNot=>
  subst h;refine⟨_,?_,.int _ _⟩;show (if k≠k then stuck "BinOp: operands of different kinds" else Op.intBits .andNot k a b:Sem Value).run P w=_;rw[if_neg (by simp)];rfl
 case eql=>subst h;exact⟨_,by simp[binOp,Op.intCmp],.bool _⟩
 case neq=>subst h;exact⟨_,by simp[binOp,Op.intCmp],.bool _⟩
 case lss=>subst h;exact⟨_,by simp[binOp,Op.intCmp],.bool _⟩
 case leq=>subst h;exact⟨_,by simp[binOp,Op.intCmp],.bool _⟩
 case gtr=>subst h;exact⟨_,by simp[binOp,Op.intCmp],.bool _⟩
 case geq=>subst h;exact⟨_,by simp[binOp,Op.intCmp],.bool _⟩
theorem GQ{op}{T}{k k'}{a b}{q}(h:fg op k a b=some q)(w)(M) :
  ∃v',(binOp op T (.int k a) (.int k' b)).run P w=.ok v' w/\RepP M w v' q:=by
 unfold fg at h;split at h
 .cases h
 .rename_i hb;cases op<;>simp only[reduceCtorEq,gk]at h
  .subst h;exact⟨_,by simp[binOp,Op.shift,hb],.int _ _⟩
  .subst h;exact⟨_,by simp[binOp,Op.shift,hb],.int _ _⟩
theorem KR{op}{T}{a b}{q}(h:zh op a b=some q)(w)(M) :
  ∃v',(binOp op T (.string a) (.string b)).run P w=.ok v' w/\RepP M w v' q:=by
 cases op<;>simp only[zh,reduceCtorEq,gk]at h
 .split at h
  .rename_i hsz;cases h;refine⟨.string (a++b),?_,.str _⟩;have hm:IntKind.i64.max=9223372036854775807:=by decide
   have:¬(((a.size+b.size:Nat):Int) > IntKind.i64.max):=by rw[hm];unfold cT at hsz;omega
   simp only[binOp,Op.stringOp];rw[if_neg this];rfl
  .cases h
 .subst h;exact⟨.bool (a==b),by simp[binOp,Op.stringOp,beq_toListBytes],.bool _⟩
 .subst h;exact⟨.bool !(a==b),by simp[binOp,Op.stringOp,beq_toListBytes],.bool _⟩
 .subst h;exact⟨_,by simp[binOp,Op.stringOp],.bool _⟩
def jK (M:Nat->Prop) (w:World) (X:Array Value) (a:List PV):Prop:=X.size=a.length/\∀(i:Nat) (c:PV),a[i]?=some c->RepP M w (X.getD i undef) c
def jT (P:Program) (T:TypeId) (X:Array Value):Value:=if b6 P T=some true then .agg X else X.getD 0 undef
theorem xH:∀{k1 k2} {a b} {t},eg (k1++k2) a b=some t ->
  ∃s u,eg k1 (a.take k1.length) (b.take k1.length)=some s/\eg k2 (a.drop k1.length) (b.drop k1.length)=some u/\t=(s&&u)
 |[],k2,a,b,t,h=>⟨true,t,rfl,by simpa using h,by simp⟩
 |k::k1,k2,a,b,t,h=>by
  cases a with
  |nil=>simp[eg]at h
  |cons x a=>
   cases b with
   |nil=>simp[eg]at h
   |cons y b=>
    simp only[eW,eg]at h;split at h
    .rename_i s1 t1 h1 h2;cases h;obtain⟨s,u,g1,g2,rfl⟩:=xH h2;refine⟨s1&&s,u,?_,g2,by rw[Bool.and_assoc]⟩;simp[eg,h1,g1]
    .cases h
theorem lT:∀{ks} {a b} {t},eg ks a b=some t->a.length=ks.length/\b.length=ks.length
 |[],[],[],_,_=>⟨rfl,rfl⟩
 |[],_::_,_,_,h=>by simp[eg]at h
 |[],[],_::_,_,h=>by simp[eg]at h
 |k::ks,[],_,_,h=>by simp[eg]at h
 |k::ks,_::_,[],_,h=>by simp[eg]at h
 |k::ks,x::a,y::b,t,h=>by
  simp only[eg]at h;split at h
  .rename_i s u h1 h2;obtain⟨g1,g2⟩:=lT h2;exact⟨by simp[g1],by simp[g2]⟩
  .cases h
theorem vj{T}{ks n}{X}(hsz:b8 P T=some ks)(hag:(b6 P T).isSome=true)(hle:n+ks<=X.size)(hpos:b6 P T=some false->ks≠0)(w) :
  (part T X n).run P w=.ok (jT P T (X.extract n (n+ks))) w:=by
 obtain⟨g,hg⟩:=jv.1 hag
 cases g with
 |true=>simp[part,jV hg,bN hsz,jT,hg]
 |false=>
  have hk:=hpos hg;simp[part,jV hg,jT,hg,show n<X.size by omega,fz,show 0<min (n+ks) X.size-n by omega]
theorem sZ{M}{w}{X}{a}(h:jK M w X a)(n k)(hle:n+k<=a.length):jK M w (X.extract n (n+k)) ((a.drop n).take k):=by
 refine⟨by have:=h.1;simp;omega,λi c hi=>?_⟩;have hil:=(ax.1 hi).1;have hik:i<k:=by simp at hil;omega
 rw[jp,if_pos hik,sc]at hi;have:=h.2 (n+i) c hi;have hs:=h.1;have:(X.extract n (n+k)).getD i undef=X.getD (n+i) undef:=by
  simp[fz,show i<min (n+k) X.size-n by omega,show n+i<X.size by omega]
 rw[this];assumption
theorem LF:∀{d} {T} {ks},lN P d T=some ks->b6 P T=some false->ks.length≠0:=by
 intro d T ks h hag
 cases d with
 |zero=>simp[lN]at h
 |succ d=>
  simp only[lN]at h;unfold b6 at hag;split at h
  .cases h;simp
  .cases h;simp
  .cases h;simp
  .rename_i fs hu;simp[hu]at hag
  .cases h
theorem sv{M}{w}{d e} (hrec:∀(T) (ks),lN P d T=some ks->b8 P T=some ks.length->(b6 P T).isSome=true->∀(X Y) (a b) (t),jK M w X a->jK M w Y b ->
   eg ks a b=some t->(Op.equalIn e T (jT P T X) (jT P T Y)).run P w=.ok t w) :
  ∀(fs) (n) (ks),vA P (lN P d) fs n=some ks->∀(X Y) (a b) (t),jK M w X a->jK M w Y b->eg ks (a.drop n) (b.drop n)=some t ->
   (Op.eqFields e X Y fs).run P w=.ok t w
 |[],n,ks,h,X,Y,a,b,t,hX,hY,ht=>by
  simp[vA]at h;subst h;have:=lT ht;have:t=true:=by
   cases ha:a.drop n with
   |cons _ _=>rw[ha]at this;simp at this
   |nil=>
    cases hb:b.drop n with
    |cons _ _=>rw[hb]at this;simp at this
    |nil=>rw[ha,hb]at ht;simpa[eg]using ht.symm
  subst this
  rfl
 |f::fs,n,ks,h,X,Y,a,b,t,hX,hY,ht=>by
  simp only[vA]at h;split at h
  .rename_i hname;obtain⟨hname,hoff⟩:=hname;split at h
   .rename_i k1 hk1;split at h
    .rename_i hsz;obtain⟨hsz,hag⟩:=hsz;split at h
     .rename_i r hr;cases h;obtain⟨s,u,h1,h2,rfl⟩:=xH ht;rw[xX,xX]at h2;have hla:=(lT ht).1;have hlb:=(lT ht).2;have hp:=LF hk1;have hsa:=hX.1;have hsb:=hY.1;have hna:k1.length=0\/n+k1.length<=a.length:=by simp at hla;omega
      have hnb:k1.length=0\/n+k1.length<=b.length:=by simp at hlb;omega
      by_cases hk0:k1.length=0
      .
       have hagt:b6 P f.type=some true:=by
        obtain⟨g,hg⟩:=jv.1 hag
        cases g with
        |true=>exact hg
        |false=>exact absurd hk0 (hp hg)
       have hpx:∀Z:Array Value,(part f.type Z n).run P w=.ok (jT P f.type #[]) w:=by
        intro Z;have he:Z.extract n (n+0)=#[]:=IM.1 (by simp;omega);simp only[part,Sem.run_bind,jV hagt,cb,if_true,bN hsz,hk0,Sem.run_pure,he,jT,hagt]
       have hk1n:k1=[]:=tv.1 hk0;subst hk1n;have hs1:s=true:=by simpa[eg]using h1.symm
       subst hs1;have hempty:jK M w #[] []:=⟨rfl,λi c hi=>by simp at hi⟩
       have heq:=hrec f.type [] hk1 hsz hag #[] #[] [] [] true hempty hempty rfl;have ih:=sv hrec fs (n+0) r hr X Y a b u hX hY h2;simp only[Op.eqFields];rw[if_pos hname,hoff];simp only[Sem.run_bind,hpx,cb,heq,Bool.not_true,d4,if_false];simpa using ih
      .have hna':n+k1.length<=a.length:=by omega
       have hnb':n+k1.length<=b.length:=by omega
       have hX1:=sZ hX n k1.length hna';have hY1:=sZ hY n k1.length hnb';have heq:=hrec f.type k1 hk1 hsz hag _ _ _ _ s hX1 hY1 h1;have ih:=sv hrec fs (n+k1.length) r hr X Y a b u hX hY h2;have px:=vj (n:=n) (X:=X) hsz hag (by omega) hp w;have py:=vj (n:=n) (X:=Y) hsz hag (by omega) hp w;simp only[Op.eqFields];rw[if_pos hname];rw[hoff];simp only[Sem.run_bind,px,py,cb,heq]
       cases s with
       |true=>simpa using ih
       |false=>simp
     .cases h
    .cases h
   .cases h
  .cases h
theorem E1{M}{w}:∀(d e),d<=e->∀(T) (ks),lN P d T=some ks->(b6 P T).isSome=true->∀(X Y) (a b) (t),jK M w X a->jK M w Y b ->
   eg ks a b=some t->(Op.equalIn e T (jT P T X) (jT P T Y)).run P w=.ok t w
 |0,_,_,T,ks,h,_,_,_,_,_,_,_,_,_=>by simp[lN]at h
 |d+1,0,hde,_,_,_,_,_,_,_,_,_,_,_,_=>by omega
 |d+1,e+1,hde,T,ks,h,hag,X,Y,a,b,t,hX,hY,ht=>by
  have hl:=lT ht;have one:∀(k:CK),ks=[k]->∃x y,a=[x]/\b=[y]/\nK k x y=some t/\RepP M w (X.getD 0 undef) x/\RepP M w (Y.getD 0 undef) y:=by
   intro k hk;subst hk;obtain⟨x,rfl⟩:=IL.1 hl.1;obtain⟨y,rfl⟩:=IL.1 hl.2;refine⟨x,y,rfl,rfl,?_,hX.2 0 x rfl,hY.2 0 y rfl⟩;simp only[eg]at ht;split at ht
   .rename_i s u h1 h2;cases h2;cases ht;simpa using h1
   .cases ht
  simp only[lN]at h;split at h
  .rename_i hu;cases h;obtain⟨x,y,rfl,rfl,h1,h2,h3⟩:=one _ rfl;have hv:∀Z:Array Value,jT P T Z=Z.getD 0 undef:=λZ=>by simp[jT,b6,hu]
   rw[hv,hv];generalize X.getD 0 undef=vx at h2 |-;generalize Y.getD 0 undef=vy at h3 |-;cases x<;>cases y<;>simp only[nK,reduceCtorEq,gk]at h1;cases h2;cases h3;rw[run_equalIn_bool' w e T _ _ hu,h1]
  .rename_i k hu;cases h;obtain⟨x,y,rfl,rfl,h1,h2,h3⟩:=one _ rfl;have hv:∀Z:Array Value,jT P T Z=Z.getD 0 undef:=λZ=>by simp[jT,b6,hu]
   rw[hv,hv];generalize X.getD 0 undef=vx at h2 |-;generalize Y.getD 0 undef=vy at h3 |-;cases x<;>cases y<;>simp only[nK,reduceCtorEq]at h1;split at h1
   .rename_i hk;subst hk;cases h1;cases h2;cases h3;rw[run_equalIn_int w e T _ _ _ _ hu]
   .cases h1
  .rename_i hu;cases h;obtain⟨x,y,rfl,rfl,h1,h2,h3⟩:=one _ rfl;have hv:∀Z:Array Value,jT P T Z=Z.getD 0 undef:=λZ=>by simp[jT,b6,hu]
   rw[hv,hv];generalize X.getD 0 undef=vx at h2 |-;generalize Y.getD 0 undef=vy at h3 |-;cases x<;>cases y<;>simp only[nK,reduceCtorEq,gk]at h1;cases h2;cases h3;rw[run_equalIn_string w e T _ _ hu,<-beq_toListBytes,h1]
  .rename_i fs hu;split at h
   .cases h
   .rename_i hst;have hv:∀Z:Array Value,jT P T Z=.agg Z:=λZ=>by simp[jT,b6,hu]
    rw[hv,hv];have hfo:P.fieldsOf T=fs:=by simp[Program.fieldsOf,hu]
    rw[run_equalIn_struct w e T X Y (by rw[hfo];exact hu) (by simpa using hst),hfo];exact sv (λT' ks' h1 _ h3 X' Y' a' b' t' h4 h5 h6=>E1 d e (by omega) T' ks' h1 h3 X' Y' a' b' t' h4 h5 h6) fs.toList 0 ks h X Y a b t hX hY (by simpa using ht)
  .cases h
theorem Jt{T}(h:bS P T=.bool):P.underlying T=some .bool:=by
 unfold bS at h;split at h<;>first|assumption|(cases h;done)|(split at h<;>cases h)
theorem sq{T}(h:bS P T=.iface):∃ms,P.underlying T=some (.interface ms):=by
 unfold bS at h;split at h<;>first|exact⟨_,by assumption⟩|(cases h;done)|(split at h<;>cases h)
theorem sn{T}(h:bS P T=.slice):∃ms,P.underlying T=some (.slice ms):=by
 unfold bS at h;split at h<;>first|exact⟨_,by assumption⟩|(cases h;done)|(split at h<;>cases h)
theorem uc{T}(h:bS P T=.func):∃a b c,P.underlying T=some (.func a b c):=by
 unfold bS at h;split at h<;>first|exact⟨_,_,_,by assumption⟩|(cases h;done)|(split at h<;>cases h)
theorem vB{T}(h:bS P T=.ptr):∃e n,P.underlying T=some (.pointer e)/\b8 P e=some n/\n≠0:=by
 unfold bS at h;split at h
 .cases h
 .cases h
 .cases h
 .cases h
 .rename_i e hu;split at h
  .cases h
  .rename_i hn
   cases hs:b8 P e with
   |none=>exact absurd (.inl hs) hn
   |some n=>exact⟨e,n,hu,hs,λh0=>hn (.inr (by rw[hs,h0]))⟩
 .cases h
def Qc (P:Program) (T:TypeId) (a b:Value) (t:Bool) (w:World):Prop:=
 (binOp .eql T a b).run P w=.ok (.bool t) w/\(binOp .neq T a b).run P w=.ok (.bool !t) w
theorem fE{T}{a b}{t}{w}(h:(Op.equal T a b).run P w=.ok t w)
  (h1:binOp .eql T a b=(do pure (.bool (<-Op.equal T a b)))) (h2:binOp .neq T a b=(do pure (.bool (!(<-Op.equal T a b))))):Qc P T a b t w:=by
 refine⟨?_,?_⟩
 .rw[h1];simp[h]
 .rw[h2];simp[h]
theorem fa{T}{a b}{t}{w}(h:∀d,(Op.equalIn (d+1) T a b).run P w=.ok t w):(Op.equal T a b).run P w=.ok t w:=h 9999
theorem PW{T}{cst}{x y}{a b}{t}(hx:Rep M0 S a x)(hy:Rep M0 S b y)(h:F5 P T cst x y=some t) :
  Qc P T a b t S.w/\((∀C D,¬(a=.agg C/\b=.agg D))\/P.eqGuardType P.depth T=false)/\(¬(a=.nilIface/\b=.nilIface)\/cst=true):=by
 unfold F5 at h;split at h
 .rename_i p q;split at h
  .rename_i hk;cases h;have:=n9 hx;subst this;have:=n9 hy;subst this;exact⟨fE (run_equal_bool S.w T _ _ (Jt hk)) rfl rfl,.inl (by simp),.inl (by simp)⟩
  .cases h
 .rename_i p q;split at h
  .rename_i ks hks;unfold dG at hks;split at hks
   .rename_i hg;obtain⟨hg1,hg2⟩:=hg;have h1:RepP (Avoid M0 S.m) S.w a (.agg p):=hx;have h2:RepP (Avoid M0 S.m) S.w b (.agg q):=hy
    cases h1 with
    |@agg C _ hn1 _ hr1=>
     cases h2 with
     |@agg D _ hn2 _ hr2=>
      have hv:∀Z:Array Value,jT P T Z=.agg Z:=λZ=>by simp[jT,hg2]
      have:=E1 20 Op.maxDepth (by decide) T ks hks (by simp[hg2]) C D p q t ⟨hn1,hr1⟩ ⟨hn2,hr2⟩ h;rw[hv,hv]at this;exact⟨fE this rfl rfl,.inr hg1,.inl (by simp)⟩
   .cases hks
  .cases h
 .split at h
  .rename_i hc;obtain⟨hc,hk⟩:=hc;cases h;obtain⟨ms,hu⟩:=sq hk;have h1:RepP (Avoid M0 S.m) S.w a .niliface:=hx;have h2:RepP (Avoid M0 S.m) S.w b .niliface:=hy;cases h1;cases h2;refine⟨fE (fa λd=>by simp[Op.equalIn,run_underlying hu]) rfl rfl,.inl (by simp),.inr hc⟩
  .cases h
 .split at h
  .rename_i hk;cases h;obtain⟨ms,hu⟩:=sq hk;have h1:RepP (Avoid M0 S.m) S.w a .niliface:=hx;have h2:RepP (Avoid M0 S.m) S.w b (.iface _ _):=hy;cases h1;cases h2;refine⟨fE (fa λd=>by simp[Op.equalIn,run_underlying hu]) rfl rfl,.inl (by simp),.inl (by simp)⟩
  .cases h
 .split at h
  .rename_i hk;cases h;obtain⟨ms,hu⟩:=sq hk;have h1:RepP (Avoid M0 S.m) S.w a (.iface _ _):=hx;have h2:RepP (Avoid M0 S.m) S.w b .niliface:=hy;cases h1;cases h2;refine⟨fE (fa λd=>by simp[Op.equalIn,run_underlying hu]) rfl rfl,.inl (by simp),.inl (by simp)⟩
  .cases h
 .split at h
  .rename_i hk;cases h;obtain⟨ms,hu⟩:=sn hk;have h1:RepP (Avoid M0 S.m) S.w a .nilslice:=hx;have h2:RepP (Avoid M0 S.m) S.w b .nilslice:=hy;cases h1;cases h2;refine⟨fE (fa λd=>by simp[Op.equalIn,run_underlying hu]) rfl rfl,.inl (by simp),.inl (by simp)⟩
  .cases h
 .split at h
  .rename_i hk;obtain⟨hk,hne⟩:=hk;cases h;obtain⟨ms,hu⟩:=sn hk;have h1:RepP (Avoid M0 S.m) S.w a .nilslice:=hx;have h2:RepP (Avoid M0 S.m) S.w b (.slice _ _ _):=hy;cases h1
   cases h2 with
   |slice=>exact⟨fE (fa λd=>by simp[Op.equalIn,run_underlying hu]) rfl rfl,.inl (by simp),.inl (by simp)⟩
   |empty=>exact absurd rfl hne
  .cases h
 .split at h
  .rename_i hk;obtain⟨hk,hne⟩:=hk;cases h;obtain⟨ms,hu⟩:=sn hk;have h1:RepP (Avoid M0 S.m) S.w a (.slice _ _ _):=hx;have h2:RepP (Avoid M0 S.m) S.w b .nilslice:=hy;cases h2
   cases h1 with
   |slice=>exact⟨fE (fa λd=>by simp[Op.equalIn,run_underlying hu]) rfl rfl,.inl (by simp),.inl (by simp)⟩
   |empty=>exact absurd rfl hne
  .cases h
 .split at h
  .rename_i hk;cases h;obtain⟨e,n,hu,hs,hn⟩:=vB hk;have h1:RepP (Avoid M0 S.m) S.w a .nilptr:=hx;have h2:RepP (Avoid M0 S.m) S.w b .nilptr:=hy;cases h1;cases h2;refine⟨fE (fa λd=>by simp[Op.equalIn,run_underlying hu]) rfl rfl,.inl (by simp),.inl (by simp)⟩
  .cases h
 .split at h
  .rename_i hk;cases h;obtain⟨e,n,hu,hs,hn⟩:=vB hk;have h1:RepP (Avoid M0 S.m) S.w a .nilptr:=hx;have h2:RepP (Avoid M0 S.m) S.w b (.ptr _ _ _ _):=hy;cases h1;cases h2;refine⟨fE (fa λd=>by simp[Op.equalIn,run_underlying hu]) rfl rfl,.inl (by simp),.inl (by simp)⟩
  .cases h
 .split at h
  .rename_i hk;cases h;obtain⟨e,n,hu,hs,hn⟩:=vB hk;have h1:RepP (Avoid M0 S.m) S.w a (.ptr _ _ _ _):=hx;have h2:RepP (Avoid M0 S.m) S.w b .nilptr:=hy;cases h1;cases h2;refine⟨fE (fa λd=>by simp[Op.equalIn,run_underlying hu]) rfl rfl,.inl (by simp),.inl (by simp)⟩
  .cases h
 .split at h
  .rename_i hk;cases h;obtain⟨e,n,m,hu⟩:=uc hk;have h1:RepP (Avoid M0 S.m) S.w a .nilfunc:=hx;have h2:RepP (Avoid M0 S.m) S.w b .nilfunc:=hy;cases h1;cases h2;refine⟨fE (fa λd=>by simp[Op.equalIn,run_underlying hu]) rfl rfl,.inl (by simp),.inl (by simp)⟩
  .cases h
 .split at h
  .rename_i hk;cases h;obtain⟨e,n,m,hu⟩:=uc hk;have h1:RepP (Avoid M0 S.m) S.w a (.func _ _ _):=hx;have h2:RepP (Avoid M0 S.m) S.w b .nilfunc:=hy;cases h1;cases h2;refine⟨fE (fa λd=>by simp[Op.equalIn,run_underlying hu]) rfl rfl,.inl (by simp),.inl (by simp)⟩
  .cases h
 .split at h
  .rename_i hk;cases h;obtain⟨e,n,m,hu⟩:=uc hk;obtain⟨F,C,rfl,_,_⟩:=hx;have h2:RepP (Avoid M0 S.m) S.w b .nilfunc:=hy;cases h2;refine⟨fE (fa λd=>by simp[Op.equalIn,run_underlying hu]) rfl rfl,.inl (by simp),.inl (by simp)⟩
  .cases h
 .cases h
end Abs
end Go.Proofs.YtnjiadikeacfaaaGreatDoor
