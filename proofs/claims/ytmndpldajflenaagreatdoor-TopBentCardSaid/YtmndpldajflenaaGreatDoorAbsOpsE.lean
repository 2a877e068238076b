/- LAWS: operations of the abstract machine and the model's: arithmetic, comparisons, the res -/
import Derived.Test.YtmndpldajflenaaGreatDoorAbsOpsD
import Derived.ChangeKeysEq
set_option linter.all false
namespace Go.Proofs.YtmndpldajflenaaGreatDoor
namespace Abs
variable {P:Program} {M0:Nat->Prop} {S:Mem}
theorem pO(hS:HOk P M0 S){s}{r}(h:∀q,r=some q->∃v',s.run P S.w=.ok v' S.w/\RepP (Avoid M0 S.m) S.w v' q):aB P M0 S s (pp S.h r):=by
 cases r with
 |none=>exact trivial
 |some q=>obtain⟨v',h1,h2⟩:=h q rfl;exact aB.pure hS h1 (ar h2)
theorem tG{op}{T}{x y}{a b}(w)(h1:∀C D,¬(a=.agg C/\b=.agg D))(h2:¬(a=.nilIface/\b=.nilIface)):(eqGuard op T x y a b).run P w=.ok () w:=by
 cases op<;>first
  |rfl
  |(unfold eqGuard
    cases a<;>first
     |rfl
     |(cases b<;>first
       |rfl
       |exact absurd ⟨rfl,rfl⟩ (h1 _ _)
       |exact absurd ⟨rfl,rfl⟩ h2))
theorem Gs{op}{T}{k}{a b}{q}(hs:tm op=false)(h:vB op k a b=some q)(w)(M) :
  ∃v',(binOp op T (.int k a) (.int k b)).run P w=.ok v' w/\RepP M w v' q:=by
 cases op<;>simp only[vB,tm,reduceCtorEq,iy]at h hs
 case add=>subst h;exact⟨_,by simp[binOp,Op.intArith],.int _ _⟩
 case sub=>subst h;exact⟨_,by simp[binOp,Op.intArith],.int _ _⟩
 case mul=>subst h;exact⟨_,by simp[binOp,Op.intArith],.int _ _⟩
 case quo=>
  split at h
  .cases h
  .rename_i hb;cases h;exact⟨_,by simp[binOp,Op.intDiv,hb],.int _ _⟩
 case rem=>
  split at h
  .cases h
  .rename_i hb;cases h;exact⟨_,by simp[binOp,Op.intDiv,hb],.int _ _⟩
 case and=>
  subst h;refine⟨_,?_,.int _ _⟩;show (if k≠k then stuck "BinOp: operands of different kinds" else Op.intBits .and k a b:Sem Value).run P w=_;rw[if_neg (by simp)];rfl
 case or=>
  subst h;refine⟨_,?_,.int _ _⟩;show (if k≠k then stuck "BinOp: operands of different kinds" else Op.intBits .or k a b:Sem Value).run P w=_;rw[if_neg (by simp)];rfl
 case andNot=>
  subst h;refine⟨_,?_,.int _ _⟩;show (if k≠k then stuck "BinOp: operands of different kinds" else Op.intBits .andNot k a b:Sem Value).run P w=_;rw[if_neg (by simp)];rfl
 case eql=>subst h;exact⟨_,by simp[binOp,Op.intCmp],.bool _⟩
 case neq=>subst h;exact⟨_,by simp[binOp,Op.intCmp],.bool _⟩
 case lss=>subst h;exact⟨_,by simp[binOp,Op.intCmp],.bool _⟩
 case leq=>subst h;exact⟨_,by simp[binOp,Op.intCmp],.bool _⟩
 case gtr=>subst h;exact⟨_,by simp[binOp,Op.intCmp],.bool _⟩
 case geq=>subst h;exact⟨_,by simp[binOp,Op.intCmp],.bool _⟩
theorem Cn{op}{T}{k k'}{a b}{q}(h:kr op k a b=some q)(w)(M) :
  ∃v',(binOp op T (.int k a) (.int k' b)).run P w=.ok v' w/\RepP M w v' q:=by
 unfold kr at h;split at h
 .cases h
 .rename_i hb;cases op<;>simp only[reduceCtorEq,iy]at h
  .subst h;exact⟨_,by simp[binOp,Op.shift,hb],.int _ _⟩
  .subst h;exact⟨_,by simp[binOp,Op.shift,hb],.int _ _⟩
theorem Fs{op}{T}{a b}{q}(h:uT op a b=some q)(w)(M) :
  ∃v',(binOp op T (.string a) (.string b)).run P w=.ok v' w/\RepP M w v' q:=by
 cases op<;>simp only[uT,reduceCtorEq,iy]at h
 .split at h
  .rename_i hsz;cases h;refine⟨.string (a++b),?_,.str _⟩;have hm:IntKind.i64.max=9223372036854775807:=by decide
   have:¬(((a.size+b.size:Nat):Int) > IntKind.i64.max):=by rw[hm];unfold iQ at hsz;omega
   simp only[binOp,Op.stringOp];rw[if_neg this];rfl
  .cases h
 .subst h;exact⟨.bool (a==b),by simp[binOp,Op.stringOp,beq_toListBytes],.bool _⟩
 .subst h;exact⟨.bool !(a==b),by simp[binOp,Op.stringOp,beq_toListBytes],.bool _⟩
 .subst h;exact⟨_,by simp[binOp,Op.stringOp],.bool _⟩
def eT (M:Nat->Prop) (w:World) (X:Array Value) (a:List PV):Prop:=X.size=a.length/\∀(i:Nat) (c:PV),a[i]?=some c->RepP M w (X.getD i undef) c
def cr (P:Program) (T:TypeId) (X:Array Value):Value:=if aZ P T=some true then .agg X else X.getD 0 undef
theorem j2:∀{k1 k2} {a b} {t},cb (k1++k2) a b=some t ->
  ∃s u,cb k1 (a.take k1.length) (b.take k1.length)=some s/\cb k2 (a.drop k1.length) (b.drop k1.length)=some u/\t=(s&&u)
 |[],k2,a,b,t,h=>⟨true,t,rfl,by simpa using h,by simp⟩
 |k::k1,k2,a,b,t,h=>by
  cases a with
  |nil=>simp[cb]at h
  |cons x a=>
   cases b with
   |nil=>simp[cb]at h
   |cons y b=>
    simp only[rO,cb]at h;split at h
    .rename_i s1 t1 h1 h2;cases h;obtain⟨s,u,g1,g2,rfl⟩:=j2 h2;refine⟨s1&&s,u,?_,g2,by rw[Bool.and_assoc]⟩;simp[cb,h1,g1]
    .cases h
theorem dI:∀{ks} {a b} {t},cb ks a b=some t->a.length=ks.length/\b.length=ks.length
 |[],[],[],_,_=>⟨rfl,rfl⟩
 |[],_::_,_,_,h=>by simp[cb]at h
 |[],[],_::_,_,h=>by simp[cb]at h
 |k::ks,[],_,_,h=>by simp[cb]at h
 |k::ks,_::_,[],_,h=>by simp[cb]at h
 |k::ks,x::a,y::b,t,h=>by
  simp only[cb]at h;split at h
  .rename_i s u h1 h2;obtain⟨g1,g2⟩:=dI h2;exact⟨by simp[g1],by simp[g2]⟩
  .cases h
theorem ic{T}{ks n}{X}(hsz:bj P T=some ks)(hag:(aZ P T).isSome=true)(hle:n+ks<=X.size)(hpos:aZ P T=some false->ks≠0)(w) :
  (part T X n).run P w=.ok (cr P T (X.extract n (n+ks))) w:=by
 obtain⟨g,hg⟩:=ec.1 hag
 cases g with
 |true=>simp[part,iA hg,aU hsz,cr,hg]
 |false=>
  have hk:=hpos hg;simp[part,iA hg,cr,hg,show n<X.size by omega,gG,show 0<min (n+ks) X.size-n by omega]
theorem fK{M}{w}{X}{a}(h:eT M w X a)(n k)(hle:n+k<=a.length):eT M w (X.extract n (n+k)) ((a.drop n).take k):=by
 refine⟨by have:=h.1;simp;omega,λi c hi=>?_⟩;have hil:=(aA.1 hi).1;have hik:i<k:=by simp at hil;omega
 rw[kh,if_pos hik,nn]at hi;have:=h.2 (n+i) c hi;have hs:=h.1;have:(X.extract n (n+k)).getD i undef=X.getD (n+i) undef:=by
  simp[gG,show i<min (n+k) X.size-n by omega,show n+i<X.size by omega]
 rw[this];assumption
theorem xW:∀{d} {T} {ks},ff P d T=some ks->aZ P T=some false->ks.length≠0:=by
 intro d T ks h hag
 cases d with
 |zero=>simp[ff]at h
 |succ d=>
  simp only[ff]at h;unfold aZ at hag;split at h
  .cases h;simp
  .cases h;simp
  .cases h;simp
  .rename_i fs hu;simp[hu]at hag
  .rename_i n e hu;simp[hu]at hag
  .cases h
theorem pA{M}{w}{d e} (hrec:∀(T) (ks),ff P d T=some ks->bj P T=some ks.length->(aZ P T).isSome=true->∀(X Y) (a b) (t),eT M w X a->eT M w Y b ->
   cb ks a b=some t->(Op.equalIn e T (cr P T X) (cr P T Y)).run P w=.ok t w) :
  ∀(fs) (n) (ks),nR P (ff P d) fs n=some ks->∀(X Y) (a b) (t),eT M w X a->eT M w Y b->cb ks (a.drop n) (b.drop n)=some t ->
   (Op.eqFields e X Y fs).run P w=.ok t w
 |[],n,ks,h,X,Y,a,b,t,hX,hY,ht=>by
  simp[nR]at h;subst h;have:=dI ht;have:t=true:=by
   cases ha:a.drop n with
   |cons _ _=>rw[ha]at this;simp at this
   |nil=>
    cases hb:b.drop n with
    |cons _ _=>rw[hb]at this;simp at this
    |nil=>rw[ha,hb]at ht;simpa[cb]using ht.symm
  subst this
  rfl
 |f::fs,n,ks,h,X,Y,a,b,t,hX,hY,ht=>by
  simp only[nR]at h;split at h
  .rename_i hname;obtain⟨hname,hoff⟩:=hname;split at h
   .rename_i k1 hk1;split at h
    .rename_i hsz;obtain⟨hsz,hag⟩:=hsz;split at h
     .rename_i r hr;cases h;obtain⟨s,u,h1,h2,rfl⟩:=j2 ht;rw[nq,nq]at h2;have hla:=(dI ht).1;have hlb:=(dI ht).2;have hp:=xW hk1;have hsa:=hX.1;have hsb:=hY.1;have hna:k1.length=0\/n+k1.length<=a.length:=by simp at hla;omega
      have hnb:k1.length=0\/n+k1.length<=b.length:=by simp at hlb;omega
      by_cases hk0:k1.length=0
      .
       have hagt:aZ P f.type=some true:=by
        obtain⟨g,hg⟩:=ec.1 hag
        cases g with
        |true=>exact hg
        |false=>exact absurd hk0 (hp hg)
       have hpx:∀Z:Array Value,(part f.type Z n).run P w=.ok (cr P f.type #[]) w:=by
        intro Z;have he:Z.extract n (n+0)=#[]:=zB.1 (by simp;omega);simp only[part,Sem.run_bind,iA hagt,aG,if_true,aU hsz,hk0,Sem.run_pure,he,cr,hagt]
       have hk1n:k1=[]:=wA.1 hk0;subst hk1n;have hs1:s=true:=by simpa[cb]using h1.symm
       subst hs1;have hempty:eT M w #[] []:=⟨rfl,λi c hi=>by simp at hi⟩
       have heq:=hrec f.type [] hk1 hsz hag #[] #[] [] [] true hempty hempty rfl;have ih:=pA hrec fs (n+0) r hr X Y a b u hX hY h2;simp only[Op.eqFields];rw[if_pos hname,hoff];simp only[Sem.run_bind,hpx,aG,heq,Bool.not_true,gZ,if_false];simpa using ih
      .have hna':n+k1.length<=a.length:=by omega
       have hnb':n+k1.length<=b.length:=by omega
       have hX1:=fK hX n k1.length hna';have hY1:=fK hY n k1.length hnb';have heq:=hrec f.type k1 hk1 hsz hag _ _ _ _ s hX1 hY1 h1;have ih:=pA hrec fs (n+k1.length) r hr X Y a b u hX hY h2;have px:=ic (n:=n) (X:=X) hsz hag (by omega) hp w;have py:=ic (n:=n) (X:=Y) hsz hag (by omega) hp w;simp only[Op.eqFields];rw[if_pos hname];rw[hoff];simp only[Sem.run_bind,px,py,aG,heq]
       cases s with
       |true=>simpa using ih
       |false=>simp
     .cases h
    .cases h
   .cases h
  .cases h
theorem EF{T:TypeId}{n:Nat}(h:bj P T=some n):P.cellsOf T=n:=by
 unfold bj at h;unfold Program.cellsOf
 cases hi:P.info? T with
 |none=>rw[hi]at h;cases h
 |some i=>rw[hi]at h;simpa using h
theorem vM{M:Nat->Prop}{w:World}{d:Nat}{T:TypeId}{k:CK}(hsz:bj P T=some 1)(hag:aZ P T=some false)
  (hrec:∀(X Y:Array Value) (a b:List PV) (t:Bool),eT M w X a->eT M w Y b->cb [k] a b=some t->(Op.equalIn d T (cr P T X) (cr P T Y)).run P w=.ok t w) {X Y:Array Value} {a b:List PV} (hX:eT M w X a) (hY:eT M w Y b) :
  ∀(m i:Nat) (t:Bool),cb (List.replicate m k) (a.drop i) (b.drop i)=some t->(Op.eqItems d T 1 X Y (List.range' i m)).run P w=.ok t w
 |0,i,t,h=>by
  have:=dI h
  cases ha:a.drop i with
  |cons _ _=>rw[ha]at this;simp at this
  |nil=>
   cases hb:b.drop i with
   |cons _ _=>rw[hb]at this;simp at this
   |nil=>
    rw[ha,hb]at h;have:t=true:=by simpa[cb]using h.symm
    subst this
    rfl
 |m+1,i,t,h=>by
  obtain⟨s,u,h1,h2,rfl⟩:=j2 (k1:=[k]) (k2:=List.replicate m k) (by simpa[wv]using h);rw[nq,nq]at h2;have hla:=(dI h).1;have hlb:=(dI h).2;simp at hla hlb;have hsa:=hX.1;have hsb:=hY.1;have hX1:=fK hX i 1 (by omega);have hY1:=fK hY i 1 (by omega);have px:=ic (n:=i) (X:=X) hsz (by rw[hag];rfl) (by omega) (λ_=>by omega) w;have py:=ic (n:=i) (X:=Y) hsz (by rw[hag];rfl) (by omega) (λ_=>by omega) w;have heq:=hrec _ _ _ _ s hX1 hY1 h1;have ih:=vM hsz hag hrec hX hY m (i+1) u h2;rw[List.range'_succ];simp only[Op.eqItems,Nat.mul_one,Sem.run_bind,px,py,aG,heq]
  cases s with
  |true=>simpa using ih
  |false=>simp
theorem qR{M}{w}:∀(d e),d<=e->∀(T) (ks),ff P d T=some ks->(aZ P T).isSome=true->∀(X Y) (a b) (t),eT M w X a->eT M w Y b ->
   cb ks a b=some t->(Op.equalIn e T (cr P T X) (cr P T Y)).run P w=.ok t w
 |0,_,_,T,ks,h,_,_,_,_,_,_,_,_,_=>by simp[ff]at h
 |d+1,0,hde,_,_,_,_,_,_,_,_,_,_,_,_=>by omega
 |d+1,e+1,hde,T,ks,h,hag,X,Y,a,b,t,hX,hY,ht=>by
  have hl:=dI ht;have one:∀(k:CK),ks=[k]->∃x y,a=[x]/\b=[y]/\mM k x y=some t/\RepP M w (X.getD 0 undef) x/\RepP M w (Y.getD 0 undef) y:=by
   intro k hk;subst hk;obtain⟨x,rfl⟩:=zk.1 hl.1;obtain⟨y,rfl⟩:=zk.1 hl.2;refine⟨x,y,rfl,rfl,?_,hX.2 0 x rfl,hY.2 0 y rfl⟩;simp only[cb]at ht;split at ht
   .rename_i s u h1 h2;cases h2;cases ht;simpa using h1
   .cases ht
  simp only[ff]at h;split at h
  .rename_i hu;cases h;obtain⟨x,y,rfl,rfl,h1,h2,h3⟩:=one _ rfl;have hv:∀Z:Array Value,cr P T Z=Z.getD 0 undef:=λZ=>by simp[cr,aZ,hu]
   rw[hv,hv];generalize X.getD 0 undef=vx at h2 |-;generalize Y.getD 0 undef=vy at h3 |-;cases x<;>cases y<;>simp only[mM,reduceCtorEq,iy]at h1;cases h2;cases h3;rw[run_equalIn_bool' w e T _ _ hu,h1]
  .rename_i k hu;cases h;obtain⟨x,y,rfl,rfl,h1,h2,h3⟩:=one _ rfl;have hv:∀Z:Array Value,cr P T Z=Z.getD 0 undef:=λZ=>by simp[cr,aZ,hu]
   rw[hv,hv];generalize X.getD 0 undef=vx at h2 |-;generalize Y.getD 0 undef=vy at h3 |-;cases x<;>cases y<;>simp only[mM,reduceCtorEq]at h1;split at h1
   .rename_i hk;subst hk;cases h1;cases h2;cases h3;rw[run_equalIn_int w e T _ _ _ _ hu]
   .cases h1
  .rename_i hu;cases h;obtain⟨x,y,rfl,rfl,h1,h2,h3⟩:=one _ rfl;have hv:∀Z:Array Value,cr P T Z=Z.getD 0 undef:=λZ=>by simp[cr,aZ,hu]
   rw[hv,hv];generalize X.getD 0 undef=vx at h2 |-;generalize Y.getD 0 undef=vy at h3 |-;cases x<;>cases y<;>simp only[mM,reduceCtorEq,iy]at h1;cases h2;cases h3;rw[run_equalIn_string w e T _ _ hu,<-beq_toListBytes,h1]
  .rename_i fs hu;split at h
   .cases h
   .rename_i hst;have hv:∀Z:Array Value,cr P T Z=.agg Z:=λZ=>by simp[cr,aZ,hu]
    rw[hv,hv];have hfo:P.fieldsOf T=fs:=by simp[Program.fieldsOf,hu]
    rw[run_equalIn_struct w e T X Y (by rw[hfo];exact hu) (by simpa using hst),hfo];exact pA (λT' ks' h1 _ h3 X' Y' a' b' t' h4 h5 h6=>qR d e (by omega) T' ks' h1 h3 X' Y' a' b' t' h4 h5 h6) fs.toList 0 ks h X Y a b t hX hY (by simpa using ht)
  .rename_i n el hu;split at h
   .rename_i k hk;split at h
    .rename_i hc;obtain⟨hsz,hage⟩:=hc;cases h;have hv:∀Z:Array Value,cr P T Z=.agg Z:=λZ=>by simp[cr,aZ,hu]
     rw[hv,hv];obtain⟨i,hi⟩:∃i,P.info? el=some i:=by
      unfold bj at hsz
      cases hi:P.info? el with
      |none=>rw[hi]at hsz;cases hsz
      |some i=>exact⟨i,rfl⟩
     rw[run_equalIn_array w e X Y hu hi,EF hsz,List.range_eq_range'];exact vM hsz hage (λX' Y' a' b' t' h4 h5 h6=>qR d e (by omega) el [k] hk (by rw[hage];rfl) X' Y' a' b' t' h4 h5 h6) hX hY n 0 t (by simpa using ht)
    .cases h
   .cases h
  .cases h
theorem Ee{T}(h:da P T=.bool):P.underlying T=some .bool:=by
 unfold da at h;split at h<;>first|assumption|(cases h;done)|(split at h<;>cases h)
theorem pu{T}(h:da P T=.iface):∃ms,P.underlying T=some (.interface ms):=by
 unfold da at h;split at h<;>first|exact⟨_,by assumption⟩|(cases h;done)|(split at h<;>cases h)
theorem pr{T}(h:da P T=.slice):∃ms,P.underlying T=some (.slice ms):=by
 unfold da at h;split at h<;>first|exact⟨_,by assumption⟩|(cases h;done)|(split at h<;>cases h)
theorem qS{T}(h:da P T=.func):∃a b c,P.underlying T=some (.func a b c):=by
 unfold da at h;split at h<;>first|exact⟨_,_,_,by assumption⟩|(cases h;done)|(split at h<;>cases h)
theorem sk{T}(h:da P T=.ptr):∃e n,P.underlying T=some (.pointer e)/\bj P e=some n/\n≠0:=by
 unfold da at h;split at h
 .cases h
 .cases h
 .cases h
 .cases h
 .rename_i e hu;split at h
  .cases h
  .rename_i hn
   cases hs:bj P e with
   |none=>exact absurd (.inl hs) hn
   |some n=>exact⟨e,n,hu,hs,λh0=>hn (.inr (by rw[hs,h0]))⟩
 .cases h
def Jp (P:Program) (T:TypeId) (a b:Value) (t:Bool) (w:World):Prop:=
 (binOp .eql T a b).run P w=.ok (.bool t) w/\(binOp .neq T a b).run P w=.ok (.bool !t) w
theorem eo{T}{a b}{t}{w}(h:(Op.equal T a b).run P w=.ok t w)
  (h1:binOp .eql T a b=(do pure (.bool (<-Op.equal T a b)))) (h2:binOp .neq T a b=(do pure (.bool (!(<-Op.equal T a b))))):Jp P T a b t w:=by
 refine⟨?_,?_⟩
 .rw[h1];simp[h]
 .rw[h2];simp[h]
theorem dO{T}{a b}{t}{w}(h:∀d,(Op.equalIn (d+1) T a b).run P w=.ok t w):(Op.equal T a b).run P w=.ok t w:=h 9999
theorem Jg{T}{cst}{x y}{a b}{t}(hx:Rep M0 S a x)(hy:Rep M0 S b y)(h:BI P T cst x y=some t) :
  Jp P T a b t S.w/\((∀C D,¬(a=.agg C/\b=.agg D))\/P.eqGuardType P.depth T=false)/\(¬(a=.nilIface/\b=.nilIface)\/cst=true):=by
 unfold BI at h;split at h
 .rename_i p q;split at h
  .rename_i hk;cases h;have:=lN hx;subst this;have:=lN hy;subst this;exact⟨eo (run_equal_bool S.w T _ _ (Ee hk)) rfl rfl,.inl (by simp),.inl (by simp)⟩
  .cases h
 .rename_i p q;split at h
  .rename_i ks hks;unfold cT at hks;split at hks
   .rename_i hg;obtain⟨hg1,hg2⟩:=hg;have h1:RepP (Avoid M0 S.m) S.w a (.agg p):=hx;have h2:RepP (Avoid M0 S.m) S.w b (.agg q):=hy
    cases h1 with
    |@agg C _ hn1 _ hr1=>
     cases h2 with
     |@agg D _ hn2 _ hr2=>
      have hv:∀Z:Array Value,cr P T Z=.agg Z:=λZ=>by simp[cr,hg2]
      have:=qR 20 Op.maxDepth (by decide) T ks hks (by simp[hg2]) C D p q t ⟨hn1,hr1⟩ ⟨hn2,hr2⟩ h;rw[hv,hv]at this;exact⟨eo this rfl rfl,.inr hg1,.inl (by simp)⟩
   .cases hks
  .cases h
 .split at h
  .rename_i hc;obtain⟨hc,hk⟩:=hc;cases h;obtain⟨ms,hu⟩:=pu hk;have h1:RepP (Avoid M0 S.m) S.w a .niliface:=hx;have h2:RepP (Avoid M0 S.m) S.w b .niliface:=hy;cases h1;cases h2;refine⟨eo (dO λd=>by simp[Op.equalIn,run_underlying hu]) rfl rfl,.inl (by simp),.inr hc⟩
  .cases h
 .split at h
  .rename_i hk;cases h;obtain⟨ms,hu⟩:=pu hk;have h1:RepP (Avoid M0 S.m) S.w a .niliface:=hx;have h2:RepP (Avoid M0 S.m) S.w b (.iface _ _):=hy;cases h1;cases h2;refine⟨eo (dO λd=>by simp[Op.equalIn,run_underlying hu]) rfl rfl,.inl (by simp),.inl (by simp)⟩
  .cases h
 .split at h
  .rename_i hk;cases h;obtain⟨ms,hu⟩:=pu hk;have h1:RepP (Avoid M0 S.m) S.w a (.iface _ _):=hx;have h2:RepP (Avoid M0 S.m) S.w b .niliface:=hy;cases h1;cases h2;refine⟨eo (dO λd=>by simp[Op.equalIn,run_underlying hu]) rfl rfl,.inl (by simp),.inl (by simp)⟩
  .cases h
 .split at h
  .rename_i hk;cases h;obtain⟨ms,hu⟩:=pr hk;have h1:RepP (Avoid M0 S.m) S.w a .nilslice:=hx;have h2:RepP (Avoid M0 S.m) S.w b .nilslice:=hy;cases h1;cases h2;refine⟨eo (dO λd=>by simp[Op.equalIn,run_underlying hu]) rfl rfl,.inl (by simp),.inl (by simp)⟩
  .cases h
 .split at h
  .rename_i hk;obtain⟨hk,hne⟩:=hk;cases h;obtain⟨ms,hu⟩:=pr hk;have h1:RepP (Avoid M0 S.m) S.w a .nilslice:=hx;have h2:RepP (Avoid M0 S.m) S.w b (.slice _ _ _):=hy;cases h1
   cases h2 with
   |slice=>exact⟨eo (dO λd=>by simp[Op.equalIn,run_underlying hu]) rfl rfl,.inl (by simp),.inl (by simp)⟩
   |empty=>exact absurd rfl hne
  .cases h
 .split at h
  .rename_i hk;obtain⟨hk,hne⟩:=hk;cases h;obtain⟨ms,hu⟩:=pr hk;have h1:RepP (Avoid M0 S.m) S.w a (.slice _ _ _):=hx;have h2:RepP (Avoid M0 S.m) S.w b .nilslice:=hy;cases h2
   cases h1 with
   |slice=>exact⟨eo (dO λd=>by simp[Op.equalIn,run_underlying hu]) rfl rfl,.inl (by simp),.inl (by simp)⟩
   |empty=>exact absurd rfl hne
  .cases h
 .split at h
  .rename_i hk;cases h;obtain⟨e,n,hu,hs,hn⟩:=sk hk;have h1:RepP (Avoid M0 S.m) S.w a .nilptr:=hx;have h2:RepP (Avoid M0 S.m) S.w b .nilptr:=hy;cases h1;cases h2;refine⟨eo (dO λd=>by simp[Op.equalIn,run_underlying hu]) rfl rfl,.inl (by simp),.inl (by simp)⟩
  .cases h
 .split at h
  .rename_i hk;cases h;obtain⟨e,n,hu,hs,hn⟩:=sk hk;have h1:RepP (Avoid M0 S.m) S.w a .nilptr:=hx;have h2:RepP (Avoid M0 S.m) S.w b (.ptr _ _ _ _):=hy;cases h1;cases h2;refine⟨eo (dO λd=>by simp[Op.equalIn,run_underlying hu]) rfl rfl,.inl (by simp),.inl (by simp)⟩
  .cases h
 .split at h
  .rename_i hk;cases h;obtain⟨e,n,hu,hs,hn⟩:=sk hk;have h1:RepP (Avoid M0 S.m) S.w a (.ptr _ _ _ _):=hx;have h2:RepP (Avoid M0 S.m) S.w b .nilptr:=hy;cases h1;cases h2;refine⟨eo (dO λd=>by simp[Op.equalIn,run_underlying hu]) rfl rfl,.inl (by simp),.inl (by simp)⟩
  .cases h
 .split at h
  .rename_i hk;cases h;obtain⟨e,n,m,hu⟩:=qS hk;have h1:RepP (Avoid M0 S.m) S.w a .nilfunc:=hx;have h2:RepP (Avoid M0 S.m) S.w b .nilfunc:=hy;cases h1;cases h2;refine⟨eo (dO λd=>by simp[Op.equalIn,run_underlying hu]) rfl rfl,.inl (by simp),.inl (by simp)⟩
  .cases h
 .split at h
  .rename_i hk;cases h;obtain⟨e,n,m,hu⟩:=qS hk;have h1:RepP (Avoid M0 S.m) S.w a (.func _ _ _):=hx;have h2:RepP (Avoid M0 S.m) S.w b .nilfunc:=hy;cases h1;cases h2;refine⟨eo (dO λd=>by simp[Op.equalIn,run_underlying hu]) rfl rfl,.inl (by simp),.inl (by simp)⟩
  .cases h
 .split at h
  .rename_i hk;cases h;obtain⟨e,n,m,hu⟩:=qS hk;obtain⟨F,C,rfl,_,_⟩:=hx;have h2:RepP (Avoid M0 S.m) S.w b .nilfunc:=hy;cases h2;refine⟨eo (dO λd=>by simp[Op.equalIn,run_underlying hu]) rfl rfl,.inl (by simp),.inl (by simp)⟩
  .cases h
 .cases h
end Abs
end Go.Proofs.YtmndpldajflenaaGreatDoor
