/- LAWS: operations of the abstract machine and the model's: arithmetic, comparisons, the res -/
import Derived.Test.YtmndpldajflenaaGreatDoorAbsOpsD
import Derived.ChangeKeysEq
set_option linter.all false
namespace Go.Proofs.YtmndpldajflenaaGreatDoor
namespace Abs
variable {P:Program} {M0:Nat->Prop} {S:Mem}
theorem rY(a:HOk P M0 S){s}{r}(h:∀q,r=some q->∃v',s.run P S.w=.ok v' S.w/\RepP (Avoid M0 S.m) S.w v' q):aF P M0 S s (rF S.h r):=by
 cases r with
 |none=>exact trivial
 |some q=>obtain⟨v',i,e⟩:=h q rfl;exact aF.pure a i (aC e)
theorem wa{op}{T}{x y}{a b}(w)(i:∀C D,¬(a=.agg C/\b=.agg D))(e:¬(a=.nilIface/\b=.nilIface)):(eqGuard op T x y a b).run P w=.ok () w:=by
 cases op<;>first
  |rfl
  |(unfold eqGuard
    cases a<;>first
     |rfl
     |(cases b<;>first
       |rfl
       |exact absurd ⟨rfl,rfl⟩ (i _ _)
       |exact absurd ⟨rfl,rfl⟩ e))
theorem K7{op}{T}{k}{a b}{q}(i:vK op=false)(h:r9 op k a b=some q)(w)(M) :
  ∃v',(binOp op T (.int k a) (.int k b)).run P w=.ok v' w/\RepP M w v' q:=by
 cases op<;>simp only[r9,vK,reduceCtorEq,iH]at h i
 case add=>subst h;exact⟨_,by simp[binOp,Op.intArith],.int _ _⟩
 case sub=>subst h;exact⟨_,by simp[binOp,Op.intArith],.int _ _⟩
 case mul=>subst h;exact⟨_,by simp[binOp,Op.intArith],.int _ _⟩
 case quo=>
  split at h
  .cases h
  .rename_i e;cases h;exact⟨_,by simp[binOp,Op.intDiv,e],.int _ _⟩
 case rem=>
  split at h
  .cases h
  .rename_i e;cases h;exact⟨_,by simp[binOp,Op.intDiv,e],.int _ _⟩
 case and=>
  subst h;refine⟨_,?_,.int _ _⟩;show (if k≠k then stuck "BinOp: operands of different kinds" else Op.intBits .and k a b:Sem Value).run P w=_;rw[if_neg (by simp)];rfl
 case or=>
  subst h;refine⟨_,?_,.int _ _⟩;show (if k≠k then stuck "BinOp: operands of different kinds" else Op.intBits .or k a b:Sem Value).run P w=_;rw[if_neg (by simp)];rfl
 case andNot=>
  subst h;refine⟨_,?_,.int _ _⟩;show (if k≠k then stuck "BinOp: operands of different kinds" else Op.intBits .andNot k a b:Sem Value).run P w=_;rw[if_neg (by simp)];rfl
 case eql=>subst h;exact⟨_,by simp[binOp,Op.intCmp],.bool _⟩
 case neq=>subst h;exact⟨_,by simp[binOp,Op.intCmp],.bool _⟩
 case lss=>subst h;exact⟨_,by simp[binOp,Op.intCmp],.bool _⟩
 case leq=>subst h;exact⟨_,by simp[binOp,Op.intCmp],.bool _⟩
 case gtr=>subst h;exact⟨_,by simp[binOp,Op.intCmp],.bool _⟩
 case geq=>subst h;exact⟨_,by simp[binOp,Op.intCmp],.bool _⟩
theorem F5{op}{T}{k i}{a b}{q}(h:fh op k a b=some q)(w)(M) :
  ∃v',(binOp op T (.int k a) (.int i b)).run P w=.ok v' w/\RepP M w v' q:=by
 unfold fh at h;split at h
 .cases h
 .rename_i e;cases op<;>simp only[reduceCtorEq,iH]at h
  .subst h;exact⟨_,by simp[binOp,Op.shift,e],.int _ _⟩
  .subst h;exact⟨_,by simp[binOp,Op.shift,e],.int _ _⟩
theorem J7{op}{T}{a b}{q}(h:x4 op a b=some q)(w)(M) :
  ∃v',(binOp op T (.string a) (.string b)).run P w=.ok v' w/\RepP M w v' q:=by
 cases op<;>simp only[x4,reduceCtorEq,iH]at h
 .split at h
  .rename_i e;cases h;refine⟨.string (a++b),?_,.str _⟩;have i:IntKind.i64.max=9223372036854775807:=by decide
   have:¬(((a.size+b.size:Nat):Int) > IntKind.i64.max):=by rw[i];unfold bj at e;omega
   simp only[binOp,Op.stringOp];rw[if_neg this];rfl
  .cases h
 .subst h;exact⟨.bool (a==b),by simp[binOp,Op.stringOp,beq_toListBytes],.bool _⟩
 .subst h;exact⟨.bool !(a==b),by simp[binOp,Op.stringOp,beq_toListBytes],.bool _⟩
 .subst h;exact⟨_,by simp[binOp,Op.stringOp],.bool _⟩
def fY (M:Nat->Prop) (w:World) (X:Array Value) (a:List PV):Prop:=X.size=a.length/\∀(i:Nat) (c:PV),a[i]?=some c->RepP M w (X.getD i undef) c
def dq (P:Program) (T:TypeId) (X:Array Value):Value:=if bn P T=some true then .agg X else X.getD 0 undef
theorem lN:∀{k1 k2} {a b} {t},dN (k1++k2) a b=some t ->
  ∃s u,dN k1 (a.take k1.length) (b.take k1.length)=some s/\dN k2 (a.drop k1.length) (b.drop k1.length)=some u/\t=(s&&u)
 |[],k2,a,b,t,h=>⟨true,t,rfl,by simpa using h,by simp⟩
 |k::k1,k2,a,b,t,h=>by
  cases a with
  |nil=>simp[dN]at h
  |cons x a=>
   cases b with
   |nil=>simp[dN]at h
   |cons y b=>
    simp only[hZ,dN]at h;split at h
    .rename_i e q j i;cases h;obtain⟨s,u,o,l,rfl⟩:=lN i;refine⟨e&&s,u,?_,l,by rw[Bool.and_assoc]⟩;simp[dN,j,o]
    .cases h
theorem eZ:∀{e} {a b} {t},dN e a b=some t->a.length=e.length/\b.length=e.length
 |[],[],[],_,_=>⟨rfl,rfl⟩
 |[],_::_,_,_,h=>by simp[dN]at h
 |[],[],_::_,_,h=>by simp[dN]at h
 |k::e,[],_,_,h=>by simp[dN]at h
 |k::e,_::_,[],_,h=>by simp[dN]at h
 |k::e,x::a,y::b,t,h=>by
  simp only[dN]at h;split at h
  .rename_i s u o i;obtain⟨l,j⟩:=eZ i;exact⟨by simp[l],by simp[j]⟩
  .cases h
theorem jw{T}{a n}{X}(j:bL P T=some a)(l:(bn P T).isSome=true)(o:n+a<=X.size)(i:bn P T=some false->a≠0)(w) :
  (part T X n).run P w=.ok (dq P T (X.extract n (n+a))) w:=by
 obtain⟨g,e⟩:=fp.1 l
 cases g with
 |true=>simp[part,jN e,be j,dq,e]
 |false=>
  have q:=i e;simp[part,jN e,dq,e,show n<X.size by omega,ji,show 0<min (n+a) X.size-n by omega]
theorem hY{M}{w}{X}{a}(h:fY M w X a)(n k)(l:n+k<=a.length):fY M w (X.extract n (n+k)) ((a.drop n).take k):=by
 refine⟨by have:=h.1;simp;omega,λi c hi=>?_⟩;have e:=(aB.1 hi).1;have j:i<k:=by simp at e;omega
 rw[kB,if_pos j,qc]at hi;have:=h.2 (n+i) c hi;have o:=h.1;have:(X.extract n (n+k)).getD i undef=X.getD (n+i) undef:=by
  simp[ji,show i<min (n+k) X.size-n by omega,show n+i<X.size by omega]
 rw[this];assumption
theorem By:∀{d} {T} {i},gw P d T=some i->bn P T=some false->i.length≠0:=by
 intro d T i h a
 cases d with
 |zero=>simp[gw]at h
 |succ d=>
  simp only[gw]at h;unfold bn at a;split at h
  .cases h;simp
  .cases h;simp
  .cases h;simp
  .rename_i l j;simp[j]at a
  .rename_i n e j;simp[j]at a
  .cases h
theorem rM{M}{w}{d e} (o:∀(T) (y),gw P d T=some y->bL P T=some y.length->(bn P T).isSome=true->∀(X Y) (a b) (t),fY M w X a->fY M w Y b ->
   dN y a b=some t->(Op.equalIn e T (dq P T X) (dq P T Y)).run P w=.ok t w) :
  ∀(J) (n) (y),qx P (gw P d) J n=some y->∀(X Y) (a b) (t),fY M w X a->fY M w Y b->dN y (a.drop n) (b.drop n)=some t ->
   (Op.eqFields e X Y J).run P w=.ok t w
 |[],n,y,h,X,Y,a,b,t,I,G,C=>by
  simp[qx]at h;subst h;have:=eZ C;have:t=true:=by
   cases ha:a.drop n with
   |cons _ _=>rw[ha]at this;simp at this
   |nil=>
    cases hb:b.drop n with
    |cons _ _=>rw[hb]at this;simp at this
    |nil=>rw[ha,hb]at C;simpa[dN]using C.symm
  subst this
  rfl
 |f::J,n,y,h,X,Y,a,b,t,I,G,C=>by
  simp only[qx]at h;split at h
  .rename_i j;obtain⟨j,z⟩:=j;split at h
   .rename_i k1 D;split at h
    .rename_i l;obtain⟨l,v⟩:=l;split at h
     .rename_i r hr;cases h;obtain⟨s,u,h1,S,rfl⟩:=lN C;rw[qe,qe]at S;have a1:=(eZ C).1;have a0:=(eZ C).2;have R:=By D;have a5:=I.1;have a4:=G.1;have a7:k1.length=0\/n+k1.length<=a.length:=by simp at a1;omega
      have a6:k1.length=0\/n+k1.length<=b.length:=by simp at a0;omega
      by_cases E:k1.length=0
      .
       have A:bn P f.type=some true:=by
        obtain⟨g,hg⟩:=fp.1 v
        cases g with
        |true=>exact hg
        |false=>exact absurd E (R hg)
       have V:∀Z:Array Value,(part f.type Z n).run P w=.ok (dq P f.type #[]) w:=by
        intro Z;have he:Z.extract n (n+0)=#[]:=C8.1 (by simp;omega);simp only[part,Sem.run_bind,jN A,aS,if_true,be l,E,Sem.run_pure,he,dq,A]
       have N:k1=[]:=sK.1 E;subst N;have U:s=true:=by simpa[dN]using h1.symm
       subst U;have q:fY M w #[] []:=⟨rfl,λi c hi=>by simp at hi⟩
       have F:=o f.type [] D l v #[] #[] [] [] true q q rfl;have O:=rM o J (n+0) r hr X Y a b u I G S;simp only[Op.eqFields];rw[if_pos j,z];simp only[Sem.run_bind,V,aS,F,Bool.not_true,eG,if_false];simpa using O
      .have L:n+k1.length<=a.length:=by omega
       have K:n+k1.length<=b.length:=by omega
       have a3:=hY I n k1.length L;have a2:=hY G n k1.length K;have F:=o f.type k1 D l v _ _ _ _ s a3 a2 h1;have O:=rM o J (n+k1.length) r hr X Y a b u I G S;have px:=jw (n:=n) (X:=X) l v (by omega) R w;have py:=jw (n:=n) (X:=Y) l v (by omega) R w;simp only[Op.eqFields];rw[if_pos j];rw[z];simp only[Sem.run_bind,px,py,aS,F]
       cases s with
       |true=>simpa using O
       |false=>simp
     .cases h
    .cases h
   .cases h
  .cases h
theorem I'{T:TypeId}{n:Nat}(h:bL P T=some n):P.cellsOf T=n:=by
 unfold bL at h;unfold Program.cellsOf
 cases hi:P.info? T with
 |none=>rw[hi]at h;cases h
 |some i=>rw[hi]at h;simpa using h
theorem zd{M:Nat->Prop}{w:World}{d:Nat}{T:TypeId}{k:CK}(j:bL P T=some 1)(l:bn P T=some false)
  (e:∀(X Y:Array Value) (a b:List PV) (t:Bool),fY M w X a->fY M w Y b->dN [k] a b=some t->(Op.equalIn d T (dq P T X) (dq P T Y)).run P w=.ok t w) {X Y:Array Value} {a b:List PV} (q:fY M w X a) (o:fY M w Y b) :
  ∀(m i:Nat) (t:Bool),dN (List.replicate m k) (a.drop i) (b.drop i)=some t->(Op.eqItems d T 1 X Y (List.range' i m)).run P w=.ok t w
 |0,i,t,h=>by
  have:=eZ h
  cases E:a.drop i with
  |cons _ _=>rw[E]at this;simp at this
  |nil=>
   cases D:b.drop i with
   |cons _ _=>rw[D]at this;simp at this
   |nil=>
    rw[E,D]at h;have:t=true:=by simpa[dN]using h.symm
    subst this
    rfl
 |m+1,i,t,h=>by
  obtain⟨s,u,K,F,rfl⟩:=lN (k1:=[k]) (k2:=List.replicate m k) (by simpa[vt]using h);rw[qe,qe]at F;have y:=(eZ h).1;have v:=(eZ h).2;simp at y v;have N:=q.1;have L:=o.1;have C:=hY q i 1 (by omega);have A:=hY o i 1 (by omega);have I:=jw (n:=i) (X:=X) j (by rw[l];rfl) (by omega) (λ_=>by omega) w;have G:=jw (n:=i) (X:=Y) j (by rw[l];rfl) (by omega) (λ_=>by omega) w;have z:=e _ _ _ _ s C A K;have J:=zd j l e q o m (i+1) u F;rw[List.range'_succ];simp only[Op.eqItems,Nat.mul_one,Sem.run_bind,I,G,aS,z]
  cases s with
  |true=>simpa using J
  |false=>simp
theorem th{M}{w}:∀(d e),d<=e->∀(T) (D),gw P d T=some D->(bn P T).isSome=true->∀(X Y) (a b) (t),fY M w X a->fY M w Y b ->
   dN D a b=some t->(Op.equalIn e T (dq P T X) (dq P T Y)).run P w=.ok t w
 |0,_,_,T,D,h,_,_,_,_,_,_,_,_,_=>by simp[gw]at h
 |d+1,0,a1,_,_,_,_,_,_,_,_,_,_,_,_=>by omega
 |d+1,e+1,a1,T,D,h,a2,X,Y,a,b,t,J,I,C=>by
  have hl:=eZ C;have one:∀(k:CK),D=[k]->∃x y,a=[x]/\b=[y]/\pq k x y=some t/\RepP M w (X.getD 0 undef) x/\RepP M w (Y.getD 0 undef) y:=by
   intro k E;subst E;obtain⟨x,rfl⟩:=xT.1 hl.1;obtain⟨y,rfl⟩:=xT.1 hl.2;refine⟨x,y,rfl,rfl,?_,J.2 0 x rfl,I.2 0 y rfl⟩;simp only[dN]at C;split at C
   .rename_i s u o z;cases z;cases C;simpa using o
   .cases C
  simp only[gw]at h;split at h
  .rename_i j;cases h;obtain⟨x,y,rfl,rfl,o,z,v⟩:=one _ rfl;have l:∀Z:Array Value,dq P T Z=Z.getD 0 undef:=λZ=>by simp[dq,bn,j]
   rw[l,l];generalize X.getD 0 undef=vx at z |-;generalize Y.getD 0 undef=vy at v |-;cases x<;>cases y<;>simp only[pq,reduceCtorEq,iH]at o;cases z;cases v;rw[run_equalIn_bool' w e T _ _ j,o]
  .rename_i k j;cases h;obtain⟨x,y,rfl,rfl,o,z,v⟩:=one _ rfl;have l:∀Z:Array Value,dq P T Z=Z.getD 0 undef:=λZ=>by simp[dq,bn,j]
   rw[l,l];generalize X.getD 0 undef=vx at z |-;generalize Y.getD 0 undef=vy at v |-;cases x<;>cases y<;>simp only[pq,reduceCtorEq]at o;split at o
   .rename_i E;subst E;cases o;cases z;cases v;rw[run_equalIn_int w e T _ _ _ _ j]
   .cases o
  .rename_i j;cases h;obtain⟨x,y,rfl,rfl,o,z,v⟩:=one _ rfl;have l:∀Z:Array Value,dq P T Z=Z.getD 0 undef:=λZ=>by simp[dq,bn,j]
   rw[l,l];generalize X.getD 0 undef=vx at z |-;generalize Y.getD 0 undef=vy at v |-;cases x<;>cases y<;>simp only[pq,reduceCtorEq,iH]at o;cases z;cases v;rw[run_equalIn_string w e T _ _ j,<-beq_toListBytes,o]
  .rename_i fs j;split at h
   .cases h
   .rename_i a0;have l:∀Z:Array Value,dq P T Z=.agg Z:=λZ=>by simp[dq,bn,j]
    rw[l,l];have F:P.fieldsOf T=fs:=by simp[Program.fieldsOf,j]
    rw[run_equalIn_struct w e T X Y (by rw[F];exact j) (by simpa using a0),F];exact rM (λT' V o _ v U S R b' G N L K=>th d e (by omega) T' V o v U S R b' G N L K) fs.toList 0 D h X Y a b t J I (by simpa using C)
  .rename_i n O j;split at h
   .rename_i k E;split at h
    .rename_i hc;obtain⟨q,A⟩:=hc;cases h;have l:∀Z:Array Value,dq P T Z=.agg Z:=λZ=>by simp[dq,bn,j]
     rw[l,l];obtain⟨i,hi⟩:∃i,P.info? O=some i:=by
      unfold bL at q
      cases hi:P.info? O with
      |none=>rw[hi]at q;cases q
      |some i=>exact⟨i,rfl⟩
     rw[run_equalIn_array w e X Y j hi,I' q,List.range_eq_range'];exact zd q A (λU S R b' G N L K=>th d e (by omega) O [k] E (by rw[A];rfl) U S R b' G N L K) J I n 0 t (by simpa using C)
    .cases h
   .cases h
  .cases h
theorem IH{T}(h:dV P T=.bool):P.underlying T=some .bool:=by
 unfold dV at h;split at h<;>first|assumption|(cases h;done)|(split at h<;>cases h)
theorem rJ{T}(h:dV P T=.iface):∃a,P.underlying T=some (.interface a):=by
 unfold dV at h;split at h<;>first|exact⟨_,by assumption⟩|(cases h;done)|(split at h<;>cases h)
theorem rI{T}(h:dV P T=.slice):∃a,P.underlying T=some (.slice a):=by
 unfold dV at h;split at h<;>first|exact⟨_,by assumption⟩|(cases h;done)|(split at h<;>cases h)
theorem ti{T}(h:dV P T=.func):∃a b c,P.underlying T=some (.func a b c):=by
 unfold dV at h;split at h<;>first|exact⟨_,_,_,by assumption⟩|(cases h;done)|(split at h<;>cases h)
theorem uG{T}(h:dV P T=.ptr):∃e n,P.underlying T=some (.pointer e)/\bL P e=some n/\n≠0:=by
 unfold dV at h;split at h
 .cases h
 .cases h
 .cases h
 .cases h
 .rename_i e j;split at h
  .cases h
  .rename_i i
   cases a:bL P e with
   |none=>exact absurd (.inl a) i
   |some n=>exact⟨e,n,j,a,λl=>i (.inr (by rw[a,l]))⟩
 .cases h
def O8 (P:Program) (T:TypeId) (a b:Value) (t:Bool) (w:World):Prop:=
 (binOp .eql T a b).run P w=.ok (.bool t) w/\(binOp .neq T a b).run P w=.ok (.bool !t) w
theorem fH{T}{a b}{t}{w}(h:(Op.equal T a b).run P w=.ok t w)
  (i:binOp .eql T a b=(do pure (.bool (<-Op.equal T a b)))) (e:binOp .neq T a b=(do pure (.bool (!(<-Op.equal T a b))))):O8 P T a b t w:=by
 refine⟨?_,?_⟩
 .rw[i];simp[h]
 .rw[e];simp[h]
theorem fe{T}{a b}{t}{w}(h:∀d,(Op.equalIn (d+1) T a b).run P w=.ok t w):(Op.equal T a b).run P w=.ok t w:=h 9999
theorem OS{T}{G}{x y}{a b}{t}(hx:Rep M0 S a x)(u:Rep M0 S b y)(h:Fh P T G x y=some t) :
  O8 P T a b t S.w/\((∀C D,¬(a=.agg C/\b=.agg D))\/P.eqGuardType P.depth T=false)/\(¬(a=.nilIface/\b=.nilIface)\/G=true):=by
 unfold Fh at h;split at h
 .rename_i p q;split at h
  .rename_i i;cases h;have:=nX hx;subst this;have:=nX u;subst this;exact⟨fH (run_equal_bool S.w T _ _ (IH i)) rfl rfl,.inl (by simp),.inl (by simp)⟩
  .cases h
 .rename_i p q;split at h
  .rename_i V v;unfold dw at v;split at v
   .rename_i X;obtain⟨N,E⟩:=X;have o:RepP (Avoid M0 S.m) S.w a (.agg p):=hx;have j:RepP (Avoid M0 S.m) S.w b (.agg q):=u
    cases o with
    |@agg C _ M _ K=>
     cases j with
     |@agg D _ L _ J=>
      have O:∀Z:Array Value,dq P T Z=.agg Z:=λZ=>by simp[dq,E]
      have:=th 20 Op.maxDepth (by decide) T V v (by simp[E]) C D p q t ⟨M,K⟩ ⟨L,J⟩ h;rw[O,O]at this;exact⟨fH this rfl rfl,.inr N,.inl (by simp)⟩
   .cases v
  .cases h
 .split at h
  .rename_i I;obtain⟨I,i⟩:=I;cases h;obtain⟨A,l⟩:=rJ i;have o:RepP (Avoid M0 S.m) S.w a .niliface:=hx;have j:RepP (Avoid M0 S.m) S.w b .niliface:=u;cases o;cases j;refine⟨fH (fe λd=>by simp[Op.equalIn,run_underlying l]) rfl rfl,.inl (by simp),.inr I⟩
  .cases h
 .split at h
  .rename_i i;cases h;obtain⟨A,l⟩:=rJ i;have o:RepP (Avoid M0 S.m) S.w a .niliface:=hx;have j:RepP (Avoid M0 S.m) S.w b (.iface _ _):=u;cases o;cases j;refine⟨fH (fe λd=>by simp[Op.equalIn,run_underlying l]) rfl rfl,.inl (by simp),.inl (by simp)⟩
  .cases h
 .split at h
  .rename_i i;cases h;obtain⟨A,l⟩:=rJ i;have o:RepP (Avoid M0 S.m) S.w a (.iface _ _):=hx;have j:RepP (Avoid M0 S.m) S.w b .niliface:=u;cases o;cases j;refine⟨fH (fe λd=>by simp[Op.equalIn,run_underlying l]) rfl rfl,.inl (by simp),.inl (by simp)⟩
  .cases h
 .split at h
  .rename_i i;cases h;obtain⟨A,l⟩:=rI i;have o:RepP (Avoid M0 S.m) S.w a .nilslice:=hx;have j:RepP (Avoid M0 S.m) S.w b .nilslice:=u;cases o;cases j;refine⟨fH (fe λd=>by simp[Op.equalIn,run_underlying l]) rfl rfl,.inl (by simp),.inl (by simp)⟩
  .cases h
 .split at h
  .rename_i i;obtain⟨i,z⟩:=i;cases h;obtain⟨A,l⟩:=rI i;have o:RepP (Avoid M0 S.m) S.w a .nilslice:=hx;have j:RepP (Avoid M0 S.m) S.w b (.slice _ _ _):=u;cases o
   cases j with
   |slice=>exact⟨fH (fe λd=>by simp[Op.equalIn,run_underlying l]) rfl rfl,.inl (by simp),.inl (by simp)⟩
   |empty=>exact absurd rfl z
  .cases h
 .split at h
  .rename_i i;obtain⟨i,z⟩:=i;cases h;obtain⟨A,l⟩:=rI i;have o:RepP (Avoid M0 S.m) S.w a (.slice _ _ _):=hx;have j:RepP (Avoid M0 S.m) S.w b .nilslice:=u;cases j
   cases o with
   |slice=>exact⟨fH (fe λd=>by simp[Op.equalIn,run_underlying l]) rfl rfl,.inl (by simp),.inl (by simp)⟩
   |empty=>exact absurd rfl z
  .cases h
 .split at h
  .rename_i i;cases h;obtain⟨e,n,l,R,U⟩:=uG i;have o:RepP (Avoid M0 S.m) S.w a .nilptr:=hx;have j:RepP (Avoid M0 S.m) S.w b .nilptr:=u;cases o;cases j;refine⟨fH (fe λd=>by simp[Op.equalIn,run_underlying l]) rfl rfl,.inl (by simp),.inl (by simp)⟩
  .cases h
 .split at h
  .rename_i i;cases h;obtain⟨e,n,l,R,U⟩:=uG i;have o:RepP (Avoid M0 S.m) S.w a .nilptr:=hx;have j:RepP (Avoid M0 S.m) S.w b (.ptr _ _ _ _):=u;cases o;cases j;refine⟨fH (fe λd=>by simp[Op.equalIn,run_underlying l]) rfl rfl,.inl (by simp),.inl (by simp)⟩
  .cases h
 .split at h
  .rename_i i;cases h;obtain⟨e,n,l,R,U⟩:=uG i;have o:RepP (Avoid M0 S.m) S.w a (.ptr _ _ _ _):=hx;have j:RepP (Avoid M0 S.m) S.w b .nilptr:=u;cases o;cases j;refine⟨fH (fe λd=>by simp[Op.equalIn,run_underlying l]) rfl rfl,.inl (by simp),.inl (by simp)⟩
  .cases h
 .split at h
  .rename_i i;cases h;obtain⟨e,n,m,l⟩:=ti i;have o:RepP (Avoid M0 S.m) S.w a .nilfunc:=hx;have j:RepP (Avoid M0 S.m) S.w b .nilfunc:=u;cases o;cases j;refine⟨fH (fe λd=>by simp[Op.equalIn,run_underlying l]) rfl rfl,.inl (by simp),.inl (by simp)⟩
  .cases h
 .split at h
  .rename_i i;cases h;obtain⟨e,n,m,l⟩:=ti i;have o:RepP (Avoid M0 S.m) S.w a (.func _ _ _):=hx;have j:RepP (Avoid M0 S.m) S.w b .nilfunc:=u;cases o;cases j;refine⟨fH (fe λd=>by simp[Op.equalIn,run_underlying l]) rfl rfl,.inl (by simp),.inl (by simp)⟩
  .cases h
 .split at h
  .rename_i i;cases h;obtain⟨e,n,m,l⟩:=ti i;obtain⟨F,C,rfl,_,_⟩:=hx;have j:RepP (Avoid M0 S.m) S.w b .nilfunc:=u;cases j;refine⟨fH (fe λd=>by simp[Op.equalIn,run_underlying l]) rfl rfl,.inl (by simp),.inl (by simp)⟩
  .cases h
 .cases h
end Abs
end Go.Proofs.YtmndpldajflenaaGreatDoor
