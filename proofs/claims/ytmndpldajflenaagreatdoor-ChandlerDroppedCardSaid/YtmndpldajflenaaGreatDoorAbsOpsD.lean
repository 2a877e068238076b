/- LAWS: operations of the abstract machine and the model's: append, make. -/
import Derived.Test.YtmndpldajflenaaGreatDoorAbsOpsBX
import Derived.Lib.AppendStr
set_option linter.all false
namespace Go.Proofs.YtmndpldajflenaaGreatDoor
namespace Abs
variable {P:Program} {M0:Nat->Prop} {S:Mem}
theorem BI(need):∀(r c),c<=2*need+512->Builtin.growBy need r c<=2*need+512
 |0,c,h=>h
 |r+1,c,h=>by
  unfold Builtin.growBy;split
  .exact h
  .rename_i h';exact BI need r _ (by omega)
theorem yx(need old)(h:old<=need):Builtin.nextslicecap need old<=2*need+512:=by
 unfold Builtin.nextslicecap;split
 .omega
 .split
  .omega
  .exact BI need 4 old (by omega)
theorem NH{need old bytes}(h:old<=need)(e:need<=ao)(a:bytes<=256):¬Builtin.nextslicecap need old*bytes > 2^48:=by
 have l:=yx need old h;have j:Builtin.nextslicecap need old*bytes<=(2*ao+512)*256:=Nat.mul_le_mul (by omega) a;have i:(2*ao+512)*256<=2^48:=by decide
 omega
theorem lv(hS:HOk P M0 S){sz}{y}{v}{ys}(O:Rep M0 S v y)(h:gj S.h sz y=some ys) :
  ∃D,(Builtin.lenOf v).run P S.w=.ok ys.length S.w/\(∀w,w.heap=S.w.heap->(Builtin.firstCells sz ys.length v).run P w=.ok D w)/\D.size=ys.length*sz/\dA M0 S sz D ys:=by
 unfold gj at h;split at h
 .cases h;have h':RepP (Avoid M0 S.m) S.w v .nilslice:=O;cases h';exact⟨#[],rfl,λw _=>rfl,by simp,λi x hx=>by simp at hx⟩
 .rename_i e xs full;split at h
  .rename_i z;subst z;cases h;have h':RepP (Avoid M0 S.m) S.w v (.slice e xs full):=O
   cases h' with
   |slice f M N a2 hs hM G hr=>
    rename_i b off len cap;subst M;refine⟨((List.range (xs.length*e)).map f).toArray,by simp[Builtin.lenOf],λw hw=>?_,by simp,λi x hx=>?_⟩
    .have:=run_loadCells (P:=P) w ⟨b,off,none⟩ (xs.length*e) f (λj I=>by
      rw[ei,<-G j I];simp only[World.cell?,hw])
     simpa[Builtin.firstCells]using this
    .simp only[cW,bC]at hx;obtain⟨q,U,rfl⟩:=hx;have A:=hs q (aG U);refine⟨_,w9 A,by simpa using A.1,λj c u=>?_⟩;simp only[cW,bC]at u;obtain⟨d,V,rfl⟩:=u;have Z:=(aB.1 V).1;rw[hH _ _ _ (im (aB.1 U).1 (by omega))]
     exact⟨A.2 d (aG V),hr i j q d U V⟩
   |@empty a cap _ _ hf=>
    refine⟨#[],rfl,λw _=>?_,by simp,λi x hx=>by simp at hx⟩;simp only[cf,dL]
    cases a with
    |none=>rfl
    |some a=>simp[Builtin.firstCells,loadCells,loadCellsFrom]
  .cases h
 .rename_i s;split at h
  .rename_i z;subst z;cases h;have h':RepP (Avoid M0 S.m) S.w v (.str s):=O;cases h';refine⟨(Lib.strCells s).toArray,by simp[Builtin.lenOf],λw _=>?_,by simp[Lib.strCells_length],λi x hx=>?_⟩
   .have:=Lib.run_firstCells_string (P:=P) (w:=w) 1 s;simpa using this
   .simp only[cW,bC]at hx;obtain⟨b,X,rfl⟩:=hx;refine⟨[.p (.int .u8 b.toNat)],rfl,rfl,λj c I=>?_⟩
    cases j with
    |zero=>
     cases I;refine⟨rfl,?_⟩;have:(Lib.strCells s).toArray.getD (i*1+0) undef=.int .u8 b.toNat:=by
      simp[Lib.strCells,ji,X]
     rw[this]
     exact .int _ _
    |succ j=>cases I
  .cases h
 .rename_i id a4 off len;split at h
  .rename_i e xs K;split at h
   .rename_i u;obtain⟨rfl,hv,J⟩:=u;cases h;have l:=x3 off len xs J;rcases cm O.2 K hv with⟨rfl,a5,a3,ad,cap,rfl⟩|⟨b,cap,T',n,hm,rfl,N,a6,a1,R⟩|⟨a7,rfl,rfl⟩
    .refine⟨#[],by rw[l];rfl,λw _=>?_,by simp[l],λi x hx=>by simp[sub]at hx⟩;rw[l]
     cases ad with
     |none=>rfl
     |some a=>simp[Builtin.firstCells,loadCells,loadCellsFrom]
    .obtain⟨C,T,X,F,a0⟩:=fj hS K hm;have L:(off+len)*e<=C.size:=iI (fU e J) F;rw[dK]at L;refine⟨((List.range (len*e)).map λk=>C.getD (off*e+k) undef).toArray,by rw[l];rfl,λw hw=>?_,by simp[l],λi x hx=>?_⟩
     .have:=run_loadCells (P:=P) w ⟨b,off*e,none⟩ (len*e) (λk=>C.getD (off*e+k) undef) (λj I=>by
       rw[ei]
       exact i6 (by rw[hw];exact X) _ (by omega))
      simpa[Builtin.firstCells,l]using this
     .have E:=(aB.1 hx).1;rw[l]at E;have Y:xs[off+i]?=some x:=by
       unfold sub at hx;rw[kB,if_pos E,qc]at hx;exact hx
      obtain⟨cs,h1,h2,h3⟩:=a0 _ x Y;refine⟨cs,h1,h2,λj c u=>?_⟩;have Z:=(aB.1 u).1;rw[hH _ _ _ (im E (by omega))];have:=h3 j c u;rwa [dK,gW]at this
    .have o:(sub off 0 xs).length=0:=l;exact⟨#[],by rw[o];rfl,λw _=>by rw[o];rfl,by simp[o],λi x hx=>by simp[sub]at hx⟩
   .cases h
  .cases h
 .cases h
theorem uS{sz n1 A}{O D R}{xs ys}(C:O.size=n1*sz)(F:D.size=A*sz)(G:xs.length=n1)(J:ys.length=A)
  (hx:dA M0 S sz O xs) (E:dA M0 S sz D ys):dA M0 S sz (O++D++R) (xs++ys):=by
 intro i x hi;have o:∀k,k<O.size->(O++D++R).getD k undef=O.getD k undef:=by
  intro k q;simp[ji,OA,q]
 have a:∀k,k<D.size->(O++D++R).getD (O.size+k) undef=D.getD k undef:=by
  intro k q;simp[ji,OA,q,show ¬(O.size+k<O.size) by omega]
 rcases cx i xs.length with h|h
 .rw[bp h]at hi;obtain⟨cs,y,v,u⟩:=hx i x hi;refine⟨cs,y,v,λj c l=>?_⟩;have z:=(aB.1 l).1;rw[o _ (by rw[C];exact im (by omega) (by omega))];exact u j c l
 .rw[cG h]at hi;obtain⟨cs,y,v,u⟩:=E _ x hi;refine⟨cs,y,v,λj c l=>?_⟩;have z:=(aB.1 l).1;have I:=(aB.1 hi).1;have e:i*sz+j=O.size+((i-xs.length)*sz+j):=by
   rw[C,<-G,<-gW,<-dK,show xs.length+(i-xs.length)=i by omega]
  rw[e,a _ (by rw[F];exact im (by omega) (by omega))];exact u j c l
theorem kr{T U e}{ty}{sz bytes}{base}{len cap n}{y}{O D}(S:P.underlying T=some (.slice e))(v:(∃f,P.underlying U=some (.slice f))\/P.underlying U=some .string)
  (E:bL P e=some sz) (l:np P e=some bytes) (N:bytes<=256) (K:lm P e sz=true) (J:len+n<=ao) (F:cap<len+n) (w)
  (q:(Builtin.lenOf y).run P w=.ok n w) (V:(Builtin.firstCells sz len (.slice base len cap)).run P w.drew=.ok O w.drew) (X:(Builtin.firstCells sz n y).run P w.drew=.ok D w.drew) :
  ∃(a:Nat) (R:Array Value),len+n<=a/\R.size=(a-(len+n))*sz /\
   (Builtin.append_ #[T,U] ty #[.slice base len cap,y]).run P w=.ok (.slice (some ⟨w.heap.size,0,none⟩) (len+n) a) (w.drew.alloc (.cells (O++D++R) e)):=by
 obtain⟨i,hi,G⟩:=sW l w;obtain⟨z,C,A⟩:=uR K w.drew;have I:(typeInfo e).run P w.drew=.ok i w.drew:=by
  obtain⟨Z,Y,_⟩:=sW l w.drew;have:∃j,P.info? e=some j:=by
   unfold np at l
   cases L:P.info? e with
   |none=>simp[L]at l
   |some j=>exact⟨j,rfl⟩
  obtain⟨j,M⟩:=this;simp[typeInfo,M]at hi |-;exact hi
 refine⟨(Question.appendCap (len+n) cap e).cut (w.tape w.drawn (.appendCap (len+n) cap e)),Builtin.zeroCells z.cells ((Question.appendCap (len+n) cap e).cut (w.tape w.drawn (.appendCap (len+n) cap e))-(len+n)),?_,?_,?_⟩
 .simp[Question.cut]
 .simp[Builtin.zeroCells,A]
 .have o:¬(((len+n:Nat):Int) > IntKind.i64.max):=by
   have:IntKind.i64.max=9223372036854775807:=by decide
   rw[this];unfold ao at J;omega
  have u:=NH (old:=cap) (bytes:=bytes) (Nat.le_of_lt F) J N;rcases v with⟨_,v⟩|v
  all_goals
   unfold Builtin.append_;simp only[CY,zJ,CZ,Sem.run_bind,run_underlying S,run_underlying v,be E,aS,Sem.run_pure];simp only[eG,if_false,Sem.run_bind,q,aS];rw[if_neg (by omega)];simp only[hi,aS,Sem.run_bind];rw[if_neg (by intro h;exact o h.1)];simp only[Sem.run_bind,hi,aS,G];rw[if_neg u];simp only[Sem.run_bind,run_choose,Question.forced,eG,if_false,aS,World.drew_eq,I,run_askRoom,V];simp[newRow,X,C]
theorem mL{T U e}{ty}{sz}{b len cap n}{y}{C D}{z}(E:P.underlying T=some (.slice e))(l:(∃f,P.underlying U=some (.slice f))\/P.underlying U=some .string)
  (o:bL P e=some sz) (u:len+n<=cap) (w) (i:(Builtin.lenOf y).run P w=.ok n w) (F:(Builtin.firstCells sz n y).run P w=.ok D w)
  (A:w.heap[b]?=some (.cells C z (0,0))) (j:len*sz+D.size<=C.size) (a:∀v∈D.toList,v.oneCell'=true) :
  (Builtin.append_ #[T,U] ty #[.slice (some ⟨b,0,none⟩) len cap,y]).run P w=.ok (.slice (some ⟨b,0,none⟩) (len+n) cap) (w.setRow b (jH C (len*sz) D.toList)):=by
 have q:=iO (P:=P) b z D.toList (len*sz) 0 C w A (by simpa using j) a;rcases l with⟨_,l⟩|l
 all_goals
  unfold Builtin.append_;simp only[CY,zJ,CZ,Sem.run_bind,run_underlying E,run_underlying l,be o,aS,Sem.run_pure];simp only[eG,if_false,Sem.run_bind,i,aS];rw[if_pos u];simp only[wR,if_true,Sem.run_bind,F,aS,ei,gV,q,Sem.run_pure,jK]
theorem li{T U e}{ty}{sz}{y}{D}(l:P.underlying T=some (.slice e))(i:(∃f,P.underlying U=some (.slice f))\/P.underlying U=some .string)
  (j:bL P e=some sz) (w) (a:(Builtin.lenOf y).run P w=.ok 0 w) (o:(Builtin.firstCells sz 0 y).run P w=.ok D w) :
  (Builtin.append_ #[T,U] ty #[.slice none 0 0,y]).run P w=.ok (.slice none 0 0) w:=by
 rcases i with⟨_,i⟩|i
 all_goals
  unfold Builtin.append_;simp only[CY,zJ,CZ,Sem.run_bind,run_underlying l,run_underlying i,be j,aS,Sem.run_pure];simp only[eG,if_false,Sem.run_bind,a,aS];rw[if_pos (by omega)];simp only[wR,if_true,Sem.run_bind,o,aS,Sem.run_pure,jK]
theorem oZ{sz n}{D}{ys}(u:ys.length=n)(E:D.size=n*sz)(h:dA M0 S sz D ys):∀v∈D.toList,v.oneCell'=true:=by
 intro v q;obtain⟨k,o⟩:=eF q;have i:k<n*sz:=by
  have:=(aB.1 o).1;simp at this;omega
 have a:0<sz:=by
  rcases pu sz with l|l
  .subst l;simp at i
  .exact l
 have hi:k / sz<ys.length:=by rw[u];exact(Nat.div_lt_iff_lt_mul a).2 i
 obtain⟨cs,F,C,A⟩:=h (k / sz) ys[k / sz] (by simp[hi]);have y:k%sz<cs.length:=by rw[C];exact vr _ a
 obtain⟨z,j⟩:=A (k%sz) cs[k%sz] (by simp[y]);have e:k / sz*sz+k%sz=k:=by rw[CE];exact Nat.div_add_mod k sz
 rw[e]at j;have:D.getD k undef=v:=by rw[<-gm,cr,o];rfl
 rw[this]at j;exact mP z j
theorem je{α:Type}{l:List α}{i}{x}(h:l[i]?=some x):l.set i x=l:=by
 apply mD;intro k;rw[HT];split
 .rename_i a;subst a;split
  .exact h.symm
  .rename_i e;have:=(aB.1 h).1;omega
 .rfl
theorem xy{Q:Sem (Array Value)}{D}(h:∀w,w.heap=S.w.heap->Q.run P w=.ok D w):Q.run P S.w.drew=.ok D S.w.drew:=h _ rfl
theorem tC{C D}{xs ys}{p sz}(v:dA M0 S sz C xs)(K:xs.length*sz<=C.size)(J:D.size=ys.length*sz)(y:dA M0 S sz D ys)(I:p+ys.length<=xs.length) :
  dA M0 S sz (jH C (p*sz) D.toList) (xs.take p++ys++xs.drop (p+ys.length)):=by
 have F:D.toList.length=ys.length*sz:=by simpa using J
 have a:p*sz+D.toList.length<=C.size:=by
  rw[F,<-dK];exact iI (fU sz I) K
 have E:(xs.take p).length=p:=by simp;omega
 intro i z hi;rw[dJ]at hi;rcases cx i p with h|h
 .rw[bp (by omega),kB,if_pos h]at hi;obtain⟨cs,q,o,l⟩:=v i z hi;refine⟨cs,q,o,λj c e=>?_⟩;have u:=(aB.1 e).1;have:=im (i:=i) (n:=p) (sz:=sz) (j:=j) h (by omega);rw[ip _ _ _ _ a,if_neg (by omega)];exact l j c e
 .rw[cG (by omega),E]at hi;rcases cx (i-p) ys.length with A|A
  .rw[bp A]at hi;obtain⟨cs,q,o,l⟩:=y _ z hi;refine⟨cs,q,o,λj c e=>?_⟩;have u:=(aB.1 e).1;have G:i*sz=p*sz+(i-p)*sz:=by rw[<-dK];congr 1;omega
   have:=im (i:=i-p) (n:=ys.length) (sz:=sz) (j:=j) A (by omega);rw[ip _ _ _ _ a,if_pos (by omega),gm,show i*sz+j-p*sz=(i-p)*sz+j by omega];exact l j c e
  .rw[cG A,qc,show p+ys.length+(i-p-ys.length)=i by omega]at hi;obtain⟨cs,q,o,l⟩:=v i z hi;refine⟨cs,q,o,λj c e=>?_⟩;have u:=(aB.1 e).1;have G:(p+ys.length)*sz<=i*sz:=fU sz (by omega);rw[dK]at G;rw[ip _ _ _ _ a,if_neg (by omega)];exact l j c e
theorem B5(X:HOk P M0 S){T U}{ty}{x y}{v u}(hx:Rep M0 S v x)(hy:Rep M0 S u y):aF P M0 S (Builtin.append_ #[T,U] ty #[v,u]) (km P T U x y S.h):=by
 unfold km;split
 .rename_i e he;split
  .exact trivial
  .rename_i hU;have V:=bW he;have G:(∃f,P.underlying U=some (.slice f))\/P.underlying U=some .string:=by
    cases hq:aP P U with
    |some f=>exact .inl ⟨f,bW hq⟩
    |none=>
     refine .inr (fk ?_);simpa[hq]using hU
   split
   .rename_i sz bytes M c4;split
    .rename_i ys d0;obtain⟨D,E,hD,F,J⟩:=lv (P:=P) X hy d0;split
     .rename_i hc;obtain⟨d8,hb,hz⟩:=hc;split
      .
       split
       .rename_i b4;have h':RepP (Avoid M0 S.m) S.w v .nilslice:=hx;cases h';split
        .rename_i h0;subst h0;exact aF.pure X (li V G M S.w E (hD _ rfl)) (aC .nilslice)
        .rename_i h0;have c8:0<ys.length:=xS.2 h0;obtain⟨nc,R,c6,hR,A⟩:=kr (ty:=ty) (base:=none) (len:=0) (cap:=0) (O:=#[]) V G M c4 hb hz (by omega) (by omega) S.w E rfl (xy hD);have a5:=HOk.drew X;have ed:=Ev.drew S.h.length S;have a8:dA M0 S.drew sz (#[]++D++R) ys:=by
          have:=uS (M0:=M0) (S:=S.drew) (R:=R) (n1:=0) (O:=#[]) (xs:=[]) (by simp) F rfl rfl (λi x hx=>by simp at hx) (J.keep ed);simpa using this
         have q:(#[]++D++R).size=nc*sz:=by
          simp[F,hR];rw[<-dK]
          congr 1
          omega
         have en:=Ev.new S.drew.h.length M0 a5 (ba _) (.row sz ys) (.cells (#[]++D++R) e);refine⟨S.drew.new (.row sz ys) (.cells (#[]++D++R) e),_,rfl,by simpa[Mem.new,Mem.drew]using A,ed.trans en,HOk.new a5 (.inr ⟨_,e,_,rfl,bw _ _,?_,a8.keep en⟩),⟨_,_,_,rfl⟩,.inr ⟨sz,ys,by simp[Mem.new,Mem.drew],by omega,λ_=>.inr (.inl ⟨S.w.heap.size,nc,e,nc*sz,?_,by simp,⟨by omega,by omega⟩,?_,by simp,by omega⟩)⟩⟩
         .rw[q];exact fU sz (by omega)
         .have:=X.len;show (S.m++[some S.w.heap.size]).getD S.h.length none=_;rw[<-this];simp
         .show (S.w.drew.alloc _).shape? S.w.drew.heap.size=_;unfold World.shape?;rw[bw];simp only[q]
       .exact trivial
      .
       rename_i l xs;split
       .rename_i c3;obtain⟨rfl,b4⟩:=c3;obtain⟨O,d2,hO,a7,b3⟩:=lv (P:=P) (ys:=xs.map .p) (sz:=l) X hx (by simp[gj]);have h':RepP (Avoid M0 S.m) S.w v (.slice l xs true):=hx;have hv:∃base,v=.slice base xs.length xs.length:=by
         cases h' with
         |slice f hl Z a6=>have:=a6 rfl;subst hl;subst this;exact⟨_,rfl⟩
         |empty a6=>have:=a6 rfl;subst this;exact⟨_,rfl⟩
        obtain⟨base,rfl⟩:=hv;split
        .rename_i h0;subst h0;refine aF.pure X (v':=.slice base xs.length xs.length) ?_ hx;rcases G with⟨_,G⟩|G
         all_goals
          unfold Builtin.append_;simp only[CY,zJ,CZ,Sem.run_bind,run_underlying V,run_underlying G,be M,aS,Sem.run_pure];simp only[eG,if_false,Sem.run_bind,E,aS,dL,jK];rw[if_pos (ba _)];have d7:D=#[]:=C8.1 (by simpa using F);subst d7;have:=hD S.w rfl;simp only[dL]at this;simp only[wR,if_true,Sem.run_bind,this,aS]
          cases base with
          |none=>rfl
          |some a=>rfl
        .rename_i h0;have c8:0<ys.length:=xS.2 h0;have a9:=hO S.w.drew rfl;simp only[dp]at a9 a7;obtain⟨nc,R,c6,hR,A⟩:=kr (ty:=ty) (base:=base) (len:=xs.length) (cap:=xs.length) V G M c4 hb hz (by omega) (by omega) S.w E a9 (xy hD);have a5:=HOk.drew X;have ed:=Ev.drew S.h.length S;have a8:dA M0 S.drew l (O++D++R) (xs.map .p++ys):=uS (R:=R) a7 F (by simp) rfl (b3.keep ed) (J.keep ed);have q:(O++D++R).size=nc*l:=by
          simp[F,hR,a7];rw[<-dK,<-dK]
          congr 1
          omega
         have b5:(xs.map AV.p++ys).length=xs.length+ys.length:=by simp
         have en:=Ev.new S.drew.h.length M0 a5 (ba _) (.row l (xs.map AV.p++ys)) (.cells (O++D++R) e);refine⟨S.drew.new (.row l (xs.map AV.p++ys)) (.cells (O++D++R) e),_,rfl,A,ed.trans en,HOk.new a5 (.inr ⟨_,e,_,rfl,bw _ _,?_,a8.keep en⟩),⟨_,_,_,rfl⟩,.inr ⟨l,_,by simp[Mem.new,Mem.drew];rfl,by omega,λ_=>.inr (.inl ⟨S.w.heap.size,nc,e,nc*l,?_,by simp,⟨by omega,by omega⟩,?_,by simp,by omega⟩)⟩⟩
         .rw[q,b5];exact fU l (by omega)
         .have:=X.len;show (S.m++[some S.w.heap.size]).getD S.h.length none=_;rw[<-this];simp
         .show (S.w.drew.alloc _).shape? S.w.drew.heap.size=_;unfold World.shape?;rw[bw];simp only[q]
       .exact trivial
      .
       rename_i id e2 off len;split
       .rename_i l xs o;split
        .rename_i c3;obtain⟨rfl,hv,rfl,rfl,b4⟩:=c3;obtain⟨O,d2,hO,a7,b3⟩:=lv (P:=P) (ys:=xs) (sz:=l) X hx (by simp[gj,o,hv,sub,fC (CG hv)]);have b5:(xs++ys).length=xs.length+ys.length:=by simp
         have b9:∀(base:Option Addr) (cap:Nat),v=.slice base len cap->cap<len+ys.length ->
           aF P M0 S (Builtin.append_ #[T,U] ty #[v,u]) (.val (.slice id (xs.length+ys.length) 0 (xs.length+ys.length)) (S.h.set id (.row l (xs++ys)))):=by
          intro base cap d1 c2;subst d1;have Z:len<=cap:=by
           rcases cm hx.2 o hv with⟨h1,_⟩|⟨b,e0,T',n,hm,h2,Z,_⟩|⟨_,h2,_⟩
           .omega
           .cases h2;exact Z.1
           .cases h2;omega
          have a9:=hO S.w.drew rfl;rw[hv]at a9;obtain⟨nc,R,c6,hR,A⟩:=kr (ty:=ty) (base:=base) (len:=len) (cap:=cap) V G M c4 hb hz (by omega) c2 S.w E a9 (xy hD);have a5:=HOk.drew X;have ed:=Ev.drew S.h.length S;have a8:dA M0 S.drew l (O++D++R) (xs++ys):=uS (R:=R) a7 F rfl rfl (b3.keep ed) (J.keep ed);have q:(O++D++R).size=nc*l:=by
           simp[F,hR,a7];rw[<-dK,<-dK]
           congr 1
           omega
          have a0:xs.length<(xs++ys).length:=by omega
          have en:=Ev.regrow S.drew.h.length (S:=S.drew) (ob:=.cells (O++D++R) e) o a0
          refine⟨S.drew.regrow id (.row l (xs++ys)) (.cells (O++D++R) e),_,rfl,A,ed.trans en,HOk.regrow a5 o a0 (by rw[q,b5];exact fU l (by omega)) a8,⟨_,_,_,rfl⟩,
           .inr ⟨l,_,by simp[Mem.regrow,Mem.drew,(aB.1 o).1];rfl,by omega,λ_=>.inr (.inl ⟨S.w.heap.size,nc,e,nc*l,?_,by simp[hv],⟨by omega,by omega⟩,?_,by simp,by omega⟩)⟩⟩
          .have:=X.len;have d9:=(aB.1 o).1;show (S.m.set id (some S.w.heap.size)).getD id none=_;rw[cr,fZ (by omega)];rfl
          .show (S.w.drew.alloc _).shape? S.w.drew.heap.size=_;unfold World.shape?;rw[bw];simp only[q]
         rcases cm hx.2 o hv with⟨h1,h2,_⟩|⟨b,cap,T',n,hm,rfl,Z,a4,Y,b7⟩|⟨b6,rfl,h0⟩
         .omega
         .rcases cx cap (len+ys.length) with c2|d5
          .exact b9 _ cap rfl c2
          .obtain⟨C,T2,L,I,b2⟩:=fj X o hm;have b8:n=C.size:=by
            unfold World.shape? at a4;rw[L]at a4;simp at a4;exact a4.2.symm
           have K:len*l+D.size<=C.size:=by
            rw[F,<-dK];refine iI (fU l ?_) (b8▸Y);omega
           have b1:=oZ rfl F J;have A:=mL (ty:=ty) (cap:=cap) V G M d5 S.w E (hD _ rfl) L K b1;have N:(jH C (len*l) D.toList).size=C.size:=ic _ _ _;have en:=Ev.set S.h.length o hm L N (xs':=xs++ys) (by omega);have e4:D.toList.length=ys.length*l:=by simpa using F
           refine⟨S.set id (.row l (xs++ys)) b (jH C (len*l) D.toList),.slice (some ⟨b,0,none⟩) (len+ys.length) cap,rfl,?_,en,HOk.set X o hm L N (by omega) ?_ ?_,⟨_,_,_,rfl⟩,
            .inr ⟨l,_,by simp[Mem.set,(aB.1 o).1];rfl,by omega,λ_=>.inr (.inl ⟨b,cap,T',n,hm,by simp[hv],⟨by omega,by omega⟩,?_,by simpa using Y,by omega⟩)⟩⟩
           .simpa[Mem.set]using A
           .rw[N,b5,<-b8];refine iI (fU l ?_) Y;omega
           .intro i z hi;rcases cx i xs.length with h|h
            .rw[bp h]at hi;obtain⟨cs,a1,a2,a3⟩:=b2 i z hi;refine⟨cs,a1,a2,λj c hc=>?_⟩;have d3:=(aB.1 hc).1;have:=im (i:=i) (n:=len) (sz:=l) (j:=j) (by omega) (by omega);rw[ip _ _ _ _ (by simpa using K),if_neg (by omega)];exact a3 j c hc
            .rw[cG h]at hi;obtain⟨cs,a1,a2,a3⟩:=J _ z hi;refine⟨cs,a1,a2,λj c hc=>?_⟩;have d3:=(aB.1 hc).1;have d4:=(aB.1 hi).1;have e1:i*l=len*l+(i-xs.length)*l:=by rw[<-dK];congr 1;omega
             have:=im (i:=i-xs.length) (n:=ys.length) (sz:=l) (j:=j) d4 (by omega);rw[ip _ _ _ _ (by simpa using K),if_pos (by omega),gm,show i*l+j-len*l=(i-xs.length)*l+j by omega];exact a3 j c hc
           .exact(qk _ _ _ _ _ _ L N b).trans a4
         .rcases pu ys.length with c5|c5
          .have b0:ys=[]:=sK.1 c5;subst b0;refine⟨S,.slice none 0 0,?_,li V G M S.w E (hD _ rfl),Ev.refl _ _,X,⟨_,_,_,rfl⟩,.inr ⟨l,xs,o,by simp,λ_=>.inr (.inr ⟨b6,rfl,by rw[dL];omega⟩)⟩⟩;simp only[bt];exact(je o).symm
          .exact b9 none 0 (by rw[h0]) (by omega)
        .split
         .rename_i d6;obtain⟨rfl,hv,rfl,e3⟩:=d6;have c9:(xs.take len++ys++xs.drop (len+ys.length)).length=xs.length:=by simp;omega
          rcases cm hx.2 o hv with⟨h1,h2,h3,_⟩|⟨b,cap,T',n,hm,rfl,Z,a4,Y,b7⟩|⟨b6,rfl,h0⟩
          .omega
          .obtain⟨C,T2,L,I,b2⟩:=fj X o hm;have K:len*l+D.size<=C.size:=by
            rw[F,<-dK];exact iI (fU l (by omega)) I
           have b1:=oZ rfl F J;have A:=mL (ty:=ty) (cap:=cap) V G M (by omega) S.w E (hD _ rfl) (by simpa using L) K b1;have N:(jH C (len*l) D.toList).size=C.size:=ic _ _ _;have en:=Ev.set S.h.length o hm L N (xs':=xs.take len++ys++xs.drop (len+ys.length)) (by omega)
           refine⟨S.set id (.row l (xs.take len++ys++xs.drop (len+ys.length))) b (jH C (len*l) D.toList),.slice (some ⟨b,0,none⟩) (len+ys.length) cap,rfl,?_,en,HOk.set X o hm L N (by omega) (by rw[N,c9];exact I) (tC b2 I F J (by omega)),⟨_,_,_,rfl⟩,
            .inr ⟨l,xs.take len++ys++xs.drop (len+ys.length),by show (S.h.set id _)[id]?=_;rw[fZ (aB.1 o).1],by omega,λ_=>.inr (.inl ⟨b,cap,T',n,hm,by simp,⟨by omega,by omega⟩,?_,by simpa using Y,by omega⟩)⟩⟩
           .simpa[Mem.set]using A
           .exact(qk _ _ _ _ _ _ L N b).trans a4
          .have c7:=X.obj id _ o;rw[b6]at c7;rcases c7 with⟨_,rfl⟩|⟨b,_,_,h,_⟩
           .have b0:ys=[]:=sK.1 (by simp at hv;omega);subst b0;refine⟨S,.slice none 0 0,?_,li V G M S.w E (hD _ rfl),Ev.refl _ _,X,⟨_,_,_,rfl⟩,.inr ⟨l,[],o,by simp at hv |-;omega,λ_=>.inr (.inr ⟨b6,rfl,by simp at hv |-;omega⟩)⟩⟩;simp only[bt,List.take_nil,List.drop_nil];exact(je o).symm
           .cases h
         .exact trivial
       .exact trivial
      .exact trivial
     .exact trivial
    .exact trivial
   .exact trivial
 .exact trivial
theorem cl{i:Int}(a:0<=i)(h:i<=ao):IntKind.i64.wrap i=i:=by
 unfold ao at h;exact IntWalk.i64_in _ ⟨by omega,by omega⟩
theorem D1(L:HOk P M0 S){T}{l c}{vl vc}(hl:Rep M0 S vl l)(hc:Rep M0 S vc c):aF P M0 S (Instr.makeSlice T vl vc) (pU P T l c S.h):=by
 unfold pU;split
 .rename_i e l c he;have:=hL hl;subst this;have:=hL hc;subst this;split
  .rename_i sz bytes z Y a1 hz;split
   .rename_i A;obtain⟨a3,hb,R,U,h0,E,a⟩:=A;obtain⟨i,hi,Z⟩:=sW a1 S.w;obtain⟨D,N,O⟩:=iJ hz S.w;have hu:=bW he;obtain⟨zs,q⟩:=fp.1 U;have I:Rep M0 S D (.p z):=fB O;obtain⟨u,F⟩:=iP I q;have o:zs.length=sz:=by
     cases z with
     |tuple l=>simp[AV.cells]at q
     |_=>(simp[AV.cells]at q;subst q;simpa using R)
    have V:=cl h0 (zQ E a);have X:=cl (zQ h0 E) a;have a4:(bytes:Int)*c<=2^48:=by
     have h1:(bytes:Int)*c<=256*ao:=zO (by omega) a (by omega) (by omega);have h2:(256:Int)*(ao:Nat)<=2^48:=by decide
     omega
    generalize M:((Array.range (c.toNat*sz)).map (D.cells[·%D.cells.size]!):Array Value)=C;have a2:C.size=c.toNat*sz:=by rw[<-M];simp
    have G:(Instr.makeSlice T (.int .i64 l) (.int .i64 c)).run P S.w=.ok (.slice (some ⟨S.w.heap.size,0,none⟩) l.toNat c.toNat) (S.w.alloc (.cells C e)):=by
     unfold Instr.makeSlice;simp only[Sem.run_bind,run_underlying hu,aS,asInt,asIntOf,Sem.run_pure,hi,Z,V,X];rw[if_neg (by simp;omega)];simp only[Sem.run_bind,run_askRoom,aS,be Y];by_cases K:c.toNat*sz=0
     .rw[if_pos K];have:C=#[]:=C8.1 (by omega);subst this;have hr:∀f:Nat->Value,(Array.range 0).map f=#[]:=λf=>C8.1 (by simp);simp only[Sem.run_bind,Sem.run_pure,aS,newRow,run_newObj,K,hr,World.alloc_eq]
     .rw[if_neg K];simp only[Sem.run_bind,N,aS,Sem.run_pure,newRow,run_newObj,M,World.alloc_eq]
    have J:∀k,k<c.toNat*sz->C.getD k undef=D.cells.getD (k%sz) undef:=by
     intro k hk;rw[<-M];have hm:k%sz<D.cells.size:=by rw[u,o];exact vr _ (by omega)
     simp[hk,u,o];rw[getElem!_pos _ _ (by simpa[u,o]using vr k (by omega:0<sz))];simp[show k%sz<D.cells.size from hm]
    have v:l.toNat<=c.toNat:=by omega
    have a0:dA M0 S sz C (List.replicate l.toNat (.p z)):=by
     intro i x hx;have y:=(aB.1 hx).1;rw[List.length_replicate]at y;rw[Mj,if_pos y]at hx;cases hx;refine⟨zs,q,o,λj c' hj=>?_⟩;have a5:=(aB.1 hj).1;rw[J _ (gk (im y (by omega)) (fU sz v)),show (i*sz+j)%sz=j by rw[Nat.add_comm,Nat.add_mul_mod_self_right];exact H1 (by omega)];exact F j c' hj
    have en:=Ev.new S.h.length M0 L (ba _) (.row sz (List.replicate l.toNat (.p z))) (.cells C e);refine⟨S.new (.row sz (List.replicate l.toNat (.p z))) (.cells C e),_,rfl,G,en,HOk.new L (.inr ⟨_,e,C,rfl,bw _ _,?_,a0.keep en⟩),⟨_,_,_,rfl⟩,.inr ⟨sz,_,by simp[Mem.new];rfl,by simp,λ_=>.inr (.inl ⟨S.w.heap.size,c.toNat,e,C.size,?_,by simp,⟨v,by omega⟩,?_,by simp;omega,by simp;omega⟩)⟩⟩
    .simp;rw[a2];exact fU sz v
    .have:=L.len;show (S.m++[some S.w.heap.size]).getD S.h.length none=_;rw[<-this];simp
    .show (S.w.alloc (.cells C e)).shape? S.w.heap.size=_;unfold World.shape?;rw[bw]
   .exact trivial
  .exact trivial
 .exact trivial
end Abs
end Go.Proofs.YtmndpldajflenaaGreatDoor
