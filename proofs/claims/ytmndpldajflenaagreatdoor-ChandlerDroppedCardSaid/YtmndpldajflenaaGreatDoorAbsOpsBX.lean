/- CONTRACTS of the program's functions, and laws on what they return. No conditions but those in the theorems' heads. -/
import Derived.Test.YtmndpldajflenaaGreatDoorAbsMemX
set_option linter.all false
namespace Go.Proofs.YtmndpldajflenaaGreatDoor
namespace Abs
variable {P:Program} {M0:Nat->Prop} {S:Mem}
theorem R7(q:HOk P M0 S){T}{x}{v}{ty}(hx:Rep M0 S v x):aF P M0 S (Builtin.len_ #[T] ty #[v]) (vg P T x S.h):=by
 unfold vg;split
 .rename_i s;split
  .rename_i j;have h':RepP (Avoid M0 S.m) S.w v (.str s):=hx;cases h';refine aF.pure q (v':=.int .i64 s.size) ?_ (aC (.int _ _));simp[Builtin.len_,run_underlying (fk j),goInt]
  .exact trivial
 .rename_i sz xs full;split
  .rename_i j;obtain⟨e,l⟩:=fp.1 j;have h':RepP (Avoid M0 S.m) S.w v (.slice sz xs full):=hx;refine aF.pure q (v':=.int .i64 xs.length) ?_ (aC (.int _ _))
   cases h' with
   |slice f y=>subst y;simp[Builtin.len_,run_underlying (bW l),goInt]
   |empty=>simp[Builtin.len_,run_underlying (bW l),goInt]
  .exact trivial
 .split
  .rename_i j;obtain⟨e,l⟩:=fp.1 j;have h':RepP (Avoid M0 S.m) S.w v .nilslice:=hx;cases h';refine aF.pure q (v':=.int .i64 0) ?_ (aC (.int _ _));simp[Builtin.len_,run_underlying (bW l),goInt]
  .exact trivial
 .rename_i id u off len;split
  .rename_i j;obtain⟨e,l⟩:=fp.1 j.1;obtain⟨sz,D⟩:=fp.1 j.2;obtain⟨xs,z,A⟩:=il D;refine aF.pure q (v':=.int .i64 len) ?_ (aC (.int _ _))
   rcases cm hx.2 z A with⟨rfl,_,_,a,cap,rfl⟩|⟨b,cap,F,n,E,rfl,_⟩|⟨_,rfl,rfl⟩ <;>
    simp[Builtin.len_,run_underlying (bW l),goInt]
  .exact trivial
 .split
  .rename_i n e l;obtain⟨C,rfl⟩:=AQ hx (.inl ⟨_,rfl⟩);refine aF.pure q (v':=.int .i64 n) ?_ (aC (.int _ _));simp[Builtin.len_,run_underlying (kh l),goInt]
  .exact trivial
 .rename_i id u i o n;split
  .rename_i j;obtain⟨e,l⟩:=fp.1 j.1;refine aF.pure q (v':=.int .i64 n) ?_ (aC (.int _ _));obtain⟨⟨a,c,rfl⟩,_⟩:=(show bB M0 S v (.arr id u i o n) from hx)
   simp[Builtin.len_,run_underlying (bW l),goInt]
  .exact trivial
 .exact trivial
theorem Bo(l:HOk P M0 S){T}{x}{v}{cs}(hx:Rep M0 S v x)(u:x.cells=some cs) :
  aF P M0 S (do pure (.pointer (some (<-newVar T v)))) (.val (.ptr S.h.length 1 0 0) (S.h++[.row cs.length [x]])):=by
 obtain⟨z,o⟩:=iP hx u;have e:=Ev.new S.h.length M0 l (ba _) (.row cs.length [x]) (.cells v.cells T);have hok:ObjOk P M0 (S.new (.row cs.length [x]) (.cells v.cells T)) (some S.w.heap.size) (.row cs.length [x]):=by
  refine .inr ⟨S.w.heap.size,T,v.cells,rfl,bw _ _,by simp[z],λi y a=>?_⟩
  cases i with
  |zero=>
   simp at a;subst a
   exact⟨cs,u,rfl,λj c q=>⟨(o j c q).1,by simpa using e.keepS (o j c q).2⟩⟩
  |succ i=>simp at a
 refine⟨S.new (.row cs.length [x]) (.cells v.cells T),.pointer (some ⟨S.w.heap.size,0,none⟩),rfl,?_,e,HOk.new l hok,⟨_,rfl⟩,.inr ⟨cs.length,[x],?_,by simp,λ_=>⟨S.w.heap.size,?_,by simp⟩⟩⟩
 .simp[newVar,newRow,Mem.new]
 .simp[Mem.new]
 .have:=l.len;show (S.m++[some S.w.heap.size]).getD S.h.length none=_;rw[<-this];simp
theorem iJ{T}{z}(h:aw P T=some z)(w):∃v,(zeroValue T).run P w=.ok v w/\mB v=some z:=by
 unfold aw at h
 cases hi:P.info? T with
 |none=>simp[hi]at h
 |some i=>
  cases a:i.zero with
  |none=>simp[hi,a]at h
  |some v=>
   simp[hi,a]at h;exact⟨v,by simp[zeroValue,typeInfo,hi,a],h⟩
theorem tZ{M}{w}{v}{q}(h:o0 v=some q):RepP M w v q/\q.isCell=true:=by
 unfold o0 at h;split at h<;>try (first|(cases h;done)|(cases h;first|exact⟨.bool _,rfl⟩|exact⟨.int _ _,rfl⟩|exact⟨.str _,rfl⟩|exact⟨.nilptr,rfl⟩|exact⟨.nilslice,rfl⟩|exact⟨.nilfunc,rfl⟩|exact⟨.niliface,rfl⟩|exact⟨.anyMap,rfl⟩))
 .split at h
  .rename_i first cap a
   cases h;exact⟨.func (by simp[a.1]) (by simp[a.2]) (λi c hi=>by simp at hi) (λi c hi=>by simp at hi),rfl⟩
  .cases h
theorem nT{M}{w}:∀{l} {a},ly l=some a->l.length=a.length/\(∀c,c∈a->c.isCell=true)/\∀(i) (c),a[i]?=some c->RepP M w (l.getD i undef) c
 |[],a,h=>by simp[ly]at h;subst h;exact⟨rfl,λc e=>by simp at e,λi c hi=>by simp at hi⟩
 |v::r,a,h=>by
  simp only[ly]at h;split at h
  .rename_i x l hx j;cases h;obtain⟨z,y,u⟩:=nT (M:=M) (w:=w) j;obtain⟨q,o⟩:=tZ (M:=M) (w:=w) hx;refine⟨by simp[z],λc e=>?_,λi c hi=>?_⟩
   .rcases ce.1 e with rfl|e
    .exact o
    .exact y c e
   .cases i with
    |zero=>simp at hi;subst hi;simpa using q
    |succ i=>simpa using u i c (by simpa using hi)
  .cases h
theorem fB{M}{w}{v}{q}(h:mB v=some q):RepP M w v q:=by
 unfold mB at h;split at h
 .split at h
  .rename_i cs l a;cases h;obtain⟨j,o,e⟩:=nT (M:=M) (w:=w) a;exact .agg (by simpa using j) o λi c hi=>by rw[<-gm];exact e i c hi
  .cases h
 .split at h
  .rename_i cs l a;cases h;obtain⟨j,o,e⟩:=nT (M:=M) (w:=w) a;exact .tuple (by simpa using j) λi c hi=>by rw[<-gm];exact e i c hi
  .cases h
 .exact(tZ h).1
theorem Oc(A:HOk P M0 S){T}{z}(q:aw P T=some z)(y:(AV.p z).cells.isSome=true) :
  aF P M0 S (Instr.alloc T true (.tuple #[])) (.val (.ptr S.h.length 1 0 0) (S.h++[.row z.cells.length [.p z]])):=by
 obtain⟨v,u,j⟩:=iJ q S.w;obtain⟨cs,a⟩:=fp.1 y;have e:Rep M0 S v (.p z):=fB j;have i:cs.length=z.cells.length:=by
  cases z with
  |tuple l=>simp[AV.cells]at a
  |_=>(simp[AV.cells]at a;subst a;simp)
 obtain⟨E,v',D,o,C⟩:=Bo (P:=P) A (T:=T) e a;refine⟨E,v',by rw[D,i],?_,C⟩;simp only[Sem.run_bind]at o;unfold Instr.alloc;simp only[Sem.run_bind,u,aS];exact o
theorem GC(q:HOk P M0 S){T e}(D:aw P T=some (.agg [.nilptr,.nilslice])) :
  aF P M0 S (Instr.alloc T true (.tuple #[])) (.val (.ref .bl S.h.length) (S.h++[.bld T e (.p .nilslice)])):=by
 obtain⟨v,E,z⟩:=iJ D S.w;have o:RepP (Avoid M0 S.m) S.w v (.agg [.nilptr,.nilslice]):=fB z;obtain⟨C,rfl,G⟩:∃C,v=.agg C/\C=#[.pointer none,.slice none 0 0]:=by
  cases o with
  |agg F K A=>
   rename_i C;refine⟨C,rfl,?_⟩;have l:=A 0 _ rfl;have j:=A 1 _ rfl;have u:C.size=2:=F;rw[ji]at l j;have J:C[0]?=some C[0]:=by simp
   have I:C[1]?=some C[1]:=by simp
   rw[J]at l;rw[I]at j;simp only[fT]at l j;apply qg
   .simpa using u
   .intro i hi y
    match i,hi,y with
    |0,_,_=>generalize C[0]=x at l;cases l;rfl
    |1,_,_=>generalize C[1]=x at j;cases j;rfl
 subst G
 have hok:ObjOk P M0 (S.new (.bld T e (.p .nilslice)) (.cells #[.pointer none,.slice none 0 0] T (0,0))) (some S.w.heap.size) (.bld T e (.p .nilslice)):=
  ⟨_,_,_,rfl,bw _ _,.inl rfl,.inl rfl,RepP.nilslice,λa n c h=>by cases h⟩
 refine⟨S.new (.bld T e (.p .nilslice)) (.cells #[.pointer none,.slice none 0 0] T (0,0)),.pointer (some ⟨S.w.heap.size,0,none⟩),rfl,?_,Ev.new _ M0 q (ba _) _ _,HOk.new q hok,
  ⟨_,rfl⟩,.inr ⟨⟨.bld T e (.p .nilslice),by simp[Mem.new],rfl⟩,S.w.heap.size,?_,rfl⟩⟩
 .unfold Instr.alloc;simp[E,newVar,newRow,Mem.new,Value.cells]
 .show (S.m++[some S.w.heap.size]).getD S.h.length none=_;rw[<-q.len];simp
theorem x3{α}(o n)(l:List α)(h:o+n<=l.length):(sub o n l).length=n:=by simp[sub];omega
theorem s1{M}{w}{b off sz l r}{xs:List PV}(f:Nat->Value)(I:l<=r)(G:r<=xs.length)
  (v:∀x,x∈xs->x.cells.length=sz/\∀c,c∈x.cells->c.isCell=true) (F:xs.length*sz≠0->¬M b)
  (E:∀k,k<xs.length*sz->w.cell? ⟨b,off+k,none⟩=some (f k))
  (A:∀(i j) (x c),xs[i]?=some x->x.cells[j]?=some c->RepP M w (f (i*sz+j)) c)
  {cap} {full} (u:r-l<=cap) (o:full=true->cap=r-l) :
  RepP M w (.slice (some ⟨b,off+l*sz,none⟩) (r-l) cap) (.slice sz ((xs.take r).drop l) full):=by
 have a:((xs.take r).drop l).length=r-l:=by simp;omega
 have q:∀(i:Nat) (x:PV),((xs.take r).drop l)[i]?=some x->xs[l+i]?=some x/\i<r-l:=by
  intro i x hi;have y:=(aB.1 hi).1;rw[qc,kB,if_pos (by omega)]at hi;exact⟨hi,by omega⟩
 have z:(r-l)*sz+l*sz<=xs.length*sz:=by
  rw[<-dK];exact fU sz (by omega)
 refine .slice (λk=>f (l*sz+k)) (by omega) u o (λx hx=>?_) (λh=>?_) (λk C=>?_) (λi j x c hx D=>?_)
 .exact v x (od (List.mem_of_mem_drop hx))
 .refine F λe=>h ?_;rw[a];omega
 .rw[a]at C;rw[<-E (l*sz+k) (by omega),gW]
 .obtain⟨y,_⟩:=q i x hx;have:=A (l+i) j x c y D;rwa [dK,gW]at this
theorem cH{i:Int}{k}{y:Nat}{code}(a:0<=i)(h:i<=y)(w):(Instr.sliceBound (.int k i) y code).run P w=.ok i.toNat w:=by
 simp[Instr.sliceBound,asIntOf,a,h]
theorem s7{x}{e}{n}(hx:x.isSome=e.isSome)(j:∀a v,x=some a->e=some v->Rep M0 S v a)(h:lX x=some n) :
  (n=none/\e=none)\/∃k i,n=some i/\e=some (.int k i):=by
 cases x with
 |none=>
  simp[lX]at h
  cases e with
  |none=>exact .inl ⟨h.symm,rfl⟩
  |some v=>simp at hx
 |some a=>
  cases e with
  |none=>simp at hx
  |some v=>
   cases a with
   |p q=>
    cases q with
    |int k i=>
     simp[lX]at h;have:=hL (j _ _ rfl rfl);subst this
     exact .inr ⟨k,i,h.symm,rfl⟩
    |_=>simp[lX]at h
   |_=>simp[lX]at h
theorem ni{l r}{len a b}(h:ky l r len=some (a,b)):0<=l.getD 0/\l.getD 0<=r.getD len/\r.getD len<=len/\a=(l.getD 0).toNat/\b=(r.getD len).toNat:=by
 unfold ky at h;split at h
 .rename_i e;cases h;exact⟨e.1,e.2.1,e.2.2,rfl,rfl⟩
 .cases h
theorem eN{l r m}{o q j}(n1:(l=none/\o=none)\/∃k i,l=some i/\o=some (.int k i))
  (G:(r=none/\q=none)\/∃k i,r=some i/\q=some (.int k i)) (K:(m=none/\j=none)\/∃k i,m=some i/\j=some (.int k i))
  {isS} {len cap a b} (N:ky l r len=some (a,b)) (J:len<=cap) (M:m=none\/(isS=true/\m=r)) (w) :
  (Instr.sliceBounds isS len cap o q j).run P w=.ok (a,b,m.elim cap λ_=>b) w:=by
 obtain⟨v,u,D,rfl,rfl⟩:=ni N;rcases K with⟨rfl,rfl⟩|⟨L,e,rfl,rfl⟩
 .rcases G with⟨rfl,rfl⟩|⟨k,i,rfl,rfl⟩<;>rcases n1 with⟨rfl,rfl⟩|⟨A,C,rfl,rfl⟩
  .simp[Instr.sliceBounds]
  .have:=cH (P:=P) (k:=A) (y:=len) (code:=.sliceB) (i:=C) (by simpa using v) (by simpa using u) w;simp[Instr.sliceBounds,this]
  .have:=cH (P:=P) (k:=k) (y:=cap) (code:=if isS then .sliceAcap else .sliceAlen) (i:=i) (by simp at v u;omega) (by simp at D;omega) w;simp[Instr.sliceBounds,this]
  .simp only[fT]at v u D;have E:=cH (P:=P) (k:=k) (y:=cap) (code:=if isS then .sliceAcap else .sliceAlen) (i:=i) (by omega) (by omega) w;have F:=cH (P:=P) (k:=A) (y:=i.toNat) (code:=.sliceB) (i:=C) v (by omega) w;simp[Instr.sliceBounds,E,F]
 .rcases M with h|⟨rfl,rfl⟩
  .cases h
  .rcases G with⟨h,_⟩|⟨k,i,h,rfl⟩
   .cases h
   .cases h;have u:l.getD 0<=e:=u;have D:e<=(len:Int):=D;have z:0<=e:=by omega
    have I:=cH (P:=P) (k:=L) (y:=cap) (code:=.slice3Acap) (i:=e) z (by omega) w;have E:=cH (P:=P) (k:=k) (y:=e.toNat) (code:=.slice3B) (i:=e) z (by omega) w;rcases n1 with⟨rfl,rfl⟩|⟨A,C,rfl,rfl⟩
    .simp[Instr.sliceBounds,E,I]
    .simp only[fT]at v u;have F:=cH (P:=P) (k:=A) (y:=e.toNat) (code:=.slice3C) (i:=C) v (by omega) w;simp[Instr.sliceBounds,E,F,I]
theorem l8{l:Option Int}{r}{a e}(n1:(l=none/\a=none)\/∃k i,l=some i/\a=some (.int k i))
  (u:∃k,e=some (.int k r)) {len cap:Nat} (j:0<=l.getD 0) (q:l.getD 0<=r) (o:r<=cap) (w) :
  (Instr.sliceBounds true len cap a e none).run P w=.ok ((l.getD 0).toNat,r.toNat,cap) w:=by
 obtain⟨k,rfl⟩:=u;rcases n1 with⟨rfl,rfl⟩|⟨v,z,rfl,rfl⟩
 .have:=cH (P:=P) (k:=k) (y:=cap) (code:=.sliceAcap) (i:=r) (by simp at j q;omega) o w;simp[Instr.sliceBounds,this]
 .simp only[fT]at j q;have C:=cH (P:=P) (k:=k) (y:=cap) (code:=.sliceAcap) (i:=r) (by omega) o w;have A:=cH (P:=P) (k:=v) (y:=r.toNat) (code:=.sliceB) (i:=z) j (by omega) w;simp[Instr.sliceBounds,C,A]
theorem wW{l:Option Int}{r m}{a j e}(n1:(l=none/\a=none)\/∃k i,l=some i/\a=some (.int k i))
  (z:∃k,j=some (.int k r)) (v:∃k,e=some (.int k m)) {len cap:Nat} (o:0<=l.getD 0) (F:l.getD 0<=r) (I:r<=m) (E:m<=cap) (w) :
  (Instr.sliceBounds true len cap a j e).run P w=.ok ((l.getD 0).toNat,r.toNat,m.toNat) w:=by
 obtain⟨k,rfl⟩:=z;obtain⟨A,rfl⟩:=v;have q:=cH (P:=P) (k:=A) (y:=cap) (code:=.slice3Acap) (i:=m) (by omega) E w;have u:=cH (P:=P) (k:=k) (y:=m.toNat) (code:=.slice3B) (i:=r) (by omega) (by omega) w;rcases n1 with⟨rfl,rfl⟩|⟨C,D,rfl,rfl⟩
 .simp[Instr.sliceBounds,u,q]
 .simp only[fT]at o F;have G:=cH (P:=P) (k:=C) (y:=r.toNat) (code:=.slice3C) (i:=D) o (by omega) w;simp[Instr.sliceBounds,u,G,q]
theorem MF(M:HOk P M0 S){T}{x}{v}{lo hi mx}{E C A}(hx:Rep M0 S v x)
  (e1:lo.isSome=E.isSome) (e2:hi.isSome=C.isSome) (e3:mx.isSome=A.isSome)
  (r1:∀a v,lo=some a->E=some v->Rep M0 S v a) (r2:∀a v,hi=some a->C=some v->Rep M0 S v a) (r3:∀a v,mx=some a->A=some v->Rep M0 S v a) :
  aF P M0 S (Instr.sliceAt T v E C A) (sr P T x lo hi mx S.h):=by
 unfold sr;split
 .rename_i l r m hl hr hm;have n1:=s7 e1 r1 hl;have n2:=s7 e2 r2 hr;have X:=s7 e3 r3 hm;split
  .rename_i sz xs full;split
   .rename_i e a b Z q;split
    .rename_i u;have L:=bW Z;have h':RepP (Avoid M0 S.m) S.w v (.slice sz xs full):=hx;obtain⟨h0,h1,h2,ha,hb⟩:=ni q;have J:a<=b/\b<=xs.length:=by omega
     have U:∀(V:Option Int) (fl:Bool),m=V->(V=none\/V=r)->(fl=V.elim (full&&b==xs.length) λ_=>true) ->
       aF P M0 S (Instr.sliceAt T v E C A) (.val (.p (.slice sz ((xs.take b).drop a) fl)) S.h):=by
      intro V fl b6 a8 a9;subst b6
      cases h' with
      |slice f b0 z K hs hM a7 b3=>
       rename_i bl off len cap;subst b0;have j:=eN (P:=P) (isS:=true) (cap:=cap) n1 n2 X q z (a8.imp id λe=>⟨rfl,e⟩) S.w;generalize a3:(m.elim cap λ_=>b)=mc at j;have b7:b<=mc/\mc<=cap/\(fl=true->mc=b):=by
        subst a3;subst a9
        cases m with
        |none=>
         refine⟨by simp;omega,ba _,λe=>?_⟩;simp at e;simp
         rw[K e.1,e.2]
        |some _=>exact⟨ba _,by simp;omega,λ_=>rfl⟩
       refine aF.pure M (v':=.slice (some (if mc=a then⟨bl,off,none⟩ else⟨bl,off+a*sz,none⟩)) (b-a) (mc-a)) ?_ (aC ?_)
       .simp only[Instr.sliceAt,Instr.slice,Sem.run_bind,run_underlying L,aS,j,be u,Sem.run_pure];by_cases hz:mc=a<;>simp[hz,ei]
       .by_cases hz:mc=a
        .have:(xs.take b).drop a=[]:=by simp;omega
         rw[this,if_pos hz,show b-a=0 by omega];exact .empty λ_=>by omega
        .rw[if_neg hz]
         exact s1 f J.1 J.2 hs hM a7 b3 (by omega) λe=>by have:=b7.2.2 e;omega
      |empty K=>
       rename_i N cap;have a2:a=0:=by have:=J.1;have:=J.2;simp at this;omega
       have a1:b=0:=by have:=J.2;simp at this;omega
       subst a2;subst a1;have j:=eN (P:=P) (isS:=true) (len:=0) (cap:=cap) n1 n2 X q (de _) (a8.imp id λe=>⟨rfl,e⟩) S.w;generalize a3:(m.elim cap λ_=>0)=mc at j;refine aF.pure M (v':=.slice (if mc=0 then N else N.map (·.add (0*sz))) (0-0) (mc-0)) ?_ (aC ?_)
       .simp only[Instr.sliceAt,Instr.slice,Sem.run_bind,run_underlying L,aS,j,be u,Sem.run_pure]
       .simp only[List.take_nil,List.drop_nil,qZ];refine .empty λe=>?_;subst a9
        cases m with
        |none=>simp at a3 e;subst a3;have:=K e;omega
        |some _=>simp at a3;omega
     split
     .exact U none _ rfl (.inl rfl) rfl
     .rename_i V;split
      .rename_i b4;exact U (some V) _ rfl (.inr b4.symm) rfl
      .exact trivial
    .exact trivial
   .exact trivial
  .rename_i id a5 off len;split
   .rename_i e sz xs a b Z y q;split
    .rename_i hc;obtain⟨u,Y⟩:=hc;have L:=bW Z;obtain⟨h0,h1,h2,ha,hb⟩:=ni q;have J:a<=b/\b<=len:=by omega
     rcases cm hx.2 y Y with⟨rfl,G,a4,N,cap,rfl⟩|⟨bl,cap,T',n,I,rfl,z,O,D,F⟩|⟨R,rfl,rfl⟩
     .have j:(Instr.sliceBounds true 0 cap E C A).run P S.w=.ok (a,b,cap) S.w:=eN (P:=P) (isS:=true) (len:=0) (cap:=cap) n1 n2 X q (de _) (.inl rfl) S.w;refine aF.pure M (v':=.slice (if cap=a then N else N.map (·.add (a*sz))) (b-a) (cap-a)) ?_ ⟨⟨_,_,_,rfl⟩,.inr ⟨sz,xs,y,by omega,λ_=>.inl ⟨by omega,G,by omega,_,_,by rw[show b-a=0 by omega]⟩⟩⟩;simp only[Instr.sliceAt,Instr.slice,Sem.run_bind,run_underlying L,aS,j,be u,Sem.run_pure]
     .have j:(Instr.sliceBounds true len cap E C A).run P S.w=.ok (a,b,cap) S.w:=eN (P:=P) (isS:=true) (cap:=cap) n1 n2 X q z.1 (.inl rfl) S.w;refine aF.pure M (v':=.slice (some (if cap=a then⟨bl,off*sz,none⟩ else⟨bl,(off+a)*sz,none⟩)) (b-a) (cap-a)) ?_ ⟨⟨_,_,_,rfl⟩,.inr ⟨sz,xs,y,by omega,λ_=>?_⟩⟩
      .simp only[Instr.sliceAt,Instr.slice,Sem.run_bind,run_underlying L,aS,j,be u,Sem.run_pure];by_cases hz:cap=a<;>simp[hz,ei,dK]
      .by_cases a0:cap=a
       .by_cases a2:a=0
        .subst a2;rw[if_pos a0];have a1:b=0:=by have:=z.1;omega
         subst a1;exact .inr (.inl ⟨bl,cap-0,T',n,I,by simp,⟨by omega,by omega⟩,O,by simpa using D,by omega⟩)
        .by_cases G:a5=0
         .exfalso;have:=z.2;omega
         .exact .inl ⟨by omega,G,by have:=z.2;omega,_,_,by rw[show b-a=0 by omega]⟩
       .rw[if_neg a0];have c5:=z.1;have c4:=z.2;refine .inr (.inl ⟨bl,cap-a,T',n,I,rfl,⟨by omega,by omega⟩,O,?_⟩);rw[show off+a+(cap-a)=off+cap by omega];exact⟨D,F⟩
     .have j:(Instr.sliceBounds true 0 0 E C A).run P S.w=.ok (a,b,0) S.w:=eN (P:=P) (isS:=true) (len:=0) (cap:=0) n1 n2 X q (ba _) (.inl rfl) S.w;refine aF.pure M (v':=.slice none 0 0) ?_ ⟨⟨_,_,_,rfl⟩,.inr ⟨sz,xs,y,by omega,λ_=>.inr (.inr ⟨R,rfl,by omega⟩)⟩⟩;simp only[Instr.sliceAt,Instr.slice,Sem.run_bind,run_underlying L,aS,j,be u,Sem.run_pure];simp[show a=0 by omega,show b=0 by omega]
    .exact trivial
   .rename_i e sz xs V Z y;split
    .rename_i hc;obtain⟨u,Y,a6,c0,c1,c2,c3⟩:=hc;have L:=bW Z;obtain⟨rr,rfl⟩:=fp.1 a6;simp only[fT]at c1 c2;have k2:∃k,C=some (.int k rr):=by
      rcases n2 with⟨h,_⟩|⟨k,i,h,h'⟩
      .cases h
      .cases h;exact⟨k,h'⟩
     have k3:∃k,A=some (.int k V):=by
      rcases X with⟨h,_⟩|⟨k,i,h,h'⟩
      .cases h
      .cases h;exact⟨k,h'⟩
     have U:∀(N:Option Addr) (ln cap:Nat),v=.slice N ln cap->V<=cap->aF P M0 S (Instr.sliceAt T v E C A) (.val .undef S.h):=by
      intro N ln cap b1 b8;subst b1;have j:=wW (P:=P) (len:=ln) n1 k2 k3 c0 c1 c2 b8 S.w;refine aF.pure M (v':=.slice (if V.toNat=(l.getD 0).toNat then N else N.map (·.add ((l.getD 0).toNat*sz))) (rr.toNat-(l.getD 0).toNat) (V.toNat-(l.getD 0).toNat)) ?_ trivial;simp only[Instr.sliceAt,Instr.slice,Sem.run_bind,run_underlying L,aS,j,be u,Sem.run_pure]
     rcases cm hx.2 y Y with⟨rfl,G,a4,N,cap,rfl⟩|⟨bl,cap,T',n,I,rfl,z,O,D,F⟩|⟨R,rfl,rfl⟩
     .exact U _ _ _ rfl (by omega)
     .exact U _ _ _ rfl (by omega)
     .refine U _ _ _ rfl ?_;have h0:=M.obj id _ y;rw[R]at h0;rcases h0 with⟨_,rfl⟩|⟨b,_,_,h,_⟩
      .simp at Y;omega
      .cases h
    .exact trivial
   .rename_i e sz xs Z y _;split
    .rename_i hc;obtain⟨u,Y,a6,c0,c1,c3⟩:=hc;have L:=bW Z;obtain⟨rr,rfl⟩:=fp.1 a6;simp only[fT]at c1 c3 |-;have k2:∃k,C=some (.int k rr):=by
      rcases n2 with⟨h,_⟩|⟨k,i,h,h'⟩
      .cases h
      .cases h;exact⟨k,h'⟩
     have k3:A=none:=by
      rcases X with⟨_,h⟩|⟨k,i,h,h'⟩
      .exact h
      .cases h
     subst k3;generalize ha:(l.getD 0).toNat=a;generalize hb:rr.toNat=b;rcases cm hx.2 y Y with⟨rfl,G,a4,N,cap,rfl⟩|⟨bl,cap,T',n,I,rfl,z,O,D,F⟩|⟨R,rfl,rfl⟩
     .have j:=l8 (P:=P) (len:=0) (cap:=cap) n1 k2 c0 c1 (by omega) S.w;rw[ha,hb]at j;refine aF.pure M (v':=.slice (if cap=a then N else N.map (·.add (a*sz))) (b-a) (cap-a)) ?_ ⟨⟨_,_,_,rfl⟩,.inr ⟨sz,xs,y,by omega,λ_=>.inl ⟨by omega,G,by omega,_,_,by rw[show b-a=0 by omega]⟩⟩⟩;simp only[Instr.sliceAt,Instr.slice,Sem.run_bind,run_underlying L,aS,j,be u,Sem.run_pure]
     .have j:=l8 (P:=P) (len:=len) (cap:=cap) n1 k2 c0 c1 (by omega) S.w;rw[ha,hb]at j;refine aF.pure M (v':=.slice (some (if cap=a then⟨bl,off*sz,none⟩ else⟨bl,(off+a)*sz,none⟩)) (b-a) (cap-a)) ?_ ⟨⟨_,_,_,rfl⟩,.inr ⟨sz,xs,y,by omega,λ_=>?_⟩⟩
      .simp only[Instr.sliceAt,Instr.slice,Sem.run_bind,run_underlying L,aS,j,be u,Sem.run_pure];by_cases hz:cap=a<;>simp[hz,ei,dK]
      .by_cases a0:cap=a
       .by_cases G:a5=0
        .refine .inr (.inl ⟨bl,cap-a,T',n,I,?_,⟨by omega,by omega⟩,O,?_,by omega⟩)
         .rw[if_pos a0,show off+a=off by omega]
         .rw[show off+a+(cap-a)=off+cap by omega];exact D
        .exact .inl ⟨by omega,G,by omega,_,_,by rw[show b-a=0 by omega]⟩
       .rw[if_neg a0];refine .inr (.inl ⟨bl,cap-a,T',n,I,rfl,⟨by omega,by omega⟩,O,?_⟩);rw[show off+a+(cap-a)=off+cap by omega];exact⟨D,by omega⟩
     .have h0:=M.obj id _ y;rw[R]at h0;rcases h0 with⟨_,rfl⟩|⟨b,_,_,h,_⟩
      .have j:=l8 (P:=P) (len:=0) (cap:=0) n1 k2 c0 c1 (by simp at Y;omega) S.w;rw[ha,hb]at j;have a2:a=0:=by simp at Y;omega
       have a1:b=0:=by simp at Y;omega
       refine aF.pure M (v':=.slice none 0 0) ?_ ⟨⟨_,_,_,rfl⟩,.inr ⟨sz,[],y,by omega,λ_=>.inr (.inr ⟨R,rfl,by omega⟩)⟩⟩;simp only[Instr.sliceAt,Instr.slice,Sem.run_bind,run_underlying L,aS,j,be u,Sem.run_pure];simp[a2,a1]
      .cases h
    .exact trivial
   .exact trivial
  .rename_i id a5 i o;split
   .rename_i n e Z;split
    .rename_i a b sz q hl;split
     .rename_i u;have L:=kh Z;obtain⟨xs,y,Y⟩:=il hl;obtain⟨bl,I,rfl⟩:=cm hx.2 y Y;obtain⟨h0,h1,h2,ha,hb⟩:=ni q;have J:a<=b/\b<=n:=by omega
      have j:(Instr.sliceBounds false n n E C A).run P S.w=.ok (a,b,n) S.w:=eN (P:=P) (isS:=false) (cap:=n) n1 n2 X q (ba _) (.inl rfl) S.w;refine aF.pure M (v':=.slice (some (if n=a then⟨bl,i*sz+o,none⟩ else⟨bl,i*sz+(o+a),none⟩)) (b-a) (n-a)) ?_ ⟨⟨_,_,rfl⟩,.inr ⟨sz,xs,y,by omega,λ_=>⟨bl,n-a,I,by omega,λb9=>?_⟩⟩⟩
      .simp only[Instr.sliceAt,Instr.sureAddr,Sem.run_bind,run_underlying L,aS,j,be u,Sem.run_pure];by_cases hz:n=a<;>simp[hz,ei,gW]
      .rw[if_neg (by omega)]
     .exact trivial
    .exact trivial
   .exact trivial
  .rename_i s;split
   .rename_i a b q;split
    .rename_i b2;have h':RepP (Avoid M0 S.m) S.w v (.str s):=hx;cases h';have j:(Instr.sliceBounds false s.size s.size E C A).run P S.w=.ok (a,b,s.size) S.w:=eN (P:=P) (isS:=false) (cap:=s.size) n1 n2 X q (ba _) (.inl rfl) S.w;have b5:A=none:=by
      rcases X with⟨_,h⟩|⟨_,_,h,_⟩
      .exact h
      .cases h
     subst b5;refine aF.pure M (v':=.string (s.extract a b)) ?_ (aC (.str _));simp[Instr.sliceAt,Instr.slice,run_underlying (fk b2),j]
    .exact trivial
   .exact trivial
  .split
   .rename_i e ab Z q;split
    .rename_i hs;obtain⟨sz,u⟩:=fp.1 hs;obtain⟨a,b⟩:=ab;obtain⟨h0,h1,h2,ha,hb⟩:=ni q;have h':RepP (Avoid M0 S.m) S.w v .nilslice:=hx;cases h';have j:(Instr.sliceBounds true 0 0 E C A).run P S.w=.ok (a,b,0) S.w:=eN (P:=P) (isS:=true) (len:=0) (cap:=0) n1 n2 X q (ba _) (.inl rfl) S.w;refine aF.pure M (v':=.slice none 0 0) ?_ (aC .nilslice);simp only[Instr.sliceAt,Instr.slice,Sem.run_bind,run_underlying (bW Z),aS,j,be u,Sem.run_pure];simp[show a=0 by omega,show b=0 by omega]
    .exact trivial
   .exact trivial
  .exact trivial
 .exact trivial
end Abs
end Go.Proofs.YtmndpldajflenaaGreatDoor
namespace Go.Proofs.YtmndpldajflenaaGreatDoor
namespace Abs
variable {P:Program} {M0:Nat->Prop} {S:Mem}
theorem uX:∀(a) (off k) (C),(a.zipIdx k).foldl (λcs (c,j)=>cs.setIfInBounds (off+j) c) C=jH C (off+k) a
 |[],_,_,_=>rfl
 |v::r,off,k,C=>by
  simp only[List.zipIdx_cons,o8,jH];rw[uX r off (k+1)];rfl
theorem Ar{a}:∀{ps} {o} {cs e} {C},
  ps.length=o.length->(∀(i:Nat) p q,ps[i]?=some p->o[i]?=some q->p.1=q.1/\Rep M0 S q.2 p.2)->C.size=cs.length->gO M0 S (λj=>C.getD j undef) cs ->
  tN a ps cs=some e->∃D,Instr.fill a C o=some D/\D.size=e.length/\gO M0 S (λj=>D.getD j undef) e
 |[],[],cs,e,C,_,_,A,z,h=>by
  simp[tN]at h;subst h
  exact⟨C,rfl,A,z⟩
 |[],_::_,_,_,_,u,_,_,_,_=>by simp at u
 |_::_,[],_,_,_,u,_,_,_,_=>by simp at u
 |(i,x)::ps,(M,v)::o,cs,e,C,u,I,A,z,h=>by
  obtain⟨K,J⟩:=I 0 (i,x) (M,v) rfl rfl;simp only at K J;subst K;simp only[tN]at h;split at h
  .rename_i off n new F R;split at h
   .rename_i l;obtain⟨X,V⟩:=l;obtain⟨N,E⟩:=iP J R;have O:Instr.fill a C ((i,v)::o)=Instr.fill a (jH C off v.cells.toList) o:=by
     simp only[Instr.fill,F];rw[if_neg (by simp;omega)]
     congr 1
     rw[<-JO,Array.toList_zipIdx];have:=uX v.cells.toList off 0 C;simpa using this
    rw[O];have L:v.cells.toList.length=new.length:=by simpa using N
    refine Ar (by simpa using u) (λk p q U T=>I (k+1) p q (by simpa using U) (by simpa using T)) (by rw[ic,mN _ _ _ (by omega)];exact A) ?_ h;intro j c y;have Y:=(aB.1 y).1;rw[qr _ _ _ _ (by omega)]at y;show c.isCell=true/\bm M0 S ((jH C off v.cells.toList).getD j undef) c;rw[ip _ _ _ _ (by omega)];split at y
    .rename_i G;rw[if_pos (by omega),gm];exact E (j-off) c y
    .rename_i G;rw[if_neg (by omega)];exact z j c y
   .cases h
  .cases h
theorem N0(R:HOk P M0 S){T}{ps}{u}(O:ps.length=u.toList.length)
  (N:∀(i:Nat) p q,ps[i]?=some p->u.toList[i]?=some q->p.1=q.1/\Rep M0 S q.2 p.2):aF P M0 S (Instr.build T u) (sv P T ps S.h):=by
 unfold sv;split
 .rename_i z C;have A:∃it o,P.info? T=some it/\it.zero=some o/\o.cells.size=(z.map AV.p).length/\gO M0 S (λj=>o.cells.getD j undef) (z.map .p):=by
   unfold aw at C
   cases hi:P.info? T with
   |none=>simp[hi]at C
   |some it=>
    cases a:it.zero with
    |none=>simp[hi,a]at C
    |some o=>
     simp[hi,a]at C;have J:Rep M0 S o (.p (.agg z)):=fB C;obtain⟨E,D⟩:=iP J (cs:=z.map .p) rfl;exact⟨it,o,rfl,a,E,D⟩
  obtain⟨it,o,hi,a,I,G⟩:=A;split
  .rename_i X l;split
   .rename_i cs y;obtain⟨F,E,D,M⟩:=Ar O N I G y;have L:P.built T u.toList=some F:=by
     unfold bP at l;split at l
     .rename_i Z U;unfold Program.built;simp only[hi,U,a,l];simpa using E
     .cases l
    exact aF.pure R (run_build S.w T u F L) (nI (uD D M))
   .exact trivial
  .split
   .rename_i n e V;split
    .rename_i s K;split
     .rename_i cs y;obtain⟨F,E,D,M⟩:=Ar O N I G y;have L:P.built T u.toList=some F:=by
       unfold bL at K
       cases v:P.info? e with
       |none=>simp[v]at K
       |some Y=>
        simp[v]at K;subst K;unfold Program.built;simp only[hi,kh V,a,v];exact E
      exact aF.pure R (run_build S.w T u F L) (nI (uD D M))
     .exact trivial
    .exact trivial
   .exact trivial
 .exact trivial
def Mem.junk (S:Mem) (ob:Obj):Mem:=⟨S.m,S.h,S.w.alloc ob⟩
theorem Ev.junk(base)(S)(ob):Ev base S (S.junk ob):=⟨Fr.alloc _ _ _,λ_ h=>.inl h,λ_ o _ h=>⟨o,h,ObjEv.refl _ _⟩⟩
theorem HOk.junk(a:HOk P M0 S)(ob:Obj):HOk P M0 (S.junk ob) where
 len:=a.len
 lt:=λb h=>by have:=a.lt b h;simp[Mem.junk];omega
 m0:=λb h=>by obtain⟨j,i⟩:=a.m0 b h;exact⟨by simp[Mem.junk];omega,i⟩
 inj:=a.inj
 gl:=(Ev.junk 0 S ob).glob a.gl
 obj:=λid o h=>(a.obj id o h).keep (Ev.junk _ S ob) λb e=>fQ _ _ _ (a.lt b (lL e).1)
theorem uR{T}{n}(h:lm P T n=true)(w):∃z,(zeroValue T).run P w=.ok z w/\z.cells.size=n:=by
 unfold lm at h
 cases hi:P.info? T with
 |none=>simp[hi]at h
 |some i=>
  cases a:i.zero with
  |none=>simp[hi,a]at h
  |some v=>simp[hi,a]at h;exact⟨v,by simp[zeroValue,typeInfo,hi,a],h⟩
theorem Eu{sz}:∀{ps} {u} {i} {xs} {C},
  ps.length=u.length->(∀(i:Nat) p q,ps[i]?=some p->u[i]?=some q->p.1=q.1/\Rep M0 S q.2 p.2)->qQ i sz ps=some xs->(i+xs.length)*sz<=C.size ->
  ∃z,Instr.fill (λi=>some (i*sz,sz)) C u=some z/\z.size=C.size/\(∀k,k<i*sz->z.getD k undef=C.getD k undef) /\
   ∀(j) (x),xs[j]?=some x->∃cs,x.cells=some cs/\cs.length=sz/\∀(l) (c),cs[l]?=some c->c.isCell=true/\bm M0 S (z.getD ((i+j)*sz+l) undef) c
 |[],[],i,xs,C,_,_,h,_=>by
  simp[qQ]at h;subst h
  exact⟨C,rfl,rfl,λ_ _=>rfl,λj x E=>by simp at E⟩
 |[],_::_,_,_,_,D,_,_,_=>by simp at D
 |_::_,[],_,_,_,D,_,_,_=>by simp at D
 |(U,x)::ps,(J,v)::u,i,xs,C,D,N,h,X=>by
  obtain⟨R,O⟩:=N 0 (U,x) (J,v) rfl rfl;simp only at R O;subst R;simp only[qQ]at h;split at h
  .rename_i o;obtain⟨rfl,e⟩:=o
   cases a:x.cells with
   |none=>simp[a]at e
   |some cs=>
    simp[a]at e;split at h
    .rename_i l L;cases h;obtain⟨hv,K⟩:=iP O a;have F:(i+1+l.length)*sz<=C.size:=by simpa[Nat.add_comm,Nat.add_left_comm,gW]using X
     have a5:(i+1)*sz<=C.size:=iI (fU sz (by omega)) F;have a4:(i+1)*sz=i*sz+sz:=by rw[dK,sF]
     have G:v.cells.toList.length=sz:=by simp;omega
     have V:Instr.fill (λi=>some (i*sz,sz)) C ((i,v)::u)=Instr.fill (λi=>some (i*sz,sz)) (jH C (i*sz) v.cells.toList) u:=by
      simp only[Instr.fill];rw[if_neg (by simp at G;simp;omega)]
      congr 1
      rw[<-JO,Array.toList_zipIdx];have:=uX v.cells.toList (i*sz) 0 C;simpa using this
     obtain⟨z,g1,g2,T,g4⟩:=Eu (C:=jH C (i*sz) v.cells.toList) (i:=i+1) (by simpa using D) (λk p q Z Y=>N (k+1) p q (by simpa using Z) (by simpa using Y)) L (by rw[ic];exact F);refine⟨z,by rw[V];exact g1,by rw[g2,ic],λk hk=>?_,λj y E=>?_⟩
     .rw[T k (by omega),ip _ _ _ _ (by omega),if_neg (by omega)]
     .cases j with
      |zero=>
       simp at E;subst E;refine⟨cs,a,e,λA c I=>?_⟩;have a0:=(aB.1 I).1;rw[jK,T _ (by omega),ip _ _ _ _ (by omega),if_pos (by omega),gm,show i*sz+A-i*sz=A by omega]
       exact K A c I
      |succ j=>
       obtain⟨M,a1,a2,a3⟩:=g4 j y (by simpa using E);refine⟨M,a1,a2,λA c I=>?_⟩;have:=a3 A c I;rwa [show i+1+j=i+(j+1) by omega]at this
    .cases h
  .cases h
theorem Km{xs}{l}(h:gp xs=some l){i:Nat}{q}(hi:l[i]?=some q):xs[i]?=some (.p q):=by
 rw[iQ h];simp[hi]
theorem Ir{sz n b}{xs}{l}{C}{T}{w}{M}(D:gp xs=some l)(A:xs.length=n)(I:w.heap[b]?=some (.cells C T (0,0)))(J:¬M b)
  (z:n*sz<=C.size) (v:∀(i) (x),xs[i]?=some x->∃cs,x.cells=some cs/\cs.length=sz/\∀(j) (c),cs[j]?=some c->c.isCell=true/\∀q,c=.p q->RepP M w (C.getD (i*sz+j) undef) q) :
  RepP M w (.slice (some ⟨b,0,none⟩) n n) (.slice sz l true):=by
 have u:l.length=n:=by rw[iQ D]at A;simpa using A
 have a:∀(i:Nat) (q:PV),l[i]?=some q->(q.cells.length=sz/\∀c,c∈q.cells->c.isCell=true)/\∀(j:Nat) (c:PV),q.cells[j]?=some c->RepP M w (C.getD (i*sz+j) undef) c:=by
  intro i q hi;obtain⟨cs,o,K,E⟩:=v i _ (Km D hi);have y:cs=q.cells.map .p:=by
   cases q with
   |tuple l=>simp[AV.cells]at o
   |_=>(simp[AV.cells]at o;exact o.symm)
  subst y;refine⟨⟨by simpa using K,λc G=>?_⟩,λj c e=>?_⟩
  .obtain⟨j,e⟩:=eF G;exact(E j (.p c) (by simp[e])).1
  .exact(E j (.p c) (by simp[e])).2 c rfl
 refine .slice (λk=>C.getD k undef) (by omega) (ba _) (λ_=>rfl) (λx hx=>?_) (λ_=>J) (λk F=>?_) (λi j x c hx e=>(a i x hx).2 j c e)
 .obtain⟨i,hi⟩:=eF hx;exact(a i x hi).1
 .rw[gV];exact i6 I k (by rw[u]at F;omega)
theorem Cv(v:HOk P M0 S){T}{mu}{n}{ps}{F}(hl:ps.length=F.toList.length)
  (Z:∀(i:Nat) p q,ps[i]?=some p->F.toList[i]?=some q->p.1=q.1/\Rep M0 S q.2 p.2):aF P M0 S (Instr.buildSlice T n F) (kl P T mu n ps S.h):=by
 unfold kl;split
 .rename_i e he;split
  .rename_i sz J;split
   .rename_i xs I;split
    .rename_i hc;obtain⟨A,U,M,V⟩:=hc;have X:=bW he;obtain⟨z,y,a0⟩:=uR V S.w;have a:∃E:Array Value,(if n*sz=0 then(pure #[]:Sem (Array Value)) else do pure (<-zeroValue e).cells).run P S.w=.ok E S.w:=by
      by_cases D:n*sz=0
      .exact⟨#[],by rw[if_pos D];rfl⟩
      .exact⟨z.cells,by rw[if_neg D];simp[y]⟩
     obtain⟨E,a⟩:=a;obtain⟨o,O,g2,_,G⟩:=Eu (C:=(Array.range (n*sz)).map (E[·%E.size]!)) (i:=0) hl Z I (by simp[A]);simp only[gV]at G;have L:o.size=n*sz:=by rw[g2];simp
     have u:(Instr.buildSlice T n F).run P S.w=.ok (.slice (some ⟨S.w.heap.size,0,none⟩) n n) (S.w.alloc (.cells o e)):=by
      unfold Instr.buildSlice;simp only[Sem.run_bind,run_underlying X,aS,be J];rw[if_neg (by omega)];by_cases D:n*sz=0
      .rw[if_pos D]at a |-;simp only[Sem.run_pure,Result.ok.injEq,and_true]at a;subst a;simp only[Sem.run_bind,Sem.run_pure,aS,O];simp[newRow]
      .rw[if_neg D]at a |-;simp only[Sem.run_bind,y,aS,Sem.run_pure,Result.ok.injEq,and_true]at a;subst a;simp only[Sem.run_bind,y,Sem.run_pure,aS,O];simp[newRow]
     split
     .rename_i a4 K;rename_i l _;refine⟨S.junk (.cells o e),_,rfl,u,Ev.junk _ _ _,HOk.junk v _,?_⟩;refine Ir K A (T:=e) (bw _ _) (λh=>?_) (by omega) (λi x hx=>?_)
      .rcases h with h|h
       .have:=(v.m0 _ h).1;omega
       .have:=v.lt _ h;omega
      .obtain⟨cs,a1,a2,R⟩:=G i x hx;refine⟨cs,a1,a2,λj c N=>⟨(R j c N).1,λq Y=>?_⟩⟩;subst Y;exact(Ev.junk 0 S (.cells o e)).repP (R j _ N).2
     .refine⟨S.new (.row sz xs) (.cells o e),_,rfl,u,Ev.new _ _ v (ba _) _ _,HOk.new v (.inr ⟨_,e,o,rfl,bw _ _,by rw[A];omega,?_⟩),⟨_,_,_,rfl⟩,.inr ⟨sz,xs,by simp[Mem.new],by omega,λ_=>.inr (.inl ⟨S.w.heap.size,n,e,o.size,?_,by simp,⟨ba _,by omega⟩,?_,by simp;omega,by omega⟩)⟩⟩
      .exact dA.keep (Ev.new _ _ v (ba _) _ _) G
      .have:=v.len;show (S.m++[some S.w.heap.size]).getD S.h.length none=_;rw[<-this];simp
      .show (S.w.alloc (.cells o e)).shape? S.w.heap.size=_;unfold World.shape?;rw[bw]
    .exact trivial
   .exact trivial
  .exact trivial
 .exact trivial
end Abs
end Go.Proofs.YtmndpldajflenaaGreatDoor
