/- CONTRACTS of functions and laws. No conditions but those in the heads. -/
import Derived.Test.YtgafommgcfhkkaaGreatDoorAbsDef
import Derived.Lib.AppendStr
set_option linter.all false
namespace Go.Proofs.YtgafommgcfhkkaaGreatDoor
namespace Abs
variable {P:Program} {M0:Nat->Prop} {S:Mem}
def XW(l:HOk P M0 S){T}{x}{v}{ty}(hx:Rep M0 S v x):aU P M0 S (Builtin.len_ #[T] ty #[v]) (BN P T x S.h):=by
 unfold BN;split
 .rename_i s;split
  .rename_i i;have h':RepP (Avoid M0 S.m) S.w v (.str s):=hx;cases h';refine aU.pure l (v':=.int .i64 s.size) ?_ (aR (.int _ _));simp[Builtin.len_,run_underlying (gM i),goInt]
  simp[aU]
 .rename_i sz xs full;split
  .rename_i i;obtain⟨e,j⟩:=iM.1 i;have h':RepP (Avoid M0 S.m) S.w v (.slice sz xs full):=hx;refine aU.pure l (v':=.int .i64 xs.length) ?_ (aR (.int _ _))
   cases h' with
   |slice f q=>subst q;simp[Builtin.len_,run_underlying (di j),goInt]
   |empty=>simp[Builtin.len_,run_underlying (di j),goInt]
  simp[aU]
 .split
  .rename_i i;obtain⟨e,j⟩:=iM.1 i;have h':RepP (Avoid M0 S.m) S.w v .nilslice:=hx;cases h';refine aU.pure l (v':=.int .i64 0) ?_ (aR (.int _ _));simp[Builtin.len_,run_underlying (di j),goInt]
  simp[aU]
 .rename_i id A off len;split
  .rename_i i;obtain⟨e,j⟩:=iM.1 i.1;obtain⟨sz,z⟩:=iM.1 i.2;obtain⟨xs,u,y⟩:=nE z;refine aU.pure l (v':=.int .i64 len) ?_ (aR (.int _ _))
   rcases dM hx.2 u y with⟨rfl,_,_,a,cap,rfl⟩|⟨b,cap,E,n,D,rfl,_⟩|⟨_,rfl,rfl⟩ <;>
    simp[Builtin.len_,run_underlying (di j),goInt]
  simp[aU]
 .split
  .rename_i n e j;obtain⟨C,rfl⟩:=EK hx (.inl ⟨_,rfl⟩);refine aU.pure l (v':=.int .i64 n) ?_ (aR (.int _ _));simp[Builtin.len_,run_underlying (oM j),goInt]
  simp[aU]
 simp[aU]
def Fk(q:HOk P M0 S){T}{x}{v}{cs}(hx:Rep M0 S v x)(A:x.cells=some cs) :
  aU P M0 S (do pure (.pointer (some (<-newVar T v)))) (.val (.ptr S.h.length 1 0 0) (S.h++[.row cs.length [x]])):=by
 obtain⟨C,u⟩:=kB hx A;have e:=Ev.new S.h.length M0 q (ba _) (.row cs.length [x]) (.cells v.cells T);have hok:ObjOk P M0 (S.new (.row cs.length [x]) (.cells v.cells T)) (some S.w.heap.size) (.row cs.length [x]):=by
  refine .inr ⟨S.w.heap.size,T,v.cells,rfl,cg _ _,by simp[C],λi y l=>?_⟩
  cases i with
  |zero=>
   simp at l;subst l
   exact⟨cs,A,rfl,λj c z=>⟨(u j c z).1,by simpa using e.keepS (u j c z).2⟩⟩
  |succ i=>simp at l
 refine⟨S.new (.row cs.length [x]) (.cells v.cells T),.pointer (some ⟨S.w.heap.size,0,none⟩),rfl,?_,e,HOk.new q hok,⟨_,rfl⟩,.inr ⟨cs.length,[x],?_,by simp,λ_=>⟨S.w.heap.size,?_,by simp⟩⟩⟩
 .rfl
 .simp[Mem.new]
 .have:=q.len;grind[Mem.new]
def lQ{T}{z}(h:bW P T=some z)(w):∃v,(zeroValue T).run P w=.ok v w/\pA v=some z:=by
 unfold bW at h
 cases hi:P.info? T with
 |none=>simp[hi]at h
 |some i=>
  cases e:i.zero with
  |none=>grind
  |some v=>
   simp[hi,e]at h;exact⟨v,by simp[zeroValue,typeInfo,hi,e],h⟩
def xL{M}{w}{v}{q}(h:rW v=some q):RepP M w v q/\q.isCell=true:=by
 unfold rW at h;split at h<;>try (first|(cases h;done)|(cases h;first|exact⟨.bool _,rfl⟩|exact⟨.int _ _,rfl⟩|exact⟨.str _,rfl⟩|exact⟨.nilptr,rfl⟩|exact⟨.nilslice,rfl⟩|exact⟨.nilfunc,rfl⟩|exact⟨.niliface,rfl⟩|exact⟨.anyMap,rfl⟩))
 .split at h
  .rename_i first cap e
   cases h;exact⟨.func (by simp[e.1]) (by simp[e.2]) (λi c hi=>by simp at hi) (λi c hi=>by simp at hi),rfl⟩
  .cases h
def qQ{M}{w}:∀{l} {e},oa l=some e->l.length=e.length/\(∀c,c∈e->c.isCell=true)/\∀(i) (c),e[i]?=some c->RepP M w (l.getD i undef) c
 |[],e,h=>by simp[oa]at h;grind
 |v::r,e,h=>by
  simp only[oa]at h;split at h
  .rename_i x l hx q;cases h;obtain⟨C,A,z⟩:=qQ (M:=M) (w:=w) q;obtain⟨y,u⟩:=xL (M:=M) (w:=w) hx;grind
  .cases h
def iS{M}{w}{v}{q}(h:pA v=some q):RepP M w v q:=by
 unfold pA at h;split at h
 .split at h
  .rename_i cs l e;cases h;obtain⟨u,y,j⟩:=qQ (M:=M) (w:=w) e;exact .agg (by simpa using u) y λi c hi=>by simp_all
  .cases h
 .split at h
  .rename_i cs l e;cases h;obtain⟨u,y,j⟩:=qQ (M:=M) (w:=w) e;exact .tuple (by simpa using u) λi c hi=>by simp_all
  .cases h
 .exact(xL h).1
def Tx(D:HOk P M0 S){T}{z}(y:bW P T=some z)(C:(AV.p z).cells.isSome=true) :
  aU P M0 S (Instr.alloc T true (.tuple #[])) (.val (.ptr S.h.length 1 0 0) (S.h++[.row z.cells.length [.p z]])):=by
 obtain⟨v,A,q⟩:=lQ y S.w;obtain⟨cs,e⟩:=iM.1 C;have i:Rep M0 S v (.p z):=iS q;have j:cs.length=z.cells.length:=by
  cases z with
  |tuple l=>simp[AV.cells]at e
  |_=>(simp[AV.cells]at e;subst e;simp)
 obtain⟨G,v',F,u,E⟩:=Fk (P:=P) D (T:=T) i e;refine⟨G,v',by rw[F,j],?_,E⟩;simp only[Sem.run_bind]at u;unfold Instr.alloc;simp_all
def La(u:HOk P M0 S){T e}(E:bW P T=some (.agg [.nilptr,.nilslice])) :
  aU P M0 S (Instr.alloc T true (.tuple #[])) (.val (.ref .bl S.h.length) (S.h++[.bld T e (.p .nilslice)])):=by
 obtain⟨v,F,A⟩:=lQ E S.w;have q:RepP (Avoid M0 S.m) S.w v (.agg [.nilptr,.nilslice]):=iS A;obtain⟨C,rfl,I⟩:∃C,v=.agg C/\C=#[.pointer none,.slice none 0 0]:=by
  cases q with
  |agg G L D=>
   rename_i C;refine⟨C,rfl,?_⟩;have l:=D 0 _ rfl;have j:=D 1 _ rfl;have y:C.size=2:=G;rw[ku]at l j;have K:C[0]?=some C[0]:=by simp
   have J:C[1]?=some C[1]:=by simp
   rw[K]at l;rw[J]at j;simp only[gY]at l j;apply tk
   .simpa using y
   .intro i hi z
    match i,hi,z with
    |0,_,_=>generalize C[0]=x at l;cases l;rfl
    |1,_,_=>generalize C[1]=x at j;cases j;rfl
 subst I
 have hok:ObjOk P M0 (S.new (.bld T e (.p .nilslice)) (.cells #[.pointer none,.slice none 0 0] T (0,0))) (some S.w.heap.size) (.bld T e (.p .nilslice)):=
  ⟨_,_,_,rfl,cg _ _,.inl rfl,.inl rfl,RepP.nilslice,λa n c h=>by cases h⟩
 refine⟨S.new (.bld T e (.p .nilslice)) (.cells #[.pointer none,.slice none 0 0] T (0,0)),.pointer (some ⟨S.w.heap.size,0,none⟩),rfl,?_,Ev.new _ M0 u (ba _) _ _,HOk.new u hok,
  ⟨_,rfl⟩,.inr ⟨⟨.bld T e (.p .nilslice),by simp[Mem.new],rfl⟩,S.w.heap.size,?_,rfl⟩⟩
 .unfold Instr.alloc;simp[F,newVar,newRow,Mem.new,Value.cells]
 .show (S.m++[some S.w.heap.size]).getD S.h.length none=_;rw[<-u.len];simp
def B'{α}(o n)(l:List α)(h:o+n<=l.length):(sub o n l).length=n:=by simp[sub];omega
def wE{M}{w}{b off sz l r}{xs:List PV}(f:Nat->Value)(K:l<=r)(J:r<=xs.length)
  (z:∀x,x∈xs->x.cells.length=sz/\∀c,c∈x.cells->c.isCell=true) (I:xs.length*sz≠0->¬M b)
  (G:∀k,k<xs.length*sz->w.cell? ⟨b,off+k,none⟩=some (f k))
  (D:∀(i j) (x c),xs[i]?=some x->x.cells[j]?=some c->RepP M w (f (i*sz+j)) c)
  {cap} {full} (y:r-l<=cap) (u:full=true->cap=r-l) :
  RepP M w (.slice (some ⟨b,off+l*sz,none⟩) (r-l) cap) (.slice sz ((xs.take r).drop l) full):=by
 have q:((xs.take r).drop l).length=r-l:=by simp;omega
 have v:∀(i:Nat) (x:PV),((xs.take r).drop l)[i]?=some x->xs[l+i]?=some x/\i<r-l:=by
  intro i x hi;have A:=(aC.1 hi).1;rw[sc,om,if_pos (by omega)]at hi;exact⟨hi,by omega⟩
 have C:(r-l)*sz+l*sz<=xs.length*sz:=by
  rw[<-eW];exact gp sz (by omega)
 refine .slice (λk=>f (l*sz+k)) (by omega) y u (λx hx=>?_) (λh=>?_) (λk E=>?_) (λi j x c hx F=>?_)
 .grind
 .grind
 .grind
 grind
def dH{i:Int}{k}{y:Nat}{code}(e:0<=i)(h:i<=y)(w):(Instr.sliceBound (.int k i) y code).run P w=.ok i.toNat w:=by
 simp[Instr.sliceBound,asIntOf,e,h]
def wL{x}{e}{n}(hx:x.isSome=e.isSome)(j:∀a v,x=some a->e=some v->Rep M0 S v a)(h:oU x=some n) :
  (n=none/\e=none)\/∃k i,n=some i/\e=some (.int k i):=by
 cases x with
 |none=>
  simp[oU]at h
  simp_all
 |some a=>
  cases e with
  |none=>simp at hx
  |some v=>
   cases a with
   |p q=>
    cases q with
    |int k i=>
     simp[oU]at h;have:=jR (j _ _ rfl rfl);grind
    |_=>simp[oU]at h
   |_=>simp[oU]at h
def sP{l r}{len a b}(h:oW l r len=some (a,b)):0<=l.getD 0/\l.getD 0<=r.getD len/\r.getD len<=len/\a=(l.getD 0).toNat/\b=(r.getD len).toNat:=by
 unfold oW at h;grind
def hG{l r m}{q u j}(n1:(l=none/\q=none)\/∃k i,l=some i/\q=some (.int k i))
  (I:(r=none/\u=none)\/∃k i,r=some i/\u=some (.int k i)) (L:(m=none/\j=none)\/∃k i,m=some i/\j=some (.int k i))
  {isS} {len cap a b} (O:oW l r len=some (a,b)) (K:len<=cap) (N:m=none\/(isS=true/\m=r)) (w) :
  (Instr.sliceBounds isS len cap q u j).run P w=.ok (a,b,m.elim cap λ_=>b) w:=by
 obtain⟨z,v,E,rfl,rfl⟩:=sP O;rcases L with⟨rfl,rfl⟩|⟨M,e,rfl,rfl⟩
 .rcases I with⟨rfl,rfl⟩|⟨k,i,rfl,rfl⟩<;>rcases n1 with⟨rfl,rfl⟩|⟨C,D,rfl,rfl⟩
  .rfl
  .have:=dH (P:=P) (k:=C) (y:=len) (code:=.sliceB) (i:=D) (by simpa using z) (by simpa using v) w;simp[Instr.sliceBounds,this]
  .have:=dH (P:=P) (k:=k) (y:=cap) (code:=if isS then .sliceAcap else .sliceAlen) (i:=i) (by grind) (by grind) w;simp[Instr.sliceBounds,this]
  .simp only[gY]at z v E;have F:=dH (P:=P) (k:=k) (y:=cap) (code:=if isS then .sliceAcap else .sliceAlen) (i:=i) (by omega) (by omega) w;have G:=dH (P:=P) (k:=C) (y:=i.toNat) (code:=.sliceB) (i:=D) z (by omega) w;simp[Instr.sliceBounds,F,G]
 .rcases N with h|⟨rfl,rfl⟩
  .cases h
  .rcases I with⟨h,_⟩|⟨k,i,h,rfl⟩
   .cases h
   .cases h;have v:l.getD 0<=e:=v;have E:e<=(len:Int):=E;have A:0<=e:=by omega
    have J:=dH (P:=P) (k:=M) (y:=cap) (code:=.slice3Acap) (i:=e) A (by omega) w;have F:=dH (P:=P) (k:=k) (y:=e.toNat) (code:=.slice3B) (i:=e) A (by omega) w;rcases n1 with⟨rfl,rfl⟩|⟨C,D,rfl,rfl⟩
    .simp[Instr.sliceBounds,F,J]
    .simp only[gY]at z v;have G:=dH (P:=P) (k:=C) (y:=e.toNat) (code:=.slice3C) (i:=D) z (by omega) w;simp[Instr.sliceBounds,F,G,J]
def o4{l:Option Int}{r}{e j}(n1:(l=none/\e=none)\/∃k i,l=some i/\e=some (.int k i))
  (z:∃k,j=some (.int k r)) {len cap:Nat} (q:0<=l.getD 0) (v:l.getD 0<=r) (u:r<=cap) (w) :
  (Instr.sliceBounds true len cap e j none).run P w=.ok ((l.getD 0).toNat,r.toNat,cap) w:=by
 obtain⟨k,rfl⟩:=z;rcases n1 with⟨rfl,rfl⟩|⟨A,C,rfl,rfl⟩
 .have:=dH (P:=P) (k:=k) (y:=cap) (code:=.sliceAcap) (i:=r) (by omega) u w;simp[Instr.sliceBounds,this]
 .simp only[gY]at q v;have E:=dH (P:=P) (k:=k) (y:=cap) (code:=.sliceAcap) (i:=r) (by omega) u w;have D:=dH (P:=P) (k:=A) (y:=r.toNat) (code:=.sliceB) (i:=C) q (by omega) w;simp[Instr.sliceBounds,E,D]
def Ba{l:Option Int}{r m}{e q j}(n1:(l=none/\e=none)\/∃k i,l=some i/\e=some (.int k i))
  (C:∃k,q=some (.int k r)) (A:∃k,j=some (.int k m)) {len cap:Nat} (u:0<=l.getD 0) (I:l.getD 0<=r) (K:r<=m) (G:m<=cap) (w) :
  (Instr.sliceBounds true len cap e q j).run P w=.ok ((l.getD 0).toNat,r.toNat,m.toNat) w:=by
 obtain⟨k,rfl⟩:=C;obtain⟨D,rfl⟩:=A;have v:=dH (P:=P) (k:=D) (y:=cap) (code:=.slice3Acap) (i:=m) (by omega) G w;have z:=dH (P:=P) (k:=k) (y:=m.toNat) (code:=.slice3B) (i:=r) (by omega) (by omega) w;rcases n1 with⟨rfl,rfl⟩|⟨E,F,rfl,rfl⟩
 .simp[Instr.sliceBounds,z,v]
 .simp only[gY]at u I;have J:=dH (P:=P) (k:=E) (y:=r.toNat) (code:=.slice3C) (i:=F) u (by omega) w;simp[Instr.sliceBounds,z,J,v]
def RZ(K:HOk P M0 S){T}{x}{v}{lo hi mx}{E D z}(hx:Rep M0 S v x)
  (e1:lo.isSome=E.isSome) (e2:hi.isSome=D.isSome) (e3:mx.isSome=z.isSome)
  (r1:∀a v,lo=some a->E=some v->Rep M0 S v a) (r2:∀a v,hi=some a->D=some v->Rep M0 S v a) (r3:∀a v,mx=some a->z=some v->Rep M0 S v a) :
  aU P M0 S (Instr.sliceAt T v E D z) (vM P T x lo hi mx S.h):=by
 unfold vM;split
 .rename_i l r m hl hr hm;have n1:=wL e1 r1 hl;have n2:=wL e2 r2 hr;have n3:=wL e3 r3 hm;split
  .rename_i sz xs full;split
   .rename_i e a b he q;split
    .rename_i y;have V:=di he;have h':RepP (Avoid M0 S.m) S.w v (.slice sz xs full):=hx;obtain⟨h0,h1,h2,ha,hb⟩:=sP q;have O:a<=b/\b<=xs.length:=by omega
     have R:∀(U:Option Int) (fl:Bool),m=U->(U=none\/U=r)->(fl=U.elim (full&&b==xs.length) λ_=>true) ->
       aU P M0 S (Instr.sliceAt T v E D z) (.val (.p (.slice sz ((xs.take b).drop a) fl)) S.h):=by
      intro U fl b3 a5 a6;subst b3
      cases h' with
      |slice f a7 u I hs hM a3 b0=>
       rename_i bl off len cap;subst a7;have j:=hG (P:=P) (isS:=true) (cap:=cap) n1 n2 n3 q u (a5.imp id λe=>⟨rfl,e⟩) S.w;generalize a0:(m.elim cap λ_=>b)=mc at j;have b4:b<=mc/\mc<=cap/\(fl=true->mc=b):=by
        subst a0;subst a6
        cases m with
        |none=>
         grind
        |some _=>grind
       refine aU.pure K (v':=.slice (some (if mc=a then⟨bl,off,none⟩ else⟨bl,off+a*sz,none⟩)) (b-a) (mc-a)) ?_ (aR ?_)
       .simp only[Instr.sliceAt,Instr.slice,Sem.run_bind,run_underlying V,bN,j,cj y,Sem.run_pure];by_cases hz:mc=a<;>simp[hz,gI]
       .by_cases hz:mc=a
        .have:(xs.take b).drop a=[]:=by simp;omega
         rw[this,if_pos hz,show b-a=0 by omega];exact .empty λ_=>by omega
        .rw[if_neg hz]
         exact wE f O.1 O.2 hs hM a3 b0 (by omega) λe=>by grind
      |empty I=>
       rename_i J cap;have Z:a=0:=by have:=O.1;have:=O.2;simp at this;omega
       have Y:b=0:=by have:=O.2;simp at this;omega
       subst Z;subst Y;have j:=hG (P:=P) (isS:=true) (len:=0) (cap:=cap) n1 n2 n3 q (cG _) (a5.imp id λe=>⟨rfl,e⟩) S.w;generalize a0:(m.elim cap λ_=>0)=mc at j;refine aU.pure K (v':=.slice (if mc=0 then J else J.map (·.add (0*sz))) (0-0) (mc-0)) ?_ (aR ?_)
       .simp only[Instr.sliceAt,Instr.slice,Sem.run_bind,run_underlying V,bN,j,cj y,Sem.run_pure]
       .simp only[List.take_nil,List.drop_nil,ud];refine .empty λe=>?_;grind
     split
     .grind
     grind[aU]
    simp[aU]
   simp[aU]
  .rename_i id a4 off len;split
   .rename_i e sz xs a b he A q;split
    .rename_i hc;obtain⟨y,hv⟩:=hc;have V:=di he;obtain⟨h0,h1,h2,ha,hb⟩:=sP q;have O:a<=b/\b<=len:=by omega
     rcases dM hx.2 A hv with⟨rfl,G,a1,J,cap,rfl⟩|⟨bl,cap,T',n,N,rfl,u,L,C,F⟩|⟨M,rfl,rfl⟩
     .have j:(Instr.sliceBounds true 0 cap E D z).run P S.w=.ok (a,b,cap) S.w:=hG (P:=P) (isS:=true) (len:=0) (cap:=cap) n1 n2 n3 q (cG _) (.inl rfl) S.w;refine aU.pure K (v':=.slice (if cap=a then J else J.map (·.add (a*sz))) (b-a) (cap-a)) ?_ ⟨⟨_,_,_,rfl⟩,.inr ⟨sz,xs,A,by omega,λ_=>.inl ⟨by omega,G,by omega,_,_,by rw[show b-a=0 by omega]⟩⟩⟩;simp only[Instr.sliceAt,Instr.slice,Sem.run_bind,run_underlying V,bN,j,cj y,Sem.run_pure]
     .have j:(Instr.sliceBounds true len cap E D z).run P S.w=.ok (a,b,cap) S.w:=hG (P:=P) (isS:=true) (cap:=cap) n1 n2 n3 q u.1 (.inl rfl) S.w;refine aU.pure K (v':=.slice (some (if cap=a then⟨bl,off*sz,none⟩ else⟨bl,(off+a)*sz,none⟩)) (b-a) (cap-a)) ?_ ⟨⟨_,_,_,rfl⟩,.inr ⟨sz,xs,A,by omega,λ_=>?_⟩⟩
      .simp only[Instr.sliceAt,Instr.slice,Sem.run_bind,run_underlying V,bN,j,cj y,Sem.run_pure];by_cases hz:cap=a<;>simp[hz,gI,eW]
      .by_cases X:cap=a
       .by_cases Z:a=0
        .subst Z;rw[if_pos X];have Y:b=0:=by have:=u.1;omega
         subst Y;exact .inr (.inl ⟨bl,cap-0,T',n,N,by simp,⟨by omega,by omega⟩,L,by simpa using C,by omega⟩)
        grind[sliceAt]
       .rw[if_neg X];have b7:=u.1;have b6:=u.2;refine .inr (.inl ⟨bl,cap-a,T',n,N,rfl,⟨by omega,by omega⟩,L,?_⟩);grind
     .have j:(Instr.sliceBounds true 0 0 E D z).run P S.w=.ok (a,b,0) S.w:=hG (P:=P) (isS:=true) (len:=0) (cap:=0) n1 n2 n3 q (ba _) (.inl rfl) S.w;refine aU.pure K (v':=.slice none 0 0) ?_ ⟨⟨_,_,_,rfl⟩,.inr ⟨sz,xs,A,by omega,λ_=>.inr (.inr ⟨M,rfl,by omega⟩)⟩⟩;simp only[Instr.sliceAt,Instr.slice,Sem.run_bind,run_underlying V,bN,j,cj y,Sem.run_pure];grind
    simp[aU]
   .rename_i e sz xs U he A;split
    .rename_i hc;obtain⟨y,hv,a2,c0,c1,c2,c3⟩:=hc;have V:=di he;obtain⟨rr,rfl⟩:=iM.1 a2;simp only[gY]at c1 c2;have k2:∃k,D=some (.int k rr):=by
      rcases n2 with⟨h,_⟩|⟨k,i,h,h'⟩
      .cases h
      .grind
     have k3:∃k,z=some (.int k U):=by
      rcases n3 with⟨h,_⟩|⟨k,i,h,h'⟩
      .cases h
      .grind
     have R:∀(J:Option Addr) (ln cap:Nat),v=.slice J ln cap->U<=cap->aU P M0 S (Instr.sliceAt T v E D z) (.val .undef S.h):=by
      intro J ln cap a8 b5;subst a8;have j:=Ba (P:=P) (len:=ln) n1 k2 k3 c0 c1 c2 b5 S.w;refine aU.pure K (v':=.slice (if U.toNat=(l.getD 0).toNat then J else J.map (·.add ((l.getD 0).toNat*sz))) (rr.toNat-(l.getD 0).toNat) (U.toNat-(l.getD 0).toNat)) ?_ trivial;simp only[Instr.sliceAt,Instr.slice,Sem.run_bind,run_underlying V,bN,j,cj y,Sem.run_pure]
     rcases dM hx.2 A hv with⟨rfl,G,a1,J,cap,rfl⟩|⟨bl,cap,T',n,N,rfl,u,L,C,F⟩|⟨M,rfl,rfl⟩
     .grind
     .grind
     .refine R _ _ _ rfl ?_;have h0:=K.obj id _ A;rw[M]at h0;rcases h0 with⟨_,rfl⟩|⟨b,_,_,h,_⟩
      .grind
      .cases h
    simp[aU]
   .rename_i e sz xs he A _;split
    .rename_i hc;obtain⟨y,hv,a2,c0,c1,c3⟩:=hc;have V:=di he;obtain⟨rr,rfl⟩:=iM.1 a2;simp only[gY]at c1 c3 |-;have k2:∃k,D=some (.int k rr):=by
      rcases n2 with⟨h,_⟩|⟨k,i,h,h'⟩
      .cases h
      .grind
     have k3:z=none:=by
      rcases n3 with⟨_,h⟩|⟨k,i,h,h'⟩
      .exact h
      .cases h
     subst k3;generalize ha:(l.getD 0).toNat=a;generalize hb:rr.toNat=b;rcases dM hx.2 A hv with⟨rfl,G,a1,J,cap,rfl⟩|⟨bl,cap,T',n,N,rfl,u,L,C,F⟩|⟨M,rfl,rfl⟩
     .have j:=o4 (P:=P) (len:=0) (cap:=cap) n1 k2 c0 c1 (by omega) S.w;rw[ha,hb]at j;refine aU.pure K (v':=.slice (if cap=a then J else J.map (·.add (a*sz))) (b-a) (cap-a)) ?_ ⟨⟨_,_,_,rfl⟩,.inr ⟨sz,xs,A,by omega,λ_=>.inl ⟨by omega,G,by omega,_,_,by rw[show b-a=0 by omega]⟩⟩⟩;simp only[Instr.sliceAt,Instr.slice,Sem.run_bind,run_underlying V,bN,j,cj y,Sem.run_pure]
     .have j:=o4 (P:=P) (len:=len) (cap:=cap) n1 k2 c0 c1 (by omega) S.w;rw[ha,hb]at j;refine aU.pure K (v':=.slice (some (if cap=a then⟨bl,off*sz,none⟩ else⟨bl,(off+a)*sz,none⟩)) (b-a) (cap-a)) ?_ ⟨⟨_,_,_,rfl⟩,.inr ⟨sz,xs,A,by omega,λ_=>?_⟩⟩
      .simp only[Instr.sliceAt,Instr.slice,Sem.run_bind,run_underlying V,bN,j,cj y,Sem.run_pure];by_cases hz:cap=a<;>simp[hz,gI,eW]
      .by_cases X:cap=a
       .by_cases G:a4=0
        .refine .inr (.inl ⟨bl,cap-a,T',n,N,?_,⟨by omega,by omega⟩,L,?_,by omega⟩)
         .grind
         grind
        grind[sliceAt]
       .rw[if_neg X];refine .inr (.inl ⟨bl,cap-a,T',n,N,rfl,⟨by omega,by omega⟩,L,?_⟩);grind
     .have h0:=K.obj id _ A;rw[M]at h0;rcases h0 with⟨_,rfl⟩|⟨b,_,_,h,_⟩
      .have j:=o4 (P:=P) (len:=0) (cap:=0) n1 k2 c0 c1 (by grind) S.w;rw[ha,hb]at j;have Z:a=0:=by simp at hv;omega
       have Y:b=0:=by simp at hv;omega
       refine aU.pure K (v':=.slice none 0 0) ?_ ⟨⟨_,_,_,rfl⟩,.inr ⟨sz,[],A,by omega,λ_=>.inr (.inr ⟨M,rfl,by omega⟩)⟩⟩;simp only[Instr.sliceAt,Instr.slice,Sem.run_bind,run_underlying V,bN,j,cj y,Sem.run_pure];simp[Z,Y]
      .cases h
    simp[aU]
   simp[aU]
  .rename_i s;split
   .rename_i a b q;split
    .rename_i a9;have h':RepP (Avoid M0 S.m) S.w v (.str s):=hx;cases h';have j:(Instr.sliceBounds false s.size s.size E D z).run P S.w=.ok (a,b,s.size) S.w:=hG (P:=P) (isS:=false) (cap:=s.size) n1 n2 n3 q (ba _) (.inl rfl) S.w;have b2:z=none:=by
      rcases n3 with⟨_,h⟩|⟨_,_,h,_⟩
      .exact h
      .cases h
     subst b2;refine aU.pure K (v':=.string (s.extract a b)) ?_ (aR (.str _));simp[Instr.sliceAt,Instr.slice,run_underlying (gM a9),j]
    simp[aU]
   simp[aU]
  .split
   .rename_i e ab he q;split
    .rename_i hs;obtain⟨sz,y⟩:=iM.1 hs;obtain⟨a,b⟩:=ab;obtain⟨h0,h1,h2,ha,hb⟩:=sP q;have h':RepP (Avoid M0 S.m) S.w v .nilslice:=hx;cases h';have j:(Instr.sliceBounds true 0 0 E D z).run P S.w=.ok (a,b,0) S.w:=hG (P:=P) (isS:=true) (len:=0) (cap:=0) n1 n2 n3 q (ba _) (.inl rfl) S.w;refine aU.pure K (v':=.slice none 0 0) ?_ (aR .nilslice);simp only[Instr.sliceAt,Instr.slice,Sem.run_bind,run_underlying (di he),bN,j,cj y,Sem.run_pure];grind
    simp[aU]
   simp[aU]
  simp[aU]
 simp[aU]
variable {P:Program} {M0:Nat->Prop} {S:Mem}
def yU:∀(e) (off k) (C),(e.zipIdx k).foldl (λcs (c,j)=>cs.setIfInBounds (off+j) c) C=lJ C (off+k) e
 |[],_,_,_=>rfl
 |v::r,off,k,C=>by
  simp only[List.zipIdx_cons,pD,lJ];rw[yU r off (k+1)];rfl
def Eh{e}:∀{ps} {y} {cs l} {C},
  ps.length=y.length->(∀(i:Nat) p q,ps[i]?=some p->y[i]?=some q->p.1=q.1/\Rep M0 S q.2 p.2)->C.size=cs.length->jt M0 S (λj=>C.getD j undef) cs ->
  xx e ps cs=some l->∃F,Instr.fill e C y=some F/\F.size=l.length/\jt M0 S (λj=>F.getD j undef) l
 |[],[],cs,l,C,_,_,E,D,h=>by
  simp[xx]at h;subst h
  exact⟨C,rfl,E,D⟩
 |[],_::_,_,_,_,z,_,_,_,_=>by simp at z
 |_::_,[],_,_,_,z,_,_,_,_=>by simp at z
 |(i,x)::ps,(O,v)::y,cs,l,C,z,K,E,D,h=>by
  obtain⟨M,L⟩:=K 0 (i,x) (O,v) rfl rfl;simp only at M L;subst M;simp only[xx]at h;split at h
  .rename_i off n new I U;split at h
   .rename_i u;obtain⟨Z,Y⟩:=u;obtain⟨R,G⟩:=kB L U;have T:Instr.fill e C ((i,v)::y)=Instr.fill e (lJ C off v.cells.toList) y:=by
     simp only[Instr.fill,I];rw[if_neg (by simp;omega)]
     congr 1
     rw[<-OJ,Array.toList_zipIdx];have:=yU v.cells.toList off 0 C;simpa using this
    rw[T];have N:v.cells.toList.length=new.length:=by simpa using R
    refine Eh (by simpa using z) (λk p q X V=>K (k+1) p q (by simpa using X) (by simpa using V)) (by rw[jV,pT _ _ _ (by omega)];exact E) ?_ h;intro j c A;have a0:=(aC.1 A).1;rw[tD _ _ _ _ (by omega)]at A;show c.isCell=true/\cb M0 S ((lJ C off v.cells.toList).getD j undef) c;rw[j5 _ _ _ _ (by omega)];split at A
    .rename_i J;rw[if_pos (by omega),iN];exact G (j-off) c A
    .rename_i J;rw[if_neg (by omega)];exact D j c A
   .cases h
  .cases h
def Tm(V:HOk P M0 S){T}{ps}{y}(U:ps.length=y.toList.length)
  (R:∀(i:Nat) p q,ps[i]?=some p->y.toList[i]?=some q->p.1=q.1/\Rep M0 S q.2 p.2):aU P M0 S (Instr.build T y) (vO P T ps S.h):=by
 unfold vO;split
 .rename_i z E;have D:∃it v,P.info? T=some it/\it.zero=some v/\v.cells.size=(z.map AV.p).length/\jt M0 S (λj=>v.cells.getD j undef) (z.map .p):=by
   unfold bW at E
   cases hi:P.info? T with
   |none=>simp[hi]at E
   |some it=>
    cases l:it.zero with
    |none=>grind
    |some v=>
     simp[hi,l]at E;have L:Rep M0 S v (.p (.agg z)):=iS E;obtain⟨G,F⟩:=kB L (cs:=z.map .p) rfl;grind
  obtain⟨it,v,hi,l,K,J⟩:=D;split
  .rename_i Z u;split
   .rename_i cs C;obtain⟨I,G,F,O⟩:=Eh U R K J C;have N:P.built T y.toList=some I:=by
     unfold eL at u;split at u
     .rename_i fs X;unfold Program.built;simp_all
     .cases u
    exact aU.pure V (run_build S.w T y I N) (qG (yw F O))
   simp[aU]
  .split
   .rename_i n e Y;split
    .rename_i s M;split
     .rename_i cs C;obtain⟨I,G,F,O⟩:=Eh U R K J C;have N:P.built T y.toList=some I:=by
       unfold du at M
       cases A:P.info? e with
       |none=>simp[A]at M
       |some ie=>
        simp[A]at M;subst M;unfold Program.built;simp only[hi,oM Y,l,A];exact G
      exact aU.pure V (run_build S.w T y I N) (qG (yw F O))
     simp[aU]
    simp[aU]
   simp[aU]
 simp[aU]
def Mem.junk (S:Mem) (ob:Obj):Mem:=⟨S.m,S.h,S.w.alloc ob⟩
def Ev.junk(base)(S)(ob):Ev base S (S.junk ob):=⟨Fr.alloc _ _ _,λ_ h=>.inl h,λ_ o _ h=>⟨o,h,ObjEv.refl _ _⟩⟩
def HOk.junk(e:HOk P M0 S)(ob:Obj):HOk P M0 (S.junk ob) where
 len:=e.len
 lt:=λb h=>by have:=e.lt b h;simp[Mem.junk];omega
 m0:=λb h=>by obtain⟨l,j⟩:=e.m0 b h;exact⟨by simp[Mem.junk];omega,j⟩
 inj:=e.inj
 gl:=(Ev.junk 0 S ob).glob e.gl
 obj:=λid o h=>(e.obj id o h).keep (Ev.junk _ S ob) λb i=>iq _ _ _ (e.lt b (oy i).1)
def yK{T}{n}(h:pw P T n=true)(w):∃z,(zeroValue T).run P w=.ok z w/\z.cells.size=n:=by
 unfold pw at h
 cases hi:P.info? T with
 |none=>simp[hi]at h
 |some i=>
  cases e:i.zero with
  |none=>grind
  |some v=>simp[hi,e]at h;exact⟨v,by simp[zeroValue,typeInfo,hi,e],h⟩
def IT{sz}:∀{ps} {A} {i} {xs} {C},
  ps.length=A.length->(∀(i:Nat) p q,ps[i]?=some p->A[i]?=some q->p.1=q.1/\Rep M0 S q.2 p.2)->tY i sz ps=some xs->(i+xs.length)*sz<=C.size ->
  ∃D,Instr.fill (λi=>some (i*sz,sz)) C A=some D/\D.size=C.size/\(∀k,k<i*sz->D.getD k undef=C.getD k undef) /\
   ∀(j) (x),xs[j]?=some x->∃cs,x.cells=some cs/\cs.length=sz/\∀(l) (c),cs[l]?=some c->c.isCell=true/\cb M0 S (D.getD ((i+j)*sz+l) undef) c
 |[],[],i,xs,C,_,_,h,_=>by
  simp[tY]at h;subst h
  exact⟨C,rfl,rfl,λ_ _=>rfl,λj x G=>by simp at G⟩
 |[],_::_,_,_,_,F,_,_,_=>by simp at F
 |_::_,[],_,_,_,F,_,_,_=>by simp at F
 |(X,x)::ps,(L,v)::A,i,xs,C,F,R,h,Z=>by
  obtain⟨U,T⟩:=R 0 (X,x) (L,v) rfl rfl;simp only at U T;subst U;simp only[tY]at h;split at h
  .rename_i z;obtain⟨rfl,u⟩:=z
   cases e:x.cells with
   |none=>simp[e]at u
   |some cs=>
    simp[e]at u;split at h
    .rename_i l N;cases h;obtain⟨hv,M⟩:=kB T e;have I:(i+1+l.length)*sz<=C.size:=by simpa[Nat.add_comm,Nat.add_left_comm,lc]using Z
     have a5:(i+1)*sz<=C.size:=fP (gp sz (by omega)) I;have a4:(i+1)*sz=i*sz+sz:=by rw[eW,wa]
     have J:v.cells.toList.length=sz:=by simp;omega
     have Y:Instr.fill (λi=>some (i*sz,sz)) C ((i,v)::A)=Instr.fill (λi=>some (i*sz,sz)) (lJ C (i*sz) v.cells.toList) A:=by
      simp only[Instr.fill];rw[if_neg (by grind)]
      congr 1
      rw[<-OJ,Array.toList_zipIdx];have:=yU v.cells.toList (i*sz) 0 C;simpa using this
     obtain⟨D,g1,g2,V,g4⟩:=IT (C:=lJ C (i*sz) v.cells.toList) (i:=i+1) (by simpa using F) (λk p q h3 h4=>R (k+1) p q (by grind) (by grind)) N (by rw[jV];exact I);refine⟨D,by grind,by rw[g2,jV],λk hk=>?_,λj y G=>?_⟩
     .rw[V k (by omega),j5 _ _ _ _ (by omega),if_neg (by omega)]
     .cases j with
      |zero=>
       simp at G;subst G;refine⟨cs,e,u,λE c K=>?_⟩;have a0:=(aC.1 K).1;rw[kx,V _ (by omega),j5 _ _ _ _ (by omega),if_pos (by omega),iN,show i*sz+E-i*sz=E by omega]
       exact M E c K
      |succ j=>
       grind
    .cases h
  .cases h
def Pn{xs}{l}(h:iP xs=some l){i:Nat}{q}(hi:l[i]?=some q):xs[i]?=some (.p q):=by
 rw[kD h];simp[hi]
def MW{sz n b}{xs}{l}{C}{T}{w}{M}(F:iP xs=some l)(E:xs.length=n)(K:w.heap[b]?=some (.cells C T (0,0)))(L:¬M b)
  (D:n*sz<=C.size) (z:∀(i) (x),xs[i]?=some x->∃cs,x.cells=some cs/\cs.length=sz/\∀(j) (c),cs[j]?=some c->c.isCell=true/\∀q,c=.p q->RepP M w (C.getD (i*sz+j) undef) q) :
  RepP M w (.slice (some ⟨b,0,none⟩) n n) (.slice sz l true):=by
 have y:l.length=n:=by rw[kD F]at E;simpa using E
 have e:∀(i:Nat) (q:PV),l[i]?=some q->(q.cells.length=sz/\∀c,c∈q.cells->c.isCell=true)/\∀(j:Nat) (c:PV),q.cells[j]?=some c->RepP M w (C.getD (i*sz+j) undef) c:=by
  intro i q hi;obtain⟨cs,v,N,G⟩:=z i _ (Pn F hi);have A:cs=q.cells.map .p:=by
   cases q with
   |tuple l=>simp[AV.cells]at v
   |_=>(simp[AV.cells]at v;exact v.symm)
  subst A;refine⟨⟨by simpa using N,λc J=>?_⟩,λj c u=>?_⟩
  .obtain⟨j,u⟩:=fN J;exact(G j (.p c) (by simp[u])).1
  .simp_all
 refine .slice (λk=>C.getD k undef) (by omega) (ba _) (λ_=>rfl) (λx hx=>?_) (λ_=>L) (λk I=>?_) (λi j x c hx u=>(e i x hx).2 j c u)
 .obtain⟨i,hi⟩:=fN hx;grind
 .rw[gZ];exact kP K k (by grind)
def GF(A:HOk P M0 S){T}{mu}{n}{ps}{I}(hl:ps.length=I.toList.length)
  (hp:∀(i:Nat) p q,ps[i]?=some p->I.toList[i]?=some q->p.1=q.1/\Rep M0 S q.2 p.2):aU P M0 S (Instr.buildSlice T n I) (mQ P T mu n ps S.h):=by
 unfold mQ;split
 .rename_i e he;split
  .rename_i sz L;split
   .rename_i xs K;split
    .rename_i hc;obtain⟨E,X,O,Y⟩:=hc;have Z:=di he;obtain⟨z,D,a0⟩:=yK Y S.w;have u:∃G:Array Value,(if n*sz=0 then(pure #[]:Sem (Array Value)) else do pure (<-zeroValue e).cells).run P S.w=.ok G S.w:=by
      by_cases F:n*sz=0
      .simp_all
      .simp_all
     obtain⟨G,u⟩:=u;obtain⟨v,U,g2,_,J⟩:=IT (C:=(Array.range (n*sz)).map (G[·%G.size]!)) (i:=0) hl hp K (by simp[E]);simp only[gZ]at J;have N:v.size=n*sz:=by rw[g2];simp
     have y:(Instr.buildSlice T n I).run P S.w=.ok (.slice (some ⟨S.w.heap.size,0,none⟩) n n) (S.w.alloc (.cells v e)):=by
      unfold Instr.buildSlice;simp only[Sem.run_bind,run_underlying Z,bN,cj L];rw[if_neg (by omega)];by_cases F:n*sz=0
      .rw[if_pos F]at u |-;simp only[Sem.run_pure,Result.ok.injEq,and_true]at u;subst u;simp only[Sem.run_bind,Sem.run_pure,bN,U];simp[newRow]
      .rw[if_neg F]at u |-;simp only[Sem.run_bind,D,bN,Sem.run_pure,Result.ok.injEq,and_true]at u;subst u;simp only[Sem.run_bind,D,Sem.run_pure,bN,U];simp[newRow]
     split
     .rename_i a4 M;rename_i l _;refine⟨S.junk (.cells v e),_,rfl,y,Ev.junk _ _ _,HOk.junk A _,?_⟩;refine MW M E (T:=e) (cg _ _) (λh=>?_) (by omega) (λi x hx=>?_)
      .rcases h with h|h
       .have:=(A.m0 _ h).1;omega
       .have:=A.lt _ h;omega
      .obtain⟨cs,a1,a2,V⟩:=J i x hx;refine⟨cs,a1,a2,λj c R=>⟨(V j c R).1,λq hq=>?_⟩⟩;subst hq;exact(Ev.junk 0 S (.cells v e)).repP (V j _ R).2
     .refine⟨S.new (.row sz xs) (.cells v e),_,rfl,y,Ev.new _ _ A (ba _) _ _,HOk.new A (.inr ⟨_,e,v,rfl,cg _ _,by rw[E];omega,?_⟩),⟨_,_,_,rfl⟩,.inr ⟨sz,xs,by simp[Mem.new],by omega,λ_=>.inr (.inl ⟨S.w.heap.size,n,e,v.size,?_,by simp,⟨ba _,by omega⟩,?_,by simp;omega,by omega⟩)⟩⟩
      .exact eO.keep (Ev.new _ _ A (ba _) _ _) J
      .have:=A.len;grind[Mem.new]
      .show (S.w.alloc (.cells v e)).shape? S.w.heap.size=_;unfold World.shape?;rw[cg]
    simp[aU]
   simp[aU]
  simp[aU]
 simp[aU]
open Go.IntKind (i64)
variable {P:Program} {M0:Nat->Prop} {S:Mem}
def FE(need):∀(r c),c<=2*need+512->Builtin.growBy need r c<=2*need+512
 |0,c,h=>h
 |r+1,c,h=>by
  unfold Builtin.growBy;split
  .exact h
  .rename_i h';exact FE need r _ (by omega)
def Cy(need old)(h:old<=need):Builtin.nextslicecap need old<=2*need+512:=by
 unfold Builtin.nextslicecap;split
 .omega
 .split
  .omega
  .exact FE need 4 old (by omega)
def SX{need old bytes}(h:old<=need)(i:need<=ai)(e:bytes<=256):¬Builtin.nextslicecap need old*bytes > 2^48:=by
 have q:=Cy need old h;have l:Builtin.nextslicecap need old*bytes<=(2*ai+512)*256:=Nat.mul_le_mul (by omega) e;have j:(2*ai+512)*256<=2^48:=by decide
 omega
def n9(hS:HOk P M0 S){sz}{y}{v}{ys}(R:Rep M0 S v y)(h:mn S.h sz y=some ys) :
  ∃D,(Builtin.lenOf v).run P S.w=.ok ys.length S.w/\(∀w,w.heap=S.w.heap->(Builtin.firstCells sz ys.length v).run P w=.ok D w)/\D.size=ys.length*sz/\eO M0 S sz D ys:=by
 unfold mn at h;split at h
 .cases h;have h':RepP (Avoid M0 S.m) S.w v .nilslice:=R;cases h';exact⟨#[],rfl,λw _=>rfl,by simp,λi x hx=>by simp at hx⟩
 .rename_i e xs full;split at h
  .rename_i A;subst A;cases h;have h':RepP (Avoid M0 S.m) S.w v (.slice e xs full):=R
   cases h' with
   |slice f N O a3 hs hM I hr=>
    rename_i b off len cap;subst N;refine⟨((List.range (xs.length*e)).map f).toArray,by simp[Builtin.lenOf],λw hw=>?_,by simp,λi x hx=>?_⟩
    .have:=run_loadCells (P:=P) w ⟨b,off,none⟩ (xs.length*e) f (λj J=>by
      rw[gI,<-I j J];simp only[World.cell?,hw])
     simpa[Builtin.firstCells]using this
    .simp only[cX,bg]at hx;obtain⟨q,V,rfl⟩:=hx;have E:=hs q (aB V);refine⟨_,Bg E,by grind,λj c z=>?_⟩;simp only[cX,bg]at z;obtain⟨d,X,rfl⟩:=z;have a0:=(aC.1 X).1;rw[jN _ _ _ (j3 (aC.1 V).1 (by omega))]
     exact⟨E.2 d (aB X),hr i j q d V X⟩
   |@empty a cap _ _ hf=>
    refine⟨#[],rfl,λw _=>?_,by simp,λi x hx=>by simp at hx⟩;simp only[bx,bS]
    cases a with
    |none=>rfl
    |some a=>simp[Builtin.firstCells,loadCells,loadCellsFrom]
  .cases h
 .rename_i s;split at h
  .rename_i A;subst A;cases h;have h':RepP (Avoid M0 S.m) S.w v (.str s):=R;cases h';refine⟨(Lib.strCells s).toArray,by simp[Builtin.lenOf],λw _=>?_,by simp[Lib.strCells_length],λi x hx=>?_⟩
   .have:=Lib.run_firstCells_string (P:=P) (w:=w) 1 s;simp_all
   .simp only[cX,bg]at hx;obtain⟨b,Y,rfl⟩:=hx;refine⟨[.p (.int .u8 b.toNat)],rfl,rfl,λj c J=>?_⟩
    cases j with
    |zero=>
     cases J;refine⟨rfl,?_⟩;have:(Lib.strCells s).toArray.getD (i*1+0) undef=.int .u8 b.toNat:=by
      simp[Lib.strCells,ku,Y]
     rw[this]
     exact .int _ _
    |succ j=>cases J
  .cases h
 .rename_i id a5 off len;split at h
  .rename_i e xs L;split at h
   .rename_i z;obtain⟨rfl,hv,K⟩:=z;cases h;have l:=B' off len xs K;rcases dM R.2 L hv with⟨rfl,a6,a4,ad,cap,rfl⟩|⟨b,cap,T',n,hm,rfl,O,a7,a2,U⟩|⟨a8,rfl,rfl⟩
    .refine⟨#[],by rw[l];rfl,λw _=>?_,by simp[l],λi x hx=>by grind⟩;rw[l]
     cases ad with
     |none=>rfl
     |some a=>simp[Builtin.firstCells,loadCells,loadCellsFrom]
    .obtain⟨C,T,Y,G,a1⟩:=gK hS L hm;have M:(off+len)*e<=C.size:=fP (gp e K) G;rw[eW]at M;refine⟨((List.range (len*e)).map λk=>C.getD (off*e+k) undef).toArray,by rw[l];rfl,λw hw=>?_,by simp[l],λi x hx=>?_⟩
     .have:=run_loadCells (P:=P) w ⟨b,off*e,none⟩ (len*e) (λk=>C.getD (off*e+k) undef) (λj J=>by
       rw[gI]
       exact kP (by rw[hw];exact Y) _ (by omega))
      simpa[Builtin.firstCells,l]using this
     .have F:=(aC.1 hx).1;rw[l]at F;have Z:xs[off+i]?=some x:=by
       unfold sub at hx;rw[om,if_pos F,sc]at hx;exact hx
      obtain⟨cs,h1,h2,h3⟩:=a1 _ x Z;refine⟨cs,h1,h2,λj c z=>?_⟩;have a0:=(aC.1 z).1;rw[jN _ _ _ (j3 F (by omega))];grind
    .have u:(sub off 0 xs).length=0:=l;exact⟨#[],by rw[u];rfl,λw _=>by rw[u];rfl,by simp[u],λi x hx=>by grind⟩
   .cases h
  .cases h
 .cases h
def yL{sz n1 E}{O D R}{xs ys}(F:O.size=n1*sz)(I:D.size=E*sz)(J:xs.length=n1)(L:ys.length=E)
  (hx:eO M0 S sz O xs) (G:eO M0 S sz D ys):eO M0 S sz (O++D++R) (xs++ys):=by
 intro i x hi;have u:∀k,k<O.size->(O++D++R).getD k undef=O.getD k undef:=by
  intro k v;simp[ku,T0,v]
 have l:∀k,k<D.size->(O++D++R).getD (O.size+k) undef=D.getD k undef:=by
  intro k v;simp[ku,T0,v,show ¬(O.size+k<O.size) by omega]
 rcases dO i xs.length with h|h
 .rw[bJ h]at hi;obtain⟨cs,A,z,y⟩:=hx i x hi;refine⟨cs,A,z,λj c q=>?_⟩;have C:=(aC.1 q).1;rw[u _ (by rw[F];exact j3 (by omega) (by omega))];exact y j c q
 .rw[dB h]at hi;obtain⟨cs,A,z,y⟩:=G _ x hi;refine⟨cs,A,z,λj c q=>?_⟩;have C:=(aC.1 q).1;have K:=(aC.1 hi).1;have e:i*sz+j=O.size+((i-xs.length)*sz+j):=by
   rw[F,<-J,<-lc,<-eW,show xs.length+(i-xs.length)=i by omega]
  rw[e,l _ (by rw[I];exact j3 (by omega) (by omega))];exact y j c q
def mY{T U e}{ty}{sz bytes}{base}{len cap n}{y}{O D}(X:P.underlying T=some (.slice e))(C:(∃f,P.underlying U=some (.slice f))\/P.underlying U=some .string)
  (G:du P e=some sz) (q:rZ P e=some bytes) (V:bytes<=256) (M:pw P e sz=true) (L:len+n<=ai) (I:cap<len+n) (w)
  (v:(Builtin.lenOf y).run P w=.ok n w) (Y:(Builtin.firstCells sz len (.slice base len cap)).run P w.drew=.ok O w.drew) (Z:(Builtin.firstCells sz n y).run P w.drew=.ok D w.drew) :
  ∃(l:Nat) (R:Array Value),len+n<=l/\R.size=(l-(len+n))*sz /\
   (Builtin.append_ #[T,U] ty #[.slice base len cap,y]).run P w=.ok (.slice (some ⟨w.heap.size,0,none⟩) (len+n) l) (w.drew.alloc (.cells (O++D++R) e)):=by
 obtain⟨i,hi,J⟩:=ww q w;obtain⟨z,F,E⟩:=yK M w.drew;have K:(typeInfo e).run P w.drew=.ok i w.drew:=by
  obtain⟨i',a0,_⟩:=ww q w.drew;have:∃j,P.info? e=some j:=by
   unfold rZ at q
   cases N:P.info? e with
   |none=>simp[N]at q
   |some j=>simp
  obtain⟨j,S⟩:=this;simp[typeInfo,S]at hi |-;exact hi
 refine⟨(Question.appendCap (len+n) cap e).cut (w.tape w.drawn (.appendCap (len+n) cap e)),Builtin.zeroCells z.cells ((Question.appendCap (len+n) cap e).cut (w.tape w.drawn (.appendCap (len+n) cap e))-(len+n)),?_,?_,?_⟩
 .simp[Question.cut]
 .simp[Builtin.zeroCells,E]
 .have u:¬(((len+n:Nat):Int) > i64.max):=by
   have:i64.max=9223372036854775807:=by decide
   rw[this];unfold ai at L;omega
  have A:=SX (old:=cap) (bytes:=bytes) (Nat.le_of_lt I) L V;rcases C with⟨_,C⟩|C
  all_goals
   unfold Builtin.append_;simp only[G',Ha,AU,Sem.run_bind,run_underlying X,run_underlying C,cj G,bN,Sem.run_pure];simp only[fD,if_false,Sem.run_bind,v,bN];rw[if_neg (by omega)];simp only[hi,bN,Sem.run_bind];rw[if_neg (by omega)];simp only[Sem.run_bind,hi,bN,J];rw[if_neg A];simp only[Sem.run_bind,run_choose,Question.forced,fD,if_false,bN,World.drew_eq,K,run_askRoom,Y];simp[newRow,Z,F]
def pR{T U e}{ty}{sz}{b len cap n}{y}{C D}{E}(G:P.underlying T=some (.slice e))(q:(∃f,P.underlying U=some (.slice f))\/P.underlying U=some .string)
  (u:du P e=some sz) (A:len+n<=cap) (w) (j:(Builtin.lenOf y).run P w=.ok n w) (I:(Builtin.firstCells sz n y).run P w=.ok D w)
  (F:w.heap[b]?=some (.cells C E (0,0))) (l:len*sz+D.size<=C.size) (i:∀v∈D.toList,v.oneCell'=true) :
  (Builtin.append_ #[T,U] ty #[.slice (some ⟨b,0,none⟩) len cap,y]).run P w=.ok (.slice (some ⟨b,0,none⟩) (len+n) cap) (w.setRow b (lJ C (len*sz) D.toList)):=by
 have z:=kA (P:=P) b E D.toList (len*sz) 0 C w F (by simpa using l) i;rcases q with⟨_,q⟩|q
 all_goals
  unfold Builtin.append_;simp only[G',Ha,AU,Sem.run_bind,run_underlying G,run_underlying q,cj u,bN,Sem.run_pure];simp only[fD,if_false,Sem.run_bind,j,bN];rw[if_pos A];simp only[uK,if_true,Sem.run_bind,I,bN,gI,gZ,z,Sem.run_pure,kx]
def nX{T U e}{ty}{sz}{y}{D}(q:P.underlying T=some (.slice e))(j:(∃f,P.underlying U=some (.slice f))\/P.underlying U=some .string)
  (l:du P e=some sz) (w) (i:(Builtin.lenOf y).run P w=.ok 0 w) (u:(Builtin.firstCells sz 0 y).run P w=.ok D w) :
  (Builtin.append_ #[T,U] ty #[.slice none 0 0,y]).run P w=.ok (.slice none 0 0) w:=by
 rcases j with⟨_,j⟩|j
 all_goals
  unfold Builtin.append_;simp only[G',Ha,AU,Sem.run_bind,run_underlying q,run_underlying j,cj l,bN,Sem.run_pure];simp only[fD,if_false,Sem.run_bind,i,bN];simp_all
def rT{sz n}{D}{ys}(z:ys.length=n)(G:D.size=n*sz)(h:eO M0 S sz D ys):∀v∈D.toList,v.oneCell'=true:=by
 intro v y;obtain⟨k,u⟩:=fN y;have j:k<n*sz:=by
  have:=(aC.1 u).1;simp at this;omega
 have i:0<sz:=by
  rcases q9 sz with q|q
  .grind
  .exact q
 have hi:k / sz<ys.length:=by rw[z];exact(Nat.div_lt_iff_lt_mul i).2 j
 obtain⟨cs,I,F,E⟩:=h (k / sz) ys[k / sz] (by simp[hi]);have A:k%sz<cs.length:=by rw[F];exact zG _ i
 obtain⟨C,l⟩:=E (k%sz) cs[k%sz] (by simp[A]);have e:k / sz*sz+k%sz=k:=by rw[BX];exact Nat.div_add_mod k sz
 rw[e]at l;have:D.getD k undef=v:=by rw[<-iN,da,u];rfl
 rw[this]at l;exact pV C l
def kU{α:Type}{l:List α}{i}{x}(h:l[i]?=some x):l.set i x=l:=by
 apply pE;grind
def By{Q:Sem (Array Value)}{D}(h:∀w,w.heap=S.w.heap->Q.run P w=.ok D w):Q.run P S.w.drew=.ok D S.w.drew:=h _ rfl
def xf{C D}{xs ys}{p sz}(A:eO M0 S sz C xs)(M:xs.length*sz<=C.size)(L:D.size=ys.length*sz)(E:eO M0 S sz D ys)(K:p+ys.length<=xs.length) :
  eO M0 S sz (lJ C (p*sz) D.toList) (xs.take p++ys++xs.drop (p+ys.length)):=by
 have I:D.toList.length=ys.length*sz:=by simpa using L
 have e:p*sz+D.toList.length<=C.size:=by
  rw[I,<-eW];exact fP (gp sz K) M
 have G:(xs.take p).length=p:=by simp;omega
 intro i z hi;rw[dD]at hi;rcases dO i p with h|h
 .rw[bJ (by omega),om,if_pos h]at hi;obtain⟨cs,v,u,q⟩:=A i z hi;refine⟨cs,v,u,λj c l=>?_⟩;have y:=(aC.1 l).1;have:=j3 (i:=i) (n:=p) (sz:=sz) (j:=j) h (by omega);rw[j5 _ _ _ _ e,if_neg (by omega)];exact q j c l
 .rw[dB (by omega),G]at hi;rcases dO (i-p) ys.length with F|F
  .rw[bJ F]at hi;obtain⟨cs,v,u,q⟩:=E _ z hi;refine⟨cs,v,u,λj c l=>?_⟩;have y:=(aC.1 l).1;have J:i*sz=p*sz+(i-p)*sz:=by rw[<-eW];congr 1;omega
   have:=j3 (i:=i-p) (n:=ys.length) (sz:=sz) (j:=j) F (by omega);rw[j5 _ _ _ _ e,if_pos (by omega),iN,show i*sz+j-p*sz=(i-p)*sz+j by omega];exact q j c l
  .rw[dB F,sc,show p+ys.length+(i-p-ys.length)=i by omega]at hi;obtain⟨cs,v,u,q⟩:=A i z hi;refine⟨cs,v,u,λj c l=>?_⟩;have y:=(aC.1 l).1;have J:(p+ys.length)*sz<=i*sz:=gp sz (by omega);rw[eW]at J;rw[j5 _ _ _ _ e,if_neg (by omega)];exact q j c l
def Gb(Y:HOk P M0 S){T U}{ty}{x y}{v u}(hx:Rep M0 S v x)(hy:Rep M0 S u y):aU P M0 S (Builtin.append_ #[T,U] ty #[v,u]) (vP P T U x y S.h):=by
 unfold vP;split
 .rename_i e he;split
  .exact trivial
  .rename_i hU;have X:=di he;have I:(∃f,P.underlying U=some (.slice f))\/P.underlying U=some .string:=by
    cases hq:bM P U with
    |some f=>exact .inl ⟨f,di hq⟩
    |none=>
     refine .inr (gM ?_);grind
   split
   .rename_i sz bytes N c5;split
    .rename_i ys d1;obtain⟨D,F,hD,G,K⟩:=n9 (P:=P) Y hy d1;split
     .rename_i hc;obtain⟨d9,hb,hz⟩:=hc;split
      .
       split
       .rename_i b5;have h':RepP (Avoid M0 S.m) S.w v .nilslice:=hx;cases h';split
        .rename_i h0;subst h0;exact aU.pure Y (nX X I N S.w F (hD _ rfl)) (aR .nilslice)
        .rename_i h0;have c9:0<ys.length:=zH.2 h0;obtain⟨nc,R,c7,hR,E⟩:=mY (ty:=ty) (base:=none) (len:=0) (cap:=0) (O:=#[]) X I N c5 hb hz (by omega) (by omega) S.w F rfl (By hD);have a6:=HOk.drew Y;have ed:=Ev.drew S.h.length S;have a9:eO M0 S.drew sz (#[]++D++R) ys:=by
          have:=yL (M0:=M0) (S:=S.drew) (R:=R) (n1:=0) (O:=#[]) (xs:=[]) (by simp) G rfl rfl (λi x hx=>by simp at hx) (K.keep ed);simpa using this
         have A:(#[]++D++R).size=nc*sz:=by
          simp[G,hR];rw[<-eW]
          congr 1
          omega
         have en:=Ev.new S.drew.h.length M0 a6 (ba _) (.row sz ys) (.cells (#[]++D++R) e);refine⟨S.drew.new (.row sz ys) (.cells (#[]++D++R) e),_,rfl,by simpa[Mem.new,Mem.drew]using E,ed.trans en,HOk.new a6 (.inr ⟨_,e,_,rfl,cg _ _,?_,a9.keep en⟩),⟨_,_,_,rfl⟩,.inr ⟨sz,ys,by simp[Mem.new,Mem.drew],by omega,λ_=>.inr (.inl ⟨S.w.heap.size,nc,e,nc*sz,?_,by simp,⟨by omega,by omega⟩,?_,by simp,by omega⟩)⟩⟩
         .grind
         .have:=Y.len;simp_all[Mem.new,Mem.drew]
         .show (S.w.drew.alloc _).shape? S.w.drew.heap.size=_;unfold World.shape?;rw[cg];simp only[A]
       simp[aU]
      .
       rename_i l xs;split
       .rename_i c4;obtain⟨rfl,b5⟩:=c4;obtain⟨O,d3,hO,a8,b4⟩:=n9 (P:=P) (ys:=xs.map .p) (sz:=l) Y hx (by simp[mn]);have h':RepP (Avoid M0 S.m) S.w v (.slice l xs true):=hx;have hv:∃base,v=.slice base xs.length xs.length:=by
         cases h' with
         |slice f hl a0 a7=>grind
         |empty a7=>grind
        obtain⟨base,rfl⟩:=hv;split
        .rename_i h0;subst h0;refine aU.pure Y (v':=.slice base xs.length xs.length) ?_ hx;rcases I with⟨_,I⟩|I
         all_goals
          unfold Builtin.append_;simp only[G',Ha,AU,Sem.run_bind,run_underlying X,run_underlying I,cj N,bN,Sem.run_pure];simp only[fD,if_false,Sem.run_bind,F,bN,bS,kx];rw[if_pos (ba _)];have d8:D=#[]:=MA.1 (by simpa using G);subst d8;have:=hD S.w rfl;simp only[bS]at this;simp only[uK,if_true,Sem.run_bind,this,bN]
          cases base with
          |none=>rfl
          |some a=>rfl
        .rename_i h0;have c9:0<ys.length:=zH.2 h0;have b0:=hO S.w.drew rfl;simp only[dQ]at b0 a8;obtain⟨nc,R,c7,hR,E⟩:=mY (ty:=ty) (base:=base) (len:=xs.length) (cap:=xs.length) X I N c5 hb hz (by omega) (by omega) S.w F b0 (By hD);have a6:=HOk.drew Y;have ed:=Ev.drew S.h.length S;have a9:eO M0 S.drew l (O++D++R) (xs.map .p++ys):=yL (R:=R) a8 G (by simp) rfl (b4.keep ed) (K.keep ed);have A:(O++D++R).size=nc*l:=by
          simp[G,hR,a8];rw[<-eW,<-eW]
          congr 1
          omega
         have b6:(xs.map AV.p++ys).length=xs.length+ys.length:=by simp
         have en:=Ev.new S.drew.h.length M0 a6 (ba _) (.row l (xs.map AV.p++ys)) (.cells (O++D++R) e);refine⟨S.drew.new (.row l (xs.map AV.p++ys)) (.cells (O++D++R) e),_,rfl,E,ed.trans en,HOk.new a6 (.inr ⟨_,e,_,rfl,cg _ _,?_,a9.keep en⟩),⟨_,_,_,rfl⟩,.inr ⟨l,_,by simp[Mem.new,Mem.drew];rfl,by omega,λ_=>.inr (.inl ⟨S.w.heap.size,nc,e,nc*l,?_,by simp,⟨by omega,by omega⟩,?_,by simp,by omega⟩)⟩⟩
         .rw[A,b6];grind
         .have:=Y.len;simp_all[Mem.new,Mem.drew]
         .show (S.w.drew.alloc _).shape? S.w.drew.heap.size=_;unfold World.shape?;rw[cg];simp only[A]
       simp[aU]
      .
       rename_i id e3 off len;split
       .rename_i l xs q;split
        .rename_i c4;obtain⟨rfl,hv,rfl,rfl,b5⟩:=c4;obtain⟨O,d3,hO,a8,b4⟩:=n9 (P:=P) (ys:=xs) (sz:=l) Y hx (by simp[mn,q,hv,sub,dt (GP hv)]);have b6:(xs++ys).length=xs.length+ys.length:=by simp
         have c2:∀(base:Option Addr) (cap:Nat),v=.slice base len cap->cap<len+ys.length ->
           aU P M0 S (Builtin.append_ #[T,U] ty #[v,u]) (.val (.slice id (xs.length+ys.length) 0 (xs.length+ys.length)) (S.h.set id (.row l (xs++ys)))):=by
          intro base cap d2 c3;subst d2;have a0:len<=cap:=by
           rcases dM hx.2 q hv with⟨h1,_⟩|⟨b,e2,T',n,hm,h2,a0,_⟩|⟨_,h2,_⟩
           .omega
           .grind
           .omega
          have b0:=hO S.w.drew rfl;rw[hv]at b0;obtain⟨nc,R,c7,hR,E⟩:=mY (ty:=ty) (base:=base) (len:=len) (cap:=cap) X I N c5 hb hz (by omega) c3 S.w F b0 (By hD);have a6:=HOk.drew Y;have ed:=Ev.drew S.h.length S;have a9:eO M0 S.drew l (O++D++R) (xs++ys):=yL (R:=R) a8 G rfl rfl (b4.keep ed) (K.keep ed);have A:(O++D++R).size=nc*l:=by
           simp[G,hR,a8];rw[<-eW,<-eW]
           congr 1
           omega
          have a4:xs.length<(xs++ys).length:=by omega
          have en:=Ev.regrow S.drew.h.length (S:=S.drew) (ob:=.cells (O++D++R) e) q a4
          refine⟨S.drew.regrow id (.row l (xs++ys)) (.cells (O++D++R) e),_,rfl,E,ed.trans en,HOk.regrow a6 q a4 (by rw[A,b6];grind) a9,⟨_,_,_,rfl⟩,
           .inr ⟨l,_,by simp[Mem.regrow,Mem.drew,(aC.1 q).1];rfl,by omega,λ_=>.inr (.inl ⟨S.w.heap.size,nc,e,nc*l,?_,by simp[hv],⟨by omega,by omega⟩,?_,by simp,by omega⟩)⟩⟩
          .have:=Y.len;have e0:=(aC.1 q).1;simp_all[Mem.regrow,Mem.drew]
          .show (S.w.drew.alloc _).shape? S.w.drew.heap.size=_;unfold World.shape?;rw[cg];simp only[A]
         rcases dM hx.2 q hv with⟨h1,h2,_⟩|⟨b,cap,T',n,hm,rfl,a0,a5,Z,b8⟩|⟨b7,rfl,h0⟩
         .omega
         .rcases dO cap (len+ys.length) with c3|d6
          .grind
          .obtain⟨C,T2,M,J,b3⟩:=gK Y q hm;have b9:n=C.size:=by
            unfold World.shape? at a5;rw[M]at a5;simp at a5;exact a5.2.symm
           have L:len*l+D.size<=C.size:=by
            rw[G,<-eW];refine fP (gp l ?_) (b9▸Z);omega
           have b2:=rT rfl G K;have E:=pR (ty:=ty) (cap:=cap) X I N d6 S.w F (hD _ rfl) M L b2;have V:(lJ C (len*l) D.toList).size=C.size:=jV _ _ _;have en:=Ev.set S.h.length q hm M V (xs':=xs++ys) (by omega);have e5:D.toList.length=ys.length*l:=by simpa using G
           refine⟨S.set id (.row l (xs++ys)) b (lJ C (len*l) D.toList),.slice (some ⟨b,0,none⟩) (len+ys.length) cap,rfl,?_,en,HOk.set Y q hm M V (by omega) ?_ ?_,⟨_,_,_,rfl⟩,
            .inr ⟨l,_,by simp[Mem.set,(aC.1 q).1];rfl,by omega,λ_=>.inr (.inl ⟨b,cap,T',n,hm,by simp[hv],⟨by omega,by omega⟩,?_,by simpa using Z,by omega⟩)⟩⟩
           .simpa[Mem.set]using E
           .rw[V,b6,<-b9];grind
           .intro i z hi;rcases dO i xs.length with h|h
            .rw[bJ h]at hi;obtain⟨cs,a1,a2,a3⟩:=b3 i z hi;refine⟨cs,a1,a2,λj c hc=>?_⟩;have d4:=(aC.1 hc).1;have:=j3 (i:=i) (n:=len) (sz:=l) (j:=j) (by omega) (by omega);rw[j5 _ _ _ _ (by simpa using L),if_neg (by omega)];grind
            .rw[dB h]at hi;obtain⟨cs,a1,a2,a3⟩:=K _ z hi;refine⟨cs,a1,a2,λj c hc=>?_⟩;have d4:=(aC.1 hc).1;have d5:=(aC.1 hi).1;have e1:i*l=len*l+(i-xs.length)*l:=by rw[<-eW];congr 1;omega
             have:=j3 (i:=i-xs.length) (n:=ys.length) (sz:=l) (j:=j) d5 (by omega);rw[j5 _ _ _ _ (by simpa using L),if_pos (by omega),iN,show i*l+j-len*l=(i-xs.length)*l+j by omega];grind
           .exact(tt _ _ _ _ _ _ M V b).trans a5
         .rcases q9 ys.length with c6|c6
          .have b1:ys=[]:=pJ.1 c6;subst b1;refine⟨S,.slice none 0 0,?_,nX X I N S.w F (hD _ rfl),Ev.refl _ _,Y,⟨_,_,_,rfl⟩,.inr ⟨l,xs,q,by simp,λ_=>.inr (.inr ⟨b7,rfl,by rw[bS];omega⟩)⟩⟩;simp only[bI];exact(kU q).symm
          grind
        .split
         .rename_i d7;obtain⟨rfl,hv,rfl,e4⟩:=d7;have d0:(xs.take len++ys++xs.drop (len+ys.length)).length=xs.length:=by simp;omega
          rcases dM hx.2 q hv with⟨h1,h2,h3,_⟩|⟨b,cap,T',n,hm,rfl,a0,a5,Z,b8⟩|⟨b7,rfl,h0⟩
          .omega
          .obtain⟨C,T2,M,J,b3⟩:=gK Y q hm;have L:len*l+D.size<=C.size:=by
            rw[G,<-eW];exact fP (gp l (by omega)) J
           have b2:=rT rfl G K;have E:=pR (ty:=ty) (cap:=cap) X I N (by omega) S.w F (hD _ rfl) (by simpa using M) L b2;have V:(lJ C (len*l) D.toList).size=C.size:=jV _ _ _;have en:=Ev.set S.h.length q hm M V (xs':=xs.take len++ys++xs.drop (len+ys.length)) (by omega)
           refine⟨S.set id (.row l (xs.take len++ys++xs.drop (len+ys.length))) b (lJ C (len*l) D.toList),.slice (some ⟨b,0,none⟩) (len+ys.length) cap,rfl,?_,en,HOk.set Y q hm M V (by omega) (by grind) (xf b3 J G K (by omega)),⟨_,_,_,rfl⟩,
            .inr ⟨l,xs.take len++ys++xs.drop (len+ys.length),by grind[Mem.set,lJ],by omega,λ_=>.inr (.inl ⟨b,cap,T',n,hm,by simp,⟨by omega,by omega⟩,?_,by simpa using Z,by omega⟩)⟩⟩
           .simpa[Mem.set]using E
           .exact(tt _ _ _ _ _ _ M V b).trans a5
          .have c8:=Y.obj id _ q;rw[b7]at c8;rcases c8 with⟨_,rfl⟩|⟨b,_,_,h,_⟩
           .grind
           .cases h
         simp[aU]
       simp[aU]
      simp[aU]
     simp[aU]
    simp[aU]
   simp[aU]
 simp[aU]
def ct{i:Int}(e:0<=i)(h:i<=ai):i64.wrap i=i:=by
 unfold ai at h;exact IntWalk.i64_in _ ⟨by omega,by omega⟩
def Il(N:HOk P M0 S){T}{l c}{vl vc}(hl:Rep M0 S vl l)(hc:Rep M0 S vc c):aU P M0 S (Instr.makeSlice T vl vc) (sT P T l c S.h):=by
 unfold sT;split
 .rename_i e l c he;have:=jR hl;subst this;have:=jR hc;subst this;split
  .rename_i sz bytes z a0 a3 hz;split
   .rename_i E;obtain⟨a5,hb,V,X,h0,G,q⟩:=E;obtain⟨i,hi,a1⟩:=ww a3 S.w;obtain⟨F,R,U⟩:=lQ hz S.w;have hu:=di he;obtain⟨zs,v⟩:=iM.1 X;have K:Rep M0 S F (.p z):=iS U;obtain⟨y,I⟩:=kB K v;have u:zs.length=sz:=by
     cases z with
     |tuple l=>simp[AV.cells]at v
     |_=>(simp[AV.cells]at v;grind)
    have Y:=ct h0 (xS G q);have Z:=ct (xS h0 G) q;have a6:(bytes:Int)*c<=2^48:=by
     have h1:(bytes:Int)*c<=256*ai:=pG (by omega) q (by omega) (by omega);have h2:(256:Int)*(ai:Nat)<=2^48:=by decide
     omega
    generalize O:((Array.range (c.toNat*sz)).map (F.cells[·%F.cells.size]!):Array Value)=C;have a4:C.size=c.toNat*sz:=by rw[<-O];simp
    have J:(Instr.makeSlice T (.int .i64 l) (.int .i64 c)).run P S.w=.ok (.slice (some ⟨S.w.heap.size,0,none⟩) l.toNat c.toNat) (S.w.alloc (.cells C e)):=by
     unfold Instr.makeSlice;simp only[Sem.run_bind,run_underlying hu,bN,asInt,asIntOf,Sem.run_pure,hi,a1,Y,Z];rw[if_neg (by simp;omega)];simp only[Sem.run_bind,run_askRoom,bN,cj a0];by_cases M:c.toNat*sz=0
     .rw[if_pos M];have:C=#[]:=MA.1 (by omega);subst this;have hr:∀f:Nat->Value,(Array.range 0).map f=#[]:=λf=>MA.1 (by simp);simp only[Sem.run_bind,Sem.run_pure,bN,newRow,run_newObj,M,hr,World.alloc_eq]
     .rw[if_neg M];simp only[Sem.run_bind,R,bN,Sem.run_pure,newRow,run_newObj,O,World.alloc_eq]
    have L:∀k,k<c.toNat*sz->C.getD k undef=F.cells.getD (k%sz) undef:=by
     intro k hk;rw[<-O];have hm:k%sz<F.cells.size:=by rw[y,u];exact zG _ (by omega)
     simp[hk,y,u];rw[getElem!_pos _ _ (by omega)];simp[show k%sz<F.cells.size from hm]
    have A:l.toNat<=c.toNat:=by omega
    have a2:eO M0 S sz C (List.replicate l.toNat (.p z)):=by
     intro i x hx;have D:=(aC.1 hx).1;rw[List.length_replicate]at D;rw[AT,if_pos D]at hx;cases hx;refine⟨zs,v,u,λj c' hj=>?_⟩;have a7:=(aC.1 hj).1;rw[L _ (iy (j3 D (by omega)) (gp sz A)),show (i*sz+j)%sz=j by rw[Nat.add_comm,Nat.add_mul_mod_self_right];exact My (by omega)];exact I j c' hj
    have en:=Ev.new S.h.length M0 N (ba _) (.row sz (List.replicate l.toNat (.p z))) (.cells C e);refine⟨S.new (.row sz (List.replicate l.toNat (.p z))) (.cells C e),_,rfl,J,en,HOk.new N (.inr ⟨_,e,C,rfl,cg _ _,?_,a2.keep en⟩),⟨_,_,_,rfl⟩,.inr ⟨sz,_,by simp[Mem.new];rfl,by simp,λ_=>.inr (.inl ⟨S.w.heap.size,c.toNat,e,C.size,?_,by simp,⟨A,by omega⟩,?_,by simp;omega,by simp;omega⟩)⟩⟩
    .simp;rw[a4];exact gp sz A
    .have:=N.len;grind[Mem.new]
    .show (S.w.alloc (.cells C e)).shape? S.w.heap.size=_;unfold World.shape?;rw[cg]
   simp[aU]
  simp[aU]
 simp[aU]
variable {P:Program} {M0:Nat->Prop} {S:Mem}
def vo(e:HOk P M0 S){s}{r}(h:∀q,r=some q->∃v',s.run P S.w=.ok v' S.w/\RepP (Avoid M0 S.m) S.w v' q):aU P M0 S s (uR S.h r):=by
 cases r with
 |none=>exact trivial
 |some q=>obtain⟨v',j,i⟩:=h q rfl;exact aU.pure e j (aR i)
def Ai{op}{T}{x y}{a b}(w)(i:∀C D,¬(a=.agg C/\b=.agg D))(e:¬(a=.nilIface/\b=.nilIface)):(eqGuard op T x y a b).run P w=.ok () w:=by
 cases op<;>first
  |rfl
  |(unfold eqGuard
    simp_all)
def P'{op}{T}{k}{a b}{q}(i:zV op=false)(h:vt op k a b=some q)(w)(M) :
  ∃v',(binOp op T (.int k a) (.int k b)).run P w=.ok v' w/\RepP M w v' q:=by
 cases op<;>simp only[vt,zV,reduceCtorEq,iu]at h i
 case add=>subst h;exact⟨_,by simp[binOp,Op.intArith],.int _ _⟩
 case sub=>subst h;exact⟨_,by simp[binOp,Op.intArith],.int _ _⟩
 case mul=>subst h;exact⟨_,by simp[binOp,Op.intArith],.int _ _⟩
 case quo=>
  split at h
  .cases h
  .rename_i e;cases h;exact⟨_,by simp[binOp,Op.intDiv,e],.int _ _⟩
 case rem=>
  split at h
  .cases h
  .rename_i e;cases h;exact⟨_,by simp[binOp,Op.intDiv,e],.int _ _⟩
 case and=>
  subst h;refine⟨_,?_,.int _ _⟩;show (if k≠k then stuck "BinOp: operands of different kinds" else Op.intBits .and k a b:Sem Value).run P w=_;rw[if_neg (by simp)];rfl
 case or=>
  subst h;refine⟨_,?_,.int _ _⟩;show (if k≠k then stuck "BinOp: operands of different kinds" else Op.intBits .or k a b:Sem Value).run P w=_;rw[if_neg (by simp)];rfl
 case andNot=>
  subst h;refine⟨_,?_,.int _ _⟩;show (if k≠k then stuck "BinOp: operands of different kinds" else Op.intBits .andNot k a b:Sem Value).run P w=_;rw[if_neg (by simp)];rfl
 case eql=>subst h;exact⟨_,by simp[binOp,Op.intCmp],.bool _⟩
 case neq=>subst h;exact⟨_,by simp[binOp,Op.intCmp],.bool _⟩
 case lss=>subst h;exact⟨_,by simp[binOp,Op.intCmp],.bool _⟩
 case leq=>subst h;exact⟨_,by simp[binOp,Op.intCmp],.bool _⟩
 case gtr=>subst h;exact⟨_,by simp[binOp,Op.intCmp],.bool _⟩
 case geq=>subst h;exact⟨_,by simp[binOp,Op.intCmp],.bool _⟩
def KC{op}{T}{k i}{a b}{q}(h:gG op k a b=some q)(w)(M) :
  ∃v',(binOp op T (.int k a) (.int i b)).run P w=.ok v' w/\RepP M w v' q:=by
 unfold gG at h;split at h
 .cases h
 .rename_i e;cases op<;>simp only[reduceCtorEq,iu]at h
  .subst h;exact⟨_,by simp[binOp,Op.shift,e],.int _ _⟩
  .subst h;exact⟨_,by simp[binOp,Op.shift,e],.int _ _⟩
def O5{op}{T}{a b}{q}(h:Ca op a b=some q)(w)(M) :
  ∃v',(binOp op T (.string a) (.string b)).run P w=.ok v' w/\RepP M w v' q:=by
 cases op<;>simp only[Ca,reduceCtorEq,iu]at h
 .split at h
  .rename_i e;cases h;refine⟨.string (a++b),?_,.str _⟩;have i:i64.max=9223372036854775807:=by decide
   have:¬(((a.size+b.size:Nat):Int) > i64.max):=by rw[i];unfold aM at e;omega
   simp only[binOp,Op.stringOp];simp_all
  .cases h
 .subst h;exact⟨.bool (a==b),by simp[binOp,Op.stringOp,beq_toListBytes],.bool _⟩
 .subst h;exact⟨.bool !(a==b),by simp[binOp,Op.stringOp,beq_toListBytes],.bool _⟩
 .subst h;exact⟨_,by rfl,.bool _⟩
def lH (M:Nat->Prop) (w:World) (X:Array Value) (a:List PV):Prop:=X.size=a.length/\∀(i:Nat) (c:PV),a[i]?=some c->RepP M w (X.getD i undef) c
def lT (P:Program) (T:TypeId) (X:Array Value):Value:=if dp P T=some true then .agg X else X.getD 0 undef
def AE:∀{k1 e} {a b} {t},fx (k1++e) a b=some t ->
  ∃s u,fx k1 (a.take k1.length) (b.take k1.length)=some s/\fx e (a.drop k1.length) (b.drop k1.length)=some u/\t=(s&&u)
 |[],e,a,b,t,h=>⟨true,t,rfl,by simpa using h,by simp⟩
 |k::k1,e,a,b,t,h=>by
  cases a with
  |nil=>simp[fx]at h
  |cons x a=>
   cases b with
   |nil=>simp[fx]at h
   |cons y b=>
    simp only[ga,fx]at h;split at h
    .rename_i i z l j;cases h;obtain⟨s,u,v,q,rfl⟩:=AE j;grind[fx]
    .cases h
def oJ:∀{e} {a b} {t},fx e a b=some t->a.length=e.length/\b.length=e.length
 |[],[],[],_,_=>⟨rfl,rfl⟩
 |[],_::_,_,_,h=>by simp[fx]at h
 |[],[],_::_,_,h=>by simp[fx]at h
 |k::e,[],_,_,h=>by simp[fx]at h
 |k::e,_::_,[],_,h=>by simp[fx]at h
 |k::e,x::a,y::b,t,h=>by
  simp only[fx]at h;split at h
  .rename_i s u q i;obtain⟨l,j⟩:=oJ i;grind
  .cases h
def yf{T}{e n}{X}(l:du P T=some e)(q:(dp P T).isSome=true)(u:n+e<=X.size)(j:dp P T=some false->e≠0)(w) :
  (part T X n).run P w=.ok (lT P T (X.extract n (n+e))) w:=by
 obtain⟨g,i⟩:=iM.1 q
 cases g with
 |true=>simp[part,lX i,cj l,lT,i]
 |false=>
  have v:=j i;simp[part,lX i,lT,i,show n<X.size by omega,ku,show 0<min (n+e) X.size-n by omega]
def vL{M}{w}{X}{a}(h:lH M w X a)(n k)(l:n+k<=a.length):lH M w (X.extract n (n+k)) ((a.drop n).take k):=by
 refine⟨by have:=h.1;simp;omega,λi c hi=>?_⟩;have e:=(aC.1 hi).1;have j:i<k:=by simp at e;omega
 rw[om,if_pos j,sc]at hi;have:=h.2 (n+i) c hi;have q:=h.1;have:(X.extract n (n+k)).getD i undef=X.getD (n+i) undef:=by
  simp[ku,show i<min (n+k) X.size-n by omega,show n+i<X.size by omega]
 grind
def PR:∀{d} {T} {i},oC P d T=some i->dp P T=some false->i.length≠0:=by
 intro d T i h e
 cases d with
 |zero=>simp[oC]at h
 |succ d=>
  simp only[oC]at h;unfold dp at e;grind
def u0{M}{w}{d e} (q:∀(T) (z),oC P d T=some z->du P T=some z.length->(dp P T).isSome=true->∀(X Y) (a b) (t),lH M w X a->lH M w Y b ->
   fx z a b=some t->(Op.equalIn e T (lT P T X) (lT P T Y)).run P w=.ok t w) :
  ∀(K) (n) (z),yz P (oC P d) K n=some z->∀(X Y) (a b) (t),lH M w X a->lH M w Y b->fx z (a.drop n) (b.drop n)=some t ->
   (Op.eqFields e X Y K).run P w=.ok t w
 |[],n,z,h,X,Y,a,b,t,J,I,D=>by
  simp[yz]at h;subst h;have:=oJ D;have:t=true:=by
   cases ha:a.drop n with
   |cons _ _=>grind
   |nil=>
    cases hb:b.drop n with
    |cons _ _=>grind
    |nil=>rw[ha,hb]at D;simpa[fx]using D.symm
  subst this
  rfl
 |f::K,n,z,h,X,Y,a,b,t,J,I,D=>by
  simp only[yz]at h;split at h
  .rename_i j;obtain⟨j,A⟩:=j;split at h
   .rename_i k1 E;split at h
    .rename_i l;obtain⟨l,y⟩:=l;split at h
     .rename_i r hr;cases h;obtain⟨s,u,h1,U,rfl⟩:=AE D;rw[vZ,vZ]at U;have a2:=(oJ D).1;have a1:=(oJ D).2;have S:=PR E;have a6:=J.1;have a5:=I.1;have a8:k1.length=0\/n+k1.length<=a.length:=by simp at a2;omega
      have a7:k1.length=0\/n+k1.length<=b.length:=by simp at a1;omega
      by_cases F:k1.length=0
      .
       have C:dp P f.type=some true:=by
        obtain⟨g,hg⟩:=iM.1 y
        cases g with
        |true=>exact hg
        |false=>grind
       have a0:∀Z:Array Value,(part f.type Z n).run P w=.ok (lT P f.type #[]) w:=by
        intro Z;have he:Z.extract n (n+0)=#[]:=MA.1 (by simp;omega);simp only[part,Sem.run_bind,lX C,bN,if_true,cj l,F,Sem.run_pure,he,lT,C]
       have O:k1=[]:=pJ.1 F;subst O;have V:s=true:=by simpa[fx]using h1.symm
       subst V;have v:lH M w #[] []:=⟨rfl,λi c hi=>by simp at hi⟩
       have G:=q f.type [] E l y #[] #[] [] [] true v v rfl;have R:=u0 q K (n+0) r hr X Y a b u J I U;simp only[Op.eqFields];simp_all
      .have N:n+k1.length<=a.length:=by omega
       have L:n+k1.length<=b.length:=by omega
       have a4:=vL J n k1.length N;have a3:=vL I n k1.length L;have G:=q f.type k1 E l y _ _ _ _ s a4 a3 h1;have R:=u0 q K (n+k1.length) r hr X Y a b u J I U;have px:=yf (n:=n) (X:=X) l y (by omega) S w;have py:=yf (n:=n) (X:=Y) l y (by omega) S w;simp only[Op.eqFields];rw[if_pos j];rw[A];simp only[Sem.run_bind,px,py,bN,G]
       cases s with
       |true=>simpa using R
       |false=>simp
     .cases h
    .cases h
   .cases h
  .cases h
def Iv{M}{w}:∀(d e),d<=e->∀(T) (z),oC P d T=some z->(dp P T).isSome=true->∀(X Y) (a b) (t),lH M w X a->lH M w Y b ->
   fx z a b=some t->(Op.equalIn e T (lT P T X) (lT P T Y)).run P w=.ok t w
 |0,_,_,T,z,h,_,_,_,_,_,_,_,_,_=>by simp[oC]at h
 |d+1,0,G,_,_,_,_,_,_,_,_,_,_,_,_=>by omega
 |d+1,e+1,G,T,z,h,a0,X,Y,a,b,t,N,L,A=>by
  have K:=oJ A;have one:∀(k:CK),z=[k]->∃x y,a=[x]/\b=[y]/\qu k x y=some t/\RepP M w (X.getD 0 undef) x/\RepP M w (Y.getD 0 undef) y:=by
   intro k D;subst D;obtain⟨x,rfl⟩:=GT.1 K.1;obtain⟨y,rfl⟩:=GT.1 K.2;refine⟨x,y,rfl,rfl,?_,N.2 0 x rfl,L.2 0 y rfl⟩;simp only[fx]at A;split at A
   .grind
   .cases A
  simp only[oC]at h;split at h
  .rename_i j;cases h;obtain⟨x,y,rfl,rfl,i,v,q⟩:=one _ rfl;have l:∀Z:Array Value,lT P T Z=Z.getD 0 undef:=λZ=>by simp[lT,dp,j]
   rw[l,l];generalize X.getD 0 undef=J at v |-;generalize Y.getD 0 undef=I at q |-;cases x<;>cases y<;>simp only[qu,reduceCtorEq,iu]at i;cases v;cases q;rw[run_equalIn_bool' w e T _ _ j,i]
  .rename_i k j;cases h;obtain⟨x,y,rfl,rfl,i,v,q⟩:=one _ rfl;have l:∀Z:Array Value,lT P T Z=Z.getD 0 undef:=λZ=>by simp[lT,dp,j]
   rw[l,l];generalize X.getD 0 undef=J at v |-;generalize Y.getD 0 undef=I at q |-;cases x<;>cases y<;>simp only[qu,reduceCtorEq]at i;split at i
   .rename_i D;subst D;cases i;cases v;cases q;rw[run_equalIn_int w e T _ _ _ _ j]
   .cases i
  .rename_i j;cases h;obtain⟨x,y,rfl,rfl,i,v,q⟩:=one _ rfl;have l:∀Z:Array Value,lT P T Z=Z.getD 0 undef:=λZ=>by simp[lT,dp,j]
   rw[l,l];generalize X.getD 0 undef=J at v |-;generalize Y.getD 0 undef=I at q |-;cases x<;>cases y<;>simp only[qu,reduceCtorEq,iu]at i;cases v;cases q;rw[run_equalIn_string w e T _ _ j,<-beq_toListBytes,i]
  .rename_i O j;split at h
   .cases h
   .rename_i F;have l:∀Z:Array Value,lT P T Z=.agg Z:=λZ=>by simp[lT,dp,j]
    rw[l,l];have C:P.fieldsOf T=O:=by simp[Program.fieldsOf,j]
    rw[run_equalIn_struct w e T X Y (by rw[C];exact j) (by simpa using F),C];exact u0 (λT' E i _ q X' Y' a' b' R V U S=>Iv d e (by omega) T' E i q X' Y' a' b' R V U S) O.toList 0 z h X Y a b t N L (by simpa using A)
  .cases h
def Nd{T}(h:fd P T=.bool):P.underlying T=some .bool:=by
 unfold fd at h;grind
def uW{T}(h:fd P T=.iface):∃e,P.underlying T=some (.interface e):=by
 unfold fd at h;grind
def uV{T}(h:fd P T=.slice):∃e,P.underlying T=some (.slice e):=by
 unfold fd at h;grind
def wU{T}(h:fd P T=.func):∃a b c,P.underlying T=some (.func a b c):=by
 unfold fd at h;grind
def yA{T}(h:fd P T=.ptr):∃e n,P.underlying T=some (.pointer e)/\du P e=some n/\n≠0:=by
 unfold fd at h;split at h
 .cases h
 .cases h
 .cases h
 .cases h
 .rename_i e l;split at h
  .cases h
  .rename_i j
   cases i:du P e with
   |none=>grind
   |some n=>grind
 .cases h
def UB (P:Program) (T:TypeId) (a b:Value) (t:Bool) (w:World):Prop:=
 (binOp .eql T a b).run P w=.ok (.bool t) w/\(binOp .neq T a b).run P w=.ok (.bool !t) w
def ig{T}{a b}{t}{w}(h:(Op.equal T a b).run P w=.ok t w)
  (i:binOp .eql T a b=(do pure (.bool (<-Op.equal T a b)))) (e:binOp .neq T a b=(do pure (.bool (!(<-Op.equal T a b))))):UB P T a b t w:=by
 simp_all[UB]
def gA{T}{a b}{t}{w}(h:∀d,(Op.equalIn (d+1) T a b).run P w=.ok t w):(Op.equal T a b).run P w=.ok t w:=h 9999
def Uk{T}{I}{x y}{a b}{t}(hx:Rep M0 S a x)(v:Rep M0 S b y)(h:JP P T I x y=some t) :
  UB P T a b t S.w/\((∀C D,¬(a=.agg C/\b=.agg D))\/P.eqGuardType P.depth T=false)/\(¬(a=.nilIface/\b=.nilIface)\/I=true):=by
 unfold JP at h;split at h
 .rename_i p q;split at h
  .rename_i i;cases h;have:=qU hx;subst this;have:=qU v;subst this;exact⟨ig (run_equal_bool S.w T _ _ (Nd i)) rfl rfl,.inl (by simp),.inl (by simp)⟩
  .cases h
 .rename_i p q;split at h
  .rename_i X z;unfold yX at z;split at z
   .rename_i Y;obtain⟨O,G⟩:=Y;have u:RepP (Avoid M0 S.m) S.w a (.agg p):=hx;have j:RepP (Avoid M0 S.m) S.w b (.agg q):=v
    cases u with
    |@agg C _ N _ L=>
     cases j with
     |@agg D _ M _ K=>
      have R:∀Z:Array Value,lT P T Z=.agg Z:=λZ=>by simp[lT,G]
      have:=Iv 20 Op.maxDepth (by decide) T X z (by simp[G]) C D p q t ⟨N,L⟩ ⟨M,K⟩ h;rw[R,R]at this;exact⟨ig this rfl rfl,.inr O,.inl (by simp)⟩
   .cases z
  .cases h
 .split at h
  .rename_i J;obtain⟨J,i⟩:=J;cases h;obtain⟨E,l⟩:=uW i;have u:RepP (Avoid M0 S.m) S.w a .niliface:=hx;have j:RepP (Avoid M0 S.m) S.w b .niliface:=v;cases u;cases j;refine⟨ig (gA λd=>by simp[Op.equalIn,run_underlying l]) rfl rfl,.inl (by simp),.inr J⟩
  .cases h
 .split at h
  .rename_i i;cases h;obtain⟨E,l⟩:=uW i;have u:RepP (Avoid M0 S.m) S.w a .niliface:=hx;have j:RepP (Avoid M0 S.m) S.w b (.iface _ _):=v;cases u;cases j;refine⟨ig (gA λd=>by simp[Op.equalIn,run_underlying l]) rfl rfl,.inl (by simp),.inl (by simp)⟩
  .cases h
 .split at h
  .rename_i i;cases h;obtain⟨E,l⟩:=uW i;have u:RepP (Avoid M0 S.m) S.w a (.iface _ _):=hx;have j:RepP (Avoid M0 S.m) S.w b .niliface:=v;cases u;cases j;refine⟨ig (gA λd=>by simp[Op.equalIn,run_underlying l]) rfl rfl,.inl (by simp),.inl (by simp)⟩
  .cases h
 .split at h
  .rename_i i;cases h;obtain⟨E,l⟩:=uV i;have u:RepP (Avoid M0 S.m) S.w a .nilslice:=hx;have j:RepP (Avoid M0 S.m) S.w b .nilslice:=v;cases u;cases j;refine⟨ig (gA λd=>by simp[Op.equalIn,run_underlying l]) rfl rfl,.inl (by simp),.inl (by simp)⟩
  .cases h
 .split at h
  .rename_i i;obtain⟨i,A⟩:=i;cases h;obtain⟨E,l⟩:=uV i;have u:RepP (Avoid M0 S.m) S.w a .nilslice:=hx;have j:RepP (Avoid M0 S.m) S.w b (.slice _ _ _):=v;cases u
   cases j with
   |slice=>exact⟨ig (gA λd=>by simp[Op.equalIn,run_underlying l]) rfl rfl,.inl (by simp),.inl (by simp)⟩
   |empty=>grind
  .cases h
 .split at h
  .rename_i i;obtain⟨i,A⟩:=i;cases h;obtain⟨E,l⟩:=uV i;have u:RepP (Avoid M0 S.m) S.w a (.slice _ _ _):=hx;have j:RepP (Avoid M0 S.m) S.w b .nilslice:=v;cases j
   cases u with
   |slice=>exact⟨ig (gA λd=>by simp[Op.equalIn,run_underlying l]) rfl rfl,.inl (by simp),.inl (by simp)⟩
   |empty=>grind
  .cases h
 .split at h
  .rename_i i;cases h;obtain⟨e,n,l,U,V⟩:=yA i;have u:RepP (Avoid M0 S.m) S.w a .nilptr:=hx;have j:RepP (Avoid M0 S.m) S.w b .nilptr:=v;cases u;cases j;refine⟨ig (gA λd=>by simp[Op.equalIn,run_underlying l]) rfl rfl,.inl (by simp),.inl (by simp)⟩
  .cases h
 .split at h
  .rename_i i;cases h;obtain⟨e,n,l,U,V⟩:=yA i;have u:RepP (Avoid M0 S.m) S.w a .nilptr:=hx;have j:RepP (Avoid M0 S.m) S.w b (.ptr _ _ _ _):=v;cases u;cases j;refine⟨ig (gA λd=>by simp[Op.equalIn,run_underlying l]) rfl rfl,.inl (by simp),.inl (by simp)⟩
  .cases h
 .split at h
  .rename_i i;cases h;obtain⟨e,n,l,U,V⟩:=yA i;have u:RepP (Avoid M0 S.m) S.w a (.ptr _ _ _ _):=hx;have j:RepP (Avoid M0 S.m) S.w b .nilptr:=v;cases u;cases j;refine⟨ig (gA λd=>by simp[Op.equalIn,run_underlying l]) rfl rfl,.inl (by simp),.inl (by simp)⟩
  .cases h
 .split at h
  .rename_i i;cases h;obtain⟨e,n,m,l⟩:=wU i;have u:RepP (Avoid M0 S.m) S.w a .nilfunc:=hx;have j:RepP (Avoid M0 S.m) S.w b .nilfunc:=v;cases u;cases j;refine⟨ig (gA λd=>by simp[Op.equalIn,run_underlying l]) rfl rfl,.inl (by simp),.inl (by simp)⟩
  .cases h
 .split at h
  .rename_i i;cases h;obtain⟨e,n,m,l⟩:=wU i;have u:RepP (Avoid M0 S.m) S.w a (.func _ _ _):=hx;have j:RepP (Avoid M0 S.m) S.w b .nilfunc:=v;cases u;cases j;refine⟨ig (gA λd=>by simp[Op.equalIn,run_underlying l]) rfl rfl,.inl (by simp),.inl (by simp)⟩
  .cases h
 .split at h
  .rename_i i;cases h;obtain⟨e,n,m,l⟩:=wU i;obtain⟨F,C,rfl,_,_⟩:=hx;have j:RepP (Avoid M0 S.m) S.w b .nilfunc:=v;cases j;refine⟨ig (gA λd=>by simp[Op.equalIn,run_underlying l]) rfl rfl,.inl (by simp),.inl (by simp)⟩
  .cases h
 .cases h
end Abs
end Go.Proofs.YtgafommgcfhkkaaGreatDoor
