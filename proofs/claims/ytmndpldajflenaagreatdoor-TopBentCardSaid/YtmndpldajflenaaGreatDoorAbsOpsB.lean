/- LAWS: operations of the abstract machine and the model's: slices, literals, append, make,  -/
import Derived.Test.YtmndpldajflenaaGreatDoorAbsOpsA
set_option linter.all false
namespace Go.Proofs.YtmndpldajflenaaGreatDoor
namespace Abs
variable {P:Program} {M0:Nat->Prop} {S:Mem}
theorem LI(hS:HOk P M0 S){T}{x}{v}{ty}(hx:Rep M0 S v x):aB P M0 S (Builtin.len_ #[T] ty #[v]) (sV P T x S.h):=by
 unfold sV;split
 .rename_i s;split
  .rename_i hs;have h':RepP (Avoid M0 S.m) S.w v (.str s):=hx;cases h';refine aB.pure hS (v':=.int .i64 s.size) ?_ (ar (.int _ _));simp[Builtin.len_,run_underlying (dV hs),goInt]
  .exact trivial
 .rename_i sz xs full;split
  .rename_i hs;obtain⟨e,he⟩:=ec.1 hs;have h':RepP (Avoid M0 S.m) S.w v (.slice sz xs full):=hx;refine aB.pure hS (v':=.int .i64 xs.length) ?_ (ar (.int _ _))
   cases h' with
   |slice f hlen=>subst hlen;simp[Builtin.len_,run_underlying (bA he),goInt]
   |empty=>simp[Builtin.len_,run_underlying (bA he),goInt]
  .exact trivial
 .split
  .rename_i hs;obtain⟨e,he⟩:=ec.1 hs;have h':RepP (Avoid M0 S.m) S.w v .nilslice:=hx;cases h';refine aB.pure hS (v':=.int .i64 0) ?_ (ar (.int _ _));simp[Builtin.len_,run_underlying (bA he),goInt]
  .exact trivial
 .rename_i id ver off len;split
  .rename_i hs;obtain⟨e,he⟩:=ec.1 hs.1;obtain⟨sz,hl⟩:=ec.1 hs.2;obtain⟨xs,hid,hv⟩:=fR hl;refine aB.pure hS (v':=.int .i64 len) ?_ (ar (.int _ _))
   rcases bK hx.2 hid hv with⟨rfl,_,_,a,cap,rfl⟩|⟨b,cap,T',n,hm,rfl,_⟩|⟨_,rfl,rfl⟩ <;>
    simp[Builtin.len_,run_underlying (bA he),goInt]
  .exact trivial
 .split
  .rename_i n e he;obtain⟨C,rfl⟩:=xn hx (.inl ⟨_,rfl⟩);refine aB.pure hS (v':=.int .i64 n) ?_ (ar (.int _ _));simp[Builtin.len_,run_underlying (iT he),goInt]
  .exact trivial
 .rename_i id ver i o n;split
  .rename_i hs;obtain⟨e,he⟩:=ec.1 hs.1;refine aB.pure hS (v':=.int .i64 n) ?_ (ar (.int _ _));obtain⟨⟨a,c,rfl⟩,_⟩:=(show bp M0 S v (.arr id ver i o n) from hx)
   simp[Builtin.len_,run_underlying (bA he),goInt]
  .exact trivial
 .exact trivial
theorem xO(hS:HOk P M0 S){T}{x}{v}{cs}(hx:Rep M0 S v x)(hc:x.cells=some cs) :
  aB P M0 S (do pure (.pointer (some (<-newVar T v)))) (.val (.ptr S.h.length 1 0 0) (S.h++[.row cs.length [x]])):=by
 obtain⟨hn,hr⟩:=gL hx hc;have e:=Ev.new S.h.length M0 hS (aJ _) (.row cs.length [x]) (.cells v.cells T);have hok:ObjOk P M0 (S.new (.row cs.length [x]) (.cells v.cells T)) (some S.w.heap.size) (.row cs.length [x]):=by
  refine .inr ⟨S.w.heap.size,T,v.cells,rfl,bf _ _,by simp[hn],λi y hy=>?_⟩
  cases i with
  |zero=>
   simp at hy;subst hy
   exact⟨cs,hc,rfl,λj c hj=>⟨(hr j c hj).1,by simpa using e.keepS (hr j c hj).2⟩⟩
  |succ i=>simp at hy
 refine⟨S.new (.row cs.length [x]) (.cells v.cells T),.pointer (some ⟨S.w.heap.size,0,none⟩),rfl,?_,e,HOk.new hS hok,⟨_,rfl⟩,.inr ⟨cs.length,[x],?_,by simp,λ_=>⟨S.w.heap.size,?_,by simp⟩⟩⟩
 .simp[newVar,newRow,Mem.new]
 .simp[Mem.new]
 .have:=hS.len;show (S.m++[some S.w.heap.size]).getD S.h.length none=_;rw[<-this];simp
theorem gH{T}{z}(h:ax P T=some z)(w):∃v,(zeroValue T).run P w=.ok v w/\kJ v=some z:=by
 unfold ax at h
 cases hi:P.info? T with
 |none=>simp[hi]at h
 |some i=>
  cases hz:i.zero with
  |none=>simp[hi,hz]at h
  |some v=>
   simp[hi,hz]at h;exact⟨v,by simp[zeroValue,typeInfo,hi,hz],h⟩
theorem rJ{M}{w}{v}{q}(h:mC v=some q):RepP M w v q/\q.isCell=true:=by
 unfold mC at h;split at h<;>try (first|(cases h;done)|(cases h;first|exact⟨.bool _,rfl⟩|exact⟨.int _ _,rfl⟩|exact⟨.str _,rfl⟩|exact⟨.nilptr,rfl⟩|exact⟨.nilslice,rfl⟩|exact⟨.nilfunc,rfl⟩|exact⟨.niliface,rfl⟩|exact⟨.anyMap,rfl⟩))
 .split at h
  .rename_i first cap hc
   cases h;exact⟨.func (by simp[hc.1]) (by simp[hc.2]) (λi c hi=>by simp at hi) (λi c hi=>by simp at hi),rfl⟩
  .cases h
theorem lL{M}{w}:∀{l} {qs},jM l=some qs->l.length=qs.length/\(∀c,c∈qs->c.isCell=true)/\∀(i) (c),qs[i]?=some c->RepP M w (l.getD i undef) c
 |[],qs,h=>by simp[jM]at h;subst h;exact⟨rfl,λc hc=>by simp at hc,λi c hi=>by simp at hi⟩
 |v::r,qs,h=>by
  simp only[jM]at h;split at h
  .rename_i x l hx hl;cases h;obtain⟨h1,h2,h3⟩:=lL (M:=M) (w:=w) hl;obtain⟨h4,h5⟩:=rJ (M:=M) (w:=w) hx;refine⟨by simp[h1],λc hc=>?_,λi c hi=>?_⟩
   .rcases dQ.1 hc with rfl|hc
    .exact h5
    .exact h2 c hc
   .cases i with
    |zero=>simp at hi;subst hi;simpa using h4
    |succ i=>simpa using h3 i c (by simpa using hi)
  .cases h
theorem eb{M}{w}{v}{q}(h:kJ v=some q):RepP M w v q:=by
 unfold kJ at h;split at h
 .split at h
  .rename_i cs l hl;cases h;obtain⟨h1,h2,h3⟩:=lL (M:=M) (w:=w) hl;exact .agg (by simpa using h1) h2 λi c hi=>by rw[<-e6];exact h3 i c hi
  .cases h
 .split at h
  .rename_i cs l hl;cases h;obtain⟨h1,h2,h3⟩:=lL (M:=M) (w:=w) hl;exact .tuple (by simpa using h1) λi c hi=>by rw[<-e6];exact h3 i c hi
  .cases h
 .exact(rJ h).1
theorem IK(hS:HOk P M0 S){T}{z}(hz:ax P T=some z)(hc:(AV.p z).cells.isSome=true) :
  aB P M0 S (Instr.alloc T true (.tuple #[])) (.val (.ptr S.h.length 1 0 0) (S.h++[.row z.cells.length [.p z]])):=by
 obtain⟨v,hv,hcz⟩:=gH hz S.w;obtain⟨cs,hcs⟩:=ec.1 hc;have hrep:Rep M0 S v (.p z):=eb hcz;have hlen:cs.length=z.cells.length:=by
  cases z with
  |tuple l=>simp[AV.cells]at hcs
  |_=>(simp[AV.cells]at hcs;subst hcs;simp)
 obtain⟨S',v',h1,h2,h3⟩:=xO (P:=P) hS (T:=T) hrep hcs;refine⟨S',v',by rw[h1,hlen],?_,h3⟩;simp only[Sem.run_bind]at h2;unfold Instr.alloc;simp only[Sem.run_bind,hv,aG];exact h2
theorem CG(hS:HOk P M0 S){T e}(hz:ax P T=some (.agg [.nilptr,.nilslice])) :
  aB P M0 S (Instr.alloc T true (.tuple #[])) (.val (.ref .bl S.h.length) (S.h++[.bld T e (.p .nilslice)])):=by
 obtain⟨v,hv,hcz⟩:=gH hz S.w;have hrep:RepP (Avoid M0 S.m) S.w v (.agg [.nilptr,.nilslice]):=eb hcz;obtain⟨C,rfl,hC⟩:∃C,v=.agg C/\C=#[.pointer none,.slice none 0 0]:=by
  cases hrep with
  |agg hn hs hr=>
   rename_i C;refine⟨C,rfl,?_⟩;have h0:=hr 0 _ rfl;have h1:=hr 1 _ rfl;have hn2:C.size=2:=hn;rw[gG]at h0 h1;have g0:C[0]?=some C[0]:=by simp
   have g1:C[1]?=some C[1]:=by simp
   rw[g0]at h0;rw[g1]at h1;simp only[jz]at h0 h1;apply oz
   .simpa using hn2
   .intro i hi hi'
    match i,hi,hi' with
    |0,_,_=>generalize C[0]=x at h0;cases h0;rfl
    |1,_,_=>generalize C[1]=x at h1;cases h1;rfl
 subst hC
 have hok:ObjOk P M0 (S.new (.bld T e (.p .nilslice)) (.cells #[.pointer none,.slice none 0 0] T (0,0))) (some S.w.heap.size) (.bld T e (.p .nilslice)):=
  ⟨_,_,_,rfl,bf _ _,.inl rfl,.inl rfl,RepP.nilslice,λa n c h=>by cases h⟩
 refine⟨S.new (.bld T e (.p .nilslice)) (.cells #[.pointer none,.slice none 0 0] T (0,0)),.pointer (some ⟨S.w.heap.size,0,none⟩),rfl,?_,Ev.new _ M0 hS (aJ _) _ _,HOk.new hS hok,
  ⟨_,rfl⟩,.inr ⟨⟨.bld T e (.p .nilslice),by simp[Mem.new],rfl⟩,S.w.heap.size,?_,rfl⟩⟩
 .unfold Instr.alloc;simp[hv,newVar,newRow,Mem.new,Value.cells]
 .show (S.m++[some S.w.heap.size]).getD S.h.length none=_;rw[<-hS.len];simp
theorem uS{α}(o n)(l:List α)(h:o+n<=l.length):(sub o n l).length=n:=by simp[sub];omega
theorem qF{M}{w}{b off sz l r}{xs:List PV}(f:Nat->Value)(hlr:l<=r)(hr':r<=xs.length)
  (hsz:∀x,x∈xs->x.cells.length=sz/\∀c,c∈x.cells->c.isCell=true) (hM:xs.length*sz≠0->¬M b)
  (hc:∀k,k<xs.length*sz->w.cell? ⟨b,off+k,none⟩=some (f k))
  (hr:∀(i j) (x c),xs[i]?=some x->x.cells[j]?=some c->RepP M w (f (i*sz+j)) c)
  {cap} {full} (hcap:r-l<=cap) (hfull:full=true->cap=r-l) :
  RepP M w (.slice (some ⟨b,off+l*sz,none⟩) (r-l) cap) (.slice sz ((xs.take r).drop l) full):=by
 have hlen:((xs.take r).drop l).length=r-l:=by simp;omega
 have hget:∀(i:Nat) (x:PV),((xs.take r).drop l)[i]?=some x->xs[l+i]?=some x/\i<r-l:=by
  intro i x hi;have h1:=(aA.1 hi).1;rw[nn,kh,if_pos (by omega)]at hi;exact⟨hi,by omega⟩
 have hmul:(r-l)*sz+l*sz<=xs.length*sz:=by
  rw[<-cG];exact eO sz (by omega)
 refine .slice (λk=>f (l*sz+k)) (by omega) hcap hfull (λx hx=>?_) (λh=>?_) (λk hk=>?_) (λi j x c hx hj=>?_)
 .exact hsz x (zg (List.mem_of_mem_drop hx))
 .refine hM λe=>h ?_;rw[hlen];omega
 .rw[hlen]at hk;rw[<-hc (l*sz+k) (by omega),fX]
 .obtain⟨h1,_⟩:=hget i x hx;have:=hr (l+i) j x c h1 hj;rwa [cG,fX]at this
theorem bZ{i:Int}{k}{y:Nat}{code}(h0:0<=i)(h:i<=y)(w):(Instr.sliceBound (.int k i) y code).run P w=.ok i.toNat w:=by
 simp[Instr.sliceBound,asIntOf,h0,h]
theorem qK{x}{vx}{n}(hx:x.isSome=vx.isSome)(hr:∀a v,x=some a->vx=some v->Rep M0 S v a)(h:j6 x=some n) :
  (n=none/\vx=none)\/∃k i,n=some i/\vx=some (.int k i):=by
 cases x with
 |none=>
  simp[j6]at h
  cases vx with
  |none=>exact .inl ⟨h.symm,rfl⟩
  |some v=>simp at hx
 |some a=>
  cases vx with
  |none=>simp at hx
  |some v=>
   cases a with
   |p q=>
    cases q with
    |int k i=>
     simp[j6]at h;have:=fI (hr _ _ rfl rfl);subst this
     exact .inr ⟨k,i,h.symm,rfl⟩
    |_=>simp[j6]at h
   |_=>simp[j6]at h
theorem ll{l r}{len a b}(h:jf l r len=some (a,b)):0<=l.getD 0/\l.getD 0<=r.getD len/\r.getD len<=len/\a=(l.getD 0).toNat/\b=(r.getD len).toNat:=by
 unfold jf at h;split at h
 .rename_i hc;cases h;exact⟨hc.1,hc.2.1,hc.2.2,rfl,rfl⟩
 .cases h
theorem dC{l r m}{vlo vhi vmx}(n1:(l=none/\vlo=none)\/∃k i,l=some i/\vlo=some (.int k i))
  (n2:(r=none/\vhi=none)\/∃k i,r=some i/\vhi=some (.int k i)) (n3:(m=none/\vmx=none)\/∃k i,m=some i/\vmx=some (.int k i))
  {isS} {len cap a b} (hc:jf l r len=some (a,b)) (hcap:len<=cap) (hm:m=none\/(isS=true/\m=r)) (w) :
  (Instr.sliceBounds isS len cap vlo vhi vmx).run P w=.ok (a,b,m.elim cap λ_=>b) w:=by
 obtain⟨h0,h1,h2,rfl,rfl⟩:=ll hc;rcases n3 with⟨rfl,rfl⟩|⟨k3,i3,rfl,rfl⟩
 .rcases n2 with⟨rfl,rfl⟩|⟨k,i,rfl,rfl⟩<;>rcases n1 with⟨rfl,rfl⟩|⟨k',i',rfl,rfl⟩
  .simp[Instr.sliceBounds]
  .have:=bZ (P:=P) (k:=k') (y:=len) (code:=.sliceB) (i:=i') (by simpa using h0) (by simpa using h1) w;simp[Instr.sliceBounds,this]
  .have:=bZ (P:=P) (k:=k) (y:=cap) (code:=if isS then .sliceAcap else .sliceAlen) (i:=i) (by simp at h0 h1;omega) (by simp at h2;omega) w;simp[Instr.sliceBounds,this]
  .simp only[jz]at h0 h1 h2;have a1:=bZ (P:=P) (k:=k) (y:=cap) (code:=if isS then .sliceAcap else .sliceAlen) (i:=i) (by omega) (by omega) w;have a2:=bZ (P:=P) (k:=k') (y:=i.toNat) (code:=.sliceB) (i:=i') h0 (by omega) w;simp[Instr.sliceBounds,a1,a2]
 .rcases hm with h|⟨rfl,rfl⟩
  .cases h
  .rcases n2 with⟨h,_⟩|⟨k,i,h,rfl⟩
   .cases h
   .cases h;have h1:l.getD 0<=i3:=h1;have h2:i3<=(len:Int):=h2;have h00:0<=i3:=by omega
    have a3:=bZ (P:=P) (k:=k3) (y:=cap) (code:=.slice3Acap) (i:=i3) h00 (by omega) w;have a1:=bZ (P:=P) (k:=k) (y:=i3.toNat) (code:=.slice3B) (i:=i3) h00 (by omega) w;rcases n1 with⟨rfl,rfl⟩|⟨k',i',rfl,rfl⟩
    .simp[Instr.sliceBounds,a1,a3]
    .simp only[jz]at h0 h1;have a2:=bZ (P:=P) (k:=k') (y:=i3.toNat) (code:=.slice3C) (i:=i') h0 (by omega) w;simp[Instr.sliceBounds,a1,a2,a3]
theorem ki{l:Option Int}{r}{vlo vhi}(n1:(l=none/\vlo=none)\/∃k i,l=some i/\vlo=some (.int k i))
  (n2:∃k,vhi=some (.int k r)) {len cap:Nat} (h0:0<=l.getD 0) (h1:l.getD 0<=r) (h2:r<=cap) (w) :
  (Instr.sliceBounds true len cap vlo vhi none).run P w=.ok ((l.getD 0).toNat,r.toNat,cap) w:=by
 obtain⟨k,rfl⟩:=n2;rcases n1 with⟨rfl,rfl⟩|⟨k',i',rfl,rfl⟩
 .have:=bZ (P:=P) (k:=k) (y:=cap) (code:=.sliceAcap) (i:=r) (by simp at h0 h1;omega) h2 w;simp[Instr.sliceBounds,this]
 .simp only[jz]at h0 h1;have a1:=bZ (P:=P) (k:=k) (y:=cap) (code:=.sliceAcap) (i:=r) (by omega) h2 w;have a2:=bZ (P:=P) (k:=k') (y:=r.toNat) (code:=.sliceB) (i:=i') h0 (by omega) w;simp[Instr.sliceBounds,a1,a2]
theorem uj{l:Option Int}{r m}{vlo vhi vmx}(n1:(l=none/\vlo=none)\/∃k i,l=some i/\vlo=some (.int k i))
  (n2:∃k,vhi=some (.int k r)) (n3:∃k,vmx=some (.int k m)) {len cap:Nat} (h0:0<=l.getD 0) (h1:l.getD 0<=r) (h2:r<=m) (h3:m<=cap) (w) :
  (Instr.sliceBounds true len cap vlo vhi vmx).run P w=.ok ((l.getD 0).toNat,r.toNat,m.toNat) w:=by
 obtain⟨k,rfl⟩:=n2;obtain⟨k3,rfl⟩:=n3;have a3:=bZ (P:=P) (k:=k3) (y:=cap) (code:=.slice3Acap) (i:=m) (by omega) h3 w;have a1:=bZ (P:=P) (k:=k) (y:=m.toNat) (code:=.slice3B) (i:=r) (by omega) (by omega) w;rcases n1 with⟨rfl,rfl⟩|⟨k',i',rfl,rfl⟩
 .simp[Instr.sliceBounds,a1,a3]
 .simp only[jz]at h0 h1;have a2:=bZ (P:=P) (k:=k') (y:=r.toNat) (code:=.slice3C) (i:=i') h0 (by omega) w;simp[Instr.sliceBounds,a1,a2,a3]
theorem HA(hS:HOk P M0 S){T}{x}{v}{lo hi mx}{vlo vhi vmx}(hx:Rep M0 S v x)
  (e1:lo.isSome=vlo.isSome) (e2:hi.isSome=vhi.isSome) (e3:mx.isSome=vmx.isSome)
  (r1:∀a v,lo=some a->vlo=some v->Rep M0 S v a) (r2:∀a v,hi=some a->vhi=some v->Rep M0 S v a) (r3:∀a v,mx=some a->vmx=some v->Rep M0 S v a) :
  aB P M0 S (Instr.sliceAt T v vlo vhi vmx) (p9 P T x lo hi mx S.h):=by
 unfold p9;split
 .rename_i l r m hl hr hm;have n1:=qK e1 r1 hl;have n2:=qK e2 r2 hr;have n3:=qK e3 r3 hm;split
  .rename_i sz xs full;split
   .rename_i e a b he hcut;split
    .rename_i hsz;have hu:=bA he;have h':RepP (Avoid M0 S.m) S.w v (.slice sz xs full):=hx;obtain⟨h0,h1,h2,ha,hb⟩:=ll hcut;have hab:a<=b/\b<=xs.length:=by omega
     have fin:∀(mm:Option Int) (fl:Bool),m=mm->(mm=none\/mm=r)->(fl=mm.elim (full&&b==xs.length) λ_=>true) ->
       aB P M0 S (Instr.sliceAt T v vlo vhi vmx) (.val (.p (.slice sz ((xs.take b).drop a) fl)) S.h):=by
      intro mm fl hmm hmr hfl;subst hmm
      cases h' with
      |slice f hlen hcap hfull hs hM hcell hrr=>
       rename_i bl off len cap;subst hlen;have hrun:=dC (P:=P) (isS:=true) (cap:=cap) n1 n2 n3 hcut hcap (hmr.imp id λe=>⟨rfl,e⟩) S.w;generalize hM2:(m.elim cap λ_=>b)=mc at hrun;have hmc:b<=mc/\mc<=cap/\(fl=true->mc=b):=by
        subst hM2;subst hfl
        cases m with
        |none=>
         refine⟨by simp;omega,aJ _,λe=>?_⟩;simp at e;simp
         rw[hfull e.1,e.2]
        |some _=>exact⟨aJ _,by simp;omega,λ_=>rfl⟩
       refine aB.pure hS (v':=.slice (some (if mc=a then⟨bl,off,none⟩ else⟨bl,off+a*sz,none⟩)) (b-a) (mc-a)) ?_ (ar ?_)
       .simp only[Instr.sliceAt,Instr.slice,Sem.run_bind,run_underlying hu,aG,hrun,aU hsz,Sem.run_pure];by_cases hz:mc=a<;>simp[hz,dg]
       .by_cases hz:mc=a
        .have:(xs.take b).drop a=[]:=by simp;omega
         rw[this,if_pos hz,show b-a=0 by omega];exact .empty λ_=>by omega
        .rw[if_neg hz]
         exact qF f hab.1 hab.2 hs hM hcell hrr (by omega) λe=>by have:=hmc.2.2 e;omega
      |empty hfull=>
       rename_i ad cap;have ha0:a=0:=by have:=hab.1;have:=hab.2;simp at this;omega
       have hb0:b=0:=by have:=hab.2;simp at this;omega
       subst ha0;subst hb0;have hrun:=dC (P:=P) (isS:=true) (len:=0) (cap:=cap) n1 n2 n3 hcut (bE _) (hmr.imp id λe=>⟨rfl,e⟩) S.w;generalize hM2:(m.elim cap λ_=>0)=mc at hrun;refine aB.pure hS (v':=.slice (if mc=0 then ad else ad.map (·.add (0*sz))) (0-0) (mc-0)) ?_ (ar ?_)
       .simp only[Instr.sliceAt,Instr.slice,Sem.run_bind,run_underlying hu,aG,hrun,aU hsz,Sem.run_pure]
       .simp only[List.take_nil,List.drop_nil,qk];refine .empty λe=>?_;subst hfl
        cases m with
        |none=>simp at hM2 e;subst hM2;have:=hfull e;omega
        |some _=>simp at hM2;omega
     split
     .exact fin none _ rfl (.inl rfl) rfl
     .rename_i mm;split
      .rename_i hrm;exact fin (some mm) _ rfl (.inr hrm.symm) rfl
      .exact trivial
    .exact trivial
   .exact trivial
  .rename_i id ver off len;split
   .rename_i e sz xs a b he hid hcut;split
    .rename_i hc;obtain⟨hsz,hv⟩:=hc;have hu:=bA he;obtain⟨h0,h1,h2,ha,hb⟩:=ll hcut;have hab:a<=b/\b<=len:=by omega
     rcases bK hx.2 hid hv with⟨rfl,hv0,hoff,ad,cap,rfl⟩|⟨bl,cap,T',n,hmb,rfl,hcap,hsh,hroom,hreach⟩|⟨hmn,rfl,rfl⟩
     .have hrun:(Instr.sliceBounds true 0 cap vlo vhi vmx).run P S.w=.ok (a,b,cap) S.w:=dC (P:=P) (isS:=true) (len:=0) (cap:=cap) n1 n2 n3 hcut (bE _) (.inl rfl) S.w;refine aB.pure hS (v':=.slice (if cap=a then ad else ad.map (·.add (a*sz))) (b-a) (cap-a)) ?_ ⟨⟨_,_,_,rfl⟩,.inr ⟨sz,xs,hid,by omega,λ_=>.inl ⟨by omega,hv0,by omega,_,_,by rw[show b-a=0 by omega]⟩⟩⟩;simp only[Instr.sliceAt,Instr.slice,Sem.run_bind,run_underlying hu,aG,hrun,aU hsz,Sem.run_pure]
     .have hrun:(Instr.sliceBounds true len cap vlo vhi vmx).run P S.w=.ok (a,b,cap) S.w:=dC (P:=P) (isS:=true) (cap:=cap) n1 n2 n3 hcut hcap.1 (.inl rfl) S.w;refine aB.pure hS (v':=.slice (some (if cap=a then⟨bl,off*sz,none⟩ else⟨bl,(off+a)*sz,none⟩)) (b-a) (cap-a)) ?_ ⟨⟨_,_,_,rfl⟩,.inr ⟨sz,xs,hid,by omega,λ_=>?_⟩⟩
      .simp only[Instr.sliceAt,Instr.slice,Sem.run_bind,run_underlying hu,aG,hrun,aU hsz,Sem.run_pure];by_cases hz:cap=a<;>simp[hz,dg,cG]
      .by_cases hca:cap=a
       .by_cases ha0:a=0
        .subst ha0;rw[if_pos hca];have hb0:b=0:=by have:=hcap.1;omega
         subst hb0;exact .inr (.inl ⟨bl,cap-0,T',n,hmb,by simp,⟨by omega,by omega⟩,hsh,by simpa using hroom,by omega⟩)
        .by_cases hv0:ver=0
         .exfalso;have:=hcap.2;omega
         .exact .inl ⟨by omega,hv0,by have:=hcap.2;omega,_,_,by rw[show b-a=0 by omega]⟩
       .rw[if_neg hca];have hcl:=hcap.1;have hco:=hcap.2;refine .inr (.inl ⟨bl,cap-a,T',n,hmb,rfl,⟨by omega,by omega⟩,hsh,?_⟩);rw[show off+a+(cap-a)=off+cap by omega];exact⟨hroom,hreach⟩
     .have hrun:(Instr.sliceBounds true 0 0 vlo vhi vmx).run P S.w=.ok (a,b,0) S.w:=dC (P:=P) (isS:=true) (len:=0) (cap:=0) n1 n2 n3 hcut (aJ _) (.inl rfl) S.w;refine aB.pure hS (v':=.slice none 0 0) ?_ ⟨⟨_,_,_,rfl⟩,.inr ⟨sz,xs,hid,by omega,λ_=>.inr (.inr ⟨hmn,rfl,by omega⟩)⟩⟩;simp only[Instr.sliceAt,Instr.slice,Sem.run_bind,run_underlying hu,aG,hrun,aU hsz,Sem.run_pure];simp[show a=0 by omega,show b=0 by omega]
    .exact trivial
   .rename_i e sz xs mm he hid;split
    .rename_i hc;obtain⟨hsz,hv,hrs,c0,c1,c2,c3⟩:=hc;have hu:=bA he;obtain⟨rr,rfl⟩:=ec.1 hrs;simp only[jz]at c1 c2;have k2:∃k,vhi=some (.int k rr):=by
      rcases n2 with⟨h,_⟩|⟨k,i,h,h'⟩
      .cases h
      .cases h;exact⟨k,h'⟩
     have k3:∃k,vmx=some (.int k mm):=by
      rcases n3 with⟨h,_⟩|⟨k,i,h,h'⟩
      .cases h
      .cases h;exact⟨k,h'⟩
     have fin:∀(ad:Option Addr) (ln cap:Nat),v=.slice ad ln cap->mm<=cap->aB P M0 S (Instr.sliceAt T v vlo vhi vmx) (.val .undef S.h):=by
      intro ad ln cap hvv hle;subst hvv;have hrun:=uj (P:=P) (len:=ln) n1 k2 k3 c0 c1 c2 hle S.w;refine aB.pure hS (v':=.slice (if mm.toNat=(l.getD 0).toNat then ad else ad.map (·.add ((l.getD 0).toNat*sz))) (rr.toNat-(l.getD 0).toNat) (mm.toNat-(l.getD 0).toNat)) ?_ trivial;simp only[Instr.sliceAt,Instr.slice,Sem.run_bind,run_underlying hu,aG,hrun,aU hsz,Sem.run_pure]
     rcases bK hx.2 hid hv with⟨rfl,hv0,hoff,ad,cap,rfl⟩|⟨bl,cap,T',n,hmb,rfl,hcap,hsh,hroom,hreach⟩|⟨hmn,rfl,rfl⟩
     .exact fin _ _ _ rfl (by omega)
     .exact fin _ _ _ rfl (by omega)
     .refine fin _ _ _ rfl ?_;have h0:=hS.obj id _ hid;rw[hmn]at h0;rcases h0 with⟨_,rfl⟩|⟨b,_,_,h,_⟩
      .simp at hv;omega
      .cases h
    .exact trivial
   .rename_i e sz xs he hid _;split
    .rename_i hc;obtain⟨hsz,hv,hrs,c0,c1,c3⟩:=hc;have hu:=bA he;obtain⟨rr,rfl⟩:=ec.1 hrs;simp only[jz]at c1 c3 |-;have k2:∃k,vhi=some (.int k rr):=by
      rcases n2 with⟨h,_⟩|⟨k,i,h,h'⟩
      .cases h
      .cases h;exact⟨k,h'⟩
     have k3:vmx=none:=by
      rcases n3 with⟨_,h⟩|⟨k,i,h,h'⟩
      .exact h
      .cases h
     subst k3;generalize ha:(l.getD 0).toNat=a;generalize hb:rr.toNat=b;rcases bK hx.2 hid hv with⟨rfl,hv0,hoff,ad,cap,rfl⟩|⟨bl,cap,T',n,hmb,rfl,hcap,hsh,hroom,hreach⟩|⟨hmn,rfl,rfl⟩
     .have hrun:=ki (P:=P) (len:=0) (cap:=cap) n1 k2 c0 c1 (by omega) S.w;rw[ha,hb]at hrun;refine aB.pure hS (v':=.slice (if cap=a then ad else ad.map (·.add (a*sz))) (b-a) (cap-a)) ?_ ⟨⟨_,_,_,rfl⟩,.inr ⟨sz,xs,hid,by omega,λ_=>.inl ⟨by omega,hv0,by omega,_,_,by rw[show b-a=0 by omega]⟩⟩⟩;simp only[Instr.sliceAt,Instr.slice,Sem.run_bind,run_underlying hu,aG,hrun,aU hsz,Sem.run_pure]
     .have hrun:=ki (P:=P) (len:=len) (cap:=cap) n1 k2 c0 c1 (by omega) S.w;rw[ha,hb]at hrun;refine aB.pure hS (v':=.slice (some (if cap=a then⟨bl,off*sz,none⟩ else⟨bl,(off+a)*sz,none⟩)) (b-a) (cap-a)) ?_ ⟨⟨_,_,_,rfl⟩,.inr ⟨sz,xs,hid,by omega,λ_=>?_⟩⟩
      .simp only[Instr.sliceAt,Instr.slice,Sem.run_bind,run_underlying hu,aG,hrun,aU hsz,Sem.run_pure];by_cases hz:cap=a<;>simp[hz,dg,cG]
      .by_cases hca:cap=a
       .by_cases hv0:ver=0
        .refine .inr (.inl ⟨bl,cap-a,T',n,hmb,?_,⟨by omega,by omega⟩,hsh,?_,by omega⟩)
         .rw[if_pos hca,show off+a=off by omega]
         .rw[show off+a+(cap-a)=off+cap by omega];exact hroom
        .exact .inl ⟨by omega,hv0,by omega,_,_,by rw[show b-a=0 by omega]⟩
       .rw[if_neg hca];refine .inr (.inl ⟨bl,cap-a,T',n,hmb,rfl,⟨by omega,by omega⟩,hsh,?_⟩);rw[show off+a+(cap-a)=off+cap by omega];exact⟨hroom,by omega⟩
     .have h0:=hS.obj id _ hid;rw[hmn]at h0;rcases h0 with⟨_,rfl⟩|⟨b,_,_,h,_⟩
      .have hrun:=ki (P:=P) (len:=0) (cap:=0) n1 k2 c0 c1 (by simp at hv;omega) S.w;rw[ha,hb]at hrun;have ha0:a=0:=by simp at hv;omega
       have hb0:b=0:=by simp at hv;omega
       refine aB.pure hS (v':=.slice none 0 0) ?_ ⟨⟨_,_,_,rfl⟩,.inr ⟨sz,[],hid,by omega,λ_=>.inr (.inr ⟨hmn,rfl,by omega⟩)⟩⟩;simp only[Instr.sliceAt,Instr.slice,Sem.run_bind,run_underlying hu,aG,hrun,aU hsz,Sem.run_pure];simp[ha0,hb0]
      .cases h
    .exact trivial
   .exact trivial
  .rename_i id ver i o;split
   .rename_i n e he;split
    .rename_i a b sz hcut hl;split
     .rename_i hsz;have hu:=iT he;obtain⟨xs,hid,hv⟩:=fR hl;obtain⟨bl,hmb,rfl⟩:=bK hx.2 hid hv;obtain⟨h0,h1,h2,ha,hb⟩:=ll hcut;have hab:a<=b/\b<=n:=by omega
      have hrun:(Instr.sliceBounds false n n vlo vhi vmx).run P S.w=.ok (a,b,n) S.w:=dC (P:=P) (isS:=false) (cap:=n) n1 n2 n3 hcut (aJ _) (.inl rfl) S.w;refine aB.pure hS (v':=.slice (some (if n=a then⟨bl,i*sz+o,none⟩ else⟨bl,i*sz+(o+a),none⟩)) (b-a) (n-a)) ?_ ⟨⟨_,_,rfl⟩,.inr ⟨sz,xs,hid,by omega,λ_=>⟨bl,n-a,hmb,by omega,λhne=>?_⟩⟩⟩
      .simp only[Instr.sliceAt,Instr.sureAddr,Sem.run_bind,run_underlying hu,aG,hrun,aU hsz,Sem.run_pure];by_cases hz:n=a<;>simp[hz,dg,fX]
      .rw[if_neg (by omega)]
     .exact trivial
    .exact trivial
   .exact trivial
  .rename_i s;split
   .rename_i a b hcut;split
    .rename_i hst;have h':RepP (Avoid M0 S.m) S.w v (.str s):=hx;cases h';have hrun:(Instr.sliceBounds false s.size s.size vlo vhi vmx).run P S.w=.ok (a,b,s.size) S.w:=dC (P:=P) (isS:=false) (cap:=s.size) n1 n2 n3 hcut (aJ _) (.inl rfl) S.w;have hmx:vmx=none:=by
      rcases n3 with⟨_,h⟩|⟨_,_,h,_⟩
      .exact h
      .cases h
     subst hmx;refine aB.pure hS (v':=.string (s.extract a b)) ?_ (ar (.str _));simp[Instr.sliceAt,Instr.slice,run_underlying (dV hst),hrun]
    .exact trivial
   .exact trivial
  .split
   .rename_i e ab he hcut;split
    .rename_i hs;obtain⟨sz,hsz⟩:=ec.1 hs;obtain⟨a,b⟩:=ab;obtain⟨h0,h1,h2,ha,hb⟩:=ll hcut;have h':RepP (Avoid M0 S.m) S.w v .nilslice:=hx;cases h';have hrun:(Instr.sliceBounds true 0 0 vlo vhi vmx).run P S.w=.ok (a,b,0) S.w:=dC (P:=P) (isS:=true) (len:=0) (cap:=0) n1 n2 n3 hcut (aJ _) (.inl rfl) S.w;refine aB.pure hS (v':=.slice none 0 0) ?_ (ar .nilslice);simp only[Instr.sliceAt,Instr.slice,Sem.run_bind,run_underlying (bA he),aG,hrun,aU hsz,Sem.run_pure];simp[show a=0 by omega,show b=0 by omega]
    .exact trivial
   .exact trivial
  .exact trivial
 .exact trivial
end Abs
end Go.Proofs.YtmndpldajflenaaGreatDoor
