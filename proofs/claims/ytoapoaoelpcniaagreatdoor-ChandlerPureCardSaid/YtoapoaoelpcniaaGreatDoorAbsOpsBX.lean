/- CONTRACTS of the program's functions, and laws on what they return. No conditions but those in the theorems' heads. -/
import Derived.Test.YtoapoaoelpcniaaGreatDoorAbsMemX
set_option linter.all false
namespace Go.Proofs.YtoapoaoelpcniaaGreatDoor
namespace Abs
variable {P:Program} {M0:Nat->Prop} {S:Mem}
theorem Vj(hS:HOk P M0 S){T}{x}{v}{ty}(hx:Rep M0 S v x):aM P M0 S (Builtin.len_ #[T] ty #[v]) (An P T x S.h):=by
 unfold An;split
 .rename_i s;split
  .rename_i hs;have h':RepP (Avoid M0 S.m) S.w v (.str s):=hx;cases h';refine aM.pure hS (v':=.int .i64 s.size) ?_ (aH (.int _ _));simp[Builtin.len_,run_underlying (fH hs),goInt]
  .exact trivial
 .rename_i sz xs full;split
  .rename_i hs;obtain⟨e,he⟩:=j6.1 hs;have h':RepP (Avoid M0 S.m) S.w v (.slice sz xs full):=hx;refine aM.pure hS (v':=.int .i64 xs.length) ?_ (aH (.int _ _))
   cases h' with
   |slice f hlen=>subst hlen;simp[Builtin.len_,run_underlying (cB he),goInt]
   |empty=>simp[Builtin.len_,run_underlying (cB he),goInt]
  .exact trivial
 .split
  .rename_i hs;obtain⟨e,he⟩:=j6.1 hs;have h':RepP (Avoid M0 S.m) S.w v .nilslice:=hx;cases h';refine aM.pure hS (v':=.int .i64 0) ?_ (aH (.int _ _));simp[Builtin.len_,run_underlying (cB he),goInt]
  .exact trivial
 .rename_i id ver off len;split
  .rename_i hs;obtain⟨e,he⟩:=j6.1 hs.1;obtain⟨sz,hl⟩:=j6.1 hs.2;obtain⟨xs,hid,hv⟩:=lU hl;refine aM.pure hS (v':=.int .i64 len) ?_ (aH (.int _ _))
   rcases di hx.2 hid hv with⟨rfl,_,_,a,cap,rfl⟩|⟨b,cap,T',n,hm,rfl,_⟩|⟨_,rfl,rfl⟩ <;>
    simp[Builtin.len_,run_underlying (cB he),goInt]
  .exact trivial
 .split
  .rename_i n e he;obtain⟨C,rfl⟩:=C5 hx (.inl ⟨_,rfl⟩);refine aM.pure hS (v':=.int .i64 n) ?_ (aH (.int _ _));simp[Builtin.len_,run_underlying (m9 he),goInt]
  .exact trivial
 .exact trivial
theorem DF(hS:HOk P M0 S){T}{x}{v}{cs}(hx:Rep M0 S v x)(hc:x.cells=some cs) :
  aM P M0 S (do pure (.pointer (some (<-newVar T v)))) (.val (.ptr S.h.length 1 0 0) (S.h++[.row cs.length [x]])):=by
 obtain⟨hn,hr⟩:=js hx hc;have e:=Ev.new S.h.length M0 hS (bB _) (.row cs.length [x]) (.cells v.cells T);have hok:ObjOk P M0 (S.new (.row cs.length [x]) (.cells v.cells T)) (some S.w.heap.size) (.row cs.length [x]):=by
  refine .inr ⟨S.w.heap.size,T,v.cells,rfl,bK _ _,by simp[hn],λi y hy=>?_⟩
  cases i with
  |zero=>
   simp at hy;subst hy
   exact⟨cs,hc,rfl,λj c hj=>⟨(hr j c hj).1,by simpa using e.keepS (hr j c hj).2⟩⟩
  |succ i=>simp at hy
 refine⟨S.new (.row cs.length [x]) (.cells v.cells T),.pointer (some ⟨S.w.heap.size,0,none⟩),rfl,?_,e,HOk.new hS hok,⟨_,rfl⟩,.inr ⟨cs.length,[x],?_,by simp,λ_=>⟨S.w.heap.size,?_,by simp⟩⟩⟩
 .simp[newVar,newRow,Mem.new]
 .simp[Mem.new]
 .have:=hS.len;show (S.m++[some S.w.heap.size]).getD S.h.length none=_;rw[<-this];simp
theorem kz{T}{z}(h:au P T=some z)(w):∃v,(zeroValue T).run P w=.ok v w/\nV v=some z:=by
 unfold au at h
 cases hi:P.info? T with
 |none=>simp[hi]at h
 |some i=>
  cases hz:i.zero with
  |none=>simp[hi,hz]at h
  |some v=>
   simp[hi,hz]at h;exact⟨v,by simp[zeroValue,typeInfo,hi,hz],h⟩
theorem wz{M}{w}{v}{q}(h:qH v=some q):RepP M w v q/\q.isCell=true:=by
 unfold qH at h;split at h<;>try (first|(cases h;done)|(cases h;first|exact⟨.bool _,rfl⟩|exact⟨.int _ _,rfl⟩|exact⟨.str _,rfl⟩|exact⟨.nilptr,rfl⟩|exact⟨.nilslice,rfl⟩|exact⟨.nilfunc,rfl⟩|exact⟨.niliface,rfl⟩|exact⟨.anyMap,rfl⟩))
 .split at h
  .rename_i first cap hc
   cases h;exact⟨.func (by simp[hc.1]) (by simp[hc.2]) (λi c hi=>by simp at hi) (λi c hi=>by simp at hi),rfl⟩
  .cases h
theorem pK{M}{w}:∀{l} {qs},mz l=some qs->l.length=qs.length/\(∀c,c∈qs->c.isCell=true)/\∀(i) (c),qs[i]?=some c->RepP M w (l.getD i undef) c
 |[],qs,h=>by simp[mz]at h;subst h;exact⟨rfl,λc hc=>by simp at hc,λi c hi=>by simp at hi⟩
 |v::r,qs,h=>by
  simp only[mz]at h;split at h
  .rename_i x l hx hl;cases h;obtain⟨h1,h2,h3⟩:=pK (M:=M) (w:=w) hl;obtain⟨h4,h5⟩:=wz (M:=M) (w:=w) hx;refine⟨by simp[h1],λc hc=>?_,λi c hi=>?_⟩
   .rcases ci.1 hc with rfl|hc
    .exact h5
    .exact h2 c hc
   .cases i with
    |zero=>simp at hi;subst hi;simpa using h4
    |succ i=>simpa using h3 i c (by simpa using hi)
  .cases h
theorem gP{M}{w}{v}{q}(h:nV v=some q):RepP M w v q:=by
 unfold nV at h;split at h
 .split at h
  .rename_i cs l hl;cases h;obtain⟨h1,h2,h3⟩:=pK (M:=M) (w:=w) hl;exact .agg (by simpa using h1) h2 λi c hi=>by rw[<-gI];exact h3 i c hi
  .cases h
 .split at h
  .rename_i cs l hl;cases h;obtain⟨h1,h2,h3⟩:=pK (M:=M) (w:=w) hl;exact .tuple (by simpa using h1) λi c hi=>by rw[<-gI];exact h3 i c hi
  .cases h
 .exact(wz h).1
theorem Rk(hS:HOk P M0 S){T}{z}(hz:au P T=some z)(hc:(AV.p z).cells.isSome=true) :
  aM P M0 S (Instr.alloc T true (.tuple #[])) (.val (.ptr S.h.length 1 0 0) (S.h++[.row z.cells.length [.p z]])):=by
 obtain⟨v,hv,hcz⟩:=kz hz S.w;obtain⟨cs,hcs⟩:=j6.1 hc;have hrep:Rep M0 S v (.p z):=gP hcz;have hlen:cs.length=z.cells.length:=by
  cases z with
  |tuple l=>simp[AV.cells]at hcs
  |_=>(simp[AV.cells]at hcs;subst hcs;simp)
 obtain⟨S',v',h1,h2,h3⟩:=DF (P:=P) hS (T:=T) hrep hcs;refine⟨S',v',by rw[h1,hlen],?_,h3⟩;simp only[Sem.run_bind]at h2;unfold Instr.alloc;simp only[Sem.run_bind,hv,dl];exact h2
theorem Jg(hS:HOk P M0 S){T e}(hz:au P T=some (.agg [.nilptr,.nilslice])) :
  aM P M0 S (Instr.alloc T true (.tuple #[])) (.val (.ref .bl S.h.length) (S.h++[.bld T e (.p .nilslice)])):=by
 obtain⟨v,hv,hcz⟩:=kz hz S.w;have hrep:RepP (Avoid M0 S.m) S.w v (.agg [.nilptr,.nilslice]):=gP hcz;obtain⟨C,rfl,hC⟩:∃C,v=.agg C/\C=#[.pointer none,.slice none 0 0]:=by
  cases hrep with
  |agg hn hs hr=>
   rename_i C;refine⟨C,rfl,?_⟩;have h0:=hr 0 _ rfl;have h1:=hr 1 _ rfl;have hn2:C.size=2:=hn;rw[fQ]at h0 h1;have g0:C[0]?=some C[0]:=by simp
   have g1:C[1]?=some C[1]:=by simp
   rw[g0]at h0;rw[g1]at h1;simp only[je]at h0 h1;apply nw
   .simpa using hn2
   .intro i hi hi'
    match i,hi,hi' with
    |0,_,_=>generalize C[0]=x at h0;cases h0;rfl
    |1,_,_=>generalize C[1]=x at h1;cases h1;rfl
 subst hC
 have hok:ObjOk P M0 (S.new (.bld T e (.p .nilslice)) (.cells #[.pointer none,.slice none 0 0] T (0,0))) (some S.w.heap.size) (.bld T e (.p .nilslice)):=
  ⟨_,_,_,rfl,bK _ _,.inl rfl,.inl rfl,RepP.nilslice,λa n c h=>by cases h⟩
 refine⟨S.new (.bld T e (.p .nilslice)) (.cells #[.pointer none,.slice none 0 0] T (0,0)),.pointer (some ⟨S.w.heap.size,0,none⟩),rfl,?_,Ev.new _ M0 hS (bB _) _ _,HOk.new hS hok,
  ⟨_,rfl⟩,.inr ⟨⟨.bld T e (.p .nilslice),by simp[Mem.new],rfl⟩,S.w.heap.size,?_,rfl⟩⟩
 .unfold Instr.alloc;simp[hv,newVar,newRow,Mem.new,Value.cells]
 .show (S.m++[some S.w.heap.size]).getD S.h.length none=_;rw[<-hS.len];simp
theorem AD{α}(o n)(l:List α)(h:o+n<=l.length):(sub o n l).length=n:=by simp[sub];omega
theorem vn{M}{w}{b off sz l r}{xs:List PV}(f:Nat->Value)(hlr:l<=r)(hr':r<=xs.length)
  (hsz:∀x,x∈xs->x.cells.length=sz/\∀c,c∈x.cells->c.isCell=true) (hM:xs.length*sz≠0->¬M b)
  (hc:∀k,k<xs.length*sz->w.cell? ⟨b,off+k,none⟩=some (f k))
  (hr:∀(i j) (x c),xs[i]?=some x->x.cells[j]?=some c->RepP M w (f (i*sz+j)) c)
  {cap} {full} (hcap:r-l<=cap) (hfull:full=true->cap=r-l) :
  RepP M w (.slice (some ⟨b,off+l*sz,none⟩) (r-l) cap) (.slice sz ((xs.take r).drop l) full):=by
 have hlen:((xs.take r).drop l).length=r-l:=by simp;omega
 have hget:∀(i:Nat) (x:PV),((xs.take r).drop l)[i]?=some x->xs[l+i]?=some x/\i<r-l:=by
  intro i x hi;have h1:=(aF.1 hi).1;rw[nb,pg,if_pos (by omega)]at hi;exact⟨hi,by omega⟩
 have hmul:(r-l)*sz+l*sz<=xs.length*sz:=by
  rw[<-fM];exact jN sz (by omega)
 refine .slice (λk=>f (l*sz+k)) (by omega) hcap hfull (λx hx=>?_) (λh=>?_) (λk hk=>?_) (λi j x c hx hj=>?_)
 .exact hsz x (tO (List.mem_of_mem_drop hx))
 .refine hM λe=>h ?_;rw[hlen];omega
 .rw[hlen]at hk;rw[<-hc (l*sz+k) (by omega),jW]
 .obtain⟨h1,_⟩:=hget i x hx;have:=hr (l+i) j x c h1 hj;rwa [fM,jW]at this
theorem db{i:Int}{k}{y:Nat}{code}(h0:0<=i)(h:i<=y)(w):(Instr.sliceBound (.int k i) y code).run P w=.ok i.toNat w:=by
 simp[Instr.sliceBound,asIntOf,h0,h]
theorem vu{x}{vx}{n}(hx:x.isSome=vx.isSome)(hr:∀a v,x=some a->vx=some v->Rep M0 S v a)(h:nq x=some n) :
  (n=none/\vx=none)\/∃k i,n=some i/\vx=some (.int k i):=by
 cases x with
 |none=>
  simp[nq]at h
  cases vx with
  |none=>exact .inl ⟨h.symm,rfl⟩
  |some v=>simp at hx
 |some a=>
  cases vx with
  |none=>simp at hx
  |some v=>
   cases a with
   |p q=>
    cases q with
    |int k i=>
     simp[nq]at h;have:=iJ (hr _ _ rfl rfl);subst this
     exact .inr ⟨k,i,h.symm,rfl⟩
    |_=>simp[nq]at h
   |_=>simp[nq]at h
theorem rI{l r}{len a b}(h:nu l r len=some (a,b)):0<=l.getD 0/\l.getD 0<=r.getD len/\r.getD len<=len/\a=(l.getD 0).toNat/\b=(r.getD len).toNat:=by
 unfold nu at h;split at h
 .rename_i hc;cases h;exact⟨hc.1,hc.2.1,hc.2.2,rfl,rfl⟩
 .cases h
theorem fU{l r m}{vlo vhi vmx}(n1:(l=none/\vlo=none)\/∃k i,l=some i/\vlo=some (.int k i))
  (n2:(r=none/\vhi=none)\/∃k i,r=some i/\vhi=some (.int k i)) (n3:(m=none/\vmx=none)\/∃k i,m=some i/\vmx=some (.int k i))
  {isS} {len cap a b} (hc:nu l r len=some (a,b)) (hcap:len<=cap) (hm:m=none\/(isS=true/\m=r)) (w) :
  (Instr.sliceBounds isS len cap vlo vhi vmx).run P w=.ok (a,b,m.elim cap λ_=>b) w:=by
 obtain⟨h0,h1,h2,rfl,rfl⟩:=rI hc;rcases n3 with⟨rfl,rfl⟩|⟨k3,i3,rfl,rfl⟩
 .rcases n2 with⟨rfl,rfl⟩|⟨k,i,rfl,rfl⟩<;>rcases n1 with⟨rfl,rfl⟩|⟨k',i',rfl,rfl⟩
  .simp[Instr.sliceBounds]
  .have:=db (P:=P) (k:=k') (y:=len) (code:=.sliceB) (i:=i') (by simpa using h0) (by simpa using h1) w;simp[Instr.sliceBounds,this]
  .have:=db (P:=P) (k:=k) (y:=cap) (code:=if isS then .sliceAcap else .sliceAlen) (i:=i) (by simp at h0 h1;omega) (by simp at h2;omega) w;simp[Instr.sliceBounds,this]
  .simp only[je]at h0 h1 h2;have a1:=db (P:=P) (k:=k) (y:=cap) (code:=if isS then .sliceAcap else .sliceAlen) (i:=i) (by omega) (by omega) w;have a2:=db (P:=P) (k:=k') (y:=i.toNat) (code:=.sliceB) (i:=i') h0 (by omega) w;simp[Instr.sliceBounds,a1,a2]
 .rcases hm with h|⟨rfl,rfl⟩
  .cases h
  .rcases n2 with⟨h,_⟩|⟨k,i,h,rfl⟩
   .cases h
   .cases h;have h1:l.getD 0<=i3:=h1;have h2:i3<=(len:Int):=h2;have h00:0<=i3:=by omega
    have a3:=db (P:=P) (k:=k3) (y:=cap) (code:=.slice3Acap) (i:=i3) h00 (by omega) w;have a1:=db (P:=P) (k:=k) (y:=i3.toNat) (code:=.slice3B) (i:=i3) h00 (by omega) w;rcases n1 with⟨rfl,rfl⟩|⟨k',i',rfl,rfl⟩
    .simp[Instr.sliceBounds,a1,a3]
    .simp only[je]at h0 h1;have a2:=db (P:=P) (k:=k') (y:=i3.toNat) (code:=.slice3C) (i:=i') h0 (by omega) w;simp[Instr.sliceBounds,a1,a2,a3]
theorem nC{l:Option Int}{r}{vlo vhi}(n1:(l=none/\vlo=none)\/∃k i,l=some i/\vlo=some (.int k i))
  (n2:∃k,vhi=some (.int k r)) {len cap:Nat} (h0:0<=l.getD 0) (h1:l.getD 0<=r) (h2:r<=cap) (w) :
  (Instr.sliceBounds true len cap vlo vhi none).run P w=.ok ((l.getD 0).toNat,r.toNat,cap) w:=by
 obtain⟨k,rfl⟩:=n2;rcases n1 with⟨rfl,rfl⟩|⟨k',i',rfl,rfl⟩
 .have:=db (P:=P) (k:=k) (y:=cap) (code:=.sliceAcap) (i:=r) (by simp at h0 h1;omega) h2 w;simp[Instr.sliceBounds,this]
 .simp only[je]at h0 h1;have a1:=db (P:=P) (k:=k) (y:=cap) (code:=.sliceAcap) (i:=r) (by omega) h2 w;have a2:=db (P:=P) (k:=k') (y:=r.toNat) (code:=.sliceB) (i:=i') h0 (by omega) w;simp[Instr.sliceBounds,a1,a2]
theorem zI{l:Option Int}{r m}{vlo vhi vmx}(n1:(l=none/\vlo=none)\/∃k i,l=some i/\vlo=some (.int k i))
  (n2:∃k,vhi=some (.int k r)) (n3:∃k,vmx=some (.int k m)) {len cap:Nat} (h0:0<=l.getD 0) (h1:l.getD 0<=r) (h2:r<=m) (h3:m<=cap) (w) :
  (Instr.sliceBounds true len cap vlo vhi vmx).run P w=.ok ((l.getD 0).toNat,r.toNat,m.toNat) w:=by
 obtain⟨k,rfl⟩:=n2;obtain⟨k3,rfl⟩:=n3;have a3:=db (P:=P) (k:=k3) (y:=cap) (code:=.slice3Acap) (i:=m) (by omega) h3 w;have a1:=db (P:=P) (k:=k) (y:=m.toNat) (code:=.slice3B) (i:=r) (by omega) (by omega) w;rcases n1 with⟨rfl,rfl⟩|⟨k',i',rfl,rfl⟩
 .simp[Instr.sliceBounds,a1,a3]
 .simp only[je]at h0 h1;have a2:=db (P:=P) (k:=k') (y:=r.toNat) (code:=.slice3C) (i:=i') h0 (by omega) w;simp[Instr.sliceBounds,a1,a2,a3]
theorem PA(hS:HOk P M0 S){T}{x}{v}{lo hi mx}{vlo vhi vmx}(hx:Rep M0 S v x)
  (e1:lo.isSome=vlo.isSome) (e2:hi.isSome=vhi.isSome) (e3:mx.isSome=vmx.isSome)
  (r1:∀a v,lo=some a->vlo=some v->Rep M0 S v a) (r2:∀a v,hi=some a->vhi=some v->Rep M0 S v a) (r3:∀a v,mx=some a->vmx=some v->Rep M0 S v a) :
  aM P M0 S (Instr.sliceAt T v vlo vhi vmx) (uI P T x lo hi mx S.h):=by
 unfold uI;split
 .rename_i l r m hl hr hm;have n1:=vu e1 r1 hl;have n2:=vu e2 r2 hr;have n3:=vu e3 r3 hm;split
  .rename_i sz xs full;split
   .rename_i e a b he hcut;split
    .rename_i hsz;have hu:=cB he;have h':RepP (Avoid M0 S.m) S.w v (.slice sz xs full):=hx;obtain⟨h0,h1,h2,ha,hb⟩:=rI hcut;have hab:a<=b/\b<=xs.length:=by omega
     have fin:∀(mm:Option Int) (fl:Bool),m=mm->(mm=none\/mm=r)->(fl=mm.elim (full&&b==xs.length) λ_=>true) ->
       aM P M0 S (Instr.sliceAt T v vlo vhi vmx) (.val (.p (.slice sz ((xs.take b).drop a) fl)) S.h):=by
      intro mm fl hmm hmr hfl;subst hmm
      cases h' with
      |slice f hlen hcap hfull hs hM hcell hrr=>
       rename_i bl off len cap;subst hlen;have hrun:=fU (P:=P) (isS:=true) (cap:=cap) n1 n2 n3 hcut hcap (hmr.imp id λe=>⟨rfl,e⟩) S.w;generalize hM2:(m.elim cap λ_=>b)=mc at hrun;have hmc:b<=mc/\mc<=cap/\(fl=true->mc=b):=by
        subst hM2;subst hfl
        cases m with
        |none=>
         refine⟨by simp;omega,bB _,λe=>?_⟩;simp at e;simp
         rw[hfull e.1,e.2]
        |some _=>exact⟨bB _,by simp;omega,λ_=>rfl⟩
       refine aM.pure hS (v':=.slice (some (if mc=a then⟨bl,off,none⟩ else⟨bl,off+a*sz,none⟩)) (b-a) (mc-a)) ?_ (aH ?_)
       .simp only[Instr.sliceAt,Instr.slice,Sem.run_bind,run_underlying hu,dl,hrun,bP hsz,Sem.run_pure];by_cases hz:mc=a<;>simp[hz,fD]
       .by_cases hz:mc=a
        .have:(xs.take b).drop a=[]:=by simp;omega
         rw[this,if_pos hz,show b-a=0 by omega];exact .empty λ_=>by omega
        .rw[if_neg hz]
         exact vn f hab.1 hab.2 hs hM hcell hrr (by omega) λe=>by have:=hmc.2.2 e;omega
      |empty hfull=>
       rename_i ad cap;have ha0:a=0:=by have:=hab.1;have:=hab.2;simp at this;omega
       have hb0:b=0:=by have:=hab.2;simp at this;omega
       subst ha0;subst hb0;have hrun:=fU (P:=P) (isS:=true) (len:=0) (cap:=cap) n1 n2 n3 hcut (dY _) (hmr.imp id λe=>⟨rfl,e⟩) S.w;generalize hM2:(m.elim cap λ_=>0)=mc at hrun;refine aM.pure hS (v':=.slice (if mc=0 then ad else ad.map (·.add (0*sz))) (0-0) (mc-0)) ?_ (aH ?_)
       .simp only[Instr.sliceAt,Instr.slice,Sem.run_bind,run_underlying hu,dl,hrun,bP hsz,Sem.run_pure]
       .simp only[List.take_nil,List.drop_nil,wF];refine .empty λe=>?_;subst hfl
        cases m with
        |none=>simp at hM2 e;subst hM2;have:=hfull e;omega
        |some _=>simp at hM2;omega
     split
     .exact fin none _ rfl (.inl rfl) rfl
     .rename_i mm;split
      .rename_i hrm;exact fin (some mm) _ rfl (.inr hrm.symm) rfl
      .exact trivial
    .exact trivial
   .exact trivial
  .rename_i id ver off len;split
   .rename_i e sz xs a b he hid hcut;split
    .rename_i hc;obtain⟨hsz,hv⟩:=hc;have hu:=cB he;obtain⟨h0,h1,h2,ha,hb⟩:=rI hcut;have hab:a<=b/\b<=len:=by omega
     rcases di hx.2 hid hv with⟨rfl,hv0,hoff,ad,cap,rfl⟩|⟨bl,cap,T',n,hmb,rfl,hcap,hsh,hroom,hreach⟩|⟨hmn,rfl,rfl⟩
     .have hrun:(Instr.sliceBounds true 0 cap vlo vhi vmx).run P S.w=.ok (a,b,cap) S.w:=fU (P:=P) (isS:=true) (len:=0) (cap:=cap) n1 n2 n3 hcut (dY _) (.inl rfl) S.w;refine aM.pure hS (v':=.slice (if cap=a then ad else ad.map (·.add (a*sz))) (b-a) (cap-a)) ?_ ⟨⟨_,_,_,rfl⟩,.inr ⟨sz,xs,hid,by omega,λ_=>.inl ⟨by omega,hv0,by omega,_,_,by rw[show b-a=0 by omega]⟩⟩⟩;simp only[Instr.sliceAt,Instr.slice,Sem.run_bind,run_underlying hu,dl,hrun,bP hsz,Sem.run_pure]
     .have hrun:(Instr.sliceBounds true len cap vlo vhi vmx).run P S.w=.ok (a,b,cap) S.w:=fU (P:=P) (isS:=true) (cap:=cap) n1 n2 n3 hcut hcap.1 (.inl rfl) S.w;refine aM.pure hS (v':=.slice (some (if cap=a then⟨bl,off*sz,none⟩ else⟨bl,(off+a)*sz,none⟩)) (b-a) (cap-a)) ?_ ⟨⟨_,_,_,rfl⟩,.inr ⟨sz,xs,hid,by omega,λ_=>?_⟩⟩
      .simp only[Instr.sliceAt,Instr.slice,Sem.run_bind,run_underlying hu,dl,hrun,bP hsz,Sem.run_pure];by_cases hz:cap=a<;>simp[hz,fD,fM]
      .by_cases hca:cap=a
       .by_cases ha0:a=0
        .subst ha0;rw[if_pos hca];have hb0:b=0:=by have:=hcap.1;omega
         subst hb0;exact .inr (.inl ⟨bl,cap-0,T',n,hmb,by simp,⟨by omega,by omega⟩,hsh,by simpa using hroom,by omega⟩)
        .by_cases hv0:ver=0
         .exfalso;have:=hcap.2;omega
         .exact .inl ⟨by omega,hv0,by have:=hcap.2;omega,_,_,by rw[show b-a=0 by omega]⟩
       .rw[if_neg hca];have hcl:=hcap.1;have hco:=hcap.2;refine .inr (.inl ⟨bl,cap-a,T',n,hmb,rfl,⟨by omega,by omega⟩,hsh,?_⟩);rw[show off+a+(cap-a)=off+cap by omega];exact⟨hroom,hreach⟩
     .have hrun:(Instr.sliceBounds true 0 0 vlo vhi vmx).run P S.w=.ok (a,b,0) S.w:=fU (P:=P) (isS:=true) (len:=0) (cap:=0) n1 n2 n3 hcut (bB _) (.inl rfl) S.w;refine aM.pure hS (v':=.slice none 0 0) ?_ ⟨⟨_,_,_,rfl⟩,.inr ⟨sz,xs,hid,by omega,λ_=>.inr (.inr ⟨hmn,rfl,by omega⟩)⟩⟩;simp only[Instr.sliceAt,Instr.slice,Sem.run_bind,run_underlying hu,dl,hrun,bP hsz,Sem.run_pure];simp[show a=0 by omega,show b=0 by omega]
    .exact trivial
   .rename_i e sz xs mm he hid;split
    .rename_i hc;obtain⟨hsz,hv,hrs,c0,c1,c2,c3⟩:=hc;have hu:=cB he;obtain⟨rr,rfl⟩:=j6.1 hrs;simp only[je]at c1 c2;have k2:∃k,vhi=some (.int k rr):=by
      rcases n2 with⟨h,_⟩|⟨k,i,h,h'⟩
      .cases h
      .cases h;exact⟨k,h'⟩
     have k3:∃k,vmx=some (.int k mm):=by
      rcases n3 with⟨h,_⟩|⟨k,i,h,h'⟩
      .cases h
      .cases h;exact⟨k,h'⟩
     have fin:∀(ad:Option Addr) (ln cap:Nat),v=.slice ad ln cap->mm<=cap->aM P M0 S (Instr.sliceAt T v vlo vhi vmx) (.val .undef S.h):=by
      intro ad ln cap hvv hle;subst hvv;have hrun:=zI (P:=P) (len:=ln) n1 k2 k3 c0 c1 c2 hle S.w;refine aM.pure hS (v':=.slice (if mm.toNat=(l.getD 0).toNat then ad else ad.map (·.add ((l.getD 0).toNat*sz))) (rr.toNat-(l.getD 0).toNat) (mm.toNat-(l.getD 0).toNat)) ?_ trivial;simp only[Instr.sliceAt,Instr.slice,Sem.run_bind,run_underlying hu,dl,hrun,bP hsz,Sem.run_pure]
     rcases di hx.2 hid hv with⟨rfl,hv0,hoff,ad,cap,rfl⟩|⟨bl,cap,T',n,hmb,rfl,hcap,hsh,hroom,hreach⟩|⟨hmn,rfl,rfl⟩
     .exact fin _ _ _ rfl (by omega)
     .exact fin _ _ _ rfl (by omega)
     .refine fin _ _ _ rfl ?_;have h0:=hS.obj id _ hid;rw[hmn]at h0;rcases h0 with⟨_,rfl⟩|⟨b,_,_,h,_⟩
      .simp at hv;omega
      .cases h
    .exact trivial
   .rename_i e sz xs he hid _;split
    .rename_i hc;obtain⟨hsz,hv,hrs,c0,c1,c3⟩:=hc;have hu:=cB he;obtain⟨rr,rfl⟩:=j6.1 hrs;simp only[je]at c1 c3 |-;have k2:∃k,vhi=some (.int k rr):=by
      rcases n2 with⟨h,_⟩|⟨k,i,h,h'⟩
      .cases h
      .cases h;exact⟨k,h'⟩
     have k3:vmx=none:=by
      rcases n3 with⟨_,h⟩|⟨k,i,h,h'⟩
      .exact h
      .cases h
     subst k3;generalize ha:(l.getD 0).toNat=a;generalize hb:rr.toNat=b;rcases di hx.2 hid hv with⟨rfl,hv0,hoff,ad,cap,rfl⟩|⟨bl,cap,T',n,hmb,rfl,hcap,hsh,hroom,hreach⟩|⟨hmn,rfl,rfl⟩
     .have hrun:=nC (P:=P) (len:=0) (cap:=cap) n1 k2 c0 c1 (by omega) S.w;rw[ha,hb]at hrun;refine aM.pure hS (v':=.slice (if cap=a then ad else ad.map (·.add (a*sz))) (b-a) (cap-a)) ?_ ⟨⟨_,_,_,rfl⟩,.inr ⟨sz,xs,hid,by omega,λ_=>.inl ⟨by omega,hv0,by omega,_,_,by rw[show b-a=0 by omega]⟩⟩⟩;simp only[Instr.sliceAt,Instr.slice,Sem.run_bind,run_underlying hu,dl,hrun,bP hsz,Sem.run_pure]
     .have hrun:=nC (P:=P) (len:=len) (cap:=cap) n1 k2 c0 c1 (by omega) S.w;rw[ha,hb]at hrun;refine aM.pure hS (v':=.slice (some (if cap=a then⟨bl,off*sz,none⟩ else⟨bl,(off+a)*sz,none⟩)) (b-a) (cap-a)) ?_ ⟨⟨_,_,_,rfl⟩,.inr ⟨sz,xs,hid,by omega,λ_=>?_⟩⟩
      .simp only[Instr.sliceAt,Instr.slice,Sem.run_bind,run_underlying hu,dl,hrun,bP hsz,Sem.run_pure];by_cases hz:cap=a<;>simp[hz,fD,fM]
      .by_cases hca:cap=a
       .by_cases hv0:ver=0
        .refine .inr (.inl ⟨bl,cap-a,T',n,hmb,?_,⟨by omega,by omega⟩,hsh,?_,by omega⟩)
         .rw[if_pos hca,show off+a=off by omega]
         .rw[show off+a+(cap-a)=off+cap by omega];exact hroom
        .exact .inl ⟨by omega,hv0,by omega,_,_,by rw[show b-a=0 by omega]⟩
       .rw[if_neg hca];refine .inr (.inl ⟨bl,cap-a,T',n,hmb,rfl,⟨by omega,by omega⟩,hsh,?_⟩);rw[show off+a+(cap-a)=off+cap by omega];exact⟨hroom,by omega⟩
     .have h0:=hS.obj id _ hid;rw[hmn]at h0;rcases h0 with⟨_,rfl⟩|⟨b,_,_,h,_⟩
      .have hrun:=nC (P:=P) (len:=0) (cap:=0) n1 k2 c0 c1 (by simp at hv;omega) S.w;rw[ha,hb]at hrun;have ha0:a=0:=by simp at hv;omega
       have hb0:b=0:=by simp at hv;omega
       refine aM.pure hS (v':=.slice none 0 0) ?_ ⟨⟨_,_,_,rfl⟩,.inr ⟨sz,[],hid,by omega,λ_=>.inr (.inr ⟨hmn,rfl,by omega⟩)⟩⟩;simp only[Instr.sliceAt,Instr.slice,Sem.run_bind,run_underlying hu,dl,hrun,bP hsz,Sem.run_pure];simp[ha0,hb0]
      .cases h
    .exact trivial
   .exact trivial
  .rename_i s;split
   .rename_i a b hcut;split
    .rename_i hst;have h':RepP (Avoid M0 S.m) S.w v (.str s):=hx;cases h';have hrun:(Instr.sliceBounds false s.size s.size vlo vhi vmx).run P S.w=.ok (a,b,s.size) S.w:=fU (P:=P) (isS:=false) (cap:=s.size) n1 n2 n3 hcut (bB _) (.inl rfl) S.w;have hmx:vmx=none:=by
      rcases n3 with⟨_,h⟩|⟨_,_,h,_⟩
      .exact h
      .cases h
     subst hmx;refine aM.pure hS (v':=.string (s.extract a b)) ?_ (aH (.str _));simp[Instr.sliceAt,Instr.slice,run_underlying (fH hst),hrun]
    .exact trivial
   .exact trivial
  .split
   .rename_i e ab he hcut;split
    .rename_i hs;obtain⟨sz,hsz⟩:=j6.1 hs;obtain⟨a,b⟩:=ab;obtain⟨h0,h1,h2,ha,hb⟩:=rI hcut;have h':RepP (Avoid M0 S.m) S.w v .nilslice:=hx;cases h';have hrun:(Instr.sliceBounds true 0 0 vlo vhi vmx).run P S.w=.ok (a,b,0) S.w:=fU (P:=P) (isS:=true) (len:=0) (cap:=0) n1 n2 n3 hcut (bB _) (.inl rfl) S.w;refine aM.pure hS (v':=.slice none 0 0) ?_ (aH .nilslice);simp only[Instr.sliceAt,Instr.slice,Sem.run_bind,run_underlying (cB he),dl,hrun,bP hsz,Sem.run_pure];simp[show a=0 by omega,show b=0 by omega]
    .exact trivial
   .exact trivial
  .exact trivial
 .exact trivial
end Abs
end Go.Proofs.YtoapoaoelpcniaaGreatDoor
namespace Go.Proofs.YtoapoaoelpcniaaGreatDoor
namespace Abs
variable {P:Program} {M0:Nat->Prop} {S:Mem}
theorem xG:∀(vs) (off k) (C),(vs.zipIdx k).foldl (λcs (c,j)=>cs.setIfInBounds (off+j) c) C=kw C (off+k) vs
 |[],_,_,_=>rfl
 |v::r,off,k,C=>by
  simp only[List.zipIdx_cons,nd,kw];rw[xG r off (k+1)];rfl
theorem CE{place}:∀{ps} {vs} {cs cs'} {C},
  ps.length=vs.length->(∀(i:Nat) p q,ps[i]?=some p->vs[i]?=some q->p.1=q.1/\Rep M0 S q.2 p.2)->C.size=cs.length->ig M0 S (λj=>C.getD j undef) cs ->
  wl place ps cs=some cs'->∃C',Instr.fill place C vs=some C'/\C'.size=cs'.length/\ig M0 S (λj=>C'.getD j undef) cs'
 |[],[],cs,cs',C,_,_,hn,hr,h=>by
  simp[wl]at h;subst h
  exact⟨C,rfl,hn,hr⟩
 |[],_::_,_,_,_,hl,_,_,_,_=>by simp at hl
 |_::_,[],_,_,_,hl,_,_,_,_=>by simp at hl
 |(i,x)::ps,(i',v)::vs,cs,cs',C,hl,hp,hn,hr,h=>by
  obtain⟨h1,h2⟩:=hp 0 (i,x) (i',v) rfl rfl;simp only at h1 h2;subst h1;simp only[wl]at h;split at h
  .rename_i off n new hpl hc;split at h
   .rename_i hcond;obtain⟨hn1,hn2⟩:=hcond;obtain⟨hv,hvr⟩:=js h2 hc;have hf:Instr.fill place C ((i,v)::vs)=Instr.fill place (kw C off v.cells.toList) vs:=by
     simp only[Instr.fill,hpl];rw[if_neg (by simp;omega)]
     congr 1
     rw[<-Fx,Array.toList_zipIdx];have:=xG v.cells.toList off 0 C;simpa using this
    rw[hf];have hlen:v.cells.toList.length=new.length:=by simpa using hv
    refine CE (by simpa using hl) (λk p q h3 h4=>hp (k+1) p q (by simpa using h3) (by simpa using h4)) (by rw[iO,oo _ _ _ (by omega)];exact hn) ?_ h;intro j c hj;have hjl:=(aF.1 hj).1;rw[sq _ _ _ _ (by omega)]at hj;show c.isCell=true/\bO M0 S ((kw C off v.cells.toList).getD j undef) c;rw[iV _ _ _ _ (by omega)];split at hj
    .rename_i hjj;rw[if_pos (by omega),gI];exact hvr (j-off) c hj
    .rename_i hjj;rw[if_neg (by omega)];exact hr j c hj
   .cases h
  .cases h
theorem Q5(hS:HOk P M0 S){T}{ps}{vs}(hl:ps.length=vs.toList.length)
  (hp:∀(i:Nat) p q,ps[i]?=some p->vs.toList[i]?=some q->p.1=q.1/\Rep M0 S q.2 p.2):aM P M0 S (Instr.build T vs) (uK P T ps S.h):=by
 unfold uK;split
 .rename_i z hz;have hzero:∃it zv,P.info? T=some it/\it.zero=some zv/\zv.cells.size=(z.map AV.p).length/\ig M0 S (λj=>zv.cells.getD j undef) (z.map .p):=by
   unfold au at hz
   cases hi:P.info? T with
   |none=>simp[hi]at hz
   |some it=>
    cases hzz:it.zero with
    |none=>simp[hi,hzz]at hz
    |some zv=>
     simp[hi,hzz]at hz;have hrep:Rep M0 S zv (.p (.agg z)):=gP hz;obtain⟨h1,h2⟩:=js hrep (cs:=z.map .p) rfl;exact⟨it,zv,rfl,hzz,h1,h2⟩
  obtain⟨it,zv,hi,hzz,hzn,hzr⟩:=hzero;split
  .rename_i pl hpl;split
   .rename_i cs hcs;obtain⟨C',h1,h2,h3⟩:=CE hl hp hzn hzr hcs;have hb:P.built T vs.toList=some C':=by
     unfold aE at hpl;split at hpl
     .rename_i fs hu;unfold Program.built;simp only[hi,hu,hzz,hpl];simpa using h1
     .cases hpl
    exact aM.pure hS (run_build S.w T vs C' hb) (pz (xk h2 h3))
   .exact trivial
  .split
   .rename_i n e he;split
    .rename_i s hs;split
     .rename_i cs hcs;obtain⟨C',h1,h2,h3⟩:=CE hl hp hzn hzr hcs;have hb:P.built T vs.toList=some C':=by
       unfold ce at hs
       cases hie:P.info? e with
       |none=>simp[hie]at hs
       |some ie=>
        simp[hie]at hs;subst hs;unfold Program.built;simp only[hi,m9 he,hzz,hie];exact h1
      exact aM.pure hS (run_build S.w T vs C' hb) (pz (xk h2 h3))
     .exact trivial
    .exact trivial
   .exact trivial
 .exact trivial
def Mem.junk (S:Mem) (ob:Obj):Mem:=⟨S.m,S.h,S.w.alloc ob⟩
theorem Ev.junk(base)(S)(ob):Ev base S (S.junk ob):=⟨Fr.alloc _ _ _,λ_ h=>.inl h,λ_ o _ h=>⟨o,h,ObjEv.refl _ _⟩⟩
theorem HOk.junk(hS:HOk P M0 S)(ob:Obj):HOk P M0 (S.junk ob) where
 len:=hS.len
 lt:=λb h=>by have:=hS.lt b h;simp[Mem.junk];omega
 m0:=λb h=>by obtain⟨h1,h2⟩:=hS.m0 b h;exact⟨by simp[Mem.junk];omega,h2⟩
 inj:=hS.inj
 gl:=(Ev.junk 0 S ob).glob hS.gl
 obj:=λid o h=>(hS.obj id o h).keep (Ev.junk _ S ob) λb hb=>gc _ _ _ (hS.lt b (mM hb).1)
theorem xA{T}{n}(h:gD P T n=true)(w):∃z,(zeroValue T).run P w=.ok z w/\z.cells.size=n:=by
 unfold gD at h
 cases hi:P.info? T with
 |none=>simp[hi]at h
 |some i=>
  cases hz:i.zero with
  |none=>simp[hi,hz]at h
  |some v=>simp[hi,hz]at h;exact⟨v,by simp[zeroValue,typeInfo,hi,hz],h⟩
theorem G1{sz}:∀{ps} {vs} {i} {xs} {C},
  ps.length=vs.length->(∀(i:Nat) p q,ps[i]?=some p->vs[i]?=some q->p.1=q.1/\Rep M0 S q.2 p.2)->sQ i sz ps=some xs->(i+xs.length)*sz<=C.size ->
  ∃C',Instr.fill (λi=>some (i*sz,sz)) C vs=some C'/\C'.size=C.size/\(∀k,k<i*sz->C'.getD k undef=C.getD k undef) /\
   ∀(j) (x),xs[j]?=some x->∃cs,x.cells=some cs/\cs.length=sz/\∀(l) (c),cs[l]?=some c->c.isCell=true/\bO M0 S (C'.getD ((i+j)*sz+l) undef) c
 |[],[],i,xs,C,_,_,h,_=>by
  simp[sQ]at h;subst h
  exact⟨C,rfl,rfl,λ_ _=>rfl,λj x hj=>by simp at hj⟩
 |[],_::_,_,_,_,hl,_,_,_=>by simp at hl
 |_::_,[],_,_,_,hl,_,_,_=>by simp at hl
 |(i',x)::ps,(i'',v)::vs,i,xs,C,hl,hp,h,hC=>by
  obtain⟨h1,h2⟩:=hp 0 (i',x) (i'',v) rfl rfl;simp only at h1 h2;subst h1;simp only[sQ]at h;split at h
  .rename_i hcond;obtain⟨rfl,hcl⟩:=hcond
   cases hxc:x.cells with
   |none=>simp[hxc]at hcl
   |some cs=>
    simp[hxc]at hcl;split at h
    .rename_i l hlr;cases h;obtain⟨hv,hvr⟩:=js h2 hxc;have hC':(i+1+l.length)*sz<=C.size:=by simpa[Nat.add_comm,Nat.add_left_comm,jW]using hC
     have hi1:(i+1)*sz<=C.size:=lH (jN sz (by omega)) hC';have hi2:(i+1)*sz=i*sz+sz:=by rw[fM,B9]
     have hlen:v.cells.toList.length=sz:=by simp;omega
     have hf:Instr.fill (λi=>some (i*sz,sz)) C ((i,v)::vs)=Instr.fill (λi=>some (i*sz,sz)) (kw C (i*sz) v.cells.toList) vs:=by
      simp only[Instr.fill];rw[if_neg (by simp at hlen;simp;omega)]
      congr 1
      rw[<-Fx,Array.toList_zipIdx];have:=xG v.cells.toList (i*sz) 0 C;simpa using this
     obtain⟨C',g1,g2,g3,g4⟩:=G1 (C:=kw C (i*sz) v.cells.toList) (i:=i+1) (by simpa using hl) (λk p q h3 h4=>hp (k+1) p q (by simpa using h3) (by simpa using h4)) hlr (by rw[iO];exact hC');refine⟨C',by rw[hf];exact g1,by rw[g2,iO],λk hk=>?_,λj y hj=>?_⟩
     .rw[g3 k (by omega),iV _ _ _ _ (by omega),if_neg (by omega)]
     .cases j with
      |zero=>
       simp at hj;subst hj;refine⟨cs,hxc,hcl,λl' c hc=>?_⟩;have hll:=(aF.1 hc).1;rw[pk,g3 _ (by omega),iV _ _ _ _ (by omega),if_pos (by omega),gI,show i*sz+l'-i*sz=l' by omega]
       exact hvr l' c hc
      |succ j=>
       obtain⟨cs',a1,a2,a3⟩:=g4 j y (by simpa using hj);refine⟨cs',a1,a2,λl' c hc=>?_⟩;have:=a3 l' c hc;rwa [show i+1+j=i+(j+1) by omega]at this
    .cases h
  .cases h
theorem M9{xs}{l}(h:gK xs=some l){i:Nat}{q}(hi:l[i]?=some q):xs[i]?=some (.p q):=by
 rw[ju h];simp[hi]
theorem Ld{sz n b}{xs}{l}{C}{T}{w}{M}(hl:gK xs=some l)(hn:xs.length=n)(hb:w.heap[b]?=some (.cells C T (0,0)))(hM:¬M b)
  (hsize:n*sz<=C.size) (hel:∀(i) (x),xs[i]?=some x->∃cs,x.cells=some cs/\cs.length=sz/\∀(j) (c),cs[j]?=some c->c.isCell=true/\∀q,c=.p q->RepP M w (C.getD (i*sz+j) undef) q) :
  RepP M w (.slice (some ⟨b,0,none⟩) n n) (.slice sz l true):=by
 have hxl:l.length=n:=by rw[ju hl]at hn;simpa using hn
 have helem:∀(i:Nat) (q:PV),l[i]?=some q->(q.cells.length=sz/\∀c,c∈q.cells->c.isCell=true)/\∀(j:Nat) (c:PV),q.cells[j]?=some c->RepP M w (C.getD (i*sz+j) undef) c:=by
  intro i q hi;obtain⟨cs,h1,h2,h3⟩:=hel i _ (M9 hl hi);have hcs:cs=q.cells.map .p:=by
   cases q with
   |tuple l=>simp[AV.cells]at h1
   |_=>(simp[AV.cells]at h1;exact h1.symm)
  subst hcs;refine⟨⟨by simpa using h2,λc hc=>?_⟩,λj c hj=>?_⟩
  .obtain⟨j,hj⟩:=dX hc;exact(h3 j (.p c) (by simp[hj])).1
  .exact(h3 j (.p c) (by simp[hj])).2 c rfl
 refine .slice (λk=>C.getD k undef) (by omega) (bB _) (λ_=>rfl) (λx hx=>?_) (λ_=>hM) (λk hk=>?_) (λi j x c hx hj=>(helem i x hx).2 j c hj)
 .obtain⟨i,hi⟩:=dX hx;exact(helem i x hi).1
 .rw[iq];exact jE hb k (by rw[hxl]at hk;omega)
theorem EQ(hS:HOk P M0 S){T}{mu}{n}{ps}{vs}(hl:ps.length=vs.toList.length)
  (hp:∀(i:Nat) p q,ps[i]?=some p->vs.toList[i]?=some q->p.1=q.1/\Rep M0 S q.2 p.2):aM P M0 S (Instr.buildSlice T n vs) (ll P T mu n ps S.h):=by
 unfold ll;split
 .rename_i e he;split
  .rename_i sz hsz;split
   .rename_i xs hxs;split
    .rename_i hc;obtain⟨hxn,hsz0,hroom,hz⟩:=hc;have hu:=cB he;obtain⟨z,hzr,hzs⟩:=xA hz S.w;have hzz:∃zz:Array Value,(if n*sz=0 then(pure #[]:Sem (Array Value)) else do pure (<-zeroValue e).cells).run P S.w=.ok zz S.w:=by
      by_cases h0:n*sz=0
      .exact⟨#[],by rw[if_pos h0];rfl⟩
      .exact⟨z.cells,by rw[if_neg h0];simp[hzr]⟩
     obtain⟨zz,hzz⟩:=hzz;obtain⟨C',g1,g2,_,g4⟩:=G1 (C:=(Array.range (n*sz)).map (zz[·%zz.size]!)) (i:=0) hl hp hxs (by simp[hxn]);simp only[iq]at g4;have hsize:C'.size=n*sz:=by rw[g2];simp
     have hrun:(Instr.buildSlice T n vs).run P S.w=.ok (.slice (some ⟨S.w.heap.size,0,none⟩) n n) (S.w.alloc (.cells C' e)):=by
      unfold Instr.buildSlice;simp only[Sem.run_bind,run_underlying hu,dl,bP hsz];rw[if_neg (by omega)];by_cases h0:n*sz=0
      .rw[if_pos h0]at hzz |-;simp only[Sem.run_pure,Result.ok.injEq,and_true]at hzz;subst hzz;simp only[Sem.run_bind,Sem.run_pure,dl,g1];simp[newRow]
      .rw[if_neg h0]at hzz |-;simp only[Sem.run_bind,hzr,dl,Sem.run_pure,Result.ok.injEq,and_true]at hzz;subst hzz;simp only[Sem.run_bind,hzr,Sem.run_pure,dl,g1];simp[newRow]
     split
     .rename_i hmu hpl;rename_i l _;refine⟨S.junk (.cells C' e),_,rfl,hrun,Ev.junk _ _ _,HOk.junk hS _,?_⟩;refine Ld hpl hxn (T:=e) (bK _ _) (λh=>?_) (by omega) (λi x hx=>?_)
      .rcases h with h|h
       .have:=(hS.m0 _ h).1;omega
       .have:=hS.lt _ h;omega
      .obtain⟨cs,a1,a2,a3⟩:=g4 i x hx;refine⟨cs,a1,a2,λj c hj=>⟨(a3 j c hj).1,λq hq=>?_⟩⟩;subst hq;exact(Ev.junk 0 S (.cells C' e)).repP (a3 j _ hj).2
     .refine⟨S.new (.row sz xs) (.cells C' e),_,rfl,hrun,Ev.new _ _ hS (bB _) _ _,HOk.new hS (.inr ⟨_,e,C',rfl,bK _ _,by rw[hxn];omega,?_⟩),⟨_,_,_,rfl⟩,.inr ⟨sz,xs,by simp[Mem.new],by omega,λ_=>.inr (.inl ⟨S.w.heap.size,n,e,C'.size,?_,by simp,⟨bB _,by omega⟩,?_,by simp;omega,by omega⟩)⟩⟩
      .exact dW.keep (Ev.new _ _ hS (bB _) _ _) g4
      .have:=hS.len;show (S.m++[some S.w.heap.size]).getD S.h.length none=_;rw[<-this];simp
      .show (S.w.alloc (.cells C' e)).shape? S.w.heap.size=_;unfold World.shape?;rw[bK]
    .exact trivial
   .exact trivial
  .exact trivial
 .exact trivial
end Abs
end Go.Proofs.YtoapoaoelpcniaaGreatDoor
