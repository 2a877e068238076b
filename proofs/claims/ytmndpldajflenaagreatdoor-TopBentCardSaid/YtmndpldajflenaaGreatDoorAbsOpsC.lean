/- LAWS: operations of the abstract machine and the model's: literals, append, make. -/
import Derived.Test.YtmndpldajflenaaGreatDoorAbsOpsB
set_option linter.all false
namespace Go.Proofs.YtmndpldajflenaaGreatDoor
namespace Abs
variable {P:Program} {M0:Nat->Prop} {S:Mem}
theorem sG:∀(vs) (off k) (C),(vs.zipIdx k).foldl (λcs (c,j)=>cs.setIfInBounds (off+j) c) C=iq C (off+k) vs
 |[],_,_,_=>rfl
 |v::r,off,k,C=>by
  simp only[List.zipIdx_cons,np,iq];rw[sG r off (k+1)];rfl
theorem xc{place}:∀{ps} {vs} {cs cs'} {C},
  ps.length=vs.length->(∀(i:Nat) p q,ps[i]?=some p->vs[i]?=some q->p.1=q.1/\Rep M0 S q.2 p.2)->C.size=cs.length->fz M0 S (λj=>C.getD j undef) cs ->
  ru place ps cs=some cs'->∃C',Instr.fill place C vs=some C'/\C'.size=cs'.length/\fz M0 S (λj=>C'.getD j undef) cs'
 |[],[],cs,cs',C,_,_,hn,hr,h=>by
  simp[ru]at h;subst h
  exact⟨C,rfl,hn,hr⟩
 |[],_::_,_,_,_,hl,_,_,_,_=>by simp at hl
 |_::_,[],_,_,_,hl,_,_,_,_=>by simp at hl
 |(i,x)::ps,(i',v)::vs,cs,cs',C,hl,hp,hn,hr,h=>by
  obtain⟨h1,h2⟩:=hp 0 (i,x) (i',v) rfl rfl;simp only at h1 h2;subst h1;simp only[ru]at h;split at h
  .rename_i off n new hpl hc;split at h
   .rename_i hcond;obtain⟨hn1,hn2⟩:=hcond;obtain⟨hv,hvr⟩:=gL h2 hc;have hf:Instr.fill place C ((i,v)::vs)=Instr.fill place (iq C off v.cells.toList) vs:=by
     simp only[Instr.fill,hpl];rw[if_neg (by simp;omega)]
     congr 1
     rw[<-Fh,Array.toList_zipIdx];have:=sG v.cells.toList off 0 C;simpa using this
    rw[hf];have hlen:v.cells.toList.length=new.length:=by simpa using hv
    refine xc (by simpa using hl) (λk p q h3 h4=>hp (k+1) p q (by simpa using h3) (by simpa using h4)) (by rw[fO,kW _ _ _ (by omega)];exact hn) ?_ h;intro j c hj;have hjl:=(aA.1 hj).1;rw[nK _ _ _ _ (by omega)]at hj;show c.isCell=true/\aY M0 S ((iq C off v.cells.toList).getD j undef) c;rw[fU _ _ _ _ (by omega)];split at hj
    .rename_i hjj;rw[if_pos (by omega),e6];exact hvr (j-off) c hj
    .rename_i hjj;rw[if_neg (by omega)];exact hr j c hj
   .cases h
  .cases h
theorem Iy(hS:HOk P M0 S){T}{ps}{vs}(hl:ps.length=vs.toList.length)
  (hp:∀(i:Nat) p q,ps[i]?=some p->vs.toList[i]?=some q->p.1=q.1/\Rep M0 S q.2 p.2):aB P M0 S (Instr.build T vs) (qc P T ps S.h):=by
 unfold qc;split
 .rename_i z hz;have hzero:∃it zv,P.info? T=some it/\it.zero=some zv/\zv.cells.size=(z.map AV.p).length/\fz M0 S (λj=>zv.cells.getD j undef) (z.map .p):=by
   unfold ax at hz
   cases hi:P.info? T with
   |none=>simp[hi]at hz
   |some it=>
    cases hzz:it.zero with
    |none=>simp[hi,hzz]at hz
    |some zv=>
     simp[hi,hzz]at hz;have hrep:Rep M0 S zv (.p (.agg z)):=eb hz;obtain⟨h1,h2⟩:=gL hrep (cs:=z.map .p) rfl;exact⟨it,zv,rfl,hzz,h1,h2⟩
  obtain⟨it,zv,hi,hzz,hzn,hzr⟩:=hzero;split
  .rename_i pl hpl;split
   .rename_i cs hcs;obtain⟨C',h1,h2,h3⟩:=xc hl hp hzn hzr hcs;have hb:P.built T vs.toList=some C':=by
     unfold bN at hpl;split at hpl
     .rename_i fs hu;unfold Program.built;simp only[hi,hu,hzz,hpl];simpa using h1
     .cases hpl
    exact aB.pure hS (run_build S.w T vs C' hb) (lz (sg h2 h3))
   .exact trivial
  .split
   .rename_i n e he;split
    .rename_i s hs;split
     .rename_i cs hcs;obtain⟨C',h1,h2,h3⟩:=xc hl hp hzn hzr hcs;have hb:P.built T vs.toList=some C':=by
       unfold bj at hs
       cases hie:P.info? e with
       |none=>simp[hie]at hs
       |some ie=>
        simp[hie]at hs;subst hs;unfold Program.built;simp only[hi,iT he,hzz,hie];exact h1
      exact aB.pure hS (run_build S.w T vs C' hb) (lz (sg h2 h3))
     .exact trivial
    .exact trivial
   .exact trivial
 .exact trivial
def Mem.junk (S:Mem) (ob:Obj):Mem:=⟨S.m,S.h,S.w.alloc ob⟩
theorem Ev.junk(base)(S)(ob):Ev base S (S.junk ob):=⟨Fr.alloc _ _ _,λ_ h=>.inl h,λ_ o _ h=>⟨o,h,ObjEv.refl _ _⟩⟩
theorem HOk.junk(hS:HOk P M0 S)(ob:Obj):HOk P M0 (S.junk ob) where
 len:=hS.len
 lt:=λb h=>by have:=hS.lt b h;simp[Mem.junk];omega
 m0:=λb h=>by obtain⟨h1,h2⟩:=hS.m0 b h;exact⟨by simp[Mem.junk];omega,h2⟩
 inj:=hS.inj
 gl:=(Ev.junk 0 S ob).glob hS.gl
 obj:=λid o h=>(hS.obj id o h).keep (Ev.junk _ S ob) λb hb=>iL _ _ _ (hS.lt b (jW hb).1)
theorem sC{T}{n}(h:fJ P T n=true)(w):∃z,(zeroValue T).run P w=.ok z w/\z.cells.size=n:=by
 unfold fJ at h
 cases hi:P.info? T with
 |none=>simp[hi]at h
 |some i=>
  cases hz:i.zero with
  |none=>simp[hi,hz]at h
  |some v=>simp[hi,hz]at h;exact⟨v,by simp[zeroValue,typeInfo,hi,hz],h⟩
theorem A7{sz}:∀{ps} {vs} {i} {xs} {C},
  ps.length=vs.length->(∀(i:Nat) p q,ps[i]?=some p->vs[i]?=some q->p.1=q.1/\Rep M0 S q.2 p.2)->od i sz ps=some xs->(i+xs.length)*sz<=C.size ->
  ∃C',Instr.fill (λi=>some (i*sz,sz)) C vs=some C'/\C'.size=C.size/\(∀k,k<i*sz->C'.getD k undef=C.getD k undef) /\
   ∀(j) (x),xs[j]?=some x->∃cs,x.cells=some cs/\cs.length=sz/\∀(l) (c),cs[l]?=some c->c.isCell=true/\aY M0 S (C'.getD ((i+j)*sz+l) undef) c
 |[],[],i,xs,C,_,_,h,_=>by
  simp[od]at h;subst h
  exact⟨C,rfl,rfl,λ_ _=>rfl,λj x hj=>by simp at hj⟩
 |[],_::_,_,_,_,hl,_,_,_=>by simp at hl
 |_::_,[],_,_,_,hl,_,_,_=>by simp at hl
 |(i',x)::ps,(i'',v)::vs,i,xs,C,hl,hp,h,hC=>by
  obtain⟨h1,h2⟩:=hp 0 (i',x) (i'',v) rfl rfl;simp only at h1 h2;subst h1;simp only[od]at h;split at h
  .rename_i hcond;obtain⟨rfl,hcl⟩:=hcond
   cases hxc:x.cells with
   |none=>simp[hxc]at hcl
   |some cs=>
    simp[hxc]at hcl;split at h
    .rename_i l hlr;cases h;obtain⟨hv,hvr⟩:=gL h2 hxc;have hC':(i+1+l.length)*sz<=C.size:=by simpa[Nat.add_comm,Nat.add_left_comm,fX]using hC
     have hi1:(i+1)*sz<=C.size:=iZ (eO sz (by omega)) hC';have hi2:(i+1)*sz=i*sz+sz:=by rw[cG,ql]
     have hlen:v.cells.toList.length=sz:=by simp;omega
     have hf:Instr.fill (λi=>some (i*sz,sz)) C ((i,v)::vs)=Instr.fill (λi=>some (i*sz,sz)) (iq C (i*sz) v.cells.toList) vs:=by
      simp only[Instr.fill];rw[if_neg (by simp at hlen;simp;omega)]
      congr 1
      rw[<-Fh,Array.toList_zipIdx];have:=sG v.cells.toList (i*sz) 0 C;simpa using this
     obtain⟨C',g1,g2,g3,g4⟩:=A7 (C:=iq C (i*sz) v.cells.toList) (i:=i+1) (by simpa using hl) (λk p q h3 h4=>hp (k+1) p q (by simpa using h3) (by simpa using h4)) hlr (by rw[fO];exact hC');refine⟨C',by rw[hf];exact g1,by rw[g2,fO],λk hk=>?_,λj y hj=>?_⟩
     .rw[g3 k (by omega),fU _ _ _ _ (by omega),if_neg (by omega)]
     .cases j with
      |zero=>
       simp at hj;subst hj;refine⟨cs,hxc,hcl,λl' c hc=>?_⟩;have hll:=(aA.1 hc).1;rw[j5,g3 _ (by omega),fU _ _ _ _ (by omega),if_pos (by omega),e6,show i*sz+l'-i*sz=l' by omega]
       exact hvr l' c hc
      |succ j=>
       obtain⟨cs',a1,a2,a3⟩:=g4 j y (by simpa using hj);refine⟨cs',a1,a2,λl' c hc=>?_⟩;have:=a3 l' c hc;rwa [show i+1+j=i+(j+1) by omega]at this
    .cases h
  .cases h
theorem FL{xs}{l}(h:bV xs=some l){i:Nat}{q}(hi:l[i]?=some q):xs[i]?=some (.p q):=by
 rw[gM h];simp[hi]
theorem D3{sz n b}{xs}{l}{C}{T}{w}{M}(hl:bV xs=some l)(hn:xs.length=n)(hb:w.heap[b]?=some (.cells C T (0,0)))(hM:¬M b)
  (hsize:n*sz<=C.size) (hel:∀(i) (x),xs[i]?=some x->∃cs,x.cells=some cs/\cs.length=sz/\∀(j) (c),cs[j]?=some c->c.isCell=true/\∀q,c=.p q->RepP M w (C.getD (i*sz+j) undef) q) :
  RepP M w (.slice (some ⟨b,0,none⟩) n n) (.slice sz l true):=by
 have hxl:l.length=n:=by rw[gM hl]at hn;simpa using hn
 have helem:∀(i:Nat) (q:PV),l[i]?=some q->(q.cells.length=sz/\∀c,c∈q.cells->c.isCell=true)/\∀(j:Nat) (c:PV),q.cells[j]?=some c->RepP M w (C.getD (i*sz+j) undef) c:=by
  intro i q hi;obtain⟨cs,h1,h2,h3⟩:=hel i _ (FL hl hi);have hcs:cs=q.cells.map .p:=by
   cases q with
   |tuple l=>simp[AV.cells]at h1
   |_=>(simp[AV.cells]at h1;exact h1.symm)
  subst hcs;refine⟨⟨by simpa using h2,λc hc=>?_⟩,λj c hj=>?_⟩
  .obtain⟨j,hj⟩:=eL hc;exact(h3 j (.p c) (by simp[hj])).1
  .exact(h3 j (.p c) (by simp[hj])).2 c rfl
 refine .slice (λk=>C.getD k undef) (by omega) (aJ _) (λ_=>rfl) (λx hx=>?_) (λ_=>hM) (λk hk=>?_) (λi j x c hx hj=>(helem i x hx).2 j c hj)
 .obtain⟨i,hi⟩:=eL hx;exact(helem i x hi).1
 .rw[eN];exact gU hb k (by rw[hxl]at hk;omega)
theorem yE(hS:HOk P M0 S){T}{mu}{n}{ps}{vs}(hl:ps.length=vs.toList.length)
  (hp:∀(i:Nat) p q,ps[i]?=some p->vs.toList[i]?=some q->p.1=q.1/\Rep M0 S q.2 p.2):aB P M0 S (Instr.buildSlice T n vs) (iW P T mu n ps S.h):=by
 unfold iW;split
 .rename_i e he;split
  .rename_i sz hsz;split
   .rename_i xs hxs;split
    .rename_i hc;obtain⟨hxn,hsz0,hroom,hz⟩:=hc;have hu:=bA he;obtain⟨z,hzr,hzs⟩:=sC hz S.w;have hzz:∃zz:Array Value,(if n*sz=0 then(pure #[]:Sem (Array Value)) else do pure (<-zeroValue e).cells).run P S.w=.ok zz S.w:=by
      by_cases h0:n*sz=0
      .exact⟨#[],by rw[if_pos h0];rfl⟩
      .exact⟨z.cells,by rw[if_neg h0];simp[hzr]⟩
     obtain⟨zz,hzz⟩:=hzz;obtain⟨C',g1,g2,_,g4⟩:=A7 (C:=(Array.range (n*sz)).map (zz[·%zz.size]!)) (i:=0) hl hp hxs (by simp[hxn]);simp only[eN]at g4;have hsize:C'.size=n*sz:=by rw[g2];simp
     have hrun:(Instr.buildSlice T n vs).run P S.w=.ok (.slice (some ⟨S.w.heap.size,0,none⟩) n n) (S.w.alloc (.cells C' e)):=by
      unfold Instr.buildSlice;simp only[Sem.run_bind,run_underlying hu,aG,aU hsz];rw[if_neg (by omega)];by_cases h0:n*sz=0
      .rw[if_pos h0]at hzz |-;simp only[Sem.run_pure,Result.ok.injEq,and_true]at hzz;subst hzz;simp only[Sem.run_bind,Sem.run_pure,aG,g1];simp[newRow]
      .rw[if_neg h0]at hzz |-;simp only[Sem.run_bind,hzr,aG,Sem.run_pure,Result.ok.injEq,and_true]at hzz;subst hzz;simp only[Sem.run_bind,hzr,Sem.run_pure,aG,g1];simp[newRow]
     split
     .rename_i hmu hpl;rename_i l _;refine⟨S.junk (.cells C' e),_,rfl,hrun,Ev.junk _ _ _,HOk.junk hS _,?_⟩;refine D3 hpl hxn (T:=e) (bf _ _) (λh=>?_) (by omega) (λi x hx=>?_)
      .rcases h with h|h
       .have:=(hS.m0 _ h).1;omega
       .have:=hS.lt _ h;omega
      .obtain⟨cs,a1,a2,a3⟩:=g4 i x hx;refine⟨cs,a1,a2,λj c hj=>⟨(a3 j c hj).1,λq hq=>?_⟩⟩;subst hq;exact(Ev.junk 0 S (.cells C' e)).repP (a3 j _ hj).2
     .refine⟨S.new (.row sz xs) (.cells C' e),_,rfl,hrun,Ev.new _ _ hS (aJ _) _ _,HOk.new hS (.inr ⟨_,e,C',rfl,bf _ _,by rw[hxn];omega,?_⟩),⟨_,_,_,rfl⟩,.inr ⟨sz,xs,by simp[Mem.new],by omega,λ_=>.inr (.inl ⟨S.w.heap.size,n,e,C'.size,?_,by simp,⟨aJ _,by omega⟩,?_,by simp;omega,by omega⟩)⟩⟩
      .exact cA.keep (Ev.new _ _ hS (aJ _) _ _) g4
      .have:=hS.len;show (S.m++[some S.w.heap.size]).getD S.h.length none=_;rw[<-this];simp
      .show (S.w.alloc (.cells C' e)).shape? S.w.heap.size=_;unfold World.shape?;rw[bf]
    .exact trivial
   .exact trivial
  .exact trivial
 .exact trivial
end Abs
end Go.Proofs.YtmndpldajflenaaGreatDoor
