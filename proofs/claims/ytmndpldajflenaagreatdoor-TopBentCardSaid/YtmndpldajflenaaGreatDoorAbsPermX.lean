/- CONTRACTS of the program's functions, and laws on what they return. No conditions but those in the theorems' heads. -/
import Derived.Test.YtmndpldajflenaaGreatDoorAbsFrame
set_option linter.all false
set_option maxHeartbeats 4000000
namespace Go.Proofs.YtmndpldajflenaaGreatDoor
namespace Abs
variable {P:Program} {M0:Nat->Prop} {H:Hints} {Q:Cont}
end Abs
end Go.Proofs.YtmndpldajflenaaGreatDoor
namespace Go.Proofs.YtmndpldajflenaaGreatDoor
namespace Abs
variable {P:Program} {H:Hints}
def Dz (q v:PV):Prop:=∀(M:Nat->Prop) (w:World) (u:Value),RepP M w u q->RepP M w u v
theorem w9{q:PV}:Dz q q:=λ_ _ _ h=>h
theorem NT{y:Code}{Q:Ex->AAct->Prop}{A:AAct}:@WQ ⟨dZ (SW P H y Q) Q⟩ .normal A=SW P H y Q A:=rfl
attribute [go_sem] NT
end Abs
end Go.Proofs.YtmndpldajflenaaGreatDoor
namespace Go.Proofs.YtmndpldajflenaaGreatDoor
namespace Abs
variable {P:Program} {M0:Nat->Prop}
def AT (h:Heap) (x y:AV):Prop:=∃cs ds,x.cells=some cs/\y.cells=some ds/\ds.length=cs.length/\∀(j:Nat) (c d:AV),cs[j]?=some c->ds[j]?=some d->d=c\/∃q v,d=.p v/\v.isCell=true/\oK h c=some q/\Dz q v
theorem BY{A}{T}(K)(i s)(xs ys)(hki:K i=false)(hx:A.h[i]?=some (.row s xs))(hlen:ys.length=xs.length)
  (hcell:∀(n:Nat) (x y),xs[n]?=some x->ys[n]?=some y->AT (cO (λi=>!K i) A.h) x y)
  (hT:∀t,T t=A.tmps t\/T t=.undef\/∃q v,T t=.p v/\oK (cO (λi=>!K i) A.h) (A.tmps t)=some q/\Dz q v) :
  fy P A { A with tmps:=T,h:=(cO K A.h).set i (.row s ys) }:=
 ⟨rfl,rfl,λM0 S0 b cs0 m a w hr=>by
  have hil:i<A.h.length:=(aA.1 hx).1;have hkl:(cO K A.h).length=A.h.length:=by simp[cO]
  have hk1:=AR hr.hok K;have hxk:(cO K A.h)[i]?=some (.row s xs):=by rw[lh hki];exact hx
  have e2:∀base,Ev base ⟨dD K m,cO K A.h,w⟩ ⟨dD K m,(cO K A.h).set i (.row s ys),w⟩:=λbase=>
   ⟨Fr.refl _ _,λ_ h=>.inl h,λid o _ ho=>by
    by_cases hid:id=i
    .subst hid;have ho':(cO K A.h)[id]?=some o:=ho;rw[hxk]at ho';cases ho';exact⟨.row s ys,fp (by omega),.inr (.inl ⟨s,xs,ys,rfl,rfl,.inl ⟨hlen,rfl⟩⟩)⟩
    .exact⟨o,by show ((cO K A.h).set i (.row s ys))[id]?=some o;rw[cq (Ne.symm hid)];exact ho,ObjEv.refl _ _⟩⟩
  have hm:(dD K m).getD i none=m.getD i none:=lg hki
  have hok2:HOk P M0 ⟨dD K m,(cO K A.h).set i (.row s ys),w⟩:=
   {len:=by show (dD K m).length=_;rw[Hp];exact hk1.len
    lt:=hk1.lt
    m0:=hk1.m0
    inj:=hk1.inj
    gl:=(e2 0).glob hk1.gl
    obj:=λid o ho=>by
     by_cases hid:id=i
     .subst hid;have ho':((cO K A.h).set id (.row s ys))[id]?=some o:=ho;rw[fp (by omega)]at ho';cases ho';have h0:=hr.hok.obj id _ hx;have h1:=hk1.obj id _ hxk;show ObjOk P M0 _ ((dD K m).getD id none) _;rw[hm];rcases h0 with⟨h2,h3⟩|⟨b',T',C,h2,h3,h4,h5⟩
      .refine .inl ⟨h2,?_⟩;rw[h3]at hlen;exact wA.1 hlen
      .rcases h1 with⟨h2',_⟩|⟨b1,T1,C1,g2,g3,g4,g5⟩
       .have h2'':(dD K m).getD id none=none:=h2';rw[hm]at h2'';have:m.getD id none=some b':=h2;rw[h2'']at this;cases this
       .have g2':(dD K m).getD id none=some b1:=g2;rw[hm]at g2';have h2':m.getD id none=some b':=h2;have hbb:b1=b':=fW (g2'.symm.trans h2');subst hbb;have hcc:=fW (Eq.trans (Eq.symm (show w.heap[b1]?=some (Obj.cells C T' (0,0)) from h3)) (show w.heap[b1]?=some (Obj.cells C1 T1 (0,0)) from g3));cases hcc;refine .inr ⟨b1,T',C,h2,h3,by rw[hlen];exact h4,λn y hy=>?_⟩;have hn:n<xs.length:=by rw[<-hlen];exact(aA.1 hy).1
        obtain⟨x,hxn⟩:∃x,xs[n]?=some x:=⟨_,aT hn⟩
        obtain⟨cs,ds,k1,k2,k3,k4⟩:=hcell n x y hxn hy;obtain⟨cs1,k5,k6,k7⟩:=h5 n x hxn;rw[k1]at k5;cases k5;obtain⟨cs2,k8,k9,Jd⟩:=g5 n x hxn;rw[k1]at k8;cases k8;refine⟨ds,k2,by omega,λj d hd=>?_⟩;have hj:j<cs.length:=by rw[<-k3];exact(aA.1 hd).1
        obtain⟨c,hc⟩:∃c,cs[j]?=some c:=⟨_,aT hj⟩
        rcases k4 j c d hc hd with rfl|⟨q,v,rfl,hvc,hq,hle⟩
        .exact⟨(Jd j _ hc).1,(e2 _).keepS (Jd j _ hc).2⟩
        .refine⟨hvc,?_⟩;exact hle _ _ _ (uA (S:=⟨m,A.h,w⟩) hr.hok K (ly (k7 j c hc).1 (k7 j c hc).2) hq)
     .have ho':((cO K A.h).set i (.row s ys))[id]?=some o:=ho;rw[cq (Ne.symm hid)]at ho'
      exact ObjOk.keep (e2 _) (hk1.obj id o ho') (λ_ _=>rfl) }
  have ev:Ev A.h.length ⟨m,A.h,w⟩ ⟨dD K m,(cO K A.h).set i (.row s ys),w⟩:=(Dl ⟨m,A.h,w⟩ K _).trans (e2 _);have hr2:=hr.ahead ev hok2;refine⟨dD K m,hr2.size,λt=>?_,hr2.hok,hr2.ev,hr2.le,hr2.df,hr2.rc⟩;show Rep M0 _ (a.tmps.getD t undef) (T t);rcases hT t with h|h|⟨q,v,h,hq,hle⟩
  .rw[h];exact hr2.tmps t
  .rw[h];exact trivial
  .rw[h];exact hle _ _ _ (uA (S:=⟨m,A.h,w⟩) hr.hok K (hr.tmps t) hq)⟩
theorem pN{f}{pargs}{v}(hc:aN P f (pargs.map .p) [] (λr h''=>∃a q,r=.ret a/\oK h'' a=some q/\Dz q v)):PCall P f pargs v:=by
 intro M0 w cargs hM hg ha;have ha':cK (Rep M0 ⟨[],[],w⟩) cargs (pargs.map .p):=by
  refine⟨by simpa using ha.1,λi c hc=>?_⟩;simp only[bU,bx]at hc;obtain⟨q,hq,rfl⟩:=hc;exact ar ((ha.2 i q hq).mono (λ_ _ _=>rfl) (λb hb=>by
   rcases hb with hb|hb
   .exact .inl hb
   .simp[Own]at hb))
 have:=hc M0 [] w cargs (tr hM hg) ha';refine⟨this.1,this.2.mono λe w' h=>?_⟩;obtain⟨r,h',m',⟨a,q,rfl,hq,hle⟩,hev,hk,hend⟩:=h
 cases e with
 |returned v'=>exact⟨v',rfl,hle _ _ _ (sE (S:=⟨m',h',w'⟩) hk hend hq),hev.fr⟩
 |panicked ch=>exact hend.elim
 |outgrown=>exact hend.elim
end Abs
end Go.Proofs.YtmndpldajflenaaGreatDoor
namespace Go.Proofs.YtmndpldajflenaaGreatDoor
namespace Abs
namespace Tr
set_option maxRecDepth 4000
def rI (n:Nat) (f:Nat->Int):List AV:=(List.range n).map λi=>.p (.int .i64 (f i))
theorem Lx(n:Nat)(f:Nat->Int):(rI n f).length=n:=by simp[rI]
theorem u6{n i:Nat}(f:Nat->Int)(h:i<n):(rI n f)[i]?=some (.p (.int .i64 (f i))):=by simp[rI,h]
theorem u5(n o:Nat)(f:Nat->Int)(v:Int):(rI n f).set o (.p (.int .i64 v))=rI n λi=>if i=o then v else f i:=by
 unfold rI;rw[jk];exact lv λi _=>by dsimp only;split<;>rfl
theorem wN(n:Nat)(f:Nat->Int):rI (n+1) f=rI n f++[.p (.int .i64 (f n))]:=by
 unfold rI;rw[List.range_succ,kg];rfl
theorem ei{n:Nat}{f g:Nat->Int}(h:∀i,i<n->f i=g i):rI n f=rI n g:=by
 unfold rI;exact lv λi hi=>by rw[h i (bX.1 hi)]
theorem bG(n m:Nat)(f:Nat->Int):∀x,x∈rI n f->below m x:=λx hx=>by
 obtain⟨j,_,rfl⟩:=eK.1 hx;trivial
theorem wO(k n:Nat)(h:Heap)(f:Nat->Int):aM (bH k h) (rI n f)=some (cI n f):=by
 unfold rI cI;rw[show (List.range n).map (λi=>AV.p (PV.int .i64 (f i)))=((List.range n).map λi=>PV.int .i64 (f i)).map .p by rw[oX];rfl];exact gR k h _
attribute [go_sem] Lx
theorem xz:∀(l:List TrTake) (lo n:Int),(l.Pairwise λa b=>a.src<b.src)->(∀t,t∈l->lo<=t.src/\t.src<n)->lo<=n->(l.length:Int)<=n-lo
 |[],lo,n,_,_,h=>by simp;omega
 |t::l,lo,n,hp,ht,h=>by
  have h1:=ht t List.mem_cons_self;have:=xz l (t.src+1) n (List.pairwise_cons.1 hp).2 (λu hu=>⟨by have:=(List.pairwise_cons.1 hp).1 u hu;omega,(ht u (eU _ hu)).2⟩) (by omega);rw[du];omega
theorem p7{i:Nat}{x:TrBatch}(h:BatOk i x):x.takes.length<=i:=by
 have:=xz x.takes 0 i (xE _ h.sorted) (λt ht=>by have:=h.src t ht;omega) (by omega);omega
theorem pH{i:Nat}:∀(l:List TrTake),(∀t,t∈l->1<=t.grams/\t.grams<=100000)->0<=cC l i/\cC l i<=100000*l.length
 |[],_=>by simp[cC]
 |t::l,h=>by
  have h1:=h t List.mem_cons_self;have h2:=pH (i:=i) l λu hu=>h u (eU _ hu);rw[cC,du];split<;>omega
theorem lO{b:List TrBatch}(h:BatsOk b){i:Nat}(hi:i<b.length):BatOk i (dj b i):=h.bat i _ (by rw[cS (aT hi)];exact aT hi)
theorem kA{b:List TrBatch}(h:BatsOk b)(i:Nat):∀k,k<=b.length->0<=bT b k i/\bT b k i<=800000*k
 |0,_=>by simp[bT,sm]
 |k+1,hk=>by
  have ih:=kA h i k (by omega);have hb:=lO h (show k<b.length by omega);have h1:=pH (i:=i) (dj b k).takes hb.take;have h2:=p7 hb;have h3:=h.len;have e:bT b (k+1) i=bT b k i+cC (dj b k).takes i:=rfl;rw[e];omega
theorem Da{b:List TrBatch}{i:Nat}(hi:i<b.length):dG b b.length i=kept b i:=by
 unfold dG kept bT;rw[if_pos hi]
def qZ:Heap:=[]
def tu:Heap:=[.row 3 [.p (.agg [.nilslice,.nilslice,.nilslice])]]
attribute [go_sem] qZ tu
def bW (b:List TrBatch) (k:Nat) (l:List TrTake) (i:Nat):Int:=dG b k i-cC l i
theorem L0(b:List TrBatch)(f:Bool)(hb:BatsOk b):aN Tryz.prog 27 [.p (.slice 5 (b.map TrBatch.pv) f)] qZ (λr h'=>r=.ret (.slice 0 b.length 0 b.length)/\h'=qZ++[.row 1 (rI b.length (kept b))]):=by
 have hl8:=hb.len;refine dH (am Tryz.func27 rfl) rfl ?_;simp only[go_sem,simprocAttr];refine dq 3 1 (by simp only[go_sem,simprocAttr]) ?_;simp only[go_sem,simprocAttr]
 refine bt [0] b (by omega) (τ:=Unit) (λ_ _ _=>True) (λdone _=>[(3,.slice 0 done.length 0 done.length),(4,.p (.int .i64 done.length))])
  (λdone _=>qZ++[.row 1 (rI done.length λi=>(dj b i).grams)]) () trivial ?_ ?_ ?_
 .simp only[go_sem,simprocAttr];and_intros<;>first|rfl|simp[rI]
 rotate_left
 .intro done x r _ e1 _ hx hlt hnx;have hax:(dj b done.length).grams=x.grams:=by rw[cS hx]
  have hsn:=wN done.length λi=>(dj b i).grams;rw[hax]at hsn;have hdl:done.length<b.length:=by omega
  have hrm:done.length+1<=ai:=by simp[ai];omega
  simp only[hlt,hx,hrm,go_sem,simprocAttr];refine aq e1 () trivial ?_;simp only[hnx,ay,aC,hsn,go_sem,simprocAttr];exact bG _ _ _
 intro _ _;simp only[go_sem,simprocAttr];have hk0:rI b.length (λi=>(dj b i).grams)=rI b.length (dG b 0):=ei λi _=>by unfold dG bT;simp[sm]
 refine bt [0,3] b (by omega) (τ:=Unit) (λ_ _ _=>True) (λdone _=>[(5,.p (.int .i64 done.length))]) (λdone _=>qZ++[.row 1 (rI b.length (dG b done.length))]) () trivial ?_ ?_ ?_
 .simp only[hk0,go_sem,simprocAttr];exact bG _ _ _
 .intro _ _;have hke:rI b.length (dG b b.length)=rI b.length (kept b):=ei λi hi=>Da hi;simp only[hke,go_sem,simprocAttr]
 .intro done x r _ e1 _ hx hlt hnx;have hdl:done.length<b.length:=by omega
  have hbo:=hb.bat _ _ hx;have hax:dj b done.length=x:=cS hx;have hxl:=p7 hbo;have hs0:rI b.length (dG b done.length)=rI b.length (bW b done.length []):=ei λi _=>by unfold bW;simp[cC]
  have hs1:rI b.length (bW b done.length x.takes)=rI b.length (dG b (done.length+1)):=ei λi _=>by
   unfold bW dG;rw[show bT b (done.length+1) i=bT b done.length i+cC (dj b done.length).takes i from rfl,hax];omega
  simp only[hlt,hx,go_sem,simprocAttr];refine bt [0,3,5] x.takes (by omega) (τ:=Unit) (λ_ _ _=>True) (λdn _=>[(6,.p (.int .i64 dn.length))]) (λdn _=>qZ++[.row 1 (rI b.length (bW b done.length dn))]) () trivial ?_ ?_ ?_
  .simp only[hs0,go_sem,simprocAttr];exact bG _ _ _
  .intro _ _;simp only[hlt,hx,go_sem,simprocAttr];refine aq e1 () trivial ?_;simp only[hnx,ay,aC,hs1,go_sem,simprocAttr];exact bG _ _ _
  .intro dn t rr _ f1 _ ht hlt2 hnx2;have htm:t∈x.takes:=by rw[f1];simp
   have hts:=hbo.src t htm;have htg:=hbo.take t htm;have i1:t.src<(b.length:Int):=by omega
   have i2:t.src.toNat<b.length:=by omega
   have hg:=u6 (bW b done.length dn) i2;have hB1:=kA hb t.src.toNat done.length (by omega);have hB2:=pH (i:=t.src.toNat) dn λu hu=>hbo.take u (by rw[f1];simp[hu]);have hB3:dn.length<=x.takes.length:=by rw[f1];simp
   have hB4:=(lO hb i2).grams;have wk:IntKind.i64.wrap (bW b done.length dn t.src.toNat-t.grams)=bW b done.length dn t.src.toNat-t.grams:=aj (by unfold bW dG;omega) (by unfold bW dG;omega);have hst:=u5 b.length t.src.toNat (bW b done.length dn) (bW b done.length dn t.src.toNat-t.grams);have hsn:rI b.length (λi=>if i=t.src.toNat then bW b done.length dn t.src.toNat-t.grams else bW b done.length dn i)=rI b.length (bW b done.length (dn++[t])):=ei λi _=>by
    unfold bW;rw[mO];by_cases h:i=t.src.toNat
    .subst h;rw[if_pos rfl,if_pos (by omega)];omega
    .rw[if_neg h,if_neg (by omega)];omega
   rw[hsn]at hst;simp only[hlt,hx,hlt2,ht,hts.1,i1,hg,wk,hst,go_sem,simprocAttr];refine aq f1 () trivial ?_;simp only[hnx2,go_sem,simprocAttr];exact bG _ _ _
theorem LZ(b:List TrBatch)(f:Bool)(hb:BatsOk b):aN Tryz.prog 27 [.p (.slice 5 (b.map TrBatch.pv) f)] tu (λr h'=>r=.ret (.slice 1 b.length 0 b.length)/\h'=tu++[.row 1 (rI b.length (kept b))]):=by
 have hl8:=hb.len;refine dH (am Tryz.func27 rfl) rfl ?_;simp only[go_sem,simprocAttr];refine dq 3 1 (by simp only[go_sem,simprocAttr]) ?_;simp only[go_sem,simprocAttr]
 refine bt [0] b (by omega) (τ:=Unit) (λ_ _ _=>True) (λdone _=>[(3,.slice 1 done.length 0 done.length),(4,.p (.int .i64 done.length))])
  (λdone _=>tu++[.row 1 (rI done.length λi=>(dj b i).grams)]) () trivial ?_ ?_ ?_
 .simp only[go_sem,simprocAttr];and_intros<;>first|rfl|simp[rI]
 rotate_left
 .intro done x r _ e1 _ hx hlt hnx;have hax:(dj b done.length).grams=x.grams:=by rw[cS hx]
  have hsn:=wN done.length λi=>(dj b i).grams;rw[hax]at hsn;have hdl:done.length<b.length:=by omega
  have hrm:done.length+1<=ai:=by simp[ai];omega
  simp only[hlt,hx,hrm,go_sem,simprocAttr];refine aq e1 () trivial ?_;simp only[hnx,ay,aC,hsn,go_sem,simprocAttr];exact bG _ _ _
 intro _ _;simp only[go_sem,simprocAttr];have hk0:rI b.length (λi=>(dj b i).grams)=rI b.length (dG b 0):=ei λi _=>by unfold dG bT;simp[sm]
 refine bt [0,3] b (by omega) (τ:=Unit) (λ_ _ _=>True) (λdone _=>[(5,.p (.int .i64 done.length))]) (λdone _=>tu++[.row 1 (rI b.length (dG b done.length))]) () trivial ?_ ?_ ?_
 .simp only[hk0,go_sem,simprocAttr];exact bG _ _ _
 .intro _ _;have hke:rI b.length (dG b b.length)=rI b.length (kept b):=ei λi hi=>Da hi;simp only[hke,go_sem,simprocAttr]
 .intro done x r _ e1 _ hx hlt hnx;have hdl:done.length<b.length:=by omega
  have hbo:=hb.bat _ _ hx;have hax:dj b done.length=x:=cS hx;have hxl:=p7 hbo;have hs0:rI b.length (dG b done.length)=rI b.length (bW b done.length []):=ei λi _=>by unfold bW;simp[cC]
  have hs1:rI b.length (bW b done.length x.takes)=rI b.length (dG b (done.length+1)):=ei λi _=>by
   unfold bW dG;rw[show bT b (done.length+1) i=bT b done.length i+cC (dj b done.length).takes i from rfl,hax];omega
  simp only[hlt,hx,go_sem,simprocAttr];refine bt [0,3,5] x.takes (by omega) (τ:=Unit) (λ_ _ _=>True) (λdn _=>[(6,.p (.int .i64 dn.length))]) (λdn _=>tu++[.row 1 (rI b.length (bW b done.length dn))]) () trivial ?_ ?_ ?_
  .simp only[hs0,go_sem,simprocAttr];exact bG _ _ _
  .intro _ _;simp only[hlt,hx,go_sem,simprocAttr];refine aq e1 () trivial ?_;simp only[hnx,ay,aC,hs1,go_sem,simprocAttr];exact bG _ _ _
  .intro dn t rr _ f1 _ ht hlt2 hnx2;have htm:t∈x.takes:=by rw[f1];simp
   have hts:=hbo.src t htm;have htg:=hbo.take t htm;have i1:t.src<(b.length:Int):=by omega
   have i2:t.src.toNat<b.length:=by omega
   have hg:=u6 (bW b done.length dn) i2;have hB1:=kA hb t.src.toNat done.length (by omega);have hB2:=pH (i:=t.src.toNat) dn λu hu=>hbo.take u (by rw[f1];simp[hu]);have hB3:dn.length<=x.takes.length:=by rw[f1];simp
   have hB4:=(lO hb i2).grams;have wk:IntKind.i64.wrap (bW b done.length dn t.src.toNat-t.grams)=bW b done.length dn t.src.toNat-t.grams:=aj (by unfold bW dG;omega) (by unfold bW dG;omega);have hst:=u5 b.length t.src.toNat (bW b done.length dn) (bW b done.length dn t.src.toNat-t.grams);have hsn:rI b.length (λi=>if i=t.src.toNat then bW b done.length dn t.src.toNat-t.grams else bW b done.length dn i)=rI b.length (bW b done.length (dn++[t])):=ei λi _=>by
    unfold bW;rw[mO];by_cases h:i=t.src.toNat
    .subst h;rw[if_pos rfl,if_pos (by omega)];omega
    .rw[if_neg h,if_neg (by omega)];omega
   rw[hsn]at hst;simp only[hlt,hx,hlt2,ht,hts.1,i1,hg,wk,hst,go_sem,simprocAttr];refine aq f1 () trivial ?_;simp only[hnx2,go_sem,simprocAttr];exact bG _ _ _
end Tr
end Abs
end Go.Proofs.YtmndpldajflenaaGreatDoor
