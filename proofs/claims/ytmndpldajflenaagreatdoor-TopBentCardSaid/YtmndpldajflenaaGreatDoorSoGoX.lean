/- CONTRACTS of the program's functions, and laws on what they return. No conditions but those in the theorems' heads. -/
import Derived.Test.YtmndpldajflenaaGreatDoorTrMustX
set_option linter.all false
set_option maxHeartbeats 4000000
open Go.Proofs.Tryz renaming prog->TP
open Go.Proofs.Tryz
namespace Go.Proofs.YtmndpldajflenaaGreatDoor
namespace Abs
set_option maxRecDepth 4000
theorem Bl{fv:PV}(l:List SoStore)(p:SoStore->Bool)(b:Bool)(sz:Nat)(hsz:sz=3)(hl:l.length<1000000000)(hf:∀x,x∈l->rK TP fv [SoStore.pv x] (.bool (p x))) :
  PCall TP 139 [.slice sz (l.map SoStore.pv) b,fv] (.int .i64 (gE p l 0)):=by
 subst hsz;refine ae (am func139 rfl) rfl ?_;simp only[go_sem,simprocAttr];refine oe [0,1,7] l hl (τ:=Unit) (λdone rest _=>gE p l 0=gE p rest done.length) (λdone _=>[(8,.p (.int .i64 done.length))]) () rfl ?_ ?_ ?_
 .simp only[go_sem,simprocAttr]<;>simp
 .intro _ e2;simp only[go_sem,simprocAttr];rw[e2];rfl
 .intro done x r _ e1 e2 hx hlt hnx;obtain⟨g,first,cap,rfl,hc⟩:=hf x (by rw[e1];simp);simp only[hlt,decide_true,hx,SoStore.pv,go_sem,simprocAttr];refine aa hc (by simp[SoStore.pv]) ?_;simp only[go_sem,simprocAttr];refine dT (λhb=>?_) (λhb=>?_)
  .simp only[go_sem,simprocAttr];rw[e2];simp[gE,hb]
  .simp only[go_sem,simprocAttr];refine aq e1 () (by rw[e2];simp[gE,hb]) ?_;simp only[hnx,go_sem,simprocAttr]
theorem vU{fv:PV}(l:List SoStore)(p:SoStore->Bool)(b:Bool)(sz:Nat)(hsz:sz=3)(hl:l.length<1000000000)(hf:∀x,x∈l->rK TP fv [SoStore.pv x] (.bool (p x))) :
  PCall TP 88 [.slice sz (l.map SoStore.pv) b,fv] (.bool (l.any p)):=by
 refine ae (am func88 rfl) rfl ?_;simp only[go_sem,simprocAttr];refine aa (Bl l p b sz hsz hl hf) rfl ?_;simp only[go_sem,simprocAttr];rw[qX]
theorem Bk{fv:PV}(l:List TrBatch)(p:TrBatch->Bool)(b:Bool)(sz:Nat)(hsz:sz=5)(hl:l.length<1000000000)(hf:∀x,x∈l->rK TP fv [TrBatch.pv x] (.bool (p x))) :
  PCall TP 226 [.slice sz (l.map TrBatch.pv) b,fv] (.int .i64 (gE p l 0)):=by
 subst hsz;refine ae (am func226 rfl) rfl ?_;simp only[go_sem,simprocAttr];refine oe [0,1,7] l hl (τ:=Unit) (λdone rest _=>gE p l 0=gE p rest done.length) (λdone _=>[(8,.p (.int .i64 done.length))]) () rfl ?_ ?_ ?_
 .simp only[go_sem,simprocAttr]<;>simp
 .intro _ e2;simp only[go_sem,simprocAttr];rw[e2];rfl
 .intro done x r _ e1 e2 hx hlt hnx;obtain⟨g,first,cap,rfl,hc⟩:=hf x (by rw[e1];simp);simp only[hlt,decide_true,hx,TrBatch.pv,go_sem,simprocAttr];refine aa hc (by simp[TrBatch.pv]) ?_;simp only[go_sem,simprocAttr];refine dT (λhb=>?_) (λhb=>?_)
  .simp only[go_sem,simprocAttr];rw[e2];simp[gE,hb]
  .simp only[go_sem,simprocAttr];refine aq e1 () (by rw[e2];simp[gE,hb]) ?_;simp only[hnx,go_sem,simprocAttr]
theorem vT{fv:PV}(l:List TrBatch)(p:TrBatch->Bool)(b:Bool)(sz:Nat)(hsz:sz=5)(hl:l.length<1000000000)(hf:∀x,x∈l->rK TP fv [TrBatch.pv x] (.bool (p x))) :
  PCall TP 179 [.slice sz (l.map TrBatch.pv) b,fv] (.bool (l.any p)):=by
 refine ae (am func179 rfl) rfl ?_;simp only[go_sem,simprocAttr];refine aa (Bk l p b sz hsz hl hf) rfl ?_;simp only[go_sem,simprocAttr];rw[qX]
theorem kf(n lo hi):PCall TP 35 [.int .i64 n,.int .i64 lo,.int .i64 hi] (.bool (an n lo hi)):=by
 refine ae (am func35 rfl) rfl ?_;simp only[go_sem,simprocAttr];refine dT (λhb=>?_) (λhb=>?_)<;>simp only[hb,go_sem,simprocAttr]<;>simp[an,hb]
theorem vS(n lo hi):PCall TP 24 [.int .i64 n,.int .i64 lo,.int .i64 hi] (.bool (an n lo hi)):=by
 refine ae (am func24 rfl) rfl ?_;simp only[go_sem,simprocAttr];refine dT (λhb=>?_) (λhb=>?_)<;>simp only[hb,go_sem,simprocAttr]<;>simp[an,hb]
theorem KB(lo hi n):PCall TP 112 [.int .i64 n,.ptr 1 [.int .i64 lo] 0 0,.ptr 1 [.int .i64 hi] 0 0] (.bool (!an n lo hi)):=by
 refine ae (am func112 rfl) rfl ?_;simp only[go_sem,simprocAttr];refine dT (λhb=>?_) (λhb=>?_)<;>simp only[hb,go_sem,simprocAttr]<;>simp_all [an];rw[<-decide_not];congr 1;simp
theorem iN(lo hi)(l:List Int)(b)(hl:l.length<1000000000):PCall TP 58 [.int .i64 lo,.int .i64 hi,.slice 1 (l.map intPV) b] (.bool (l.any λn=>!an n lo hi)):=by
 refine ae (am func58 rfl) rfl ?_;simp only[go_sem,simprocAttr];refine dX (p5 (fv:=.func (.func 112) [] [.ptr 1 [.int .i64 lo] 0 0,.ptr 1 [.int .i64 hi] 0 0]) l (λn=>!an n lo hi) b 1 rfl hl λn _=>⟨_,_,_,rfl,KB lo hi n⟩) ?_ (.bool _) ?_
 .simp only[go_sem,simprocAttr]
 .simp only[go_sem,simprocAttr]
theorem KA(lo hi n):PCall TP 151 [.int .i64 n,.ptr 1 [.int .i64 lo] 0 0,.ptr 1 [.int .i64 hi] 0 0] (.bool (!an n lo hi)):=by
 refine ae (am func151 rfl) rfl ?_;simp only[go_sem,simprocAttr];refine dT (λhb=>?_) (λhb=>?_)<;>simp only[hb,go_sem,simprocAttr]<;>simp_all [an];rw[<-decide_not];congr 1;simp
theorem n5(lo hi)(l:List Int)(b)(hl:l.length<1000000000):PCall TP 114 [.int .i64 lo,.int .i64 hi,.slice 1 (l.map intPV) b] (.bool (l.any λn=>!an n lo hi)):=by
 refine ae (am func114 rfl) rfl ?_;simp only[go_sem,simprocAttr];refine dX (p5 (fv:=.func (.func 151) [] [.ptr 1 [.int .i64 lo] 0 0,.ptr 1 [.int .i64 hi] 0 0]) l (λn=>!an n lo hi) b 1 rfl hl λn _=>⟨_,_,_,rfl,KA lo hi n⟩) ?_ (.bool _) ?_
 .simp only[go_sem,simprocAttr]
 .simp only[go_sem,simprocAttr]
theorem Ms{fv:PV}(l:List SoStore)(f:Nat->SoStore->Int)(b:Bool)(hl:l.length<1000000000)(hf:∀(i:Nat) (x:SoStore),l[i]?=some x->rK TP fv [.int .i64 i,SoStore.pv x] (.int .i64 (f i x))) :
  PCall TP 85 [.slice 3 (l.map SoStore.pv) b,fv] (.tuple [.int .i64 (bc f l 0).1,.int .i64 (bc f l 0).2]):=by
 refine ae (am func85 rfl) rfl ?_;simp only[go_sem,simprocAttr];refine bt [1,8,9] l hl (τ:=Unit) (λdone rest _=>bc f l 0=bc f rest done.length) (λdone _=>[(10,.p (.int .i64 done.length))]) (λ_ _=>[]) () rfl ?_ ?_ ?_
 .simp only[go_sem,simprocAttr]<;>simp
 .intro _ e2;simp only[go_sem,simprocAttr];rw[e2];exact⟨rfl,rfl⟩
 .intro done x r _ e1 e2 hx hlt hnx;obtain⟨g,first,cap,rfl,hc⟩:=hf done.length x (by rw[e1];simp);simp only[hlt,decide_true,hx,SoStore.pv,go_sem,simprocAttr];refine aa hc (by simp[SoStore.pv]) ?_;simp only[go_sem,simprocAttr];cases hb:(f done.length x != 0)
  .have hb':f done.length x=0:=by simpa using hb
   simp only[go_sem,simprocAttr];refine aq e1 () (by rw[e2,bc,if_pos hb'];simp) ?_;simp only[hnx,go_sem,simprocAttr]
  .have hb':¬f done.length x=0:=by simpa using hb
   simp only[go_sem,simprocAttr];rw[e2,bc,if_neg hb'];simp
theorem Mr{fv:PV}(l:List Span)(f:Nat->Span->Int)(b:Bool)(hl:l.length<1000000000)(hf:∀(i:Nat) (x:Span),l[i]?=some x->rK TP fv [.int .i64 i,Span.pv x] (.int .i64 (f i x))) :
  PCall TP 90 [.slice 2 (l.map Span.pv) b,fv] (.tuple [.int .i64 (bc f l 0).1,.int .i64 (bc f l 0).2]):=by
 refine ae (am func90 rfl) rfl ?_;simp only[go_sem,simprocAttr];refine bt [1,8,9] l hl (τ:=Unit) (λdone rest _=>bc f l 0=bc f rest done.length) (λdone _=>[(10,.p (.int .i64 done.length))]) (λ_ _=>[]) () rfl ?_ ?_ ?_
 .simp only[go_sem,simprocAttr]<;>simp
 .intro _ e2;simp only[go_sem,simprocAttr];rw[e2];exact⟨rfl,rfl⟩
 .intro done x r _ e1 e2 hx hlt hnx;obtain⟨g,first,cap,rfl,hc⟩:=hf done.length x (by rw[e1];simp);simp only[hlt,decide_true,hx,Span.pv,go_sem,simprocAttr];refine aa hc (by simp[Span.pv]) ?_;simp only[go_sem,simprocAttr];cases hb:(f done.length x != 0)
  .have hb':f done.length x=0:=by simpa using hb
   simp only[go_sem,simprocAttr];refine aq e1 () (by rw[e2,bc,if_pos hb'];simp) ?_;simp only[hnx,go_sem,simprocAttr]
  .have hb':¬f done.length x=0:=by simpa using hb
   simp only[go_sem,simprocAttr];rw[e2,bc,if_neg hb'];simp
variable {P:Program} {H:Hints} {Q:Cont} {α τ:Type}
theorem qm{n:Int}(h0:0<=n)(h:n<=9223372036854775807):IntKind.i64.wrap n=n:=by
 rw[IntKind.wrap_i64];omega
theorem lT{x:Code}{A:AAct}(live:List Nat)(l:List α)(hl:(l.length:Int)<=9223372036854775807)(Inv:List α->List α->τ->Prop)(M:List α->τ->List (Nat×AV))(hp:List α->τ->Heap)(t0:τ)(hi:Inv [] l t0)
  (h0:mq A.bs A.df A.tmps A.h (cl A.tmps live (M [] t0)) (hp [] t0))
  (hnil:∀t,Inv l [] t->@W ⟨P,H,x,dZ (gQ P (lx l Inv) (λs=>eP A live (gD M s) (gD hp s)) (λs=>s.2.1.length) (l,[],t)) Q⟩
   {n:=A.n,bs:=A.bs,rc:=A.rc,tmps:=dM (cl A.tmps live (M l t)),h:=hp l t,df:=A.df })
  (hcons:∀done y r t,l=done++y::r->Inv done (y::r) t->l[done.length]?=some y->((done.length:Int)<(l.length:Int))->IntKind.i64.wrap ((done.length:Int)+1)=(((done++[y]).length:Nat):Int) ->
   @W ⟨P,H,x,dZ (gQ P (lx l Inv) (λs=>eP A live (gD M s) (gD hp s)) (λs=>s.2.1.length) (done,y::r,t)) Q⟩
    {n:=A.n,bs:=A.bs,rc:=A.rc,tmps:=dM (cl A.tmps live (M done t)),h:=hp done t,df:=A.df }):@W ⟨P,H,.loop x,Q⟩ A:=by
 refine aS live (lx l Inv) (λs=>s.2.1.length) (λs=>M s.1 s.2.2) (λs=>hp s.1 s.2.2) ([],l,t0) ⟨rfl,hi⟩ h0 ?_
 rintro⟨done,rest,t⟩ ⟨e1,e2⟩
 dsimp only at e1 e2
 cases rest with
 |nil=>
  rw[co]at e1;subst e1
  exact hnil t e2
 |cons y r=>
  have hlt:(done.length:Int)<(l.length:Int):=by rw[e1];simp;omega
  refine hcons done y r t e1 e2 (by rw[e1];simp) hlt ?_;rw[qm (by omega) (by omega),ay,aC];omega
end Abs
end Go.Proofs.YtmndpldajflenaaGreatDoor
namespace Go.Proofs.YtmndpldajflenaaGreatDoor
namespace Abs
def cI (n:Nat) (f:Nat->Int):List PV:=(List.range n).map λi=>.int .i64 (f i)
def cB (n:Nat) (f:Nat->Bool):List PV:=(List.range n).map λi=>.bool (f i)
theorem bm(n:Nat)(f:Nat->Int):(cI n f).length=n:=by simp[cI]
theorem iO(n:Nat)(f:Nat->Bool):(cB n f).length=n:=by simp[cB]
theorem dd{n i:Nat}(f:Nat->Int)(h:i<n):(cI n f)[i]?=some (.int .i64 (f i)):=by simp[cI,h]
theorem cN{n i:Nat}(f:Nat->Bool)(h:i<n):(cB n f)[i]?=some (.bool (f i)):=by simp[cB,h]
theorem kw{n:Nat}{f g:Nat->Int}(h:∀i,i<n->f i=g i):cI n f=cI n g:=by
 unfold cI;exact lv λi hi=>by rw[h i (bX.1 hi)]
theorem g8{n:Nat}{f g:Nat->Bool}(h:∀i,i<n->f i=g i):cB n f=cB n g:=by
 unfold cB;exact lv λi hi=>by rw[h i (bX.1 hi)]
theorem jk{α:Type}(n o:Nat)(f:Nat->α)(v:α):((List.range n).map f).set o v=(List.range n).map λi=>if i=o then v else f i:=by
 refine iv λi=>?_;rw[zt,bU,bU];by_cases h:i<n
 .rw[List.getElem?_range h];by_cases ho:o=i
  .subst ho;simp[h]
  .simp[ho,Ne.symm ho]
 .rw[fq (by simpa using h)];simp;intro e;omega
theorem pK{α:Type}(l:List α)(o:Nat)(v:α)(h:o<l.length):cR l o [v]=l.set o v:=by
 unfold cR;rw[List.set_eq_take_append_cons_drop,if_pos h];simp
theorem Mm{n o:Nat}(f:Nat->Int)(v:Int)(h:o<n):iC (cR ((cI n f).map AV.p) o [.p (.int .i64 v)])=.p (.agg (cI n λi=>if i=o then v else f i)):=by
 rw[pK _ _ _ (by simpa[cI]using h)];have:((cI n f).map AV.p).set o (.p (.int .i64 v))=((cI n f).set o (.int .i64 v)).map AV.p:=by rw[zh]
 rw[this];have e:(cI n f).set o (.int .i64 v)=cI n λi=>if i=o then v else f i:=by
  unfold cI;rw[jk];exact lv λi _=>by dsimp only;split<;>rfl
 rw[e,iC,eH]
theorem Mw{n o:Nat}(f:Nat->Bool)(v:Bool)(h:o<n):iC (cR ((cB n f).map AV.p) o [.p (.bool v)])=.p (.agg (cB n λi=>if i=o then v else f i)):=by
 rw[pK _ _ _ (by simpa[cB]using h)];have:((cB n f).map AV.p).set o (.p (.bool v))=((cB n f).set o (.bool v)).map AV.p:=by rw[zh]
 rw[this];have e:(cB n f).set o (.bool v)=cB n λi=>if i=o then v else f i:=by
  unfold cB;rw[jk];exact lv λi _=>by dsimp only;split<;>rfl
 rw[e,iC,eH]
theorem lM{n o:Nat}(f:Nat->Int)(v:Int)(h:o<n):bV (List.take o ((cI n f).map AV.p)++[.p (.int .i64 v)]++List.drop (o+1) ((cI n f).map AV.p))=some (cI n λi=>if i=o then v else f i):=by
 have:=Mm f v h;unfold iC cR at this;rw[aC]at this;split at this
 .rename_i l hl;rw[hl];injection this with this;injection this with this;rw[this]
 .cases this
theorem kK{n o:Nat}(f:Nat->Bool)(v:Bool)(h:o<n):bV (List.take o ((cB n f).map AV.p)++[.p (.bool v)]++List.drop (o+1) ((cB n f).map AV.p))=some (cB n λi=>if i=o then v else f i):=by
 have:=Mw f v h;unfold iC cR at this;rw[aC]at this;split at this
 .rename_i l hl;rw[hl];injection this with this;injection this with this;rw[this]
 .cases this
theorem m6{α:Type}(a:Nat)(x y:α)(g:Nat->α):(λi=>if i=a then x else if i=a then y else g i)=λi=>if i=a then x else g i:=by
 funext i;split<;>rfl
theorem Ew(s:Nat)(l:List PV)(o k:Nat)(h:o+k<=l.length):my 0 o k (some (s,[.agg l]))=some (.slice 1 (sub o k l) false):=by
 unfold my;simp[PV.cells,h]
theorem JE{α:Type}{l:List α}{n:Nat}(h:l.length=n):sub 0 n l=l:=by
 unfold sub;rw[oZ,dz (by omega)]
attribute [go_sem] bm iO
theorem oN:∀(a b:List Int),a.length=b.length->cb (List.replicate a.length .int) (a.map intPV) (b.map intPV)=some (decide (a=b))
 |[],[],_=>rfl
 |x::a,y::b,h=>by
  have hl:a.length=b.length:=by simpa using h
  rw[du,wv,iu,iu];show (match mM .int (intPV x) (intPV y),cb (List.replicate a.length .int) (a.map intPV) (b.map intPV) with|some s,some t=>some (s&&t)|_,_=>none)=_;rw[oN a b hl];show (match (if IntKind.i64=IntKind.i64 then some (x==y) else none),some (decide (a=b)) with|some s,some t=>some (s&&t)|_,_=>none)=_;rw[if_pos rfl];show some (x==y&&decide (a=b))=some (decide (x::a=y::b))
  congr 1
  by_cases h1:x=y
  .subst h1;simp
  .simp[h1]
 |[],y::b,h=>by simp at h
 |x::a,[],h=>by simp at h
namespace Tr
set_option maxRecDepth 4000
def bv {α:Type} (p:Nat->α->Bool):List α->Nat->Bool
 |[],_=>false
 |x::r,i=>p i x||bv p r (i+1)
theorem sS{fv:PV}(l:List TrTake)(p:Nat->TrTake->Bool)(b:Bool)(hl:(l.length:Int)<=9223372036854775807)(hf:∀(i:Nat) (x:TrTake),l[i]?=some x->rK TP fv [.int .i64 i,TrTake.pv x] (.bool (p i x))) :
  PCall TP 119 [.slice 2 (l.map TrTake.pv) b,fv] (.bool (bv p l 0)):=by
 refine ae (am func119 rfl) rfl ?_;simp only[go_sem,simprocAttr];refine lT [1,7,8] l hl (τ:=Unit) (λdone rest _=>bv p l 0=bv p rest done.length) (λdone _=>[(9,.p (.int .i64 done.length))]) (λ_ _=>[]) () rfl ?_ ?_ ?_
 .simp only[go_sem,simprocAttr]<;>simp
 .intro _ e2;rw[bv]at e2;simp only[e2,go_sem,simprocAttr]
 .intro done x r _ e1 e2 hx hlt hnx;obtain⟨g,first,cap,rfl,hc⟩:=hf done.length x (by rw[e1];simp);rw[bv]at e2;simp only[hlt,decide_true,hx,TrTake.pv,go_sem,simprocAttr];refine aa hc (by simp[TrTake.pv]) ?_;simp only[go_sem,simprocAttr];cases hb:p done.length x
  .rw[hb,gA]at e2;simp only[go_sem,simprocAttr];refine aq e1 () (by rw[e2];simp) ?_;simp only[hnx,go_sem,simprocAttr]
  .rw[hb,gY]at e2;simp only[e2,go_sem,simprocAttr]
theorem Md{fv:PV}(l:List Int)(p:Nat->Int->Bool)(b:Bool)(hl:(l.length:Int)<=9223372036854775807)(hf:∀(i:Nat) (x:Int),l[i]?=some x->rK TP fv [.int .i64 i,intPV x] (.bool (p i x))) :
  PCall TP 64 [.slice 1 (l.map intPV) b,fv] (.bool (bv p l 0)):=by
 refine ae (am func64 rfl) rfl ?_;simp only[go_sem,simprocAttr];refine lT [1,7,8] l hl (τ:=Unit) (λdone rest _=>bv p l 0=bv p rest done.length) (λdone _=>[(9,.p (.int .i64 done.length))]) (λ_ _=>[]) () rfl ?_ ?_ ?_
 .simp only[go_sem,simprocAttr]<;>simp
 .intro _ e2;rw[bv]at e2;simp only[e2,go_sem,simprocAttr]
 .intro done x r _ e1 e2 hx hlt hnx;obtain⟨g,first,cap,rfl,hc⟩:=hf done.length x (by rw[e1];simp);rw[bv]at e2;simp only[hlt,decide_true,hx,intPV,go_sem,simprocAttr];refine aa hc (by simp[intPV]) ?_;simp only[go_sem,simprocAttr];cases hb:p done.length x
  .rw[hb,gA]at e2;simp only[go_sem,simprocAttr];refine aq e1 () (by rw[e2];simp) ?_;simp only[hnx,go_sem,simprocAttr]
  .rw[hb,gY]at e2;simp only[e2,go_sem,simprocAttr]
theorem lq{α:Type}(p:α->Bool):∀(l:List α) (i:Nat),bv (λ_ x=>p x) l i=l.any p
 |[],_=>rfl
 |x::r,i=>by rw[bv,lq p r,eV]
theorem Me(n:ByteArray)(b c d e:PV)(x:TrBatch):PCall TP 180 [x.pv,.ptr 5 [.agg [.str n,b,c,d,e]] 0 0] (.bool (x.name==n)):=by
 refine ae (am func180 rfl) rfl ?_;simp only[go_sem,simprocAttr]
theorem NK(k:Int)(i:Nat)(t:TrTake)(hi:i<100000):PCall TP 181 [.int .i64 k,t.pv,.ptr 1 [.int .i64 i] 0 0] (.bool (!an t.src 0 ((i:Int)-1))):=by
 have w1:IntKind.i64.wrap ((i:Int)-1)=i-1:=aj (by omega) (by omega);refine ae (am func181 rfl) rfl ?_;simp only[w1,go_sem,simprocAttr];refine aa (n5 0 ((i:Int)-1) [_] true (by simp)) rfl ?_;simp only[eV,fC,fM,go_sem,simprocAttr]
theorem Mp(k:Int)(t:TrTake):PCall TP 183 [.int .i64 k,t.pv] (.bool (!an t.grams 1 100000)):=by
 refine ae (am func183 rfl) rfl ?_;simp only[go_sem,simprocAttr];refine aa (n5 1 100000 [_] true (by simp)) rfl ?_;simp only[eV,fC,fM,go_sem,simprocAttr]
def gT (l:List TrTake) (k:Nat) (t:TrTake):Bool:=match k with|0=>false|k+1=>match l[k]? with|some u=>decide (t.src<=u.src)|none=>false
theorem Jj(l:List TrTake)(n:ByteArray)(g f:Int)(lo b:Bool)(k:Nat)(t:TrTake)(ht:l[k]?=some t)(hl:(l.length:Int)<=9223372036854775807) :
  PCall TP 182 [.int .i64 k,t.pv,.ptr 5 [.agg [.str n,.int .i64 g,.int .i64 f,.bool lo,.slice 2 (l.map TrTake.pv) b]] 0 0] (.bool (gT l k t)):=by
 have hkl:=(aA.1 ht).1;refine ae (am func182 rfl) rfl ?_
 cases k with
 |zero=>
  simp only[gT,go_sem,simprocAttr]
 |succ k=>
  obtain⟨u,hu⟩:∃u,l[k]?=some u:=⟨_,aT (by omega)⟩
  have hd:gT l (k+1) t=decide (t.src<=u.src):=by simp only[gT,hu]
  have h0:decide ((0:Int)<((k+1:Nat):Int))=true:=decide_eq_true (by omega);have w1:IntKind.i64.wrap (((k+1:Nat):Int)-1)=(k:Int):=(qm (by omega) (by omega)).trans (by omega);have i1:(k:Int)<(l.length:Int):=by omega
  simp only[h0,w1,i1,hu,hd,go_sem,simprocAttr]
theorem Kc:∀(l pre:List TrTake) (full:List TrTake),full=pre++l->bv (gT full) l pre.length=((match pre.getLast?,l with|some u,t::_=>decide (t.src<=u.src)|_,_=>false)||unsorted l):=by
 intro l
 induction l with
 |nil=>intro pre full h;cases pre.getLast?<;>simp[bv,unsorted]
 |cons t r ih=>
  intro pre full h;have:=ih (pre++[t]) full (by simp[h]);rw[ay,aC]at this;rw[bv,this];have hgl:(pre++[t]).getLast?=some t:=by simp
  rw[hgl];have hd:gT full pre.length t=(match pre.getLast? with|some u=>decide (t.src<=u.src)|none=>false):=by
   rcases zy pre with rfl|⟨q,u,rfl⟩
   .rfl
   .have:(q.concat u).length=q.length+1:=by simp
    rw[this,gT];have h2:full[q.length]?=some u:=by rw[h];simp
    rw[h2];simp
  rw[hd]
  cases r with
  |nil=>cases pre.getLast?<;>simp[unsorted]
  |cons u r=>cases pre.getLast?<;>simp[unsorted]
theorem A9(l:List TrTake):bv (gT l) l 0=unsorted l:=by
 have:=Kc l [] l rfl;simpa using this
theorem KE(b:List TrBatch)(f:Bool)(i:Nat)(x:TrBatch)(hx:b[i]?=some x)(hl:b.length<100000)(hT:∀y,y∈b->(y.takes.length:Int)<=9223372036854775807):PCall TP 142 [.slice 5 (b.map TrBatch.pv) f,.int .i64 i] (.int .i64 (bo b i x)):=by
 have hil:=(aA.1 hx).1;have hlt:(i:Int)<(b.length:Int):=by omega
 have hle:(i:Int)<=(b.length:Int):=by omega
 have hTx:=hT x (aV hx);have hfl:(i==b.length)=false:=by simp;omega
 have htk:(b.map TrBatch.pv).take i=(b.take i).map TrBatch.pv:=qh.symm;have hN:fw ((b.take i).map (·.name)) x.name=if nameOk x.name=true then(if((b.take i).any λy=>y.name==x.name)=true then 5 else 0) else 6:=by
  unfold fw;rw[ub];rfl
 refine ae (ku (by kernel_rfl) rfl Nb) rfl ?_;simp only[MQ,af,hlt,hx,go_sem,simprocAttr];refine lT [0,3,5,19,20] x.takes hTx (τ:=Int) (λdone rest s=>kP x.takes x.fresh=kP rest s) (λdone s=>[(6,.p (.int .i64 s)),(21,.p (.int .i64 done.length))]) (λ_ _=>[.row 1 [.p (.int .i64 i)],.row 5 [.p x.pv]]) x.fresh rfl ?_ ?_ ?_
 .simp only[go_sem,simprocAttr]<;>simp
 .intro s e2;rw[show kP [] s=s from rfl]at e2;simp only[go_sem,simprocAttr];refine aa (Bh x.name) rfl ?_;simp only[go_sem,simprocAttr];cases hn:nameOk x.name
  .have hS:bo b i x=6:=by rw[bo,hN,hn];rfl
   simp only[hS,go_sem,simprocAttr]
  simp only[hle,htk,hfl,go_sem,simprocAttr];refine dX (vT (fv:=.func (.func 180) [] [.ptr 5 [x.pv] 0 0]) (b.take i) (λy=>y.name==x.name) false 5 rfl (by simp;omega) λy _=>⟨_,_,_,rfl,Me x.name _ _ _ _ y⟩) ?_ (.bool _) ?_
  .simp only[go_sem,simprocAttr]
  simp only[go_sem,simprocAttr];cases h5:((b.take i).any λy=>y.name==x.name)
  rotate_left
  .have hS:bo b i x=5:=by rw[bo,hN,hn,h5];rfl
   simp only[hS,go_sem,simprocAttr]
  have hS:bo b i x=(if an x.grams 1 100000=true/\an x.fresh 0 x.grams=true then
   (if x.lost=true/\x.takes≠[] then 6 else
    if(x.takes.any λt=>!an t.src 0 ((i:Int)-1))=true then 4 else
    if unsorted x.takes=true then 5 else
    if(x.takes.any λt=>!an t.grams 1 100000)=true then 7 else
    if x.lost=false/\kP x.takes x.fresh≠x.grams then 2 else 0)
  else 7):=by rw[bo,hN,hn,h5];rfl
  simp only[go_sem,simprocAttr];refine aa (n5 1 100000 [_] true (by simp)) rfl ?_;simp only[eV,fC,fM,go_sem,simprocAttr];cases h6:an x.grams 1 100000
  .rw[if_neg (by rw[h6];simp)]at hS;simp only[hS,go_sem,simprocAttr]
  simp only[go_sem,simprocAttr];refine aa (n5 0 x.grams [_] true (by simp)) rfl ?_;simp only[eV,fC,fM,go_sem,simprocAttr];cases h7:an x.fresh 0 x.grams
  .rw[if_neg (by rw[h7];simp)]at hS;simp only[hS,go_sem,simprocAttr]
  rw[if_pos ⟨h6,h7⟩]at hS;simp only[go_sem,simprocAttr];have hlen0:decide ((0:Int)<(x.takes.length:Int))=decide (x.takes≠[]):=by
   cases x.takes<;>simp
  have rest:∀{X:Prop},X->X:=λh=>h;have h8:(x.lost=true/\x.takes≠[])\/¬(x.lost=true/\x.takes≠[]):=Classical.em _;rcases h8 with h8|h8
  .rw[if_pos h8]at hS;have hd:decide ((0:Int)<(x.takes.length:Int))=true:=by rw[hlen0];simpa using h8.2
   simp only[h8.1,hd,hS,go_sem,simprocAttr]
  rw[if_neg h8]at hS;have hd:x.lost=true->decide ((0:Int)<(x.takes.length:Int))=false:=λh=>by
   rw[hlen0];exact decide_eq_false λh2=>h8 ⟨h,h2⟩
  have e1:=lq (λt:TrTake=>!an t.src 0 ((i:Int)-1)) x.takes 0;have e3:=lq (λt:TrTake=>!an t.grams 1 100000) x.takes 0;have e4:=A9 x.takes;rw[<-e1,<-e3,<-e4]at hS;have hfin:(x.lost=false/\kP x.takes x.fresh≠x.grams)↔(!x.lost&&s != x.grams)=true:=by rw[e2];simp
  cases hlo:x.lost;case' true=>simp only[hd hlo,go_sem,simprocAttr]
  case' false=>simp only[go_sem,simprocAttr]
  all_goals
   refine dX (sS (fv:=.func (.func 181) [] [.ptr 1 [.int .i64 i] 0 0]) x.takes (λ_ t=>!an t.src 0 ((i:Int)-1)) false hTx λk t _=>⟨_,_,_,rfl,NK k i t (by omega)⟩) ?_ (.bool _) ?_
   .simp only[go_sem,simprocAttr]
   simp only[go_sem,simprocAttr];cases g1:bv (λ_ (t:TrTake)=>!an t.src 0 ((i:Int)-1)) x.takes 0;rotate_left
   .rw[g1,if_pos rfl]at hS;simp only[hS,go_sem,simprocAttr]
   rw[g1,if_neg (by decide)]at hS;simp only[go_sem,simprocAttr];refine dX (sS (fv:=.func (.func 182) [] [.ptr 5 [.agg [.str x.name,.int .i64 x.grams,.int .i64 x.fresh,.bool x.lost,.slice 2 (x.takes.map TrTake.pv) false]] 0 0]) x.takes (gT x.takes) false hTx λk t ht=>⟨_,_,_,rfl,Jj x.takes _ _ _ _ _ k t ht hTx⟩) ?_ (.bool _) ?_
   .simp only[hlo,go_sem,simprocAttr]
   simp only[go_sem,simprocAttr];cases g2:bv (gT x.takes) x.takes 0;rotate_left
   .rw[g2,if_pos rfl]at hS;simp only[hS,go_sem,simprocAttr]
   rw[g2,if_neg (by decide)]at hS;simp only[go_sem,simprocAttr];refine dX (sS (fv:=.func (.func 183) [] []) x.takes (λ_ t=>!an t.grams 1 100000) false hTx λk t _=>⟨_,_,_,rfl,Mp k t⟩) ?_ (.bool _) ?_
   .simp only[go_sem,simprocAttr]
   simp only[go_sem,simprocAttr];cases g3:bv (λ_ (t:TrTake)=>!an t.grams 1 100000) x.takes 0;rotate_left
   .rw[g3,if_pos rfl]at hS;simp only[hS,go_sem,simprocAttr]
   rw[g3,if_neg (by decide)]at hS;rw[hlo]at hfin;simp only[go_sem,simprocAttr]
  .rw[lw,kM]at hfin;cases g4:(s != x.grams)
   .rw[if_neg (λh=>by rw[hlo]at h;rw[hfin.1 h]at g4;cases g4)]at hS;simp only[hS,go_sem,simprocAttr]
   .rw[if_pos (by rw[hlo];exact hfin.2 g4)]at hS;simp only[hS,go_sem,simprocAttr]
  .rw[if_neg (λh=>by rw[hlo]at h;cases h.1)]at hS;rw[hS]
 .intro done t r s e1 e2 ht hlt2 hnx;rw[show kP (t::r) s=kP r (IntKind.i64.wrap (s+t.grams)) from rfl]at e2;simp only[hlt2,ht,go_sem,simprocAttr];refine aq e1 _ e2 ?_;simp only[hnx,go_sem,simprocAttr]
end Tr
end Abs
end Go.Proofs.YtmndpldajflenaaGreatDoor
