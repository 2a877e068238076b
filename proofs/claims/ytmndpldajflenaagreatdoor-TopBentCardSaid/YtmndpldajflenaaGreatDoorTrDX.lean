/- CONTRACTS of the program's functions, and laws on what they return. No conditions but those in the theorems' heads. -/
import Derived.Test.YtmndpldajflenaaGreatDoorAbsPermX
set_option linter.all false
set_option maxHeartbeats 8000000
open Go.Proofs.Tryz
namespace Go.Proofs.YtmndpldajflenaaGreatDoor
namespace Abs
namespace Tr
set_option maxRecDepth 4000
theorem lG{n}{a}(h:bP n a):qY (·≠n) a:=by
 cases a<;>first|exact uM h|exact trivial
theorem Df{n}{a}(h:bS n a):sA (·≠n) a:=by
 cases a<;>first|exact uM h|exact trivial|exact⟨λc hc=>lG (h.1 c hc),λc hc=>lG (h.2 c hc)⟩
theorem J5{n}{a}(h:de n a):ux (·≠n) a:=by
 cases a<;>first|exact uM h|exact trivial|exact λc hc=>Df (h c hc)|exact⟨λc hc=>lG (h.1 c hc),λc hc=>lG (h.2 c hc)⟩
theorem AQ{n}{a}(h:below n a):vE (·≠n) a:=by
 cases a<;>first|exact uM h|exact trivial|exact λc hc=>J5 (h c hc)|exact λc hc=>Df (h c hc)|exact⟨λc hc=>lG (h.1 c hc),λc hc=>lG (h.2 c hc)⟩
theorem F3{n}{o}(h:bw n o):sa (·≠n) o:=by
 cases o<;>first|exact trivial|exact λx hx=>AQ (h x hx)|exact λt=>AQ (h t)|exact lG h
theorem vu{T}:∀(live) (t),(dM (cl T live []) t=T t/\t∈live)\/dM (cl T live []) t=.undef
 |[],t=>.inr rfl
 |x::r,t=>by
  unfold cl dM;by_cases h:t=x
  .subst h;rw[if_pos rfl];exact .inl ⟨rfl,by simp⟩
  .rw[if_neg h];rcases vu r t with⟨h1,h2⟩|h1
   .exact .inl ⟨h1,by simp[h2]⟩
   .exact .inr h1
theorem io{P:Program}{H:Hints}{Q:Cont}{x:Code}{A:AAct}(live:List Nat)(i sz s:Nat)(xs ys:List AV)(hi:A.bs<=i)(hb:A.bs<=A.h.length)(hx:A.h[i]?=some (.row s xs))(hlen:ys.length=xs.length)
  (hc:∀(n:Nat) (x y:AV),xs[n]?=some x->ys[n]?=some y->Ar A.h.length x y) (hl:∀t,t∈live->below A.h.length (A.tmps t)) (ho:∀o,o∈A.h->bw A.h.length o) (hd:A.df=[])
  (k:@W ⟨P,H,.loop x,Q⟩ { n:=A.n,bs:=A.bs,rc:=A.rc,tmps:=dM (cl A.tmps live []),h:=A.h.set i (.row s ys)++[.row sz []],df:=A.df }):@W ⟨P,H,.loop x,Q⟩ A:=by
 have hil:i<A.h.length:=(aA.1 hx).1
 have hw:=DL (P:=P) (A:={ A with h:=A.h++[.row sz []] }) (T:=dM (cl A.tmps live [])) A.h.length i sz s xs ys hb hi (by simp) (by omega)
  (by rw[br hil];exact hx) hlen hc (λt=>by
   rcases vu (T:=A.tmps) live t with⟨h1,h2⟩|h1
   .exact .inl ⟨h1,AQ (hl t h2)⟩
   .exact .inr h1) (λid o hid ho'=>by
   have hlt:id<A.h.length:=by
    have:=(aA.1 ho').1;simp at this;omega
   rw[br hlt]at ho'
   exact F3 (ho o (aV ho'))) hd
 have e:((A.h++[AObj.row sz []]).set A.h.length (.row sz [])).set i (.row s ys)=A.h.set i (.row s ys)++[.row sz []]:=by
  rw[yR _ _ (aJ _),qk];simp only[List.set_cons_zero];rw[kO _ _ hil]
 have e':({ A with h:=A.h++[AObj.row sz []] }:AAct).h=A.h++[.row sz []]:=rfl;rw[e',e]at hw;refine mb (Hr sz) (mb hw ?_);exact k
theorem C6{b:List TrBatch}{k:Nat}{x:TrBatch}(h:b[k]?=some x):bF b k=if x.lost=true then x.grams-x.fresh else 0:=by
 unfold bF ba;rw[cS h]
def kX (b:List TrBatch):AV:=.agg [.slice 1 b.length 0 b.length,.slice 3 b.length 0 b.length,.p .nilslice]
def yV (b:List TrBatch):Heap:=[.row 3 [kX b],.row 1 (rI b.length (kept b)),.row 3 [kX b],.row 1 (rI b.length (bF b))]
theorem Gw(b:List TrBatch)(f:Bool)(hb:BatsOk b):aN Tryz.prog 29 [.p (.slice 5 (b.map TrBatch.pv) f)] qZ (λr h'=>r=.ret (kX b)/\h'=yV b):=by
 have hl8:=hb.len;refine dH (am func29 rfl) rfl ?_;simp only[go_sem,simprocAttr];refine fj (LZ b f hb) ?_;simp only[go_sem,simprocAttr];refine io (4::[0,2,3]) 2 1 3 [.agg [.slice 1 b.length 0 b.length,.p .nilslice,.p .nilslice]] [.agg [.slice 1 b.length 0 b.length,.slice 3 0 0 0,.p .nilslice]] (by simp) (by simp) rfl rfl ?_ ?_ ?_ rfl ?_
 .intro n x y h1 h2
  match n,h1,h2 with
  |0,h1,h2=>
   cases h1;cases h2;refine⟨_,_,rfl,rfl,rfl,λj c d h3 h4=>?_⟩
   match j,h3,h4 with
   |0,h3,h4=>cases h3;cases h4;exact .inl rfl
   |1,h3,h4=>cases h3;cases h4;exact .inr ⟨rfl,rfl⟩
   |2,h3,h4=>cases h3;cases h4;exact .inl rfl
   |j+3,h3,h4=>simp at h3
  |n+1,h1,h2=>simp at h1
 .simp only[go_sem,simprocAttr]
 .simp only[go_sem,simprocAttr];exact bG _ _ _
 simp only[go_sem,simprocAttr]
 refine bt [0,2,3] b (by omega) (τ:=Unit) (λ_ _ _=>True) (λdone _=>[(4,.p (.int .i64 done.length))])
  (λdone _=>[.row 3 [.p (.agg [.nilslice,.nilslice,.nilslice])],.row 1 (rI b.length (kept b)),.row 3 [.agg [.slice 1 b.length 0 b.length,.slice 3 done.length 0 done.length,.p .nilslice]],.row 1 (rI done.length (bF b))]) () trivial ?_ ?_ ?_
 .simp only[go_sem,simprocAttr];first|rfl|(and_intros<;>first|exact bG _ _ _|rfl)
 .intro _ _;simp only[yV,kX,go_sem,simprocAttr]
 .intro done x r _ e1 _ hx hlt hnx;have hdl:done.length<b.length:=by omega
  have hbo:=hb.bat _ _ hx;have hna:=C6 hx;have hsn:=wN done.length (bF b);have hrm:done.length+1<=ai:=by simp[ai];omega
  have h1:=hbo.grams;have h2:=hbo.fresh;have w1:IntKind.i64.wrap (x.grams-x.fresh)=x.grams-x.fresh:=aj (by omega) (by omega);simp only[hlt,hx,go_sem,simprocAttr];cases hq:x.lost
  .rw[hq,if_neg (by decide)]at hna;rw[hna]at hsn;simp only[hrm,go_sem,simprocAttr];refine aq e1 () trivial ?_;simp only[hnx,ay,aC,hsn,go_sem,simprocAttr];and_intros<;>exact bG _ _ _
  .rw[hq,if_pos rfl]at hna;rw[hna]at hsn;simp only[hlt,hx,w1,hrm,go_sem,simprocAttr];refine aq e1 () trivial ?_;simp only[hnx,ay,aC,hsn,go_sem,simprocAttr];and_intros<;>exact bG _ _ _
def gN (n:Nat) (p:Pb) (nv:PV):PV:=.agg [.slice 1 (cI n p.has) false,.slice 1 (cI n p.needs) false,nv]
attribute [go_sem] gN
theorem NJ(b:List TrBatch)(f:Bool)(hb:BatsOk b):PCall Tryz.prog 27 [.slice 5 (b.map TrBatch.pv) f] (.slice 1 (cI b.length (kept b)) false):=
 pN ((L0 b f hb).mono λr h' hr=>⟨_,_,hr.1,by
  rw[hr.2];simp only[wO,go_sem,simprocAttr]
  rw[dz (by rw[bm];exact aJ _)],w9⟩)
theorem vV(b:List TrBatch)(f:Bool)(hb:BatsOk b):PCall Tryz.prog 29 [.slice 5 (b.map TrBatch.pv) f] (gN b.length (supp b) .nilslice):=
 pN ((Gw b f hb).mono λr h' hr=>⟨_,_,hr.1,by
  rw[hr.2];simp only[wO,yV,kX,supp,go_sem,simprocAttr];rw[dz (by rw[bm];exact aJ _),dz (by rw[bm];exact aJ _)]
  exact⟨rfl,rfl⟩,w9⟩)
theorem EH(n:Nat)(hn:n<=8):PCall Tryz.prog 83 [.int .i64 n] (.int .i64 ((2^n:Nat):Int)):=by
 refine ae (am func83 rfl) rfl ?_;simp only[go_sem,simprocAttr];refine aS [0] (σ:=Nat) (λk=>k<=n) (λk=>n-k) (λk=>[(3,.p (.int .i64 ((2^k:Nat):Int))),(4,.p (.int .i64 k))]) (λ_=>[]) 0 (bE _) ?_ ?_
 .simp only[go_sem,simprocAttr]<;>simp
 intro k hk;dsimp only;rcases aw k n with hkn|hkn
 .have c1:decide ((k:Int)<(n:Int))=true:=decide_eq_true (by omega);have hpk:(2:Nat)^k<=2^8:=yL (by decide) (by omega);have e8:(2:Nat)^8=256:=by decide
  have e1:(2:Nat)^(k+1)=2*2^k:=by rw[Nat.pow_succ,s7]
  have c2:IntKind.i64.wrap (2*((2^k:Nat):Int))=((2^(k+1):Nat):Int):=(aj (by omega) (by omega)).trans (by omega);have c3:IntKind.i64.wrap ((k:Int)+1)=((k+1:Nat):Int):=az (by omega) (by simp[ai];omega) (by omega);simp only[c1,c2,go_sem,simprocAttr];refine ak (k+1) hkn (by omega) ?_;simp only[c3,go_sem,simprocAttr]
 .have c1:decide ((k:Int)<(n:Int))=false:=decide_eq_false (by omega);have:k=n:=by omega
  subst this;simp only[c1,go_sem,simprocAttr]
theorem Pn(n:Nat)(p:Pb)(i k:Nat):PCall Tryz.prog 84 [gN n p .nilslice,.int .i64 i,.int .i64 k] (.bool (decide (i<k))):=by
 have h:decide ((i:Int)<(k:Int))=decide (i<k):=by rw[decide_eq_decide];omega
 refine ae (am func84 rfl) rfl ?_;simp only[go_sem,simprocAttr];refine aS [1,2,3] (σ:=Unit) (λ_=>True) (λ_=>0) (λ_=>[(7,.p (.int .i64 0))]) (λ_=>[.row 3 [.p (gN n p .nilslice)]]) () trivial ?_ ?_
 .simp only[go_sem,simprocAttr]
 intro _ _;simp only[go_sem,simprocAttr];rw[h]
def iK (p:Pb) (L:List Nat) (s k:Nat):Int:=sm k λk=>if bitD s k then p.needs (L.getD k 0) else 0
def mf (p:Pb) (L:List Nat) (s i k:Nat):Bool:=(List.range k).any λk=>bitD s k&&(decide (i<L.getD k 0)&&!p.nv i (L.getD k 0))
def kd (p:Pb) (L:List Nat) (s i:Nat):Int:=sm i λi=>if sSome p L s i then p.has i else 0
def j9 (p:Pb) (k:Nat):List Nat:=(List.range k).filter λk=>decide (0<p.needs k)
theorem B4(p:Pb)(L:List Nat)(s i k:Nat):mf p L s i (k+1)=(mf p L s i k||(bitD s k&&(decide (i<L.getD k 0)&&!p.nv i (L.getD k 0)))):=by
 unfold mf;rw[List.range_succ,List.any_append];simp
theorem D8(p:Pb)(k:Nat):j9 p (k+1)=j9 p k++(if 0<p.needs k then [k] else []):=by
 unfold j9;rw[List.range_succ,zx]
 congr 1
 by_cases h:0<p.needs k<;>simp[h]
theorem xP(p:Pb)(k:Nat):(j9 p k).length<=k:=by
 have:=List.length_filter_le (λk=>decide (0<p.needs k)) (List.range k);simpa[j9]using this
theorem HS{p:Pb}{n j:Nat}(h:j∈j9 p n):j<n:=bX.1 (List.mem_filter.1 h).1
theorem ui{f:Nat->Int}{B:Int}(hB:0<=B):∀k,(∀i,i<k->-B<=f i/\f i<=B)->-(B*k)<=sm k f/\sm k f<=B*k
 |0,_=>by simp[sm]
 |k+1,h=>by
  have ih:=ui hB k λi hi=>h i (by omega);have h1:=h k (by omega);have e:sm (k+1) f=sm k f+f k:=rfl;rw[e];have e2:B*((k+1:Nat):Int)=B*k+B:=by rw[Int.natCast_add,Int.mul_add];omega
  rw[e2];omega
theorem yi{s k:Nat}(hs:s<256)(hk:k<=8):IntKind.i64.wrap (Int.tdiv (s:Int) ((2^k:Nat):Int))=((s / 2^k:Nat):Int)/\Int.tmod ((s / 2^k:Nat):Int) 2=((s / 2^k%2:Nat):Int)/\((((s / 2^k%2:Nat):Int))==1)=bitD s k:=by
 have h1:s / 2^k<=s:=Nat.div_le_self _ _;have h2:s / 2^k%2<2:=kN _ (by decide);have e:Int.tdiv (s:Int) ((2^k:Nat):Int)=((s / 2^k:Nat):Int):=by rw[Int.tdiv_eq_ediv_of_nonneg (by omega)];exact(Int.natCast_ediv _ _).symm
 have e3:bitD s k=(s / 2^k%2==1):=rfl;rw[e,e3];generalize s / 2^k=D at h1 h2;refine⟨aj (by omega) (by omega),?_,?_⟩
 .rw[Int.tmod_eq_emod_of_nonneg (by omega)];omega
 .rw[gC,beq_iff_eq,beq_iff_eq];omega
theorem Ky(n:Nat)(p:Pb)(hn:n<=8)(hB:∀i,-10000000<=p.has i/\p.has i<=10000000)(hB2:∀i,-10000000<=p.needs i/\p.needs i<=10000000)(hnv:∀i k,p.nv i k=false) :
  PCall Tryz.prog 28 [gN n p .nilslice] (.bool (solves n p)):=by
 refine ae (am func28 rfl) rfl ?_;simp only[go_sem,simprocAttr];refine dq 3 1 (by simp only[go_sem,simprocAttr]) ?_;simp only[go_sem,simprocAttr]
 refine aS [1] (σ:=Nat) (λk=>k<=n/\∀i,i<k->0<=p.has i/\0<=p.needs i) (λk=>n-k) (λk=>[(3,.slice 1 (j9 p k).length 0 (j9 p k).length),(4,.p (.int .i64 k))])
  (λk=>[.row 3 [.p (gN n p .nilslice)],.row 1 ((j9 p k).map λj=>.p (bQ j))]) 0 ⟨bE _,λi h=>by omega⟩ ?_ ?_
 .have h0:j9 p 0=[]:=rfl;simp only[h0,go_sem,simprocAttr]<;>simp
 rintro k ⟨hk,hpos⟩
 dsimp only;rcases aw k n with hkn|hkn
 .have c1:decide ((k:Int)<(n:Int))=true:=decide_eq_true (by omega);have c2:(k:Int)<(n:Int):=by omega
  have c3:IntKind.i64.wrap ((k:Int)+1)=((k+1:Nat):Int):=az (by omega) (by simp[ai];omega) (by omega);have g1:=dd p.has hkn;have g2:=dd p.needs hkn;have hbad:¬(0<=p.has k/\0<=p.needs k)->solves n p=false:=λh=>by
   unfold solves;rw[Bool.and_eq_false_iff];refine .inl (List.all_eq_false.2 ⟨k,bX.2 hkn,?_⟩);intro h2;rw[bY,decide_eq_true_eq,decide_eq_true_eq]at h2;exact h h2
  simp only[c1,c2,g1,go_sem,simprocAttr];cases d1:decide (p.has k<0);rotate_left
  .have hb:=hbad λh=>by have:p.has k<0:=(by simpa using d1);omega
   simp only[hb,go_sem,simprocAttr]
  simp only[c2,g2,go_sem,simprocAttr];cases d2:decide (p.needs k<0);rotate_left
  .have hb:=hbad λh=>by have:p.needs k<0:=(by simpa using d2);omega
   simp only[hb,go_sem,simprocAttr]
  have hp:0<=p.has k/\0<=p.needs k:=by
   have h1:¬p.has k<0:=by simpa using d1
   have h2:¬p.needs k<0:=by simpa using d2
   omega
  have hpos2:∀i,i<k+1->0<=p.has i/\0<=p.needs i:=λi hi=>by
   by_cases h:i=k
   .subst h;exact hp
   .exact hpos i (by omega)
  have hsn:=D8 p k;have hfl:=xP p k;have hrm:(j9 p k).length+1<=ai:=by simp[ai];omega
  simp only[c2,g2,go_sem,simprocAttr];cases d3:decide (0<p.needs k)
  .rw[if_neg (by simpa using d3),co]at hsn;simp only[go_sem,simprocAttr];refine ak (k+1) ⟨hkn,hpos2⟩ (by omega) ?_;simp only[c3,hsn,go_sem,simprocAttr]
  .rw[if_pos (by simpa using d3)]at hsn;simp only[hrm,go_sem,simprocAttr];refine ak (k+1) ⟨hkn,hpos2⟩ (by omega) ?_;simp only[c3,hsn,ay,aC,kg,go_sem,simprocAttr]
 have hkn':k=n:=by omega
 subst hkn';have c1:decide ((k:Int)<(k:Int))=false:=decide_eq_false (by omega);simp only[c1,go_sem,simprocAttr];obtain⟨L,hL⟩:∃L,L=j9 p k:=⟨_,rfl⟩
 have hLl:L.length<=8:=by rw[hL];have:=xP p k;omega
 have hLm:∀j,j∈L->j<k:=λj hj=>HS (by rw[<-hL];exact hj);have h2p:2^L.length<=256:=iZ (yL (by decide) hLl) (by decide);have hall:solves k p=(((List.range k).all λi=>decide (0<=p.has i)&&decide (0<=p.needs i))&&(List.range (2^L.length)).all λs=>decide (sNeed p L s<=sHas k p L s)):=by rw[hL];rfl
 have hall1:((List.range k).all λi=>decide (0<=p.has i)&&decide (0<=p.needs i))=true:=iw.2 λi hi=>by
  have:=hpos i (bX.1 hi);simp[this.1,this.2]
 rw[hall1,kM]at hall;have sN:∀s,sNeed p L s=iK p L s L.length:=λs=>rfl;have sH:∀s,sHas k p L s=kd p L s k:=λs=>rfl;rw[<-hL];refine aS [1,3] (σ:=Nat) (λs=>s<=2^L.length/\∀t,t<s->sNeed p L t<=sHas k p L t) (λs=>2^L.length-s) (λs=>[(5,.p (.int .i64 s))]) (λ_=>[.row 3 [.p (gN k p .nilslice)],.row 1 (L.map λj=>.p (bQ j))]) 0 ⟨bE _,λt h=>by omega⟩ ?_ ?_
 .simp only[go_sem,simprocAttr]<;>simp
 rintro s ⟨hs,hgood⟩
 dsimp only;simp only[go_sem,simprocAttr];refine aa (EH L.length hLl) rfl ?_;simp only[go_sem,simprocAttr];rcases aw s (2^L.length) with hsl|hsl
 rotate_left
 .have d1:decide ((s:Int)<((2^L.length:Nat):Int))=false:=decide_eq_false (by omega);have hend:solves k p=true:=by
   rw[hall];exact iw.2 λt ht=>decide_eq_true (hgood t (by have:=bX.1 ht;omega))
  simp only[d1,hend,go_sem,simprocAttr]
 have d1:decide ((s:Int)<((2^L.length:Nat):Int))=true:=decide_eq_true (by omega);have hs256:s<256:=by omega
 have ws:IntKind.i64.wrap ((s:Int)+1)=((s+1:Nat):Int):=az (by omega) (by simp[ai];omega) (by omega);simp only[d1,go_sem,simprocAttr];refine aS [1,3,5,7] (σ:=Nat) (λj=>j<=L.length) (λj=>L.length-j) (λj=>[(6,.p (.int .i64 (iK p L s j))),(8,.p (.int .i64 j))]) (λ_=>[.row 3 [.p (gN k p .nilslice)],.row 1 (L.map λj=>.p (bQ j))]) 0 (bE _) ?_ ?_
 .have h0:iK p L s 0=0:=rfl;simp only[h0,go_sem,simprocAttr]<;>simp
 intro j hj;dsimp only;rcases aw j L.length with hjl|hjl
 .have b1:decide ((j:Int)<(L.length:Int))=true:=decide_eq_true (by omega);have b2:(j:Int)<(L.length:Int):=by omega
  have wj:IntKind.i64.wrap ((j:Int)+1)=((j+1:Nat):Int):=az (by omega) (by simp[ai];omega) (by omega);have hLj:L[j]?=some L[j]:=aT hjl;have hLk:=hLm _ (nk hjl);generalize hq:L[j]=q at hLj hLk;have hgd:L.getD j 0=q:=by rw[bB,hLj];rfl
  have b3:(q:Int)<(k:Int):=by omega
  have g2:=dd p.needs hLk;obtain⟨f1,f2,f3⟩:=yi hs256 (show j<=8 by omega);have hz:¬(((2^j:Nat):Int)=0):=by have:0<2^j:=Nat.pow_pos (by decide);omega
  have hnB:=ui (f:=λk=>if bitD s k then p.needs (L.getD k 0) else 0) (B:=10000000) (by decide) j λi _=>by split<;>first|exact hB2 _|omega
  have hnx:iK p L s (j+1)=iK p L s j+if bitD s j then p.needs (L.getD j 0) else 0:=rfl
  change -(10000000*(j:Int))<=iK p L s j/\iK p L s j<=10000000*(j:Int) at hnB;rw[hgd]at hnx;have hq2:=hB2 q;have w1:IntKind.i64.wrap (iK p L s j+p.needs q)=iK p L s j+p.needs q:=aj (by omega) (by omega);simp only[b1,go_sem,simprocAttr];refine aa (EH j (by omega)) rfl ?_;simp only[f1,f2,f3,hz,go_sem,simprocAttr];cases hbit:bitD s j
  .rw[hbit]at hnx;simp only[gZ,if_false,mH]at hnx;simp only[go_sem,simprocAttr];refine ak (j+1) hjl (by omega) ?_;simp only[wj,hnx,go_sem,simprocAttr]
  .rw[hbit]at hnx;simp only[if_true]at hnx;simp only[b2,hLj,b3,g2,w1,go_sem,simprocAttr];refine ak (j+1) hjl (by omega) ?_;simp only[wj,hnx,go_sem,simprocAttr]
 have hjL:j=L.length:=by omega
 subst hjL;have b1:decide ((L.length:Int)<(L.length:Int))=false:=decide_eq_false (by omega);simp only[b1,go_sem,simprocAttr];refine aS [1,3,5,6] (σ:=Nat) (λi=>i<=k) (λi=>k-i) (λi=>[(7,.p (.int .i64 (kd p L s i))),(9,.p (.int .i64 i))]) (λ_=>[.row 3 [.p (gN k p .nilslice)],.row 1 (L.map λj=>.p (bQ j))]) 0 (bE _) ?_ ?_
 .have h0:kd p L s 0=0:=rfl;simp only[h0,go_sem,simprocAttr]<;>simp
 intro i hi;dsimp only;have hhB:=ui (f:=λi=>if sSome p L s i then p.has i else 0) (B:=10000000) (by decide) i λi _=>by split<;>first|exact hB _|omega
 change -(10000000*(i:Int))<=kd p L s i/\kd p L s i<=10000000*(i:Int) at hhB;rcases aw i k with hik|hik
 .have b1:decide ((i:Int)<(k:Int))=true:=decide_eq_true (by omega);have b2:(i:Int)<(k:Int):=by omega
  have wi:IntKind.i64.wrap ((i:Int)+1)=((i+1:Nat):Int):=az (by omega) (by simp[ai];omega) (by omega);have g1:=dd p.has hik;have hiB:=hB i;have w1:IntKind.i64.wrap (kd p L s i+p.has i)=kd p L s i+p.has i:=aj (by omega) (by omega);have hnx:kd p L s (i+1)=kd p L s i+if mf p L s i L.length then p.has i else 0:=rfl
  simp only[b1,go_sem,simprocAttr];refine aS [1,3,5,6,7,9] (σ:=Nat) (λj=>j<=L.length) (λj=>L.length-j) (λj=>[(10,.p (.bool (mf p L s i j))),(11,.p (.int .i64 j))]) (λ_=>[.row 3 [.p (gN k p .nilslice)],.row 1 (L.map λj=>.p (bQ j))]) 0 (bE _) ?_ ?_
  .have h0:mf p L s i 0=false:=rfl;simp only[h0,go_sem,simprocAttr]<;>simp
  intro j hj;dsimp only;rcases aw j L.length with hjl|hjl
  .have b3:decide ((j:Int)<(L.length:Int))=true:=decide_eq_true (by omega);have b4:(j:Int)<(L.length:Int):=by omega
   have wj:IntKind.i64.wrap ((j:Int)+1)=((j+1:Nat):Int):=az (by omega) (by simp[ai];omega) (by omega);have hLj:L[j]?=some L[j]:=aT hjl;generalize hq:L[j]=q at hLj;have hgd:L.getD j 0=q:=by rw[bB,hLj];rfl
   obtain⟨f1,f2,f3⟩:=yi hs256 (show j<=8 by omega);have hz:¬(((2^j:Nat):Int)=0):=by have:0<2^j:=Nat.pow_pos (by decide);omega
   have hsx:=B4 p L s i j;rw[hgd,hnv,lw,Bool.and_true]at hsx;simp only[b3,go_sem,simprocAttr];cases hso:mf p L s i j
   .rw[hso,gA]at hsx;simp only[go_sem,simprocAttr];refine ao (EH j (by omega)) rfl ?_;simp only[f1,f2,f3,hz,go_sem,simprocAttr];cases hbit:bitD s j
    .rw[hbit,Bool.false_and]at hsx;simp only[go_sem,simprocAttr];refine ak (j+1) hjl (by omega) ?_;simp only[wj,hsx,go_sem,simprocAttr]
    .rw[hbit,kM]at hsx;simp only[b4,hLj,go_sem,simprocAttr];refine ao (Pn k p i q) rfl ?_;simp only[go_sem,simprocAttr];refine ak (j+1) hjl (by omega) ?_;simp only[wj,hsx,go_sem,simprocAttr]
   .rw[hso,gY]at hsx;simp only[go_sem,simprocAttr];refine ak (j+1) hjl (by omega) ?_;simp only[wj,hsx,go_sem,simprocAttr]
  have hjL:j=L.length:=by omega
  subst hjL;have b3:decide ((L.length:Int)<(L.length:Int))=false:=decide_eq_false (by omega);simp only[b3,go_sem,simprocAttr];cases hso:mf p L s i L.length
  .rw[hso]at hnx;simp only[gZ,if_false,mH]at hnx;simp only[go_sem,simprocAttr];refine ak (i+1) hik (by omega) ?_;simp only[wi,hnx,go_sem,simprocAttr]
  .rw[hso]at hnx;simp only[if_true]at hnx;simp only[b2,g1,w1,go_sem,simprocAttr];refine ak (i+1) hik (by omega) ?_;simp only[wi,hnx,go_sem,simprocAttr]
 have hik':i=k:=by omega
 subst hik';have b3:decide ((i:Int)<(i:Int))=false:=decide_eq_false (by omega);simp only[b3,go_sem,simprocAttr];cases hcmp:decide (kd p L s i<iK p L s L.length)
 .have hle:¬kd p L s i<iK p L s L.length:=by simpa using hcmp
  simp only[go_sem,simprocAttr];refine ak (s+1) ⟨by omega,λt ht=>?_⟩ (by omega) ?_
  .by_cases h:t=s
   .subst h;rw[sN,sH];omega
   .exact hgood t (by omega)
  simp only[ws,go_sem,simprocAttr]
 .have hlt:kd p L s i<iK p L s L.length:=by simpa using hcmp
  have hend:solves i p=false:=by
   rw[hall];refine List.all_eq_false.2 ⟨s,bX.2 hsl,?_⟩;rw[sN,sH];simp;omega
  simp only[hend,go_sem,simprocAttr]
end Tr
end Abs
end Go.Proofs.YtmndpldajflenaaGreatDoor
