/- CONTRACTS of functions and laws. No conditions but those in the heads. -/
import Derived.Test.YtgafommgcfhkkaaGreatDoorClAllX
set_option linter.all false
set_option maxHeartbeats 4000000
open Go.Proofs.Tryz
open Go.IntKind (i64)
namespace Go.Proofs.YtgafommgcfhkkaaGreatDoor
namespace Abs
namespace Wx
set_option maxRecDepth 4000
def Ql(s):ec s.lo s.hi 0 100000=if oO s=true then(if decide (s.hi<s.lo)=true then 2 else 0) else 7:=by
 unfold ec oO;cases aq s.lo 0 100000<;>cases aq s.hi 0 100000<;>simp
def sr (w:Int) (l:List Span):Int:=if(l.any λs=>!oO s)=true then 7 else if(l.any λs=>decide (s.hi<s.lo))=true then 2 else w
def MD{w}{s}{l}(e:oO s=true):sr w (s::l)=sr (if decide (s.hi<s.lo)=true then 2 else w) l:=by
 unfold sr;rw[bZ,bZ,e];cases decide (s.hi<s.lo)<;>cases (l.any λs=>!oO s)<;>cases (l.any λs=>decide (s.hi<s.lo))<;>simp
def L'(l)(e:Nat)(C:e<1000000000):af Tryz.prog 84 [.slice 2 (l.map Span.pv) false,.int .i64 e] (.int .i64 (if l.length=e then sr 0 l else 3)):=by
 refine ae (ag func84 rfl) rfl (zm ?_);cases z:((l.length:Int) != (e:Int))
 rotate_left
 .have j:¬l.length=e:=by simp at z;omega
  simp[if_neg j,go_sem]
 have j:l.length=e:=by simp at z;omega
 rw[if_pos j,<-j];refine zm ?_;refine aG [0,1] l (by omega) (τ:=Int) (λd_ rest w=>sr 0 l=sr w rest) (λd_ w=>[(5,.p (.int .i64 w)),(6,.p (.int .i64 d_.length))]) (λ_ _=>[]) 0 rfl ?_ ?_ ?_
 .simp only[go_sem,simprocAttr]<;>simp
 .intro w i;refine zm ?_;rw[i];rfl
 .intro d_ s r w A i hx u q;refine zo u hx ?_;refine aa (oc _ _ _ _) rfl ?_;rw[Ql];cases v:oO s
  .have:sr w (s::r)=7:=by rw[sr,bZ,v];rfl
   rw[this]at i;simp[i,go_sem]
  .rw[MD v]at i;cases y:decide (s.hi<s.lo)
   .rw[y]at i;refine zm ?_;refine am A w i ?_;simp[q,go_sem]
   .rw[y]at i;refine zm ?_;refine am A 2 i ?_;simp[q,go_sem]
def D8(e)(k):hJ e k=if k.props.length=e then sr 0 k.props else 3:=rfl
def lN(t):af Tryz.prog 25 [t.pv] (ao (wxCheck t)):=by
 refine ae (ag func25 rfl) rfl (zm ?_);refine aa (xn _ _ _) rfl (zm ?_);cases F:aq t.props.length 1 5
 .simp[ao,wxCheck,F,go_sem]
 refine zm ?_;refine aa (xn _ _ _) rfl (zm ?_);cases G:aq t.kinds.length 1 8
 .simp[ao,wxCheck,F,G,go_sem]
 refine zm ?_;refine aa (xn _ _ _) rfl (zm ?_);cases K:aq t.purity 1 1000
 .simp[ao,wxCheck,F,G,K,go_sem]
 have C:wxCheck t=tail t (firstErr dC (·.name) t.props []):=by simp only[wxCheck,F,G,K,tj,if_true]
 rw[C];have L:t.props.length<=5:=by simp[aq]at F;omega
 have M:t.kinds.length<=8:=by simp[aq]at G;omega
 refine zm ?_;refine bt 5 1 (by simp only[go_sem,simprocAttr]) (zm ?_)
 refine aG [1] t.props (by omega) (τ:=Unit) (λd_ rest _=>firstErr dC (·.name) t.props []=firstErr dC (·.name) rest (d_.map (·.name)))
  (λd_ _=>[(5,.slice 1 d_.length 0 d_.length),(6,.p (.int .i64 d_.length))]) (λd_ _=>[.row 3 [.p t.pv],.row 1 (d_.map λx=>.p (.str x.name))]) () rfl ?_ ?_ ?_
 .simp only[go_sem,simprocAttr]<;>simp
 .intro _ q;have I:tail t (firstErr dC (·.name) t.props [])=tail t none:=by rw[q];rfl
  rw[I];refine zm ?_;refine bt 5 1 (by simp only[go_sem,simprocAttr]) (zm ?_)
  refine aG [1] t.kinds (by omega) (τ:=Unit) (λd_ rest _=>firstErr (kindErr t.props.length) (·.name) t.kinds []=firstErr (kindErr t.props.length) (·.name) rest (d_.map (·.name)))
   (λd_ _=>[(5,.slice 2 d_.length 0 d_.length),(8,.p (.int .i64 d_.length))]) (λd_ _=>[.row 3 [.p t.pv],.row 1 (t.props.map λx=>.p (.str x.name)),.row 1 (d_.map λx=>.p (.str x.name))]) () rfl ?_ ?_ ?_
  .simp only[go_sem,simprocAttr]<;>simp
  .intro _ q;have I:tail t none=(0,0,0):=by
    simp only[tail];rw[q];rfl
   simp[ao,I,go_sem]
  .intro d_ x r _ u q hx i y;obtain⟨J,j⟩:=LL q;have v:d_.length+1<=ai:=by simp[ai];have:=congrArg List.length u;simp at this;omega
   refine zo i hx ?_;refine bq (kQ x.name (d_.map (·.name)) false (d_.map λx=>.str x.name) (by simp) (by simp;have:=congrArg List.length u;simp at this;omega)) ?_ (.int _ _) ?_
   .simp[go_sem]
   refine zm ?_;cases l:(ar (d_.map (·.name)) x.name==0)
   .have e:ar (d_.map (·.name)) x.name≠0:=by simpa using l
    have A:(ar (d_.map (·.name)) x.name != 0)=true:=by simp[bne,l]
    simp only[A,ao,j _ (by rw[kindErr,if_neg e]) e,go_sem,simprocAttr]
   have e:ar (d_.map (·.name)) x.name=0:=by simpa using l
   have D:kindErr t.props.length (d_.map (·.name)) x=hJ t.props.length x:=by rw[kindErr,if_pos e]
   refine zo hx i ?_
   (first|refine aa (L' x.props t.props.length (by omega)) rfl ?_|refine aj (L' x.props t.props.length (by omega)) rfl ?_)
   rw[<-D8];refine zm ?_;cases E:(hJ t.props.length x != 0)
   rotate_left
   .have z:hJ t.props.length x≠0:=by simpa using E
    simp[ao,j _ D z,go_sem]
   have z:hJ t.props.length x=0:=by simpa using E
   refine zp v i hx ?_;refine am u () (J (D.trans z)) (zn y ?_);all_goals simp
 .intro d_ x r _ u q hx i y;obtain⟨J,j⟩:=Lu q;have v:d_.length+1<=ai:=by simp[ai];have:=congrArg List.length u;simp at this;omega
  refine zo i hx ?_;refine bq (kQ x.name (d_.map (·.name)) false (d_.map λx=>.str x.name) (by simp) (by simp;have:=congrArg List.length u;simp at this;omega)) ?_ (.int _ _) ?_
  .simp[go_sem]
  refine zm ?_;cases l:(ar (d_.map (·.name)) x.name==0)
  .have e:ar (d_.map (·.name)) x.name≠0:=by simpa using l
   have A:(ar (d_.map (·.name)) x.name != 0)=true:=by simp[bne,l]
   simp only[A,ao,j _ (by rw[dC,if_neg e]) e,go_sem,simprocAttr]
  have e:ar (d_.map (·.name)) x.name=0:=by simpa using l
  have D:dC (d_.map (·.name)) x=nt x:=by rw[dC,if_pos e]
  refine zo hx i ?_;refine aa (xn _ _ _) rfl (zm ?_);cases E:aq x.error 0 10000
  .simp only[ao,j 7 (by rw[D,nt,E];rfl) (by decide),go_sem,simprocAttr]
  refine s_ v i hx e ?_;refine am u () (J (by rw[D,nt,E];rfl)) ?_;refine zn y ?_;all_goals simp
def QQ(t)(rs)(q:rs.length<1000000000):af Tryz.prog 255 [t.pv,.slice 1 (rs.map ay) false] (.int .i64 (cU t rs)):=by
 refine ae (ag func255 rfl) rfl (zm ?_);refine aa (lN t) rfl ?_;simp only[ao,go_sem,simprocAttr];have F:((rs.length:Int) != (t.props.length:Int))=!decide (rs.length=t.props.length):=by rw[km];simp;omega
 cases C:((wxCheck t).2.2==0)
 .have j:¬(wxCheck t).2.2=0:=by simpa using C
  refine zm ?_;refine aG [1] rs q (τ:=Unit) (λd_ rest _=>True) (λd_ _=>[(7,.p (.int .i64 (wxCheck t).2.2)),(8,.p (.int .i64 d_.length))]) (λ_ _=>[.row 3 [.p t.pv]]) () trivial ?_ ?_ ?_
  .simp only[go_sem,simprocAttr]<;>simp
  .intro _ _;simp[cU,if_neg j,go_sem]
  .intro d_ n r _ u e hx i l;simp[i,hx,C,cU,if_neg j,go_sem]
 have j:(wxCheck t).2.2=0:=by simpa using C
 have G:(0:Int)=0:=rfl;refine zo F j ?_;by_cases y:rs.length=t.props.length;rotate_left
 .have A:decide (rs.length=t.props.length)=false:=by simpa using y
  have z:cU t rs=3:=by rw[cU,if_pos j,if_neg y]
  rw[z];refine zn A ?_;refine aG [1] rs q (τ:=Unit) (λd_ rest _=>True) (λd_ _=>[(7,.p (.int .i64 3)),(8,.p (.int .i64 d_.length))]) (λ_ _=>[.row 3 [.p t.pv]]) () trivial ?_ ?_ ?_
  .simp only[go_sem,simprocAttr]<;>simp
  .intro _ _;simp[go_sem]
  .intro d_ n r _ u e hx i l;simp[i,hx,go_sem]
 have A:decide (rs.length=t.props.length)=true:=by simpa using y
 have z:cU t rs=if rs.all fL=true then 0 else 7:=by rw[cU,if_pos j,if_pos y]
 rw[z];refine zn A ?_;refine aG [1] rs q (τ:=Bool) (λd_ rest b=>rs.all fL=(b&&rest.all fL)) (λd_ b=>[(7,.p (.int .i64 (if b=true then 0 else 7))),(8,.p (.int .i64 d_.length))]) (λ_ _=>[.row 3 [.p t.pv]]) true (by simp) ?_ ?_ ?_
 .simp only[go_sem,simprocAttr]<;>simp
 .intro b e;rw[ti,Bool.and_true]at e;simp[e,go_sem]
 .intro d_ n r b u e hx i l;rw[List.all_cons]at e;cases b
  .rw[Bool.false_and]at e;simp[i,hx,e,go_sem]
  simp only[o0]at e;refine zo i hx ?_;cases v:(n != -1)
  .have:fL n=true:=by simp[fL];simp at v;exact .inl v
   rw[this,o0]at e;refine zm ?_;refine am u true (by simpa using e) ?_;simp[l,go_sem]
  .have E:fL n=aq n 0 100000:=by simp[fL];simp at v;simp[v]
   refine zo i hx ?_;refine aa (xn _ _ _) rfl (zm ?_);rw[E]at e;cases D:aq n 0 100000
   .rw[D]at e;refine zm ?_;refine am u false (by simpa using e) ?_;simp[l,go_sem]
   .rw[D]at e;refine zm ?_;refine am u true (by simpa using e) ?_;simp[l,go_sem]
def I4(t)(p i j:Nat)(n)(a b)(x y)(F:TableOk t)(z:t.kinds[i]?=some a)(u:t.kinds[j]?=some b)(hx:a.props[p]?=some x)(q:b.props[p]?=some y)(l:0<=n/\n<=1000) :
  af Tryz.prog 363 [t.pv,.int .i64 p,.int .i64 i,.int .i64 j,.int .i64 n] (Span.pv ⟨n*x.lo+(1000-n)*y.lo,n*x.hi+(1000-n)*y.hi⟩):=by
 refine ae (dv (by kernel_rfl) rfl ZO) rfl ?_;have E:(i:Int)<(t.kinds.length:Int):=by have:=(aC.1 z).1;omega
 have D:(j:Int)<(t.kinds.length:Int):=by have:=(aC.1 u).1;omega
 have C:(p:Int)<(a.props.length:Int):=by have:=(aC.1 hx).1;omega
 have A:(p:Int)<(b.props.length:Int):=by have:=(aC.1 q).1;omega
 have V:=F.vals a (aB z) x (aB hx);have U:=F.vals b (aB u) y (aB q);have e:∀k v:Int,0<=k->k<=1000->0<=v->v<=100000->0<=k*v/\k*v<=100000000:=λk v T S G R=>⟨pF T G,by have:=pG S R G (by omega:(0:Int)<=1000);omega⟩
 have b1:=e n x.lo l.1 l.2 (by omega) (by omega);have Z:=e n x.hi l.1 l.2 (by omega) (by omega);have Y:=e (1000-n) y.lo (by omega) (by omega) (by omega) (by omega);have X:=e (1000-n) y.hi (by omega) (by omega) (by omega) (by omega);have O:i64.wrap (1000-n)=1000-n:=ah;have N:i64.wrap (n*x.lo)=n*x.lo:=ah;have M:i64.wrap (n*x.hi)=n*x.hi:=ah;have L:i64.wrap ((1000-n)*y.lo)=(1000-n)*y.lo:=ah;have K:i64.wrap ((1000-n)*y.hi)=(1000-n)*y.hi:=ah;have J:i64.wrap (n*x.lo+(1000-n)*y.lo)=n*x.lo+(1000-n)*y.lo:=ah;have I:i64.wrap (n*x.hi+(1000-n)*y.hi)=n*x.hi+(1000-n)*y.hi:=ah;simp[Zp,aD,z,u,E,D,hx,q,C,A,O,N,M,L,K,J,I,go_sem]
def Gy{ps:List WxProp}{xs ys:List Span}{r:List Int}{k:Nat}{p:WxProp}{x y:Span}{n v:Int}(q:ps[k]?=some p)(hx:xs[k]?=some x)(l:ys[k]?=some y) :
  bC (ps.drop k) (xs.drop k) (ys.drop k) (v::r) n=(gH x y p.error v n&&bC (ps.drop (k+1)) (xs.drop (k+1)) (ys.drop (k+1)) r n):=by
 obtain⟨j,rfl⟩:=aC.1 q;obtain⟨i,rfl⟩:=aC.1 hx;obtain⟨e,rfl⟩:=aC.1 l;rw[vY j,vY i,vY e,bC]
def IQ{ps:List WxProp}{xs ys:List Span}{n:Int}:bC ps xs ys [] n=true:=by cases ps<;>cases xs<;>cases ys<;>rfl
def AK(t)(rs)(i j:Nat)(a b)(n)(u:TableOk t)(a2:rs.length=t.props.length)(O:rs.all fL=true)(J:t.kinds[i]?=some a)(I:t.kinds[j]?=some b)(X:0<=n/\n<=1000) :
  af Tryz.prog 324 [t.pv,.slice 1 (rs.map ay) false,.int .i64 i,.int .i64 j,.int .i64 n] (.bool (bC t.props a.props b.props rs n)):=by
 refine ae (dv (by kernel_rfl) rfl ZR) rfl ?_;have a3:=u.props;have a6:=u.len a (aB J);have a5:=u.len b (aB I);refine zm ?_;refine aG [1,2,3,4,5] rs (by omega) (τ:=Unit) (λd_ rest _=>bC t.props a.props b.props rs n=bC (t.props.drop d_.length) (a.props.drop d_.length) (b.props.drop d_.length) rest n) (λd_ _=>[(11,.p (.int .i64 d_.length))]) (λ_ _=>[.row 3 [.p t.pv]]) () rfl ?_ ?_ ?_
 .simp only[go_sem,simprocAttr]<;>simp
 .intro _ e;rw[IQ]at e;simp[e,go_sem]
 .intro d_ v r _ K e hx z F;have R:=congrArg List.length K;simp only[ak,bc]at R;obtain⟨p,M⟩:∃p,t.props[d_.length]?=some p:=⟨_,bL (by omega)⟩
  obtain⟨x,q⟩:∃x,a.props[d_.length]?=some x:=⟨_,bL (by omega)⟩
  obtain⟨y,l⟩:∃y,b.props[d_.length]?=some y:=⟨_,bL (by omega)⟩
  rw[Gy M q l]at e;have G:(d_++[v]).length=d_.length+1:=by simp
  have Z:=kl.1 O v (by rw[K];simp);refine zo z hx ?_;cases N:(v==-1)
  rotate_left
  .rw[gH,N,oZ,o0]at e;refine zm ?_;refine am K () (by rw[G];exact e) ?_;simp[F,go_sem]
  have hr:0<=v/\v<=100000:=by
   have:¬v=-1:=by simpa using N
   simpa[fL,this,aq]using Z
  have a4:=u.error p (aB M);have a1:=u.vals a (aB J) x (aB q);have a0:=u.vals b (aB I) y (aB l);have Y:(d_.length:Int)<(t.props.length:Int):=by omega
  have V:i64.wrap (v+p.error)=v+p.error:=ah;have U:i64.wrap (v-p.error)=v-p.error:=ah;have T:i64.wrap (1000*(v+p.error))=1000*(v+p.error):=ah;have S:i64.wrap (1000*(v-p.error))=1000*(v-p.error):=ah;simp only[ES,aD,go_sem,simprocAttr]
  (first|refine aa (I4 t d_.length i j n a b x y u J I q l X) rfl ?_|refine aj (I4 t d_.length i j n a b x y u J I q l X) rfl ?_)
  simp only[ES,aD,M,Y,z,hx,V,U,T,S,go_sem,simprocAttr];rw[gH,N,oo]at e;by_cases c1:n*x.lo+(1000-n)*y.lo<=1000*(v+p.error)
  .have E:decide (1000*(v+p.error)<n*x.lo+(1000-n)*y.lo)=false:=by simpa using c1
   have D:decide (n*x.lo+(1000-n)*y.lo<=1000*(v+p.error))=true:=by simpa using c1
   rw[D,o0]at e;simp only[ES,aD,E,z,hx,V,U,T,S,go_sem,simprocAttr];by_cases L:1000*(v-p.error)<=n*x.hi+(1000-n)*y.hi
   .have C:decide (n*x.hi+(1000-n)*y.hi<1000*(v-p.error))=false:=by simpa using L
    have A:decide (1000*(v-p.error)<=n*x.hi+(1000-n)*y.hi)=true:=by simpa using L
    rw[A,o0]at e;simp only[ES,aD,C,go_sem,simprocAttr];refine am K () (by rw[G];exact e) ?_;simp[F,go_sem]
   .have C:decide (n*x.hi+(1000-n)*y.hi<1000*(v-p.error))=true:=by simpa using L
    have A:decide (1000*(v-p.error)<=n*x.hi+(1000-n)*y.hi)=false:=by simpa using L
    rw[A,Bool.false_and]at e;simp[C,e,go_sem]
  .have E:decide (1000*(v+p.error)<n*x.lo+(1000-n)*y.lo)=true:=by simpa using c1
   have D:decide (n*x.lo+(1000-n)*y.lo<=1000*(v+p.error))=false:=by simpa using c1
   rw[D,Bool.false_and,Bool.false_and]at e;simp[ES,aD,E,e,go_sem]
def mV (ex:Int->Bool) (lo:Int):Nat->Option Span
 |0=>none
 |k+1=>if ex (lo+k)=true then(match mV ex lo k with|none=>some ⟨lo+k,lo+k⟩|some s=>some ⟨s.lo,lo+k⟩) else mV ex lo k
def O9(ex:Int->Bool)(lo:Int)(k:Nat):mV ex lo (k+1)=if ex (lo+k)=true then(match mV ex lo k with|none=>some ⟨lo+k,lo+k⟩|some s=>some ⟨s.lo,lo+k⟩) else mV ex lo k:=rfl
def E2(ex:Int->Bool)(lo:Int):∀k:Nat,match mV ex lo k with
  |some s=>(∀n,lo<=n->n<lo+k->ex n=true->s.lo<=n/\n<=s.hi)/\(ex s.lo=true/\lo<=s.lo/\s.lo<lo+k)/\ex s.hi=true/\lo<=s.hi/\s.hi<lo+k
  |none=>∀n,lo<=n->n<lo+k->ex n=false
 |0=>by
  rw[mV]
  intro n j A;omega
 |k+1=>by
  have e:=E2 ex lo k;rw[mV];by_cases u:ex (lo+k)=true
  .rw[if_pos u]
   cases v:mV ex lo k with
   |none=>
    rw[v]at e;dsimp only at e |-;refine⟨λn j A i=>?_,⟨u,by omega,by omega⟩,u,by omega,by omega⟩;by_cases l:n<lo+k
    .rw[e n j l]at i;cases i
    .omega
   |some s=>
    rw[v]at e;dsimp only at e |-;obtain⟨z,q,C⟩:=e;refine⟨λn j A i=>?_,⟨q.1,by omega,by omega⟩,u,by omega,by omega⟩;by_cases l:n<lo+k
    .have:=z n j l i;omega
    .have:=z s.lo q.2.1 q.2.2 q.1;omega
  .rw[if_neg u];have y:ex (lo+k)=false:=by simpa using u
   cases v:mV ex lo k with
   |none=>
    rw[v]at e;dsimp only at e |-;intro n j A;by_cases l:n<lo+k
    .exact e n j l
    .rw[show n=lo+k by omega];exact y
   |some s=>
    rw[v]at e;dsimp only at e |-;obtain⟨z,q,C⟩:=e;refine⟨λn j A i=>?_,⟨q.1,by omega,by omega⟩,C.1,by omega,by omega⟩;by_cases l:n<lo+k
    .exact z n j l i
    .rw[show n=lo+k by omega,y]at i;cases i
def pP:Option Span->Span
 |none=>⟨0,0⟩
 |some s=>s
def O' (o:Option Span):PV:=.tuple [(pP o).pv,.bool o.isSome]
attribute [go_sem] O'
def I5(t:WxTable)(rs:List Int)(i j:Nat)(a b:WxKind)(v:TableOk t)(l:rs.length=t.props.length)(q:rs.all fL=true)(A:t.kinds[i]?=some a)(z:t.kinds[j]?=some b) :
  af Tryz.prog 256 [t.pv,.slice 1 (rs.map ay) false,.int .i64 i,.int .i64 j,.int .i64 1,.int .i64 1000] (O' (mV (bC t.props a.props b.props rs) 1 1000)):=by
 refine ae (ag func256 rfl) rfl (zm ?_)
 refine dY [1,2,3,5,6,12,14] (σ:=Nat) (λk=>k<=1000) (λk=>1000-k)
  (λk=>[(15,.p (.bool (mV (bC t.props a.props b.props rs) 1 k).isSome)),(16,.p (.int .i64 (1+k)))]) (λk=>[.row 3 [.p t.pv],.row 2 [.p (.agg [.int .i64 0,.int .i64 0])],.row 2 [.p (pP (mV (bC t.props a.props b.props rs) 1 k)).pv]]) 0 (by decide) rfl ?_ ?_
 .refine zm ?_;rfl
 intro k C;rcases pI C with rfl|D
 .have u:decide ((1:Int)+((1000:Nat):Int)<=1000)=false:=rfl;generalize mV (bC t.props a.props b.props rs) 1 1000=o;simp[u,go_sem]
 have u:decide ((1:Int)+(k:Int)<=1000)=true:=by simp;omega
 have hw:i64.wrap (1+(k:Int)+1)=1+((k+1:Nat):Int):=by rw[ah];omega
 have e:=O9 (bC t.props a.props b.props rs) 1 k;refine zn u ?_
 (first|refine aa (AK t rs i j a b (1+(k:Int)) v l q A z (by omega)) rfl ?_|refine aj (AK t rs i j a b (1+(k:Int)) v l q A z (by omega)) rfl ?_)
 refine zm ?_;cases hx:bC t.props a.props b.props rs (1+(k:Int))
 .rw[hx,if_neg (by decide)]at e;refine zm ?_;refine aZ (k+1) (by omega) (by omega) ?_ ?_
  .simp[e,go_sem]
  .simp[e,hw,go_sem]
 .rw[hx,if_pos rfl]at e;refine zm ?_
  cases y:mV (bC t.props a.props b.props rs) 1 k with
  |none=>
   rw[y]at e;dsimp only at e;simp only[BW,uK,pP,go_sem,simprocAttr];refine aZ (k+1) (by omega) (by omega) ?_ ?_
   .simp[e,pP,go_sem]
   .simp[e,hw,q8,go_sem]
  |some s=>
   rw[y]at e;dsimp only at e;simp only[q8,Bool.not_true,pP,go_sem,simprocAttr];refine aZ (k+1) (by omega) (by omega) ?_ ?_
   .simp[e,pP,go_sem]
   .simp[e,hw,q8,go_sem]
def sm (t:WxTable) (rs:List Int) (a b:Nat) (n:Int):Bool:=match t.kinds[a]?,t.kinds[b]? with
 |some x,some y=>bC t.props x.props y.props rs n
 |_,_=>false
def Ht (t:WxTable) (rs:List Int) (q:Nat×Nat):Option Span:=mV (sm t rs q.1 q.2) 1 1000
def fR (t:WxTable) (rs:List Int) (kind:Nat) (q:Nat×Nat):Option Span:=(Ht t rs q).map (kf kind q)
def uN (many a b:Nat):List (Nat×Nat):=(List.range' b (many-b)).map λb=>(a,b)
def rg (many a:Nat):List (Nat×Nat):=(List.range' a (many-a)).flatMap λa=>uN many a 0
def Pe{e a b:Nat}(h:b<e):uN e a b=(a,b)::uN e a (b+1):=by
 unfold uN;rw[show e-b=(e-(b+1))+1 by omega,List.range'_succ,bf]
def R4{e a:Nat}:uN e a e=[]:=by simp[uN]
def MS{e a:Nat}(h:a<e):rg e a=uN e a 0++rg e (a+1):=by
 unfold rg;rw[show e-a=(e-(a+1))+1 by omega,List.range'_succ,mS]
def Pg{e:Nat}:rg e e=[]:=by simp[rg]
def Ph(e:Nat):rg e 0=lr e:=by
 simp[rg,uN,lr,List.range_eq_range']
def Hs(t:WxTable)(rs:List Int)(q:Nat×Nat):match Ht t rs q with
   |some s=>(∀n,1<=n->n<=1000->sm t rs q.1 q.2 n=true->s.lo<=n/\n<=s.hi)/\(sm t rs q.1 q.2 s.lo=true/\1<=s.lo/\s.lo<=1000)/\sm t rs q.1 q.2 s.hi=true/\1<=s.hi/\s.hi<=1000
   |none=>∀n,1<=n->n<=1000->sm t rs q.1 q.2 n=false:=by
 have:=E2 (sm t rs q.1 q.2) 1 1000;unfold Ht
 cases i:mV (sm t rs q.1 q.2) 1 1000 with
 |none=>rw[i]at this;dsimp only at this |-;exact λn e l=>this n e (by omega)
 |some s=>
  rw[i]at this;dsimp only at this |-;exact⟨λn e l j=>this.1 n e (by omega) j,⟨this.2.1.1,this.2.1.2.1,by omega⟩,this.2.2.1,this.2.2.2.1,by omega⟩
def Sn{t:WxTable}{rs:List Int}(q:Nat×Nat)(n:Int):((iQ t rs q).lo<=n/\n<=(iQ t rs q).hi)↔vu q n/\sm t rs q.1 q.2 n=true:=by
 unfold iQ sm
 cases l:t.kinds[q.1]? with
 |none=>simp;omega
 |some a=>
  cases j:t.kinds[q.2]? with
  |none=>simp;omega
  |some b=>
   dsimp only;rw[pg,rj];unfold vu;by_cases i:q.1=q.2
   .simp only[i,if_true];constructor
    .rintro⟨h,e⟩;exact⟨by omega,e⟩
    .rintro⟨h,e⟩;exact⟨by omega,e⟩
   .simp only[i,if_false]
def UX(t:WxTable)(rs:List Int)(kind:Nat)(u:TableOk t)(v:kind<t.kinds.length):joinL (fR t rs kind) (lr t.kinds.length) ⟨1001,-1⟩=MM t rs kind:=by
 have A:=Kb (sm t rs) kind (sp:=Ht t rs) (Hs t rs) t.kinds.length;have z:=Kc (sm t rs) kind (sp:=iQ t rs) (λq n=>Sn q n) t.kinds.length;have at_:∀a,a<t.kinds.length->∃x,t.kinds[a]?=some x/\x.props.length=t.props.length:=λa h=>⟨_,bL h,u.len _ (G9 h)⟩
 refine(eN.uniq z A (O8 (sm t rs) kind v ?_ ?_ ?_)).symm
 .intro a b n l j;obtain⟨x,hx,lx⟩:=at_ a l;obtain⟨y,i,e⟩:=at_ b j;simp only[sm,hx,i];exact xJ n _ _ _ _ (lx.trans e.symm)
 .intro a n m;unfold sm
  cases t.kinds[a]? with
  |none=>rfl
  |some x=>exact xK n m _ _ _
 .intro a b l j;obtain⟨x,hx,lx⟩:=at_ a l;obtain⟨y,i,e⟩:=at_ b j;simp only[sm,hx,i];exact yW _ _ _ _ (lx.trans e.symm)
def RR{kind:Nat}{q:Nat×Nat}{s:Span}(h:1<=s.lo/\s.lo<=1000/\1<=s.hi/\s.hi<=1000):0<=(kf kind q s).lo/\(kf kind q s).lo<=1000/\0<=(kf kind q s).hi/\(kf kind q s).hi<=1000:=by
 unfold kf;split
 .decide
 .unfold eH;split
  .omega
  .split<;>dsimp only<;>omega
def S8(t)(rs)(kind)(L:rs.length<1000000000):af Tryz.prog 191 [t.pv,.slice 1 (rs.map ay) false,.int .i64 kind] (.tuple [(bj t rs kind).1.pv,.int .i64 (bj t rs kind).2.1,.int .i64 (bj t rs kind).2.2]):=by
 refine ae (ag func191 rfl) rfl (zm ?_);refine aa (QQ t rs L) rfl (zm ?_);cases T:(cU t rs==0)
 .have l:¬cU t rs=0:=by simpa using T
  have a0:(cU t rs != 0)=true:=by simp[bne,T]
  simp[bj,if_neg l,a0,go_sem]
 have l:cU t rs=0:=by simpa using T
 obtain⟨M,I,J⟩:=ye l;have a2:=M.kinds;have hw:i64.wrap ((t.kinds.length:Int)-1)=(t.kinds.length:Int)-1:=ah;refine zn hw ?_;refine aa (xn _ _ _) rfl (zm ?_);cases S:aq kind 0 ((t.kinds.length:Int)-1)
 .simp[bj,l,S,go_sem]
 have hk:0<=kind/\kind<=(t.kinds.length:Int)-1:=by simpa[aq]using S
 obtain⟨k,rfl⟩:∃k:Nat,kind=(k:Int):=⟨kind.toNat,by omega⟩
 have V:bj t rs (k:Int)=jd t.purity (joinL (fR t rs k) (lr t.kinds.length) ⟨1001,-1⟩):=by
  rw[bj,if_pos l,if_pos S,UX t rs k M (by omega)];rfl
 rw[V];simp only[if_pos l,l,go_sem,simprocAttr]
 refine dl [1,2,3,6,10] (σ:=Nat×Span) (λq=>q.1<=t.kinds.length/\joinL (fR t rs k) (lr t.kinds.length) ⟨1001,-1⟩=joinL (fR t rs k) (rg t.kinds.length q.1) q.2/\lh q.2) (λq=>t.kinds.length-q.1)
  (λq=>[(11,.p (.int .i64 q.1))]) (λq=>[.row 3 [.p t.pv],.row 2 [.p (.agg [.int .i64 0,.int .i64 0])],.row 2 [.p q.2.pv]]) (0,⟨1001,-1⟩) ⟨cG _,by rw[Ph],by unfold lh;decide⟩ ?_ ?_
 .simp only[go_sem,simprocAttr]<;>simp
 rintro⟨a,p⟩ ⟨ha,j,A⟩
 dsimp only at ha j A;rcases pI ha with R|D
 .have E:decide ((a:Int)<(t.kinds.length:Int))=false:=by simp;omega
  rw[R,Pg,joinL]at j;rw[j];refine zn E ?_;cases c1:decide (p.hi<0);rotate_left
  .have i:p.hi<0:=by simpa using c1
   simp[jd,if_pos i,go_sem]
  have i:¬p.hi<0:=by simpa using c1
  refine zm ?_;cases v:decide (t.purity<=p.lo);rotate_left
  .have e:t.purity<=p.lo:=by simpa using v
   simp[jd,if_neg i,if_pos e,go_sem]
  have e:¬t.purity<=p.lo:=by simpa using v
  refine zm ?_;cases c3:decide (p.hi<t.purity)
  .have G:¬p.hi<t.purity:=by simpa using c3
   simp[jd,if_neg i,if_neg e,if_neg G,go_sem]
  .have G:p.hi<t.purity:=by simpa using c3
   simp[jd,if_neg i,if_neg e,if_pos G,go_sem]
 have E:decide ((a:Int)<(t.kinds.length:Int))=true:=by simp;omega
 have U:i64.wrap ((a:Int)+1)=((a+1:Nat):Int):=aO (by omega) (by simp[ai];omega) (by omega);rw[MS D]at j;obtain⟨x,hx⟩:∃x,t.kinds[a]?=some x:=⟨_,bL D⟩
 refine zn E ?_
 refine dl [1,2,3,6,10,11] (σ:=Nat×Span) (λq=>q.1<=t.kinds.length/\joinL (fR t rs k) (lr t.kinds.length) ⟨1001,-1⟩=joinL (fR t rs k) (uN t.kinds.length a q.1++rg t.kinds.length (a+1)) q.2/\lh q.2) (λq=>t.kinds.length-q.1)
  (λq=>[(12,.p (.int .i64 q.1))]) (λq=>[.row 3 [.p t.pv],.row 2 [.p (.agg [.int .i64 0,.int .i64 0])],.row 2 [.p q.2.pv]]) (0,p) ⟨cG _,j,A⟩ ?_ ?_
 .simp only[go_sem,simprocAttr]<;>simp
 clear j A
 rintro⟨b,p⟩ ⟨hb,j,A⟩
 dsimp only at hb j A;rcases pI hb with R|C
 .have F:decide ((b:Int)<(t.kinds.length:Int))=false:=by simp;omega
  rw[R,R4,jb]at j;refine zn F ?_;refine aF (a+1,p) ⟨by omega,j,A⟩ (by dsimp only;omega) ?_;simp[U,go_sem]
 have F:decide ((b:Int)<(t.kinds.length:Int))=true:=by simp;omega
 have z:i64.wrap ((b:Int)+1)=((b+1:Nat):Int):=aO (by omega) (by simp[ai];omega) (by omega);obtain⟨y,O⟩:∃y,t.kinds[b]?=some y:=⟨_,bL C⟩
 rw[Pe C,ga,joinL]at j;have X:Ht t rs (a,b)=mV (bC t.props x.props y.props rs) 1 1000:=by
  unfold Ht
  congr 1
  funext n;simp only[sm,hx,O]
 have K:=Hs t rs (a,b);rw[fR]at j;refine zn F ?_
 (first|refine aa (I5 t rs a b x y M I J hx O) rfl ?_|refine aj (I5 t rs a b x y M I J hx O) rfl ?_)
 rw[<-X]
 cases ho:Ht t rs (a,b) with
 |none=>
  rw[ho]at j;simp only[BW,pP,go_sem,simprocAttr];refine aF (b+1,p) ⟨by omega,j,A⟩ (by dsimp only;omega) ?_
  simp[z,go_sem]
 |some s=>
  rw[ho]at j K;dsimp only[Option.map_some]at j K;have Y:1<=s.lo/\s.lo<=1000/\1<=s.hi/\s.hi<=1000:=by omega
  have Z:=Eb A (RR (kind:=k) (q:=(a,b)) Y);have N:∀u:Span,kf k (a,b) s=u->joinL (fR t rs k) (lr t.kinds.length) ⟨1001,-1⟩=joinL (fR t rs k) (uN t.kinds.length a (b+1)++rg t.kinds.length (a+1)) (hZ p u)/\lh (hZ p u):=λu hu=>by rw[<-hu];exact⟨j,Z⟩
  have k1:((a:Int) != (k:Int))=!decide (k=a):=by rw[km];simp;omega
  have k2:((b:Int) != (k:Int))=!decide (k=b):=by rw[km];simp;omega
  have k3:((b:Int)==(k:Int))=decide (k=b):=by rw[km];simp;omega
  have k4:((a:Int)==(b:Int))=decide (a=b):=by rw[km];simp;omega
  have w1:i64.wrap (1000-s.hi)=1000-s.hi:=ah;have w2:i64.wrap (1000-s.lo)=1000-s.lo:=ah;by_cases c1:k=a
  .have i:decide (k=a)=true:=by simpa using c1
   by_cases v:k=b
   .have e:decide (k=b)=true:=by simpa using v
    have g:=N ⟨1000,1000⟩ (by unfold kf;rw[if_pos ⟨c1,v⟩]);simp only[q8,pP,k1,i,k3,e,Bool.not_true,go_sem,simprocAttr];refine aF (b+1,_) ⟨by omega,g⟩ (by dsimp only;omega) ?_;simp[z,hZ,go_sem]
   .have e:decide (k=b)=false:=by simpa using v
    have g:=N s (by unfold kf eH;rw[if_neg (λh=>v h.2),if_pos c1]);simp only[q8,pP,k1,i,k3,e,Bool.not_true,go_sem,simprocAttr];refine aF (b+1,_) ⟨by omega,g⟩ (by dsimp only;omega) ?_;simp[z,hZ,go_sem]
  have i:decide (k=a)=false:=by simpa using c1
  by_cases v:k=b
  .have e:decide (k=b)=true:=by simpa using v
   have a1:decide (a=b)=false:=by simp;omega
   have g:=N ⟨1000-s.hi,1000-s.lo⟩ (by unfold kf eH;rw[if_neg (λh=>c1 h.1),if_neg c1,if_pos v]);simp only[q8,pP,k1,i,k2,k4,a1,e,Bool.not_true,uK,w1,w2,go_sem,simprocAttr];refine aF (b+1,_) ⟨by omega,g⟩ (by dsimp only;omega) ?_;simp[z,hZ,go_sem]
  .have e:decide (k=b)=false:=by simpa using v
   have g:=N ⟨0,0⟩ (by unfold kf eH;rw[if_neg (λh=>c1 h.1),if_neg c1,if_neg v]);simp only[q8,pP,k1,i,k2,e,Bool.not_true,uK,go_sem,simprocAttr];refine aF (b+1,_) ⟨by omega,g⟩ (by dsimp only;omega) ?_;simp[z,hZ,go_sem]
end Wx
open Go.Proofs.Tryz renaming prog->TP
open Go.IntKind (i64)
namespace Wk
set_option maxRecDepth 4000
def Dh(lo hi n):af TP 133 [.int .i64 n,.ptr 1 [.int .i64 lo] 0 0,.ptr 1 [.int .i64 hi] 0 0] (.bool (!aq n lo hi)):=by
 refine ae (ag func133 rfl) rfl (zm ?_);refine aT (λe=>?_) (λe=>?_)<;>refine zn e ?_<;>simp_all [aq];rw[<-decide_not];congr 1;simp
def gk(lo hi)(l:List Int)(b)(e:l.length<1000000000):af TP 68 [.int .i64 lo,.int .i64 hi,.slice 1 (l.map ay) b] (.bool (l.any λn=>!aq n lo hi)):=by
 refine ae (ag func68 rfl) rfl (zm ?_);refine bq (lD (fv:=.func (.func 133) [] [.ptr 1 [.int .i64 lo] 0 0,.ptr 1 [.int .i64 hi] 0 0]) l (λn=>!aq n lo hi) b 1 rfl e λn _=>⟨_,_,_,rfl,Dh lo hi n⟩) ?_ (.bool _) ?_
 .simp[go_sem]
 .simp[go_sem]
def SZ(s:Span):af TP 134 [s.pv] (.bool (decide (s.hi<s.lo))):=by
 refine ae (ag func134 rfl) rfl ?_;simp[go_sem]
def z7(l:List Span)(b)(e:l.length<1000000000):af TP 69 [.slice 2 (l.map Span.pv) b] (.bool (l.any λs=>decide (s.hi<s.lo))):=by
 refine ae (ag func69 rfl) rfl (zm ?_);refine aa (qS (fv:=.func (.func 134) [] []) l (λs=>decide (s.hi<s.lo)) b 2 rfl e λs _=>⟨_,_,_,rfl,SZ s⟩) rfl ?_;simp[go_sem]
def zg(x:Wick):af TP 71 [x.pv] (.str x.name):=by
 refine ae (ag func71 rfl) rfl ?_;simp[go_sem]
def I9(s)(x:Wick):af TP 136 [x.pv,.ptr 1 [.func (.func 71) [] []] 0 0,.ptr 1 [.str s] 0 0] (.bool (x.name==s)):=by
 refine ae (ag func136 rfl) rfl (zm ?_);refine aj (zg x) rfl ?_;simp[go_sem]
def Es(l)(x)(b)(z:l.length<1000000):af TP 70 [.slice 4 ((l++[x]).map Wick.pv) b,.func (.func 71) [] []] (.int .i64 (ar (l.map (·.name)) x.name)):=by
 have hw:i64.wrap ((((l++[x]).length:Nat):Int)-1)=((l.length:Nat):Int):=by
  rw[ct (by simp<;>omega) (by simp[ai]<;>omega)];simp
 have hx:(l++[x])[l.length]?=some x:=by simp
 have q:((l.length:Nat):Int)<(((l++[x]).length:Nat):Int):=by simp<;>omega
 have u:((l.length:Nat):Int)<=(((l++[x]).length:Nat):Int):=by omega
 have j:((l++[x]).map Wick.pv).take l.length=l.map Wick.pv:=by rw[aS,eX (by simp)]
 have v:(l.length==(l++[x]).length)=false:=by simp
 refine ae (ag func70 rfl) rfl (zp hw hx q ?_);refine aj (zg x) rfl (zm ?_);refine aa (kY x.name) rfl (zm ?_);cases i:nameOk x.name
 .refine zm ?_;simp[ar,i]
 .simp only[u,zE,gY,j,v,go_sem,simprocAttr];refine bq (EB (fv:=.func (.func 136) [] [.ptr 1 [.func (.func 71) [] []] 0 0,.ptr 1 [.str x.name] 0 0]) l (λy=>y.name==x.name) false 4 rfl (by omega) λy _=>⟨_,_,_,rfl,I9 x.name y⟩) ?_ (.bool _) ?_
  .simp[go_sem]
  refine zm ?_;refine aT (λe=>?_) (λe=>?_)<;>refine zn e ?_
  .simp only[ar,i,oY,gS,e,if_true]
  .simp only[ar,i,oY,gS,e,if_true,fD,if_false]
def zf(x:Wax):af TP 73 [x.pv] (.str x.name):=by
 refine ae (ag func73 rfl) rfl ?_;simp[go_sem]
def I8(s)(x:Wax):af TP 138 [x.pv,.ptr 1 [.func (.func 73) [] []] 0 0,.ptr 1 [.str s] 0 0] (.bool (x.name==s)):=by
 refine ae (ag func138 rfl) rfl (zm ?_);refine aj (zf x) rfl ?_;simp[go_sem]
def Er(l)(x)(b)(z:l.length<1000000):af TP 72 [.slice 8 ((l++[x]).map Wax.pv) b,.func (.func 73) [] []] (.int .i64 (ar (l.map (·.name)) x.name)):=by
 have hw:i64.wrap ((((l++[x]).length:Nat):Int)-1)=((l.length:Nat):Int):=by
  rw[ct (by simp<;>omega) (by simp[ai]<;>omega)];simp
 have hx:(l++[x])[l.length]?=some x:=by simp
 have q:((l.length:Nat):Int)<(((l++[x]).length:Nat):Int):=by simp<;>omega
 have u:((l.length:Nat):Int)<=(((l++[x]).length:Nat):Int):=by omega
 have j:((l++[x]).map Wax.pv).take l.length=l.map Wax.pv:=by rw[aS,eX (by simp)]
 have v:(l.length==(l++[x]).length)=false:=by simp
 refine ae (ag func72 rfl) rfl (zp hw hx q ?_);refine aj (zf x) rfl (zm ?_);refine aa (kY x.name) rfl (zm ?_);cases i:nameOk x.name
 .refine zm ?_;simp[ar,i]
 .simp only[u,zE,gY,j,v,go_sem,simprocAttr];refine bq (EA (fv:=.func (.func 138) [] [.ptr 1 [.func (.func 73) [] []] 0 0,.ptr 1 [.str x.name] 0 0]) l (λy=>y.name==x.name) false 8 rfl (by omega) λy _=>⟨_,_,_,rfl,I8 x.name y⟩) ?_ (.bool _) ?_
  .simp[go_sem]
  refine zm ?_;refine aT (λe=>?_) (λe=>?_)<;>refine zn e ?_
  .simp only[ar,i,oY,gS,e,if_true]
  .simp only[ar,i,oY,gS,e,if_true,fD,if_false]
def zX(b)(e)(h):aw TP 67 [.p (.bool b),.p (.int .i64 e)] h (λr h'=>h'=h/\r=if b=true then .ret (.p (.tuple [])) else .panic (.iface 43 (.int .i64 e))):=by
 refine au (ag func67 rfl) rfl (zm ?_);cases b
 .simp[go_sem]
 .simp[go_sem]
def az{H}{Q}{ops}{rest}{dst}{A}{b}{e}(l:b=true->@WO ⟨TP,H,ops,rest,Q⟩ (A.put dst (.p (.tuple [])) A.h))
  (j:b=false->@WQ ⟨Q⟩ (.panic (.iface 43 (.int .i64 e))) A):@WF ⟨TP,H,ops,rest,Q,dst⟩ A 67 [.p (.bool b),.p (.int .i64 e)]:=by
 refine cZ (zX b e A.h) (λv h i=>?_) (λv h i=>?_)
 .obtain⟨rfl,i⟩:=i;cases b
  .cases i
  .cases i;exact l rfl
 .obtain⟨rfl,i⟩:=i;cases b
  .cases i;exact j rfl
  .cases i
def IY{id}{e j}{h}(i:h[id]?=some (.row 1 [.p (.int .i64 j)])):lk TP 66 [.ptr id 1 0 0] (.pan (.iface 43 (.int .i64 e))) h
  (λr u h'=>r=.ret (.p (.tuple []))/\u=.recd (.iface 43 (.int .i64 e))/\h'=h.set id (.row 1 [.p (.int .i64 e)])):=by
 refine ii (ag func66 rfl) rfl ?_;simp[pS,j0,i,go_sem]
def Qt{id}{h}:lk TP 66 [.ptr id 1 0 0] .ret h (λr u h'=>r=.ret (.p (.tuple []))/\u=.ret/\h'=h):=by
 refine ii (ag func66 rfl) rfl ?_;simp[pS,j0,go_sem]
def eb{rs}{R}{T}{id}{e l}{h}(i:h[id]?=some (.row 1 [.p (.int .i64 l)]))(k:cW TP rs R T [] .ret (h.set id (.row 1 [.p (.int .i64 e)]))) :
  cW TP rs R T [.fn 66 [.ptr id 1 0 0]] (.pan (.iface 43 (.int .i64 e))) h:=by
 rw[l7];refine(IY i).mono λr u h' j=>?_;obtain⟨rfl,rfl,rfl⟩:=j;exact k
def Bo{rs}{R}{T}{id}{h}(k:cW TP rs R T [] .ret h):cW TP rs R T [.fn 66 [.ptr id 1 0 0]] .ret h:=by
 rw[l7];refine Qt.mono λr u h' e=>?_;obtain⟨rfl,rfl,rfl⟩:=e;exact k
def cm (s:Span) (lo hi:Int):Bool:=aq s.lo lo hi&&aq s.hi lo hi
def aL (s:Span):Bool:=decide (s.hi<s.lo)
def cY (before:List ByteArray) (x:Wick):Int:=
 if ar before x.name=0 then(if(aq x.threads 1 100&&cm x.pull 1 1000)=true then(if aL x.pull=true then 2 else 0) else 7) else ar before x.name
def eA (before:List ByteArray) (x:Wax):Int:=
 if ar before x.name=0 then(if(aq x.chill 0 50&&cm x.flow 1 300&&(cm x.rise 1 1000&&cm x.spread 1 2000))=true then(if(aL x.flow||(aL x.rise||aL x.spread))=true then 2 else 0) else 7) else ar before x.name
def eG (s:Shop):Option (Int×Int)->Int×Int×Int
 |some (i,e)=>(2,i,e)
 |none=>match firstErr eA (·.name) s.waxes []with|some (i,e)=>(3,i,e)|none=>(0,0,0)
def cN (s:Shop):Int×Int×Int:=
 if(aq s.wicks.length 1 12&&aq s.waxes.length 1 6)=true then
  if(cm s.flame 0 2000&&cm s.pool 0 2000)=true then
   if(aL s.flame||aL s.pool)=true then(1,0,2) else eG s (firstErr cY (·.name) s.wicks [])
  else(1,0,7)
 else(1,0,3)
def rY(s):af TP 22 [s.pv] (ao (cN s)):=by
 refine ae (ag func22 rfl) rfl (zm ?_);refine aa (gk 1 12 [_] true (by simp)) rfl ?_;simp only[bZ,cO,dd,qz,go_sem,simprocAttr];cases O:aq s.wicks.length 1 12
 .refine zm ?_;refine az (λh=>(by cases h)) λ_=>?_;refine zm ?_;refine eb rfl ?_;simp[ao,cN,O,go_sem]
 refine zm ?_;refine aa (gk 1 6 [_] true (by simp)) rfl ?_;simp only[bZ,cO,dd,qz,go_sem,simprocAttr];refine az (λN=>?_) λN=>?_;rotate_left
 .refine zm ?_;refine eb rfl ?_;simp[ao,cN,O,N,go_sem]
 refine zm ?_;refine aa (gk 0 2000 [_,_,_,_] true (by simp)) rfl ?_;simp only[bZ,cO,dd,<-mT,qz,go_sem,simprocAttr];refine az (λX=>?_) λX=>?_;rotate_left
 .refine zm ?_;refine eb rfl ?_;have D:(cm s.flame 0 2000&&cm s.pool 0 2000)=false:=by rw[<-X];simp[cm,Bool.and_assoc]
  simp[ao,cN,O,N,D,go_sem]
 have D:(cm s.flame 0 2000&&cm s.pool 0 2000)=true:=by rw[<-X];simp[cm,Bool.and_assoc]
 refine zm ?_;refine aa (z7 [s.flame,s.pool] true (by simp)) rfl ?_;simp only[bZ,cO,dd,go_sem,simprocAttr];refine az (λV=>?_) λV=>?_;rotate_left
 .refine zm ?_;refine eb rfl ?_;have L:(aL s.flame||aL s.pool)=true:=(by have:=congrArg (!·) V;simpa only[aL,qz,uK]using this)
  simp[ao,cN,O,N,D,L,go_sem]
 have L:(aL s.flame||aL s.pool)=false:=by simpa[aL]using V
 have M:cN s=eG s (firstErr cY (·.name) s.wicks []):=by
  simp[cN,O,N,D,L]
 rw[M];have a0:s.wicks.length<=12:=by simp[aq]at O;omega
 have Z:s.waxes.length<=6:=by simp[aq]at N;omega
 refine zm ?_
 refine dl [1,2,4,50,51] (σ:=List Wick×List Wick) (λq=>s.wicks=q.1++q.2/\firstErr cY (·.name) s.wicks []=firstErr cY (·.name) q.2 (q.1.map (·.name))) (λq=>q.2.length)
  (λq=>[(52,.p (.int .i64 q.1.length))]) (λ_=>[.row 6 [.p s.pv],.row 1 [.p (.int .i64 0)]]) ([],s.wicks) ⟨rfl,rfl⟩ ?_ ?_
 .simp only[go_sem,simprocAttr]<;>simp
 rintro⟨d_,rest⟩ ⟨u,E⟩
 dsimp only at u E
 cases rest with
 |cons x r=>
  obtain⟨hx,l⟩:=ca u;have J:(d_++[x]).length<=s.wicks.length:=by rw[u];simp
  have Y:d_.length<12:=by simp at J;omega
  have z:i64.wrap ((d_.length:Int)+1)=(((d_++[x]).length:Nat):Int):=aO (by omega) (by simp[ai];omega) (by simp);have K:(((d_++[x]).length:Nat):Int)<=(s.wicks.length:Int):=by omega
  have G:(s.wicks.map Wick.pv).take (d_++[x]).length=(d_++[x]).map Wick.pv:=by
   rw[u,show d_++x::r=(d_++[x])++r by simp,aS,eX (by simp)]
  have R:firstErr cY (·.name) s.wicks []=if cY (d_.map (·.name)) x=0 then firstErr cY (·.name) r ((d_++[x]).map (·.name)) else some ((d_.length:Int),cY (d_.map (·.name)) x):=by
   rw[E,firstErr];simp
  have j:∀e,cY (d_.map (·.name)) x=e->e≠0->eG s (firstErr cY (·.name) s.wicks [])=(2,(d_.length:Int),e):=by
   intro e U I;rw[R,U,if_neg I];rfl
  simp only[l,decide_true,hx,z,K,zE,gY,G,go_sem,simprocAttr];refine aa (Es d_ x false (by omega)) rfl (zm ?_);refine az (λF=>?_) λF=>?_;rotate_left
  .refine zm ?_;refine eb rfl ?_;have i:ar (d_.map (·.name)) x.name≠0:=by simpa using F
   simp only[ao,j _ (by rw[cY,if_neg i]) i,go_sem,simprocAttr]
  have i:ar (d_.map (·.name)) x.name=0:=by simpa using F
  refine zm ?_;refine aa (gk 1 100 [_] true (by simp)) rfl ?_;simp only[bZ,cO,dd,qz,go_sem,simprocAttr];cases y:aq x.threads 1 100
  .refine zm ?_;refine az (λh=>(by cases h)) λ_=>?_;refine zm ?_;refine eb rfl ?_;simp only[ao,j 7 (by simp[cY,i,y]) (by decide),go_sem,simprocAttr]
  refine zm ?_;refine aa (gk 1 1000 [_,_] true (by simp)) rfl ?_;simp only[bZ,cO,dd,<-mT,qz,go_sem,simprocAttr];refine az (λv=>?_) λv=>?_;rotate_left
  .refine zm ?_;refine eb rfl ?_;simp only[ao,j 7 (by simp[cY,i,y,cm,v]) (by decide),go_sem,simprocAttr]
  refine zm ?_;refine aa (z7 [x.pull] true (by simp)) rfl ?_;simp only[bZ,cO,dd,go_sem,simprocAttr];refine az (λC=>?_) λC=>?_;rotate_left
  .refine zm ?_;refine eb rfl ?_;simp only[ao,j 2 (by simp only[Bool.not_eq_false']at C;simp[cY,i,y,cm,v,aL,C]) (by decide),go_sem,simprocAttr]
  refine zm ?_;refine aF (d_++[x],r) ⟨by simp[u],?_⟩ (by simp) ?_
  .rw[R,if_pos];simp only[DG]at C;simp[cY,i,y,cm,v,aL,C]
  .simp[z,i,go_sem]
 |nil=>
  have l:¬((d_.length:Int)<(s.wicks.length:Int)):=by rw[u];simp
  have S:eG s (firstErr cY (·.name) s.wicks [])=eG s none:=by rw[E];rfl
  rw[S];refine zo l decide_false ?_
  refine dl [1,2,4,93,94] (σ:=List Wax×List Wax) (λq=>s.waxes=q.1++q.2/\firstErr eA (·.name) s.waxes []=firstErr eA (·.name) q.2 (q.1.map (·.name))) (λq=>q.2.length)
   (λq=>[(95,.p (.int .i64 q.1.length))]) (λ_=>[.row 6 [.p s.pv],.row 1 [.p (.int .i64 0)]]) ([],s.waxes) ⟨rfl,rfl⟩ ?_ ?_
  .simp only[go_sem,simprocAttr]<;>simp
  clear u E l S
  rintro⟨d_,rest⟩ ⟨u,E⟩
  dsimp only at u E
  cases rest with
  |cons x r=>
   obtain⟨hx,l⟩:=ca u;have J:(d_++[x]).length<=s.waxes.length:=by rw[u];simp
   have Y:d_.length<12:=by simp at J;omega
   have z:i64.wrap ((d_.length:Int)+1)=(((d_++[x]).length:Nat):Int):=aO (by omega) (by simp[ai];omega) (by simp);have K:(((d_++[x]).length:Nat):Int)<=(s.waxes.length:Int):=by omega
   have G:(s.waxes.map Wax.pv).take (d_++[x]).length=(d_++[x]).map Wax.pv:=by
    rw[u,show d_++x::r=(d_++[x])++r by simp,aS,eX (by simp)]
   have R:firstErr eA (·.name) s.waxes []=if eA (d_.map (·.name)) x=0 then firstErr eA (·.name) r ((d_++[x]).map (·.name)) else some ((d_.length:Int),eA (d_.map (·.name)) x):=by
    rw[E,firstErr];simp
   have j:∀e,eA (d_.map (·.name)) x=e->e≠0->eG s none=(3,(d_.length:Int),e):=by
    intro e U I;simp only[eG];rw[R,U,if_neg I]
   simp only[l,decide_true,hx,z,K,zE,gY,G,go_sem,simprocAttr];refine aa (Er d_ x false (by omega)) rfl (zm ?_);refine az (λF=>?_) λF=>?_;rotate_left
   .refine zm ?_;refine eb rfl ?_;have i:ar (d_.map (·.name)) x.name≠0:=by simpa using F
    simp only[ao,j _ (by rw[eA,if_neg i]) i,go_sem,simprocAttr]
   have i:ar (d_.map (·.name)) x.name=0:=by simpa using F
   refine zm ?_;refine aa (gk 0 50 [_] true (by simp)) rfl ?_;simp only[bZ,cO,dd,qz,go_sem,simprocAttr];cases y:aq x.chill 0 50
   .refine zm ?_;refine az (λh=>(by cases h)) λ_=>?_;refine zm ?_;refine eb rfl ?_;simp only[ao,j 7 (by simp[eA,i,y]) (by decide),go_sem,simprocAttr]
   refine zm ?_;refine aa (gk 1 300 [_,_] true (by simp)) rfl ?_;simp only[bZ,cO,dd,<-mT,qz,go_sem,simprocAttr];refine az (λv=>?_) λv=>?_;rotate_left
   .refine zm ?_;refine eb rfl ?_;simp only[ao,j 7 (by simp[eA,i,y,cm,v]) (by decide),go_sem,simprocAttr]
   refine zm ?_;refine aa (gk 1 1000 [_,_] true (by simp)) rfl ?_;simp only[bZ,cO,dd,<-mT,qz,go_sem,simprocAttr];cases C:(aq x.rise.lo 1 1000&&aq x.rise.hi 1 1000)
   .refine zm ?_;refine az (λh=>(by cases h)) λ_=>?_;refine zm ?_;refine eb rfl ?_;simp only[ao,j 7 (by simp[eA,i,y,cm,v,C]) (by decide),go_sem,simprocAttr]
   refine zm ?_;refine aa (gk 1 2000 [_,_] true (by simp)) rfl ?_;simp only[bZ,cO,dd,<-mT,qz,go_sem,simprocAttr];refine az (λT=>?_) λT=>?_;rotate_left
   .refine zm ?_;refine eb rfl ?_;simp only[ao,j 7 (by simp[eA,i,y,cm,v,C,T]) (by decide),go_sem,simprocAttr]
   refine zm ?_;refine aa (z7 [x.flow,x.rise,x.spread] true (by simp)) rfl ?_;simp only[bZ,cO,dd,go_sem,simprocAttr];refine az (λA=>?_) λA=>?_;rotate_left
   .refine zm ?_;refine eb rfl ?_;simp only[ao,j 2 (by simp only[Bool.not_eq_false']at A;simp only[eA,i,y,cm,v,C,T,aL,A,tj,if_true]) (by decide),go_sem,simprocAttr]
   refine zm ?_;refine aF (d_++[x],r) ⟨by simp[u],?_⟩ (by simp) ?_
   .rw[R,if_pos];simp only[DG]at A;simp only[eA,i,y,cm,v,C,T,aL,A,tj,if_true,fD,if_false]
   .simp[z,i,go_sem]
  |nil=>
   have l:¬((d_.length:Int)<(s.waxes.length:Int)):=by rw[u];simp
   refine zo l decide_false ?_;refine Bo ?_;have S:eG s none=(0,0,0):=by
    simp only[eG];rw[E];rfl
   simp[ao,S,go_sem]
def nI(s)(a b):ec s.lo s.hi a b=if cm s a b=true then(if aL s=true then 2 else 0) else 7:=by
 unfold ec cm aL;cases aq s.lo a b<;>cases aq s.hi a b<;>simp
def lp:List (Span×Int×Int)->Int->Int
 |[],w=>w
 |q::r,w=>lp r (if(ec q.1.lo q.1.hi q.2.1 q.2.2==7||w==0)=true then ec q.1.lo q.1.hi q.2.1 q.2.2 else w)
def QF(l)(C A z)(D:l.length<1000000) :
  af TP 89 [.slice 2 (l.map λq=>q.1.pv) C,.slice 1 (l.map λq=>ay q.2.1) A,.slice 1 (l.map λq=>ay q.2.2) z] (.int .i64 (lp l 0)):=by
 refine ae (ag func89 rfl) rfl (zm ?_);refine mR [0,1,2] (σ:=List (Span×Int×Int)×List (Span×Int×Int)×Int) (λq=>l=q.1++q.2.1/\lp l 0=lp q.2.1 q.2.2) (λq=>q.2.1.length) (λq=>[(7,.p (.int .i64 q.2.2)),(8,.p (.int .i64 q.1.length))]) ([],l,0) ⟨rfl,rfl⟩ ?_ ?_
 .simp only[go_sem,simprocAttr]<;>simp
 rintro⟨d_,rest,w⟩ ⟨u,j⟩
 dsimp only at u j
 cases rest with
 |nil=>
  have i:¬((d_.length:Int)<(l.length:Int)):=by rw[u];simp
  refine zo i decide_false ?_
  rw[j];rfl
 |cons x r=>
  obtain⟨hx,i⟩:=ca u;have e:i64.wrap ((d_.length:Int)+1)=(((d_++[x]).length:Nat):Int):=aO (by omega) (by simp[ai];omega) (by simp);rw[lp]at j;refine zp i decide_true hx ?_;refine aj (oc _ _ _ _) rfl (zm ?_);cases v:(ec x.1.lo x.1.hi x.2.1 x.2.2==7)
  .refine zm ?_;cases y:(w==0)
   .refine zm ?_;refine aF (d_++[x],r,w) ⟨by simp[u],by rw[j,v,y];rfl⟩ (by simp) ?_;simp[e,go_sem]
   .refine zm ?_;refine aF (d_++[x],r,ec x.1.lo x.1.hi x.2.1 x.2.2) ⟨by simp[u],by rw[j,v,y];rfl⟩ (by simp) ?_;simp[e,go_sem]
  .refine zm ?_;refine aF (d_++[x],r,ec x.1.lo x.1.hi x.2.1 x.2.2) ⟨by simp[u],by rw[j,v];rfl⟩ (by simp) ?_;simp[e,go_sem]
def XC(a b)(i y1 e y2):lp [(a,i,y1),(b,e,y2)] 0=if(cm a i y1&&cm b e y2)=true then(if(aL a||aL b)=true then 2 else 0) else 7:=by
 simp only[lp,nI];cases cm a i y1<;>cases cm b e y2<;>cases aL a<;>cases aL b<;>rfl
def XB(a b c)(j y1 i y2 e y3):lp [(a,j,y1),(b,i,y2),(c,e,y3)] 0 =
  if(cm a j y1&&(cm b i y2&&cm c e y3))=true then(if(aL a||(aL b||aL c))=true then 2 else 0) else 7:=by
 simp only[lp,nI];cases cm a j y1<;>cases cm b i y2<;>cases cm c e y3<;>cases aL a<;>cases aL b<;>cases aL c<;>rfl
def lN(s):af TP 27 [s.pv] (ao (cN s)):=by
 refine ae (ag func27 rfl) rfl (zm ?_);refine aa (BG _ _ _) rfl (zm ?_);cases I:aq s.wicks.length 1 12
 .simp[ao,cN,I,go_sem]
 refine zm ?_;refine aa (BG _ _ _) rfl (zm ?_);cases M:aq s.waxes.length 1 6
 .simp[ao,cN,I,M,go_sem]
 refine zm ?_;refine aa (QF [(s.flame,0,2000),(s.pool,0,2000)] true true true (by simp)) rfl (zm ?_);rw[XC];cases R:(cm s.flame 0 2000&&cm s.pool 0 2000)
 .simp[ao,cN,I,M,R,go_sem]
 cases T:(aL s.flame||aL s.pool)
 rotate_left
 .simp[ao,cN,I,M,R,T,go_sem]
 have F:cN s=eG s (firstErr cY (·.name) s.wicks []):=by
  simp[cN,I,M,R,T]
 rw[F];have V:s.wicks.length<=12:=by simp[aq]at I;omega
 have U:s.waxes.length<=6:=by simp[aq]at M;omega
 refine zm ?_;refine bt 6 1 (by simp only[go_sem,simprocAttr]) (zm ?_)
 refine dl [1] (σ:=List Wick×List Wick) (λq=>s.wicks=q.1++q.2/\firstErr cY (·.name) s.wicks []=firstErr cY (·.name) q.2 (q.1.map (·.name))) (λq=>q.2.length)
  (λq=>[(6,.slice 1 q.1.length 0 q.1.length),(7,.p (.int .i64 q.1.length))]) (λq=>[.row 6 [.p s.pv],.row 1 (q.1.map λx=>.p (.str x.name))]) ([],s.wicks) ⟨rfl,rfl⟩ ?_ ?_
 .simp only[go_sem,simprocAttr]<;>simp
 rintro⟨d_,rest⟩ ⟨u,y⟩
 dsimp only at u y
 cases rest with
 |cons x r=>
  obtain⟨hx,j⟩:=ca u;have D:(d_++[x]).length<=s.wicks.length:=by rw[u];simp
  have S:d_.length<12:=by simp at D;omega
  have A:i64.wrap ((d_.length:Int)+1)=(((d_++[x]).length:Nat):Int):=aO (by omega) (by simp[ai];omega) (by simp);have z:d_.length+1<=ai:=by simp[ai];omega
  have J:firstErr cY (·.name) s.wicks []=if cY (d_.map (·.name)) x=0 then firstErr cY (·.name) r ((d_++[x]).map (·.name)) else some ((d_.length:Int),cY (d_.map (·.name)) x):=by
   rw[y,firstErr];simp
  have l:∀e,cY (d_.map (·.name)) x=e->e≠0->eG s (firstErr cY (·.name) s.wicks [])=(2,(d_.length:Int),e):=by
   intro e O C;rw[J,O,if_neg C];rfl
  refine zp j decide_true hx ?_;refine bq (kQ x.name (d_.map (·.name)) false (d_.map λx=>.str x.name) (by simp) (by simp;omega)) ?_ (.int _ _) ?_
  .simp[go_sem]
  refine zn z ?_;cases v:(ar (d_.map (·.name)) x.name==0)
  .have i:ar (d_.map (·.name)) x.name≠0:=by simpa using v
   have E:(ar (d_.map (·.name)) x.name != 0)=true:=by simp[bne,v]
   simp only[v,E,ao,l _ (by rw[cY,if_neg i]) i,go_sem,simprocAttr]
  have i:ar (d_.map (·.name)) x.name=0:=by simpa using v
  refine zm ?_;refine aa (BG _ _ _) rfl (zm ?_);cases L:aq x.threads 1 100
  .simp only[ao,l 7 (by simp[cY,i,L]) (by decide),go_sem,simprocAttr]
  refine zn v ?_;refine aa (oc _ _ _ _) rfl (zm ?_);have hw:cY (d_.map (·.name)) x=ec x.pull.lo x.pull.hi 1 1000:=by rw[nI];simp[cY,i,L]
  cases K:(ec x.pull.lo x.pull.hi 1 1000 != 0)
  .refine zm ?_;refine aF (d_++[x],r) ⟨by simp[u],?_⟩ (by simp) ?_
   .rw[J,if_pos];rw[hw];simpa using K
   .simp only[A,ak,aS,go_sem,simprocAttr]
  .simp[ao,l _ hw (by simpa using K),go_sem]
 |nil=>
  have j:¬((d_.length:Int)<(s.wicks.length:Int)):=by rw[u];simp
  have N:eG s (firstErr cY (·.name) s.wicks [])=eG s none:=by rw[y];rfl
  have G:d_=s.wicks:=by rw[u];simp
  rw[N];refine zo j decide_false ?_;refine bt 6 1 (by simp only[go_sem,simprocAttr]) (zm ?_)
  refine dl [1] (σ:=List Wax×List Wax) (λq=>s.waxes=q.1++q.2/\firstErr eA (·.name) s.waxes []=firstErr eA (·.name) q.2 (q.1.map (·.name))) (λq=>q.2.length)
   (λq=>[(6,.slice 2 q.1.length 0 q.1.length),(9,.p (.int .i64 q.1.length))]) (λq=>[.row 6 [.p s.pv],.row 1 (d_.map λx=>.p (.str x.name)),.row 1 (q.1.map λx=>.p (.str x.name))]) ([],s.waxes) ⟨rfl,rfl⟩ ?_ ?_
  .simp only[go_sem,simprocAttr]<;>simp
  generalize d_=X;clear u y j N G
  rintro⟨d_,rest⟩ ⟨u,y⟩
  dsimp only at u y
  cases rest with
  |cons x r=>
   obtain⟨hx,j⟩:=ca u;have D:(d_++[x]).length<=s.waxes.length:=by rw[u];simp
   have S:d_.length<12:=by simp at D;omega
   have A:i64.wrap ((d_.length:Int)+1)=(((d_++[x]).length:Nat):Int):=aO (by omega) (by simp[ai];omega) (by simp);have z:d_.length+1<=ai:=by simp[ai];omega
   have J:firstErr eA (·.name) s.waxes []=if eA (d_.map (·.name)) x=0 then firstErr eA (·.name) r ((d_++[x]).map (·.name)) else some ((d_.length:Int),eA (d_.map (·.name)) x):=by
    rw[y,firstErr];simp
   have l:∀e,eA (d_.map (·.name)) x=e->e≠0->eG s none=(3,(d_.length:Int),e):=by
    intro e O C;simp only[eG];rw[J,O,if_neg C]
   refine zp j decide_true hx ?_;refine bq (kQ x.name (d_.map (·.name)) false (d_.map λx=>.str x.name) (by simp) (by simp;omega)) ?_ (.int _ _) ?_
   .simp[go_sem]
   refine zn z ?_;cases v:(ar (d_.map (·.name)) x.name==0)
   .have i:ar (d_.map (·.name)) x.name≠0:=by simpa using v
    have E:(ar (d_.map (·.name)) x.name != 0)=true:=by simp[bne,v]
    simp only[v,E,ao,l _ (by rw[eA,if_neg i]) i,go_sem,simprocAttr]
   have i:ar (d_.map (·.name)) x.name=0:=by simpa using v
   refine zm ?_;refine aa (BG _ _ _) rfl (zm ?_);cases L:aq x.chill 0 50
   .simp only[ao,l 7 (by simp[eA,i,L]) (by decide),go_sem,simprocAttr]
   refine zn v ?_;refine aa (QF [(x.flow,1,300),(x.rise,1,1000),(x.spread,1,2000)] true true true (by simp)) rfl (zm ?_);have hw:eA (d_.map (·.name)) x=lp [(x.flow,1,300),(x.rise,1,1000),(x.spread,1,2000)] 0:=by rw[XB];simp[eA,i,L]
   cases K:(lp [(x.flow,1,300),(x.rise,1,1000),(x.spread,1,2000)] 0 != 0)
   .refine zm ?_;refine aF (d_++[x],r) ⟨by simp[u],?_⟩ (by simp) ?_
    .rw[J,if_pos];rw[hw];simpa using K
    .simp only[A,ak,aS,go_sem,simprocAttr]
   .simp[ao,l _ hw (by simpa using K),go_sem]
  |nil=>
   have j:¬((d_.length:Int)<(s.waxes.length:Int)):=by rw[u];simp
   refine zo j decide_false ?_;have N:eG s none=(0,0,0):=by
    simp only[eG];rw[y];rfl
   simp[ao,N,go_sem]
end Wk
end Abs
end Go.Proofs.YtgafommgcfhkkaaGreatDoor
