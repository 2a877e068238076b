/- CONTRACTS of the program's functions, and laws on what they return. No conditions but those in the theorems' heads. -/
import Derived.Test.YtoapoaoelpcniaaGreatDoorWxSoldX
set_option linter.all false
open Go.Proofs.Tryz renaming prog->TP
namespace Go.Proofs.YtoapoaoelpcniaaGreatDoor
namespace Abs
namespace Wx
set_option maxRecDepth 4000
theorem N3(s):dI s.lo s.hi 0 100000=if ni s=true then(if decide (s.hi<s.lo)=true then 2 else 0) else 7:=by
 unfold dI ni;cases ar s.lo 0 100000<;>cases ar s.hi 0 100000<;>simp
def rl (w:Int) (l:List Span):Int:=if(l.any λs=>!ni s)=true then 7 else if(l.any λs=>decide (s.hi<s.lo))=true then 2 else w
theorem KR{w}{s}{l}(hv:ni s=true):rl w (s::l)=rl (if decide (s.hi<s.lo)=true then 2 else w) l:=by
 unfold rl;rw[cV,cV,hv];cases decide (s.hi<s.lo)<;>cases (l.any λs=>!ni s)<;>cases (l.any λs=>decide (s.hi<s.lo))<;>simp
theorem Kd(l)(many:Nat)(hm:many<1000000000):af TP 73 [.slice 2 (l.map Span.pv) false,.int .i64 many] (.int .i64 (if l.length=many then rl 0 l else 3)):=by
 refine aa (ah Tryz.func73 rfl (by kernel_rfl)) rfl ?_;simp only[go_sem,simprocAttr];cases h1:((l.length:Int) != (many:Int))
 rotate_left
 .have h1':¬l.length=many:=by simp at h1;omega
  simp only[if_neg h1',go_sem,simprocAttr]
 have h1':l.length=many:=by simp at h1;omega
 rw[if_pos h1',<-h1'];simp only[go_sem,simprocAttr];refine aQ [0,1] l (by omega) (τ:=Int) (λdone rest w=>rl 0 l=rl w rest) (λdone w=>[(5,.p (.int .i64 w)),(6,.p (.int .i64 done.length))]) (λ_ _=>[]) 0 rfl ?_ ?_ ?_
 .simp only[go_sem,simprocAttr]<;>simp
 .intro w e2;simp only[go_sem,simprocAttr];rw[e2];rfl
 .intro done s r w e1 e2 hx hlt hnx;simp only[hlt,hx,go_sem,simprocAttr];refine ae (p9 _ _ _ _) rfl ?_;rw[N3];cases hv:ni s
  .have:rl w (s::r)=7:=by rw[rl,cV,hv];rfl
   rw[this]at e2;simp only[e2,go_sem,simprocAttr]
  .rw[KR hv]at e2;cases hc:decide (s.hi<s.lo)
   .rw[hc]at e2;simp only[go_sem,simprocAttr];refine ak e1 w e2 ?_;simp only[hnx,go_sem,simprocAttr]
   .rw[hc]at e2;simp only[go_sem,simprocAttr];refine ak e1 2 e2 ?_;simp only[hnx,go_sem,simprocAttr]
theorem Cz(many)(k):fW many k=if k.props.length=many then rl 0 k.props else 3:=rfl
set_option maxHeartbeats 2000000 in
theorem nW(t):af TP 40 [t.pv] (al (wxCheck t)):=by
 refine aa (ah Tryz.func40 rfl (by kernel_rfl)) rfl ?_;simp only[go_sem,simprocAttr];refine ae (xR _ _ _) rfl ?_;simp only[go_sem,simprocAttr];cases h1:ar t.props.length 1 5
 .simp only[al,wxCheck,h1,go_sem,simprocAttr]
 simp only[go_sem,simprocAttr];refine ae (xR _ _ _) rfl ?_;simp only[go_sem,simprocAttr];cases h2:ar t.kinds.length 1 8
 .simp only[al,wxCheck,h1,h2,go_sem,simprocAttr]
 simp only[go_sem,simprocAttr];refine ae (xR _ _ _) rfl ?_;simp only[go_sem,simprocAttr];cases h3:ar t.purity 1 1000
 .simp only[al,wxCheck,h1,h2,h3,go_sem,simprocAttr]
 have hspec:wxCheck t=tail t (firstErr cU (·.name) t.props []):=by simp only[wxCheck,h1,h2,h3,nY,if_true]
 rw[hspec];have hlp:t.props.length<=5:=by simp[ar]at h1;omega
 have hlk:t.kinds.length<=8:=by simp[ar]at h2;omega
 simp only[go_sem,simprocAttr];refine cl 5 1 (by simp only[go_sem,simprocAttr]) ?_;simp only[go_sem,simprocAttr]
 refine aQ [1] t.props (by omega) (τ:=Unit) (λdone rest _=>firstErr cU (·.name) t.props []=firstErr cU (·.name) rest (done.map (·.name)))
  (λdone _=>[(5,.slice 1 done.length 0 done.length),(6,.p (.int .i64 done.length))]) (λdone _=>[.row 3 [.p t.pv],.row 1 (done.map λx=>.p (.str x.name))]) () rfl ?_ ?_ ?_
 .simp only[go_sem,simprocAttr]<;>simp
 .intro _ e2;have hT:tail t (firstErr cU (·.name) t.props [])=tail t none:=by rw[e2];rfl
  rw[hT];simp only[go_sem,simprocAttr];refine cl 5 1 (by simp only[go_sem,simprocAttr]) ?_;simp only[go_sem,simprocAttr]
  refine aQ [1] t.kinds (by omega) (τ:=Unit) (λdone rest _=>firstErr (kindErr t.props.length) (·.name) t.kinds []=firstErr (kindErr t.props.length) (·.name) rest (done.map (·.name)))
   (λdone _=>[(5,.slice 2 done.length 0 done.length),(8,.p (.int .i64 done.length))]) (λdone _=>[.row 3 [.p t.pv],.row 1 (t.props.map λx=>.p (.str x.name)),.row 1 (done.map λx=>.p (.str x.name))]) () rfl ?_ ?_ ?_
  .simp only[go_sem,simprocAttr]<;>simp
  .intro _ e2;have hT:tail t none=(0,0,0):=by
    simp only[tail];rw[e2];rfl
   simp only[al,hT,go_sem,simprocAttr]
  .intro done x r _ e1 e2 hx hlt hnx;obtain⟨go,fin⟩:=JS e2;have hrm:done.length+1<=aw:=by simp[aw];have:=congrArg List.length e1;simp at this;omega
   simp only[hlt,hx,go_sem,simprocAttr];refine bf (jG x.name (done.map (·.name)) false (done.map λx=>.str x.name) (by simp) (by simp;have:=congrArg List.length e1;simp at this;omega)) ?_ (.int _ _) ?_
   .simp only[go_sem,simprocAttr]
   simp only[go_sem,simprocAttr];cases h5:(am (done.map (·.name)) x.name==0)
   .have h5':am (done.map (·.name)) x.name≠0:=by simpa using h5
    have h5n:(am (done.map (·.name)) x.name != 0)=true:=by simp[bne,h5]
    simp only[h5n,al,fin _ (by rw[kindErr,if_neg h5']) h5',go_sem,simprocAttr]
   have h5':am (done.map (·.name)) x.name=0:=by simpa using h5
   have hb:kindErr t.props.length (done.map (·.name)) x=fW t.props.length x:=by rw[kindErr,if_pos h5']
   simp only[hx,hlt,go_sem,simprocAttr]
   (first|refine ae (Kd x.props t.props.length (by omega)) rfl ?_|refine ax (Kd x.props t.props.length (by omega)) rfl ?_)
   rw[<-Cz];simp only[go_sem,simprocAttr];cases h6:(fW t.props.length x != 0)
   rotate_left
   .have h6':fW t.props.length x≠0:=by simpa using h6
    simp only[al,fin _ hb h6',go_sem,simprocAttr]
   have h6':fW t.props.length x=0:=by simpa using h6
   simp only[hrm,hlt,hx,go_sem,simprocAttr];refine ak e1 () (go (hb.trans h6')) ?_;simp only[hnx,go_sem,simprocAttr];all_goals simp
 .intro done x r _ e1 e2 hx hlt hnx;obtain⟨go,fin⟩:=JC e2;have hrm:done.length+1<=aw:=by simp[aw];have:=congrArg List.length e1;simp at this;omega
  simp only[hlt,hx,go_sem,simprocAttr];refine bf (jG x.name (done.map (·.name)) false (done.map λx=>.str x.name) (by simp) (by simp;have:=congrArg List.length e1;simp at this;omega)) ?_ (.int _ _) ?_
  .simp only[go_sem,simprocAttr]
  simp only[go_sem,simprocAttr];cases h5:(am (done.map (·.name)) x.name==0)
  .have h5':am (done.map (·.name)) x.name≠0:=by simpa using h5
   have h5n:(am (done.map (·.name)) x.name != 0)=true:=by simp[bne,h5]
   simp only[h5n,al,fin _ (by rw[cU,if_neg h5']) h5',go_sem,simprocAttr]
  have h5':am (done.map (·.name)) x.name=0:=by simpa using h5
  have hb:cU (done.map (·.name)) x=lO x:=by rw[cU,if_pos h5']
  simp only[hx,hlt,go_sem,simprocAttr];refine ae (xR _ _ _) rfl ?_;simp only[go_sem,simprocAttr];cases h6:ar x.error 0 10000
  .simp only[al,fin 7 (by rw[hb,lO,h6];rfl) (by decide),go_sem,simprocAttr]
  simp only[hrm,hlt,hx,h5',go_sem,simprocAttr];refine ak e1 () (go (by rw[hb,lO,h6];rfl)) ?_;simp only[hnx,go_sem,simprocAttr];all_goals simp
theorem Ol(t)(rs)(hrs:rs.length<1000000000):af TP 14 [t.pv,.slice 1 (rs.map aI) false] (.int .i64 (cE t rs)):=by
 refine aa (ah Tryz.func14 rfl (by kernel_rfl)) rfl ?_;simp only[go_sem,simprocAttr];refine ae (nW t) rfl ?_;simp only[al,go_sem,simprocAttr];have hl:((rs.length:Int) != (t.props.length:Int))=!decide (rs.length=t.props.length):=by rw[nh];simp;omega
 cases h0:((wxCheck t).2.2==0)
 .have h0':¬(wxCheck t).2.2=0:=by simpa using h0
  simp only[go_sem,simprocAttr];refine aQ [1] rs hrs (τ:=Unit) (λdone rest _=>True) (λdone _=>[(7,.p (.int .i64 (wxCheck t).2.2)),(8,.p (.int .i64 done.length))]) (λ_ _=>[.row 3 [.p t.pv]]) () trivial ?_ ?_ ?_
  .simp only[go_sem,simprocAttr]<;>simp
  .intro _ _;simp only[cE,if_neg h0',go_sem,simprocAttr]
  .intro done n r _ e1 e2 hx hlt hnx;simp only[hlt,hx,h0,cE,if_neg h0',go_sem,simprocAttr]
 have h0':(wxCheck t).2.2=0:=by simpa using h0
 have h00:(0:Int)=0:=rfl;simp only[hl,h0',go_sem,simprocAttr];by_cases h1:rs.length=t.props.length;rotate_left
 .have hd:decide (rs.length=t.props.length)=false:=by simpa using h1
  have hs:cE t rs=3:=by rw[cE,if_pos h0',if_neg h1]
  rw[hs];simp only[hd,go_sem,simprocAttr];refine aQ [1] rs hrs (τ:=Unit) (λdone rest _=>True) (λdone _=>[(7,.p (.int .i64 3)),(8,.p (.int .i64 done.length))]) (λ_ _=>[.row 3 [.p t.pv]]) () trivial ?_ ?_ ?_
  .simp only[go_sem,simprocAttr]<;>simp
  .intro _ _;simp only[go_sem,simprocAttr]
  .intro done n r _ e1 e2 hx hlt hnx;simp only[hlt,hx,go_sem,simprocAttr]
 have hd:decide (rs.length=t.props.length)=true:=by simpa using h1
 have hs:cE t rs=if rs.all fg=true then 0 else 7:=by rw[cE,if_pos h0',if_pos h1]
 rw[hs];simp only[hd,go_sem,simprocAttr];refine aQ [1] rs hrs (τ:=Bool) (λdone rest b=>rs.all fg=(b&&rest.all fg)) (λdone b=>[(7,.p (.int .i64 (if b=true then 0 else 7))),(8,.p (.int .i64 done.length))]) (λ_ _=>[.row 3 [.p t.pv]]) true (by simp) ?_ ?_ ?_
 .simp only[go_sem,simprocAttr]<;>simp
 .intro b e2;rw[Fw,Bool.and_true]at e2;simp only[e2,go_sem,simprocAttr]
 .intro done n r b e1 e2 hx hlt hnx;rw[List.all_cons]at e2;cases b
  .rw[Bool.false_and]at e2;simp only[hlt,hx,e2,go_sem,simprocAttr]
  simp only[ng]at e2;simp only[hlt,hx,go_sem,simprocAttr];cases h2:(n != -1)
  .have:fg n=true:=by simp[fg];simp at h2;exact .inl h2
   rw[this,ng]at e2;simp only[go_sem,simprocAttr];refine ak e1 true (by simpa using e2) ?_;simp only[hnx,go_sem,simprocAttr]
  .have hr:fg n=ar n 0 100000:=by simp[fg];simp at h2;simp[h2]
   simp only[hlt,hx,go_sem,simprocAttr];refine ae (xR _ _ _) rfl ?_;simp only[go_sem,simprocAttr];rw[hr]at e2;cases h3:ar n 0 100000
   .rw[h3]at e2;simp only[go_sem,simprocAttr];refine ak e1 false (by simpa using e2) ?_;simp only[hnx,go_sem,simprocAttr]
   .rw[h3]at e2;simp only[go_sem,simprocAttr];refine ak e1 true (by simpa using e2) ?_;simp only[hnx,go_sem,simprocAttr]
theorem Hd(t)(p i j:Nat)(n)(a b)(x y)(ht:TableOk t)(ha:t.kinds[i]?=some a)(hb:t.kinds[j]?=some b)(hx:a.props[p]?=some x)(hy:b.props[p]?=some y)(hn:0<=n/\n<=1000) :
  af TP 42 [t.pv,.int .i64 p,.int .i64 i,.int .i64 j,.int .i64 n] (Span.pv ⟨n*x.lo+(1000-n)*y.lo,n*x.hi+(1000-n)*y.hi⟩):=by
 refine aa (eg (by kernel_rfl) rfl ZW) rfl ?_;have hil:(i:Int)<(t.kinds.length:Int):=by have:=(aF.1 ha).1;omega
 have hjl:(j:Int)<(t.kinds.length:Int):=by have:=(aF.1 hb).1;omega
 have hpl:(p:Int)<(a.props.length:Int):=by have:=(aF.1 hx).1;omega
 have hql:(p:Int)<(b.props.length:Int):=by have:=(aF.1 hy).1;omega
 have hxv:=ht.vals a (aG ha) x (aG hx);have hyv:=ht.vals b (aG hb) y (aG hy);have mB:∀k v:Int,0<=k->k<=1000->0<=v->v<=100000->0<=k*v/\k*v<=100000000:=λk v h1 h2 h3 h4=>⟨ri h1 h3,by have:=s9 h2 h4 h3 (by omega:(0:Int)<=1000);omega⟩
 have b1:=mB n x.lo hn.1 hn.2 (by omega) (by omega);have b2:=mB n x.hi hn.1 hn.2 (by omega) (by omega);have b3:=mB (1000-n) y.lo (by omega) (by omega) (by omega) (by omega);have b4:=mB (1000-n) y.hi (by omega) (by omega) (by omega) (by omega);have w0:IntKind.i64.wrap (1000-n)=1000-n:=aj (by omega) (by omega);have w1:IntKind.i64.wrap (n*x.lo)=n*x.lo:=aj (by omega) (by omega);have w2:IntKind.i64.wrap (n*x.hi)=n*x.hi:=aj (by omega) (by omega);have w3:IntKind.i64.wrap ((1000-n)*y.lo)=(1000-n)*y.lo:=aj (by omega) (by omega);have w4:IntKind.i64.wrap ((1000-n)*y.hi)=(1000-n)*y.hi:=aj (by omega) (by omega);have w5:IntKind.i64.wrap (n*x.lo+(1000-n)*y.lo)=n*x.lo+(1000-n)*y.lo:=aj (by omega) (by omega);have w6:IntKind.i64.wrap (n*x.hi+(1000-n)*y.hi)=n*x.hi+(1000-n)*y.hi:=aj (by omega) (by omega);simp only[Yo,aL,ha,hb,hil,hjl,hx,hy,hpl,hql,w0,w1,w2,w3,w4,w5,w6,go_sem,simprocAttr]
theorem EJ{ps:List WxProp}{xs ys:List Span}{r:List Int}{k:Nat}{p:WxProp}{x y:Span}{n v:Int}(hp:ps[k]?=some p)(hx:xs[k]?=some x)(hy:ys[k]?=some y) :
  bz (ps.drop k) (xs.drop k) (ys.drop k) (v::r) n=(fC x y p.error v n&&bz (ps.drop (k+1)) (xs.drop (k+1)) (ys.drop (k+1)) r n):=by
 obtain⟨i1,rfl⟩:=aF.1 hp;obtain⟨i2,rfl⟩:=aF.1 hx;obtain⟨i3,rfl⟩:=aF.1 hy;rw[nX i1,nX i2,nX i3,bz]
theorem GX{ps:List WxProp}{xs ys:List Span}{n:Int}:bz ps xs ys [] n=true:=by cases ps<;>cases xs<;>cases ys<;>rfl
set_option maxHeartbeats 2000000 in
theorem IR(t)(rs)(i j:Nat)(a b)(n)(ht:TableOk t)(hrs:rs.length=t.props.length)(hro:rs.all fg=true)(ha:t.kinds[i]?=some a)(hb:t.kinds[j]?=some b)(hn:0<=n/\n<=1000) :
  af TP 15 [t.pv,.slice 1 (rs.map aI) false,.int .i64 i,.int .i64 j,.int .i64 n] (.bool (bz t.props a.props b.props rs n)):=by
 refine aa (eg (by kernel_rfl) rfl ZY) rfl ?_;have hpl:=ht.props;have hal:=ht.len a (aG ha);have hbl:=ht.len b (aG hb);simp only[go_sem,simprocAttr];refine aQ [1,2,3,4,5] rs (by omega) (τ:=Unit) (λdone rest _=>bz t.props a.props b.props rs n=bz (t.props.drop done.length) (a.props.drop done.length) (b.props.drop done.length) rest n) (λdone _=>[(11,.p (.int .i64 done.length))]) (λ_ _=>[.row 3 [.p t.pv]]) () rfl ?_ ?_ ?_
 .simp only[go_sem,simprocAttr]<;>simp
 .intro _ e2;rw[GX]at e2;simp only[e2,go_sem,simprocAttr]
 .intro done v r _ e1 e2 hx hlt hnx;have hdl:=congrArg List.length e1;simp only[aB,cu]at hdl;obtain⟨p,hp⟩:∃p,t.props[done.length]?=some p:=⟨_,dc (by omega)⟩
  obtain⟨x,hxx⟩:∃x,a.props[done.length]?=some x:=⟨_,dc (by omega)⟩
  obtain⟨y,hyy⟩:∃y,b.props[done.length]?=some y:=⟨_,dc (by omega)⟩
  rw[EJ hp hxx hyy]at e2;have hdn:(done++[v]).length=done.length+1:=by simp
  have hv:=lm.1 hro v (by rw[e1];simp);simp only[hlt,hx,go_sem,simprocAttr];cases h1:(v==-1)
  rotate_left
  .rw[fC,h1,tL,ng]at e2;simp only[go_sem,simprocAttr];refine ak e1 () (by rw[hdn];exact e2) ?_;simp only[hnx,go_sem,simprocAttr]
  have hr:0<=v/\v<=100000:=by
   have:¬v=-1:=by simpa using h1
   simpa[fg,this,ar]using hv
  have hpe:=ht.error p (aG hp);have hxv:=ht.vals a (aG ha) x (aG hxx);have hyv:=ht.vals b (aG hb) y (aG hyy);have l3:(done.length:Int)<(t.props.length:Int):=by omega
  have w1:IntKind.i64.wrap (v+p.error)=v+p.error:=aj (by omega) (by omega);have w2:IntKind.i64.wrap (v-p.error)=v-p.error:=aj (by omega) (by omega);have w3:IntKind.i64.wrap (1000*(v+p.error))=1000*(v+p.error):=aj (by omega) (by omega);have w4:IntKind.i64.wrap (1000*(v-p.error))=1000*(v-p.error):=aj (by omega) (by omega);simp only[Kv,aL,go_sem,simprocAttr]
  (first|refine ae (Hd t done.length i j n a b x y ht ha hb hxx hyy hn) rfl ?_|refine ax (Hd t done.length i j n a b x y ht ha hb hxx hyy hn) rfl ?_)
  simp only[Kv,aL,hp,l3,hlt,hx,w1,w2,w3,w4,go_sem,simprocAttr];rw[fC,h1,rf]at e2;by_cases c1:n*x.lo+(1000-n)*y.lo<=1000*(v+p.error)
  .have c1':decide (1000*(v+p.error)<n*x.lo+(1000-n)*y.lo)=false:=by simpa using c1
   have c1d:decide (n*x.lo+(1000-n)*y.lo<=1000*(v+p.error))=true:=by simpa using c1
   rw[c1d,ng]at e2;simp only[Kv,aL,c1',hlt,hx,w1,w2,w3,w4,go_sem,simprocAttr];by_cases c2:1000*(v-p.error)<=n*x.hi+(1000-n)*y.hi
   .have c2':decide (n*x.hi+(1000-n)*y.hi<1000*(v-p.error))=false:=by simpa using c2
    have c2d:decide (1000*(v-p.error)<=n*x.hi+(1000-n)*y.hi)=true:=by simpa using c2
    rw[c2d,ng]at e2;simp only[Kv,aL,c2',go_sem,simprocAttr];refine ak e1 () (by rw[hdn];exact e2) ?_;simp only[hnx,go_sem,simprocAttr]
   .have c2':decide (n*x.hi+(1000-n)*y.hi<1000*(v-p.error))=true:=by simpa using c2
    have c2d:decide (1000*(v-p.error)<=n*x.hi+(1000-n)*y.hi)=false:=by simpa using c2
    rw[c2d,Bool.false_and]at e2;simp only[c2',e2,go_sem,simprocAttr]
  .have c1':decide (1000*(v+p.error)<n*x.lo+(1000-n)*y.lo)=true:=by simpa using c1
   have c1d:decide (n*x.lo+(1000-n)*y.lo<=1000*(v+p.error))=false:=by simpa using c1
   rw[c1d,Bool.false_and,Bool.false_and]at e2;simp only[Kv,aL,c1',e2,go_sem,simprocAttr]
def va (ex:Int->Bool) (lo:Int):Nat->Option Span
 |0=>none
 |k+1=>if ex (lo+k)=true then(match va ex lo k with|none=>some ⟨lo+k,lo+k⟩|some s=>some ⟨s.lo,lo+k⟩) else va ex lo k
theorem Dn(ex:Int->Bool)(lo:Int):∀k:Nat,match va ex lo k with
  |some s=>(∀n,lo<=n->n<lo+k->ex n=true->s.lo<=n/\n<=s.hi)/\(ex s.lo=true/\lo<=s.lo/\s.lo<lo+k)/\ex s.hi=true/\lo<=s.hi/\s.hi<lo+k
  |none=>∀n,lo<=n->n<lo+k->ex n=false
 |0=>by
  rw[va]
  intro n h1 h2;omega
 |k+1=>by
  have ih:=Dn ex lo k;rw[va];by_cases hc:ex (lo+k)=true
  .rw[if_pos hc]
   cases hs:va ex lo k with
   |none=>
    rw[hs]at ih;dsimp only at ih |-;refine⟨λn h1 h2 h3=>?_,⟨hc,by omega,by omega⟩,hc,by omega,by omega⟩;by_cases hn:n<lo+k
    .rw[ih n h1 hn]at h3;cases h3
    .omega
   |some s=>
    rw[hs]at ih;dsimp only at ih |-;obtain⟨i1,i2,i3⟩:=ih;refine⟨λn h1 h2 h3=>?_,⟨i2.1,by omega,by omega⟩,hc,by omega,by omega⟩;by_cases hn:n<lo+k
    .have:=i1 n h1 hn h3;omega
    .have:=i1 s.lo i2.2.1 i2.2.2 i2.1;omega
  .rw[if_neg hc];have hc':ex (lo+k)=false:=by simpa using hc
   cases hs:va ex lo k with
   |none=>
    rw[hs]at ih;dsimp only at ih |-;intro n h1 h2;by_cases hn:n<lo+k
    .exact ih n h1 hn
    .rw[show n=lo+k by omega];exact hc'
   |some s=>
    rw[hs]at ih;dsimp only at ih |-;obtain⟨i1,i2,i3⟩:=ih;refine⟨λn h1 h2 h3=>?_,⟨i2.1,by omega,by omega⟩,i3.1,by omega,by omega⟩;by_cases hn:n<lo+k
    .exact i1 n h1 hn h3
    .rw[show n=lo+k by omega,hc']at h3;cases h3
def Xc:Option Span->Span
 |none=>⟨0,0⟩
 |some s=>s
def UY (o:Option Span):PV:=.tuple [(Xc o).pv,.bool o.isSome]
attribute [go_sem] UY
def k9 (t:WxTable) (rs:List Int) (a b:Nat) (n:Int):Bool:=match t.kinds[a]?,t.kinds[b]? with
 |some x,some y=>bz t.props x.props y.props rs n
 |_,_=>false
def Jw (t:WxTable) (rs:List Int) (q:Nat×Nat):Option Span:=va (k9 t rs q.1 q.2) 1 1000
def fR (t:WxTable) (rs:List Int) (kind:Nat) (q:Nat×Nat):Option Span:=(Jw t rs q).map (th kind q)
theorem FV(t:WxTable)(rs:List Int)(q:Nat×Nat):match Jw t rs q with
   |some s=>(∀n,1<=n->n<=1000->k9 t rs q.1 q.2 n=true->s.lo<=n/\n<=s.hi)/\(k9 t rs q.1 q.2 s.lo=true/\1<=s.lo/\s.lo<=1000)/\k9 t rs q.1 q.2 s.hi=true/\1<=s.hi/\s.hi<=1000
   |none=>∀n,1<=n->n<=1000->k9 t rs q.1 q.2 n=false:=by
 have:=Dn (k9 t rs q.1 q.2) 1 1000;unfold Jw
 cases hs:va (k9 t rs q.1 q.2) 1 1000 with
 |none=>rw[hs]at this;dsimp only at this |-;exact λn h1 h2=>this n h1 (by omega)
 |some s=>
  rw[hs]at this;dsimp only at this |-;exact⟨λn h1 h2 h3=>this.1 n h1 (by omega) h3,⟨this.2.1.1,this.2.1.2.1,by omega⟩,this.2.2.1,this.2.2.2.1,by omega⟩
theorem P5{t:WxTable}{rs:List Int}(q:Nat×Nat)(n:Int):((gL t rs q).lo<=n/\n<=(gL t rs q).hi)↔ur q n/\k9 t rs q.1 q.2 n=true:=by
 unfold gL k9
 cases h1:t.kinds[q.1]? with
 |none=>simp;omega
 |some a=>
  cases h2:t.kinds[q.2]? with
  |none=>simp;omega
  |some b=>
   dsimp only;rw[nN,p5];unfold ur;by_cases hq:q.1=q.2
   .simp only[hq,if_true];constructor
    .rintro⟨h,e⟩;exact⟨by omega,e⟩
    .rintro⟨h,e⟩;exact⟨by omega,e⟩
   .simp only[hq,if_false]
theorem Ss(t:WxTable)(rs:List Int)(kind:Nat)(ht:TableOk t)(hk:kind<t.kinds.length):joinL (fR t rs kind) (sv t.kinds.length) ⟨1001,-1⟩=AJ t rs kind:=by
 have h1:=yX (k9 t rs) kind (sp:=Jw t rs) (FV t rs) t.kinds.length;have h2:=Ih (k9 t rs) kind (sp:=gL t rs) (λq n=>P5 q n) t.kinds.length;have at_:∀a,a<t.kinds.length->∃x,t.kinds[a]?=some x/\x.props.length=t.props.length:=λa h=>⟨_,dc h,ht.len _ (Av h)⟩
 refine(dV.uniq h2 h1 (MT (k9 t rs) kind hk ?_ ?_ ?_)).symm
 .intro a b n ha hb;obtain⟨x,hx,lx⟩:=at_ a ha;obtain⟨y,hy,ly⟩:=at_ b hb;simp only[k9,hx,hy];exact wx n _ _ _ _ (lx.trans ly.symm)
 .intro a n m;unfold k9
  cases t.kinds[a]? with
  |none=>rfl
  |some x=>exact wy n m _ _ _
 .intro a b ha hb;obtain⟨x,hx,lx⟩:=at_ a ha;obtain⟨y,hy,ly⟩:=at_ b hb;simp only[k9,hx,hy];exact xI _ _ _ _ (lx.trans ly.symm)
end Wx
set_option maxRecDepth 4000
theorem TW(lo hi n):af TP 89 [.int .i64 n,.ptr 1 [.int .i64 lo] 0 0,.ptr 1 [.int .i64 hi] 0 0] (.bool (!ar n lo hi)):=by
 refine aa (ah Tryz.func89 rfl (by kernel_rfl)) rfl ?_;simp only[go_sem,simprocAttr];refine aT (λhb=>?_) (λhb=>?_)<;>simp only[hb,go_sem,simprocAttr]<;>simp_all [ar];rw[<-decide_not];congr 1;simp
theorem im(lo hi)(l:List Int)(b)(hl:l.length<1000000000):af TP 50 [.int .i64 lo,.int .i64 hi,.slice 1 (l.map aI) b] (.bool (l.any λn=>!ar n lo hi)):=by
 refine aa (ah Tryz.func50 rfl (by kernel_rfl)) rfl ?_;simp only[go_sem,simprocAttr];refine bf (ko (fv:=.func (.func 89) [] [.ptr 1 [.int .i64 lo] 0 0,.ptr 1 [.int .i64 hi] 0 0]) l (λn=>!ar n lo hi) b 1 rfl hl λn _=>⟨_,_,_,rfl,TW lo hi n⟩) ?_ (.bool _) ?_
 .simp only[go_sem,simprocAttr]
 .simp only[go_sem,simprocAttr]
theorem Hm(x:HrKind):af TP 125 [x.pv] (.str x.name):=by
 refine aa (ah Tryz.func125 rfl (by kernel_rfl)) rfl ?_;simp only[go_sem,simprocAttr]
theorem Q0(s)(x:HrKind):af TP 173 [x.pv,.ptr 1 [.func (.func 125) [] []] 0 0,.ptr 1 [.str s] 0 0] (.bool (x.name==s)):=by
 refine aa (ah Tryz.func173 rfl (by kernel_rfl)) rfl ?_;simp only[go_sem,simprocAttr];refine ax (Hm x) rfl ?_;simp only[go_sem,simprocAttr]
theorem Oq(l)(x)(b)(hl:l.length<1000000):af TP 124 [.slice 4 ((l++[x]).map HrKind.pv) b,.func (.func 125) [] []] (.int .i64 (am (l.map (·.name)) x.name)):=by
 have hw:IntKind.i64.wrap ((((l++[x]).length:Nat):Int)-1)=((l.length:Nat):Int):=by
  rw[cA (by simp<;>omega) (by simp[aw]<;>omega)];simp
 have hx:(l++[x])[l.length]?=some x:=by simp
 have hlt:((l.length:Nat):Int)<(((l++[x]).length:Nat):Int):=by simp<;>omega
 have hle:((l.length:Nat):Int)<=(((l++[x]).length:Nat):Int):=by omega
 have htk:((l++[x]).map HrKind.pv).take l.length=l.map HrKind.pv:=by rw[cj,gk (by simp)]
 have hfl:(l.length==(l++[x]).length)=false:=by simp
 refine aa (ah Tryz.func124 rfl (by kernel_rfl)) rfl ?_;simp only[hw,hx,hlt,go_sem,simprocAttr];refine ax (Hm x) rfl ?_;simp only[go_sem,simprocAttr];refine ae (jU x.name) rfl ?_;simp only[go_sem,simprocAttr];cases hn:nameOk x.name
 .simp only[go_sem,simprocAttr];simp[am,hn]
 .simp only[hle,htk,hfl,go_sem,simprocAttr];refine bf (CZ (fv:=.func (.func 173) [] [.ptr 1 [.func (.func 125) [] []] 0 0,.ptr 1 [.str x.name] 0 0]) l (λy=>y.name==x.name) false 4 rfl (by omega) λy _=>⟨_,_,_,rfl,Q0 x.name y⟩) ?_ (.bool _) ?_
  .simp only[go_sem,simprocAttr]
  simp only[go_sem,simprocAttr];refine aT (λhb=>?_) (λhb=>?_)<;>simp only[hb,go_sem,simprocAttr]
  .simp only[am,hn,ny,j5,hb,if_true]
  .simp only[am,hn,ny,j5,hb,if_true,jc,if_false]
theorem Hl(x:HrRule):af TP 127 [x.pv] (.str x.name):=by
 refine aa (ah Tryz.func127 rfl (by kernel_rfl)) rfl ?_;simp only[go_sem,simprocAttr]
theorem QZ(s)(x:HrRule):af TP 175 [x.pv,.ptr 1 [.func (.func 127) [] []] 0 0,.ptr 1 [.str s] 0 0] (.bool (x.name==s)):=by
 refine aa (ah Tryz.func175 rfl (by kernel_rfl)) rfl ?_;simp only[go_sem,simprocAttr];refine ax (Hl x) rfl ?_;simp only[go_sem,simprocAttr]
theorem Oo(l)(x)(b)(hl:l.length<1000000):af TP 126 [.slice 5 ((l++[x]).map HrRule.pv) b,.func (.func 127) [] []] (.int .i64 (am (l.map (·.name)) x.name)):=by
 have hw:IntKind.i64.wrap ((((l++[x]).length:Nat):Int)-1)=((l.length:Nat):Int):=by
  rw[cA (by simp<;>omega) (by simp[aw]<;>omega)];simp
 have hx:(l++[x])[l.length]?=some x:=by simp
 have hlt:((l.length:Nat):Int)<(((l++[x]).length:Nat):Int):=by simp<;>omega
 have hle:((l.length:Nat):Int)<=(((l++[x]).length:Nat):Int):=by omega
 have htk:((l++[x]).map HrRule.pv).take l.length=l.map HrRule.pv:=by rw[cj,gk (by simp)]
 have hfl:(l.length==(l++[x]).length)=false:=by simp
 refine aa (ah Tryz.func126 rfl (by kernel_rfl)) rfl ?_;simp only[hw,hx,hlt,go_sem,simprocAttr];refine ax (Hl x) rfl ?_;simp only[go_sem,simprocAttr];refine ae (jU x.name) rfl ?_;simp only[go_sem,simprocAttr];cases hn:nameOk x.name
 .simp only[go_sem,simprocAttr];simp[am,hn]
 .simp only[hle,htk,hfl,go_sem,simprocAttr];refine bf (CY (fv:=.func (.func 175) [] [.ptr 1 [.func (.func 127) [] []] 0 0,.ptr 1 [.str x.name] 0 0]) l (λy=>y.name==x.name) false 5 rfl (by omega) λy _=>⟨_,_,_,rfl,QZ x.name y⟩) ?_ (.bool _) ?_
  .simp only[go_sem,simprocAttr]
  simp only[go_sem,simprocAttr];refine aT (λhb=>?_) (λhb=>?_)<;>simp only[hb,go_sem,simprocAttr]
  .simp only[am,hn,ny,j5,hb,if_true]
  .simp only[am,hn,ny,j5,hb,if_true,jc,if_false]
def eA (k:HrKind):Int:=
 if(ar k.weight.lo 1 10000000&&ar k.weight.hi 1 10000000&&ar k.rest 0 10000000)=true then(if(decide (k.weight.hi<k.weight.lo)||decide (k.weight.lo<=k.rest))=true then 2 else 0) else 7
def eV (r:HrRule):Int:=
 if(ar r.minutes.lo 0 1000000&&ar r.minutes.hi 0 1000000&&(ar r.weight.lo 0 10000000&&ar r.weight.hi 0 10000000))=true then
  (if(decide (r.minutes.hi<r.minutes.lo)||decide (r.weight.hi<r.weight.lo))=true then 2 else 0) else 7
def bQ (before:List ByteArray) (k:HrKind):Int:=if am before k.name=0 then eA k else am before k.name
def cM (before:List ByteArray) (r:HrRule):Int:=if am before r.name=0 then eV r else am before r.name
def iU (s:HrShop):Option (Int×Int)->Int×Int×Int
 |some (i,e)=>(2,i,e)
 |none=>match firstErr cM (·.name) s.rules []with|some (i,e)=>(3,i,e)|none=>(0,0,0)
def hrCheck (s:HrShop):Int×Int×Int:=
 if(ar s.kinds.length 1 6&&decide (s.rules.length<=6))=true then
  if ar s.margin 0 500=true then iU s (firstErr bQ (·.name) s.kinds []) else(1,0,7)
 else(1,0,3)
theorem DQ{s}{done r}{x}(_:s.kinds=done++x::r)(e2:firstErr bQ (·.name) s.kinds []=firstErr bQ (·.name) (x::r) (done.map (·.name))) :
  (bQ (done.map (·.name)) x=0->firstErr bQ (·.name) s.kinds []=firstErr bQ (·.name) r ((done++[x]).map (·.name))) /\
  ∀e,bQ (done.map (·.name)) x=e->e≠0->iU s (firstErr bQ (·.name) s.kinds [])=(2,(done.length:Int),e):=by
 have hE:firstErr bQ (·.name) s.kinds []=if bQ (done.map (·.name)) x=0 then firstErr bQ (·.name) r ((done++[x]).map (·.name)) else some ((done.length:Int),bQ (done.map (·.name)) x):=by
  rw[e2,firstErr];simp
 exact⟨λh=>by rw[hE,if_pos h],λe he hne=>by rw[hE,he,if_neg hne];rfl⟩
theorem DP{s}{done r}{x}(_:s.rules=done++x::r)(e2:firstErr cM (·.name) s.rules []=firstErr cM (·.name) (x::r) (done.map (·.name))) :
  (cM (done.map (·.name)) x=0->firstErr cM (·.name) s.rules []=firstErr cM (·.name) r ((done++[x]).map (·.name))) /\
  ∀e,cM (done.map (·.name)) x=e->e≠0->iU s none=(3,(done.length:Int),e):=by
 have hE:firstErr cM (·.name) s.rules []=if cM (done.map (·.name)) x=0 then firstErr cM (·.name) r ((done++[x]).map (·.name)) else some ((done.length:Int),cM (done.map (·.name)) x):=by
  rw[e2,firstErr];simp
 exact⟨λh=>by rw[hE,if_pos h],λe he hne=>by simp only[iU];rw[hE,he,if_neg hne]⟩
set_option maxHeartbeats 1000000 in
theorem Hn(s):af TP 86 [s.pv] (al (hrCheck s)):=by
 refine aa (ah Tryz.func86 rfl (by kernel_rfl)) rfl ?_;simp only[go_sem,simprocAttr];refine ae (im 1 6 [_] true (by simp)) rfl ?_;simp only[cV,bw,cD,go_sem,simprocAttr];cases h1:ar s.kinds.length 1 6
 .simp only[al,hrCheck,h1,go_sem,simprocAttr]
 simp only[go_sem,simprocAttr];cases h2:decide ((6:Int)<(s.rules.length:Int));rotate_left
 .have h2':decide (s.rules.length<=6)=false:=by simp at h2 |-;omega
  simp only[al,hrCheck,h1,h2',go_sem,simprocAttr]
 have h2':decide (s.rules.length<=6)=true:=by simp at h2 |-;omega
 simp only[go_sem,simprocAttr];refine ae (im 0 500 [_] true (by simp)) rfl ?_;simp only[cV,bw,cD,go_sem,simprocAttr];cases h3:ar s.margin 0 500
 .simp only[al,hrCheck,h1,h2',h3,go_sem,simprocAttr]
 have hspec:hrCheck s=iU s (firstErr bQ (·.name) s.kinds []):=by simp only[hrCheck,h1,h2',h3,nY,if_true]
 rw[hspec];have hlk:s.kinds.length<=6:=by simp[ar]at h1;omega
 have hlr:s.rules.length<=6:=by simpa using h2'
 simp only[go_sem,simprocAttr]
 refine aQ [1,27,28] s.kinds (by omega) (τ:=Unit) (λdone rest _=>firstErr bQ (·.name) s.kinds []=firstErr bQ (·.name) rest (done.map (·.name)))
  (λdone _=>[(29,.p (.int .i64 done.length)),(4,.p (.int .i64 0))]) (λ_ _=>[.row 3 [.p s.pv]]) () rfl ?_ ?_ ?_
 .simp only[go_sem,simprocAttr]<;>simp
 .intro _ e2;have hT:iU s (firstErr bQ (·.name) s.kinds [])=iU s none:=by rw[e2];rfl
  rw[hT];simp only[go_sem,simprocAttr]
  refine aQ [1,80,81] s.rules (by omega) (τ:=Unit) (λdone rest _=>firstErr cM (·.name) s.rules []=firstErr cM (·.name) rest (done.map (·.name)))
   (λdone _=>[(82,.p (.int .i64 done.length)),(4,.p (.int .i64 0))]) (λ_ _=>[.row 3 [.p s.pv]]) () rfl ?_ ?_ ?_
  .simp only[go_sem,simprocAttr]<;>simp
  .intro _ e2;have hT:iU s none=(0,0,0):=by
    simp only[iU];rw[e2];rfl
   simp only[al,hT,go_sem,simprocAttr]
  .intro done x r _ e1 e2 hx hlt hnx;obtain⟨go,fin⟩:=DP e1 e2;have hle:(((done++[x]).length:Nat):Int)<=(s.rules.length:Int):=by rw[e1];simp<;>omega
   have htk:(s.rules.map HrRule.pv).take (done++[x]).length=(done++[x]).map HrRule.pv:=by
    rw[e1,show done++x::r=(done++[x])++r by simp,cj,gk (by simp)]
   have hdl:done.length<1000000:=by have:=congrArg List.length e1;simp at this;omega
   simp only[hlt,hx,hnx,hle,htk,go_sem,simprocAttr];refine ae (Oo done x false hdl) rfl ?_;simp only[go_sem,simprocAttr];cases h5:(am (done.map (·.name)) x.name != 0)
   rotate_left
   .have h5':am (done.map (·.name)) x.name≠0:=by simpa using h5
    simp only[h5,al,fin _ (by rw[cM,if_neg h5']) h5',go_sem,simprocAttr]
   have h5':am (done.map (·.name)) x.name=0:=by simpa using h5
   have hb:cM (done.map (·.name)) x=eV x:=by rw[cM,if_pos h5']
   simp only[go_sem,simprocAttr];refine ae (im 0 1000000 [_,_] true (by simp)) rfl ?_;simp only[cV,bw,cD,<-iZ,go_sem,simprocAttr];cases h6:(ar x.minutes.lo 0 1000000&&ar x.minutes.hi 0 1000000)
   .simp only[al,fin 7 (by rw[hb,eV,h6];rfl) (by decide),go_sem,simprocAttr]
   simp only[go_sem,simprocAttr];refine ae (im 0 10000000 [_,_] true (by simp)) rfl ?_;simp only[cV,bw,cD,<-iZ,go_sem,simprocAttr];cases h7:(ar x.weight.lo 0 10000000&&ar x.weight.hi 0 10000000)
   .simp only[al,fin 7 (by rw[hb,eV,h6,h7];rfl) (by decide),go_sem,simprocAttr]
   simp only[go_sem,simprocAttr];cases h8:decide (x.minutes.hi<x.minutes.lo);rotate_left
   .simp only[al,fin 2 (by rw[hb,eV,h6,h7,h8];rfl) (by decide),go_sem,simprocAttr]
   simp only[go_sem,simprocAttr];cases h9:decide (x.weight.hi<x.weight.lo);rotate_left
   .simp only[al,fin 2 (by rw[hb,eV,h6,h7,h8,h9];rfl) (by decide),go_sem,simprocAttr]
   simp only[h5',go_sem,simprocAttr];refine ak e1 () (go (by rw[hb,eV,h6,h7,h8,h9];rfl)) ?_;simp only[hnx,go_sem,simprocAttr]
 .intro done x r _ e1 e2 hx hlt hnx;obtain⟨go,fin⟩:=DQ e1 e2;have hle:(((done++[x]).length:Nat):Int)<=(s.kinds.length:Int):=by rw[e1];simp<;>omega
  have htk:(s.kinds.map HrKind.pv).take (done++[x]).length=(done++[x]).map HrKind.pv:=by
   rw[e1,show done++x::r=(done++[x])++r by simp,cj,gk (by simp)]
  have hdl:done.length<1000000:=by have:=congrArg List.length e1;simp at this;omega
  simp only[hlt,hx,hnx,hle,htk,go_sem,simprocAttr];refine ae (Oq done x false hdl) rfl ?_;simp only[go_sem,simprocAttr];cases h5:(am (done.map (·.name)) x.name != 0)
  rotate_left
  .have h5':am (done.map (·.name)) x.name≠0:=by simpa using h5
   simp only[h5,al,fin _ (by rw[bQ,if_neg h5']) h5',go_sem,simprocAttr]
  have h5':am (done.map (·.name)) x.name=0:=by simpa using h5
  have hb:bQ (done.map (·.name)) x=eA x:=by rw[bQ,if_pos h5']
  simp only[go_sem,simprocAttr];refine ae (im 1 10000000 [_,_] true (by simp)) rfl ?_;simp only[cV,bw,cD,<-iZ,go_sem,simprocAttr];cases h6:(ar x.weight.lo 1 10000000&&ar x.weight.hi 1 10000000)
  .simp only[al,fin 7 (by rw[hb,eA,h6];rfl) (by decide),go_sem,simprocAttr]
  simp only[go_sem,simprocAttr];refine ae (im 0 10000000 [_] true (by simp)) rfl ?_;simp only[cV,bw,cD,go_sem,simprocAttr];cases h7:ar x.rest 0 10000000
  .simp only[al,fin 7 (by rw[hb,eA,h6,h7];rfl) (by decide),go_sem,simprocAttr]
  simp only[go_sem,simprocAttr];cases h8:decide (x.weight.hi<x.weight.lo);rotate_left
  .simp only[al,fin 2 (by rw[hb,eA,h6,h7,h8];rfl) (by decide),go_sem,simprocAttr]
  simp only[go_sem,simprocAttr];cases h9:decide (x.weight.lo<=x.rest);rotate_left
  .simp only[al,fin 2 (by rw[hb,eA,h6,h7,h8,h9];rfl) (by decide),go_sem,simprocAttr]
  simp only[h5',go_sem,simprocAttr];refine ak e1 () (go (by rw[hb,eA,h6,h7,h8,h9];rfl)) ?_;simp only[hnx,go_sem,simprocAttr]
theorem LX(x):af TP 102 [x.pv] (.int .i64 (eA x)):=by
 refine aa (ah Tryz.func102 rfl (by kernel_rfl)) rfl ?_;simp only[go_sem,simprocAttr];refine ae (p9 _ _ _ _) rfl ?_;simp only[go_sem,simprocAttr];refine ae (QY _ _ _) rfl ?_;unfold eA;cases h1:ar x.weight.lo 1 10000000
 .have hg:dI x.weight.lo x.weight.hi 1 10000000=7:=by simp[dI,h1]
  cases h3:ar x.rest 0 10000000
  .simp only[hg,go_sem,simprocAttr]
  .simp only[hg,go_sem,simprocAttr]
 cases h2:ar x.weight.hi 1 10000000
 .have hg:dI x.weight.lo x.weight.hi 1 10000000=7:=by simp[dI,h1,h2]
  cases h3:ar x.rest 0 10000000
  .simp only[hg,go_sem,simprocAttr]
  .simp only[hg,go_sem,simprocAttr]
 cases h3:ar x.rest 0 10000000
 .simp only[go_sem,simprocAttr]
 cases h4:decide (x.weight.hi<x.weight.lo)
 .have hg:dI x.weight.lo x.weight.hi 1 10000000=0:=by simp[dI,h1,h2];simpa using h4
  cases h5:decide (x.weight.lo<=x.rest)
  .simp only[hg,h5,go_sem,simprocAttr]
  .simp only[hg,h5,go_sem,simprocAttr]
 .have hg:dI x.weight.lo x.weight.hi 1 10000000=2:=by simp[dI,h1,h2];simpa using h4
  simp only[hg,go_sem,simprocAttr]
theorem LW(x):af TP 103 [x.pv] (.int .i64 (eV x)):=by
 refine aa (ah Tryz.func103 rfl (by kernel_rfl)) rfl ?_;simp only[go_sem,simprocAttr];refine ax (p9 _ _ _ _) rfl ?_;simp only[go_sem,simprocAttr];refine ax (p9 _ _ _ _) rfl ?_;unfold eV;have hg:∀(a:Span) (m n:Int),dI a.lo a.hi m n=if(ar a.lo m n&&ar a.hi m n)=true then(if decide (a.hi<a.lo)=true then 2 else 0) else 7:=by
  intro a m n;unfold dI;cases ar a.lo m n<;>cases ar a.hi m n<;>simp
 simp only[hg]
 cases h1:(ar x.minutes.lo 0 1000000&&ar x.minutes.hi 0 1000000)<;>cases h2:(ar x.weight.lo 0 10000000&&ar x.weight.hi 0 10000000) <;>
  cases h3:decide (x.minutes.hi<x.minutes.lo)<;>cases h4:decide (x.weight.hi<x.weight.lo)<;>(simp only[go_sem,simprocAttr];try rfl)
set_option maxHeartbeats 1000000 in
theorem IU(s):af TP 57 [s.pv] (al (hrCheck s)):=by
 refine aa (ah Tryz.func57 rfl (by kernel_rfl)) rfl ?_;simp only[go_sem,simprocAttr];refine ae (QY _ _ _) rfl ?_;simp only[go_sem,simprocAttr];cases h1:ar s.kinds.length 1 6
 .simp only[al,hrCheck,h1,go_sem,simprocAttr]
 simp only[go_sem,simprocAttr];cases h2:decide ((6:Int)<(s.rules.length:Int));rotate_left
 .have h2':decide (s.rules.length<=6)=false:=by simp at h2 |-;omega
  simp only[al,hrCheck,h1,h2',go_sem,simprocAttr]
 have h2':decide (s.rules.length<=6)=true:=by simp at h2 |-;omega
 simp only[go_sem,simprocAttr];refine ae (QY _ _ _) rfl ?_;simp only[go_sem,simprocAttr];cases h3:ar s.margin 0 500
 .simp only[al,hrCheck,h1,h2',h3,go_sem,simprocAttr]
 have hspec:hrCheck s=iU s (firstErr bQ (·.name) s.kinds []):=by simp only[hrCheck,h1,h2',h3,nY,if_true]
 rw[hspec];have hlk:s.kinds.length<=6:=by simp[ar]at h1;omega
 have hlr:s.rules.length<=6:=by simpa using h2'
 simp only[go_sem,simprocAttr];refine cl 5 1 (by simp only[go_sem,simprocAttr]) ?_;simp only[go_sem,simprocAttr]
 refine aQ [1] s.kinds (by omega) (τ:=Unit) (λdone rest _=>firstErr bQ (·.name) s.kinds []=firstErr bQ (·.name) rest (done.map (·.name)))
  (λdone _=>[(5,.slice 1 done.length 0 done.length),(6,.p (.int .i64 done.length))]) (λdone _=>[.row 3 [.p s.pv],.row 1 (done.map λx=>.p (.str x.name))]) () rfl ?_ ?_ ?_
 .simp only[go_sem,simprocAttr]<;>simp
 .intro _ e2;have hT:iU s (firstErr bQ (·.name) s.kinds [])=iU s none:=by rw[e2];rfl
  rw[hT];simp only[go_sem,simprocAttr];refine cl 5 1 (by simp only[go_sem,simprocAttr]) ?_;simp only[go_sem,simprocAttr]
  refine aQ [1] s.rules (by omega) (τ:=Unit) (λdone rest _=>firstErr cM (·.name) s.rules []=firstErr cM (·.name) rest (done.map (·.name)))
   (λdone _=>[(5,.slice 2 done.length 0 done.length),(8,.p (.int .i64 done.length))]) (λdone _=>[.row 3 [.p s.pv],.row 1 (s.kinds.map λx=>.p (.str x.name)),.row 1 (done.map λx=>.p (.str x.name))]) () rfl ?_ ?_ ?_
  .simp only[go_sem,simprocAttr]<;>simp
  .intro _ e2;have hT:iU s none=(0,0,0):=by
    simp only[iU];rw[e2];rfl
   simp only[al,hT,go_sem,simprocAttr]
  .intro done x r _ e1 e2 hx hlt hnx;obtain⟨go,fin⟩:=DP e1 e2;have hrm:done.length+1<=aw:=by simp[aw];omega
   simp only[hlt,hx,go_sem,simprocAttr];refine bf (jG x.name (done.map (·.name)) false (done.map λx=>.str x.name) (by simp) (by simp;omega)) ?_ (.int _ _) ?_
   .simp only[go_sem,simprocAttr]
   simp only[hrm,hlt,hx,go_sem,simprocAttr];cases h5:(am (done.map (·.name)) x.name==0)
   .have h5':am (done.map (·.name)) x.name≠0:=by simpa using h5
    have h5n:(am (done.map (·.name)) x.name != 0)=true:=by simp[bne,h5]
    simp only[h5n,al,fin _ (by rw[cM,if_neg h5']) h5',go_sem,simprocAttr]
   have h5':am (done.map (·.name)) x.name=0:=by simpa using h5
   have hb:cM (done.map (·.name)) x=eV x:=by rw[cM,if_pos h5']
   simp only[hx,hlt,go_sem,simprocAttr];refine ae (LW x) rfl ?_;simp only[go_sem,simprocAttr];cases h6:(eV x != 0)
   rotate_left
   .have h6':eV x≠0:=by simpa using h6
    simp only[al,fin _ hb h6',go_sem,simprocAttr]
   have h6':eV x=0:=by simpa using h6
   simp only[go_sem,simprocAttr];refine ak e1 () (go (hb.trans h6')) ?_;simp only[hnx,go_sem,simprocAttr];all_goals simp
 .intro done x r _ e1 e2 hx hlt hnx;obtain⟨go,fin⟩:=DQ e1 e2;have hrm:done.length+1<=aw:=by simp[aw];omega
  simp only[hlt,hx,go_sem,simprocAttr];refine bf (jG x.name (done.map (·.name)) false (done.map λx=>.str x.name) (by simp) (by simp;omega)) ?_ (.int _ _) ?_
  .simp only[go_sem,simprocAttr]
  simp only[hrm,hlt,hx,go_sem,simprocAttr];cases h5:(am (done.map (·.name)) x.name==0)
  .have h5':am (done.map (·.name)) x.name≠0:=by simpa using h5
   have h5n:(am (done.map (·.name)) x.name != 0)=true:=by simp[bne,h5]
   simp only[h5n,al,fin _ (by rw[bQ,if_neg h5']) h5',go_sem,simprocAttr]
  have h5':am (done.map (·.name)) x.name=0:=by simpa using h5
  have hb:bQ (done.map (·.name)) x=eA x:=by rw[bQ,if_pos h5']
  simp only[hx,hlt,go_sem,simprocAttr];refine ae (LX x) rfl ?_;simp only[go_sem,simprocAttr];cases h6:(eA x != 0)
  rotate_left
  .have h6':eA x≠0:=by simpa using h6
   simp only[al,fin _ hb h6',go_sem,simprocAttr]
  have h6':eA x=0:=by simpa using h6
  simp only[go_sem,simprocAttr];refine ak e1 () (go (hb.trans h6')) ?_;simp only[hnx,go_sem,simprocAttr];all_goals simp
end Abs
end Go.Proofs.YtoapoaoelpcniaaGreatDoor
