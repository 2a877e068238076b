/- CONTRACTS of the program's functions, and laws on what they return. No conditions but those in the theorems' heads. -/
import Derived.Test.YtoapoaoelpcniaaGreatDoorChLawHX
set_option linter.all false
namespace Go.Proofs.YtoapoaoelpcniaaGreatDoor
namespace Abs
namespace Ch
set_option maxRecDepth 4000
theorem AR{a}(h:p4 a=false)(h5:5<=a.length):(a.take 5==kQ)=false:=by
 unfold p4 at h;rw[decide_eq_true h5,ng]at h;exact h
theorem Na{a}(h:p4 a=true):5<=a.length/\(a.take 5==kQ)=true:=by
 unfold p4 at h;rw[cG]at h;exact⟨of_decide_eq_true h.1,h.2⟩
set_option maxHeartbeats 4000000 in
theorem EE(s:ChShop)(ls)(p q r t)(hp:0<=p/\p<=65535)(hq:0<=q/\q<=65535)(hr:0<=r/\r<=65535) :
  af Tryz.prog 4 [s.pv,bp ls,.agg [.int .u16 p,.int .u16 q,.int .u16 r,.int .u16 t]] (.bool true):=by
 refine aa (ah Tryz.func4 rfl (by kernel_rfl)) rfl ?_;simp only[go_sem,simprocAttr];refine ae (vQ s ls) rfl ?_;by_cases he:aY s ls=0;rotate_left
 .have hn:(aY s ls != 0)=true:=by simpa using he
  have h0:jn s ls=[]:=by rw[jn,if_neg he]
  simp only[hn,h0,bp,ck,cw,go_sem,simprocAttr];refine ae l7 rfl ?_;simp only[go_sem,simprocAttr]
 obtain⟨h1,h2⟩:=yG he;have hs:=sa h1;have hv:((bi s).2.2==0)=true:=by simpa using h1
 have ha:jn s ls=fO s aJ ls:=by rw[jn,if_pos he,kS]
 have hal:=pO s ls aJ;simp only[he,ha,go_sem,simprocAttr];refine ae (wg s) rfl ?_;have hlq:((ls.length:Int) != (ls.length:Int))=false:=by simp
 have hAt:∀i l,ls[i]?=some l->(fO s aJ ls)[i]?=some (fx s (eL s aJ (ls.take i)) l):=λi l h=>yN s ls aJ i l h;generalize hA:fO s aJ ls=A at hal hAt;simp only[hv,bp,hal,hlq,go_sem,simprocAttr];refine aQ [1,3,5,7] ls (by omega) (τ:=Unit) (λ_ _ _=>True) (λdone _=>[(9,.p (.int .i64 done.length))]) (λ_ _=>[.row 17 [.p s.pv],.row 4 [.p (.agg [.int .u16 p,.int .u16 q,.int .u16 r,.int .u16 t])]]) () trivial ?_ ?_ ?_
 .simp only[cw,go_sem,simprocAttr]
 .intro _ _;have hlt:¬((ls.length:Int)<(ls.length:Int)):=by omega
  simp only[hlt,decide_false,go_sem,simprocAttr];refine ae l7 rfl ?_;simp only[go_sem,simprocAttr]
 intro done x rest _ e1 _ hx hlt hnx;have hy:=hAt _ _ hx;generalize hb:eL s aJ (ls.take done.length)=B at hy;generalize ha':fx s B x=a at hy;simp only[hlt,decide_true,hx,go_sem,simprocAttr];refine ae (Fj x) rfl ?_
 cases hsy:du x with
 |error e=>
  obtain⟨r1,r2⟩:=vd hsy;have r3:(e != 0)=true:=by simpa using r2
  simp only[r1,r3,Said.pv,go_sem,simprocAttr];refine ak (Inv:=λ_ _ _=>True) e1 () trivial ?_
  simp only[hnx,go_sem,simprocAttr]
 |ok c=>
 have r1:=yk hsy
 cases hc:Lz c with
 |false=>
  simp only[r1,Said.pv,pm,hc,go_sem,simprocAttr];refine ak (Inv:=λ_ _ _=>True) e1 () trivial ?_
  simp only[hnx,go_sem,simprocAttr]
 |true=>
 obtain⟨n,k,g,rs,rfl⟩:∃n k g rs,c=.lot n k g rs:=by cases c<;>first|exact⟨_,_,_,_,rfl⟩|cases hc
 have hsz:((bs a).size:Int)=(a.length:Int):=by rw[ao]
 have c0:(⟨#[112,117,114,101,32]⟩:ByteArray)=bs kQ:=rfl;have e5:(bs a).extract 0 5=bs (a.take 5):=by rw[cY,mE]
 cases hpu:p4 a with
 |false=>
  by_cases h5:5<=a.length
  .have b1:decide ((a.length:Int)<5)=false:=decide_eq_false (by omega);have h5':(5:Int)<=(a.length:Int):=by omega
   have b2:(bs (a.take 5) != bs kQ)=true:=by rw[bne,cc,AR hpu h5];rfl
   have b3:(bs (a.take 5)==bs kQ)=false:=by rw[cc,AR hpu h5]
   simp only[r1,Said.pv,pm,hc,hy,hlt,hal,hsz,b1,h5',e5,c0,b2,b3,go_sem,simprocAttr];refine ak (Inv:=λ_ _ _=>True) e1 () trivial ?_;simp only[hnx,go_sem,simprocAttr]
  .have b1:decide ((a.length:Int)<5)=true:=decide_eq_true (by omega);simp only[r1,Said.pv,pm,hc,hy,hlt,hal,hsz,b1,go_sem,simprocAttr];refine ak (Inv:=λ_ _ _=>True) e1 () trivial ?_
   simp only[hnx,go_sem,simprocAttr]
 |true=>
 obtain⟨h5,h6⟩:=Na hpu;have b1:decide ((a.length:Int)<5)=false:=decide_eq_false (by omega);have h5':(5:Int)<=(a.length:Int):=by omega
 have b2:(bs (a.take 5) != bs kQ)=false:=by rw[bne,cc,h6];rfl
 have b3:(bs (a.take 5)==bs kQ)=true:=by rw[cc,h6]
 rw[<-ha']at hpu;obtain⟨hse,kk,kx,hk,hkn,hall⟩:=Lc hsy hpu;obtain⟨ht,hrl,hro⟩:=Wx.tk hse;have l1:(1:Int)<=((rs.length+1:Nat):Int):=by omega
 have hkl:=ht.kinds;simp only[r1,Said.pv,pm,hc,hy,hlt,hal,hsz,b1,h5',e5,c0,b2,b3,go_sem,simprocAttr];have hkd:bs k=kx.name:=hkn.symm;have hkin:∀(i:Nat) (y:WxKind),s.wax.kinds[i]?=some y->y.name=bs k->i=kk:=λi y h1 h2=>Es ht h1 hk (h2.trans hkd);simp only[cZ,l1,cu,bL,List.take_succ_cons,List.drop_succ_cons,mE,eF,qN,go_sem,simprocAttr];refine aQ [1,3,5,7,9,10,13] s.wax.kinds (by omega) (τ:=Int) (λdone _ v=>∀(i:Nat) (y:WxKind),done[i]?=some y->y.name=bs k->v=(i:Int)) (λdone v=>[(12,.p (.int .i64 v)),(14,.p (.int .i64 done.length))]) (λ_ _=>[.row 17 [.p s.pv],.row 4 [.p (.agg [.int .u16 p,.int .u16 q,.int .u16 r,.int .u16 t])],.row 4 [.p (Said.pv (cZ (.lot n k g rs)))]]) (-1) (by simp) ?_ ?_ ?_
 .simp only[cw,Said.pv,cZ,bL,go_sem,simprocAttr]
 rotate_left
 .intro d y rest2 v e2 hinv hy2 hlt2 hnx2;have l2:(1:Int)<((2:Nat):Int):=by omega
  have l3:(1:Int)<2:=by decide
  have z2:[n,k].length=2:=rfl;simp only[hlt2,decide_true,hy2,Said.pv,cZ,bp,l2,l3,z2,cu,cw,bL,ck,go_sem,simprocAttr]
  cases hny:(y.name==bs k) with
  |true=>
   have hyk:=(gv _ _).1 hny;simp only[go_sem,simprocAttr];refine ak e2 (d.length:Int) (λi z h1 h2=>?_) ?_
   .rcases rk i d.length with h|h|h
    .rw[aX h]at h1;have g1:=hkin i z (by rw[e2,aX h];exact h1) h2;have g2:=hkin d.length y hy2 hyk;omega
    .rw[h]
    .rw[bW (by omega),na (by simp;omega)]at h1;cases h1
   simp only[hnx2,go_sem,simprocAttr]
   rfl
  |false=>
   simp only[go_sem,simprocAttr];refine ak e2 v (λi z h1 h2=>?_) ?_
   .rcases rk i d.length with h|h|h
    .rw[aX h]at h1;exact hinv i z h1 h2
    .subst h;rw[bW (bB _),wF]at h1;cases h1;rw[h2,(gv _ _).2 rfl]at hny;cases hny
    .rw[bW (by omega),na (by simp;omega)]at h1;cases h1
   simp only[hnx2,go_sem,simprocAttr];rfl
 intro v hinv;have hvk:v=(kk:Int):=hinv kk kx hk hkn;subst hvk;have hlt2:¬((s.wax.kinds.length:Int)<(s.wax.kinds.length:Int)):=by omega
 have b4:decide ((kk:Int)<0)=false:=decide_eq_false (by omega);simp only[hlt2,decide_false,Said.pv,cZ,b4,go_sem,simprocAttr];have hrd:=Wx.Ol s.wax rs (by have:=ht.props;omega);simp only[WxTable.pv]at hrd;refine ae hrd rfl ?_;obtain⟨pn,rfl⟩:=nx hp.1;obtain⟨qn,rfl⟩:=nx hq.1;obtain⟨rn,rfl⟩:=nx hr.1;have hL:=ht.kindsL;obtain⟨P,hP⟩:∃P,P=pn%s.wax.kinds.length:=⟨_,rfl⟩
 obtain⟨Q,hQ⟩:∃Q,Q=qn%s.wax.kinds.length:=⟨_,rfl⟩
 obtain⟨R,hR⟩:∃R,R=rn%1000:=⟨_,rfl⟩
 have hPl:P<s.wax.kinds.length:=by rw[hP];exact uQ _ (by omega)
 have hQl:Q<s.wax.kinds.length:=by rw[hQ];exact uQ _ (by omega)
 have hRl:R<1000:=by rw[hR];exact uQ _ (by omega)
 have n0:¬((s.wax.kinds.length:Int)=0):=by omega
 have t1:((pn:Nat):Int).tmod (s.wax.kinds.length:Int)=(P:Int):=by rw[hP];rfl
 have t2:((qn:Nat):Int).tmod (s.wax.kinds.length:Int)=(Q:Int):=by rw[hQ];rfl
 have t3:((rn:Nat):Int).tmod 1000=(R:Int):=by rw[hR];rfl
 have w1:IntKind.i64.wrap ((pn:Nat):Int)=(pn:Int):=aj (by omega) (by omega);have w2:IntKind.i64.wrap ((qn:Nat):Int)=(qn:Int):=aj (by omega) (by omega);have w3:IntKind.i64.wrap ((rn:Nat):Int)=(rn:Int):=aj (by omega) (by omega);have w4:IntKind.i64.wrap (1+(R:Int))=1+(R:Int):=aj (by omega) (by omega);have w5:IntKind.i64.wrap (1000-(1+(R:Int)))=1000-(1+(R:Int)):=aj (by omega) (by omega);obtain⟨ka,hka⟩:∃x,s.wax.kinds[P]?=some x:=⟨_,dc hPl⟩
 obtain⟨kb,hkb⟩:∃x,s.wax.kinds[Q]?=some x:=⟨_,dc hQl⟩
 have hexp:∀m:Int,0<=m/\m<=1000->af Tryz.prog 15 [s.wax.pv,.slice 1 (rs.map aI) false,.int .i64 P,.int .i64 Q,.int .i64 m] (.bool (Wx.k9 s.wax rs P Q m)):=λm hm=>by
  have:=Wx.IR s.wax rs P Q ka kb m ht hrl hro hka hkb hm;rw[Wx.k9,hka,hkb];exact this
 simp only[WxTable.pv]at hexp;rw[hse];simp only[w1,w2,w3,w4,t1,t2,t3,n0,go_sem,simprocAttr];have fin:∀m v:Int,1<=m->m<=1000->(P=Q->m=1000)->v=pG kk P Q m->Wx.k9 s.wax rs P Q m=true->decide (v<s.wax.purity)=false:=λm v h1 h2 h3 hv hx=>by
  have:=hall P Q m hPl hQl h1 h2 h3 hx;exact decide_eq_false (by omega)
 by_cases hPQ:P=Q
 .have q1:((P:Int)==(Q:Int))=true:=by simp[hPQ]
  simp only[q1,go_sem,simprocAttr];by_cases hPk:P=kk
  .have q2:((P:Int)==(kk:Int))=true:=by simp[hPk]
   have hz:(1000:Int)=pG kk P Q 1000:=by simp[pG,hPk]
   simp only[q2,go_sem,simprocAttr];refine ae (hexp 1000 (by omega)) rfl ?_
   cases hx:Wx.k9 s.wax rs P Q 1000 with
   |false=>
    simp only[go_sem,simprocAttr];refine ak (Inv:=λ_ _ _=>True) e1 () trivial ?_
    simp only[hnx,go_sem,simprocAttr]
   |true=>
    simp only[fin 1000 1000 (by omega) (by omega) (λ_=>rfl) hz hx,go_sem,simprocAttr];refine ak (Inv:=λ_ _ _=>True) e1 () trivial ?_;simp only[hnx,go_sem,simprocAttr]
  .have q2:((P:Int)==(kk:Int))=false:=by simp;omega
   have q3:((Q:Int)==(kk:Int))=false:=by simp;omega
   have hz:(0:Int)=pG kk P Q 1000:=by unfold pG;rw[if_neg (by omega),if_neg (by omega)]
   simp only[q2,q3,go_sem,simprocAttr];refine ae (hexp 1000 (by omega)) rfl ?_
   cases hx:Wx.k9 s.wax rs P Q 1000 with
   |false=>
    simp only[go_sem,simprocAttr];refine ak (Inv:=λ_ _ _=>True) e1 () trivial ?_
    simp only[hnx,go_sem,simprocAttr]
   |true=>
    simp only[fin 1000 0 (by omega) (by omega) (λ_=>rfl) hz hx,go_sem,simprocAttr];refine ak (Inv:=λ_ _ _=>True) e1 () trivial ?_;simp only[hnx,go_sem,simprocAttr]
 .have q1:((P:Int)==(Q:Int))=false:=by simp;omega
  simp only[q1,go_sem,simprocAttr];by_cases hPk:P=kk
  .have q2:((P:Int)==(kk:Int))=true:=by simp[hPk]
   have hz:1+(R:Int)=pG kk P Q (1+R):=by simp[pG,hPk]
   simp only[q2,go_sem,simprocAttr];refine ae (hexp (1+R) (by omega)) rfl ?_
   cases hx:Wx.k9 s.wax rs P Q (1+R) with
   |false=>
    simp only[go_sem,simprocAttr];refine ak (Inv:=λ_ _ _=>True) e1 () trivial ?_
    simp only[hnx,go_sem,simprocAttr]
   |true=>
    simp only[fin (1+R) (1+R) (by omega) (by omega) (λh=>absurd h hPQ) hz hx,go_sem,simprocAttr];refine ak (Inv:=λ_ _ _=>True) e1 () trivial ?_;simp only[hnx,go_sem,simprocAttr]
  .have q2:((P:Int)==(kk:Int))=false:=by simp;omega
   by_cases hQk:Q=kk
   .have q3:((Q:Int)==(kk:Int))=true:=by simp[hQk]
    have hz:1000-(1+(R:Int))=pG kk P Q (1+R):=by unfold pG;rw[if_neg (by omega),if_pos (by omega)]
    simp only[q2,q3,w5,go_sem,simprocAttr];refine ae (hexp (1+R) (by omega)) rfl ?_
    cases hx:Wx.k9 s.wax rs P Q (1+R) with
    |false=>
     simp only[go_sem,simprocAttr];refine ak (Inv:=λ_ _ _=>True) e1 () trivial ?_
     simp only[hnx,go_sem,simprocAttr]
    |true=>
     simp only[fin (1+R) _ (by omega) (by omega) (λh=>absurd h hPQ) hz hx,go_sem,simprocAttr];refine ak (Inv:=λ_ _ _=>True) e1 () trivial ?_;simp only[hnx,go_sem,simprocAttr]
   .have q3:((Q:Int)==(kk:Int))=false:=by simp;omega
    have hz:(0:Int)=pG kk P Q (1+R):=by unfold pG;rw[if_neg (by omega),if_neg (by omega)]
    simp only[q2,q3,go_sem,simprocAttr];refine ae (hexp (1+R) (by omega)) rfl ?_
    cases hx:Wx.k9 s.wax rs P Q (1+R) with
    |false=>
     simp only[go_sem,simprocAttr];refine ak (Inv:=λ_ _ _=>True) e1 () trivial ?_
     simp only[hnx,go_sem,simprocAttr]
    |true=>
     simp only[fin (1+R) 0 (by omega) (by omega) (λh=>absurd h hPQ) hz hx,go_sem,simprocAttr];refine ak (Inv:=λ_ _ _=>True) e1 () trivial ?_;simp only[hnx,go_sem,simprocAttr]
set_option maxRecDepth 100000
theorem Pm{v}(h:u5 Tryz.prog 8 86 v):∃a b,v=.agg [.int .u32 a,.int .u32 b]/\(0<=a/\a<=4294967295)/\(0<=b/\b<=4294967295):=by
 obtain⟨cs,rfl,h⟩:=h;rw[show (bZ Tryz.prog 86==some true)=true by kernel_rfl,dx];obtain⟨l,hl,rfl,hx⟩:=Ak (k:=.u32) (by kernel_rfl) (M7 (m:=2) (e:=85) (by kernel_rfl) h)
 match l,hl,hx with
 |[a,b],_,hx=>exact⟨a,b,rfl,hx _ (by simp),hx _ (by simp)⟩
theorem S9{v}(h:u5 Tryz.prog 8 69 v):∃a b c d,v=.agg [.int .u16 a,.int .u16 b,.int .u16 c,.int .u16 d]/\(0<=a/\a<=65535)/\(0<=b/\b<=65535)/\(0<=c/\c<=65535)/\(0<=d/\d<=65535):=by
 obtain⟨cs,rfl,h⟩:=h;rw[show (bZ Tryz.prog 69==some true)=true by kernel_rfl,dx];obtain⟨l,hl,rfl,hx⟩:=Ak (k:=.u16) (by kernel_rfl) (M7 (m:=4) (e:=68) (by kernel_rfl) h)
 match l,hl,hx with
 |[a,b,c,d],_,hx=>exact⟨a,b,c,d,rfl,hx _ (by simp),hx _ (by simp),hx _ (by simp),hx _ (by simp)⟩
end Ch
set_option maxRecDepth 4000
theorem qT(at':Int)(t:HrTest):∀(l:List HrTest) (r:Span),ki at' r (l++[t])=(if t.kind=at'/\iA t=true then gz (ki at' r l) (dN t).1 else ki at' r l)
 |[],r=>by simp[ki]
 |x::l,r=>by rw[eu,ki,ki,qT at' t l]
def yQ (q p:Span):Prop:=q.lo<=p.lo/\p.hi<=q.hi
theorem Cw{r q:Span}(h:0<=r.lo):yQ (gz r q) r:=by
 unfold gz yQ;rw[if_neg (by omega)];dsimp only;constructor<;>split<;>omega
theorem Nz{s:HrShop}{l:List HrTest}{t:HrTest}{at':Int}(h:0<=(cn s l at').lo):yQ (cn s (l++[t]) at') (cn s l at'):=by
 unfold cn at h |-;rw[qT];split
 .exact Cw h
 .exact⟨ir _,ir _⟩
theorem FC(m:Int)(r:Span)(n:Int):n<=(eb m r).lo↔n*1000<=r.lo*(1000-m):=Frac.down_le (f:=⟨r.lo*(1000-m),1000⟩) (by show (0:Int)<1000;decide) n
theorem FD(m:Int)(r:Span)(n:Int):(eb m r).hi<=n↔r.hi*(1000+m)<=n*1000:=Frac.up_le (f:=⟨r.hi*(1000+m),1000⟩) (by show (0:Int)<1000;decide) n
theorem If{m:Int}{q p:Span}(hm:0<=m/\m<=500)(h:yQ q p):yQ (eb m q) (eb m p):=by
 constructor
 .rw[FC];have h1:=(FC m q _).1 (ir _);have h2:q.lo*(1000-m)<=p.lo*(1000-m):=pU h.1 (by omega);omega
 .rw[FD];have h1:=(FD m q _).1 (ir _);have h2:p.hi*(1000+m)<=q.hi*(1000+m):=pU h.2 (by omega);omega
theorem Ga{x y:HrK}(hx:HrKOk x)(hy:HrKOk y)(hk:x.k=y.k)(h:x.rates.hi<=y.rates.hi):y.promise<=x.promise:=by
 obtain⟨a1,a2,a3,a4⟩:=kU hx;obtain⟨b1,b2,b3,_⟩:=kU hy;apply Classical.byContradiction;intro hc;have h4:=a4 (by omega);have h5:(x.promise+1)*x.rates.hi<=y.promise*y.rates.hi:=s9 (by omega) h (by have:=hx.pos;omega) (by omega);rw[hk]at h4;rw[sZ]at h4;omega
theorem IG{s:HrShop}{l:List HrTest}{at':Int}{k:HrKind}(h1:hrTests s l=0)(h2:ar at' 0 ((s.kinds.length:Int)-1)=true)(h3:s.kinds[at'.toNat]?=some k)
  (h4:0<=(cn s l at').lo) (h5:(eb s.margin (cn s l at')).hi≠0):hrLook s l at'=(⟨k,eb s.margin (cn s l at')⟩,0):=by
 rw[hrLook,if_pos h1];simp only[h2,if_true,h3];rw[if_neg (by omega),if_neg h5]
theorem y9{s:HrShop}{l:List HrTest}{at':Int}(h:hrTests s l=0):uO (cn s l at'):=zT (jC h).2.2 (.inl rfl)
theorem P7{s:HrShop}{l:List HrTest}{t:HrTest}{at':Int}(ht:hrTests s (l++[t])=0)(h:(hrLook s l at').2=0) :
  (hrLook s (l++[t]) at').2=0/\yQ (hrLook s (l++[t]) at').1.rates (hrLook s l at').1.rates/\(hrLook s (l++[t]) at').1.promise<=(hrLook s l at').1.promise:=by
 obtain⟨hx,h1,h2,h3,h4,h5⟩:=iD h;have hm:=(kZ (jC h1).1).2.2;have hw:=Nz (t:=t) h5;have hO:=y9 (at':=at') ht;have hO1:=(y9 (at':=at') h1).resolve_left (by intro e;rw[e]at h5;exact absurd h5 (by decide));have hlo:0<=(cn s (l++[t]) at').lo:=by
  unfold cn at h5 |-;rw[qT];split
  .rename_i hc;have hok:=(fS (n8 (jC ht).2.2 t (by simp))).1;have:=(tz hok).1;unfold gz;rw[if_neg (by omega)];dsimp only;split<;>omega
  .exact h5
 have hO2:=hO.resolve_left (by intro e;rw[e]at hlo;exact absurd hlo (by decide));have hww:=If hm hw;have hpos:=hx.pos;have hne:(eb s.margin (cn s (l++[t]) at')).hi≠0:=by
  have:=hww.2;rw[h4]at hpos;omega
 have hg:=IG ht h2 h3 hlo hne;have hz:(hrLook s (l++[t]) at').2=0:=by rw[hg]
 have hy:=(iD hz).1;refine⟨hz,?_,?_⟩
 .rw[hg,h4];exact hww
 .refine Ga hx hy (by rw[hg]) ?_;rw[hg,h4];exact hww.2
namespace Ch
structure BxOk (s:ChShop) (b:ChBooks):Prop where
 tests:hrTests s.hour b.tests=0
 look:∀x,x∈b.boxes->(hrLook s.hour b.tests x.kind).2=0/\0<=x.hours/\x.hours<=1000000
 few:b.boxes.length<=20
def Db:Cmd->Prop
 |.box _ h=>0<=h/\h<=10000000
 |_=>True
theorem K6{v}{ws}{c}(e:cW v ws=some c):Db c:=by
 unfold cW at e;repeat' split at e
 all_goals first
  |(cases e;done)
  |(cases e;trivial)
  |(simp only[cg]at e;obtain⟨_,_,rfl⟩:=e;trivial)
  |(rename_i h1;cases e;exact(xh h1).2.imp id λh=>h.1)
theorem Do{l}{c}(h:du l=.ok c):Db c:=by
 unfold du at h;split at h
 .cases h
 split at h
 .cases h;trivial
 split at h
 .cases h
 .split at h
  .rename_i hc;cases h;exact K6 hc
  .cases h
theorem IF{s}{l}{t}(h:hrTests s l=0)(hl:l.length<8)(ht:bV s.kinds.length t=0):hrTests s (l++[t])=0:=by
 obtain⟨h1,h2,h3⟩:=jC h;have go:∀l:List HrTest,cr s.kinds.length l=0->cr s.kinds.length (l++[t])=0:=by
  intro l
  induction l with
  |nil=>intro _;simp[cr,ht]
  |cons x l ih=>
   intro h;rw[cr]at h;rw[eu,cr];split at h
   .rename_i h0;rw[if_pos h0];exact ih h
   .rename_i h0;exact absurd h h0
 rw[hrTests,if_pos h1,if_neg (by simp;omega),go l h3]
theorem Wv{s}{b b'}{c}{a}(hb:BxOk s b)(hh:Db c)(h:aO s b c=.ok (b',a)):BxOk s b':=by
 cases hw:c.written with
 |false=>rw[Kl hw h];exact hb
 |true=>
 cases c with
 |lot name kind grams rs=>
  simp only[aO]at h;split at h
  .cases h
  split at h
  .cases h
  split at h
  .cases h
  split at h
  .cases h
  split at h
  .cases h
  cases h
  exact⟨hb.tests,hb.look,hb.few⟩
 |batch name colour lot grams=>
  simp only[aO]at h;split at h
  .cases h
  split at h
  .cases h
  split at h
  .cases h
  split at h
  .cases h
  split at h
  .cases h
  split at h
  .cases h
  split at h
  .cases h
  cases h
  exact⟨hb.tests,hb.look,hb.few⟩
 |drop name=>
  simp only[aO]at h;split at h
  .cases h
  split at h
  .cases h
  split at h
  .cases h
  cases h
  exact⟨hb.tests,hb.look,hb.few⟩
 |pour c=>
  simp only[aO]at h;split at h
  .cases h
  .cases h
   exact⟨hb.tests,hb.look,hb.few⟩
 |test text=>
  simp only[aO]at h;split at h
  .cases h
  rename_i h0;split at h
  .cases h
  rename_i h1;have h0':(aU s.hour text).2=0:=Classical.byContradiction h0;have h1':b.tests.length<8:=Classical.byContradiction h1;have ht:=IF hb.tests h1' (Dx h0').2.1;cases h
  exact⟨ht,λx hx=>⟨(P7 ht (hb.look x hx).1).1,(hb.look x hx).2⟩,hb.few⟩
 |box kind hours=>
  simp only[aO]at h;split at h
  .cases h
  rename_i k n hp;split at h
  .cases h
  rename_i hn;split at h
  .cases h
  rename_i hl;have hl':b.boxes.length<20:=Classical.byContradiction hl;have hn':hours<=n:=Classical.byContradiction hn;cases h;refine⟨hb.tests,λx hx=>?_,by simp;omega⟩;rcases dr.1 hx with hx|hx
  .exact hb.look x hx
  .rw[gh.1 hx];unfold fA at hp;simp only at hp;split at hp
   .cases hp
   split at hp
   .cases hp
   rename_i h2;have h2':=Classical.byContradiction h2;cases hp;have hk:(hrLook s.hour b.tests (aA (λx:HrKind=>x.name==bs kind) s.hour.kinds 0)).2=0:=by
    apply Classical.byContradiction;intro hc;rw[(GE hc).2.2]at h2';exact hc h2'
   rw[(xm hk).2.2]at hn';have:=kU (iD hk).1
   exact⟨hk,hh.1,by dsimp only at hn' |-;omega⟩
 |plan c=>cases hw
 |promise kind=>cases hw
 |look=>cases hw
 |wick kind a1 b1 c1 d1=>cases hw
 |blend a1 b1 c1=>cases hw
 |stock=>cases hw
theorem X7{s}{b}(hb:BxOk s b)(l):BxOk s (oX s b l):=by
 unfold oX
 cases hs:du l with
 |error e=>rw[CI hs];exact hb
 |ok c=>
  cases ha:aO s b c with
  |error e=>rw[rV hs ha];exact hb
  |ok x=>
   obtain⟨b',a⟩:=x;rw[pJ hs ha];exact Wv hb (Do hs) ha
theorem MY{s}(hc:(hrCheck s.hour).2.2=0):∀(d) (b),BxOk s b->BxOk s (eL s b d)
 |[],b,hb=>hb
 |l::d,b,hb=>MY hc d _ (X7 hb l)
theorem Xu{s}(hc:(hrCheck s.hour).2.2=0):BxOk s aJ:=
 ⟨by rw[hrTests,if_pos hc];rfl,λx hx=>(by cases hx),by decide⟩
theorem OA{s}{b}(hb:BxOk s b):(bq s.hour b.tests b.boxes).2=0:=by
 have go:∀(r:List HrBox) (i:Nat),(∀x,x∈r->x∈b.boxes)->(bH s.hour b.tests i r).2=0:=by
  intro r
  induction r with
  |nil=>intro i _;rfl
  |cons x r ih=>
   intro i hm;obtain⟨h1,h2,h3⟩:=hb.look x (hm x (by simp));have hbe:jI s.hour b.tests x=0:=by
    rw[jI,if_pos (iD h1).2.2.1,if_pos (by simp[ar];omega),h1]
   have:=ih (i+1) λy hy=>hm y (by simp[hy]);rw[bH,if_pos hbe,if_pos this]
 have hf:=hb.few;rw[bq,if_pos hb.tests,if_neg (by omega)];exact go b.boxes 0 λ_ h=>h
def Kg (l:List Int):List UInt8:=mf++l.flatMap λn=>32::be n
theorem zb(w):∀l:List Int,joinL (w::l.map be)=w++l.flatMap λn=>32::be n
 |[]=>by simp[joinL]
 |n::l=>by
  rw[bL,joinL,zb (be n) l];simp
theorem P6{s}{b}{l}(hs:du l=.ok .look) :
  fx s b l=if(bq s.hour b.tests b.boxes).1=[] then uf else Kg (bq s.hour b.tests b.boxes).1:=by
 have ha:aO s b .look=.ok (b,if(bq s.hour b.tests b.boxes).1=[] then uf else joinL (mf::(bq s.hour b.tests b.boxes).1.map be)):=rfl;unfold fx;rw[pJ hs ha];dsimp only;rw[zb];rfl
theorem OB{s}{b}{l kind}{hours}(hs:du l=.ok (.box kind hours))(hr:fz (fx s b l)=false){j:Nat}{c}(hj:s.hour.kinds[j]?=some c)(hn:c.name=bs kind) :
  (hrLook s.hour b.tests j).2=0/\(hrLook s.hour b.tests j).1.k=c/\0<=hours/\hours<=(hrLook s.hour b.tests j).1.promise:=by
 unfold fx at hr
 cases ha:aO s b (.box kind hours) with
 |error e=>
  rw[rV hs ha]at hr;rw[vm]at hr
  cases hr
 |ok x=>
  obtain⟨b',a⟩:=x;simp only[aO]at ha;split at ha
  .cases ha
  rename_i k n hp;split at ha
  .cases ha
  rename_i hn1;have hn':hours<=n:=Classical.byContradiction hn1;unfold fA at hp;simp only at hp;split at hp
  .cases hp
  rename_i hi0;split at hp
  .cases hp
  rename_i h2;have h2':=Classical.byContradiction h2;cases hp;have hk:(hrLook s.hour b.tests (aA (λx:HrKind=>x.name==bs kind) s.hour.kinds 0)).2=0:=by
   apply Classical.byContradiction;intro hc;rw[(GE hc).2.2]at h2';exact hc h2'
  have hlo:=iD hk;have hcheck:=(jC hlo.2.1).1;have hij:aA (λx:HrKind=>x.name==bs kind) s.hour.kinds 0=(j:Int):=by
   rcases lW (λx:HrKind=>x.name==bs kind) s.hour.kinds 0 with h|⟨i,x,e1,e2,e3⟩
   .exact absurd h hi0
   .rw[iq]at e1;rw[e1];have:=sy hcheck e2 hj (by rw[hn];exact(gv _ _).1 e3);rw[this]
  rw[hij]at hk hn' hlo;rw[(xm hk).2.2]at hn';refine⟨hk,?_,(Do hs).1,hn'⟩;have:=hlo.2.2.2.1;rw[g7,hj]at this;exact(lq this).symm
end Ch
end Abs
end Go.Proofs.YtoapoaoelpcniaaGreatDoor
