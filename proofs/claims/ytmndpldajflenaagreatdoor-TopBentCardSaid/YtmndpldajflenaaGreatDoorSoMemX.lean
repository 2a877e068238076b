/- CONTRACTS of the program's functions, and laws on what they return. No conditions but those in the theorems' heads. -/
import Derived.Test.YtmndpldajflenaaGreatDoorAbsPermX
import Derived.Test.YtmndpldajflenaaGreatDoorSoAX
import Derived.Lib.UnsafeStr
set_option linter.all false
set_option maxHeartbeats 4000000
namespace Go.Proofs.YtmndpldajflenaaGreatDoor
namespace Abs
namespace So
theorem yy(n)(f):bw n (.memo f)=True:=rfl
theorem ER(n)(k)(id):bS n (.ref k id)=(id<n):=rfl
attribute [go_sem] yy ER
theorem Dw{P}{H}{ops}{rest}{Q}{dst}{base}{A}{f}{args}{v}(t)(hc:aN P f args base (λr h'=>r=.ret v/\h'=base))
  (hb:∀o,o∈base->bw base.length o/\o.isDead=false) (ha:∀a,a∈args->below base.length a) (hs0:A.h=base++t) (k:@WO ⟨P,H,ops,rest,Q⟩ (A.put dst v A.h)):@WF ⟨P,H,ops,rest,Q,dst⟩ A f args:=by
 refine fj (h':=A.h) ?_ k;rw[hs0];refine(pw (λo ho=>(hb o ho).1) ha (hc.mono λr h' hr=>⟨by rw[hr.2],hr⟩) t).mono λr h'' hr=>?_;obtain⟨h1,e,_,hr⟩:=hr;exact⟨hr.1,by rw[e,hr.2]⟩
theorem Cp{P}{f}{args}{h}{R}{id}{es}{φ}(hg:lu φ)(hf:∀p,p∈es->φ p.1 p.2=true)(hid:h[id]?=some (.mp es))
  (k:aN P f args (h.set id (.memo φ)) R):aN P f args h R:=by
 intro M0 m w cargs hS hargs;obtain⟨hk,hev⟩:=qL (S:=⟨m,h,w⟩) hS hg hf hid;have:=k M0 m w cargs hk (hargs.imp λv a _ hr=>hev.keep hr);refine⟨this.1,this.2.mono λe w' hh=>?_⟩;obtain⟨r,h'',m',hR,hev',hk',hend⟩:=hh;exact⟨r,h'',m',hR,hev.trans (by simpa using hev'),hk',hend⟩
set_option maxRecDepth 4000
def gO (p:Int×Int):PV:=.agg [.int .i64 p.1,.int .i64 p.2]
attribute [go_sem] gO
def State.nums (x:State):List Int:=x.day::x.store::x.hot::x.jumps
theorem wR(x:State):x.pv=.agg (x.nums.map intPV):=rfl
theorem Kq(l:List Int):(l.map intPV).map xf=List.replicate l.length .int:=by
 induction l with
 |nil=>rfl
 |cons a l ih=>rw[iu,iu,ih,du,wv];rfl
theorem zP{x y:State}(h:x.jumps.length=y.jumps.length):jF x.pv y.pv=some (decide (x.nums=y.nums)):=by
 rw[wR,wR];show cb ((x.nums.map intPV).map xf) (x.nums.map intPV) (y.nums.map intPV)=_;rw[Kq];exact oN _ _ (by simp[State.nums,h])
theorem Aq{x y:State}(h:x.nums=y.nums):x=y:=by
 cases x;cases y;simp only[State.nums,List.cons.injEq]at h;obtain⟨rfl,rfl,rfl,rfl⟩:=h;rfl
def Gr:List CK:=List.replicate 64 .int
theorem JZ:sv Tryz.prog 110=.agg Gr:=by kernel_rfl
attribute [go_sem high] JZ
theorem LJ{x:State}(h:x.jumps.length=61):cb Gr (.int .i64 x.day::.int .i64 x.store::.int .i64 x.hot::x.jumps.map intPV) (.int .i64 x.day::.int .i64 x.store::.int .i64 x.hot::x.jumps.map intPV)=some true:=by
 have:=oN x.nums x.nums rfl;have e:x.nums.length=64:=by simp[State.nums,h]
 rw[e,decide_eq_true rfl]at this;exact this
def nT:List PV->Option (List Int)
 |[]=>some []
 |.int .i64 n::r=>match nT r with|some l=>some (n::l)|none=>none
 |_::_=>none
theorem vA:∀l:List Int,nT (l.map intPV)=some l
 |[]=>rfl
 |n::l=>by
  show (match nT (l.map intPV) with|some l=>some (n::l)|none=>none)=_;rw[vA l]
theorem xL:∀{cs:List PV} {l:List Int},nT cs=some l->cs=l.map intPV
 |[],l,h=>by cases h;rfl
 |c::cs,l,h=>by
  unfold nT at h;split at h
  .rename_i h0;cases h0
  .rename_i n r h0;cases h0;split at h
   .rename_i l' hl;cases h;rw[xL hl];rfl
   .cases h
  .cases h
def zQ (s:SoSeason) (x:State):Bool:=decide (0<=x.day+1/\(x.day+1).toNat<=days s/\0<=x.hot/\x.hot<=x.day+1/\x.jumps.length=61)&&x.jumps.all λn=>decide (0<=n/\n<=x.day+2)
theorem Lq{s:SoSeason}{x:State}(h:zQ s x=true):StOk s x (x.day+1).toNat:=by
 unfold zQ at h;simp only[bY,decide_eq_true_eq,iw]at h;obtain⟨⟨h1,h2,h3,h4,h5⟩,h6⟩:=h;exact⟨by omega,h2,by omega,h5,λn hn=>by have:=h6 n hn;omega⟩
theorem LD{s:SoSeason}{x:State}{n:Nat}(h:StOk s x n):zQ s x=true/\(x.day+1).toNat=n:=by
 have h1:=h.day;have h2:=h.le;have h3:=h.hot;have h4:=h.len
 have hn:(x.day+1).toNat=n:=by omega
 refine⟨?_,hn⟩;unfold zQ;simp only[bY,decide_eq_true_eq,iw];exact⟨⟨by omega,by omega,by omega,by omega,h4⟩,λm hm=>by have:=h.num m hm;omega⟩
def pM (v:PV) (p:Int×Int):Bool:=match v with|.agg [.int .i64 a,.int .i64 b]=>decide (a=p.1)&&decide (b=p.2)|_=>false
theorem FT{v:PV}{p:Int×Int}(h:pM v p=true):v=gO p:=by
 unfold pM at h;split at h
 .simp only[bY,decide_eq_true_eq]at h;rw[gO,h.1,h.2]
 .cases h
def gP (s:SoSeason) (k v:PV):Bool:=match k with
 |.agg cs=>match nT cs with
  |some (d::st::ht::js)=>zQ s ⟨d,st,ht,js⟩&&pM v (bq s (days s-(d+1).toNat) ⟨d,st,ht,js⟩)
  |_=>false
 |_=>false
theorem ut{s:SoSeason}{k v:PV}(h:gP s k v=true):∃(x:State) (n:Nat),StOk s x n/\k=x.pv/\v=gO (bq s (days s-n) x):=by
 unfold gP at h;split at h
 .split at h
  .rename_i cs _ d st ht js hc;simp only[bY]at h;exact⟨⟨d,st,ht,js⟩,_,Lq h.1,by rw[xL hc];rfl,FT h.2⟩
  .cases h
 .cases h
theorem H1{s:SoSeason}{x:State}{n:Nat}(h:StOk s x n):gP s x.pv (gO (bq s (days s-n) x))=true:=by
 obtain⟨h1,h2⟩:=LD h;rw[wR];show (match nT (x.nums.map intPV) with|some (d::st::ht::js)=>zQ s ⟨d,st,ht,js⟩&&pM (gO (bq s (days s-n) x)) (bq s (days s-(d+1).toNat) ⟨d,st,ht,js⟩)|_=>false)=true;rw[vA];show (zQ s x&&pM (gO (bq s (days s-n) x)) (bq s (days s-(x.day+1).toNat) x))=true;rw[h1,h2];simp[pM,gO]
theorem MU{s:SoSeason}{x:State}{n m:Nat}(h:StOk s x n)(k:StOk s x m):n=m:=by
 have:=h.day;have:=k.day;omega
theorem HZ(s:SoSeason):lu (gP s):=by
 intro k q v u hk hq;obtain⟨x,n,hx,rfl,rfl⟩:=ut hk;obtain⟨y,m,hy,rfl,rfl⟩:=ut hq;refine⟨_,zP (hx.len.trans hy.len.symm),λh=>?_⟩;have:=Aq (of_decide_eq_true h);rw[this]
theorem xV{s:SoSeason}{x:State}{n:Nat}(hx:StOk s x n):∀{es:List (PV×PV)},(∀p,p∈es->gP s p.1 p.2=true)->lb x.pv es=some none\/lb x.pv es=some (some (gO (bq s (days s-n) x)))
 |[],_=>.inl rfl
 |(k,v)::r,h=>by
  obtain⟨y,m,hy,hk,hv⟩:=ut (h (k,v) (by simp));dsimp only at hk hv;subst hk;subst hv;rw[lb,zP (hx.len.trans hy.len.symm)];by_cases hb:x.nums=y.nums
  .have:=Aq hb;subst this;rw[decide_eq_true rfl,MU hx hy];exact .inr rfl
  .rw[decide_eq_false hb];exact xV hx λp hp=>h p (by simp[hp])
theorem FD{s:SoSeason}(h:SoOk s):∀(k:Nat) (x:State),-1<=(bq s k x).1/\(bq s k x).1<=200000*k
 |0,_=>by simp[bq]
 |k+1,x=>by
  have key:∀(l:List Nat) (best:Int×Int),(∀i∈l,i<s.stores.length)->-1<=best.1->best.1<=200000*((k+1:Nat):Int)->-1<=(l.foldl (dw s x (bq s k)) best).1/\(l.foldl (dw s x (bq s k)) best).1<=200000*((k+1:Nat):Int):=by
   intro l
   induction l with
   |nil=>intro best _ h1 h2;exact⟨h1,h2⟩
   |cons i l ih=>
    intro best hl h1 h2;have hi:=hl i List.mem_cons_self;have hb:=FD h k (aO s x i);have hr:0<=((s.stores[i]?).map (·.rent)).getD 0/\((s.stores[i]?).map (·.rent)).getD 0<=100000:=by
     rw[aT hi];exact h.rent _ (nk hi)
    have hm:=h.move;have:-1<=(dw s x (bq s k) best i).1/\(dw s x (bq s k) best i).1<=200000*((k+1:Nat):Int):=by
     unfold dw;split
     .split
      .exact⟨h1,h2⟩
      .dsimp only;generalize hmv:(if 0<=x.store/\x.store≠i then s.move else 0)=mv;have:0<=mv/\mv<=100000:=by rw[<-hmv];split<;>omega
       split
       .constructor<;>(dsimp only;omega)
       .exact⟨h1,h2⟩
     .exact⟨h1,h2⟩
    exact ih _ (λa ha=>hl a (eU _ ha)) this.1 this.2
  exact key _ _ (λi hi=>bX.1 hi) (by decide) (by show (-1:Int)<=_;omega)
def hZ (s:SoSeason) (v0:PV) (mm:AObj):Heap:=[.row 6 [.p v0],.row 6 [.p s.pv],mm,.row 1 [.ref .mp 2],.row 1 [.func (.func 31) [] [.ptr 1 1 0 0,.ptr 3 1 0 0,.ptr 4 1 0 0]]]
attribute [go_sem] hZ
theorem rn{s:SoSeason}{v0:PV}{φ:PV->PV->Bool}:∀o,o∈hZ s v0 (.memo φ)->bw (hZ s v0 (.memo φ)).length o/\o.isDead=false:=by
 intro o ho;simp only[hZ,dQ,rM,or_false]at ho;rcases ho with rfl|rfl|rfl|rfl|rfl<;>simp[bw,below,de,bS,bP,AObj.isDead,hZ]
theorem ky{s:SoSeason}{v0:PV}{es:List (PV×PV)}:∀o,o∈hZ s v0 (.mp es)->bw 5 o:=by
 intro o ho;simp only[hZ,dQ,rM,or_false]at ho;rcases ho with rfl|rfl|rfl|rfl|rfl<;>simp[bw,below,de,bS,bP,AObj.isDead,hZ]
def cx (s:SoSeason) (x:State) (n k:Nat):Int×Int:=(List.range k).foldl (dw s x (bq s n)) (-1,-1)
theorem Cy{s:SoSeason}{x:State}{n k:Nat}:cx s x n (k+1)=dw s x (bq s n) (cx s x n k) k:=by
 unfold cx;rw[List.range_succ,oY];rfl
def Jk (s:SoSeason) (v0:PV) (mm:AObj) (x:State) (p:Int×Int):Heap:=
 [.row 6 [.p v0],.row 6 [.p s.pv],mm,.row 1 [.ref .mp 2],.row 1 [.func (.func 31) [] [.ptr 1 1 0 0,.ptr 3 1 0 0,.ptr 4 1 0 0]],
  .row 64 [.p x.pv],.row 2 [.p (.agg [.int .i64 0,.int .i64 0])],.row 2 [.p (.agg [.int .i64 0,.int .i64 0])],.row 2 [.p (gO p)]]
attribute [go_sem] Jk
theorem Je(s:SoSeason)(v0:PV)(h:SoOk s):∀(n:Nat) (x:State) (k:Nat),StOk s x k->k+n=days s ->
  aN Tryz.prog 31 [.p x.pv,.ptr 1 1 0 0,.ptr 3 1 0 0,.ptr 4 1 0 0] (hZ s v0 (.memo (gP s)))
   (λr h'=>r=.ret (.p (gO (bq s n x)))/\h'=hZ s v0 (.memo (gP s))):=by
 intro n
 induction n with
 |zero=>
  intro x k hx hk;refine vG (id:=2) (φ:=gP s) rfl λhg es hf=>?_;show aN _ _ _ (hZ s v0 (.mp es)) _;refine dS (am Tryz.func31 rfl) rfl ?_;have hdy:=h.day8;have hd:days s=k:=by omega
  have hne:s.stores≠[]:=by intro e;have:=h.len;rw[e]at this;simp at this
  have w1:IntKind.i64.wrap ((days s:Int)-1)=days s-1:=aj (by omega) (by omega);have hxd:(x.day==(days s:Int)-1)=true:=by rw[hx.day,hd];simp
  simp only[hx.len,go_sem,simprocAttr];refine ao (tB s hne) rfl ?_;simp only[w1,hxd,go_sem,simprocAttr];refine⟨_,_,rfl,rfl,?_,trivial,.inr rfl,rfl,rfl⟩
  exact λo ho=>ky (es:=es) (s:=s) (v0:=v0) o ho
 |succ n ih=>
 intro x k hx hk;have hdy:=h.day8;have hne:s.stores≠[]:=by intro e;have:=h.len;rw[e]at this;simp at this
 have hdk:days s-k=n+1:=by omega
 have hkd:k<days s:=by omega
 have w1:IntKind.i64.wrap ((days s:Int)-1)=days s-1:=aj (by omega) (by omega);have hxd:(x.day==(days s:Int)-1)=false:=by rw[hx.day];simp;omega
 have hsl:=h.len;refine vG (id:=2) (φ:=gP s) rfl λhg es hf=>?_;show aN _ _ _ (hZ s v0 (.mp es)) _;have hko:=LJ hx.len;refine dS (am Tryz.func31 rfl) rfl ?_;simp only[hx.len,go_sem,simprocAttr];refine ao (tB s hne) rfl ?_;simp only[w1,hxd,hx.len,go_sem,simprocAttr];rcases xV hx hf with hq|hq
 rotate_left
 .rw[hdk]at hq;simp only[State.pv,gO]at hq;simp only[hx.len,hko,hq,go_sem,simprocAttr];refine⟨_,_,rfl,rfl,?_,trivial,.inr rfl⟩;exact λo ho=>ky (es:=es) (s:=s) (v0:=v0) o ho
 simp only[State.pv]at hq;simp only[hx.len,hko,hq,go_sem,simprocAttr];refine mb (Fk (id:=2) hg hf rfl) ?_;simp only[go_sem,simprocAttr];refine bt [1,2,3,4,5,8,32,33] s.stores (by omega) (τ:=Unit) (λdone rest _=>True) (λdone _=>[(34,.p (.int .i64 done.length))]) (λdone _=>Jk s v0 (.memo (gP s)) x (cx s x n done.length)) () trivial ?_ ?_ ?_
 .simp only[hx.len,go_sem,simprocAttr];rfl
 .intro _ _;have hka:=H1 hx;rw[hdk]at hka;have hbt:cx s x n s.stores.length=bq s (n+1) x:=rfl;simp only[State.pv,gO]at hka;simp only[hx.len,hbt,hko,hka,go_sem,simprocAttr];refine⟨_,_,rfl,rfl,?_,trivial,.inl rfl⟩;exact λo ho=>(rn (φ:=gP s) (s:=s) (v0:=v0) o ho).1
 .intro done y r _ e1 _ hy hlt hnx;have hdl:done.length<s.stores.length:=by omega
  have haf:=rq h (i:=done.length) hx hkd;simp only[hlt,hy,hx.len,go_sem,simprocAttr];refine aa (Bn s h x k done.length hdl hx hkd) rfl ?_;simp only[haf.len,go_sem,simprocAttr];have hbs:=Cy (s:=s) (x:=x) (n:=n) (k:=done.length);cases hok:pP s (aO s x done.length)
  .have hb1:cx s x n (done.length+1)=cx s x n done.length:=by rw[hbs,dw,hok];rfl
   simp only[go_sem,simprocAttr];refine aq e1 () trivial ?_;simp only[hnx,ay,aC,hb1,go_sem,simprocAttr]
  have hrB:=FD h n (aO s x done.length);have hren:=h.rent y (by rw[e1];simp);have hmv:=h.move;have hre:((s.stores[done.length]?).map (·.rent)).getD 0=y.rent:=by rw[hy];rfl
  simp only[haf.len,go_sem,simprocAttr];refine Dw (base:=hZ s v0 (.memo (gP s))) [_,_,_,_,_,_] (ih (aO s x done.length) (k+1) haf (by omega)) rn ?_ rfl ?_
  .simp only[go_sem,simprocAttr]
  simp only[go_sem,simprocAttr];cases hneg:decide ((bq s n (aO s x done.length)).1<0);rotate_left
  .have hneg':(bq s n (aO s x done.length)).1<0:=by simpa using hneg
   have hb1:cx s x n (done.length+1)=cx s x n done.length:=by rw[hbs,dw,if_pos hok,if_pos hneg']
   simp only[go_sem,simprocAttr];refine aq e1 () trivial ?_;simp only[hnx,ay,aC,hb1,go_sem,simprocAttr]
  have hneg':¬(bq s n (aO s x done.length)).1<0:=by simpa using hneg
  have w2:IntKind.i64.wrap ((bq s n (aO s x done.length)).1+y.rent)=(bq s n (aO s x done.length)).1+y.rent:=aj (by omega) (by omega);have w3:IntKind.i64.wrap ((bq s n (aO s x done.length)).1+y.rent+s.move)=(bq s n (aO s x done.length)).1+y.rent+s.move:=aj (by omega) (by omega);simp only[w2,go_sem,simprocAttr];cases g0:decide (0<=x.store)
  .have g0':¬0<=x.store:=by simpa using g0
   have hb1:cx s x n (done.length+1)=if(cx s x n done.length).1<0\/(bq s n (aO s x done.length)).1+y.rent<(cx s x n done.length).1 then((bq s n (aO s x done.length)).1+y.rent,(done.length:Int)) else cx s x n done.length:=by
    rw[hbs,dw,if_pos hok,if_neg hneg'];dsimp only;rw[hre,if_neg (show ¬(0<=x.store/\x.store≠(done.length:Int)) from λh=>g0' h.1),mH]
   simp only[w3,go_sem,simprocAttr];cases g1:decide ((cx s x n done.length).1<0)
   .cases g2:decide ((bq s n (aO s x done.length)).1+y.rent<(cx s x n done.length).1)
    .rw[if_neg (by simp only[not_or];exact⟨by simpa using g1,by simpa using g2⟩)]at hb1;simp only[g2,go_sem,simprocAttr];refine aq e1 () trivial ?_;simp only[hnx,ay,aC,hb1,go_sem,simprocAttr]
    .rw[if_pos (.inr (by simpa using g2))]at hb1;simp only[g2,go_sem,simprocAttr];refine aq e1 () trivial ?_;simp only[hnx,ay,aC,hb1,go_sem,simprocAttr]
   .rw[if_pos (.inl (by simpa using g1))]at hb1;simp only[go_sem,simprocAttr];refine aq e1 () trivial ?_;simp only[hnx,ay,aC,hb1,go_sem,simprocAttr]
  have g0':0<=x.store:=by simpa using g0
  simp only[go_sem,simprocAttr];cases g3:(x.store != (done.length:Int))
  .have g3':¬(x.store≠(done.length:Int)):=by simpa using g3
   have hb1:cx s x n (done.length+1)=if(cx s x n done.length).1<0\/(bq s n (aO s x done.length)).1+y.rent<(cx s x n done.length).1 then((bq s n (aO s x done.length)).1+y.rent,(done.length:Int)) else cx s x n done.length:=by
    rw[hbs,dw,if_pos hok,if_neg hneg'];dsimp only;rw[hre,if_neg (show ¬(0<=x.store/\x.store≠(done.length:Int)) from λh=>g3' h.2),mH]
   simp only[w3,go_sem,simprocAttr];cases g1:decide ((cx s x n done.length).1<0)
   .cases g2:decide ((bq s n (aO s x done.length)).1+y.rent<(cx s x n done.length).1)
    .rw[if_neg (by simp only[not_or];exact⟨by simpa using g1,by simpa using g2⟩)]at hb1;simp only[g2,go_sem,simprocAttr];refine aq e1 () trivial ?_;simp only[hnx,ay,aC,hb1,go_sem,simprocAttr]
    .rw[if_pos (.inr (by simpa using g2))]at hb1;simp only[g2,go_sem,simprocAttr];refine aq e1 () trivial ?_;simp only[hnx,ay,aC,hb1,go_sem,simprocAttr]
   .rw[if_pos (.inl (by simpa using g1))]at hb1;simp only[go_sem,simprocAttr];refine aq e1 () trivial ?_;simp only[hnx,ay,aC,hb1,go_sem,simprocAttr]
  have g3':x.store≠(done.length:Int):=by simpa using g3
  have hb1:cx s x n (done.length+1)=if(cx s x n done.length).1<0\/(bq s n (aO s x done.length)).1+y.rent+s.move<(cx s x n done.length).1 then((bq s n (aO s x done.length)).1+y.rent+s.move,(done.length:Int)) else cx s x n done.length:=by
   rw[hbs,dw,if_pos hok,if_neg hneg'];dsimp only;rw[hre,if_pos (show 0<=x.store/\x.store≠(done.length:Int) from⟨g0',g3'⟩)]
  simp only[w3,go_sem,simprocAttr];cases g1:decide ((cx s x n done.length).1<0)
  .cases g2:decide ((bq s n (aO s x done.length)).1+y.rent+s.move<(cx s x n done.length).1)
   .rw[if_neg (by simp only[not_or];exact⟨by simpa using g1,by simpa using g2⟩)]at hb1;simp only[g2,go_sem,simprocAttr];refine aq e1 () trivial ?_;simp only[hnx,ay,aC,hb1,go_sem,simprocAttr]
   .rw[if_pos (.inr (by simpa using g2))]at hb1;simp only[g2,go_sem,simprocAttr];refine aq e1 () trivial ?_;simp only[hnx,ay,aC,hb1,go_sem,simprocAttr]
  .rw[if_pos (.inl (by simpa using g1))]at hb1;simp only[go_sem,simprocAttr];refine aq e1 () trivial ?_;simp only[hnx,ay,aC,hb1,go_sem,simprocAttr]
theorem inTruth_of{s:SoSeason}:∀(l:List Nat) (x:State) (ws:List Int),ws.length=l.length ->
  (∀(j:Nat) (i:Nat) (w:Int),l[j]?=some i->ws[j]?=some w->(aF s i (x.day+1+j)).lo<=w/\w<=(aF s i (x.day+1+j)).hi/\0<=w/\w<=60)->tF s x l ws
 |[],_,[],_,_=>trivial
 |[],_,_::_,h,_=>by simp at h
 |_::_,_,[],h,_=>by simp at h
 |i::l,x,w::ws,h,hw=>by
  have h0:=hw 0 i w rfl rfl;simp only[Int.natCast_zero,mH]at h0;refine⟨h0.1,h0.2.1,h0.2.2.1,h0.2.2.2,inTruth_of l _ ws (by simpa using h) λj i' w' h1 h2=>?_⟩;have:=hw (j+1) i' w' (by simpa using h1) (by simpa using h2);have e:(aO s x i).day+1+(j:Int)=x.day+1+((j+1:Nat):Int):=by
   show x.day+1+1+(j:Int)=_;omega
  rw[e];exact this
theorem cheapest_safe{s:SoSeason}{k:Nat}(h:0<=(bq s k cy).1)(ht:1<=s.candle.times){ws:List Int}(hw:tF s cy (mI s k cy) ws) :
  dW s.candle ws 0 0=-1/\cQ s.candle ws none 0 0=-1:=
 qt _ _ ws 0 0 none 0 (way_sound k cy h) hw (dF _) (dF _) (dF _) (by omega) ⟨rfl,rfl⟩
def idxPV (n:Nat):PV:=.int .i64 n
attribute [go_sem] idxPV
def cents (s:SoSeason):Int:=(bq s (days s) cy).1
def way (s:SoSeason):List Nat:=mI s (days s) cy
def cheapPV (s:SoSeason):PV:=
 if(aD s).2.2=0 then(if 0<=cents s then .tuple [.slice 1 ((way s).map idxPV) false,.int .i64 (cents s),.int .i64 0] else .tuple [.nilslice,.int .i64 0,.int .i64 9])
 else .tuple [.nilslice,.int .i64 0,.int .i64 (aD s).2.2]
theorem F7(s:SoSeason):eS Tryz.prog 6 [s.pv] (cheapPV s):=by
 refine di (am Tryz.func6 rfl) rfl ?_;simp only[go_sem,simprocAttr];refine aa (Bm s) rfl ?_;simp only[cd,go_sem,simprocAttr];cases h0:((aD s).2.2 != 0)
 rotate_left
 .have h0':¬(aD s).2.2=0:=by simpa using h0
  simp only[cheapPV,if_neg h0',go_sem,simprocAttr]
 have h0':(aD s).2.2=0:=by simpa using h0
 have h:=soOk_of h0';have hdy:=h.day8;simp only[go_sem,simprocAttr];refine aa (vV 0 (by decide)) rfl ?_;have hb0:(⟨((0:Nat):Int)-1,-1,0,b9⟩:State)=cy:=rfl;have zl:b9.length=61:=by decide
 have hR0:=Je s s.pv h (days s) cy 0 Bv (by omega);have hP1:=pw (λo ho=>(rn (φ:=gP s) o ho).1) (args:=[.p cy.pv,.ptr 1 1 0 0,.ptr 3 1 0 0,.ptr 4 1 0 0]) (by simp only[go_sem,simprocAttr]) (hR0.mono λr h' hr=>⟨by rw[hr.2],hr⟩) [.row 64 [.p cy.pv]];simp only[hb0,cy,zl,go_sem,simprocAttr];refine fj (v:=.p (gO (bq s (days s) cy))) (h':=hZ s s.pv (.memo (gP s))++[.row 64 [.p cy.pv]]) (Cp (id:=2) (φ:=gP s) (es:=[]) (HZ s) (by simp) rfl (hP1.mono λr h' hr=>?_)) ?_
 .obtain⟨h1,e,_,hr⟩:=hr;exact⟨hr.1,by rw[e,hr.2]⟩
 have hce:(bq s (days s) cy).1=cents s:=rfl;simp only[hce,go_sem,simprocAttr];cases hneg:decide (cents s<0);rotate_left
 .have hneg':¬0<=cents s:=by have:cents s<0:=(by simpa using hneg);omega
  simp only[cheapPV,if_pos h0',if_neg hneg',go_sem,simprocAttr]
 have hneg':0<=cents s:=by have:¬cents s<0:=(by simpa using hneg);omega
 have hne:s.stores≠[]:=by intro e;have:=h.len;rw[e]at this;simp at this
 have w1:IntKind.i64.wrap ((days s:Int)-1)=days s-1:=aj (by omega) (by omega);simp only[go_sem,simprocAttr];refine dq 2 1 (by simp only[go_sem,simprocAttr]) ?_;simp only[go_sem,simprocAttr]
 refine aS [3,5,7,8] (σ:=Nat×List Nat×State) (λq=>q.1<=days s/\StOk s q.2.2 (days s-q.1)/\0<=(bq s q.1 q.2.2).1/\way s=q.2.1++mI s q.1 q.2.2) (λq=>q.1)
  (λq=>[(2,.slice 6 q.2.1.length 0 q.2.1.length)]) (λq=>hZ s s.pv (.memo (gP s))++[.row 64 [.p q.2.2.pv],.row 1 (q.2.1.map λi=>.p (idxPV i))]) (days s,[],cy) ⟨by omega,by rw[qk];exact Bv,hneg',rfl⟩ ?_ ?_
 .simp only[cy,zl,go_sem,simprocAttr]
 rintro⟨n,done,x⟩ ⟨hn,hx,hr,hw⟩
 dsimp only at hn hx hr hw;dsimp only;have hlen:done.length+n=days s:=by
  have:=congrArg List.length hw;rw[ay,way,way_len,way_len]at this;omega
 simp only[hx.len,go_sem,simprocAttr];refine ao (tB s hne) rfl ?_;simp only[w1,hx.len,go_sem,simprocAttr]
 cases n with
 |zero=>
  have hlt:¬x.day<(days s:Int)-1:=by rw[hx.day];omega
  have hwd:way s=done:=by rw[hw];simp[mI]
  simp only[hlt,decide_false,cheapPV,if_pos h0',if_pos hneg',hwd,go_sem,simprocAttr];rw[show (done.map λ(i:Nat)=>AV.p (PV.int .i64 (i:Int)))=done.map (λ(i:Nat)=>AV.p (idxPV i)) from rfl,fg 6 _ idxPV (λ_=>rfl)];simp
  exact dz (by simp)
 |succ n=>
  obtain⟨i,hi,hil,hok,hr2⟩:=CY hr;have hlt:x.day<(days s:Int)-1:=by rw[hx.day];omega
  have hwi:mI s (n+1) x=i::mI s n (aO s x i):=by rw[mI,hi];rfl
  have hk1:days s-n=days s-(n+1)+1:=by omega
  have haf:=rq h (i:=i) hx (by omega);rw[<-hk1]at haf;have hrm:done.length+1<=ai:=by simp[ai];omega
  simp only[hlt,decide_true,hx.len,go_sem,simprocAttr];refine Dw (base:=hZ s s.pv (.memo (gP s))) [_,_] (Je s s.pv h (n+1) x (days s-(n+1)) hx (by omega)) rn ?_ rfl ?_
  .simp only[go_sem,simprocAttr]
  simp only[hi,hx.len,go_sem,simprocAttr];refine aa (Bn s h x (days s-(n+1)) i hil hx (by omega)) rfl ?_;simp only[hx.len,haf.len,hrm,go_sem,simprocAttr];refine ak (n,done++[i],aO s x i) ⟨by dsimp only;omega,haf,hr2,by rw[hw,hwi];simp⟩ (by dsimp only;omega) ?_;simp only[haf.len,ay,aC,kg,go_sem,simprocAttr]
theorem cCheapest(s:SoSeason):PCall Tryz.prog 6 [s.pv] (cheapPV s):=(F7 s).pure
def bO (s:SoSeason) (way:List Int):Int:=
 if(aD s).2.2=0 then(if an way.length 1 (days s)=true then(if(way.any λi=>!an i 0 ((s.stores.length:Int)-1))=true then 4 else 0) else 3) else(aD s).2.2
def jh (s:SoSeason) (way:List Int):Int:=if an way.length 1 (days s)=true then(if(way.any λi=>!an i 0 ((s.stores.length:Int)-1))=true then 4 else 0) else 3
def keepF (s:SoSeason) (store:Nat):Nat->State->Int->Int
 |0,_,n=>n
 |k+1,x,n=>if pP s (aO s x store)=true then keepF s store k (aO s x store) (n+1) else n
def rU (s:SoSeason):List Int->Int->List Int
 |[],_=>b9
 |i::l,d=>f' s.candle (aF s i.toNat d) (rU s l (d+1))
def ib (c:SoCandle) (last:Option Int) (left:Int):List Int->Int->Option (Int×Int)
 |[],_=>none
 |n::l,w=>if 0<n/\(match last with|some b=>if fG c b w=true then n+1 else n|none=>n)=left then some (w,n) else ib c last left l (w+1)
def uX (s:SoSeason):List Int->Int->Option Int->Int->Option (List Int)
 |[],_,_,_=>some []
 |i::l,d,last,left=>match ib s.candle last left (rU s (i::l) d) 0 with
  |some (w,n)=>(uX s l (d+1) (some w) n).map (w::·)
  |none=>none
end So
variable {P:Program} {M0:Nat->Prop}
structure OnlyB (b:Nat) (w w':World):Prop where
 os:w'.os=w.os
 tape:w'.tape=w.tape
 output:w'.output=w.output
 size:w'.heap.size=w.heap.size
 block:∀k,k≠b->w'.heap[k]?=w.heap[k]?
theorem OnlyB.refl(b)(w):OnlyB b w w:=⟨rfl,rfl,rfl,rfl,λ_ _=>rfl⟩
theorem rC(w)(b i)(v):OnlyB b w (w.setCell ⟨b,i,none⟩ v):=
 ⟨rfl,rfl,rfl,by simp[World.setCell],λk hk=>Go.RowKit.Below.heap_setCell _ _ _ _ hk⟩
theorem GY{S}(hS:HOk P M0 S){i b}{T e}{x x'}{p p' v v'}{w'}(hid:S.h[i]?=some (.bld T e x))(hm:S.m.getD i none=some b)
  (hb:S.w.heap[b]?=some (.cells #[p,v] T (0,0))) (hw:OnlyB b S.w w') (hb':w'.heap[b]?=some (.cells #[p',v'] T (0,0))) (hp:p'=.pointer none\/p'=.pointer (some ⟨b,0,none⟩))
  (hx:x'=.p .nilslice\/∃j n,x'=.slice j n 0 n) (hr:bp M0 S v' x') (hs:∀a n c,v'=.slice (some a) n c->∃N,S.w.shape? a.block=some (e,N)) :
  HOk P M0 ⟨S.m,S.h.set i (.bld T e x'),w'⟩/\Ev S.h.length S ⟨S.m,S.h.set i (.bld T e x'),w'⟩:=by
 have hidlt:=(aA.1 hid).1;have hown:Own S.m b:=aV (cp hm);have hsh:∀c,w'.shape? c=S.w.shape? c:=by
  intro c;by_cases hc:c=b
  .subst hc;simp[World.shape?,hb,hb']
  .simp only[World.shape?,hw.block c hc]
 have he:Ev S.h.length S ⟨S.m,S.h.set i (.bld T e x'),w'⟩:=
  {fr:=⟨hw.os,hw.tape,hw.output,yN hw.size.symm,λc _ hn=>hw.block c (λh=>hn (h▸hown)),λc _=>hsh c⟩
   sub:=λc h=>.inl h
   obj:=λy oy hy hoy=>by
    by_cases hyi:y=i
    .subst hyi;rw[hid]at hoy;cases hoy;exact⟨.bld T e x',by simp[hidlt],.inr (.inr ⟨by simp[AObj.tag],rfl,rfl⟩)⟩
    .exact⟨oy,by simp[cq (Ne.symm hyi),hoy],ObjEv.refl _ _⟩ }
 refine⟨?_,he⟩
 exact
  {len:=by simpa using hS.len
   lt:=λc h=>hP (hS.lt c h) he.fr.size
   m0:=λc h=>⟨hP (hS.m0 c h).1 he.fr.size,(hS.m0 c h).2⟩
   inj:=hS.inj
   gl:=he.glob hS.gl
   obj:=λy oy hoy=>by
    by_cases hyi:y=i
    .subst hyi;have hoy':(S.h.set y (.bld T e x'))[y]?=some oy:=hoy;rw[fp hidlt]at hoy';cases hoy';exact⟨b,p',v',hm,hb',hp,hx,he.rep0 hr (eh hr),λa n c hv=>let ⟨N,hN⟩:=hs a n c hv;⟨N,(hsh _).trans hN⟩⟩
    .have hoy':(S.h.set i (.bld T e x'))[y]?=some oy:=hoy;rw[cq (Ne.symm hyi)]at hoy';refine(hS.obj y oy hoy').keep he λc hc=>hw.block c λh=>hyi ?_;subst h
     exact hS.inj y i c (cp hc) (cp hm) }
theorem zW{h:Heap}{i}{o}(hid:h[i]?=some o):h.set i o=h:=ji hid
theorem BC{S}(hS:HOk P M0 S){T U e ty}{x}{v v2}{s}{w2}(hx:x=.p .nilslice\/∃j n xs,x=.slice j n 0 n/\S.h[j]?=some (.row 1 xs)/\xs.length=n/\n+s.size<=ai)
  (hs0:s.size<=ai) (hr:bp M0 S v x) (hT:aH P T=some e) (hU:dc P U=true) (hsz:bj P e=some 1) (hby:iP P e=some 1) (hz:fJ P e 1=true)
  (hsh:∀a n c,v=.slice (some a) n c->∃N,S.w.shape? a.block=some (e,N)) (hrun:(Builtin.append_ #[T,U] ty #[v,.string s]).run P S.w=.ok v2 w2) (hev:∀b,b<S.w.heap.size->w2.shape? b=S.w.shape? b) :
  ∀a n c,v2=.slice (some a) n c->∃N,w2.shape? a.block=some (e,N):=by
 have hTu:=bA hT;have hUu:(∃f,P.underlying U=some (.slice f))\/P.underlying U=some .string:=.inr (dV hU);have hstr:Rep M0 S (.string s) (.p (.str s)):=RepP.str s;obtain⟨D,hlen,hD,hDs,hDel⟩:=jK (P:=P) hS (y:=.p (.str s)) (sz:=1) (ys:=s.data.toList.map λb:UInt8=>AV.p (PV.int .u8 (b.toNat:Int))) hstr (by unfold eY;exact if_pos rfl);have hyl:(s.data.toList.map λb:UInt8=>AV.p (PV.int .u8 (b.toNat:Int))).length=s.size:=by rw[qj];exact Ff
 rw[hyl]at hlen hD hDs
 have key:∀(base:Option Addr) (n cap:Nat) (O:Array Value),n+s.size<=ai->cap<n+s.size->v=.slice base n cap->(Builtin.firstCells 1 n (.slice base n cap)).run P S.w.drew=.ok O S.w.drew ->
   ∀a n c,v2=.slice (some a) n c->∃N,w2.shape? a.block=some (e,N):=by
  intro base n cap O hroom hlt hv hO a n' c hv2;subst hv;obtain⟨nc,R,hnc,hR,hrun2⟩:=i7 (ty:=ty) hTu hUu hsz hby (by omega) hz hroom hlt S.w hlen hO (hD _ rfl);rw[hrun2]at hrun;cases hrun;cases hv2;refine⟨(O++D++R).size,?_⟩;show (S.w.drew.alloc _).shape? S.w.drew.heap.size=_;unfold World.shape?;rw[bf]
 have nil:v=.slice none 0 0->∀a n c,v2=.slice (some a) n c->∃N,w2.shape? a.block=some (e,N):=by
  intro hv;rcases ow s.size with h0|h0
  .subst hv;intro a n c hv2;have:=jA (ty:=ty) hTu hUu hsz S.w (by rw[hlen,h0]) (by have:=hD S.w rfl;rw[h0]at this;exact this);rw[this]at hrun;cases hrun;cases hv2
  .exact key none 0 0 #[] (by omega) (by omega) hv rfl
 rcases hx with rfl|⟨j,n,xs,rfl,hj,hn,hroom⟩
 .have h':RepP (Avoid M0 S.m) S.w v .nilslice:=hr;cases h';exact nil rfl
 .obtain⟨O,hlo,hO,hOs,hOel⟩:=jK (P:=P) (y:=.slice j n 0 n) (v:=v) (ys:=xs) (sz:=1) hS hr (by simp[eY,hj,hn,sub,dz (yN hn)]);rcases bK hr.2 hj hn with⟨h1,h2,h3,_⟩|⟨b,cap,T',N,hm,rfl,hcap,hsh2,hfit,hreach⟩|⟨_,rfl,h0⟩
  .omega
  .rcases aw cap (n+s.size) with hlt|hge
   .have:=hO S.w.drew rfl;rw[hn]at this;exact key _ n cap O hroom hlt rfl (by simpa using this)
   .obtain⟨C,T2,hb2,hsize2,hel2⟩:=dU hS hj hm;have hNC:N=C.size:=by
     unfold World.shape? at hsh2;rw[hb2]at hsh2;simp at hsh2;exact hsh2.2.symm
    have hrun2:=kV (ty:=ty) (cap:=cap) hTu hUu hsz hge S.w hlen (hD _ rfl) (by simpa using hb2) (by rw[hDs];omega) (mB hyl (by rw[hDs]) hDel);have hv:(Value.slice (some ⟨b,0*1,none⟩) n cap)=.slice (some ⟨b,0,none⟩) n cap:=by rw[Nat.zero_mul]
    rw[hv,hrun2]at hrun;intro a n' c hv2;cases hrun;cases hv2;obtain⟨N',hN'⟩:=hsh _ _ _ rfl;exact⟨N',(hev _ (nF hN')).trans hN'⟩
  .subst h0;exact nil rfl
end Abs
end Go.Proofs.YtmndpldajflenaaGreatDoor
namespace Go.Proofs.YtmndpldajflenaaGreatDoor
namespace Abs
variable {P:Program} {H:Hints} {Q:Cont}
def Fc (P:Program) (fv:PV) (n:Nat) (l:List (List PV)):Prop:=
 (∀a,a∈l->a.length=n)/\∃(g:FuncId) (first cap:List PV),fv=.func (.func g) first cap/\∀(id:Nat) (Inv:Nat->Heap->Prop) (Fin:Heap->Prop) (h0:Heap),id<h0.length ->
  (∀(k:Nat) (xs:List PV) (lo mid:Heap),l[k]?=some xs->Inv k lo->lo.length=h0.length ->
   Fe P id (xs.map .p) (lo++mid) (λr h'=>∃lo' ext,h'=lo'++mid++ext/\lo'.length=h0.length /\
    ((r=.ret (.p (.bool true))/\Inv (k+1) lo')\/(r=.ret (.p (.bool false))/\Fin lo')))) ->
  Inv 0 h0->aN P g (first.map .p++[.ref .yl id]++cap.map .p) h0 (λr h'=>r=.ret (.p (.tuple []))/\∃lo mid,h'=lo++mid/\lo.length=h0.length/\(Inv l.length lo\/Fin lo))
theorem xq{ps}{assign body}{g}{A}{fv}{l}(Inv:AObj->Nat->Heap->Prop)(Fin:Code->Heap->Prop)
  (hrc:A.rc=.no) (hg:A.eval g=.p fv) (hit:Fc P fv ps.size l) (hD:eZ P) (hps:uq A.n ps=true) (hoka:dr H A.n assign=true) (hokb:dr H A.n body=true)
  (hat:∀o k h,Inv o k h->h[A.h.length+1]?=some o) (h0:∀o,Inv o 0 (A.h++[.dblock,o]))
  (hround:∀(oR oB) (oD) (k) (xs) (lo mid),l[k]?=some xs->Inv oR k lo->lo.length=A.h.length+2 ->
   @W ⟨P,H,assign,Ds oR oB (A.h.length+1) (lo++mid).length (λB=>wp P H body (rY oB oR oD (A.h.length+1) (lo++mid).length
    (λr h'=>∃lo' ext,h'=lo'++mid++ext/\lo'.length=A.h.length+2/\((r=.ret (.p (.bool true))/\Inv oR (k+1) lo')\/(r=.ret (.p (.bool false))/\∃c,Fin c lo'/\lo'[A.h.length+1]?=some (oD c))))) B)⟩
    {n:=A.n,bs:=(lo++mid).length,rc:=.rnd,tmps:=ip A.tmps ps.toList (xs.map .p),h:=lo++mid,df:=[] })
  (hend:∀o lo mid,Inv o l.length lo->lo.length=A.h.length+2->@WQ ⟨Q⟩ .normal { A with h:=(lo++mid).set (A.h.length+1) .dead,df:=.collected A.h.length::A.df })
  (hfin:∀c lo mid,Fin c lo->lo.length=A.h.length+2->Gm Q { A with h:=(lo++mid).set (A.h.length+1) .dead,df:=.collected A.h.length::A.df } c):@W ⟨P,H,.rangeFunc g ps assign body,Q⟩ A:=by
 obtain⟨hn,gf,first,cap,rfl,hi⟩:=hit;have hoR:∃oR,oR=AObj.loop A.n A.tmps ps assign body .ready none:=⟨_,rfl⟩
 obtain⟨oR,hR⟩:=hoR
 refine KN (f:=gf) (args:=first.map .p++[.ref .yl (A.h.length+1)]++cap.map .p)
  (R:=λr h=>r=.ret (.p (.tuple []))/\∃lo mid,h=lo++mid/\lo.length=A.h.length+2/\(Inv oR l.length lo\/∃c,Fin c lo/\lo[A.h.length+1]?=some (.loop A.n A.tmps ps assign body .done (some c))))
  hrc (by rw[hg];rfl) ?_ (λv h hr=>?_) λv h hr=>(by cases hr.1)
 .rw[<-hR];have hl2:(A.h++[.dblock,oR]).length=A.h.length+2:=by simp
  have key:=hi (A.h.length+1) (Inv oR) (λlo=>∃c,Fin c lo/\lo[A.h.length+1]?=some (.loop A.n A.tmps ps assign body .done (some c))) (A.h++[.dblock,oR]) (by simp) (λk xs lo mid hv hI hlo=>?_) (h0 oR)
  .rw[hl2]at key;exact key
  rw[hl2]at hlo |-;have hat':=hat _ _ _ hI;have hat2:(lo++mid)[A.h.length+1]?=some oR:=by rw[br (by omega)];exact hat'
  rw[hR]at hat2;refine El hD (H:=H) hat2 hps (by rw[qj];exact(hn xs (aV hv)).symm) hoka hokb ?_;have:=hround oR (.loop A.n A.tmps ps assign body .busy none) (λj=>.loop A.n A.tmps ps assign body .done (some j)) k xs lo mid hv hI hlo;refine pF assign (λe B hB=>?_) this
  cases e with
  |normal=>
   obtain⟨b1,b2,b3⟩:=hB;rw[hR]at b2;refine⟨b1,b2,pF body (λe C hC=>?_) b3⟩
   cases e with
   |normal=>
    obtain⟨c1,c2,c3⟩:=hC;refine⟨c1,⟨_,_,c2⟩,?_⟩;rw[<-hR];obtain⟨lo',ext,d1,d2,d3⟩:=c3;refine⟨lo',ext,d1,d2,?_⟩;rcases d3 with d3|⟨d3,_⟩
    .exact .inl d3
    .cases d3
   |exit id=>
    obtain⟨c1,c2,c3⟩:=hC;refine⟨c1,⟨_,_,c2⟩,?_⟩;obtain⟨lo',ext,d1,d2,d3⟩:=c3;refine⟨lo',ext,d1,d2,?_⟩;rcases d3 with⟨d3,_⟩|⟨d3,c,f1,f2⟩
    .cases d3
    .exact .inr ⟨rfl,c,f1,f2⟩
   |ret=>
    obtain⟨c1,c2,c3⟩:=hC;refine⟨c1,⟨_,_,c2⟩,?_⟩;obtain⟨lo',ext,d1,d2,d3⟩:=c3;refine⟨lo',ext,d1,d2,?_⟩;rcases d3 with⟨d3,_⟩|⟨d3,c,f1,f2⟩
    .cases d3
    .exact .inr ⟨rfl,c,f1,f2⟩
   |panic v=>
    obtain⟨_,_,c3⟩:=hC;obtain⟨lo',ext,d1,d2,d3⟩:=c3
    rcases d3 with⟨d3,_⟩|⟨d3,_⟩<;>cases d3
  |exit id=>exact hB
  |ret=>exact hB
  |panic v=>exact hB
 .obtain⟨hr,lo,mid,rfl,hlo,hI⟩:=hr;rcases hI with hI|⟨c,f1,f2⟩
  .have hat':(lo++mid)[A.h.length+1]?=some oR:=by rw[br (by omega)];exact hat _ _ _ hI
   rw[hR]at hat';rw[hat'];exact⟨by simp,hend _ _ _ hI hlo⟩
  .have hat':(lo++mid)[A.h.length+1]?=some (.loop A.n A.tmps ps assign body .done (some c)):=by rw[br (by omega)];exact f2
   rw[hat'];have:=hfin c lo mid f1 hlo;refine⟨by simp,?_⟩;cases c<;>first|exact this.elim|exact this
theorem pW{lo:Heap}{n0}(h:lo.length=n0)(t)(j):(lo++t)[n0+j]?=t[j]?:=by rw[ca (by omega)];congr 1;omega
theorem iM{lo:Heap}{n0}(h:lo.length=n0)(t):(lo++t)[n0]?=t[0]?:=pW h t 0
theorem pV{lo:Heap}{n0}(h:lo.length=n0)(t)(j)(x):(lo++t).set (n0+j) x=lo++t.set j x:=by
 rw[yR _ _ (by omega)];congr 2;omega
theorem mr{lo:Heap}{n0}(h:lo.length=n0)(t)(x):(lo++t).set n0 x=lo++t.set 0 x:=pV h t 0 x
end Abs
end Go.Proofs.YtmndpldajflenaaGreatDoor
