/- CONTRACTS of functions and laws. No conditions but those in the heads. -/
import Derived.Test.YtgafommgcfhkkaaGreatDoorChLawAX
import Derived.Test.YtgafommgcfhkkaaGreatDoorChecked
import GoSem.ClaimGoes
import Derived.Test.YtgafommgcfhkkaaGreatDoorCards
import Derived.SevenTiedAt
import Derived.Stop.Joined
import Derived.Deep.DeepHandedRow
import Derived.JoinedCond
import Derived.ChangeMaps5
set_option linter.all false
set_option maxHeartbeats 8000000
open Go.Proofs.Tryz renaming prog->TP
namespace Go.Proofs.YtgafommgcfhkkaaGreatDoor
namespace Abs
namespace Ch
set_option maxRecDepth 4000
def EI (a:List UInt8) (q:Except Int (ChBooks×List UInt8)):PV:=match q with|.error e=>.tuple [.str (bs a),.int .i64 e]|.ok (_,w)=>.tuple [.str (bs w),.int .i64 0]
def BL{a}{q}{e}(h:q=.error e):EI a q=.tuple [.str (bs a),.int .i64 e]:=by subst h;rfl
def Mf{a w}{q}{b}(h:q=.ok (b,w)):EI a q=.tuple [.str (bs w),.int .i64 0]:=by subst h;rfl
def O1{s}{c}{x}(h:(Wk.de s c x).2≠0):(Wk.de s c x).1=0:=by
 unfold Wk.de at h |-;split at h
 .rename_i e;rw[if_pos e];split at h
  .rename_i i;rw[if_pos i]
  .exact absurd rfl h
 .rename_i e;rw[if_neg e]
def QH(s)(b)(G:SOk s)(kind)(a b' c d):af TP 118 [s.pv,(bp (.wick kind a b' c d)).pv] (EI (Ei s b (.wick kind a b' c d)) (aH s b (.wick kind a b' c d))):=by
 have y:=G.wickwaxes;have N:=(Wk.rD G.wick).lw;refine ae (ag Tryz.func118 rfl) rfl ?_;simp only[bp,Said.pv,aN,go_sem,simprocAttr];refine aG [2,3,6] s.wick.waxes y (τ:=Unit) (λd r _=>an (λx:Wax=>x.name==bs kind) s.wick.waxes 0=an (λx:Wax=>x.name==bs kind) r d.length) (λd _=>[(7,.p (.int .i64 d.length))]) (λ_ _=>[.row 17 [.p s.pv],.row 4 [.p (bp (.wick kind a b' c d)).pv]]) () rfl ?_ ?_ ?_
 .simp[bS,bp,Said.pv,aN,go_sem]
 .intro _ i;have l:¬((s.wick.waxes.length:Int)<(s.wick.waxes.length:Int)):=by omega
  have hi:an (λx:Wax=>x.name==bs kind) s.wick.waxes 0<0:=by rw[i];simp[an]
  rw[BL (e:=4) (by simp only[aH,if_pos hi]),Ei,if_pos hi];refine zo l decide_false ?_;rfl
 .intro v x r _ M i hx l z;rw[an]at i;simp only[l,decide_true,hx,bp,Said.pv,aN,go_sem,simprocAttr]
  cases J:(x.name==bs kind) with
  |false=>
   rw[J,if_neg (by simp)]at i;refine zm ?_;refine am M () (by rw[i];simp) ?_
   simp only[z,bp,Said.pv,aN,go_sem,simprocAttr]
  |true=>
   rw[J,if_pos rfl]at i;have j:¬((v.length:Nat):Int)<0:=by omega
   have K:=Wk.Jc s.wick ⟨(v.length:Int),a,b',⟨c,d⟩⟩ x (λL=>by
    obtain⟨x',u⟩:=Wk.Hv L;have:=u.hx;dsimp only at this;rw[gX,hx]at this;cases this
    exact u)
   simp only[go_sem,simprocAttr];refine aj K rfl ?_;by_cases q:(Wk.de s.wick ⟨(v.length:Int),a,b',⟨c,d⟩⟩ x).2=0;rotate_left
   .have E:=O1 q;obtain⟨w,hw⟩:∃w,s.wick.wicks[0]?=some w:=⟨_,bL (by omega)⟩
    have D:(0:Int)<(s.wick.wicks.length:Int):=by omega
    rw[BL (e:=(Wk.de s.wick ⟨(v.length:Int),a,b',⟨c,d⟩⟩ x).2) (by simp only[aH,i,if_neg j,gX,hx,if_pos q]),Ei,i,if_neg j,hw];simp only[E,D,hw,xp,go_sem,simprocAttr]
   have F:=B8 q;obtain⟨k,I⟩:=na F.1;have A:k<s.wick.wicks.length:=by have:=F.2;omega
   obtain⟨w,hw⟩:∃w,s.wick.wicks[k]?=some w:=⟨_,bL A⟩
   have C:(k:Int)<(s.wick.wicks.length:Int):=by omega
   rw[Mf (b:=b) (w:=bl w.name) (by simp only[aH,i,if_neg j,gX,hx,if_neg (not_not_intro q),I,hw])];simp[q,I,C,hw,xp,go_sem]
def KF(s:ChShop)(w)(C:(aJ s.blend w).2.2=0){h}{args}(K)(z:ib (aQ (λi=>!K i) h) args=some [dg s.blend,w.pv]) :
  aw TP 203 args h (λl j=>l=.ret (.tuple [.slice h.length (aJ s.blend w).1.length 0 (aJ s.blend w).1.length,.p (.int .i64 (aJ s.blend w).2.1),.p (.int .i64 0)])/\j=aQ K h++[.row 1 (lI (aJ s.blend w).1)]):=
 CW K z (pargs:=[dg s.blend,w.pv]) ⟨.refl _,.refl _,trivial⟩ (λl h' v=>by
  obtain⟨e,A,u⟩:=v;have g:h'.getD e .dead=.row 1 (lI (aJ s.blend w).1):=by rw[da,u];rfl
  refine⟨[e],_,A,by simp,?_,?_,?_,?_,?_⟩
  .intro i hi;rw[dW]at hi;subst hi;exact(aC.1 u).1
  .simp only[bf,bx,g,mvRow]
   congr 2
   rw[lI,g8];rfl
  .intro i hi;rw[dW]at hi;subst hi;rw[g];intro x hx;obtain⟨y,_,rfl⟩:=cA.1 hx;trivial
  .intro c q;simp only[br,dP,or_false]at q;rcases q with rfl|rfl|rfl
   .show e∈[e];simp
   .trivial
   .trivial
  .simp[mvT,iL,pickN]) (IC s.blend w C)
def JR{P}{H}{Q}{x}{A}(live)(i sz s)(xs ys)(hi:A.bs<=i)(F:A.bs<=A.h.length)(hx:A.h[i]?=some (.row s xs))(u:ys.length=xs.length)
  (l:∀(n:Nat) (x y),xs[n]?=some x->ys[n]?=some y->tG A.h.length x y)
  (D:∀t,t∈live->below A.h.length (A.tmps t)) (C:∀o,o∈A.h->bB A.h.length o) (E:A.df=[])
  (k:@W ⟨P,H,.loop x,Q⟩ { n:=A.n,bs:=A.bs,rc:=A.rc,tmps:=cM (bP A.tmps live []),h:=A.h.set i (.row s ys)++[.row sz []],df:=A.df }):@W ⟨P,H,.loop x,Q⟩ A:=by
 have q:i<A.h.length:=(aC.1 hx).1
 have hw:=pK (P:=P) (A:={ A with h:=A.h++[.row sz []] }) (T:=cM (bP A.tmps live [])) A.h.length i sz s xs ys F hi (by simp) (by omega)
  (by rw[bJ q];exact hx) u l (λt=>by
   rcases n6 (T:=A.tmps) live t with⟨v,G⟩|v
   .exact .inl ⟨v,vv (D t G)⟩
   .exact .inr v) (λid o I j=>by
   have z:id<A.h.length:=by
    have:=(aC.1 j).1;simp at this;omega
   rw[bJ z]at j
   exact uv (C o (aB j))) E
 have e:((A.h++[AObj.row sz []]).set A.h.length (.row sz [])).set i (.row s ys)=A.h.set i (.row s ys)++[.row sz []]:=by
  rw[ra _ _ (ba _),ud];show (A.h++[AObj.row sz []]).set i _=_;rw[ue _ _ q]
 refine eR (wk sz) (eR hw ?_);dsimp only;rw[e];exact k
def TH(s:ChShop)(w)(l:(aJ s.blend w).2.2=0){H}{Q}{ops}{rest}{dst}{A}{args}{h'}
  (K) (n) (j:ib (aQ (λi=>!K i) A.h) args=some [dg s.blend,w.pv]) (e:A.h.length=n) (hh:aQ K A.h++[.row 1 (lI (aJ s.blend w).1)]=h')
  (k:@WO ⟨TP,H,ops,rest,Q⟩ (A.put dst (.tuple [.slice n (aJ s.blend w).1.length 0 (aJ s.blend w).1.length,.p (.int .i64 (aJ s.blend w).2.1),.p (.int .i64 0)]) h')):@WF ⟨TP,H,ops,rest,Q,dst⟩ A 203 args:=by
 subst e;subst hh;exact cw (KF s w l K j) k
def Pz:∀l,l≠[]->ea l=32::joinL (l.map aX)
 |[],h=>absurd rfl h
 |x::t,_=>by rw[bf,sI];simp[ea]
def TG{P}{H}{Q}{ops}{rest}{dst}{A}{f}{args}{pargs}{v}{h'}(e:af P f pargs v)(K)
  (j:ib (aQ (λi=>!K i) A.h) args=some pargs) (hh:aQ K A.h=h') (k:@WO ⟨P,H,ops,rest,Q⟩ (A.put dst (.p v) h')):@WF ⟨P,H,ops,rest,Q,dst⟩ A f args:=by
 subst hh;exact cw (wZ K e j) k
def xE (n:Nat):List AV:=List.replicate n (.p mU)
def NT(s)(b)(O:SOk s)(a b' c):af TP 119 [s.pv,(bp (.blend a b' c)).pv] (EI [] (aH s b (.blend a b' c))):=by
 have U:=Ri O.blend;refine ae (ag Tryz.func119 rfl) rfl ?_;simp only[bp,Said.pv,aN,go_sem,simprocAttr];refine JR (8::[2,7]) 2 2 5 _ [.agg [.slice 3 0 0 0,.p (.int .i64 a),.p (.int .i64 b'),.p (.int .i64 0),.p (.int .i64 c)]] (by show 0<=2;decide) (by show 0<=3;decide) rfl rfl (pW rfl rfl ⟨.inr ⟨rfl,rfl⟩,.inl rfl,.inl rfl,.inl rfl,.inl rfl,trivial⟩) ?_ ?_ rfl ?_
 .simp[go_sem]
 .simp[go_sem]
 refine zm ?_;refine aG [2,7] s.blend (by omega) (τ:=Unit) (λ_ _ _=>True) (λd _=>[(8,.p (.int .i64 d.length))]) (λd _=>[.row 17 [.p s.pv],.row 4 [.p (bp (.blend a b' c)).pv],.row 5 [.agg [.slice 3 d.length 0 d.length,.p (.int .i64 a),.p (.int .i64 b'),.p (.int .i64 0),.p (.int .i64 c)]],.row 2 (xE d.length)]) () trivial ?_ ?_ ?_
 .simp[bS,bp,Said.pv,aN,xE,GQ,go_sem]
 .intro _ _;have u:¬((s.blend.length:Int)<(s.blend.length:Int)):=by omega
  refine zo u decide_false ?_;have A:∀n h,aE (bi n h) (xE s.blend.length)=some (List.replicate s.blend.length mU):=λn h=>by rw[xE,<-List.map_replicate (f:=AV.p)];simpa using aW (bH n h) id (List.replicate s.blend.length mU)
  have z:List.take s.blend.length (List.replicate s.blend.length mU)=List.replicate s.blend.length mU:=dt (by simp);have j:(xE s.blend.length).length=s.blend.length:=by simp[xE]
  by_cases y:(aJ s.blend (e6 s a b' c)).2.2=0;rotate_left
  .have L:((aJ s.blend (e6 s a b' c)).2.2 != 0)=true:=by simpa using y
   rw[BL (e:=(aJ s.blend (e6 s a b' c)).2.2) (by simp only[aH,if_pos y])];refine TG (Jf s.blend (e6 s a b' c)) (λi=>i==3) ?_ rfl ?_
   .rw[DJ];simp[aQ,List.mapIdx_cons,List.mapIdx_nil,A,z,j,dg,go_sem]
   simp only[aQ,List.mapIdx_cons,List.mapIdx_nil,nO,L,go_sem,simprocAttr];rfl
  have K:¬(aJ s.blend (e6 s a b' c)).2.2≠0:=λh=>h y;obtain⟨⟨c1,T⟩,S⟩:=AG y;rw[Mf (b:=b) (w:=joinL ((aJ s.blend (e6 s a b' c)).1.map aX++[aX (aJ s.blend (e6 s a b' c)).2.1])) (by simp only[aH,if_neg K])];refine TH s (e6 s a b' c) y (λi=>i==3) 4 ?_ rfl rfl ?_
  .rw[DJ];simp[aQ,List.mapIdx_cons,List.mapIdx_nil,A,z,j,dg,go_sem]
  generalize (aJ s.blend (e6 s a b' c)).1=R at *
  generalize (aJ s.blend (e6 s a b' c)).2.1=m at *
  have l:R.length+1<=ai:=by simp only[ai];omega
  have F:∀n,n∈R++[m]->0<=n/\n<1000000000:=λn v=>by
   rcases cn.1 v with v|v
   .exact T n v
   .rw[dW]at v;subst v;exact S
  have E:=mf (R++[m]) false (by simp;omega) F;have q:=Pz (R++[m]) (by simp);rw[aS,bf,bx]at q;simp only[aQ,List.mapIdx_cons,List.mapIdx_nil,zN,l,go_sem,simprocAttr];refine bq E ?_ (.str _) ?_
  .have G:∀n h,aE (bi n h) (lI R++[.p (.int .i64 m)])=some ((R++[m]).map ay):=λn h=>by
    rw[show lI R++[AV.p (.int .i64 m)]=lI (R++[m]) by simp[lI,ay]];exact IH n h _
   simp only[G,ak,zN,aK,go_sem,simprocAttr];rw[dt (by simp)]
  have N:(1:Int)<=(((bs (ea (R++[m]))).size:Nat):Int):=by rw[q,al,bc];omega
  have I:(bs (ea (R++[m]))).extract 1 (bs (ea (R++[m]))).size=bs (joinL (R.map aX++[aX m])):=by
   rw[dF,al,nS,q];rfl
  simp[N,I,go_sem]
 .intro d x r _ M _ hx u D;have J:=congrArg List.length M;rw[ak,bc]at J;have l:d.length+1<=ai:=by simp only[ai];omega
  have j:(xE d.length).length=d.length:=by simp[xE]
  have C:xE d.length++[AV.p (.agg [.int .i64 0,.int .i64 20])]=xE (d.length+1):=by rw[xE,xE,List.replicate_succ'];rfl
  refine t_ u decide_true l j C ?_;refine am (Inv:=λ_ _ _=>True) M () trivial ?_;simp only[D,ak,aK,bp,Said.pv,aN,go_sem,simprocAttr];intro x hx;rw[List.eq_of_mem_replicate hx];trivial
def Xh{P}{H}{c}{Q}{A}(live)(h')(l:List Nat)(r:List Nat)(n)(q:A.h.length=n)(v:(List.range n).all (λi=>decide (l.getD i 0<n)&&decide (r.getD (l.getD i 0) 0=i)&&decide (r.getD i 0<n)&&decide (l.getD (r.getD i 0) 0=i))=true)
  (D:A.bs=0) (C:A.df=[]) (y:A.h.all GV=true) (hh:h'=(List.range n).map λj=>Ly (λi=>l.getD i 0) (A.h.getD (r.getD j 0) .dead)) (z:∀t,t∈live->wr (A.tmps t)=true)
  (k:SW P H c Q { n:=A.n,bs:=A.bs,rc:=A.rc,tmps:=cM (bP (λt=>m5 (λi=>l.getD i 0) (A.tmps t)) live []),h:=h',df:=A.df }):SW P H c Q A:=by
 have e:∀i,i<n->(l.getD i 0<n/\r.getD (l.getD i 0) 0=i)/\r.getD i 0<n/\l.getD (r.getD i 0) 0=i:=λi hi=>by
  have:=kl.1 v i (sq.2 hi);simp only[eI,decide_eq_true_eq]at this;exact⟨⟨this.1.1.1,this.1.1.2⟩,this.1.2,this.2⟩
 refine vR (EU (λi=>l.getD i 0) (λi=>r.getD i 0) (by rw[q];exact λi hi=>(e i hi).1) (by rw[q];exact λi hi=>(e i hi).2) D C (kl.1 y) (by rw[q];exact hh) (λt=>?_)) k;rcases pn (T:=λt=>m5 (λi=>l.getD i 0) (A.tmps t)) live t with⟨u,E⟩|u
 .exact .inl ⟨u,z t E⟩
 .exact .inr u
def TZ(b):∀o,o∈B4 b->bB (B4 b).length o:=by
 intro o e;simp only[B4,br,dP,or_false]at e;rcases e with rfl|rfl|rfl|rfl<;>intro x hx<;>obtain⟨y,_,rfl⟩:=cA.1 hx<;>trivial
def Yb{f}{args}{v}(b)(h:aw TP f args (B4 b) (λr h'=>r=.ret (.p v)/\h'=List.replicate 4 .dead))(e:∀a,a∈args->below (B4 b).length a)(t) :
  aw TP f args (B4 b++t) (λr h'=>r=.ret (.p v)/\h'=.dead::.dead::.dead::.dead::t):=
 (iR (TZ b) e (h.mono λr h' i=>⟨by rw[i.2];rfl,i⟩) t).mono λr u i=>by
  obtain⟨h',j,_,q,l⟩:=i;rw[l]at j;exact⟨q,j⟩
def lO{H}{Q}{ops}{rest}{dst}{A}{f}{args args'}{v}(b)
  (h:aw TP f args' (B4 b) (λr h'=>r=.ret (.p v)/\h'=List.replicate 4 .dead)) (e:∀a,a∈args'->below (B4 b).length a) (hx:args=args') (i:A.h.take 4=B4 b)
  (k:@WO ⟨TP,H,ops,rest,Q⟩ (A.put dst (.p v) (.dead::.dead::.dead::.dead::A.h.drop 4))):@WF ⟨TP,H,ops,rest,Q,dst⟩ A f args:=by
 subst hx;have:=Yb b h e (A.h.drop 4);rw[<-i,ja]at this;exact cw this k
def wB:∀{ws} {rs},cV ws=some rs->rs.length=ws.length
 |[],rs,h=>by cases h;rfl
 |w::r,rs,h=>by
  unfold cV at h;split at h
  .simp only[bg]at h;obtain⟨q,e,rfl⟩:=h;simp[wB e]
  .split at h
   .simp only[bg]at h;obtain⟨q,e,rfl⟩:=h;simp[wB e]
   .cases h
def wq(c):∀l,(aA c l).length<=l.length+1
 |[]=>ba _
 |x::r=>by
  have e:=wq c r;unfold aA;split
  .simp;omega
  .split
   .simp
   .rename_i h;rw[h]at e;simp at e |-;omega
def UC (n:Nat):Cmd->Prop
 |.lot _ _ _ rs=>rs.length<n
 |_=>True
def U1{v}{ws}{c}(h:dL v ws=some c):UC ws.length c:=by
 unfold dL at h;split at h
 .split at h
  .split at h
   .rename_i e;cases h;have:=wB e;simp only[UC,bc];omega
   .cases h
  .cases h
 split at h
 .split at h
  .split at h
   .cases h;trivial
   .cases h
  .cases h
 split at h
 .split at h
  .simp only[bg]at h;obtain⟨_,_,rfl⟩:=h;trivial
  .cases h
 split at h
 .split at h
  .simp only[bg]at h;obtain⟨_,_,rfl⟩:=h;trivial
  .cases h
 split at h
 .split at h
  .simp only[bg]at h;obtain⟨_,_,rfl⟩:=h;trivial
  .cases h
 split at h
 .split at h
  .simp only[bg]at h;obtain⟨_,_,rfl⟩:=h;trivial
  .cases h
 split at h
 .split at h
  .split at h
   .cases h;trivial
   .cases h
  .cases h
 split at h
 .split at h
  .cases h;trivial
  .cases h
 split at h
 .split at h
  .split at h
   .cases h;trivial
   .cases h
  .cases h
 split at h
 .split at h
  .split at h
   .cases h;trivial
   .cases h
  .cases h
 split at h
 .split at h
  .cases h;trivial
  .cases h
 .cases h
def Pb{l}{j q}{g}{rs}(h:gc l=.ok (.lot j q g rs)):rs.length<1000000000:=by
 unfold gc at h;split at h
 .cases h
 rename_i y;split at h
 .cases h
 split at h
 .cases h
 .rename_i v ws i;have e:=wq 32 l;rw[i]at e;split at h
  .rename_i c u;cases h;have:rs.length<ws.length:=U1 u;simp at e;omega
  .cases h
def JK{s}{b e}{k}{a b' c d}{w}(h:aH s b (.wick k a b' c d)=.ok (e,w)):e=b:=by
 simp only[aH]at h;split at h
 .cases h
 split at h
 .cases h
 split at h
 .cases h
 split at h
 .cases h
 .cases h;rfl
def Gf{s}{b e}{a b' c}{w}(h:aH s b (.blend a b' c)=.ok (e,w)):e=b:=by
 simp only[aH]at h;split at h
 .cases h
 .cases h;rfl
def z6 (s:ChShop) (b:ChBooks) (l:List UInt8):PV:=match gc l with|.error e=>.tuple [b.pv,.str .empty,.int .i64 e]|.ok c=>jJ s b c
def UZ{l}{e}(h:gc l=.error e):e=3\/e=6:=by
 unfold gc at h;split at h
 .cases h;exact .inl rfl
 .split at h
  .cases h
  .split at h
   .cases h;exact .inr rfl
   .split at h
    .cases h
    .cases h;exact .inr rfl
def VF(b)(t)(v):ib (B4 b++t) [.p v,bA b]=some [v,b.pv]:=by
 have q:∀n h (l:List ChLot),aE (bi n h) (l.map dI)=some (l.map ChLot.pv):=λn h l=>aW (bH n h) ChLot.pv l;have j:∀n h (l:List ChBatch),aE (bi n h) (l.map bD)=some (l.map ChBatch.pv):=λn h l=>aW (bH n h) ChBatch.pv l;have i:∀n h (l:List HrTest),aE (bi n h) (l.map er)=some (l.map HrTest.pv):=λn h l=>aW (bH n h) HrTest.pv l;have e:∀n h (l:List HrBox),aE (bi n h) (l.map jK)=some (l.map HrBox.pv):=λn h l=>aW (bH n h) HrBox.pv l;simp[q,j,i,e,ChBooks.pv,go_sem]
def uD(b)(v w):∀a,a∈[AV.p v,bA b,.p w]->below (B4 b).length a:=by
 intro a i;simp only[br,dP,or_false]at i;rcases i with rfl|rfl|rfl
 .trivial
 .intro c e;simp only[br,dP,or_false]at e;rcases e with rfl|rfl|rfl|rfl|rfl|rfl<;>first|trivial|(show _<4;decide)
 .trivial
def zaI(b)(w):∀a,a∈[bA b,.p w]->below (B4 b).length a:=λa e=>uD b w w a (wd _ e)
def kN{hh}{x}{v}(h:x=.p v):∃i e,x=i/\bi 8 hh i=some e/\qt e v:=by
 subst h;exact⟨_,_,rfl,bH _ _ _,pk⟩
def Xy:(bs p7==(⟨#[108,111,116]⟩:ByteArray))=true:=by and_intros<;>rfl
def RP:(bs j2==(⟨#[108,111,116]⟩:ByteArray))=false/\(bs j2==(⟨#[98,97,116,99,104]⟩:ByteArray))=true:=by and_intros<;>rfl
def UM:(bs lg==(⟨#[108,111,116]⟩:ByteArray))=false/\(bs lg==(⟨#[98,97,116,99,104]⟩:ByteArray))=false/\(bs lg==(⟨#[100,114,111,112]⟩:ByteArray))=true:=by and_intros<;>rfl
def UK:(bs l9==(⟨#[108,111,116]⟩:ByteArray))=false/\(bs l9==(⟨#[98,97,116,99,104]⟩:ByteArray))=false/\(bs l9==(⟨#[100,114,111,112]⟩:ByteArray))=false/\(bs l9==(⟨#[112,108,97,110]⟩:ByteArray))=true:=by and_intros<;>rfl
def UJ:(bs jF==(⟨#[108,111,116]⟩:ByteArray))=false/\(bs jF==(⟨#[98,97,116,99,104]⟩:ByteArray))=false/\(bs jF==(⟨#[100,114,111,112]⟩:ByteArray))=false/\(bs jF==(⟨#[112,108,97,110]⟩:ByteArray))=false/\(bs jF==(⟨#[112,111,117,114]⟩:ByteArray))=true:=by and_intros<;>rfl
def UI:(bs gF==(⟨#[108,111,116]⟩:ByteArray))=false/\(bs gF==(⟨#[98,97,116,99,104]⟩:ByteArray))=false/\(bs gF==(⟨#[100,114,111,112]⟩:ByteArray))=false/\(bs gF==(⟨#[112,108,97,110]⟩:ByteArray))=false/\(bs gF==(⟨#[112,111,117,114]⟩:ByteArray))=false/\(bs gF==(⟨#[116,101,115,116]⟩:ByteArray))=true:=by and_intros<;>rfl
def MG:(bs fj==(⟨#[108,111,116]⟩:ByteArray))=false/\(bs fj==(⟨#[98,97,116,99,104]⟩:ByteArray))=false/\(bs fj==(⟨#[100,114,111,112]⟩:ByteArray))=false/\(bs fj==(⟨#[112,108,97,110]⟩:ByteArray))=false/\(bs fj==(⟨#[112,111,117,114]⟩:ByteArray))=false/\(bs fj==(⟨#[116,101,115,116]⟩:ByteArray))=false/\(bs fj==(⟨#[112,114,111,109,105,115,101]⟩:ByteArray))=true:=by and_intros<;>rfl
def Xz:(bs kn==(⟨#[108,111,116]⟩:ByteArray))=false/\(bs kn==(⟨#[98,97,116,99,104]⟩:ByteArray))=false/\(bs kn==(⟨#[100,114,111,112]⟩:ByteArray))=false/\(bs kn==(⟨#[112,108,97,110]⟩:ByteArray))=false/\(bs kn==(⟨#[112,111,117,114]⟩:ByteArray))=false/\(bs kn==(⟨#[116,101,115,116]⟩:ByteArray))=false/\(bs kn==(⟨#[112,114,111,109,105,115,101]⟩:ByteArray))=false/\(bs kn==(⟨#[98,111,120]⟩:ByteArray))=true:=by and_intros<;>rfl
def UL:(bs jG==(⟨#[108,111,116]⟩:ByteArray))=false/\(bs jG==(⟨#[98,97,116,99,104]⟩:ByteArray))=false/\(bs jG==(⟨#[100,114,111,112]⟩:ByteArray))=false/\(bs jG==(⟨#[112,108,97,110]⟩:ByteArray))=false/\(bs jG==(⟨#[112,111,117,114]⟩:ByteArray))=false/\(bs jG==(⟨#[116,101,115,116]⟩:ByteArray))=false/\(bs jG==(⟨#[112,114,111,109,105,115,101]⟩:ByteArray))=false/\(bs jG==(⟨#[98,111,120]⟩:ByteArray))=false/\(bs jG==(⟨#[108,111,111,107]⟩:ByteArray))=true:=by and_intros<;>rfl
def UH:(bs ji==(⟨#[108,111,116]⟩:ByteArray))=false/\(bs ji==(⟨#[98,97,116,99,104]⟩:ByteArray))=false/\(bs ji==(⟨#[100,114,111,112]⟩:ByteArray))=false/\(bs ji==(⟨#[112,108,97,110]⟩:ByteArray))=false/\(bs ji==(⟨#[112,111,117,114]⟩:ByteArray))=false/\(bs ji==(⟨#[116,101,115,116]⟩:ByteArray))=false/\(bs ji==(⟨#[112,114,111,109,105,115,101]⟩:ByteArray))=false/\(bs ji==(⟨#[98,111,120]⟩:ByteArray))=false/\(bs ji==(⟨#[108,111,111,107]⟩:ByteArray))=false/\(bs ji==(⟨#[119,105,99,107]⟩:ByteArray))=true:=by and_intros<;>rfl
def RO:(bs gj==(⟨#[108,111,116]⟩:ByteArray))=false/\(bs gj==(⟨#[98,97,116,99,104]⟩:ByteArray))=false/\(bs gj==(⟨#[100,114,111,112]⟩:ByteArray))=false/\(bs gj==(⟨#[112,108,97,110]⟩:ByteArray))=false/\(bs gj==(⟨#[112,111,117,114]⟩:ByteArray))=false/\(bs gj==(⟨#[116,101,115,116]⟩:ByteArray))=false/\(bs gj==(⟨#[112,114,111,109,105,115,101]⟩:ByteArray))=false/\(bs gj==(⟨#[98,111,120]⟩:ByteArray))=false/\(bs gj==(⟨#[108,111,111,107]⟩:ByteArray))=false/\(bs gj==(⟨#[119,105,99,107]⟩:ByteArray))=false/\(bs gj==(⟨#[98,108,101,110,100]⟩:ByteArray))=true:=by and_intros<;>rfl
def RN:(bs gi==(⟨#[108,111,116]⟩:ByteArray))=false/\(bs gi==(⟨#[98,97,116,99,104]⟩:ByteArray))=false/\(bs gi==(⟨#[100,114,111,112]⟩:ByteArray))=false/\(bs gi==(⟨#[112,108,97,110]⟩:ByteArray))=false/\(bs gi==(⟨#[112,111,117,114]⟩:ByteArray))=false/\(bs gi==(⟨#[116,101,115,116]⟩:ByteArray))=false/\(bs gi==(⟨#[112,114,111,109,105,115,101]⟩:ByteArray))=false/\(bs gi==(⟨#[98,111,120]⟩:ByteArray))=false/\(bs gi==(⟨#[108,111,111,107]⟩:ByteArray))=false/\(bs gi==(⟨#[119,105,99,107]⟩:ByteArray))=false/\(bs gi==(⟨#[98,108,101,110,100]⟩:ByteArray))=false:=by and_intros<;>rfl
def L7(s)(b)(n)(y:SOk s)(u:BkOk s b n)(hi:BkIn b)(l):af TP 50 [s.pv,b.pv,.str (bs l)] (z6 s b l):=by
 have F:∀x,x∈b.lots->x.readings.length<=ai:=λx hx=>by have:=hi.reads x hx;simp only[ai];omega
 have D:∀x,x∈b.tests->x.marks.length<=ai:=λx hx=>by have:=hi.marks x hx;simp only[ai];omega
 refine vn ?_;refine tK (ag Tryz.func50 rfl) rfl ?_;refine gP cH (zm ?_);refine gP cH (zm ?_);refine cZ (Qe s.pv b fQ n s u F D) (λv h C=>?_) (λv h C=>by cases C.1);obtain⟨e,N,M,L,rfl⟩:=C;cases e;simp only[fQ,go_sem,simprocAttr];refine gP cH (zm ?_);refine aa (NP l) rfl ?_;unfold z6
 cases A:gc l with
 |error e=>
  have G:(e != 0)=true:=by rcases UZ A with rfl|rfl<;>rfl
  simp only[yd,A,ly,Said.pv,aN,go_sem,simprocAttr];refine lS cH (zn G ?_)
  exact⟨_,_,rfl,by refine zm ?_;rfl,pk⟩
 |ok c=>
  simp only[yd,A,Said.pv,aN,go_sem,simprocAttr];refine Rx (λi=>i==3||i==4||i==5) [3,6,7,8,9,10,11] [] _ rfl rfl (λp J=>by cases J) ?_;simp only[aQ,List.mapIdx_cons,List.mapIdx_nil,go_sem,simprocAttr];refine Xh [3,6,7,8,9,10,11] (B4 b++[.row 17 [.p s.pv],.row 6 [.p b.pv],.row 6 [.p fQ],.dead,.dead,.dead,.row 6 [bA b],.row 4 [.p (bp c).pv]]) [4,5,6,7,8,9,0,1,2,3,10,11] [6,7,8,9,0,1,2,3,4,5,10,11] 12 rfl rfl rfl rfl ?_ ?_ ?_ ?_
  .simp[GV,wr,ul,dI,bD,er,jK]
  .rw[show List.range 12=[0,1,2,3,4,5,6,7,8,9,10,11] from rfl];simp[B4,bA,Ly,m5,iL,dI,bD,er,jK,fQ,Said.pv,aN,ChShop.pv,ChBooks.pv,ChShop.cells,ChBooks.cells,dg]
  .intro t I;simp only[br,dP,or_false]at I;rcases I with rfl|rfl|rfl|rfl|rfl|rfl|rfl<;>rfl
  refine lS cH ?_;cases c
  case lot nm kd g rs=>
   have E:rs.length<1000000000:=Pb A;simp only[m5,iL,List.getD_cons_succ,List.getD_cons_zero,fQ,bp,Said.pv,aN,Xy,go_sem,simprocAttr];refine lO b (Qf s b n y u nm kd g rs E) (uD b _ _) (by rfl) (by rfl) ?_;unfold jJ mb lB
   cases j:aH s b (.lot nm kd g rs) with
   |error e=>simp only[ChBooks.pv,go_sem,simprocAttr];exact kN rfl
   |ok q=>simp only[ChBooks.pv,go_sem,simprocAttr];exact kN rfl
  case batch nm cl lt g=>
   simp only[m5,iL,List.getD_cons_succ,List.getD_cons_zero,fQ,bp,Said.pv,aN,RP,go_sem,simprocAttr];refine lO b (Nv s b n y u nm cl lt g) (uD b _ _) (by rfl) (by rfl) ?_;unfold jJ mb lB
   cases j:aH s b (.batch nm cl lt g) with
   |error e=>simp only[ChBooks.pv,go_sem,simprocAttr];exact kN rfl
   |ok q=>simp only[ChBooks.pv,go_sem,simprocAttr];exact kN rfl
  case drop nm=>
   simp only[m5,iL,List.getD_cons_succ,List.getD_cons_zero,fQ,bp,Said.pv,aN,UM,go_sem,simprocAttr];refine lO b (Nw s b n u nm) (zaI b _) (by rfl) (by rfl) ?_;unfold jJ mb lB
   cases j:aH s b (.drop nm) with
   |error e=>simp only[ChBooks.pv,go_sem,simprocAttr];exact kN rfl
   |ok q=>simp only[ChBooks.pv,go_sem,simprocAttr];exact kN rfl
  case plan c=>
   simp only[m5,iL,List.getD_cons_succ,List.getD_cons_zero,fQ,bp,Said.pv,aN,UK,go_sem,simprocAttr];refine lO b (Vx s b n y u c) (uD b _ _) (by rfl) (by rfl) ?_;unfold jJ mb lB
   cases j:aH s b (.plan c) with
   |error e=>simp only[ChBooks.pv,go_sem,simprocAttr];exact kN rfl
   |ok q=>simp only[ChBooks.pv,go_sem,simprocAttr];exact kN rfl
  case pour c=>
   simp only[m5,iL,List.getD_cons_succ,List.getD_cons_zero,fQ,bp,Said.pv,aN,UJ,go_sem,simprocAttr];refine lO b (Vw s b n y u c) (uD b _ _) (by rfl) (by rfl) ?_;unfold jJ mb lB
   cases j:aH s b (.pour c) with
   |error e=>simp only[ChBooks.pv,go_sem,simprocAttr];exact kN rfl
   |ok q=>simp only[ChBooks.pv,go_sem,simprocAttr];exact kN rfl
  case test t=>
   simp only[m5,iL,List.getD_cons_succ,List.getD_cons_zero,fQ,bp,Said.pv,aN,UI,go_sem,simprocAttr];refine lO b (Vv s b n y u t) (uD b _ _) (by rfl) (by rfl) ?_;unfold jJ mb lB
   cases j:aH s b (.test t) with
   |error e=>simp only[ChBooks.pv,go_sem,simprocAttr];exact kN rfl
   |ok q=>simp only[ChBooks.pv,go_sem,simprocAttr];exact kN rfl
  case promise k=>
   simp only[m5,iL,List.getD_cons_succ,List.getD_cons_zero,fQ,bp,Said.pv,aN,MG,go_sem,simprocAttr];refine lO b (Nu s b n y u k) (uD b _ _) (by rfl) (by rfl) ?_;unfold jJ lB
   cases j:aH s b (.promise k) with
   |error e=>simp only[ChBooks.pv,go_sem,simprocAttr];exact kN rfl
   |ok q=>simp only[ChBooks.pv,go_sem,simprocAttr];exact kN rfl
  case box k h=>
   simp only[m5,iL,List.getD_cons_succ,List.getD_cons_zero,fQ,bp,Said.pv,aN,Xz,go_sem,simprocAttr];refine lO b (X4 s b n y u k h) (uD b _ _) (by rfl) (by rfl) ?_;unfold jJ lB
   cases j:aH s b (.box k h) with
   |error e=>simp only[ChBooks.pv,go_sem,simprocAttr];exact kN rfl
   |ok q=>simp only[ChBooks.pv,go_sem,simprocAttr];exact kN rfl
  case look=>
   simp only[m5,iL,List.getD_cons_succ,List.getD_cons_zero,fQ,bp,Said.pv,aN,UL,go_sem,simprocAttr];refine pC (QJ s b n u) (VF b [_,_,_,_,_,_,_,_] _) (.str _) (zm ?_);exact s8 (b':=b) [] rfl rfl rfl
  case wick k a b' c d=>
   simp only[m5,iL,List.getD_cons_succ,List.getD_cons_zero,fQ,bp,Said.pv,aN,UH,go_sem,simprocAttr];refine aa (QH s b y k a b' c d) rfl ?_;unfold EI
   cases j:aH s b (.wick k a b' c d) with
   |error e=>refine zm ?_;rw[jJ];exact uy _ e j rfl rfl
   |ok q=>
    obtain⟨K,w⟩:=q;have z:=JK j;subst z;refine zm ?_;rw[jJ];exact s8 _ j rfl rfl
  case blend a b' c=>
   simp only[m5,iL,List.getD_cons_succ,List.getD_cons_zero,fQ,bp,Said.pv,aN,RO,go_sem,simprocAttr];refine aa (NT s b y a b' c) rfl ?_;unfold EI
   cases j:aH s b (.blend a b' c) with
   |error e=>refine zm ?_;rw[jJ];exact uy _ e j rfl rfl
   |ok q=>
    obtain⟨K,w⟩:=q;have z:=Gf j;subst z;refine zm ?_;rw[jJ];exact s8 _ j rfl rfl
  case stock=>
   simp only[m5,iL,List.getD_cons_succ,List.getD_cons_zero,fQ,bp,Said.pv,aN,RN,go_sem,simprocAttr];refine pC (NR s b n u) (IK b [_,_,_,_,_,_,_,_]) (.str _) (zm ?_);exact s8 (b':=b) [] rfl rfl rfl
end Ch
open Go.IntKind (i64)
namespace Ch
set_option maxRecDepth 4000
def AS{P}{H}{Q}{x}{A}(live)(i s)(cs ds)(h')(hx:A.h[i]?=some (.row s [.p (.agg cs)]))(E:Abs.gO ds=true)(l:vT cs ds)(hh:A.h.set i (.row s [.p (.agg ds)])=h')
  (k:@W ⟨P,H,.loop x,Q⟩ { n:=A.n,bs:=A.bs,rc:=A.rc,tmps:=cM (bP A.tmps live []),h:=h',df:=A.df }):@W ⟨P,H,.loop x,Q⟩ A:=by
 subst hh;have D:aQ (λ_=>false) A.h=A.h:=by
  apply pE;intro j;rw[nG];cases A.h[j]?<;>simp
 have hw:=Ak (P:=P) (A:=A) (T:=cM (bP A.tmps live [])) (λ_=>false) i s [.p (.agg cs)] [.p (.agg ds)] rfl hx rfl (λn a b y F=>by
   cases n with
   |succ n=>simp at y
   |zero=>
    cases y;cases F;refine⟨_,_,rfl,rfl,by have:=l.get.1;simp[PV.cells];omega,λj c d e z=>?_⟩;simp only[PV.cells,cX,bg]at e z;obtain⟨q,C,rfl⟩:=e;obtain⟨v,u,rfl⟩:=z
    exact .inr ⟨q,v,rfl,kl.1 E v (aB u),bH _ _ _,PO (l.get.2 j q v C u)⟩) (λt=>by
  rcases pn (T:=A.tmps) live t with⟨e,_⟩|e
  .exact .inl e
  .exact .inr (.inl e))
 rw[D]at hw;exact eR hw k
def FM{s}{b}{l}{e}(h:ey s b l=.error e):∃a,z6 s b l=.tuple [b.pv,.str a,.int .i64 e]:=by
 unfold ey at h;unfold z6;split at h
 .rename_i q i;cases h;rw[i];exact⟨_,rfl⟩
 .rename_i c i;rw[i];split at h
  .rename_i j;cases h;exact⟨_,by simp only[jJ,j,lB];rfl⟩
  .cases h
def BA{s}{b b'}{l a}{w}(h:ey s b l=.ok (b',a,w)):z6 s b l=.tuple [b'.pv,.str (bs a),.int .i64 0]/\∃c,gc l=.ok c/\yd l=(bp c,0)/\w=c.written/\aH s b c=.ok (b',a):=by
 unfold ey at h;split at h
 .cases h
 .rename_i c e;split at h
  .cases h
  .rename_i i;cases h;exact⟨by simp only[z6,e,jJ,i,lB],c,e,by simp only[yd,e],rfl,i⟩
def mK (s:ChShop) (ls:List (List UInt8)):PV:=
 if be s ls=0 then .tuple [(bh s ls).1.pv,aN (bh s ls).2.1,aN (bh s ls).2.2,.int .i64 0]
 else .tuple [fQ,.nilslice,.nilslice,.int .i64 (be s ls)]
def Ep(s)(i):af TP 31 [s.pv,aN i] (mK s i):=by
 refine bF (dv (by kernel_rfl) rfl za7) rfl ?_;simp only[H31,go_sem,simprocAttr];refine aa (u5 s) rfl ?_;simp only[ao,aN,go_sem,simprocAttr];by_cases y:(bu s).2.2=0;rotate_left
 .have V:((bu s).2.2==0)=false:=by simpa using y
  have U:((bu s).2.2 != 0)=true:=by simpa using y
  have D:be s i=(bu s).2.2:=by rw[be,if_neg y]
  simp[V,U,mK,D,if_neg y,fQ,go_sem]
 by_cases J:40<i.length
 .have E:decide ((40:Int)<(i.length:Int))=true:=decide_eq_true (by omega);have D:be s i=3:=by rw[be,if_pos y,if_pos J]
  simp[y,E,mK,D,fQ,go_sem]
 have E:decide ((40:Int)<(i.length:Int))=false:=decide_eq_false (by omega);have D:be s i=0:=by rw[be,if_pos y,if_neg J]
 have N:=tr y;have hl:i.length<1000000000:=by omega
 refine zo y E ?_;refine bt 12 1 (by simp only[go_sem,simprocAttr]) (zm ?_);refine bt 13 1 (by simp only[go_sem,simprocAttr]) (zm ?_);refine AS (12::13::14::[1,2,4,11]) 2 6 [.nilslice,.nilslice,.nilslice,.nilslice,.int .i64 0,.int .i64 0] [.slice 4 [] false,.slice 4 [] false,.slice 3 [] false,.slice 2 [] false,.int .i64 0,.int .i64 0] _ rfl rfl ⟨.nil _,.nil _,.nil _,.nil _,.refl _,.refl _,trivial⟩ rfl (zm ?_);have K:∀d,(bh s d).2.1.length=d.length/\(bh s d).2.2.length<=d.length:=λd=>vi s d;have X:∀d:List (List UInt8),d.length<=40->BkOk s (bh s d).1 d.length:=λd E=>HC N E
 refine aG [1,2,4,11] i hl (τ:=Unit) (λd_ rest _=>True) (λd_ _=>[(12,.slice 3 (bh s d_).2.1.length 0 (bh s d_).2.1.length),(13,.slice 4 (bh s d_).2.2.length 0 (bh s d_).2.2.length),(14,.p (.int .i64 d_.length))])
  (λd_ _=>[.row 17 [.p s.pv],.row 6 [.p fQ],.row 6 [.p (bh s d_).1.pv],.row 1 ((bh s d_).2.1.map ng),.row 1 ((bh s d_).2.2.map ng)]) () trivial ?_ ?_ ?_
 .simp[bh,cK,List.foldl_nil,bS,bx,fQ,ChBooks.pv,go_sem]
 .intro _ _;have j:¬((i.length:Int)<(i.length:Int)):=by omega
  have t1:∀l:List (List UInt8),List.take l.length (l.map λx=>PV.str (bs x))=l.map λx=>PV.str (bs x):=λl=>dt (by simp);simp[j,decide_false,nJ,t1,mK,if_pos D,aN,fQ,ChBooks.pv,go_sem]
 .intro d_ l r _ M _ hx j C;have a0:d_.length+1<=40:=by
   have:=congrArg List.length M;simp at this;omega
  obtain⟨r1,r2⟩:=K d_;have A:bh s (d_++[l])=eP s (bh s d_) l:=by rw[bh,vW];rfl
  have Y:=L7 s (bh s d_).1 d_.length N (X d_ (by omega)) (Pd s d_) l;have v:(bh s d_).2.1.length+1<=ai:=by simp only[ai];omega
  have L:(bh s d_).2.2.length+1<=ai:=by simp only[ai];omega
  refine s_ j decide_true hx @aD ?_;refine aj Y rfl ?_
  cases u:ey s (bh s d_).1 l with
  |error e=>
   obtain⟨a,O⟩:=FM u;have D:=Bz N u;have T:(e != 0)=true:=by rw[bne_iff_ne];omega
   rw[O];have z:eP s (bh s d_) l=((bh s d_).1,(bh s d_).2.1++[joinL [EV,aX e]],(bh s d_).2.2):=by rw[eP,u]
   have I:∀m,m∈[e]->0<=m/\m<1000000000:=λm Z=>by rw[dW]at Z;subst Z;omega
   have S:=mf [e] true (by simp) I;have R:=ny [e] I;have q:2+(bs (ea [e])).size<=aM:=by simp[al,aM]at R |-;omega
   have hj:bs EV++bs (ea [e])=bs (joinL [EV,aX e]):=by rw[cc];simp[ea,joinL]
   simp only[T,ChBooks.pv,go_sem,simprocAttr];refine aa S rfl ?_;simp only[q,v,go_sem,simprocAttr];refine am M () trivial ?_;simp only[C,A,z,ak,aK,aS,bf,bx,ChBooks.pv,go_sem,simprocAttr];show AObj.row 1 (_++[AV.p (PV.str (bs EV++bs (ea [e])))])=_
   rw[hj]
  |ok q=>
   obtain⟨b',a,w⟩:=q;obtain⟨O,c,h1,h2,h3,h4⟩:=BA u;have z:eP s (bh s d_) l=(b',(bh s d_).2.1++[a],if w=true then(bh s d_).2.2++[l] else(bh s d_).2.2):=by rw[eP,u]
   have G:=NP l;rw[h2]at G;have F:=FS (bp c).verb;rw[xT,<-h3]at F;rw[O];simp only[ChBooks.pv,j,hx,go_sem,simprocAttr];refine aa G rfl ?_;simp only[Said.pv,aN,go_sem,simprocAttr];refine aa F rfl ?_;cases w
   .simp only[v,go_sem,simprocAttr];refine am M () trivial ?_;simp only[C,A,z,ak,aK,aS,bf,bx,ChBooks.pv,go_sem,simprocAttr]
   .simp only[v,L,j,hx,go_sem,simprocAttr];refine am M () trivial ?_;simp only[C,A,z,ak,aK,aS,bf,bx,ChBooks.pv,go_sem,simprocAttr]
def zS{x:List UInt8}(h:nameOk (bs x)=true):(47:UInt8)∉x:=by
 unfold nameOk at h;rw[eI]at h;intro e;have:=tH _ _ h.1 47 e;simp at this
def NQ(s)(e):af TP 8 [s.pv,aN e] (if be s e=0 then .tuple [aN (bh s e).2.1,.int .i64 0] else .tuple [.nilslice,.int .i64 (be s e)]):=by
 refine ae (ag Tryz.func8 rfl) rfl (zm ?_);refine aa (Ep s e) rfl ?_;by_cases i:be s e=0
 .simp[mK,i,aN,ChBooks.pv,go_sem]
 .simp[mK,if_neg i,aN,fQ,go_sem]
def S5(s)(e):af TP 11 [s.pv,aN e] (if be s e=0 then .tuple [(bh s e).1.pv,.int .i64 0] else .tuple [.agg [.nilslice,.nilslice,.nilslice,.nilslice,.int .i64 0,.int .i64 0],.int .i64 (be s e)]):=by
 refine ae (ag Tryz.func11 rfl) rfl (zm ?_);refine aa (Ep s e) rfl ?_;by_cases i:be s e=0
 .simp[mK,i,aN,ChBooks.pv,go_sem]
 .simp[mK,if_neg i,aN,fQ,go_sem]
end Ch
open Go.Proofs.Tryz
namespace Ch
set_option maxRecDepth 4000
def Vr(s)(e):af TP 8 [s.pv,aN e] (.tuple [aN (oN s e),.int .i64 (be s e)]):=by
 refine(NQ s e).lessD ?_;unfold oN;by_cases h:be s e=0
 .rw[if_pos h,if_pos h,h];exact .refl _
 .rw[if_neg h,if_neg h];exact PL.tupleL ⟨.nil _,.refl _,trivial⟩
def St(s)(e):af TP 11 [s.pv,aN e] (.tuple [(r7 s e).pv,.int .i64 (be s e)]):=by
 refine(S5 s e).lessD ?_;unfold r7;by_cases h:be s e=0
 .rw[if_pos h,if_pos h,h];exact .refl _
 .rw[if_neg h,if_neg h];exact PL.tupleL ⟨zI,.refl _,trivial⟩
def RG(s)(e):(oN s e).length<1000000000:=by
 unfold oN;split
 .rename_i h;have:=(vi s e).1;have:=(Uj h).2;omega
 .decide
def D6(s:ChShop)(e):af TP 3 [s.pv,aN e] (.bool true):=by
 have l:∀n:Int,(n != n)=false:=λn=>by simp
 have q:∀n:Int,(n==n)=true:=λn=>by simp
 have i:=BC (oN s e) (oN s e) (RG s e);rw[show (oN s e==oN s e)=true by simp]at i;have j:=N8 (r7 s e) (Q7 s e);refine ae (ag func3 rfl) rfl (zm ?_);refine aa (BH s) rfl ?_;simp only[ao,go_sem,simprocAttr];refine aa (u5 s) rfl ?_;simp only[ao,l,go_sem,simprocAttr];refine aa (Ni s e) rfl (zm ?_);refine aa (Vr s e) rfl (zm ?_);refine aa i rfl (zn l ?_);refine aa (PX s e) rfl (zm ?_);refine aa (St s e) rfl ?_;simp only[ChBooks.pv,go_sem,simprocAttr];refine aa j rfl (zn q ?_);refine aa Jp rfl ?_;simp[go_sem]
end Ch
set_option maxRecDepth 100000
def fa(cs:List PV):lu true cs=.agg cs:=by
 cases cs with
 |nil=>rfl
 |cons a l=>cases l<;>rfl
def kL{n:Nat}{cs:List PV}(h:dU TP (n+1) 3 cs):∃m,cs=[.int .i64 m]:=by
 obtain⟨m,h,_⟩:=XH (k:=.i64) (by kernel_rfl) h;exact⟨m,h⟩
def jk{n:Nat}{cs:List PV}(h:dU TP (n+2) 30 cs):∃s:Span,cs=[.int .i64 s.lo,.int .i64 s.hi]:=by
 obtain⟨a,_,rfl,i,b,_,rfl,e,rfl⟩:=fg (ts:=[3,3]) (by kernel_rfl) h;obtain⟨x,rfl⟩:=kL i;obtain⟨y,rfl⟩:=kL e;exact⟨⟨x,y⟩,rfl⟩
def P8{n:Nat}{cs:List PV}(h:dU TP (n+3) 154 cs):∃k:HrKind,.agg cs=k.pv:=by
 obtain⟨a,_,rfl,j,b,_,rfl,i,c,_,rfl,e,rfl⟩:=fg (ts:=[9,30,3]) (by kernel_rfl) h;obtain⟨x,rfl,_⟩:=ov (by kernel_rfl) j;obtain⟨y,rfl⟩:=jk i;obtain⟨z,rfl⟩:=kL e;exact⟨⟨x,y,z⟩,rfl⟩
def P7{n:Nat}{cs:List PV}(h:dU TP (n+3) 158 cs):∃k:HrRule,.agg cs=k.pv:=by
 obtain⟨a,_,rfl,j,b,_,rfl,i,c,_,rfl,e,rfl⟩:=fg (ts:=[9,30,30]) (by kernel_rfl) h;obtain⟨x,rfl,_⟩:=ov (by kernel_rfl) j;obtain⟨y,rfl⟩:=jk i;obtain⟨z,rfl⟩:=jk e;exact⟨⟨x,y,z⟩,rfl⟩
def CT{n:Nat}{cs:List PV}(h:dU TP (n+4) 33 cs):∃l:List HrKind,cs=[.slice 4 (l.map HrKind.pv) false]:=by
 obtain⟨xs,rfl,_,hx⟩:=ko (e:=154) (z:=4) (g:=true) (by kernel_rfl) h;obtain⟨l,rfl⟩:=jP HrKind.pv (xs:=xs) λx i=>by
  obtain⟨es,rfl,h⟩:=hx x i;rw[fa];exact P8 h
 exact⟨l,rfl⟩
def CS{n:Nat}{cs:List PV}(h:dU TP (n+4) 34 cs):∃l:List HrRule,cs=[.slice 5 (l.map HrRule.pv) false]:=by
 obtain⟨xs,rfl,_,hx⟩:=ko (e:=158) (z:=5) (g:=true) (by kernel_rfl) h;obtain⟨l,rfl⟩:=jP HrRule.pv (xs:=xs) λx i=>by
  obtain⟨es,rfl,h⟩:=hx x i;rw[fa];exact P7 h
 exact⟨l,rfl⟩
def sZ{v:PV}(h:zJ TP 8 36 v):∃s:HrShop,v=s.pv:=by
 obtain⟨cs,rfl,h⟩:=h;rw[show (dp TP 36==some true)=true by kernel_rfl,fa];obtain⟨a,_,rfl,j,b,_,rfl,i,c,_,rfl,e,rfl⟩:=fg (ts:=[33,34,3]) (by kernel_rfl) h;obtain⟨x,rfl⟩:=CT j;obtain⟨y,rfl⟩:=CS i;obtain⟨z,rfl⟩:=kL e;exact⟨⟨x,y,z⟩,rfl⟩
namespace Ch
def Vt{n}{cs}(h:dU TP (n+2) 79 cs):∃l:List Int,cs=[.slice 1 (l.map ay) false]:=by
 obtain⟨xs,rfl,_,hx⟩:=ko (e:=3) (z:=1) (g:=false) (by kernel_rfl) h;obtain⟨l,rfl⟩:=jP ay (xs:=xs) λx i=>by
  obtain⟨es,rfl,h⟩:=hx x i;obtain⟨m,rfl⟩:=kL h;exact⟨m,rfl⟩
 exact⟨l,rfl⟩
def Sw{n}{cs}(h:dU TP (n+3) 128 cs):∃l:List Span,cs=[.slice 2 (l.map Span.pv) false]:=by
 obtain⟨xs,rfl,_,hx⟩:=ko (e:=30) (z:=2) (g:=true) (by kernel_rfl) h;obtain⟨l,rfl⟩:=jP Span.pv (xs:=xs) λx i=>by
  obtain⟨es,rfl,h⟩:=hx x i;rw[fa];obtain⟨s,rfl⟩:=jk h;exact⟨s,rfl⟩
 exact⟨l,rfl⟩
def P3{n}{cs}(h:dU TP (n+4) 125 cs):∃w:WxProp,.agg cs=w.pv:=by
 obtain⟨a,_,rfl,i,b,_,rfl,e,rfl⟩:=fg (ts:=[9,3]) (by kernel_rfl) h;obtain⟨x,rfl,_⟩:=ov (by kernel_rfl) i;obtain⟨y,rfl⟩:=kL e;exact⟨⟨x,y⟩,rfl⟩
def P4{n}{cs}(h:dU TP (n+4) 130 cs):∃w:WxKind,.agg cs=w.pv:=by
 obtain⟨a,_,rfl,i,b,_,rfl,e,rfl⟩:=fg (ts:=[9,128]) (by kernel_rfl) h;obtain⟨x,rfl,_⟩:=ov (by kernel_rfl) i;obtain⟨y,rfl⟩:=Sw e;exact⟨⟨x,y⟩,rfl⟩
def Np{n}{cs}(h:dU TP (n+2) 209 cs):∃s:BdPoint,.agg cs=s.pv:=by
 obtain⟨a,_,rfl,i,b,_,rfl,e,rfl⟩:=fg (ts:=[3,3]) (by kernel_rfl) h;obtain⟨x,rfl⟩:=kL i;obtain⟨y,rfl⟩:=kL e;exact⟨⟨x,y⟩,rfl⟩
def KB{n}{cs}(h:dU TP (n+3) 135 cs):∃l:List BdPoint,cs=[.slice 2 (l.map BdPoint.pv) false]:=by
 obtain⟨xs,rfl,_,hx⟩:=ko (e:=209) (z:=2) (g:=true) (by kernel_rfl) h;obtain⟨l,rfl⟩:=jP BdPoint.pv (xs:=xs) λx i=>by
  obtain⟨es,rfl,h⟩:=hx x i;rw[fa];exact Np h
 exact⟨l,rfl⟩
def Sx{n}{cs}(h:dU TP (n+4) 137 cs):∃w:BdWax,.agg cs=w.pv:=by
 obtain⟨a,_,rfl,A,b,_,rfl,q,c,_,rfl,l,d,_,rfl,j,e,_,rfl,i,rfl⟩:=fg (ts:=[9,3,30,30,135]) (by kernel_rfl) h;obtain⟨x,rfl,_⟩:=ov (by kernel_rfl) A;obtain⟨y,rfl⟩:=kL q;obtain⟨z,rfl⟩:=jk l;obtain⟨u,rfl⟩:=jk j;obtain⟨v,rfl⟩:=KB i;exact⟨⟨x,y,z,u,v⟩,rfl⟩
def P5{n}{cs}(h:dU TP (n+4) 146 cs):∃w:Wick,.agg cs=w.pv:=by
 obtain⟨a,_,rfl,j,b,_,rfl,i,c,_,rfl,e,rfl⟩:=fg (ts:=[9,3,30]) (by kernel_rfl) h;obtain⟨x,rfl,_⟩:=ov (by kernel_rfl) j;obtain⟨y,rfl⟩:=kL i;obtain⟨z,rfl⟩:=jk e;exact⟨⟨x,y,z⟩,rfl⟩
def Sv{n}{cs}(h:dU TP (n+4) 150 cs):∃w:Wax,.agg cs=w.pv:=by
 obtain⟨a,_,rfl,A,b,_,rfl,q,c,_,rfl,l,d,_,rfl,j,e,_,rfl,i,rfl⟩:=fg (ts:=[9,30,30,30,3]) (by kernel_rfl) h;obtain⟨x,rfl,_⟩:=ov (by kernel_rfl) A;obtain⟨y,rfl⟩:=jk q;obtain⟨z,rfl⟩:=jk l;obtain⟨u,rfl⟩:=jk j;obtain⟨v,rfl⟩:=kL i;exact⟨⟨x,y,z,u,v⟩,rfl⟩
def KA{n}{cs}(h:dU TP (n+4) 162 cs):∃w:ClColour,.agg cs=w.pv:=by
 obtain⟨a,_,rfl,j,b,_,rfl,i,c,_,rfl,e,rfl⟩:=fg (ts:=[9,30,79]) (by kernel_rfl) h;obtain⟨x,rfl,_⟩:=ov (by kernel_rfl) j;obtain⟨y,rfl⟩:=jk i;obtain⟨z,rfl⟩:=Vt e;exact⟨⟨x,y,z⟩,rfl⟩
def Nm{n}{cs}(h:dU TP (n+5) 22 cs):∃l:List WxProp,cs=[.slice 2 (l.map WxProp.pv) false]:=by
 obtain⟨xs,rfl,_,hx⟩:=ko (e:=125) (z:=2) (g:=true) (by kernel_rfl) h;obtain⟨l,rfl⟩:=jP WxProp.pv (xs:=xs) λx i=>by
  obtain⟨es,rfl,h⟩:=hx x i;rw[fa];exact P3 h
 exact⟨l,rfl⟩
def Nn{n}{cs}(h:dU TP (n+5) 23 cs):∃l:List WxKind,cs=[.slice 2 (l.map WxKind.pv) false]:=by
 obtain⟨xs,rfl,_,hx⟩:=ko (e:=130) (z:=2) (g:=true) (by kernel_rfl) h;obtain⟨l,rfl⟩:=jP WxKind.pv (xs:=xs) λx i=>by
  obtain⟨es,rfl,h⟩:=hx x i;rw[fa];exact P4 h
 exact⟨l,rfl⟩
def P9{n}{cs}(h:dU TP (n+5) 26 cs):∃l:List BdWax,cs=[.slice 7 (l.map BdWax.pv) false]:=by
 obtain⟨xs,rfl,_,hx⟩:=ko (e:=137) (z:=7) (g:=true) (by kernel_rfl) h;obtain⟨l,rfl⟩:=jP BdWax.pv (xs:=xs) λx i=>by
  obtain⟨es,rfl,h⟩:=hx x i;rw[fa];exact Sx h
 exact⟨l,rfl⟩
def No{n}{cs}(h:dU TP (n+5) 27 cs):∃l:List Wick,cs=[.slice 4 (l.map Wick.pv) false]:=by
 obtain⟨xs,rfl,_,hx⟩:=ko (e:=146) (z:=4) (g:=true) (by kernel_rfl) h;obtain⟨l,rfl⟩:=jP Wick.pv (xs:=xs) λx i=>by
  obtain⟨es,rfl,h⟩:=hx x i;rw[fa];exact P5 h
 exact⟨l,rfl⟩
def P6{n}{cs}(h:dU TP (n+5) 28 cs):∃l:List Wax,cs=[.slice 8 (l.map Wax.pv) false]:=by
 obtain⟨xs,rfl,_,hx⟩:=ko (e:=150) (z:=8) (g:=true) (by kernel_rfl) h;obtain⟨l,rfl⟩:=jP Wax.pv (xs:=xs) λx i=>by
  obtain⟨es,rfl,h⟩:=hx x i;rw[fa];exact Sv h
 exact⟨l,rfl⟩
def Iz{n}{cs}(h:dU TP (n+5) 37 cs):∃l:List ClColour,cs=[.slice 4 (l.map ClColour.pv) false]:=by
 obtain⟨xs,rfl,_,hx⟩:=ko (e:=162) (z:=4) (g:=true) (by kernel_rfl) h;obtain⟨l,rfl⟩:=jP ClColour.pv (xs:=xs) λx i=>by
  obtain⟨es,rfl,h⟩:=hx x i;rw[fa];exact KA h
 exact⟨l,rfl⟩
def FO{v}(h:zJ TP 8 41 v):∃s:ChShop,v=s.pv:=by
 obtain⟨cs,rfl,h⟩:=h;rw[show (dp TP 41==some true)=true by kernel_rfl,fa];obtain⟨a,_,rfl,ha,b,_,rfl,hb,c,_,rfl,hc,d,_,rfl,hd,e,_,rfl,Z,rfl⟩:=fg (ts:=[25,26,32,36,39]) (by kernel_rfl) h;obtain⟨a1,_,rfl,I,a2,_,rfl,G,a3,_,rfl,F,rfl⟩:=fg (ts:=[22,23,3]) (by kernel_rfl) ha;obtain⟨R,rfl⟩:=Nm I;obtain⟨O,rfl⟩:=Nn G;obtain⟨N,rfl⟩:=kL F;obtain⟨y,rfl⟩:=P9 hb;obtain⟨c1,_,rfl,E,c2,_,rfl,D,c3,_,rfl,C,c4,_,rfl,A,rfl⟩:=fg (ts:=[27,28,30,30]) (by kernel_rfl) hc;obtain⟨M,rfl⟩:=No E;obtain⟨L,rfl⟩:=P6 D;obtain⟨K,rfl⟩:=jk C;obtain⟨J,rfl⟩:=jk A;obtain⟨d1,_,rfl,z,d2,_,rfl,u,d3,_,rfl,q,rfl⟩:=fg (ts:=[33,34,3]) (by kernel_rfl) hd;obtain⟨Y,rfl⟩:=CT z;obtain⟨X,rfl⟩:=CS u;obtain⟨V,rfl⟩:=kL q;obtain⟨e1,_,rfl,l,e2,_,rfl,j,e3,_,rfl,i,rfl⟩:=fg (ts:=[37,30,3]) (by kernel_rfl) Z;obtain⟨U,rfl⟩:=Iz l;obtain⟨T,rfl⟩:=jk j;obtain⟨S,rfl⟩:=kL i;exact⟨⟨⟨R,O,N⟩,y,⟨M,L,K,J⟩,⟨Y,X,V⟩,⟨U,T,S⟩⟩,rfl⟩
def Ip{v}(h:zJ TP 8 42 v):∃l,v=aN l/\l.length<9223372036854775808:=by
 obtain⟨cs,rfl,h⟩:=h;rw[show (dp TP 42==some true)=false by kernel_rfl];obtain⟨xs,rfl,i,hx⟩:=ko (e:=9) (z:=1) (g:=false) (by kernel_rfl) h;obtain⟨l,rfl⟩:=jP (λx:List UInt8=>PV.str (bs x)) (xs:=xs) λx j=>by
  obtain⟨es,rfl,h⟩:=hx x j;obtain⟨s,rfl,_⟩:=ov (by kernel_rfl) h;exact⟨s.data.toList,by rw[r6];rfl⟩
 refine⟨l,rfl,?_⟩;simp[maxLen]at i;omega
end Ch
end Abs
open Go Abs
def Qk{P:Program}(h:P.funcs.any Func.goes=false)(f:FuncId):P.goes f=false:=by
 have e:∀(i:Nat) (fn:Func),P.funcs[i]?=some fn->fn.goes=false:=λi fn hi=>by
  rw[Array.any_eq_false]at h;obtain⟨j,q⟩:=xC.1 hi;have:=h i j;rw[q]at this;simpa using this
 unfold Program.goes;rw[h,Bool.and_false,dd,List.any_eq_false];intro g _
 cases l:P.funcs[g]? with
 |none=>simp
 |some fn=>simp[e g fn l]
def Ax{P:Program}{c:OpenClaim}(e:c.start=.entering)(h:P.funcs.any Func.goes=false):false=c.goesBy P:=by
 unfold OpenClaim.goesBy Program.goesAt Program.goesFrom;rw[e]
 cases P.funcNamed c.func with
 |none=>rfl
 |some f=>simp[Qk h f]
def IG:TP.funcs.any Func.goes=false:=by kernel_rfl
open Go.ChangeShapes Go.WideShapes Go.ChangeAt Go.RowKit
namespace Abs
section
variable {P:Program} {H:Type} {enc:TypeId×Value->H}
end
open Go.ChangeShapes Go.WideShapes Go.ChangeAt Go.RowKit
set_option maxRecDepth 100000
end Abs
end Go.Proofs.YtgafommgcfhkkaaGreatDoor
