/- CONTRACTS of functions and laws. No conditions but those in the heads. -/
import Derived.Test.YtgafommgcfhkkaaGreatDoorAbsFrameX
set_option linter.all false
set_option maxHeartbeats 4000000
open Go.Proofs.Tryz renaming prog->TP
open Go.Proofs.Tryz
open Go.IntKind (i64)
namespace Go.Proofs.YtgafommgcfhkkaaGreatDoor
namespace Abs
namespace Cl
set_option maxRecDepth 4000
def l4:List Nat->PV
 |[]=>.nilslice
 |i::o=>.slice 1 ((i::o).map cL) false
def uO (k:Nat) (all d_:List Nat):List (List Nat):=d_.flatMap λj=>(dT k (all.erase j)).map (j::·)
def qN{α β:Type}{f:α->List β}{c}:∀(l:List α),(∀x,x∈l->(f x).length<=c)->(l.flatMap f).length<=l.length*c
 |[],_=>by simp
 |x::l,h=>by
  have:=qN l λy e=>h y (by simp[e]);have:=h x (by simp);rw[mS,ak,bc,Nat.succ_mul];omega
def sE:∀(k) (l),l.length<=7->(dT k l).length<=7^l.length
 |k,[],_=>by simp[dT]
 |0,i::l,_=>by simp[dT]
 |k+1,i::l,h=>by
  rw[dT];have:=qN (f:=λj=>(dT k ((i::l).erase j)).map (j::·)) (c:=7^l.length) (i::l) λj q=>by
   rw[dQ];have e:((i::l).erase j).length=l.length:=by rw[List.length_erase_of_mem q];simp
   have:=sE k ((i::l).erase j) (by grind);grind
  refine fP this ?_;rw[bc,Nat.pow_succ,BX];exact Nat.mul_le_mul_left _ (by simpa using h)
def Ve{k}{all d_}(h:all.length<=7)(q:∀j,j∈d_->j∈all)(i:d_.length<=7):(uO k all d_).length<=823543:=by
 have:=qN (f:=λj=>(dT k (all.erase j)).map (j::·)) (c:=7^6) d_ λj l=>by
  rw[dQ];have e:(all.erase j).length=all.length-1:=List.length_erase_of_mem (q j l);refine fP (sE k _ (by omega)) (mX (by decide) (by omega))
 grind[uO]
def Ee{F}(e:∀v,F (.p v)=some v)(xs ys):aE F (xs.map AV.p++ys.map AV.p)=some (xs++ys):=by
 have:=aW e id (xs++ys);simp_all
def VD{F}(e:∀v,F (.p v)=some v)(xs):aE F (xs.map AV.p)=some xs:=by
 have:=aW e id xs;simp_all
def Y3{e h h'}{X}(j:G5 e h h')(i:X):G5 e h h'/\X:=⟨j,i⟩
def yD(K):aQ K []=[]:=rfl
def wV(K)(o)(h):aQ K (o::h)=(if K 0=true then .dead else o)::aQ (λi=>K (i+1)) h:=by
 simp[aQ]
def TO{P}{H}{ops}{rest}{Q}{o}{j}{A}{f}{args}{pargs}{v}(K)(q:af P f pargs v)(u:ib (aQ (λi=>!K i) A.h) args=some pargs)
  (e:dr j (aQ K A.h)) (k:@WD ⟨P,H,ops,rest,Q⟩ j (A.put o.dst (.p v) (aQ K A.h))):@Ze ⟨P,H,ops,rest,Q,o⟩ j A (.call f args):=by
 refine(wZ K q u).mono λr h' l=>?_;obtain⟨rfl,rfl⟩:=l;exact⟨e,k⟩
def xI(o)(h):gE 0 (o::h)=o::h.map λ_=>.dead:=by
 unfold gE;rw[List.mapIdx_cons];simp only[if_true,List.cons.injEq,true_and];apply pE;intro i;simp
def Qp{d:List Nat}{y}{r}(h:(d++y::r).Nodup):(d++y::r).erase y=d++r:=by
 grind
def BQ:Hints:=dx [(5000001,.app 5),(40,.cal),(29,.low),(32,.app 30),(33,.low),(34,.low),(35,.low),(36,.low),(37,.low),(38,.app 32),(39,.low),(23,.app 19),(24,.low),(25,.low),(26,.low),(27,.low)]
def M6:cu BQ f326=true:=by kernel_rfl
def Wf:∀(k:Nat) (e fi:List Nat) (fl:Bool),fi.length<=k->fi.Nodup->fi.length<=7->e.length+fi.length<=1000 ->
  af TP 326 [l4 e,.slice 1 (fi.map cL) fl] (.slice 1 ((dT k fi).map λo=>l4 (e++o)) fi.isEmpty):=by
 intro k
 induction k with
 |zero=>
  intro e fi fl h hn h7 hl;have:fi=[]:=qx (by omega);subst this;refine bX (dv (by kernel_rfl) rfl M6) rfl ?_
  cases e<;>simp[BQ,dT,l4,bI,List.isEmpty_nil,go_sem]
 |succ k ih=>
  intro e fi fl h hn h7 hl
  cases fi with
  |nil=>
   refine bX (dv (by kernel_rfl) rfl M6) rfl ?_
   cases e<;>simp[BQ,dT,l4,bI,List.isEmpty_nil,go_sem]
  |cons x fi=>
   have I:dT (k+1) (x::fi)=uO k (x::fi) (x::fi):=rfl;rw[I,List.isEmpty_cons];generalize a3:x::fi=all at *
   have b3:((all.length:Int)==0)=false:=by rw[<-a3];simp;omega
   refine bX (dv (by kernel_rfl) rfl M6) rfl ?_;simp only[BQ,b3,go_sem,simprocAttr];refine bt 5 1 (by simp only[go_sem,simprocAttr]) (zm ?_);refine aG [0,1] all (by omega) (τ:=Unit) (λd_ rest _=>True) (λd_ _=>[(5,.slice 0 (uO k all d_).length 0 (uO k all d_).length),(6,.p (.int .i64 d_.length))]) (λd_ _=>[.row 1 ((uO k all d_).map λo=>.p (l4 (e++o)))]) () trivial ?_ ?_ ?_
   .simp[uO,xP,go_sem]
   .intro _ _;simp[go_sem]
   .intro d_ y r _ z _ hx L b2;have b5:=congrArg List.length z;simp only[ak,bc]at b5;have h0:(0:Int)<=(d_.length:Int):=by omega
    have h1:(d_.length:Int)<=(all.length:Int):=by omega
    have K:i64.wrap ((d_.length:Int)+1)=((d_.length+1:Nat):Int):=aO (by omega) (by simp[ai];omega) (by simp);have h2:((d_.length+1:Nat):Int)<=(all.length:Int):=by omega
    have hA:List.take d_.length (List.map cL all)=d_.map cL:=by rw[z,aS];exact eX (by simp)
    have hB:List.drop (d_.length+1) (List.map cL all)=r.map cL:=by rw[z,aS,bf,<-vZ,List.drop_left' (by simp)];rfl
    have b7:d_.length<=ai:=by simp[ai];omega
    have b6:r.length<=ai:=by simp[ai];omega
    have a4:d_.length+r.length<=ai:=by simp[ai];omega
    have b0:e.length<=ai:=by simp[ai];omega
    have Y:e.length+1<=ai:=by simp[ai];omega
    have u:all.erase y=d_++r:=by rw[z]at hn |-;exact Qp hn
    have b4:(d_++r).Nodup:=by rw[<-u];exact hn.erase y
    have b9:=ih (e++[y]) (d_++r);have Z:uO k all (d_++[y])=uO k all d_++(dT k (d_++r)).map (y::·):=by rw[uO,vX,List.flatMap_singleton,u];rfl
    simp only[BQ,aD,L,hx,h0,h1,h2,K,hA,hB,xI,go_sem,simprocAttr];have I:=Ve (k:=k) (all:=all) (d_:=d_) h7 (λj hj=>by grind) (by omega);have a5:=sE k (d_++r) (by rw[ak];omega);have b8:(dT k (d_++r)).length<=823543:=fP a5 (fP (mX (by decide) (show (d_++r).length<=7 by rw[ak];omega)) (by decide));have G:(uO k all d_).length+(dT k (d_++r)).length<=ai:=by simp[ai];omega
    have a2:∀n h xs,aE (bi n h) (List.map AV.p xs)=some xs:=λn h xs=>VD (bH n h) xs;have a1:∀n h xs ys,aE (bi n h) (List.map AV.p xs++List.map AV.p ys)=some (xs++ys):=λn h xs ys=>Ee (bH n h) xs ys;have a0:∀n h xs y,aE (bi n h) (List.map AV.p xs++[AV.p y])=some (xs++[y]):=λn h xs y=>Ee (bH n h) xs [y];have J:cL y=.int .i64 (y:Int):=rfl;have tf:∀l:List Nat,((List.map AV.p (List.map cL l)=[])=True/\(List.map cL l=[])/\l.isEmpty=true/\l.length=0)\/((List.map AV.p (List.map cL l)=[])=False/\List.map cL l=List.map cL l/\l.isEmpty=false/\l.length=l.length):=λl=>by cases l<;>simp
    have c2:(d_++r).isEmpty=(d_.isEmpty&&r.isEmpty):=by cases d_<;>simp
    have X:List.take (e.length+1) (List.map cL e++[.int .i64 (y:Int)])=List.map cL e++[.int .i64 (y:Int)]:=dt (by simp);have V:List.take (d_.length+r.length) (List.map cL d_++List.map cL r)=List.map cL d_++List.map cL r:=dt (by simp);have U:List.take d_.length (List.map cL d_)=List.map cL d_:=dt (by simp);have T:List.take r.length (List.map cL r)=List.map cL r:=dt (by simp);have S:List.take (d_.length+0) (List.map cL d_)=List.map cL d_:=dt (by simp);have b1:l4 [y]=.slice 1 [.int .i64 (y:Int)] false:=rfl;have a7:0<=ai:=cG _;have a6:1<=ai:=by simp[ai]
    have a9:l4 e=.nilslice/\(List.map AV.p (List.map cL e)=[])=True/\e=[]\/l4 e=.slice 1 (e.map cL) false/\(List.map AV.p (List.map cL e)=[])=False/\e≠[]:=by
     cases e
     .simp[l4,cL]
     .simp[l4,cL]
    have a8:l4 (e++[y])=.slice 1 ((e++[y]).map cL) false:=by cases e<;>rfl
    rcases tf d_ with⟨R,M,O,N⟩|⟨R,M,O,N⟩<;>rcases tf r with⟨D,A,C,q⟩|⟨D,A,C,q⟩<;>rcases a9 with⟨v,F,E⟩|⟨v,F,E⟩
    all_goals (
     simp only[BQ,aD,b7,b6,a4,b0,Y,ak,R,D,F,v,K,h2,hB,hx,L,J,G,a7,a6,xI,go_sem,simprocAttr];repeat (refine Y3 (by first|exact .inl ⟨[],rfl⟩|exact .inl ⟨[_],rfl⟩|exact .inr ⟨1,_,rfl,rfl⟩|exact .inr ⟨2,_,rfl,rfl⟩) ?_)
     refine TO (λi=>i != 0) (ih (e++[y]) (d_++r) (d_.isEmpty&&r.isEmpty) (by rw[ak];omega) b4 (by rw[ak];omega) (by grind)) ?_ ?_ ?_
     .simp only[yD,wV,a8,a2,a1,a0,O,C,M,A,q,N,aS,E,J,ak,bI,X,V,U,b1,kx,gZ,and_self,T,S,go_sem,simprocAttr]
     .refine zo @yD @wV ?_;exact dr.app _ [_]
     simp only[BQ,aD,yD,wV,G,go_sem,simprocAttr];refine am z () trivial ?_;simp only[b2,Z,aS,g8,ak,dQ,gS,dD,BY,go_sem,simprocAttr]
     exact v.symm)
def Bn(s)(l):∀(o) (c),(∀i,i∈o->i<l.length)->jv (fc s l) (ij l) c o=jw s c (m8 l o)
 |[],c,_=>rfl
 |i::o,c,h=>by
  obtain⟨b,q⟩:∃b,l[i]?=some b:=⟨_,bL (h i (by simp))⟩
  have e:m8 l (i::o)=b::m8 l o:=by simp[m8,q]
  have y:ij l i=b.colour:=by rw[ij,q]
  have u:fc s l c i=m4 s c b:=by rw[fc,q]
  rw[e,jv,jw,Bn s l o _ (λj v=>h j (by simp[v])),y,u]<;>cases m4 s c b<;>cases jw s b.colour (m8 l o)<;>rfl
def WK{l}{o}{b}(h:b∈m8 l o):b∈l:=by
 unfold m8 at h;grind
def H2(o):sb (l4 o) (.slice 1 (o.map cL) false):=by
 cases o
 .simp[sb,l4,cL]
 .exact .inl rfl
def zbi(l:List ClBatch)(o:List Nat)(e:∀i,i∈o->i<l.length)(j:o.length<=7):af TP 328 [.slice 2 (l.map ClBatch.pv) false,l4 o] (.slice 2 ((m8 l o).map ClBatch.pv) false):=
 (zbb l o false e j).pure.argless ⟨.inl rfl,H2 o,trivial⟩
def wI:Option (List Nat×Int)->PV
 |none=>.nilslice
 |some (o,_)=>l4 o
def pickN:Option (List Nat×Int)->Int
 |none=>-1
 |some (_,n)=>n
def D2{s}(j:ShopOk s):∀(l) (c),l.length<=1000->∀m,jw s c l=some m->0<=m/\m<=30000*(l.length:Int)
 |[],c,_,m,h=>by cases h;simp
 |b::l,c,q,m,h=>by
  rw[jw]at h
  cases e:m4 s c b with
  |none=>grind
  |some n=>
   cases i:jw s b.colour l with
   |none=>grind
   |some k=>
    rw[e,i]at h;cases h;have v:=vp j e;have u:=D2 j l b.colour (by grind) k i;grind
def QV(s:ClShop)(start:Int)(l:List ClBatch)(S:ShopOk s)(hb:∀b,b∈l->BatchOk s b)(h0:0<=start/\start<s.colours.length)(I:l.length<=7) :
  af TP 259 [s.pv,.int .i64 start,.slice 2 (l.map ClBatch.pv) false,.slice 1 ((List.range l.length).map cL) false] (.tuple [wI (qj s start l),.int .i64 (pickN (qj s start l))]):=by
 have G:qj s start l=eQ (fc s l) (ij l) start (dT 7 (List.range l.length)) none:=(zj (fc s l) (ij l) 7 start _ (by simpa using I)).symm;rw[G];have A:∀o,o∈dT 7 (List.range l.length)->o.Perm (List.range l.length):=λo ho=>uP 7 _ o ho;have O:=sE 7 (List.range l.length) (by simpa using I);have Z:(dT 7 (List.range l.length)).length<=823543:=fP O (fP (mX (by decide) (show (List.range l.length).length<=7 by simpa using I)) (by decide));have hO:=Wf 7 [] (List.range l.length) false (by simpa using I) List.nodup_range (by simpa using I) (by simp;omega);simp only[jb]at hO;generalize dT 7 (List.range l.length)=D at *
 refine ae (ag func259 rfl) rfl (zm ?_);refine aa hO rfl (zm ?_);refine aG [1,2,4,12] D (by omega) (τ:=Unit) (λd_ rest _=>True) (λd_ _=>[(10,.p (wI (eQ (fc s l) (ij l) start d_ none))),(11,.p (.int .i64 (pickN (eQ (fc s l) (ij l) start d_ none)))),(13,.p (.int .i64 d_.length))]) (λ_ _=>[.row 4 [.p s.pv]]) () trivial ?_ ?_ ?_
 .refine zm ?_;exact⟨rfl,rfl⟩
 .intro _ _;simp[go_sem]
 .intro d_ o r _ F _ hx j C;have N:o∈D:=by rw[F];simp
  have J:=A o N;have K:∀i,i∈o->i<l.length:=λi hi=>by grind
  have V:o.length<=7:=by rw[J.length_eq];simpa using I
  have v:eQ (fc s l) (ij l) start (d_++[o]) none=dq (eQ (fc s l) (ij l) start d_ none) ((jw s start (m8 l o)).map λn=>(o,n)):=by
   rw[<-Bn s l o start K];simp[eQ,vW]
  have u:=zbi l o K V;have y:=YI s start (m8 l o) S (λb Y=>hb b (WK Y)) h0 (by grind[m8]);have L:=D2 S (m8 l o) start (by grind[m8]);have e:l4 o=.nilslice\/l4 o=.slice 1 (o.map cL) false:=by cases o;exact .inl rfl;exact .inr rfl
  generalize jw s start (m8 l o)=lb at y v L;have M:∀q,eQ (fc s l) (ij l) start d_ none=some q->0<=q.2:=by
   rintro⟨E,n'⟩ hq
   have:=wH (fc s l) (ij l) start d_ E n' hq;have h2:∀i,i∈E->i<l.length:=λi hi=>by simpa using(A E (by grind)).mem_iff.1 hi
   have h3:=(A E (by grind)).length_eq;rw[Bn s l E start h2]at this;exact(D2 S (m8 l E) start (by grind[m8]) n' this.2).1
  generalize a0:eQ (fc s l) (ij l) start d_ none=pd at *
  cases lb with
  |none=>
   simp only[CG]at y;rw[Option.map_none,iT]at v;rcases e with e|e<;>rw[e]at u
   all_goals (
    refine zp j hx e ?_
    (first|refine aa (u) rfl ?_|refine aj (u) rfl ?_)
    refine zp j hx e ?_
    (first|refine aa (y) rfl ?_|refine aj (y) rfl ?_)
    refine zp j hx e ?_;refine am F () trivial ?_
    simp[C,v,go_sem])
  |some m=>
   have hm:=L m rfl;simp only[CG]at y;have U:decide (0<=m)=true:=by simpa using hm.1
   cases pd with
   |none=>
    rw[i8,fB]at v;rcases e with e|e<;>rw[e]at u
    all_goals (
     refine zp j hx e ?_
     (first|refine aa (u) rfl ?_|refine aj (u) rfl ?_)
     refine zp j hx e ?_
     (first|refine aa (y) rfl ?_|refine aj (y) rfl ?_)
     simp only[j,hx,e,U,pickN,go_sem,simprocAttr];refine am F () trivial ?_
     simp[C,v,wI,pickN,e,go_sem])
   |some q=>
    obtain⟨o2,R⟩:=q;have X:=M _ rfl;dsimp only at X;have d2:decide (R<0)=false:=by simp;omega
    rw[i8]at v;simp only[dq]at v;by_cases z:m<R
    .have T:decide (m<R)=true:=by simpa using z
     rw[if_pos z]at v;rcases e with e|e<;>rw[e]at u
     all_goals (
      simp only[j,hx,e,pickN,go_sem,simprocAttr]
      (first|refine aa (u) rfl ?_|refine aj (u) rfl ?_)
      simp only[j,hx,e,pickN,go_sem,simprocAttr]
      (first|refine aa (y) rfl ?_|refine aj (y) rfl ?_)
      simp only[j,hx,e,U,d2,T,pickN,go_sem,simprocAttr];refine am F () trivial ?_
      simp[C,v,wI,pickN,e,go_sem])
    .have T:decide (m<R)=false:=by simpa using z
     rw[if_neg z]at v;rcases e with e|e<;>rw[e]at u
     all_goals (
      simp only[j,hx,e,pickN,go_sem,simprocAttr]
      (first|refine aa (u) rfl ?_|refine aj (u) rfl ?_)
      simp only[j,hx,e,pickN,go_sem,simprocAttr]
      (first|refine aa (y) rfl ?_|refine aj (y) rfl ?_)
      simp only[j,hx,e,U,d2,T,pickN,go_sem,simprocAttr];refine am F () trivial ?_
      simp[C,v,wI,pickN,e,go_sem])
def Kr{s}{start}{l}:(gN s start≠0->dj s start l=gN s start)/\(gN s start=0->dj s start l=iH s l/\ShopOk s/\0<=start/\start<s.colours.length):=by
 unfold gN dj;by_cases e:(clCheck s).2.2=0
 .rw[if_pos e,if_pos e];by_cases i:aq start 0 ((s.colours.length:Int)-1)=true
  .rw[if_pos i,if_pos i];refine⟨λh=>absurd rfl h,λ_=>⟨rfl,sZ e,?_⟩⟩;simp[aq]at i;omega
  grind
 omega
def Vp{s}{l}(h:iH s l=0):(∀b,b∈l->BatchOk s b)/\l.length<=7:=by
 unfold iH at h;split at h
 .exact⟨xw h,by assumption⟩
 .cases h
def Jg(s:ClShop)(start:Int)(l:List ClBatch)(J:l.length<1000000000):af TP 194 [s.pv,.int .i64 start,.slice 2 (l.map ClBatch.pv) false] (ml s start l):=by
 have e:af TP 194 [s.pv,.int .i64 start,.slice 2 (l.map ClBatch.pv) false] (if dj s start l=0 then(match qj s start l with|some (o,n)=>.tuple [l4 o,.int .i64 n,.int .i64 0]|none=>.tuple [.nilslice,.int .i64 0,.int .i64 9]) else .tuple [.nilslice,.int .i64 0,.int .i64 (dj s start l)]):=by
  obtain⟨k1,I⟩:=Kr (s:=s) (start:=start) (l:=l);refine ae (ag func194 rfl) rfl (zm ?_);refine aa (Wu s start true) rfl (zm ?_);cases F:(gN s start==0)
  .have i:¬gN s start=0:=by simpa using F
   have C:(gN s start != 0)=true:=by simpa using i
   rw[if_neg (by omega)];simp[C,k1 i,go_sem]
  have i:gN s start=0:=by simpa using F
  obtain⟨L,A,z⟩:=I i;rw[L];refine zm ?_;refine aa (KR s l (by have:=A.len;omega) J) rfl ?_;refine zm ?_;cases E:(iH s l != 0)
  rotate_left
  .have v:¬iH s l=0:=by simpa using E
   rw[if_neg v];simp[go_sem]
  have v:iH s l=0:=by simpa using E
  obtain⟨D,y⟩:=Vp v;rw[if_pos v];refine zm ?_;refine Af (Z5 l.length y) (by simp only[go_sem,simprocAttr]) (zm ?_)
  (first|refine aa (QV s start l A D z y) rfl ?_|refine aj (QV s start l A D z y) rfl ?_)
  refine zm ?_
  cases u:qj s start l with
  |none=>simp only[wI,pickN,go_sem,simprocAttr]
  |some q=>
   obtain⟨o,n⟩:=q;have M:=nV (fc s l) (ij l) (λc j n h=>Cz A l c j n h) 7 start (List.range l.length) o n u;have K:decide (pickN (some (o,n))<0)=false:=decide_eq_false (by show ¬n<0;omega);simp only[wI,K,go_sem,simprocAttr];simp[pickN,go_sem]
 unfold ml;by_cases G:dj s start l=0
 .rw[if_pos G]at e |-
  cases u:qj s start l with
  |none=>grind
  |some q=>
   obtain⟨o,n⟩:=q;rw[u]at e;exact e.less (.inr ⟨_,_,rfl,rfl,H2 o,.inl rfl,.inl rfl,trivial⟩)
 grind
end Cl
namespace Wx
def gH (x y:Span) (e r n:Int):Bool:=r==-1||(decide (n*x.lo+(1000-n)*y.lo<=1000*(r+e))&&decide (1000*(r-e)<=n*x.hi+(1000-n)*y.hi))
def bC:List WxProp->List Span->List Span->List Int->Int->Bool
 |p::ps,x::xs,y::ys,r::rs,n=>gH x y p.error r n&&bC ps xs ys rs n
 |_,_,_,_,_=>true
def down (a b:Int):Int:=a / b
def dJ (s:Span) (q:Int×Int):Span:=
 if 0<q.1 then⟨s.lo,if(-q.2) / q.1<s.hi then(-q.2) / q.1 else s.hi⟩
 else if q.1<0 then⟨if s.lo < -((-q.2) / (-q.1)) then -((-q.2) / (-q.1)) else s.lo,s.hi⟩
 else if 0<q.2 then⟨s.lo,s.lo-1⟩ else s
def EX(s)(q)(n):((dJ s q).lo<=n/\n<=(dJ s q).hi)↔(s.lo<=n/\n<=s.hi)/\n*q.1+q.2<=0:=by
 unfold dJ;split
 .rename_i h;have k:=DF (a:=n) (b:=-q.2) h;grind
 .split
  .rename_i i e;have k:=DF (a:=-n) (b:=-q.2) (show 0 < -q.1 by omega);grind
  grind
def tq (s:Span) (x y:Span) (e r:Int):Span:=if r=-1 then s else dJ (dJ s (x.lo-y.lo,1000*(y.lo-r-e))) (y.hi-x.hi,1000*(r-e-y.hi))
def MI(s x y)(e r n):((tq s x y e r).lo<=n/\n<=(tq s x y e r).hi)↔(s.lo<=n/\n<=s.hi)/\gH x y e r n=true:=by
 unfold tq gH;split
 .grind
 .rename_i h;rw[EX,EX];grind
def jg:Span->List WxProp->List Span->List Span->List Int->Span
 |s,p::ps,x::xs,y::ys,r::rs=>jg (tq s x y p.error r) ps xs ys rs
 |s,_,_,_,_=>s
def rj(n):∀(ps) (xs ys) (rs) (s),((jg s ps xs ys rs).lo<=n/\n<=(jg s ps xs ys rs).hi)↔(s.lo<=n/\n<=s.hi)/\bC ps xs ys rs n=true
 |[],_,_,_,s=>by simp[jg,bC]
 |p::ps,[],_,_,s=>by simp[jg,bC]
 |p::ps,x::xs,[],_,s=>by simp[jg,bC]
 |p::ps,x::xs,y::ys,[],s=>by simp[jg,bC]
 |p::ps,x::xs,y::ys,r::rs,s=>by
  rw[jg,rj n ps xs ys rs,MI,bC,eI,and_assoc]
def Gz(x y)(e r n):gH x y e r n=gH y x e r (1000-n):=by
 grind[gH]
def xJ(n):∀(ps) (xs ys) (rs),xs.length=ys.length->bC ps xs ys rs n=bC ps ys xs rs (1000-n)
 |[],_,_,_,_=>by simp[bC]
 |p::ps,[],[],_,_=>by simp[bC]
 |p::ps,x::xs,y::ys,[],_=>by simp[bC]
 |p::ps,x::xs,y::ys,r::rs,h=>by
  rw[bC,bC,Gz,xJ n ps xs ys rs (by simpa using h)]
def GA(x)(e r n m):gH x x e r n=gH x x e r m:=by
 grind[gH]
def xK(n m):∀(ps) (xs) (rs),bC ps xs xs rs n=bC ps xs xs rs m
 |[],_,_=>by simp[bC]
 |p::ps,[],_=>by simp[bC]
 |p::ps,x::xs,[]=>by simp[bC]
 |p::ps,x::xs,r::rs=>by rw[bC,bC,GA x _ _ n m,xK n m ps xs rs]
def IR(x y)(e r):gH x y e r 1000=gH x x e r 1000:=by
 simp[gH]
def yW:∀(ps) (xs ys) (rs),xs.length=ys.length->bC ps xs ys rs 1000=bC ps xs xs rs 1000
 |[],_,_,_,_=>by simp[bC]
 |p::ps,[],[],_,_=>by simp[bC]
 |p::ps,x::xs,y::ys,[],_=>by simp[bC]
 |p::ps,x::xs,y::ys,r::rs,h=>by rw[bC,bC,IR,yW ps xs ys rs (by simpa using h)]
def eN (S:Int->Prop) (p:Span):Prop:=(∀v,S v->p.lo<=v/\v<=p.hi)/\((∀v,¬S v)/\p=⟨1001,-1⟩\/S p.lo/\S p.hi)
def eN.uniq{S T}{p q}(y:eN S p)(u:eN T q)(h:∀v,S v↔T v):p=q:=by
 obtain⟨l,z⟩:=y;obtain⟨j,i⟩:=u;rcases z with⟨e,rfl⟩|⟨a,b⟩
 .grind
 .rcases i with⟨e,rfl⟩|⟨c,d⟩
  .grind
  .have E:=l _ ((h _).2 c);have D:=l _ ((h _).2 d);have C:=j _ ((h _).1 a);have A:=j _ ((h _).1 b);cases p;cases q;grind
def hZ (p l:Span):Span:=⟨if l.lo<p.lo then l.lo else p.lo,if p.hi<l.hi then l.hi else p.hi⟩
def eN.join{S I:Int->Prop}{p l}(y:eN S p)(q:∀v,I v->l.lo<=v/\v<=l.hi)(j:I l.lo)(u:I l.hi)(C:0<=l.lo)(A:l.hi<=1000):eN (λv=>S v\/I v) (hZ p l):=by
 grind[eN,hZ]
def eN.same{S T}{p}(e:eN S p)(h:∀v,T v↔S v):eN T p:=by
 grind[eN]
def eN.init:eN (λ_=>False) ⟨1001,-1⟩:=⟨λ_ h=>h.elim,.inl ⟨λ_ h=>h,rfl⟩⟩
def joinL {α:Type} (f:α->Option Span):List α->Span->Span
 |[],p=>p
 |x::l,p=>joinL f l (match f x with|some s=>hZ p s|none=>p)
def eN.joinL{α}{f}{I:α->Int->Prop} (i:∀x,match f x with
   |some s=>(∀v,I x v->s.lo<=v/\v<=s.hi)/\I x s.lo/\I x s.hi/\0<=s.lo/\s.hi<=1000
   |none=>∀v,¬I x v) :
  ∀(l) {S} {p},eN S p->eN (λv=>S v\/∃x,x∈l/\I x v) (Wx.joinL f l p)
 |[],S,p,h=>h.same λv=>by simp
 |x::l,S,p,h=>by
  have hx:=i x;rw[Wx.joinL]
  cases j:f x with
  |none=>
   rw[j]at hx;refine(eN.joinL i l h).same λv=>?_;grind
  |some s=>
   rw[j]at hx;obtain⟨C,A,z,u,q⟩:=hx;refine(eN.joinL i l (h.join C A z u q)).same λv=>?_;grind
section
variable (ex:Nat->Nat->Int->Bool) (kind:Nat)
def p9 (q:Nat×Nat) (n:Int):Int:=if kind=q.1 then n else if kind=q.2 then 1000-n else 0
def eH (q:Nat×Nat) (l:Span):Span:=if kind=q.1 then l else if kind=q.2 then⟨1000-l.hi,1000-l.lo⟩ else⟨0,0⟩
def vu (q:Nat×Nat) (n:Int):Prop:=if q.1=q.2 then n=1000 else 1<=n/\n<=999
def rH (many:Nat):List (Nat×Nat):=(List.range many).flatMap λa=>(List.range (a+1)).map λb=>(a,b)
def lr (many:Nat):List (Nat×Nat):=(List.range many).flatMap λa=>(List.range many).map λb=>(a,b)
def pZ(e)(q):q∈rH e↔q.1<e/\q.2<=q.1:=by
 grind[rH]
def CD(e)(q):q∈lr e↔q.1<e/\q.2<e:=by
 grind[lr]
def uQ (s:Span):Option Span:=if s.lo<=s.hi then some s else none
def T6 (sp:Nat×Nat->Span) (many:Nat):Span:=joinL (λq=>(uQ (sp q)).map (eH kind q)) (rH many) ⟨1001,-1⟩
def Kc{sp}(j:∀q n,((sp q).lo<=n/\n<=(sp q).hi)↔vu q n/\ex q.1 q.2 n=true)(e) :
  eN (λv=>∃q n,q∈rH e/\vu q n/\ex q.1 q.2 n=true/\v=p9 kind q n) (T6 kind sp e):=by
 have h:=eN.joinL (f:=λq=>(uQ (sp q)).map (eH kind q)) (I:=λq v=>∃n,vu q n/\ex q.1 q.2 n=true/\v=p9 kind q n) (λq=>?_) (rH e) eN.init
 .refine h.same λv=>?_;simp
 .have z:∀n,vu q n->1<=n/\n<=1000:=λn h=>by unfold vu at h;grind
  unfold uQ;by_cases l:(sp q).lo<=(sp q).hi
  .rw[if_pos l];have i:=(j q (sp q).lo).1 ⟨lP _,l⟩;have hh:=(j q (sp q).hi).1 ⟨l,lP _⟩;have C:=z _ i.1;have A:=z _ hh.1;simp only[i8];grind[vu,p9,eH]
  grind
def tL (q:Nat×Nat) (n:Int):Int:=if kind=q.1/\kind=q.2 then 1000 else p9 kind q n
def kf (q:Nat×Nat) (s:Span):Span:=if kind=q.1/\kind=q.2 then⟨1000,1000⟩ else eH kind q s
def ZB (sp:Nat×Nat->Option Span) (many:Nat):Span:=joinL (λq=>(sp q).map (kf kind q)) (lr many) ⟨1001,-1⟩
def Kb{sp} (y:∀q,match sp q with
   |some s=>(∀n,1<=n->n<=1000->ex q.1 q.2 n=true->s.lo<=n/\n<=s.hi)/\(ex q.1 q.2 s.lo=true/\1<=s.lo/\s.lo<=1000)/\ex q.1 q.2 s.hi=true/\1<=s.hi/\s.hi<=1000
   |none=>∀n,1<=n->n<=1000->ex q.1 q.2 n=false) (i) :
  eN (λv=>∃q n,q∈lr i/\(1<=n/\n<=1000)/\ex q.1 q.2 n=true/\v=tL kind q n) (ZB kind sp i):=by
 have h:=eN.joinL (f:=λq=>(sp q).map (kf kind q)) (I:=λq v=>∃n,(1<=n/\n<=1000)/\ex q.1 q.2 n=true/\v=tL kind q n) (λq=>?_) (lr i) eN.init
 .grind[eN,lr,tL,ZB]
 .have l:=y q
  cases z:sp q with
  |none=>
   grind
  |some s=>
   rw[z]at l;obtain⟨j,e,u⟩:=l;have D:=j _ e.2.1 e.2.2 e.1;simp only[i8];refine⟨?_,?_,?_,?_,?_⟩
   .rintro v ⟨n,A,C,rfl⟩
    have:=j n A.1 A.2 C;unfold kf tL;grind[eH,p9]
   .unfold kf tL;split
    .grind
    .unfold eH p9;split
     .grind
     grind
   .unfold kf tL;split
    .grind
    .unfold eH p9;split
     .grind
     grind
   .unfold kf;grind[eH]
   .unfold kf;grind[eH]
def O8{e}(G:kind<e)(y:∀a b n,a<e->b<e->ex a b n=ex b a (1000-n))(z:∀a n m,ex a a n=ex a a m)(D:∀a b,a<e->b<e->ex a b 1000=ex a a 1000)(v) :
  (∃q n,q∈rH e/\vu q n/\ex q.1 q.2 n=true/\v=p9 kind q n)↔∃q n,q∈lr e/\(1<=n/\n<=1000)/\ex q.1 q.2 n=true/\v=tL kind q n:=by
 constructor
 .rintro⟨⟨a,b⟩,n,j,A,u,rfl⟩
  rw[pZ]at j;unfold vu at A;dsimp only at j A u;refine⟨(a,b),n,(CD _ _).2 ⟨j.1,by omega⟩,by grind,u,?_⟩;grind[p9,tL]
 .rintro⟨⟨a,b⟩,n,j,A,u,rfl⟩
  rw[CD]at j;dsimp only at j u;by_cases C:a=b
  .subst C;refine⟨(a,a),1000,(pZ _ _).2 ⟨j.1,ba _⟩,by simp[vu],by grind,?_⟩;grind[tL,p9]
  .by_cases E:n=1000
   .subst E;refine⟨(a,a),1000,(pZ _ _).2 ⟨j.1,ba _⟩,by simp[vu],by grind,?_⟩;grind[tL,p9]
   .by_cases F:b<a
    .refine⟨(a,b),n,(pZ _ _).2 ⟨j.1,by omega⟩,by grind[vu],u,?_⟩;grind[tL,p9]
    .refine⟨(b,a),1000-n,(pZ _ _).2 ⟨j.2,by omega⟩,by grind[vu],by grind,?_⟩;grind[tL,p9]
end
set_option maxRecDepth 4000
def Dh(lo hi n):af TP 125 [.int .i64 n,.ptr 1 [.int .i64 lo] 0 0,.ptr 1 [.int .i64 hi] 0 0] (.bool (!aq n lo hi)):=by
 refine ae (ag func125 rfl) rfl (zm ?_);refine aT (λe=>?_) (λe=>?_)<;>refine zn e ?_<;>simp_all [aq];grind
def gk(lo hi)(l:List Int)(b)(e:l.length<1000000000):af TP 53 [.int .i64 lo,.int .i64 hi,.slice 1 (l.map ay) b] (.bool (l.any λn=>!aq n lo hi)):=by
 refine ae (ag func53 rfl) rfl (zm ?_);refine bq (lD (fv:=.func (.func 125) [] [.ptr 1 [.int .i64 lo] 0 0,.ptr 1 [.int .i64 hi] 0 0]) l (λn=>!aq n lo hi) b 1 rfl e λn _=>⟨_,_,_,rfl,Dh lo hi n⟩) ?_ (.bool _) ?_
 .simp[go_sem]
 .simp[go_sem]
def zg(x:WxProp):af TP 55 [x.pv] (.str x.name):=by
 refine ae (ag func55 rfl) rfl ?_;simp[go_sem]
def I9(s)(x:WxProp):af TP 127 [x.pv,.ptr 1 [.func (.func 55) [] []] 0 0,.ptr 1 [.str s] 0 0] (.bool (x.name==s)):=by
 refine ae (ag func127 rfl) rfl (zm ?_);refine aj (zg x) rfl ?_;simp[go_sem]
def Es(l)(x)(b)(z:l.length<1000000):af TP 54 [.slice 2 ((l++[x]).map WxProp.pv) b,.func (.func 55) [] []] (.int .i64 (ar (l.map (·.name)) x.name)):=by
 have hw:i64.wrap ((((l++[x]).length:Nat):Int)-1)=((l.length:Nat):Int):=by
  rw[ct (by simp<;>omega) (by grind[ai])];simp
 have hx:(l++[x])[l.length]?=some x:=by simp
 have q:((l.length:Nat):Int)<(((l++[x]).length:Nat):Int):=by simp<;>omega
 have u:((l.length:Nat):Int)<=(((l++[x]).length:Nat):Int):=by omega
 have j:((l++[x]).map WxProp.pv).take l.length=l.map WxProp.pv:=by rw[aS,eX (by simp)]
 have v:(l.length==(l++[x]).length)=false:=by simp
 refine ae (ag func54 rfl) rfl (zp hw hx q ?_);refine aj (zg x) rfl (zm ?_);refine aa (kY x.name) rfl (zm ?_);cases i:nameOk x.name
 .refine zm ?_;simp[ar,i]
 .refine zp u j v ?_;refine bq (Ez (fv:=.func (.func 127) [] [.ptr 1 [.func (.func 55) [] []] 0 0,.ptr 1 [.str x.name] 0 0]) l (λy=>y.name==x.name) false 2 rfl (by omega) λy _=>⟨_,_,_,rfl,I9 x.name y⟩) ?_ (.bool _) ?_
  .simp[go_sem]
  refine zm ?_;refine aT (λe=>?_) (λe=>?_)<;>refine zn e ?_
  .grind[ar]
  grind[ar]
def zf(x:WxKind):af TP 57 [x.pv] (.str x.name):=by
 refine ae (ag func57 rfl) rfl ?_;simp[go_sem]
def I8(s)(x:WxKind):af TP 129 [x.pv,.ptr 1 [.func (.func 57) [] []] 0 0,.ptr 1 [.str s] 0 0] (.bool (x.name==s)):=by
 refine ae (ag func129 rfl) rfl (zm ?_);refine aj (zf x) rfl ?_;simp[go_sem]
def Er(l)(x)(b)(z:l.length<1000000):af TP 56 [.slice 2 ((l++[x]).map WxKind.pv) b,.func (.func 57) [] []] (.int .i64 (ar (l.map (·.name)) x.name)):=by
 have hw:i64.wrap ((((l++[x]).length:Nat):Int)-1)=((l.length:Nat):Int):=by
  rw[ct (by simp<;>omega) (by grind[ai])];simp
 have hx:(l++[x])[l.length]?=some x:=by simp
 have q:((l.length:Nat):Int)<(((l++[x]).length:Nat):Int):=by simp<;>omega
 have u:((l.length:Nat):Int)<=(((l++[x]).length:Nat):Int):=by omega
 have j:((l++[x]).map WxKind.pv).take l.length=l.map WxKind.pv:=by rw[aS,eX (by simp)]
 have v:(l.length==(l++[x]).length)=false:=by simp
 refine ae (ag func56 rfl) rfl (zp hw hx q ?_);refine aj (zf x) rfl (zm ?_);refine aa (kY x.name) rfl (zm ?_);cases i:nameOk x.name
 .refine zm ?_;simp[ar,i]
 .refine zp u j v ?_;refine bq (Ey (fv:=.func (.func 129) [] [.ptr 1 [.func (.func 57) [] []] 0 0,.ptr 1 [.str x.name] 0 0]) l (λy=>y.name==x.name) false 2 rfl (by omega) λy _=>⟨_,_,_,rfl,I8 x.name y⟩) ?_ (.bool _) ?_
  .simp[go_sem]
  refine zm ?_;refine aT (λe=>?_) (λe=>?_)<;>refine zn e ?_
  .grind[ar]
  grind[ar]
def nt (p:WxProp):Int:=if aq p.error 0 10000=true then 0 else 7
def oO (s:Span):Bool:=aq s.lo 0 100000&&aq s.hi 0 100000
def hJ (many:Nat) (k:WxKind):Int:=if k.props.length=many then(if(k.props.any λs=>!oO s)=true then 7 else if(k.props.any λs=>decide (s.hi<s.lo))=true then 2 else 0) else 3
def dC (before:List ByteArray) (p:WxProp):Int:=if ar before p.name=0 then nt p else ar before p.name
def kindErr (many:Nat) (before:List ByteArray) (k:WxKind):Int:=if ar before k.name=0 then hJ many k else ar before k.name
def tail (t:WxTable):Option (Int×Int)->Int×Int×Int
 |some (i,e)=>(2,i,e)
 |none=>match firstErr (kindErr t.props.length) (·.name) t.kinds []with|some (i,e)=>(3,i,e)|none=>(0,0,0)
def wxCheck (t:WxTable):Int×Int×Int:=
 if(aq t.props.length 1 5&&aq t.kinds.length 1 8)=true then
  if aq t.purity 1 1000=true then tail t (firstErr dC (·.name) t.props []) else(1,0,7)
 else(1,0,3)
def Lu{t}{d_ r}{x}(q:firstErr dC (·.name) t.props []=firstErr dC (·.name) (x::r) (d_.map (·.name))) :
  (dC (d_.map (·.name)) x=0->firstErr dC (·.name) t.props []=firstErr dC (·.name) r ((d_++[x]).map (·.name))) /\
  ∀e,dC (d_.map (·.name)) x=e->e≠0->tail t (firstErr dC (·.name) t.props [])=(2,(d_.length:Int),e):=by
 grind[dC,firstErr,tail]
def LL{t}{d_ r}{x}(q:firstErr (kindErr t.props.length) (·.name) t.kinds []=firstErr (kindErr t.props.length) (·.name) (x::r) (d_.map (·.name))) :
  (kindErr t.props.length (d_.map (·.name)) x=0->firstErr (kindErr t.props.length) (·.name) t.kinds []=firstErr (kindErr t.props.length) (·.name) r ((d_++[x]).map (·.name))) /\
  ∀e,kindErr t.props.length (d_.map (·.name)) x=e->e≠0->tail t none=(3,(d_.length:Int),e):=by
 grind[kindErr,firstErr,tail]
def zat(s):af TP 59 [s.pv] (.bool (!oO s)):=by
 refine ae (ag func59 rfl) rfl (zm ?_);refine aa (gk 0 100000 [_,_] true (by simp)) rfl ?_;simp only[bZ,cO,dd,<-mT,oO,go_sem,simprocAttr]
def zas(s:Span):af TP 60 [s.pv] (.bool (decide (s.hi<s.lo))):=by
 refine ae (ag func60 rfl) rfl ?_;simp[go_sem]
def rY(t):af TP 20 [t.pv] (ao (wxCheck t)):=by
 refine ae (ag func20 rfl) rfl (zm ?_);refine aa (gk 1 5 [_] true (by simp)) rfl ?_;simp only[bZ,cO,dd,go_sem,simprocAttr];cases G:aq t.props.length 1 5
 .simp[ao,wxCheck,G,go_sem]
 refine zm ?_;refine aa (gk 1 8 [_] true (by simp)) rfl ?_;simp only[bZ,cO,dd,go_sem,simprocAttr];cases I:aq t.kinds.length 1 8
 .simp[ao,wxCheck,G,I,go_sem]
 refine zm ?_;refine aa (gk 1 1000 [_] true (by simp)) rfl ?_;simp only[bZ,cO,dd,go_sem,simprocAttr];cases N:aq t.purity 1 1000
 .simp[ao,wxCheck,G,I,N,go_sem]
 have D:wxCheck t=tail t (firstErr dC (·.name) t.props []):=by simp only[wxCheck,G,I,N,tj,if_true]
 rw[D];have O:t.props.length<=5:=by simp[aq]at G;omega
 have R:t.kinds.length<=8:=by simp[aq]at I;omega
 refine zm ?_
 refine aG [1,28,29] t.props (by omega) (τ:=Unit) (λd_ rest _=>firstErr dC (·.name) t.props []=firstErr dC (·.name) rest (d_.map (·.name)))
  (λd_ _=>[(30,.p (.int .i64 d_.length)),(4,.p (.int .i64 0))]) (λ_ _=>[.row 3 [.p t.pv]]) () rfl ?_ ?_ ?_
 .simp only[go_sem,simprocAttr]<;>simp
 .intro _ v;have J:tail t (firstErr dC (·.name) t.props [])=tail t none:=by rw[v];rfl
  rw[J];refine zm ?_
  refine aG [1,52,53] t.kinds (by omega) (τ:=Unit) (λd_ rest _=>firstErr (kindErr t.props.length) (·.name) t.kinds []=firstErr (kindErr t.props.length) (·.name) rest (d_.map (·.name)))
   (λd_ _=>[(54,.p (.int .i64 d_.length)),(4,.p (.int .i64 0))]) (λ_ _=>[.row 3 [.p t.pv]]) () rfl ?_ ?_ ?_
  .simp only[go_sem,simprocAttr]<;>simp
  .intro _ v;have J:tail t none=(0,0,0):=by
    simp only[tail];rw[v];rfl
   simp[ao,J,go_sem]
  .intro d_ x r _ q v hx z j;obtain⟨L,i⟩:=LL v;have A:(((d_++[x]).length:Nat):Int)<=(t.kinds.length:Int):=by rw[q];simp<;>omega
   have y:(t.kinds.map WxKind.pv).take (d_++[x]).length=(d_++[x]).map WxKind.pv:=by
    rw[q,show d_++x::r=(d_++[x])++r by simp,aS,eX (by simp)]
   have C:d_.length<1000000:=by have:=congrArg List.length q;simp at this;omega
   refine t_ z hx j A y ?_;refine aa (Er d_ x false C) rfl (zm ?_);cases F:(ar (d_.map (·.name)) x.name != 0)
   rotate_left
   .have e:ar (d_.map (·.name)) x.name≠0:=by simpa using F
    simp only[ao,i _ (by rw[kindErr,if_neg e]) e,go_sem,simprocAttr]
   have e:ar (d_.map (·.name)) x.name=0:=by simpa using F
   have u:kindErr t.props.length (d_.map (·.name)) x=hJ t.props.length x:=by rw[kindErr,if_pos e]
   refine zm ?_;cases E:((x.props.length:Int) != (t.props.length:Int))
   rotate_left
   .have l:¬x.props.length=t.props.length:=by simp at E;omega
    simp only[ao,i 3 (by rw[u,hJ,if_neg l]) (by decide),go_sem,simprocAttr]
   have l:x.props.length=t.props.length:=by simp at E;omega
   refine zm ?_;refine aa (qS (fv:=.func (.func 59) [] []) x.props (λs=>!oO s) false 2 rfl (by omega) λs _=>⟨_,_,_,rfl,zat s⟩) rfl (zm ?_);cases K:(x.props.any λs=>!oO s)
   rotate_left
   .simp only[ao,i 7 (by rw[u,hJ,if_pos l,K];rfl) (by decide),go_sem,simprocAttr]
   refine zm ?_;refine aa (qS (fv:=.func (.func 60) [] []) x.props (λs=>decide (s.hi<s.lo)) false 2 rfl (by omega) λs _=>⟨_,_,_,rfl,zas s⟩) rfl (zm ?_);cases M:(x.props.any λs=>decide (s.hi<s.lo))
   rotate_left
   .simp only[ao,i 2 (by rw[u,hJ,if_pos l,K,M];rfl) (by decide),go_sem,simprocAttr]
   refine zn e ?_;refine am q () (L (by rw[u,hJ,if_pos l,K,M];rfl)) ?_;simp[j,go_sem]
 .intro d_ x r _ q v hx z j;obtain⟨L,i⟩:=Lu v;have A:(((d_++[x]).length:Nat):Int)<=(t.props.length:Int):=by rw[q];simp<;>omega
  have y:(t.props.map WxProp.pv).take (d_++[x]).length=(d_++[x]).map WxProp.pv:=by
   rw[q,show d_++x::r=(d_++[x])++r by simp,aS,eX (by simp)]
  have C:d_.length<1000000:=by have:=congrArg List.length q;simp at this;omega
  refine t_ z hx j A y ?_;refine aa (Es d_ x false C) rfl (zm ?_);cases F:(ar (d_.map (·.name)) x.name != 0)
  rotate_left
  .have e:ar (d_.map (·.name)) x.name≠0:=by simpa using F
   simp only[ao,i _ (by rw[dC,if_neg e]) e,go_sem,simprocAttr]
  have e:ar (d_.map (·.name)) x.name=0:=by simpa using F
  have u:dC (d_.map (·.name)) x=nt x:=by rw[dC,if_pos e]
  refine zm ?_;refine aa (gk 0 10000 [_] true (by simp)) rfl ?_;simp only[bZ,cO,dd,go_sem,simprocAttr];cases E:aq x.error 0 10000
  .simp only[ao,i 7 (by rw[u,nt,E];rfl) (by decide),go_sem,simprocAttr]
  refine zn e ?_;refine am q () (L (by rw[u,nt,E];rfl)) ?_;simp[j,go_sem]
end Wx
open Go.IntKind (i64)
namespace Wx
set_option maxRecDepth 4000
structure TableOk (t:WxTable):Prop where
 props:t.props.length<=5
 propsL:1<=t.props.length
 kinds:t.kinds.length<=8
 kindsL:1<=t.kinds.length
 error:∀p,p∈t.props->0<=p.error/\p.error<=10000
 len:∀k,k∈t.kinds->k.props.length=t.props.length
 vals:∀k,k∈t.kinds->∀s,s∈k.props->0<=s.lo/\s.lo<=s.hi/\s.hi<=100000
 purity:1<=t.purity/\t.purity<=1000
 names:firstErr (kindErr t.props.length) (·.name) t.kinds []=none
def gW{α}{f:List ByteArray->α->Int}{q}:∀{l} {i},firstErr f q l i=none->∀(a) (x) (r),l=a++x::r->f (i++a.map q) x=0
 |[],_,_,a,x,r,e=>by simp at e
 |y::l,i,h,a,x,r,e=>by
  rw[firstErr]at h;split at h
  .rename_i u
   cases a with
   |nil=>
    obtain⟨j,_⟩:=Hb e;subst j
    simpa using u
   |cons z a=>
    obtain⟨j,v⟩:=Hb e;subst j;have:=gW h a x r v;simpa using this
  .cases h
def jM{α}{f:List ByteArray->α->Int}{q}:∀{l} {j} {i e},firstErr f q l j=some (i,e)->e≠0
 |[],_,_,_,h=>by cases h
 |y::r,j,i,e,h=>by
  rw[firstErr]at h;split at h
  .exact jM h
  .rename_i u;cases h;exact u
def Hn{t}(h:(wxCheck t).2.2=0):TableOk t:=by
 unfold wxCheck at h;split at h
 .rename_i E;split at h
  .rename_i D
   cases u:firstErr dC (·.name) t.props [] with
   |some q=>obtain⟨i,e⟩:=q;rw[u]at h;exact absurd h (jM u)
   |none=>
    rw[u]at h
    cases v:firstErr (kindErr t.props.length) (·.name) t.kinds [] with
    |some q=>obtain⟨i,e⟩:=q;simp only[tail,v]at h;exact absurd h (jM v)
    |none=>
     simp[aq]at E D;have A:∀k,k∈t.kinds->hJ t.props.length k=0:=λk j=>by
      obtain⟨a,r,e⟩:=RB j;have:=gW v a k r e;unfold kindErr at this;split at this
      .exact this
      .contradiction
     refine⟨by omega,by omega,by omega,by omega,λp z=>?_,λk j=>?_,λk j s C=>?_,by omega,v⟩
     .obtain⟨a,r,e⟩:=RB z;have:=gW u a p r e;unfold dC nt at this;split at this
      .split at this
       .rename_i l;simpa[aq]using l
       .cases this
      .contradiction
     .have:=A k j;unfold hJ at this;split at this
      .assumption
      .cases this
     .have:=A k j;unfold hJ at this;split at this
      .split at this
       .cases this
       .split at this
        .cases this
        .rename_i l y;simp only[Mu,not_exists,not_and]at l y;have l:=l s C;have y:=y s C;simp[oO,aq]at l y;omega
      .cases this
  .cases h
 .cases h
def fL (n:Int):Bool:=n==-1||aq n 0 100000
def cU (t:WxTable) (rs:List Int):Int:=if(wxCheck t).2.2=0 then(if rs.length=t.props.length then(if rs.all fL=true then 0 else 7) else 3) else(wxCheck t).2.2
def tz (t:WxTable) (rs:List Int):PV:=.ptr 4 [.agg [.slice 2 (t.props.map WxProp.pv) false,.slice 2 (t.kinds.map WxKind.pv) false,.int .i64 t.purity,.slice 1 (rs.map ay) false]] 0 0
attribute [go_sem] tz
def N1(t)(rs)(v:rs.length<1000000000):af TP 303 [t.pv,.slice 1 (rs.map ay) false] (.tuple [if cU t rs=0 then tz t rs else .nilptr,.int .i64 (cU t rs)]):=by
 refine bX (ag func303 rfl) rfl (zm ?_);refine aa (rY t) rfl ?_;simp only[ao,go_sem,simprocAttr];cases C:((wxCheck t).2.2 != 0)
 rotate_left
 .have i:¬(wxCheck t).2.2=0:=by simpa using C
  simp[cU,if_neg i,go_sem]
 have i:(wxCheck t).2.2=0:=by simpa using C
 refine zm ?_;cases A:((rs.length:Int) != (t.props.length:Int))
 rotate_left
 .have j:¬rs.length=t.props.length:=by simp at A;omega
  simp[cU,if_neg j,i,go_sem]
 have j:rs.length=t.props.length:=by simp at A;omega
 have u:cU t rs=if rs.all fL=true then 0 else 7:=by rw[cU,if_pos i,if_pos j]
 rw[u];refine zm ?_;refine aG [1,2,26,27] rs v (τ:=Unit) (λd_ rest _=>rs.all fL=rest.all fL) (λd_ _=>[(28,.p (.int .i64 d_.length))]) (λ_ _=>[.row 3 [.p t.pv]]) () rfl ?_ ?_ ?_
 .simp only[go_sem,simprocAttr]<;>simp
 .intro _ e;simp[e,ti,go_sem]
 .intro d_ n r _ D e hx y l;rw[List.all_cons]at e;refine zo y hx ?_;cases q:(n != -1)
  .have:fL n=true:=by simp[fL];simp at q;exact .inl q
   rw[this,o0]at e;refine zm ?_;refine am D () e ?_;simp[l,go_sem]
  .have E:fL n=aq n 0 100000:=by simp[fL];simp at q;simp[q]
   refine zm ?_;refine aa (gk 0 100000 [_] true (by simp)) rfl ?_;simp only[bZ,cO,dd,go_sem,simprocAttr];rw[E]at e;cases z:aq n 0 100000
   .rw[z,Bool.false_and]at e;simp[e,go_sem]
   .rw[z,o0]at e;refine zm ?_;refine am D () e ?_;simp[l,go_sem]
def sw(a b:Int)(e:0<b):a / b=if a.tmod b<0 then a.tdiv b-1 else a.tdiv b:=by
 have i:=Int.tdiv_eq_ediv (a:=a) (b:=b);have l:=Int.tmod_eq_emod (a:=a) (b:=b);have y:=Int.emod_nonneg a (Int.ne_of_gt e);have v:=Int.emod_lt_of_pos a e;have q:b.sign=1:=Int.sign_eq_one_of_pos e;have u:(b.natAbs:Int)=b:=Int.natAbs_of_nonneg (Mw e);rw[q]at i;by_cases j:0<=a\/b ∣ a
 .rw[if_pos j]at i l;rw[if_neg (by omega)];omega
 .rw[if_neg j]at i l;rw[if_pos (by omega)];omega
def yY{a b B}(i:0<b)(q:-B<=a)(l:a<=B)(j:0<=B):-B<=a / b/\a / b<=B:=by
 refine⟨(DF i).2 ?_,?_⟩
 .have:B*1<=B*b:=v6 (by omega) j;have e:-B*b=-(B*b):=by rw[He]
  omega
 .rcases Hf 0 a with h|h
  .exact xS (Int.ediv_le_self b h) l
  .have:=Hg i h;rw[Int.zero_ediv]at this;omega
def od(a b)(l:0<b)(u:-1000000000000000000<=a)(q:a<=1000000000000000000):af TP 395 [.int .i64 a,.int .i64 b] (.int .i64 (a / b)):=by
 refine ae (ag func395 rfl) rfl ?_;have i:¬b=0:=by omega
 have z:=yY l u q (by omega);have e:=sw a b l;have y:i64.wrap (a.tdiv b)=a.tdiv b:=by
  split at e
  .exact ah
  .exact ah
 refine zo i y ?_;cases j:decide (a.tmod b<0)
 .rw[if_neg (by simpa using j)]at e;simp[e,go_sem]
 .rw[if_pos (by simpa using j)]at e;have v:i64.wrap (a.tdiv b-1)=a.tdiv b-1:=ah;simp[e,v,go_sem]
def aU (s:Span):Prop:=0<=s.lo/\s.lo<=s.hi/\s.hi<=100000
def X9(x y)(r e)(a b c d)(h)(j:h[a]?=some (.row 2 [.p x.pv]))(i:h[b]?=some (.row 2 [.p y.pv]))(D:h[c]?=some (.row 1 [.p (.int .i64 r)]))(C:h[d]?=some (.row 1 [.p (.int .i64 e)]))
  (hx:aU x) (A:aU y) (E:0<=r/\r<=100000) (F:0<=e/\e<=10000) :
  aw TP 376 [.ptr a 1 0 0,.ptr b 1 0 0,.ptr c 1 0 0,.ptr d 1 0 0] h (λq h'=>q=.ret (.p (.tuple [.int .i64 (x.lo-y.lo),.int .i64 (1000*(y.lo-r-e))]))/\h'=h):=by
 refine au (ag func376 rfl) rfl ?_;unfold aU at hx A;have z:i64.wrap (x.lo-y.lo)=x.lo-y.lo:=ah;have v:i64.wrap (y.lo-r)=y.lo-r:=ah;have u:i64.wrap (y.lo-r-e)=y.lo-r-e:=ah;have l:i64.wrap (1000*(y.lo-r-e))=1000*(y.lo-r-e):=ah;simp only[Span.pv]at j i;simp[j,i,D,C,z,v,u,l,go_sem]
def zae(y x)(r e)(a b c d)(h)(j:h[a]?=some (.row 2 [.p y.pv]))(i:h[b]?=some (.row 2 [.p x.pv]))(D:h[c]?=some (.row 1 [.p (.int .i64 r)]))(C:h[d]?=some (.row 1 [.p (.int .i64 e)]))
  (hx:aU x) (A:aU y) (E:0<=r/\r<=100000) (F:0<=e/\e<=10000) :
  aw TP 377 [.ptr a 1 0 0,.ptr b 1 0 0,.ptr c 1 0 0,.ptr d 1 0 0] h (λq h'=>q=.ret (.p (.tuple [.int .i64 (y.hi-x.hi),.int .i64 (1000*(r-e-y.hi))]))/\h'=h):=by
 refine au (ag func377 rfl) rfl ?_;unfold aU at hx A;have z:i64.wrap (y.hi-x.hi)=y.hi-x.hi:=ah;have v:i64.wrap (r-e)=r-e:=ah;have u:i64.wrap (r-e-y.hi)=r-e-y.hi:=ah;have l:i64.wrap (1000*(r-e-y.hi))=1000*(r-e-y.hi):=ah;simp only[Span.pv]at j i;simp[j,i,D,C,z,v,u,l,go_sem]
def Ml (l:Span):Prop:=0<=l.lo/\l.lo<=300000000/\-300000000<=l.hi/\l.hi<=300000000
def DM{l}{q}(e:Ml l)(j:-300000000<=q.2)(i:q.2<=300000000):Ml (dJ l q):=by
 unfold Ml dJ at *
 split
 .rename_i h;have:=yY (a:=-q.2) (B:=300000000) h (by omega) (by omega) (by omega);dsimp only;split<;>omega
 .split
  .rename_i h;have:=yY (a:=-q.2) (b:=-q.1) (B:=300000000) (by omega) (by omega) (by omega) (by omega);dsimp only;split<;>omega
  .split
   .dsimp only;omega
   .exact e
def OZ{s}(q)(h:0<q.1):dJ s q=⟨s.lo,if(-q.2) / q.1<s.hi then(-q.2) / q.1 else s.hi⟩:=by rw[dJ,if_pos h]
def OY{s}(q)(h:¬0<q.1)(e:q.1<0):dJ s q=⟨if s.lo < -((-q.2) / (-q.1)) then -((-q.2) / (-q.1)) else s.lo,s.hi⟩:=by rw[dJ,if_neg h,if_pos e]
def OX{s}(q)(h:¬0<q.1)(i:¬q.1<0)(e:0<q.2):dJ s q=⟨s.lo,s.lo-1⟩:=by rw[dJ,if_neg h,if_neg i,if_pos e]
def OW{s}(q)(h:¬0<q.1)(i:¬q.1<0)(e:¬0<q.2):dJ s q=s:=by rw[dJ,if_neg h,if_neg i,if_neg e]
def SB(l x y)(r e)(i a b c d)(h)(hi:h[i]?=some (.row 2 [.p l.pv]))(ha:h[a]?=some (.row 2 [.p x.pv]))(hb:h[b]?=some (.row 2 [.p y.pv]))(hc:h[c]?=some (.row 1 [.p (.int .i64 r)]))(L:h[d]?=some (.row 1 [.p (.int .i64 e)]))
  (f) (hf:h[f]?=some (.row 1 [.func (.func 376) [] [.ptr a 1 0 0,.ptr b 1 0 0,.ptr c 1 0 0,.ptr d 1 0 0],.func (.func 377) [] [.ptr b 1 0 0,.ptr a 1 0 0,.ptr c 1 0 0,.ptr d 1 0 0]]))
  (Z:i≠a) (Y:i≠b) (X:i≠c) (V:i≠d) (U:i≠f) (T:Ml l) (hx:aU x) (hy:aU y) (hr:0<=r/\r<=100000) (he:0<=e/\e<=10000) :
  aw TP 378 [.ptr i 1 0 0,.slice f 2 0 2] h (λq h'=>q=.ret (.p (.tuple []))/\h'=h.set i (.row 2 [.p (dJ (dJ l (x.lo-y.lo,1000*(y.lo-r-e))) (y.hi-x.hi,1000*(r-e-y.hi))).pv])):=by
 refine au (ag func378 rfl) rfl ?_;have hv:=hx;have hw:=hy
 unfold aU at hv hw;have a7:i<h.length:=(aC.1 hi).1;have F:∀v,(h.set i v)[i]?=some v:=λv=>jp a7;have J:∀v j,i≠j->(h.set i v)[j]?=h[j]?:=λv j hj=>eS hj;have I:=DM (q:=(x.lo-y.lo,1000*(y.lo-r-e))) T (by dsimp only;omega) (by dsimp only;omega);have a3:x.lo-y.lo=((x.lo-y.lo,1000*(y.lo-r-e)):Int×Int).1:=rfl;have a1:1000*(y.lo-r-e)=((x.lo-y.lo,1000*(y.lo-r-e)):Int×Int).2:=rfl;have a2:y.hi-x.hi=((y.hi-x.hi,1000*(r-e-y.hi)):Int×Int).1:=rfl;have a0:1000*(r-e-y.hi)=((y.hi-x.hi,1000*(r-e-y.hi)):Int×Int).2:=rfl;generalize a6:((x.lo-y.lo,1000*(y.lo-r-e)):Int×Int)=u at I a3 a1 |-;generalize a5:((y.hi-x.hi,1000*(r-e-y.hi)):Int×Int)=z at a2 a0 |-;have S:-300000000<=u.2/\u.2<=300000000/\-300000000<=u.1/\u.1<=300000000:=by rw[<-a6];dsimp only;omega
 have R:-300000000<=z.2/\z.2<=300000000/\-300000000<=z.1/\z.1<=300000000:=by rw[<-a5];dsimp only;omega
 refine zn hf ?_
 refine dY [0,8,9] (σ:=Nat×Span) (λq=>(q=(0,l)\/q=(1,dJ l u)\/q=(2,dJ (dJ l u) z))) (λq=>2-q.1)
  (λq=>[(10,.p (.int .i64 q.1))]) (λq=>h.set i (.row 2 [.p q.2.pv])) (0,l) (.inl rfl) (qD hi).symm ?_ ?_
 .simp[go_sem]
 rintro⟨k,s⟩ M
 have w0:i64.wrap (1:Int)=1:=rfl;have w2:i64.wrap (2:Int)=2:=rfl;have A:∀n:Int,-300000000<=n->n<=300000000->i64.wrap (-n)=-n:=λn h1 h2=>ah;rcases M with M|M|M
 .obtain⟨ek,es⟩:=Prod.mk.inj M;have O:=es.symm;subst ek;subst O;have hz:∀v,(h.set i v)[f]?=_:=λv=>(J v f U).trans hf;refine zn hz ?_;refine cw (X9 x y r e a b c d _ (by rw[J _ _ Z];exact ha) (by rw[J _ _ Y];exact hb) (by rw[J _ _ X];exact hc) (by rw[J _ _ V];exact L) hx hy hr he) ?_;rw[a3,a1];have a4:∀v,(h.set i v)[i]?=some v:=F;by_cases c1:0<u.1
  .have C:decide (0<u.1)=true:=by simpa using c1
   simp only[C,A _ S.1 S.2.1,F,go_sem,simprocAttr]
   (first|refine aa (od (-u.2) u.1 c1 (by omega) (by omega)) rfl ?_|refine aj (od (-u.2) u.1 c1 (by omega) (by omega)) rfl ?_)
   simp only[F,sn,go_sem,simprocAttr];refine aZ (1,dJ l u) (.inr (.inl rfl)) (by dsimp only;omega) ?_ ?_
   .refine zm ?_;rw[OZ (s:=l) u c1]
   .simp[go_sem]
  have C:decide (0<u.1)=false:=by simpa using c1
  by_cases G:u.1<0
  .have D:decide (u.1<0)=true:=by simpa using G
   have L:=yY (a:=-u.2) (b:=-u.1) (B:=300000000) (by omega) (by omega) (by omega) (by omega);simp only[C,D,A _ S.1 S.2.1,A _ S.2.2.1 S.2.2.2,F,go_sem,simprocAttr]
   (first|refine aa (od (-u.2) (-u.1) (by omega) (by omega) (by omega)) rfl ?_|refine aj (od (-u.2) (-u.1) (by omega) (by omega) (by omega)) rfl ?_)
   simp only[F,sn,A _ L.1 L.2,go_sem,simprocAttr];refine aZ (1,dJ l u) (.inr (.inl rfl)) (by dsimp only;omega) ?_ ?_
   .refine zm ?_;rw[OY (s:=l) u c1 G]
   .simp[go_sem]
  have D:decide (u.1<0)=false:=by simpa using G
  by_cases K:0<u.2
  .have E:decide (0<u.2)=true:=by simpa using K
   have N:i64.wrap (l.lo-1)=l.lo-1:=ah (by have:=T.1;have:=T.2.1;omega) (by have:=T.1;have:=T.2.1;omega);simp only[C,D,E,F,sn,N,go_sem,simprocAttr];refine aZ (1,dJ l u) (.inr (.inl rfl)) (by dsimp only;omega) ?_ ?_
   .refine zm ?_;rw[OX (s:=l) u c1 G K]
   .simp[go_sem]
  have E:decide (0<u.2)=false:=by simpa using K
  refine zp C D E ?_;refine aZ (1,dJ l u) (.inr (.inl rfl)) (by dsimp only;omega) ?_ ?_
  .refine zm ?_;rw[OW (s:=l) u c1 G K]
  .simp[go_sem]
 .obtain⟨ek,es⟩:=Prod.mk.inj M;have O:=es.symm;subst ek;subst O;have hz:∀v,(h.set i v)[f]?=_:=λv=>(J v f U).trans hf;refine zn hz ?_;refine cw (zae y x r e b a c d _ (by rw[J _ _ Y];exact hb) (by rw[J _ _ Z];exact ha) (by rw[J _ _ X];exact hc) (by rw[J _ _ V];exact L) hx hy hr he) ?_;rw[a2,a0];have a4:∀v,(h.set i v)[i]?=some v:=F;by_cases c1:0<z.1
  .have C:decide (0<z.1)=true:=by simpa using c1
   simp only[C,A _ R.1 R.2.1,F,go_sem,simprocAttr]
   (first|refine aa (od (-z.2) z.1 c1 (by omega) (by omega)) rfl ?_|refine aj (od (-z.2) z.1 c1 (by omega) (by omega)) rfl ?_)
   simp only[F,sn,go_sem,simprocAttr];refine aZ (2,dJ (dJ l u) z) (.inr (.inr rfl)) (by dsimp only;omega) ?_ ?_
   .refine zm ?_;rw[OZ (s:=(dJ l u)) z c1]
   .simp[go_sem]
  have C:decide (0<z.1)=false:=by simpa using c1
  by_cases G:z.1<0
  .have D:decide (z.1<0)=true:=by simpa using G
   have L:=yY (a:=-z.2) (b:=-z.1) (B:=300000000) (by omega) (by omega) (by omega) (by omega);simp only[C,D,A _ R.1 R.2.1,A _ R.2.2.1 R.2.2.2,F,go_sem,simprocAttr]
   (first|refine aa (od (-z.2) (-z.1) (by omega) (by omega) (by omega)) rfl ?_|refine aj (od (-z.2) (-z.1) (by omega) (by omega) (by omega)) rfl ?_)
   simp only[F,sn,A _ L.1 L.2,go_sem,simprocAttr];refine aZ (2,dJ (dJ l u) z) (.inr (.inr rfl)) (by dsimp only;omega) ?_ ?_
   .refine zm ?_;rw[OY (s:=(dJ l u)) z c1 G]
   .simp[go_sem]
  have D:decide (z.1<0)=false:=by simpa using G
  by_cases K:0<z.2
  .have E:decide (0<z.2)=true:=by simpa using K
   have N:i64.wrap ((dJ l u).lo-1)=(dJ l u).lo-1:=ah (by have:=I.1;have:=I.2.1;omega) (by have:=I.1;have:=I.2.1;omega);simp only[C,D,E,F,sn,N,go_sem,simprocAttr];refine aZ (2,dJ (dJ l u) z) (.inr (.inr rfl)) (by dsimp only;omega) ?_ ?_
   .refine zm ?_;rw[OX (s:=(dJ l u)) z c1 G K]
   .simp[go_sem]
  have E:decide (0<z.2)=false:=by simpa using K
  refine zp C D E ?_;refine aZ (2,dJ (dJ l u) z) (.inr (.inr rfl)) (by dsimp only;omega) ?_ ?_
  .refine zm ?_;rw[OW (s:=(dJ l u)) z c1 G K]
  .simp[go_sem]
 .obtain⟨rfl,rfl⟩:=Prod.mk.inj M;simp[go_sem]
def pg (t:WxTable) (rs:List Int) (a b:WxKind) (lo hi:Int):Span:=jg ⟨lo,hi⟩ t.props a.props b.props rs
def HW{ps:List WxProp}{xs ys:List Span}{r}{l}{k}{p}{x y}{n}(u:ps[k]?=some p)(hx:xs[k]?=some x)(q:ys[k]?=some y) :
  jg l (ps.drop k) (xs.drop k) (ys.drop k) (n::r)=jg (tq l x y p.error n) (ps.drop (k+1)) (xs.drop (k+1)) (ys.drop (k+1)) r:=by
 have A:=(aC.1 u)
 have z:=(aC.1 hx)
 have v:=(aC.1 q)
 obtain⟨j,rfl⟩:=A;obtain⟨i,rfl⟩:=z;obtain⟨e,rfl⟩:=v;rw[vY j,vY i,vY e,jg]
def YC(t)(rs)(i j:Nat)(a b)(lo hi)(z:TableOk t)(a0:rs.length=t.props.length)(L:rs.all fL=true)(E:t.kinds[i]?=some a)(D:t.kinds[j]?=some b)(a2:1<=lo/\lo<=1000)(a3:1<=hi/\hi<=1000) :
  af TP 349 [tz t rs,.int .i64 i,.int .i64 j,.int .i64 lo,.int .i64 hi] (pg t rs a b lo hi).pv:=by
 refine ae (dv (by kernel_rfl) rfl ZQ) rfl ?_;have T:(i:Int)<(t.kinds.length:Int):=by have:=(aC.1 E).1;omega
 have S:(j:Int)<(t.kinds.length:Int):=by have:=(aC.1 D).1;omega
 have a1:=z.props;have a5:=z.len a (aB E);have a4:=z.len b (aB D);simp only[Zq,go_sem,simprocAttr]
 refine aG [0,1,2,10,11,25,26] rs (by omega) (τ:=Span) (λd_ rest l=>Ml l/\pg t rs a b lo hi=jg l (t.props.drop d_.length) (a.props.drop d_.length) (b.props.drop d_.length) rest) (λd_ _=>[(27,.p (.int .i64 d_.length))])
  (λ_ l=>[.row 2 [.p (.agg [.int .i64 0,.int .i64 0])],.row 2 [.p l.pv]]) ⟨lo,hi⟩ ⟨by unfold Ml;dsimp only;omega,rfl⟩ ?_ ?_ ?_
 .simp[go_sem]
 .intro l ⟨_,e⟩;have:∀(l:Span) (ps:List WxProp) (xs ys:List Span),jg l ps xs ys ([]:List Int)=l:=λl ps xs ys=>by cases ps<;>cases xs<;>cases ys<;>rfl
  rw[this]at e;simp[e,go_sem]
 .intro d_ n r l F ⟨I,e⟩ hx R A;have U:=congrArg List.length F;simp only[ak,bc]at U;obtain⟨p,G⟩:∃p,t.props[d_.length]?=some p:=⟨_,bL (by omega)⟩
  obtain⟨x,v⟩:∃x,a.props[d_.length]?=some x:=⟨_,bL (by omega)⟩
  obtain⟨y,u⟩:∃y,b.props[d_.length]?=some y:=⟨_,bL (by omega)⟩
  rw[HW G v u]at e;have C:(d_++[n]).length=d_.length+1:=by simp
  have hn:=kl.1 L n (by rw[F];simp);refine zo R hx ?_;cases X:(n==-1)
  .have hr:0<=n/\n<=100000:=by
    have:¬n=-1:=by simpa using X
    simpa[fL,this,aq]using hn
   have N:¬n=-1:=by omega
   have M:=z.error p (aB G);have K:=z.vals a (aB E) x (aB v);have J:=z.vals b (aB D) y (aB u);have l1:(d_.length:Int)<(a.props.length:Int):=by omega
   have Z:(d_.length:Int)<(b.props.length:Int):=by omega
   have Y:(d_.length:Int)<(t.props.length:Int):=by omega
   rw[tq,if_neg N]at e;simp only[aD,E,D,T,S,G,v,u,l1,Z,Y,go_sem,simprocAttr];refine cw (SB l x y n p.error 1 3 4 2 5 _ rfl rfl rfl rfl rfl 6 rfl (by decide) (by decide) (by decide) (by decide) (by decide) I K J hr M) (zm ?_);have V:=DM (q:=(y.hi-x.hi,1000*(n-p.error-y.hi))) (DM (q:=(x.lo-y.lo,1000*(y.lo-n-p.error))) I (by dsimp only;omega) (by dsimp only;omega)) (by dsimp only;omega) (by dsimp only;omega);refine am F _ ⟨V,by rw[C];exact e⟩ ?_;simp[A,go_sem]
  .have O:n=-1:=by simpa using X
   rw[tq,if_pos O]at e;refine zm ?_;refine am F l ⟨I,by rw[C];exact e⟩ ?_;simp[A,go_sem]
def iQ (t:WxTable) (rs:List Int) (q:Nat×Nat):Span:=
 match t.kinds[q.1]?,t.kinds[q.2]? with
 |some a,some b=>pg t rs a b (if q.1=q.2 then 1000 else 1) (if q.1=q.2 then 1000 else 999)
 |_,_=>⟨1,0⟩
def uX (t:WxTable) (rs:List Int) (q:Nat×Nat):List ((Nat×Nat)×Span):=match uQ (iQ t rs q) with|some s=>[(q,s)]|none=>[]
def wx (t:WxTable) (rs:List Int) (a:Nat):Nat->Nat->List ((Nat×Nat)×Span)
 |_,0=>[]
 |b,c+1=>uX t rs (a,b)++wx t rs a (b+1) c
def uE (t:WxTable) (rs:List Int):Nat->Nat->List ((Nat×Nat)×Span)
 |_,0=>[]
 |a,c+1=>wx t rs a 0 (a+1)++uE t rs (a+1) c
def oq (t:WxTable) (rs:List Int):List ((Nat×Nat)×Span):=uE t rs 0 t.kinds.length
def nZ (m:(Nat×Nat)×Span):PV:=.agg [.int .i64 m.1.1,.int .i64 m.1.2,.int .i64 m.2.lo,.int .i64 m.2.hi]
attribute [go_sem] nZ
def yg(t)(rs)(a):∀(c b),wx t rs a b c=(List.range' b c).flatMap λb=>uX t rs (a,b)
 |0,b=>rfl
 |c+1,b=>by rw[wx,yg t rs a c (b+1),List.range'_succ,mS]
def Rl(t)(rs):∀(c a),uE t rs a c=((List.range' a c).flatMap λa=>(List.range (a+1)).map λb=>(a,b)).flatMap (uX t rs)
 |0,a=>rfl
 |c+1,a=>by
  rw[uE,Rl t rs c (a+1),List.range'_succ,mS,vX,yg,List.flatMap_map,List.range_eq_range']
def LC(t)(rs):oq t rs=(rH t.kinds.length).flatMap (uX t rs):=by
 rw[oq,Rl,rH,List.range_eq_range']
def CP(t)(rs)(kind):∀(l) (p),(l.flatMap (uX t rs)).foldl (λp m=>hZ p (eH kind m.1 m.2)) p=joinL (λq=>(uQ (iQ t rs q)).map (eH kind q)) l p
 |[],p=>rfl
 |q::l,p=>by
  rw[mS,vW,CP t rs kind l,joinL];unfold uX;cases uQ (iQ t rs q)<;>rfl
def pY (t:WxTable) (rs:List Int):PV:=.func (.func 348) [] [.ptr 1 [tz t rs] 0 0]
def QT(t)(rs):af TP 304 [tz t rs] (pY t rs):=by
 refine bX (ag func304 rfl) rfl ?_;simp[pY,go_sem]
def Qa(t)(rs)(ht:TableOk t)(a1:rs.length=t.props.length)(a2:rs.all fL=true):OD TP (pY t rs) 1 ((oq t rs).map λm=>[nZ m]):=by
 refine⟨λa ha=>?_,_,_,_,rfl,λid Inv a7 h0 a6 hy hi=>?_⟩
 .obtain⟨q,_,rfl⟩:=cA.1 ha;rfl
 have a5:=ht.kinds;refine au (ag func348 rfl) rfl (zm ?_)
 refine dY [0,1,13] (σ:=Nat×List ((Nat×Nat)×Span)×Heap×Heap)
  (λq=>q.1<=t.kinds.length/\oq t rs=q.2.1++uE t rs q.1 (t.kinds.length-q.1)/\Inv q.2.1.length q.2.2.1/\q.2.2.1.length=h0.length) (λq=>t.kinds.length-q.1)
  (λq=>[(14,.p (.int .i64 q.1))]) (λq=>q.2.2.1++q.2.2.2) (0,[],h0,[]) ⟨cG _,rfl,hi,rfl⟩ (by simp) ?_ ?_
 .simp[go_sem]
 rintro⟨i,y,lo,u⟩ ⟨h1,O,F,e⟩
 dsimp only at h1 O F e;rcases pI h1 with he|Z
 .have R:decide ((i:Int)<(t.kinds.length:Int))=false:=by simp;omega
  rw[he,ud,uE,bI]at O;refine zn R ?_;refine⟨lo,u,rfl,e,.inl ?_⟩;rw[O];exact F
 have R:decide ((i:Int)<(t.kinds.length:Int))=true:=by simp;omega
 have Y:t.kinds.length-i=(t.kinds.length-(i+1))+1:=by omega
 rw[Y,uE]at O;have hw:i64.wrap ((i:Int)+1)=((i+1:Nat):Int):=aO (by omega) (by simp[ai];omega) (by omega);obtain⟨a,ha⟩:∃a,t.kinds[i]?=some a:=⟨_,bL Z⟩
 refine zo R hw ?_
 refine dY [0,1,3,13,14,18] (σ:=Nat×List ((Nat×Nat)×Span)×Heap×Heap)
  (λq=>q.1<=i+1/\oq t rs=q.2.1++(wx t rs i q.1 (i+1-q.1)++uE t rs (i+1) (t.kinds.length-(i+1)))/\Inv q.2.1.length q.2.2.1/\q.2.2.1.length=h0.length) (λq=>i+1-q.1)
  (λq=>[(19,.p (.int .i64 q.1))]) (λq=>q.2.2.1++q.2.2.2) (0,y,lo,u) ⟨cG _,O,F,e⟩ rfl ?_ ?_
 .simp[go_sem]
 clear O F e
 rintro⟨j,y,lo,u⟩ ⟨g1,K,F,e⟩
 dsimp only at g1 K F e;rcases pI g1 with he|a4
 .have N:decide ((j:Int)<((i+1:Nat):Int))=false:=by simp;omega
  rw[he,ud,wx,jb]at K;refine zn N ?_;refine aZ (i+1,y,lo,u) ⟨by omega,K,F,e⟩ (by dsimp only;omega) rfl ?_;simp[hw,go_sem]
 have N:decide ((j:Int)<((i+1:Nat):Int))=true:=by simp;omega
 have T:i+1-j=(i+1-(j+1))+1:=by omega
 rw[T,wx]at K;have M:i64.wrap ((j:Int)+1)=((j+1:Nat):Int):=aO (by omega) (by simp[ai];omega) (by omega);obtain⟨b,hb⟩:∃b,t.kinds[j]?=some b:=⟨_,bL (by omega)⟩
 have J:((i:Int)==(j:Int))=decide (i=j):=by rw[km];simp;omega
 have gg:=mz e;have ss:=oF e;have mg:=mA (lo:=u) rfl;have ms:=oG (lo:=u) rfl;have A:iQ t rs (i,j)=pg t rs a b (if i=j then 1000 else 1) (if i=j then 1000 else 999):=by simp only[iQ,ha,hb]
 have X:∀{s:Span},iQ t rs (i,j)=s->(s.lo<=s.hi->uX t rs (i,j)=[((i,j),s)])/\(¬s.lo<=s.hi->uX t rs (i,j)=[]):=by
  rintro s rfl
  unfold uX uQ;constructor
  .intro h;rw[if_pos h]
  .intro h;rw[if_neg h]
 have cP:=λa0 a3 h1 O=>YC t rs i j a b a0 a3 ht a1 a2 ha hb h1 O;rw[show (if i=j then(1000:Int) else 999)=if i=j then 1000 else 999 from rfl]at A;by_cases E:i=j
 .rw[if_pos E,if_pos E]at A;have hd:decide (i=j)=true:=by simpa using E
  obtain⟨V,U⟩:=X A;refine zp N J hd ?_
  (first|refine aa (cP 1000 1000 (by omega) (by omega)) rfl ?_|refine aj (cP 1000 1000 (by omega) (by omega)) rfl ?_)
  generalize pg t rs a b 1000 1000=s at A V U;simp only[dD,ak,aK,e,gg,ss,mg,ms,go_sem,simprocAttr];by_cases L:s.lo<=s.hi
  .have C:decide (s.lo<=s.hi)=true:=by simpa using L
   have D:=K;rw[V L]at D;have I:((oq t rs).map λm=>[nZ m])[y.length]?=some [nZ ((i,j),s)]:=by rw[D];simp
   simp only[aK,gg,mg,C,go_sem,simprocAttr];refine r9 (hy y.length _ lo (u++[AObj.row 2 [AV.p s.pv]]) I F e) (λv h' l=>?_) (λv h' l=>?_);rotate_left
   .obtain⟨_,_,_,_,l⟩:=l;rcases l with⟨l,_⟩|⟨l,_⟩<;>cases l
   obtain⟨G,ext,rfl,z,l⟩:=l;rcases l with⟨l,S⟩|⟨l,hF⟩
   .cases l;refine zm ?_;refine aZ (j+1,y++[((i,j),s)],G,u++[.row 2 [.p s.pv]]++ext) ⟨by omega,by rw[D];simp,by simpa using S,z⟩ (by dsimp only;omega) (by simp[dD,Span.pv]) ?_;simp[M,go_sem]
   .cases l;refine zm ?_;exact⟨G,u++[.row 2 [.p s.pv]]++ext,by simp[dD,Span.pv],z,.inr hF⟩
  .have C:decide (s.lo<=s.hi)=false:=by simpa using L
   rw[U L,jb]at K;refine zn C ?_;refine aZ (j+1,y,lo,u++[.row 2 [.p s.pv]]) ⟨by omega,K,F,e⟩ (by dsimp only;omega) (by simp[Span.pv]) ?_;simp[M,go_sem]
 .rw[if_neg E,if_neg E]at A;have hd:decide (i=j)=false:=by simpa using E
  obtain⟨V,U⟩:=X A;refine zp N J hd ?_
  (first|refine aa (cP 1 999 (by omega) (by omega)) rfl ?_|refine aj (cP 1 999 (by omega) (by omega)) rfl ?_)
  generalize pg t rs a b 1 999=s at A V U;simp only[dD,ak,aK,e,gg,ss,mg,ms,go_sem,simprocAttr];by_cases L:s.lo<=s.hi
  .have C:decide (s.lo<=s.hi)=true:=by simpa using L
   have D:=K;rw[V L]at D;have I:((oq t rs).map λm=>[nZ m])[y.length]?=some [nZ ((i,j),s)]:=by rw[D];simp
   simp only[aK,gg,mg,C,go_sem,simprocAttr];refine r9 (hy y.length _ lo (u++[AObj.row 2 [AV.p s.pv]]) I F e) (λv h' l=>?_) (λv h' l=>?_);rotate_left
   .obtain⟨_,_,_,_,l⟩:=l;rcases l with⟨l,_⟩|⟨l,_⟩<;>cases l
   obtain⟨G,ext,rfl,z,l⟩:=l;rcases l with⟨l,S⟩|⟨l,hF⟩
   .cases l;refine zm ?_;refine aZ (j+1,y++[((i,j),s)],G,u++[.row 2 [.p s.pv]]++ext) ⟨by omega,by rw[D];simp,by simpa using S,z⟩ (by dsimp only;omega) (by simp[dD,Span.pv]) ?_;simp[M,go_sem]
   .cases l;refine zm ?_;exact⟨G,u++[.row 2 [.p s.pv]]++ext,by simp[dD,Span.pv],z,.inr hF⟩
  .have C:decide (s.lo<=s.hi)=false:=by simpa using L
   rw[U L,jb]at K;refine zn C ?_;refine aZ (j+1,y,lo,u++[.row 2 [.p s.pv]]) ⟨by omega,K,F,e⟩ (by dsimp only;omega) (by simp[Span.pv]) ?_;simp[M,go_sem]
def MM (t:WxTable) (rs:List Int) (kind:Nat):Span:=T6 kind (iQ t rs) t.kinds.length
def jd (purity:Int) (p:Span):Span×Int×Int:=if p.hi<0 then(⟨0,0⟩,0,9) else if purity<=p.lo then(p,1,0) else if p.hi<purity then(p,0,0) else(p,2,0)
def bj (t:WxTable) (rs:List Int) (kind:Int):Span×Int×Int:=
 if cU t rs=0 then(if aq kind 0 ((t.kinds.length:Int)-1)=true then jd t.purity (MM t rs kind.toNat) else(⟨0,0⟩,0,4)) else(⟨0,0⟩,0,cU t rs)
def ye{t}{rs}(h:cU t rs=0):TableOk t/\rs.length=t.props.length/\rs.all fL=true:=by
 unfold cU at h;split at h
 .rename_i j;split at h
  .rename_i i;split at h
   .rename_i e;exact⟨Hn j,i,e⟩
   .cases h
  .cases h
 .contradiction
def Ih{t}{rs}{q}(h:(iQ t rs q).lo<=(iQ t rs q).hi):1<=(iQ t rs q).lo/\(iQ t rs q).hi<=1000:=by
 unfold iQ at h |-;split at h
 .rename_i a b u l;unfold pg at h |-;have i:=(rj _ t.props a.props b.props rs _).1 ⟨lP _,h⟩;have e:=(rj _ t.props a.props b.props rs _).1 ⟨h,lP _⟩;dsimp only at i e;by_cases j:q.1=q.2
  .simp only[j,if_true]at i e |-;omega
  .simp only[j,if_false]at i e |-;omega
 .dsimp only at h;omega
def LB{t}{rs}:∀m,m∈oq t rs->1<=m.2.lo/\m.2.lo<=m.2.hi/\m.2.hi<=1000:=by
 intro m e;rw[LC,wc]at e;obtain⟨q,_,e⟩:=e;unfold uX uQ at e;by_cases i:(iQ t rs q).lo<=(iQ t rs q).hi
 .rw[if_pos i]at e;have:=Ih i;rw[dW.1 e];dsimp only;omega
 .rw[if_neg i]at e;cases e
def lh (p:Span):Prop:=0<=p.lo/\p.lo<=1001/\-1<=p.hi/\p.hi<=1000
def Eb{p l}(h:lh p)(e:0<=l.lo/\l.lo<=1000/\0<=l.hi/\l.hi<=1000):lh (hZ p l):=by
 unfold lh hZ at *
 dsimp only;refine⟨?_,?_,?_,?_⟩<;>split<;>omega
def zav(t)(rs)(kind)(F:rs.length<1000000000):af TP 235 [t.pv,.slice 1 (rs.map ay) false,.int .i64 kind] (.tuple [(bj t rs kind).1.pv,.int .i64 (bj t rs kind).2.1,.int .i64 (bj t rs kind).2.2]):=by
 refine ae (ag func235 rfl) rfl (zm ?_);refine aa (N1 t rs F) rfl (zm ?_);cases R:(cU t rs != 0)
 rotate_left
 .have q:¬cU t rs=0:=by simpa using R
  simp[bj,if_neg q,go_sem]
 have q:cU t rs=0:=by simpa using R
 obtain⟨O,K,L⟩:=ye q;have a0:=O.kinds;have hw:i64.wrap ((t.kinds.length:Int)-1)=(t.kinds.length:Int)-1:=ah;refine zn hw ?_;refine aa (gk 0 _ [_] true (by simp)) rfl ?_;simp only[bZ,cO,dd,go_sem,simprocAttr];cases I:aq kind 0 ((t.kinds.length:Int)-1)
 .simp[bj,q,I,go_sem]
 have hk:0<=kind/\kind<=(t.kinds.length:Int)-1:=by simpa[aq]using I
 obtain⟨k,rfl⟩:∃k:Nat,kind=(k:Int):=⟨kind.toNat,by omega⟩
 have J:bj t rs (k:Int)=jd t.purity ((oq t rs).foldl (λp m=>hZ p (eH k m.1 m.2)) ⟨1001,-1⟩):=by
  rw[bj,if_pos q,if_pos I,LC,CP];rfl
 rw[J];simp only[if_pos q,go_sem,simprocAttr];refine aa (QT t rs) rfl ?_;simp only[pY,go_sem,simprocAttr];have y:∀(l:List ((Nat×Nat)×Span)) (p:Span),lh p->(∀m,m∈l->1<=m.2.lo/\m.2.lo<=m.2.hi/\m.2.hi<=1000)->lh (l.foldl (λp m=>hZ p (eH k m.1 m.2)) p):=by
  intro l
  induction l with
  |nil=>intro p h _;exact h
  |cons m l X=>
   intro p h z;refine X _ (Eb h ?_) λm' h'=>z m' (by simp[h']);have:=z m (by simp);unfold eH;split
   .omega
   .split<;>dsimp only<;>omega
 have M:lh ⟨1001,-1⟩:=by unfold lh;decide
 refine Mh (l:=(oq t rs).map λm=>[nZ m]) (λo n h=>h=[.row 3 [.p t.pv],.row 1 [.p (.int .i64 k)],.row 2 [.p (((oq t rs).take n).foldl (λp m=>hZ p (eH k m.1 m.2)) ⟨1001,-1⟩).pv],.dblock,o]) (λ_ _=>False)
  rfl (by simp[pY,go_sem]) (Qa t rs O K L) cH (by kernel_rfl) (by kernel_rfl) (by kernel_rfl) ?_ ?_ ?_ ?_ (λ_ _ _ h=>h.elim)
 .rintro o n h rfl;simp
 .intro o;refine zm ?_;rfl
 .rintro oR oB oD n xs lo u E rfl _
  rw[cX,bg]at E;obtain⟨m,z,rfl⟩:=E;have Z:=LB m (aB z);have Y:=y ((oq t rs).take n) ⟨1001,-1⟩ M λm z=>LB m (rb z);have i:((oq t rs).take (n+1)).foldl (λp m=>hZ p (eH k m.1 m.2)) ⟨1001,-1⟩=hZ (((oq t rs).take n).foldl (λp m=>hZ p (eH k m.1 m.2)) ⟨1001,-1⟩) (eH k m.1 m.2):=by
   rw[wb,z,Option.toList_some,vW];rfl
  generalize ((oq t rs).take n).foldl (λp m=>hZ p (eH k m.1 m.2)) ⟨1001,-1⟩=p at Y i |-;have G:=mA (lo:=u) rfl;have v:=mz (lo:=u) rfl;have V:=oG (lo:=u) rfl;have C:=oF (lo:=u) rfl;have k1:((k:Int)==(m.1.1:Int))=decide (k=m.1.1):=by rw[km];simp;omega
  have N:((k:Int)==(m.1.2:Int))=decide (k=m.1.2):=by rw[km];simp;omega
  have U:i64.wrap (1000-m.2.hi)=1000-m.2.hi:=ah;have T:i64.wrap (1000-m.2.lo)=1000-m.2.lo:=ah;simp only[dD,ak,aK,G,v,V,C,k1,go_sem,simprocAttr];by_cases c1:k=m.1.1
  .have e:decide (k=m.1.1)=true:=by simpa using c1
   simp only[dD,aK,v,e,go_sem,simprocAttr];refine⟨_,[AObj.row 4 [AV.p (nZ m)],AObj.row 2 [AV.p m.2.pv]],?_,by simp,rfl⟩;rw[i,eH,if_pos c1];simp[hZ,Span.pv,nZ]
  have e:decide (k=m.1.1)=false:=by simpa using c1
  by_cases A:k=m.1.2
  .have j:decide (k=m.1.2)=true:=by simpa using A
   simp only[dD,aK,G,v,C,e,N,j,U,T,go_sem,simprocAttr];refine⟨_,[AObj.row 4 [AV.p (nZ m)],AObj.row 2 [AV.p (.agg [.int .i64 (1000-m.2.hi),.int .i64 (1000-m.2.lo)])]],?_,by simp,rfl⟩;rw[i,eH,if_neg c1,if_pos A];simp[hZ,nZ]
  have j:decide (k=m.1.2)=false:=by simpa using A
  simp only[dD,aK,G,v,C,e,N,j,go_sem,simprocAttr];refine⟨_,[AObj.row 4 [AV.p (nZ m)],AObj.row 2 [AV.p (.agg [.int .i64 0,.int .i64 0])]],?_,by simp,rfl⟩;rw[i,eH,if_neg c1,if_neg A];simp[hZ,nZ]
 .rintro o lo u rfl _
  rw[dQ,nS];generalize (oq t rs).foldl (λp m=>hZ p (eH k m.1 m.2)) ⟨1001,-1⟩=p;refine zm ?_;cases c1:decide (p.hi<0);rotate_left
  .have e:p.hi<0:=by simpa using c1
   simp only[jd,if_pos e,go_sem,simprocAttr];rw[cB];simp[go_sem]
  have e:¬p.hi<0:=by simpa using c1
  refine zm ?_;cases A:decide (t.purity<=p.lo);rotate_left
  .have j:t.purity<=p.lo:=by simpa using A
   simp only[jd,if_neg e,if_pos j,go_sem,simprocAttr];rw[cB];simp[go_sem]
  have j:¬t.purity<=p.lo:=by simpa using A
  refine zm ?_;cases S:decide (p.hi<t.purity)
  .have D:¬p.hi<t.purity:=by simpa using S
   simp only[jd,if_neg e,if_neg j,if_neg D,go_sem,simprocAttr];rw[cB];simp[go_sem]
  .have D:p.hi<t.purity:=by simpa using S
   simp only[jd,if_neg e,if_neg j,if_pos D,go_sem,simprocAttr];rw[cB];simp[go_sem]
end Wx
end Abs
end Go.Proofs.YtgafommgcfhkkaaGreatDoor
