/- CONTRACTS of the program's functions, and laws on what they return. No conditions but those in the theorems' heads. -/
import Derived.Test.YtnjiadikeacfaaaGreatDoorChLawAX
set_option linter.all false
open Go.Proofs.Tryz renaming prog->TP
namespace Go.Proofs.YtnjiadikeacfaaaGreatDoor
namespace Abs
namespace Ch
set_option maxRecDepth 4000
theorem QT{n}{b}:IA .nilslice (.slice n [] b):=λ_ _ _ h=>by
 cases h;exact .empty (by simp)
def As (xs:List Int):PV:=.slice 1 (xs.map λb=>.int .u8 b) false
set_option maxHeartbeats 4000000 in
theorem LC(s:ChShop)(tests:List HrTest)(xs)(hxs:∀b,b∈xs->0<=b/\b<=255)(hxl:xs.length<9223372036854775808) :
  af TP 3 [s.pv,.slice 3 (tests.map HrTest.pv) false,As xs] (.bool true):=by
 refine Eu (eA (by kernel_rfl) rfl Yr) rfl ?_;refine lh dC ?_;simp only[go_sem,simprocAttr];refine lh dC ?_;simp only[go_sem,simprocAttr];refine ae (G3 s) rfl ?_;simp only[aj,go_sem,simprocAttr];refine lh dC ?_;have hcT:=Mq s.hour tests false;simp only[HrShop.pv]at hcT;by_cases he:(bh s).2.2=0;rotate_left
 .have hn:((bh s).2.2 != 0)=true:=by simpa using he
  simp only[hn,go_sem,simprocAttr];refine ae FJ rfl ?_;simp only[go_sem,simprocAttr];refine ae yN rfl ?_;simp only[go_sem,simprocAttr]
 have hn:((bh s).2.2 != 0)=false:=by simpa using he
 simp only[hn,go_sem,simprocAttr];refine ae hcT rfl ?_;by_cases ht:bg s.hour tests=0;rotate_left
 .have hn2:(bg s.hour tests != 0)=true:=by simpa using ht
  simp only[hn2,go_sem,simprocAttr];refine ae FJ rfl ?_;simp only[go_sem,simprocAttr];refine ae yN rfl ?_;simp only[go_sem,simprocAttr]
 have hn2:(bg s.hour tests != 0)=false:=by simpa using ht
 obtain⟨hc,hl8,hte⟩:=j0 ht;have hte:=jy hte;simp only[hn2,go_sem,simprocAttr];refine lh dC ?_;simp only[go_sem,simprocAttr];refine wq (λ_=>false) [1,2,3] [(10,bB [])] _ rfl rfl ?_ ?_
 .intro p hp;simp only[dA]at hp;subst hp;simp only[go_sem,simprocAttr];exact QT
 refine Iz ?_;refine lh dC ?_;simp only[dB,List.mapIdx_cons,List.mapIdx_nil,go_sem,simprocAttr];refine Gf ?_;refine M7 [1,2,3] tests (by omega) (τ:=List HrTest) (λdone _ P=>P.Perm done) (λdone P=>[(10,.p (bB (P.map (kE s.hour)))),(11,.p (.int .i64 done.length))]) (λ_ _=>[.row 17 [.p s.pv]]) [] (List.Perm.refl _) ?_ ?_ ?_
 .simp only[cH,bj,go_sem,simprocAttr]
 .intro P hP;have hlt:¬((tests.length:Int)<(tests.length:Int)):=by omega
  refine lh dC ?_;simp only[hlt,decide_false,go_sem,simprocAttr];refine rD dC ?_;have hPl:=hP.length_eq;obtain⟨L,hL⟩:∃L,L=P.map (kE s.hour):=⟨_,rfl⟩
  have hLl:L.length=tests.length:=by rw[hL,dL,hPl]
  have w0:bU s L=0:=by rw[bU,if_pos he,if_neg (by omega)]
  have hs:=zm he;have hbk:pI s b5 L={ b5 with tests:=P }:=by
   rw[hL,CL hc P b5 (by rw[hPl];exact(by omega:0+tests.length<=8)) λt h=>hte t (hP.mem_iff.1 h)];rfl
  have hno:=Kz hs L b5;have hwl:=Hz s L b5;have hrd:=Je (by omega) hno;have hln:=uw (mP s b5 L) [] (by simp;omega) (λx hx=>(hno x (by simpa using hx)).2.2);have hrp:dI s (fH (mP s b5 L))=(pI s b5 L,-1,0):=by
   rw[dI,hrd,if_neg (by simpa using he)];simp only[tM];rfl
  have kC:=LK s L;have kB:=LL s L;have kR:=Ba s (fH (mP s b5 L)) (by omega);rw[w0,qy,if_pos w0,K1]at kC;rw[w0,Au,if_pos w0,K1]at kB;rw[hrp]at kR;dsimp only at kC kB kR;rw[hbk]at kB kR;have hpr:∀k:Int,cx s.hour P k=cx s.hour tests k:=λk=>Eo hP ht k;rw[<-hL];simp only[go_sem,simprocAttr];refine ae kC rfl ?_;simp only[go_sem,simprocAttr];refine ae kB rfl ?_;simp only[go_sem,simprocAttr];refine ae kR rfl ?_;have q0:((tests.length:Int) != (tests.length:Int))=false:=by simp
  simp only[hPl,q0,go_sem,simprocAttr];refine bm [1,3,16,18] s.hour.kinds hs.kinds (τ:=Unit) (λ_ _ _=>True) (λd _=>[(21,.p (.int .i64 d.length))]) (λ_ _=>[.row 17 [.p s.pv],.row 6 [.p (ChBooks.pv { b5 with tests:=P })],.row 6 [.p (ChBooks.pv { b5 with tests:=P })]]) () trivial ?_ ?_ ?_
  .simp only[cH,go_sem,simprocAttr]
  .intro _ _;have hlt2:¬((s.hour.kinds.length:Int)<(s.hour.kinds.length:Int)):=by omega
   simp only[hlt2,decide_false,go_sem,simprocAttr];refine ae FJ rfl ?_;simp only[go_sem,simprocAttr];refine ae yN rfl ?_;simp only[go_sem,simprocAttr]
  intro d y r _ e2 _ hy hlt2 hnx2;have c1:=ux s.hour tests (d.length:Int);have c2:=ux s.hour P (d.length:Int);rw[hpr]at c2;simp only[HrShop.pv]at c1 c2;generalize (cx s.hour tests (d.length:Int))=q at c1 c2;have z1:(q.1 != q.1)=false:=by simp
  have z2:(q.2 != q.2)=false:=by simp
  simp only[hlt2,decide_true,go_sem,simprocAttr];refine ae c1 rfl ?_;simp only[go_sem,simprocAttr];refine ae c2 rfl ?_;simp only[go_sem,simprocAttr];refine ae c2 rfl ?_;simp only[z1,z2,go_sem,simprocAttr];refine aE (Inv:=λ_ _ _=>True) e2 () trivial ?_;simp only[hnx2,go_sem,simprocAttr]
 intro done t rest P e1 hP hx hlt hnx;refine lh dC ?_;simp only[hlt,decide_true,go_sem,simprocAttr];refine Iz ?_;refine Gf ?_;refine lh dC ?_;simp only[H3,aV,hx,hlt,go_sem,simprocAttr];have htm:t∈tests:=by rw[e1];simp
 have htt:=hte t htm;have hcW:=Mo s.hour t;rw[qm,if_pos (NZ hc htt)]at hcW;simp only[HrShop.pv,HrTest.pv]at hcW;refine ay hcW rfl ?_;simp only[go_sem,simprocAttr];refine lh dC ?_;simp only[go_sem,simprocAttr];refine lh dC ?_;simp only[go_sem,simprocAttr];have hPl:=hP.length_eq;have hdl:=congrArg List.length e1;rw[aK,cc]at hdl;have hxe:(xs=[]\/∃v,0<xs.length/\xs[done.length%xs.length]?=some v/\0<=v/\v<=255):=by
  rcases oo xs.length with h|h
  .exact .inl (tv.1 h)
  .have hm:=tf done.length h;exact .inr ⟨xs[done.length%xs.length],h,bA hm,hxs _ (y4 hm)⟩
 refine lh dC ?_;obtain⟨a,ha,hpick⟩:∃a:Nat,a<=P.length/\(xs=[]/\a=0\/∃v:Int,0<xs.length/\xs[done.length%xs.length]?=some v/\0<=v/\v<=255/\v.tmod ((P.length+1:Nat):Int)=(a:Int)):=by
  rcases hxe with h|⟨v,h1,h2,h3,h4⟩
  .exact⟨0,cV _,.inl ⟨h,rfl⟩⟩
  .obtain⟨m,rfl⟩:=pq h3;have hm:=tf m (show 0<P.length+1 by omega);exact⟨m%(P.length+1),by omega,.inr ⟨_,h1,h2,h3,h4,rfl⟩⟩
 obtain⟨L,hL⟩:∃L,L=P.map (kE s.hour):=⟨_,rfl⟩
 obtain⟨d,hd⟩:∃d,d=L.take a:=⟨_,rfl⟩
 obtain⟨r,hr⟩:∃r,r=L.drop a:=⟨_,rfl⟩
 have hLl:L.length=P.length:=by rw[hL,dL]
 have hLdr:L=d++r:=by rw[hd,hr,rC]
 have hT:List.take a (List.map (λx=>PV.str (bs x)) L)=List.map (λx=>PV.str (bs x)) d:=by rw[hd,y6]
 have hD:List.drop a (List.map (λx=>PV.str (bs x)) L)=List.map (λx=>PV.str (bs x)) r:=by rw[hr,List.map_drop]
 have hTk:List.take P.length (List.map (λx=>PV.str (bs x)) L)=List.map (λx=>PV.str (bs x)) L:=gv (by rw[dL,hLl];exact bi _);have nJ:d.length+r.length=P.length:=by rw[<-hLl,hLdr,aK]
 have b3:((a:Nat):Int)<=(L.length:Int):=by omega
 have b4:((a:Nat):Int)<=(P.length:Int):=by omega
 have htx:=x9 hc htt;have c0:(⟨#[116,101,115,116,10]⟩:ByteArray)=bs gN:=rfl;have c1:gN++dQ s.hour t=kE s.hour t:=rfl;have p1:5+(bs (dQ s.hour t)).size<=cT:=by simp[aw,cT];omega
 have p2:(bs gN).size+(bs (dQ s.hour t)).size<=cT:=by rw[aw,aw];simp[cT,gN];omega
 have r0:(0:Nat)<=ar:=cV _;have r1:d.length<=ar:=by simp only[ar];omega
 have r2:r.length<=ar:=by simp only[ar];omega
 have r3:d.length+1<=ar:=by simp only[ar];omega
 have r4:d.length+1+r.length<=ar:=by simp only[ar];omega
 have r5:1<=ar:=by decide
 have hPm:(P.take a++t::P.drop a).Perm (done++[t]):=by
  refine List.perm_middle.trans ?_;rw[rC];exact((List.Perm.cons t hP).trans (List.perm_append_singleton t done).symm)
 have hnew:(P.take a++t::P.drop a).map (kE s.hour)=d++kE s.hour t::r:=by rw[ca,bD,y6,List.map_drop,hd,hr,hL]
 obtain⟨Pn,hPn⟩:∃Pn,Pn=P.take a++t::P.drop a:=⟨_,rfl⟩
 rw[<-hPn]at hPm hnew;have hap:∀(p:List (List UInt8)) (z:List UInt8),List.map AV.p (List.map (λx=>PV.str (bs x)) p)++[AV.p (.str (bs z))]=List.map AV.p (List.map (λx=>PV.str (bs x)) (p++[z])):=λp z=>by simp
 have hap2:∀(p q:List (List UInt8)) (z:List UInt8),List.map AV.p (List.map (λx=>PV.str (bs x)) p)++AV.p (.str (bs z))::List.map AV.p (List.map (λx=>PV.str (bs x)) q)=List.map AV.p (List.map (λx=>PV.str (bs x)) (p++z::q)):=λp q z=>by simp
 have hfz:∀n h (l:List (List UInt8)),aS (ci n h) (List.map AV.p (List.map (λx=>PV.str (bs x)) l))=some (l.map λx=>PV.str (bs x)):=λn h l=>by
  rw[th];exact Fa n h l
 rcases hpick with⟨rfl,ha0⟩|⟨v,h1,h2,h3,h4,h5⟩
 .simp only[As,bj,cH,go_sem,simprocAttr];refine wq (λ_=>false) [1,2,3,10,11,12] [(14,.int .i64 a)] _ rfl rfl ?_ ?_
  .intro p hp;simp only[dA]at hp;subst hp;simp only[ha0,go_sem,simprocAttr];exact mF
  refine rD dC ?_;rw[<-hL];simp only[dB,List.mapIdx_cons,List.mapIdx_nil,aV,bB,go_sem,simprocAttr];rcases d with _|⟨y,d⟩<;>rcases r with _|⟨z,r⟩
  all_goals simp only[bj,bD,cH,cc,d5,ik]at hT hD r1 r2 r3 r4 nJ
  all_goals simp only[hT,hD,hTk,b4,hLl,c0,c1,db,p2,r0,r1,r3,r4,aK,dL,bj,bD,cH,cc,gR,d5,ik,go_sem,simprocAttr]
  all_goals iterate 4 (first|refine⟨.inl ⟨_,rfl⟩,?_⟩|refine⟨.inr ⟨1,_,rfl,rfl⟩,?_⟩|skip)
  all_goals try simp only[H3,aV,hT,hD,hTk,b3,b4,hLl,c0,c1,db,p1,p2,r0,r1,r2,r3,r4,r5,bB,aK,bt,dL,bj,bD,cH,cc,gR,d5,ik,go_sem,simprocAttr]
  all_goals iterate 4 (first|refine⟨.inl ⟨_,rfl⟩,?_⟩|refine⟨.inr ⟨1,_,rfl,rfl⟩,?_⟩|skip)
  all_goals try simp only[H3,aV,hT,hD,hTk,b3,b4,hLl,c0,c1,db,p1,p2,r0,r1,r2,r3,r4,r5,bB,aK,bt,dL,bj,bD,cH,cc,gR,d5,ik,go_sem,simprocAttr]
  all_goals iterate 4 (first|refine⟨.inl ⟨_,rfl⟩,?_⟩|refine⟨.inr ⟨1,_,rfl,rfl⟩,?_⟩|skip)
  all_goals try simp only[H3,aV,hT,hD,hTk,b3,b4,hLl,c0,c1,db,p1,p2,r0,r1,r2,r3,r4,r5,bB,aK,bt,dL,bj,bD,cH,cc,gR,d5,ik,go_sem,simprocAttr]
  all_goals refine wq (λi=>i==1) [1,2,3,11] [(10,bB (Pn.map (kE s.hour)))] _ rfl rfl ?_ ?_
  all_goals first|(intro p hp;simp only[dA]at hp;subst hp;simp only[hap,hap2,hfz,dB,List.mapIdx_cons,List.mapIdx_nil,bw,dq,cc,cH,dL,aK,go_sem,simprocAttr];first|(rw[hnew];simp only[bB,bD,bj,gR,ca,eW];exact mF)|(rw[gv (by simp),hnew];simp only[bB,bD,bj,ca,eW];exact mF)|(rw[if_pos (by omega)];refine⟨_,rfl,?_⟩;dsimp only;rw[gv (by simp;omega),hnew];simp only[bB,bD,gR,ca,eW];exact mF))|skip
  all_goals refine rD dC ?_
  all_goals simp only[dB,List.mapIdx_cons,List.mapIdx_nil,go_sem,simprocAttr]
  all_goals refine aE e1 Pn hPm ?_
  all_goals simp only[hnx,bB,go_sem,simprocAttr]
 .have b1:decide ((0:Int)<(xs.length:Int))=true:=decide_eq_true (by omega);have n0:¬((xs.length:Int)=0):=by omega
  have n1:¬(((P.length+1:Nat):Int)=0):=by omega
  have t1:((done.length:Nat):Int).tmod (xs.length:Int)=((done.length%xs.length:Nat):Int):=rfl;have l1:((done.length%xs.length:Nat):Int)<(xs.length:Int):=by have:=tf done.length h1;omega
  have w1:IntKind.i64.wrap v=v:=am (by omega) (by omega);have w2:IntKind.i64.wrap ((P.length:Int)+1)=((P.length+1:Nat):Int):=be (by omega) (by simp[ar];omega) (by simp);simp only[As,b1,n0,n1,t1,l1,h2,w1,w2,h5,bB,dL,go_sem,simprocAttr];refine wq (λ_=>false) [1,2,3,10,11,12] [(14,.int .i64 a)] _ rfl rfl ?_ ?_
  .intro p hp;simp only[dA]at hp;subst hp;simp only[go_sem,simprocAttr];exact mF
  refine rD dC ?_;rw[<-hL];simp only[dB,List.mapIdx_cons,List.mapIdx_nil,aV,go_sem,simprocAttr];rcases d with _|⟨y,d⟩<;>rcases r with _|⟨z,r⟩
  all_goals simp only[bj,bD,cH,cc,d5,ik]at hT hD r1 r2 r3 r4 nJ
  all_goals simp only[hT,hD,hTk,b4,hLl,c0,c1,db,p2,r0,r1,r3,r4,aK,dL,bj,bD,cH,cc,gR,d5,ik,go_sem,simprocAttr]
  all_goals iterate 4 (first|refine⟨.inl ⟨_,rfl⟩,?_⟩|refine⟨.inr ⟨1,_,rfl,rfl⟩,?_⟩|skip)
  all_goals try simp only[H3,aV,hT,hD,hTk,b3,b4,hLl,c0,c1,db,p1,p2,r0,r1,r2,r3,r4,r5,bB,aK,bt,dL,bj,bD,cH,cc,gR,d5,ik,go_sem,simprocAttr]
  all_goals iterate 4 (first|refine⟨.inl ⟨_,rfl⟩,?_⟩|refine⟨.inr ⟨1,_,rfl,rfl⟩,?_⟩|skip)
  all_goals try simp only[H3,aV,hT,hD,hTk,b3,b4,hLl,c0,c1,db,p1,p2,r0,r1,r2,r3,r4,r5,bB,aK,bt,dL,bj,bD,cH,cc,gR,d5,ik,go_sem,simprocAttr]
  all_goals iterate 4 (first|refine⟨.inl ⟨_,rfl⟩,?_⟩|refine⟨.inr ⟨1,_,rfl,rfl⟩,?_⟩|skip)
  all_goals try simp only[H3,aV,hT,hD,hTk,b3,b4,hLl,c0,c1,db,p1,p2,r0,r1,r2,r3,r4,r5,bB,aK,bt,dL,bj,bD,cH,cc,gR,d5,ik,go_sem,simprocAttr]
  all_goals refine wq (λi=>i==1) [1,2,3,11] [(10,bB (Pn.map (kE s.hour)))] _ rfl rfl ?_ ?_
  all_goals first|(intro p hp;simp only[dA]at hp;subst hp;simp only[hap,hap2,hfz,dB,List.mapIdx_cons,List.mapIdx_nil,bw,dq,cc,cH,dL,aK,go_sem,simprocAttr];first|(rw[hnew];simp only[bB,bD,bj,gR,ca,eW];exact mF)|(rw[gv (by simp),hnew];simp only[bB,bD,bj,ca,eW];exact mF)|(rw[if_pos (by omega)];refine⟨_,rfl,?_⟩;dsimp only;rw[gv (by simp;omega),hnew];simp only[bB,bD,gR,ca,eW];exact mF))|skip
  all_goals refine rD dC ?_
  all_goals simp only[dB,List.mapIdx_cons,List.mapIdx_nil,go_sem,simprocAttr]
  all_goals refine aE e1 Pn hPm ?_
  all_goals simp only[hnx,bB,go_sem,simprocAttr]
end Ch
set_option maxRecDepth 100000
theorem cY(cs:List PV):jC true cs=.agg cs:=by
 cases cs with
 |nil=>rfl
 |cons a l=>cases l<;>rfl
theorem fU{n:Nat}{cs:List PV}(h:cE TP (n+1) 3 cs):∃m,cs=[.int .i64 m]:=by
 obtain⟨m,h,_⟩:=La (k:=.i64) (by kernel_rfl) h;exact⟨m,h⟩
theorem gO{n:Nat}{cs:List PV}(h:cE TP (n+2) 30 cs):∃s:Span,cs=[.int .i64 s.lo,.int .i64 s.hi]:=by
 obtain⟨a,_,rfl,ha,b,_,rfl,hb,rfl⟩:=dr (ts:=[3,3]) (by kernel_rfl) h;obtain⟨x,rfl⟩:=fU ha;obtain⟨y,rfl⟩:=fU hb;exact⟨⟨x,y⟩,rfl⟩
theorem LV{n:Nat}{cs:List PV}(h:cE TP (n+2) 157 cs):∃s:HrMark,.agg cs=s.pv:=by
 obtain⟨a,_,rfl,ha,b,_,rfl,hb,rfl⟩:=dr (ts:=[3,3]) (by kernel_rfl) h;obtain⟨x,rfl⟩:=fU ha;obtain⟨y,rfl⟩:=fU hb;exact⟨⟨x,y⟩,rfl⟩
theorem JE{n:Nat}{cs:List PV}(h:cE TP (n+3) 52 cs):∃l:List HrMark,cs=[.slice 2 (l.map HrMark.pv) false]:=by
 obtain⟨xs,rfl,_,hx⟩:=gJ (e:=157) (z:=2) (g:=true) (by kernel_rfl) h;obtain⟨l,rfl⟩:=gM HrMark.pv (xs:=xs) λx hm=>by
  obtain⟨es,rfl,h⟩:=hx x hm;rw[cY];exact LV h
 exact⟨l,rfl⟩
theorem LT{n:Nat}{cs:List PV}(h:cE TP (n+4) 54 cs):∃t:HrTest,.agg cs=t.pv:=by
 obtain⟨a,_,rfl,ha,b,_,rfl,hb,c,_,rfl,hc,rfl⟩:=dr (ts:=[3,3,52]) (by kernel_rfl) h;obtain⟨x,rfl⟩:=fU ha;obtain⟨y,rfl⟩:=fU hb;obtain⟨z,rfl⟩:=JE hc;exact⟨⟨x,y,z⟩,rfl⟩
theorem JD{n:Nat}{cs:List PV}(h:cE TP (n+5) 42 cs):∃l:List HrTest,cs=[.slice 3 (l.map HrTest.pv) false]:=by
 obtain⟨xs,rfl,_,hx⟩:=gJ (e:=54) (z:=3) (g:=true) (by kernel_rfl) h;obtain⟨l,rfl⟩:=gM HrTest.pv (xs:=xs) λx hm=>by
  obtain⟨es,rfl,h⟩:=hx x hm;rw[cY];exact LT h
 exact⟨l,rfl⟩
theorem LW{n:Nat}{cs:List PV}(h:cE TP (n+3) 124 cs):∃k:HrKind,.agg cs=k.pv:=by
 obtain⟨a,_,rfl,ha,b,_,rfl,hb,c,_,rfl,hc,rfl⟩:=dr (ts:=[9,30,3]) (by kernel_rfl) h;obtain⟨x,rfl,_⟩:=oP (by kernel_rfl) ha;obtain⟨y,rfl⟩:=gO hb;obtain⟨z,rfl⟩:=fU hc;exact⟨⟨x,y,z⟩,rfl⟩
theorem LU{n:Nat}{cs:List PV}(h:cE TP (n+3) 151 cs):∃k:HrRule,.agg cs=k.pv:=by
 obtain⟨a,_,rfl,ha,b,_,rfl,hb,c,_,rfl,hc,rfl⟩:=dr (ts:=[9,30,30]) (by kernel_rfl) h;obtain⟨x,rfl,_⟩:=oP (by kernel_rfl) ha;obtain⟨y,rfl⟩:=gO hb;obtain⟨z,rfl⟩:=gO hc;exact⟨⟨x,y,z⟩,rfl⟩
theorem zX{n:Nat}{cs:List PV}(h:cE TP (n+4) 33 cs):∃l:List HrKind,cs=[.slice 4 (l.map HrKind.pv) false]:=by
 obtain⟨xs,rfl,_,hx⟩:=gJ (e:=124) (z:=4) (g:=true) (by kernel_rfl) h;obtain⟨l,rfl⟩:=gM HrKind.pv (xs:=xs) λx hm=>by
  obtain⟨es,rfl,h⟩:=hx x hm;rw[cY];exact LW h
 exact⟨l,rfl⟩
theorem zW{n:Nat}{cs:List PV}(h:cE TP (n+4) 34 cs):∃l:List HrRule,cs=[.slice 5 (l.map HrRule.pv) false]:=by
 obtain⟨xs,rfl,_,hx⟩:=gJ (e:=151) (z:=5) (g:=true) (by kernel_rfl) h;obtain⟨l,rfl⟩:=gM HrRule.pv (xs:=xs) λx hm=>by
  obtain⟨es,rfl,h⟩:=hx x hm;rw[cY];exact LU h
 exact⟨l,rfl⟩
theorem wG{v:PV}(h:wE TP 8 36 v):∃s:HrShop,v=s.pv:=by
 obtain⟨cs,rfl,h⟩:=h;rw[show (b6 TP 36==some true)=true by kernel_rfl,cY];obtain⟨a,_,rfl,ha,b,_,rfl,hb,c,_,rfl,hc,rfl⟩:=dr (ts:=[33,34,3]) (by kernel_rfl) h;obtain⟨x,rfl⟩:=zX ha;obtain⟨y,rfl⟩:=zW hb;obtain⟨z,rfl⟩:=fU hc;exact⟨⟨x,y,z⟩,rfl⟩
theorem Ny{v:PV}(h:wE TP 8 42 v):∃l:List HrTest,v=.slice 3 (l.map HrTest.pv) false:=by
 obtain⟨cs,rfl,h⟩:=h;rw[show (b6 TP 42==some true)=false by kernel_rfl];obtain⟨l,rfl⟩:=JD h;exact⟨l,rfl⟩
namespace Ch
theorem QX{n}{cs}(h:cE TP (n+2) 79 cs):∃l:List Int,cs=[.slice 1 (l.map aG) false]:=by
 obtain⟨xs,rfl,_,hx⟩:=gJ (e:=3) (z:=1) (g:=false) (by kernel_rfl) h;obtain⟨l,rfl⟩:=gM aG (xs:=xs) λx hm=>by
  obtain⟨es,rfl,h⟩:=hx x hm;obtain⟨m,rfl⟩:=fU h;exact⟨m,rfl⟩
 exact⟨l,rfl⟩
theorem Og{n}{cs}(h:cE TP (n+3) 134 cs):∃l:List Span,cs=[.slice 2 (l.map Span.pv) false]:=by
 obtain⟨xs,rfl,_,hx⟩:=gJ (e:=30) (z:=2) (g:=true) (by kernel_rfl) h;obtain⟨l,rfl⟩:=gM Span.pv (xs:=xs) λx hm=>by
  obtain⟨es,rfl,h⟩:=hx x hm;rw[cY];obtain⟨s,rfl⟩:=gO h;exact⟨s,rfl⟩
 exact⟨l,rfl⟩
theorem LP{n}{cs}(h:cE TP (n+4) 133 cs):∃w:WxProp,.agg cs=w.pv:=by
 obtain⟨a,_,rfl,ha,b,_,rfl,hb,rfl⟩:=dr (ts:=[9,3]) (by kernel_rfl) h;obtain⟨x,rfl,_⟩:=oP (by kernel_rfl) ha;obtain⟨y,rfl⟩:=fU hb;exact⟨⟨x,y⟩,rfl⟩
theorem LQ{n}{cs}(h:cE TP (n+4) 136 cs):∃w:WxKind,.agg cs=w.pv:=by
 obtain⟨a,_,rfl,ha,b,_,rfl,hb,rfl⟩:=dr (ts:=[9,134]) (by kernel_rfl) h;obtain⟨x,rfl,_⟩:=oP (by kernel_rfl) ha;obtain⟨y,rfl⟩:=Og hb;exact⟨⟨x,y⟩,rfl⟩
theorem JF{n}{cs}(h:cE TP (n+2) 196 cs):∃s:BdPoint,.agg cs=s.pv:=by
 obtain⟨a,_,rfl,ha,b,_,rfl,hb,rfl⟩:=dr (ts:=[3,3]) (by kernel_rfl) h;obtain⟨x,rfl⟩:=fU ha;obtain⟨y,rfl⟩:=fU hb;exact⟨⟨x,y⟩,rfl⟩
theorem GP{n}{cs}(h:cE TP (n+3) 138 cs):∃l:List BdPoint,cs=[.slice 2 (l.map BdPoint.pv) false]:=by
 obtain⟨xs,rfl,_,hx⟩:=gJ (e:=196) (z:=2) (g:=true) (by kernel_rfl) h;obtain⟨l,rfl⟩:=gM BdPoint.pv (xs:=xs) λx hm=>by
  obtain⟨es,rfl,h⟩:=hx x hm;rw[cY];exact JF h
 exact⟨l,rfl⟩
theorem Oh{n}{cs}(h:cE TP (n+4) 140 cs):∃w:BdWax,.agg cs=w.pv:=by
 obtain⟨a,_,rfl,ha,b,_,rfl,hb,c,_,rfl,hc,d,_,rfl,hd,e,_,rfl,he,rfl⟩:=dr (ts:=[9,3,30,30,138]) (by kernel_rfl) h;obtain⟨x,rfl,_⟩:=oP (by kernel_rfl) ha;obtain⟨y,rfl⟩:=fU hb;obtain⟨z,rfl⟩:=gO hc;obtain⟨u,rfl⟩:=gO hd;obtain⟨v,rfl⟩:=GP he;exact⟨⟨x,y,z,u,v⟩,rfl⟩
theorem LR{n}{cs}(h:cE TP (n+4) 145 cs):∃w:Wick,.agg cs=w.pv:=by
 obtain⟨a,_,rfl,ha,b,_,rfl,hb,c,_,rfl,hc,rfl⟩:=dr (ts:=[9,3,30]) (by kernel_rfl) h;obtain⟨x,rfl,_⟩:=oP (by kernel_rfl) ha;obtain⟨y,rfl⟩:=fU hb;obtain⟨z,rfl⟩:=gO hc;exact⟨⟨x,y,z⟩,rfl⟩
theorem Of{n}{cs}(h:cE TP (n+4) 148 cs):∃w:Wax,.agg cs=w.pv:=by
 obtain⟨a,_,rfl,ha,b,_,rfl,hb,c,_,rfl,hc,d,_,rfl,hd,e,_,rfl,he,rfl⟩:=dr (ts:=[9,30,30,30,3]) (by kernel_rfl) h;obtain⟨x,rfl,_⟩:=oP (by kernel_rfl) ha;obtain⟨y,rfl⟩:=gO hb;obtain⟨z,rfl⟩:=gO hc;obtain⟨u,rfl⟩:=gO hd;obtain⟨v,rfl⟩:=fU he;exact⟨⟨x,y,z,u,v⟩,rfl⟩
theorem GO{n}{cs}(h:cE TP (n+4) 154 cs):∃w:ClColour,.agg cs=w.pv:=by
 obtain⟨a,_,rfl,ha,b,_,rfl,hb,c,_,rfl,hc,rfl⟩:=dr (ts:=[9,30,79]) (by kernel_rfl) h;obtain⟨x,rfl,_⟩:=oP (by kernel_rfl) ha;obtain⟨y,rfl⟩:=gO hb;obtain⟨z,rfl⟩:=QX hc;exact⟨⟨x,y,z⟩,rfl⟩
theorem JA{n}{cs}(h:cE TP (n+5) 22 cs):∃l:List WxProp,cs=[.slice 2 (l.map WxProp.pv) false]:=by
 obtain⟨xs,rfl,_,hx⟩:=gJ (e:=133) (z:=2) (g:=true) (by kernel_rfl) h;obtain⟨l,rfl⟩:=gM WxProp.pv (xs:=xs) λx hm=>by
  obtain⟨es,rfl,h⟩:=hx x hm;rw[cY];exact LP h
 exact⟨l,rfl⟩
theorem JB{n}{cs}(h:cE TP (n+5) 23 cs):∃l:List WxKind,cs=[.slice 2 (l.map WxKind.pv) false]:=by
 obtain⟨xs,rfl,_,hx⟩:=gJ (e:=136) (z:=2) (g:=true) (by kernel_rfl) h;obtain⟨l,rfl⟩:=gM WxKind.pv (xs:=xs) λx hm=>by
  obtain⟨es,rfl,h⟩:=hx x hm;rw[cY];exact LQ h
 exact⟨l,rfl⟩
theorem LX{n}{cs}(h:cE TP (n+5) 26 cs):∃l:List BdWax,cs=[.slice 7 (l.map BdWax.pv) false]:=by
 obtain⟨xs,rfl,_,hx⟩:=gJ (e:=140) (z:=7) (g:=true) (by kernel_rfl) h;obtain⟨l,rfl⟩:=gM BdWax.pv (xs:=xs) λx hm=>by
  obtain⟨es,rfl,h⟩:=hx x hm;rw[cY];exact Oh h
 exact⟨l,rfl⟩
theorem JC{n}{cs}(h:cE TP (n+5) 27 cs):∃l:List Wick,cs=[.slice 4 (l.map Wick.pv) false]:=by
 obtain⟨xs,rfl,_,hx⟩:=gJ (e:=145) (z:=4) (g:=true) (by kernel_rfl) h;obtain⟨l,rfl⟩:=gM Wick.pv (xs:=xs) λx hm=>by
  obtain⟨es,rfl,h⟩:=hx x hm;rw[cY];exact LR h
 exact⟨l,rfl⟩
theorem LS{n}{cs}(h:cE TP (n+5) 28 cs):∃l:List Wax,cs=[.slice 8 (l.map Wax.pv) false]:=by
 obtain⟨xs,rfl,_,hx⟩:=gJ (e:=148) (z:=8) (g:=true) (by kernel_rfl) h;obtain⟨l,rfl⟩:=gM Wax.pv (xs:=xs) λx hm=>by
  obtain⟨es,rfl,h⟩:=hx x hm;rw[cY];exact Of h
 exact⟨l,rfl⟩
theorem E5{n}{cs}(h:cE TP (n+5) 37 cs):∃l:List ClColour,cs=[.slice 4 (l.map ClColour.pv) false]:=by
 obtain⟨xs,rfl,_,hx⟩:=gJ (e:=154) (z:=4) (g:=true) (by kernel_rfl) h;obtain⟨l,rfl⟩:=gM ClColour.pv (xs:=xs) λx hm=>by
  obtain⟨es,rfl,h⟩:=hx x hm;rw[cY];exact GO h
 exact⟨l,rfl⟩
theorem Mk{v}(h:wE TP 8 41 v):∃s:ChShop,v=s.pv:=by
 obtain⟨cs,rfl,h⟩:=h;rw[show (b6 TP 41==some true)=true by kernel_rfl,cY];obtain⟨a,_,rfl,ha,b,_,rfl,hb,c,_,rfl,hc,d,_,rfl,hd,e,_,rfl,he,rfl⟩:=dr (ts:=[25,26,32,36,39]) (by kernel_rfl) h;obtain⟨a1,_,rfl,ha1,a2,_,rfl,ha2,a3,_,rfl,ha3,rfl⟩:=dr (ts:=[22,23,3]) (by kernel_rfl) ha;obtain⟨x1,rfl⟩:=JA ha1;obtain⟨x2,rfl⟩:=JB ha2;obtain⟨x3,rfl⟩:=fU ha3;obtain⟨y,rfl⟩:=LX hb;obtain⟨c1,_,rfl,hc1,c2,_,rfl,hc2,c3,_,rfl,hc3,c4,_,rfl,hc4,rfl⟩:=dr (ts:=[27,28,30,30]) (by kernel_rfl) hc;obtain⟨z1,rfl⟩:=JC hc1;obtain⟨z2,rfl⟩:=LS hc2;obtain⟨z3,rfl⟩:=gO hc3;obtain⟨z4,rfl⟩:=gO hc4;obtain⟨d1,_,rfl,hd1,d2,_,rfl,hd2,d3,_,rfl,hd3,rfl⟩:=dr (ts:=[33,34,3]) (by kernel_rfl) hd;obtain⟨u1,rfl⟩:=zX hd1;obtain⟨u2,rfl⟩:=zW hd2;obtain⟨u3,rfl⟩:=fU hd3;obtain⟨e1,_,rfl,he1,e2,_,rfl,he2,e3,_,rfl,he3,rfl⟩:=dr (ts:=[37,30,3]) (by kernel_rfl) he;obtain⟨w1,rfl⟩:=E5 he1;obtain⟨w2,rfl⟩:=gO he2;obtain⟨w3,rfl⟩:=fU he3;exact⟨⟨⟨x1,x2,x3⟩,y,⟨z1,z2,z3,z4⟩,⟨u1,u2,u3⟩,⟨w1,w2,w3⟩⟩,rfl⟩
theorem O3{v}(h:wE TP 8 43 v):∃l,v=As l/\(∀b,b∈l->0<=b/\b<=255)/\l.length<9223372036854775808:=by
 obtain⟨cs,rfl,h⟩:=h;rw[show (b6 TP 43==some true)=false by kernel_rfl];obtain⟨xs,rfl,hlen,hx⟩:=gJ (e:=5) (z:=1) (g:=false) (by kernel_rfl) h;have key:∃l:List Int,xs=l.map (λb=>PV.int .u8 b)/\∀v,v∈l->0<=v/\v<=255:=by
  clear h hlen
  induction xs with
  |nil=>exact⟨[],rfl,λ_ h=>by cases h⟩
  |cons x xs ih=>
   obtain⟨l,rfl,hl⟩:=ih λy hy=>hx y (by simp[hy]);obtain⟨es,rfl,h⟩:=hx x (by simp);obtain⟨m,rfl,h1,h2⟩:=La (k:=.u8) (by kernel_rfl) h;exact⟨m::l,rfl,λv hv=>by
    rcases ce.1 hv with rfl|hv
    .exact⟨h1,h2⟩
    .exact hl v hv⟩
 obtain⟨l,rfl,hl⟩:=key;refine⟨l,rfl,hl,?_⟩;simp[maxLen]at hlen;omega
end Ch
end Abs
end Go.Proofs.YtnjiadikeacfaaaGreatDoor
