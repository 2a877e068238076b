/- CONTRACTS of the program's functions, and laws on what they return. No conditions but those in the theorems' heads. -/
import Derived.Test.YtmndpldajflenaaGreatDoorChLaw0X
import Derived.Test.YtmndpldajflenaaGreatDoorChecked
import GoSem.ClaimGoes
set_option linter.all false
set_option maxHeartbeats 4000000
open Go.Proofs.Tryz renaming prog->TP
namespace Go.Proofs.YtmndpldajflenaaGreatDoor
namespace Abs
namespace Ch
set_option maxRecDepth 4000
theorem Lu{s:ClShop}(h:(Cl.clCheck s).2.2=0):∀c,c∈s.colours->c.name.size<=20:=by
 unfold Cl.clCheck at h;split at h
 .split at h
  .rename_i i e a;exact absurd h (Cl.gy a)
  .rename_i a;intro c o;obtain⟨bs,l⟩:=Cl.eY a c o;unfold Cl.dX at l;split at l
   .rename_i j;exact pI (xh j).1
   .contradiction
 .rename_i j;exact absurd h j
theorem xk(s:ChShop)(e:List (List UInt8))(n:List UInt8)(c i g:Int)(hc:0<=c/\c<=255)(hi:0<=i/\i<=255)(hg:0<=g/\g<=65535) :
  af TP 4 [s.pv,bv e,.agg [.str (bs n),.int .u8 c,.int .u8 i,.int .u16 g]] (.bool true):=by
 refine DF (eI (by kernel_rfl) rfl WK) rfl ?_;refine gT dh ?_;simp only[go_sem,simprocAttr];refine gT dh ?_;simp only[go_sem,simprocAttr];refine ae (Ed s e) rfl ?_;simp only[go_sem,simprocAttr];refine gT dh ?_;by_cases he:bi s e=0;rotate_left
 .have T:(bi s e != 0)=true:=by simpa using he
  have c2:(bi s e==0)=false:=by simpa using he
  have h0:k9 s e=bS:=by rw[k9,if_neg he]
  have a7:=(CT bS Ky).arglessD (args':=[bS.pv,gX]) ⟨.refl _,zV,trivial⟩;simp only[ChBooks.pv,ChBooks.cells,gX]at a7;simp only[T,h0,c2,go_sem,simprocAttr];refine ae a7 rfl ?_;simp only[go_sem,simprocAttr];refine ae k8 rfl ?_;simp only[go_sem,simprocAttr]
 obtain⟨h1,h2⟩:=OQ he;have hs:=yb h1;have hv:((aZ s).2.2==0)=true:=by simpa using h1
 have hb:k9 s e=mh s bS e:=by rw[k9,if_pos he,yg]
 have hok:=Dr hs h2;rw[yg]at hok;have X:=LQ s e;rw[hb]at X;have K:=λr=>Lj (s:=s) (b:=mh s bS e) (n:=n) (r:=r);have w2:IntKind.i64.wrap ((e.length:Int)+2)=((e.length+2:Nat):Int):=bk (by omega) (by simp[ao];omega) (by simp);simp only[he,hb,go_sem,simprocAttr];refine ae (NX s) rfl ?_;simp only[hv,bv,w2,go_sem,simprocAttr];by_cases d5:40<e.length+2
 .have b1:decide ((40:Int)<((e.length+2:Nat):Int))=true:=decide_eq_true (by omega);simp only[b1,go_sem,simprocAttr];refine ae k8 rfl ?_;simp only[go_sem,simprocAttr]
 have b1:decide ((40:Int)<((e.length+2:Nat):Int))=false:=decide_eq_false (by omega);simp only[b1,go_sem,simprocAttr];refine ae (EM (bs n)) rfl ?_;by_cases T:nameOk (bs n)=true;rotate_left
 .have c3:nameOk (bs n)=false:=by simpa using T
  simp only[c3,go_sem,simprocAttr];refine ae k8 rfl ?_;simp only[go_sem,simprocAttr]
 simp only[T,go_sem,simprocAttr];generalize hB:mh s bS e=B at *
 by_cases hl:B.lots=[]
 .simp only[hl,cf,dL,go_sem,simprocAttr];refine ae k8 rfl ?_;simp only[go_sem,simprocAttr]
 have d3:0<B.lots.length:=xS.2 hl;have q0:((B.lots.length:Int)==0)=false:=by rw[beq_eq_false_iff_ne];omega
 simp only[q0,go_sem,simprocAttr];refine gT dh ?_;have b0:(0:Int)<(B.lots.length:Int):=by omega
 have wi:IntKind.i64.wrap i=i:=am (by omega) (by omega);have d4:=hok.1;obtain⟨k,hk⟩:∃k:Nat,i.tmod (B.lots.length:Int)=(k:Int):=⟨(i.tmod (B.lots.length:Int)).toNat,by have:=Int.tmod_nonneg (B.lots.length:Int) hi.1;omega⟩
 have b3:k<B.lots.length:=by have:=Int.tmod_lt_of_pos i b0;omega
 have b9:¬(B.lots.length:Int)=0:=by omega
 have c5:(k:Int)<(B.lots.length:Int):=by omega
 have F:B.lots[k]?=some (B.lots[k]):=bO b3;generalize B.lots[k]=L at F;simp only[H4,aO,wi,hk,b9,c5,F,go_sem,simprocAttr];have b4:=Cl.rU hs.colour;have a4:(0:Int)<(s.colour.colours.length:Int):=by have:=b4.len;omega
 have wc:IntKind.i64.wrap c=c:=am (by omega) (by omega);have wg:IntKind.i64.wrap g=g:=am (by omega) (by omega);obtain⟨kc,c6⟩:∃k:Nat,c.tmod (s.colour.colours.length:Int)=(k:Int):=⟨(c.tmod (s.colour.colours.length:Int)).toNat,by have:=Int.tmod_nonneg (s.colour.colours.length:Int) hc.1;omega⟩
 have a3:kc<s.colour.colours.length:=by have:=Int.tmod_lt_of_pos c a4;omega
 have b5:¬(s.colour.colours.length:Int)=0:=by omega
 have b6:(kc:Int)<(s.colour.colours.length:Int):=by omega
 have q:s.colour.colours[kc]?=some (s.colour.colours[kc]):=bO a3;generalize s.colour.colours[kc]=C at q;refine gT dh ?_;have c7:L.name.size<=20:=hok.names L (aG F);have c9:C.name.size<=20:=Lu hs.colour C (aG q);have b8:=pI T;have ng:((g.toNat:Nat):Int)=g:=by omega
 have cg:=QI g.toNat (by omega);rw[ng]at cg;have c8:(Lib.decDigits g.toNat).length<=70000:=by have:=tY g.toNat;omega
 generalize hD:Lib.decDigits g.toNat=D at cg c8;obtain⟨ln,eL⟩:∃l,L.name=bs l:=⟨bl L.name,(zw _).symm⟩
 obtain⟨U,eC⟩:∃l,C.name=bs l:=⟨bl C.name,(zw _).symm⟩
 rw[eL,aj]at c7;rw[eC,aj]at c9;rw[aj]at b8;have p1:6+(bs n).size<=bj:=by simp only[bj,aj];omega
 have c0:(⟨#[98,97,116,99,104,32]⟩:ByteArray)++bs n=bs (dE++32::n):=by
  rw[show (⟨#[98,97,116,99,104,32]⟩:ByteArray)=bs (dE++[32]) from rfl,dF];simp
 have d2:(⟨#[32]⟩:ByteArray)=bs [32]:=rfl;have p2:(bs (dE++32::n)).size+(bs [32]).size<=bj:=by simp[bj,aj,dE];omega
 have p3:(bs (dE++32::n++[32])).size+(bs U).size<=bj:=by simp[bj,aj,dE];omega
 have p4:(bs (dE++32::n++[32]++U)).size+(bs [32]).size<=bj:=by simp[bj,aj,dE];omega
 have p5:(bs (dE++32::n++[32]++U++[32])).size+(bs ln).size<=bj:=by simp[bj,aj,dE];omega
 have p6:(bs (dE++32::n++[32]++U++[32]++ln)).size+(bs [32]).size<=bj:=by simp[bj,aj,dE];omega
 have p7:(bs (dE++32::n++[32]++U++[32]++ln++[32])).size+(bs D).size<=bj:=by simp[bj,aj,dE];omega
 simp only[H4,aO,wc,wg,c6,b5,b6,q,eL,eC,p1,c0,d2,dF,p2,p3,p4,p5,p6,go_sem,simprocAttr];refine ax cg rfl ?_;simp only[H4,aO,p7,dF,go_sem,simprocAttr];generalize hR:U++32::(ln++32::D)=R;have a2:dE++32::n++[32]++U++[32]++ln++[32]++D=iy n R:=by subst hR;simp[iy]
 rw[a2];refine gT dh ?_;have J:e.length+1<=ao:=by simp[ao];omega
 have N:e.length<=ao:=by omega
 obtain⟨W,hW⟩:∃W,W=e++[iy n R]:=⟨_,rfl⟩
 have a:W.length=e.length+1:=by rw[hW,aL];rfl
 have a1:bi s W=0:=by rw[bi,if_pos h1,if_neg (by rw[a];omega)]
 have a0:pA s W=nw s bS e++[oA s B (iy n R)]:=by
  rw[pA,if_pos a1,yg,hW];dsimp only;rw[Fc,hB];rfl
 have Z:=Fb s e bS;generalize nw s bS e=AA at a0 Z;have j:(pA s W).length=e.length+1:=by rw[a0,aL,Z];rfl
 have kW:=IK s W;have y:(pA s W)[e.length]?=some (oA s B (iy n R)):=by rw[a0,cG (by omega),Z,qZ];rfl
 have a9:k9 s (W++[g7 n])=nq s (nq s B (iy n R)) (g7 n):=by
  rw[k9,if_pos (by rw[bi,if_pos h1,if_neg (by rw[aL,a];simp;omega)]),yg,hW];dsimp only;rw[xD,xD,hB];rfl
 have a8:bi s (W++[g7 n])=0:=by rw[bi,if_pos h1,if_neg (by rw[aL,a];simp;omega)]
 have kD:=Ed s (W++[g7 n]);generalize hO:oA s B (iy n R)=O at *
 have a5:e=[]\/¬e=[]:=Classical.em _;rcases a5 with M|M
 .subst M;have b7:0<=ao:=de _;have a6:1<=ao:=by simp[ao]
  simp only[H4,aO,bv,cf,b7,a6,go_sem,simprocAttr];refine Mf (λi=>i==3) [1,3,5,7] [(11,bv W)] _ rfl rfl ?_ ?_
  .intro p hp;simp only[dT]at hp;subst hp;simp only[cS,List.mapIdx_cons,List.mapIdx_nil,jK,bt,dB,dp,go_sem,simprocAttr];rw[hW];first|exact Bv|(simp only[bv,bD,bK,cf,lc,bt,hZ];exact G7)
  refine gT dh ?_;simp only[cS,List.mapIdx_cons,List.mapIdx_nil,go_sem,simprocAttr];refine ae kW rfl ?_;simp only[a1,go_sem,simprocAttr];refine gT dh ?_;simp only[bv,dp,j,a,dL,beq_self_eq_true,go_sem,simprocAttr];refine gT dh ?_;have o:(0:Int)<((pA s W).length:Int):=by rw[j];decide
  simp only[dL]at y j a;simp only[bv,dp,j,a,dL,cW,y,o,go_sem,simprocAttr];have V:(O=oH/\nq s (nq s B (iy n R)) (g7 n)=B)\/(O≠oH/\kK O=true):=by
   rcases K R T with h|h
   .rw[hO]at h;exact .inr h
   .rw[hO]at h;exact .inl h
  rcases V with⟨A,Y⟩|⟨E,z⟩
  rotate_left
  .have S:(bs O==(⟨#[111,107]⟩:ByteArray))=false:=by
    rw[sE];intro h;exact E (EV.1 ((nv _ _).1 h))
   simp only[S,bv,dp,j,a,dL,cW,y,o,go_sem,simprocAttr];refine ae (BT O) rfl ?_;simp only[z,go_sem,simprocAttr];refine ae k8 rfl ?_;simp only[go_sem,simprocAttr]
  have S:(bs O==(⟨#[111,107]⟩:ByteArray))=true:=by rw[A];rfl
  simp only[S,go_sem,simprocAttr];refine gT dh ?_;have v:¬List.map AV.p (List.map (λx=>PV.str (bs x)) W)=[]:=by
   intro h;have:=congrArg List.length h;simp[a]at this
  have u:W.length<=ao:=by rw[a];exact a6
  simp only[H4,aO,v,u,go_sem,simprocAttr];refine HK _ _ _ _ _ _ _ _ _ _ _ _ _ (l:=[AObj.row 1 (List.map AV.p (List.map (λx=>PV.str (bs x)) W))]) rfl (by simp) (by simp) ?_;have d0:(⟨#[100,114,111,112,32]⟩:ByteArray)++bs n=bs (g7 n):=by
   rw[show (⟨#[100,114,111,112,32]⟩:ByteArray)=bs (kw++[32]) from rfl,dF];simp[g7]
  have d1:5+(bs n).size<=bj:=by simp only[bj,aj];omega
  have I:W.length+1<=ao:=by rw[a];simp[ao]
  simp only[H4,aO,v,u,d0,d1,I,go_sem,simprocAttr];refine HJ _ _ _ _ _ _ _ _ _ _ _ _ _ (id:=5) (ob:=AObj.row 1 (List.map AV.p (List.map (λx=>PV.str (bs x)) W)++[AV.p (PV.str (bs (g7 n)))])) rfl (by simp) (by simp) (by simp) ?_;simp only[H4,aO,go_sem,simprocAttr];refine Fp _ _ _ _ _ _ _ _ _ _ _ _ _ (id:=5) (by simp) (by simp) (BE (id:=5) rfl kD ?_) ?_
  .intro h' hr;simp only[hr,go_sem,simprocAttr];rw[if_pos (by simp)];simp[fC,bv]
  simp only[H4,aO,go_sem,simprocAttr];have G:=CT B X;refine gT dh ?_;simp only[a9,a8,Y,go_sem,simprocAttr];refine ae G rfl ?_;simp only[go_sem,simprocAttr];refine ae k8 rfl ?_;simp only[go_sem,simprocAttr];refine xW dh ?_;simp only[go_sem,simprocAttr]
 have c4:¬(e.map λl=>PV.str (bs l))=[]:=by simpa using M
 have b2:¬(e.map λx=>PV.str (bs x)).map AV.p=[]:=by simpa using M
 simp only[H4,aO,bv,c4,b2,J,N,go_sem,simprocAttr];refine Mf (λi=>i==3) [1,3,5,7] [(11,bv W)] _ rfl rfl ?_ ?_
 .intro p hp;simp only[dT]at hp;subst hp;simp only[cS,List.mapIdx_cons,List.mapIdx_nil,jK,bt,dB,dp,aL,go_sem,simprocAttr];rw[hW];first|exact Bv|(simp only[bv,bD,bK,cf,lc,bt,hZ];exact G7)
 refine gT dh ?_;simp only[cS,List.mapIdx_cons,List.mapIdx_nil,go_sem,simprocAttr];refine ae kW rfl ?_;simp only[a1,go_sem,simprocAttr];refine gT dh ?_;simp only[bv,dp,j,a,dL,beq_self_eq_true,bne_self_eq_false,go_sem,simprocAttr];refine gT dh ?_;have o:(e.length:Int)<((e.length+1:Nat):Int):=by omega
 simp only[bv,dp,j,a,dL,cW,y,o,go_sem,simprocAttr];have V:(O=oH/\nq s (nq s B (iy n R)) (g7 n)=B)\/(O≠oH/\kK O=true):=by
  rcases K R T with h|h
  .rw[hO]at h;exact .inr h
  .rw[hO]at h;exact .inl h
 rcases V with⟨A,Y⟩|⟨E,z⟩
 rotate_left
 .have S:(bs O==(⟨#[111,107]⟩:ByteArray))=false:=by
   rw[sE];intro h;exact E (EV.1 ((nv _ _).1 h))
  simp only[S,bv,dp,j,a,dL,cW,y,o,go_sem,simprocAttr];refine ae (BT O) rfl ?_;simp only[z,go_sem,simprocAttr];refine ae k8 rfl ?_;simp only[go_sem,simprocAttr]
 have S:(bs O==(⟨#[111,107]⟩:ByteArray))=true:=by rw[A];rfl
 simp only[S,go_sem,simprocAttr];refine gT dh ?_;have v:¬List.map AV.p (List.map (λx=>PV.str (bs x)) W)=[]:=by
  intro h;have:=congrArg List.length h;simp[a]at this
 have u:W.length<=ao:=by rw[a];exact J
 simp only[H4,aO,v,u,go_sem,simprocAttr];refine HK _ _ _ _ _ _ _ _ _ _ _ _ _ (l:=[AObj.row 1 (List.map AV.p (List.map (λx=>PV.str (bs x)) W))]) rfl (by simp) (by simp) ?_;have d0:(⟨#[100,114,111,112,32]⟩:ByteArray)++bs n=bs (g7 n):=by
  rw[show (⟨#[100,114,111,112,32]⟩:ByteArray)=bs (kw++[32]) from rfl,dF];simp[g7]
 have d1:5+(bs n).size<=bj:=by simp only[bj,aj];omega
 have I:W.length+1<=ao:=by rw[a];simp[ao];omega
 simp only[H4,aO,v,u,d0,d1,I,go_sem,simprocAttr];refine HJ _ _ _ _ _ _ _ _ _ _ _ _ _ (id:=5) (ob:=AObj.row 1 (List.map AV.p (List.map (λx=>PV.str (bs x)) W)++[AV.p (PV.str (bs (g7 n)))])) rfl (by simp) (by simp) (by simp) ?_;simp only[H4,aO,go_sem,simprocAttr];refine Fp _ _ _ _ _ _ _ _ _ _ _ _ _ (id:=5) (by simp) (by simp) (BE (id:=5) rfl kD ?_) ?_
 .intro h' hr;simp only[hr,go_sem,simprocAttr];rw[if_pos (by simp)];simp[fC,bv]
 simp only[H4,aO,go_sem,simprocAttr];have G:=CT B X;refine gT dh ?_;simp only[a9,a8,Y,go_sem,simprocAttr];refine ae G rfl ?_;simp only[go_sem,simprocAttr];refine ae k8 rfl ?_;simp only[go_sem,simprocAttr];refine xW dh ?_;simp only[go_sem,simprocAttr]
end Ch
set_option maxRecDepth 100000
theorem dt(cs:List PV):jz true cs=.agg cs:=by
 cases cs with
 |nil=>rfl
 |cons a l=>cases l<;>rfl
theorem iY{n:Nat}{cs:List PV}(h:cQ TP (n+1) 3 cs):∃m,cs=[.int .i64 m]:=by
 obtain⟨m,h,_⟩:=yj (k:=.i64) (by kernel_rfl) h;exact⟨m,h⟩
theorem gI{n:Nat}{cs:List PV}(h:cQ TP (n+2) 60 cs):∃s:Span,cs=[.int .i64 s.lo,.int .i64 s.hi]:=by
 obtain⟨a,_,rfl,i,b,_,rfl,e,rfl⟩:=dD (ts:=[3,3]) (by kernel_rfl) h;obtain⟨x,rfl⟩:=iY i;obtain⟨y,rfl⟩:=iY e;exact⟨⟨x,y⟩,rfl⟩
theorem K5{n:Nat}{cs:List PV}(h:cQ TP (n+3) 308 cs):∃k:HrKind,.agg cs=k.pv:=by
 obtain⟨a,_,rfl,j,b,_,rfl,i,c,_,rfl,e,rfl⟩:=dD (ts:=[9,60,3]) (by kernel_rfl) h;obtain⟨x,rfl,_⟩:=lJ (by kernel_rfl) j;obtain⟨y,rfl⟩:=gI i;obtain⟨z,rfl⟩:=iY e;exact⟨⟨x,y,z⟩,rfl⟩
theorem K4{n:Nat}{cs:List PV}(h:cQ TP (n+3) 311 cs):∃k:HrRule,.agg cs=k.pv:=by
 obtain⟨a,_,rfl,j,b,_,rfl,i,c,_,rfl,e,rfl⟩:=dD (ts:=[9,60,60]) (by kernel_rfl) h;obtain⟨x,rfl,_⟩:=lJ (by kernel_rfl) j;obtain⟨y,rfl⟩:=gI i;obtain⟨z,rfl⟩:=gI e;exact⟨⟨x,y,z⟩,rfl⟩
theorem yP{n:Nat}{cs:List PV}(h:cQ TP (n+4) 63 cs):∃l:List HrKind,cs=[.slice 4 (l.map HrKind.pv) false]:=by
 obtain⟨xs,rfl,_,hx⟩:=iE (e:=308) (z:=4) (g:=true) (by kernel_rfl) h;obtain⟨l,rfl⟩:=hJ HrKind.pv (xs:=xs) λx a=>by
  obtain⟨es,rfl,h⟩:=hx x a;rw[dt];exact K5 h
 exact⟨l,rfl⟩
theorem yO{n:Nat}{cs:List PV}(h:cQ TP (n+4) 64 cs):∃l:List HrRule,cs=[.slice 5 (l.map HrRule.pv) false]:=by
 obtain⟨xs,rfl,_,hx⟩:=iE (e:=311) (z:=5) (g:=true) (by kernel_rfl) h;obtain⟨l,rfl⟩:=hJ HrRule.pv (xs:=xs) λx a=>by
  obtain⟨es,rfl,h⟩:=hx x a;rw[dt];exact K4 h
 exact⟨l,rfl⟩
theorem rU{v:PV}(h:vw TP 8 66 v):∃s:HrShop,v=s.pv:=by
 obtain⟨cs,rfl,h⟩:=h;rw[show (bn TP 66==some true)=true by kernel_rfl,dt];obtain⟨a,_,rfl,j,b,_,rfl,i,c,_,rfl,e,rfl⟩:=dD (ts:=[63,64,3]) (by kernel_rfl) h;obtain⟨x,rfl⟩:=yP j;obtain⟨y,rfl⟩:=yO i;obtain⟨z,rfl⟩:=iY e;exact⟨⟨x,y,z⟩,rfl⟩
namespace Ch
theorem PH{n}{cs}(h:cQ TP (n+2) 35 cs):∃l:List Int,cs=[.slice 1 (l.map aI) false]:=by
 obtain⟨xs,rfl,_,hx⟩:=iE (e:=3) (z:=1) (g:=false) (by kernel_rfl) h;obtain⟨l,rfl⟩:=hJ aI (xs:=xs) λx a=>by
  obtain⟨es,rfl,h⟩:=hx x a;obtain⟨m,rfl⟩:=iY h;exact⟨m,rfl⟩
 exact⟨l,rfl⟩
theorem Nd{n}{cs}(h:cQ TP (n+3) 115 cs):∃l:List Span,cs=[.slice 2 (l.map Span.pv) false]:=by
 obtain⟨xs,rfl,_,hx⟩:=iE (e:=60) (z:=2) (g:=true) (by kernel_rfl) h;obtain⟨l,rfl⟩:=hJ Span.pv (xs:=xs) λx a=>by
  obtain⟨es,rfl,h⟩:=hx x a;rw[dt];obtain⟨s,rfl⟩:=gI h;exact⟨s,rfl⟩
 exact⟨l,rfl⟩
theorem K0{n}{cs}(h:cQ TP (n+4) 292 cs):∃w:WxProp,.agg cs=w.pv:=by
 obtain⟨a,_,rfl,i,b,_,rfl,e,rfl⟩:=dD (ts:=[9,3]) (by kernel_rfl) h;obtain⟨x,rfl,_⟩:=lJ (by kernel_rfl) i;obtain⟨y,rfl⟩:=iY e;exact⟨⟨x,y⟩,rfl⟩
theorem K1{n}{cs}(h:cQ TP (n+4) 294 cs):∃w:WxKind,.agg cs=w.pv:=by
 obtain⟨a,_,rfl,i,b,_,rfl,e,rfl⟩:=dD (ts:=[9,115]) (by kernel_rfl) h;obtain⟨x,rfl,_⟩:=lJ (by kernel_rfl) i;obtain⟨y,rfl⟩:=Nd e;exact⟨⟨x,y⟩,rfl⟩
theorem IS{n}{cs}(h:cQ TP (n+2) 315 cs):∃s:BdPoint,.agg cs=s.pv:=by
 obtain⟨a,_,rfl,i,b,_,rfl,e,rfl⟩:=dD (ts:=[3,3]) (by kernel_rfl) h;obtain⟨x,rfl⟩:=iY i;obtain⟨y,rfl⟩:=iY e;exact⟨⟨x,y⟩,rfl⟩
theorem F4{n}{cs}(h:cQ TP (n+3) 296 cs):∃l:List BdPoint,cs=[.slice 2 (l.map BdPoint.pv) false]:=by
 obtain⟨xs,rfl,_,hx⟩:=iE (e:=315) (z:=2) (g:=true) (by kernel_rfl) h;obtain⟨l,rfl⟩:=hJ BdPoint.pv (xs:=xs) λx a=>by
  obtain⟨es,rfl,h⟩:=hx x a;rw[dt];exact IS h
 exact⟨l,rfl⟩
theorem Nf{n}{cs}(h:cQ TP (n+4) 298 cs):∃w:BdWax,.agg cs=w.pv:=by
 obtain⟨a,_,rfl,q,b,_,rfl,o,c,_,rfl,l,d,_,rfl,j,e,_,rfl,i,rfl⟩:=dD (ts:=[9,3,60,60,296]) (by kernel_rfl) h;obtain⟨x,rfl,_⟩:=lJ (by kernel_rfl) q;obtain⟨y,rfl⟩:=iY o;obtain⟨z,rfl⟩:=gI l;obtain⟨u,rfl⟩:=gI j;obtain⟨v,rfl⟩:=F4 i;exact⟨⟨x,y,z,u,v⟩,rfl⟩
theorem K2{n}{cs}(h:cQ TP (n+4) 303 cs):∃w:Wick,.agg cs=w.pv:=by
 obtain⟨a,_,rfl,j,b,_,rfl,i,c,_,rfl,e,rfl⟩:=dD (ts:=[9,3,60]) (by kernel_rfl) h;obtain⟨x,rfl,_⟩:=lJ (by kernel_rfl) j;obtain⟨y,rfl⟩:=iY i;obtain⟨z,rfl⟩:=gI e;exact⟨⟨x,y,z⟩,rfl⟩
theorem Nc{n}{cs}(h:cQ TP (n+4) 306 cs):∃w:Wax,.agg cs=w.pv:=by
 obtain⟨a,_,rfl,q,b,_,rfl,o,c,_,rfl,l,d,_,rfl,j,e,_,rfl,i,rfl⟩:=dD (ts:=[9,60,60,60,3]) (by kernel_rfl) h;obtain⟨x,rfl,_⟩:=lJ (by kernel_rfl) q;obtain⟨y,rfl⟩:=gI o;obtain⟨z,rfl⟩:=gI l;obtain⟨u,rfl⟩:=gI j;obtain⟨v,rfl⟩:=iY i;exact⟨⟨x,y,z,u,v⟩,rfl⟩
theorem F3{n}{cs}(h:cQ TP (n+4) 90 cs):∃w:ClColour,.agg cs=w.pv:=by
 obtain⟨a,_,rfl,j,b,_,rfl,i,c,_,rfl,e,rfl⟩:=dD (ts:=[9,60,35]) (by kernel_rfl) h;obtain⟨x,rfl,_⟩:=lJ (by kernel_rfl) j;obtain⟨y,rfl⟩:=gI i;obtain⟨z,rfl⟩:=PH e;exact⟨⟨x,y,z⟩,rfl⟩
theorem IP{n}{cs}(h:cQ TP (n+5) 52 cs):∃l:List WxProp,cs=[.slice 2 (l.map WxProp.pv) false]:=by
 obtain⟨xs,rfl,_,hx⟩:=iE (e:=292) (z:=2) (g:=true) (by kernel_rfl) h;obtain⟨l,rfl⟩:=hJ WxProp.pv (xs:=xs) λx a=>by
  obtain⟨es,rfl,h⟩:=hx x a;rw[dt];exact K0 h
 exact⟨l,rfl⟩
theorem IQ{n}{cs}(h:cQ TP (n+5) 53 cs):∃l:List WxKind,cs=[.slice 2 (l.map WxKind.pv) false]:=by
 obtain⟨xs,rfl,_,hx⟩:=iE (e:=294) (z:=2) (g:=true) (by kernel_rfl) h;obtain⟨l,rfl⟩:=hJ WxKind.pv (xs:=xs) λx a=>by
  obtain⟨es,rfl,h⟩:=hx x a;rw[dt];exact K1 h
 exact⟨l,rfl⟩
theorem K6{n}{cs}(h:cQ TP (n+5) 56 cs):∃l:List BdWax,cs=[.slice 7 (l.map BdWax.pv) false]:=by
 obtain⟨xs,rfl,_,hx⟩:=iE (e:=298) (z:=7) (g:=true) (by kernel_rfl) h;obtain⟨l,rfl⟩:=hJ BdWax.pv (xs:=xs) λx a=>by
  obtain⟨es,rfl,h⟩:=hx x a;rw[dt];exact Nf h
 exact⟨l,rfl⟩
theorem IR{n}{cs}(h:cQ TP (n+5) 57 cs):∃l:List Wick,cs=[.slice 4 (l.map Wick.pv) false]:=by
 obtain⟨xs,rfl,_,hx⟩:=iE (e:=303) (z:=4) (g:=true) (by kernel_rfl) h;obtain⟨l,rfl⟩:=hJ Wick.pv (xs:=xs) λx a=>by
  obtain⟨es,rfl,h⟩:=hx x a;rw[dt];exact K2 h
 exact⟨l,rfl⟩
theorem K3{n}{cs}(h:cQ TP (n+5) 58 cs):∃l:List Wax,cs=[.slice 8 (l.map Wax.pv) false]:=by
 obtain⟨xs,rfl,_,hx⟩:=iE (e:=306) (z:=8) (g:=true) (by kernel_rfl) h;obtain⟨l,rfl⟩:=hJ Wax.pv (xs:=xs) λx a=>by
  obtain⟨es,rfl,h⟩:=hx x a;rw[dt];exact Nc h
 exact⟨l,rfl⟩
theorem Eh{n}{cs}(h:cQ TP (n+5) 67 cs):∃l:List ClColour,cs=[.slice 4 (l.map ClColour.pv) false]:=by
 obtain⟨xs,rfl,_,hx⟩:=iE (e:=90) (z:=4) (g:=true) (by kernel_rfl) h;obtain⟨l,rfl⟩:=hJ ClColour.pv (xs:=xs) λx a=>by
  obtain⟨es,rfl,h⟩:=hx x a;rw[dt];exact F3 h
 exact⟨l,rfl⟩
theorem Lx{v}(h:vw TP 8 71 v):∃s:ChShop,v=s.pv:=by
 obtain⟨cs,rfl,h⟩:=h;rw[show (bn TP 71==some true)=true by kernel_rfl,dt];obtain⟨a,_,rfl,ha,b,_,rfl,hb,c,_,rfl,hc,d,_,rfl,Z,e,_,rfl,Y,rfl⟩:=dD (ts:=[55,56,62,66,69]) (by kernel_rfl) h;obtain⟨a1,_,rfl,G,a2,_,rfl,F,a3,_,rfl,E,rfl⟩:=dD (ts:=[52,53,3]) (by kernel_rfl) ha;obtain⟨O,rfl⟩:=IP G;obtain⟨N,rfl⟩:=IQ F;obtain⟨M,rfl⟩:=iY E;obtain⟨y,rfl⟩:=K6 hb;obtain⟨c1,_,rfl,D,c2,_,rfl,C,c3,_,rfl,A,c4,_,rfl,z,rfl⟩:=dD (ts:=[57,58,60,60]) (by kernel_rfl) hc;obtain⟨L,rfl⟩:=IR D;obtain⟨K,rfl⟩:=K3 C;obtain⟨J,rfl⟩:=gI A;obtain⟨I,rfl⟩:=gI z;obtain⟨d1,_,rfl,u,d2,_,rfl,q,d3,_,rfl,o,rfl⟩:=dD (ts:=[63,64,3]) (by kernel_rfl) Z;obtain⟨X,rfl⟩:=yP u;obtain⟨V,rfl⟩:=yO q;obtain⟨U,rfl⟩:=iY o;obtain⟨e1,_,rfl,l,e2,_,rfl,j,e3,_,rfl,i,rfl⟩:=dD (ts:=[67,60,3]) (by kernel_rfl) Y;obtain⟨T,rfl⟩:=Eh l;obtain⟨S,rfl⟩:=gI j;obtain⟨R,rfl⟩:=iY i;exact⟨⟨⟨O,N,M⟩,y,⟨L,K,J,I⟩,⟨X,V,U⟩,⟨T,S,R⟩⟩,rfl⟩
theorem M7{v}(h:vw TP 8 72 v):∃l,v=bv l/\l.length<9223372036854775808:=by
 obtain⟨cs,rfl,h⟩:=h;rw[show (bn TP 72==some true)=false by kernel_rfl];obtain⟨xs,rfl,a,hx⟩:=iE (e:=9) (z:=1) (g:=false) (by kernel_rfl) h;obtain⟨l,rfl⟩:=hJ (λx:List UInt8=>PV.str (bs x)) (xs:=xs) λx i=>by
  obtain⟨es,rfl,h⟩:=hx x i;obtain⟨s,rfl,_⟩:=lJ (by kernel_rfl) h;exact⟨s.data.toList,by rw[sl];rfl⟩
 refine⟨l,rfl,?_⟩;simp[maxLen]at a;omega
theorem I3{v:PV}(h:vw TP 8 75 v):∃(n:List UInt8) (c i g:Int),v=.agg [.str (bs n),.int .u8 c,.int .u8 i,.int .u16 g]/\(0<=c/\c<=255)/\(0<=i/\i<=255)/\(0<=g/\g<=65535):=by
 obtain⟨cs,rfl,h⟩:=h;rw[show (bn TP 75==some true)=true by kernel_rfl,dt];obtain⟨a,_,rfl,z,b,_,rfl,y,c,_,rfl,u,d,_,rfl,q,rfl⟩:=dD (ts:=[9,5,5,73]) (by kernel_rfl) h;obtain⟨s,rfl,_⟩:=lJ (by kernel_rfl) z;obtain⟨k,rfl,k1,k2⟩:=yj (k:=.u8) (by kernel_rfl) y;obtain⟨w,rfl,j,e⟩:=yj (k:=.u8) (by kernel_rfl) u;obtain⟨r,rfl,o,l⟩:=yj (k:=.u16) (by kernel_rfl) q;exact⟨s.data.toList,k,w,r,by rw[sl];rfl,⟨k1,k2⟩,⟨j,e⟩,⟨o,l⟩⟩
end Ch
theorem Lf{P:Program}(h:P.funcs.any Func.goes=false)(f:FuncId):P.goes f=false:=by
 have a:∀(i:Nat) (fn:Func),P.funcs[i]?=some fn->fn.goes=false:=λi fn hi=>by
  rw[Array.any_eq_false]at h;obtain⟨e,l⟩:=tQ.1 hi;have:=h i e;rw[l]at this;simpa using this
 unfold Program.goes;rw[h,Bool.and_false,cn,List.any_eq_false];intro g _
 cases j:P.funcs[g]? with
 |none=>simp
 |some fn=>simp[a g fn j]
theorem F9{P:Program}{c:OpenClaim}(a:c.start=.entering)(h:P.funcs.any Func.goes=false):false=c.goesBy P:=by
 unfold OpenClaim.goesBy Program.goesAt Program.goesFrom;rw[a]
 cases P.funcNamed c.func with
 |none=>rfl
 |some f=>simp[Lf h f]
theorem Nn:TP.funcs.any Func.goes=false:=by kernel_rfl
end Abs
end Go.Proofs.YtmndpldajflenaaGreatDoor
