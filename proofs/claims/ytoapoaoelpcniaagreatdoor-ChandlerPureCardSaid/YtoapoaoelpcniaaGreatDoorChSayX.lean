/- CONTRACTS of the program's functions, and laws on what they return. No conditions but those in the theorems' heads. -/
import Derived.Test.YtoapoaoelpcniaaGreatDoorChLaw0X
set_option linter.all false
namespace Go.Proofs.YtoapoaoelpcniaaGreatDoor
namespace Abs
namespace Ch
set_option maxRecDepth 4000
structure Said where
 verb:List UInt8
 names:List (List UInt8)
 numbers:List Int
 text:List UInt8
def Said.pv (x:Said):PV:=.agg [.str (bs x.verb),bp x.names,.slice 1 (x.numbers.map aI) false,.str (bs x.text)]
def jg:List UInt8:=[116,101,115,116]
def cZ:Cmd->Said
 |.lot n k g rs=>⟨qU,[n,k],g::rs,[]⟩
 |.batch n c l g=>⟨lV,[n,c,l],[g],[]⟩
 |.drop n=>⟨oK,[n],[],[]⟩
 |.plan c=>⟨gO,[c],[],[]⟩
 |.pour c=>⟨oI,[c],[],[]⟩
 |.test t=>⟨jg,[],[],t⟩
 |.promise k=>⟨jS,[k],[],[]⟩
 |.box k h=>⟨sA,[k],[h],[]⟩
 |.look=>⟨oJ,[],[],[]⟩
 |.wick k a b c d=>⟨p7,[k],[a,b,c,d],[]⟩
 |.blend a b c=>⟨mQ,[],[a,b,c],[]⟩
 |.stock=>⟨mP,[],[],[]⟩
def kh:Said:=⟨[],[],[],[]⟩
def wX (l:List UInt8):Said×Int:=match du l with|.error e=>(kh,e)|.ok c=>(cZ c,0)
def fV:List (List UInt8)->List Int->List Int×Bool
 |[],m=>(m,true)
 |w::r,m=>if w≠kX/\dO w<0 then(m,false) else fV r (m++[dO w])
def ef (ws:List (List UInt8)):List UInt8->Nat->List (List UInt8)->List Int->List (List UInt8)×List Int×Bool
 |[],i,n,m=>(n,m,ws.length==i)
 |c::f,i,n,m=>
  if c=114 then(n,(fV (ws.drop i) m).1,(fV (ws.drop i) m).2&&decide (i<=ws.length))
  else match ws[i]? with
   |none=>(n,m,false)
   |some w=>
    if c=97 then(if nameOk (bs w)=true then ef ws f (i+1) (n++[w]) m else(n++[w],m,false))
    else(if dO w<0 then(n,m++[dO w],false) else ef ws f (i+1) n (m++[dO w]))
def F6 (v:List UInt8) (q:List (List UInt8)×List Int×Bool):PV:=.tuple [Said.pv ⟨v,q.1,q.2.1,[]⟩,.bool q.2.2]
def tq (v:List UInt8) (n:List (List UInt8)) (m:List Int):AV:=.agg [.p (.str (bs v)),.slice 2 n.length 0 n.length,.slice 3 m.length 0 m.length,.p (.str (bs []))]
def lN:AV:=.p (.agg [.str ⟨#[]⟩,.nilslice,.nilslice,.str ⟨#[]⟩])
def sm (v:List UInt8) (n:List (List UInt8)) (m:List Int):Heap:=[.row 4 [lN],.row 4 [tq v n m],.row 1 (n.map pp),.row 1 (m.map λx=>.p (aI x))]
theorem SL(w):-1<=dO w/\dO w<=10000000:=by
 unfold dO
 cases h:bF w with
 |none=>simp
 |some v=>
  unfold bF at h;split at h
  .split at h
   .rename_i h1;cases h;simp only;omega
   .cases h
  .cases h
set_option maxHeartbeats 4000000 in
theorem TJ(v)(ws)(f)(hw:ws.length<=1000)(hf:f.length<=1000)(hww:∀w,w∈ws->w.length<=1000):af Tryz.prog 39 [.str (bs v),bp ws,.str (bs f)] (F6 v (ef ws f 0 [] [])):=by
 refine dj (ah Tryz.func39 rfl (by kernel_rfl)) rfl ?_;have hsz:((bs f).size:Int)=(f.length:Int):=by rw[ao]
 simp only[bp,go_sem,simprocAttr];refine eQ [0,1,2,6,8,9] 1 1 4 _ (.agg [.p (.str (bs v)),.slice 2 0 0 0,.p .nilslice,.p (.str ⟨#[]⟩)]) (dY _) (dY _) rfl (fG 1 rfl rfl rfl) ?_ ?_ rfl ?_
 .simp only[go_sem,simprocAttr]
 .simp only[go_sem,simprocAttr]
 simp only[go_sem,simprocAttr];refine eQ [0,1,2,6,8,9] 1 1 4 _ (.agg [.p (.str (bs v)),.slice 2 0 0 0,.slice 3 0 0 0,.p (.str ⟨#[]⟩)]) (dY _) (dY _) rfl (fG 2 rfl rfl rfl) ?_ ?_ rfl ?_
 .simp only[go_sem,simprocAttr]
 .simp only[go_sem,simprocAttr]
 simp only[go_sem,simprocAttr]
 refine eC [1,2,6,8] (σ:=List UInt8×List UInt8×List (List UInt8)×List Int) (λq=>f=q.1++q.2.1/\ef ws f 0 [] []=ef ws q.2.1 q.1.length q.2.2.1 q.2.2.2/\q.2.2.1.length<=q.1.length/\q.2.2.2.length<=q.1.length) (λq=>q.2.1.length)
  (λq=>[(9,.p (.int .i64 q.1.length))]) (λq=>sm v q.2.2.1 q.2.2.2) ([],f,[],[]) ⟨rfl,rfl,bB _,bB _⟩ (by simp only[sm,tq,lN,go_sem,simprocAttr];rfl) ?_ ?_
 .simp only[go_sem,simprocAttr]
 rintro⟨done,rest,n,m⟩ ⟨e1,e2,e3,e4⟩
 dsimp only at e1 e2 e3 e4;have hdl:=congrArg List.length e1;rw[aB]at hdl;have t1:List.take n.length (n.map λx=>PV.str (bs x))=n.map λx=>PV.str (bs x):=eD (by simp);have hrm:n.length+1<=aw:=by simp only[aw];omega
 have hrm2:m.length+1<=aw:=by simp only[aw];omega
 cases rest with
 |nil=>
  have hlt:¬((done.length:Int)<(f.length:Int)):=by rw[e1];simp
  simp only[hsz,hlt,decide_false,sm,tq,lN,oP,t1,go_sem,simprocAttr];have hq:(((ws.length:Nat):Int)==((f.length:Nat):Int))=(ws.length==done.length):=by
   rw[nh];simp at hdl |-;omega
  rw[hq,e2]
  exact .inl rfl
 |cons c r=>
  obtain⟨hx,hlt⟩:=d8 e1;rw[cu]at hdl;have hxb:(bs f)[done.length]?=some c:=by rw[xS];exact hx
  have hnx:IntKind.i64.wrap ((done.length:Int)+1)=(((done++[c]).length:Nat):Int):=bj (by omega) (by simp[aw];omega) (by simp);have hlt':decide ((done.length:Int)<(f.length:Int))=true:=by simpa using hlt
  by_cases hc:c=114
  .subst hc;have d1:((((114:UInt8).toNat:Nat):Int)==114)=true:=rfl;simp only[hsz,hlt,hxb,sm,tq,lN,go_sem,simprocAttr]
   refine eC [1,6,8,9] (σ:=List (List UInt8)×List (List UInt8)×List Int) (λq=>ws.drop done.length=q.1++q.2.1/\fV (ws.drop done.length) m=fV q.2.1 q.2.2/\q.2.2.length<=m.length+q.1.length) (λq=>q.2.1.length)
    (λq=>[(10,.p (.int .i64 ((done.length+q.1.length:Nat):Int)))]) (λq=>sm v n q.2.2) ([],ws.drop done.length,m) ⟨rfl,rfl,bB _⟩ (by simp only[sm,tq,lN,go_sem,simprocAttr]) ?_ ?_
   .simp only[go_sem,simprocAttr];rfl
   rintro⟨dn,rs,m'⟩ ⟨g1,g2,g3⟩
   dsimp only at g1 g2 g3;have gl:=congrArg List.length g1;rw[aB,List.length_drop]at gl
   cases rs with
   |nil=>
    rw[cw]at gl;have hl2:¬(((done.length+dn.length:Nat):Int)<((ws.length:Nat):Int)):=by omega
    simp only[hl2,decide_false,sm,tq,lN,oP,t1,go_sem,simprocAttr];refine .inl ?_;rw[e2,ef,if_pos rfl,g2];have hq:decide (((done.length:Nat):Int)<=((ws.length:Nat):Int))=decide (done.length<=ws.length):=by
     rw[nh];simp
    rw[hq]
    rfl
   |cons w rs=>
    rw[cu]at gl;have hl2:(((done.length+dn.length:Nat):Int)<((ws.length:Nat):Int)):=by omega
    have hw1:ws[done.length+dn.length]?=some w:=by
     have:(ws.drop done.length)[dn.length]?=some w:=by rw[g1];simp
     rwa [nb]at this
    have hrm3:m'.length+1<=aw:=by simp only[aw];omega
    have hwm:=hww w (aG hw1);have hnx2:IntKind.i64.wrap (((done.length+dn.length:Nat):Int)+1)=((done.length+(dn++[w]).length:Nat):Int):=bj (by omega) (by simp[aw];omega) (by simp;omega);have hg:=SL w;have cx:(⟨#[120]⟩:ByteArray)=bs kX:=rfl;simp only[hl2,decide_true,hw1,sm,tq,lN,go_sem,simprocAttr];refine ae (L1 w) rfl ?_;rw[fV]at g2;by_cases q1:w=kX
    .have b1:(bs w==bs kX)=true:=by rw[cc];simpa using q1
     rw[if_neg (λh=>h.1 q1)]at g2;simp only[hw1,hl2,cx,b1,hrm3,go_sem,simprocAttr];refine bh (dn++[w],rs,m'++[dO w]) ⟨by rw[g1];simp,g2,by show (m'++[dO w]).length<=m.length+(dn++[w]).length;simp;omega⟩ (j4 _) (by simp only[sm,tq,lN,aB,bn,cj,go_sem,simprocAttr]) ?_;simp only[hnx2,go_sem,simprocAttr]
    .have b1:(bs w==bs kX)=false:=by rw[cc];simpa using q1
     by_cases q2:dO w<0
     .have b2:decide (dO w<0)=true:=decide_eq_true q2;rw[if_pos ⟨q1,q2⟩]at g2;simp only[hw1,hl2,cx,b1,b2,oP,t1,go_sem,simprocAttr];refine .inl ?_;rw[e2,ef,if_pos rfl,g2];rfl
     .have b2:decide (dO w<0)=false:=decide_eq_false q2;rw[if_neg (λh=>q2 h.2)]at g2;simp only[hw1,hl2,cx,b1,b2,hrm3,go_sem,simprocAttr];refine bh (dn++[w],rs,m'++[dO w]) ⟨by rw[g1];simp,g2,by show (m'++[dO w]).length<=m.length+(dn++[w]).length;simp;omega⟩ (j4 _) (by simp only[sm,tq,lN,aB,bn,cj,go_sem,simprocAttr]) ?_;simp only[hnx2,go_sem,simprocAttr]
  .have d1:(((c.toNat:Nat):Int)==114)=false:=by
    rw[beq_eq_false_iff_ne];intro e;exact hc (UInt8.toNat_inj.1 (by show c.toNat=114;omega))
   by_cases hi:ws.length<=done.length
   .have d2:decide (((ws.length:Nat):Int)<=(done.length:Int))=true:=decide_eq_true (by omega);have d2:((ws.length:Nat):Int)<=(done.length:Int):=by omega
    simp only[hsz,hlt,hxb,d1,d2,sm,tq,lN,oP,t1,go_sem,simprocAttr];rw[e2,ef,if_neg hc,na hi];exact .inl rfl
   .obtain⟨w,hw0⟩:∃w,ws[done.length]?=some w:=⟨_,dc (by omega)⟩
    have d2:decide (((ws.length:Nat):Int)<=(done.length:Int))=false:=decide_eq_false (by omega);have hwl:(done.length:Int)<(ws.length:Int):=by omega
    by_cases ha:c=97
    .subst ha;have d3:((((97:UInt8).toNat:Nat):Int)==97)=true:=rfl;simp only[hsz,hlt,hxb,d2,hw0,hwl,sm,tq,lN,go_sem,simprocAttr];simp only[hrm,go_sem,simprocAttr];simp only[hwl,hw0,go_sem,simprocAttr];refine ae (Hi (bs w)) rfl ?_;have t2:List.take (n.length+1) (n.map (λx=>PV.str (bs x))++[.str (bs w)])=n.map (λx=>PV.str (bs x))++[.str (bs w)]:=eD (by simp);have fz2:∀k h,aV (cm k h) (n.map pp++[.p (.str (bs w))])=some (n.map (λx=>PV.str (bs x))++[.str (bs w)]):=λk h=>by
      have:=oP k h (n++[w]);simpa[pp]using this
     have hst:ef ws (97::r) done.length n m=if nameOk (bs w)=true then ef ws r (done.length+1) (n++[w]) m else(n++[w],m,false):=by
      rw[ef,if_neg (by decide),hw0];dsimp only;rw[if_pos rfl]
     rw[hst]at e2;cases hnm:nameOk (bs w)
     .simp only[fz2,t2,aB,bn,go_sem,simprocAttr];rw[hnm,if_neg (by simp)]at e2;rw[e2];refine .inl ?_;simp[F6,Said.pv,bp,aI]
     .simp only[go_sem,simprocAttr];refine bh (done++[97],r,n++[w],m) ⟨by rw[e1];simp,?_,?_,?_⟩ (j4 _) (by simp only[sm,tq,lN,aB,bn,cj,pp,go_sem,simprocAttr]) ?_
      .rw[hnm,if_pos rfl]at e2;rw[e2,aB,bn]
      .simp;omega
      .simp;omega
      simp only[hnx,go_sem,simprocAttr]
    .have d3:(((c.toNat:Nat):Int)==97)=false:=by
      rw[beq_eq_false_iff_ne];intro e;exact ha (UInt8.toNat_inj.1 (by show c.toNat=97;omega))
     simp only[hsz,hlt,hxb,d1,d2,d3,hw0,hwl,sm,tq,lN,go_sem,simprocAttr];refine ax (L1 w) rfl ?_;simp only[hrm2,hw0,hwl,go_sem,simprocAttr];refine ae (L1 w) rfl ?_;have hst:ef ws (c::r) done.length n m=if dO w<0 then(n,m++[dO w],false) else ef ws r (done.length+1) n (m++[dO w]):=by
      rw[ef,if_neg hc,hw0];dsimp only;rw[if_neg ha]
     rw[hst]at e2;have t3:List.take (m.length+1) (m.map (PV.int .i64)++[.int .i64 (dO w)])=m.map (PV.int .i64)++[.int .i64 (dO w)]:=eD (by simp);have fz3:∀k h,aV (cm k h) (m.map (λx=>AV.p (PV.int .i64 x))++[.p (.int .i64 (dO w))])=some (m.map (PV.int .i64)++[.int .i64 (dO w)]):=λk h=>by
      have:=dD (eJ k h) (PV.int .i64) (m++[dO w]);simpa using this
     by_cases hq:dO w<0
     .have b2:decide (dO w<0)=true:=decide_eq_true hq;rw[if_pos hq]at e2;simp only[b2,oP,t1,fz3,t3,aB,bn,go_sem,simprocAttr];rw[e2];refine .inl ?_;simp[F6,Said.pv,bp,aI]
     .have b2:decide (dO w<0)=false:=decide_eq_false hq;rw[if_neg hq]at e2;simp only[b2,go_sem,simprocAttr];refine bh (done++[c],r,n,m++[dO w]) ⟨by rw[e1];simp,?_,?_,?_⟩ (j4 _) (by simp only[sm,tq,lN,aB,bn,cj,go_sem,simprocAttr]) ?_
      .rw[e2,aB,bn]
      .simp;omega
      .simp;omega
      simp only[hnx,go_sem,simprocAttr]
def gm:List (List UInt8×List UInt8):=[(qU,[97,97,110,114]),(lV,[97,97,97,110]),(oK,[97]),(gO,[97]),(oI,[97]),(jg,[]),(jS,[97]),(sA,[97,110]),(oJ,[]),(p7,[97,110,110,110,110]),(mQ,[110,110,110]),(mP,[])]
theorem VZ:af Tryz.prog 38 [] (.tuple [bp (gm.map (·.1)),bp (gm.map (·.2))]):=by
 refine af.lessD (q:=.tuple [.slice 1 ((gm.map (·.1)).map λx=>.str (bs x)) true,.slice 1 ((gm.map (·.2)).map λx=>.str (bs x)) true]) ?_ (PL.tupleL ⟨PL.sliceL rfl (dv _),PL.sliceL rfl (dv _),trivial⟩);refine aa (ah Tryz.func38 rfl (by kernel_rfl)) rfl ?_;simp only[go_sem,simprocAttr];exact⟨rfl,rfl⟩
def jq (w:List UInt8) (r:List (List UInt8)):List (List UInt8×List UInt8)->Said×Int
 |[]=>(kh,6)
 |(v,f)::t=>if v=w/\v≠jg/\(ef r f 0 [] []).2.2=true then(⟨v,(ef r f 0 [] []).1,(ef r f 0 [] []).2.1,[]⟩,0) else jq w r t
theorem MN{l}(h:l.take 5=gN):aK 10 l=(jg,some (l.drop 5)):=by
 have:l=gN++l.drop 5:=by rw[<-h,lr]
 generalize l.drop 5=r at this;subst this;rfl
theorem Sp{l}(h:¬l.take 5=gN):Lib.indexByte l 10<0\/(0<=Lib.indexByte l 10/\Lib.indexByte l 10<=(l.length:Int)/\l.take (Lib.indexByte l 10).toNat≠jg):=by
 rcases kl 10 l with⟨h1,h2,h3⟩|⟨r,h1,h2,h3⟩
 .left;omega
 .right;have hl:=congrArg List.length h3;rw[aB]at hl;refine⟨by omega,by omega,λhe=>h ?_⟩;have hp:l.take (aK 10 l).1.length=(aK 10 l).1:=by
   have:=congrArg (List.take (aK 10 l).1.length) h3;rw[gk]at this
   .exact this
   .rfl
  rw[h2,g7,hp]at he;rw[he]at h3;rw[h3];rfl
def ve (l:List UInt8):Said×Int:=
 if 400<l.length then(kh,3) else if l.take 5=gN then(⟨jg,[],[],l.drop 5⟩,0) else match aP 32 l with|[]=>(kh,6)|w::r=>jq w r gm
set_option maxHeartbeats 4000000 in
theorem XY(l):af Tryz.prog 12 [.str (bs l)] (.tuple [(ve l).1.pv,.int .i64 (ve l).2]):=by
 have hz:PL (.agg [.str ⟨#[]⟩,.nilslice,.nilslice,.str ⟨#[]⟩]) kh.pv:=PL.aggL rfl ⟨.refl _,.nil _,.nil _,.refl _,trivial⟩;have hsz:((bs l).size:Int)=(l.length:Int):=by rw[ao]
 by_cases h1:400<l.length
 .have b1:decide ((400:Int)<(l.length:Int))=true:=decide_eq_true (by omega);have hr:ve l=(kh,3):=if_pos h1;rw[hr];refine af.lessD (q:=.tuple [.agg [.str ⟨#[]⟩,.nilslice,.nilslice,.str ⟨#[]⟩],.int .i64 3]) ?_ (PL.tupleL ⟨hz,.refl _,trivial⟩);refine dj (eg (by kernel_rfl) rfl PW) rfl ?_;simp only[hsz,b1,go_sem,simprocAttr]
 have b1:decide ((400:Int)<(l.length:Int))=false:=decide_eq_false (by omega);by_cases h2:l.take 5=gN
 .have hcut:=MN h2;have hr:ve l=(⟨jg,[],[],l.drop 5⟩,0):=by rw[ve,if_neg h1,if_pos h2]
  rw[hr];refine af.lessD (q:=.tuple [.agg [.str (bs jg),.nilslice,.nilslice,.str (bs (l.drop 5))],.int .i64 0]) ?_ (PL.tupleL ⟨PL.aggL rfl ⟨.refl _,.nil _,.nil _,.refl _,trivial⟩,.refl _,trivial⟩);refine dj (eg (by kernel_rfl) rfl PW) rfl ?_;simp only[hsz,b1,go_sem,simprocAttr];refine ae (R0 l (by omega)) rfl ?_;have hix:Lib.indexByte l 10=4:=by
   rcases kl 10 l with⟨g1,g2,g3⟩|⟨r,g1,g2,g3⟩
   .rw[hcut]at g1;cases g1
   .rw[g2,hcut];rfl
  have hlen:5<=l.length:=by
   have:=congrArg List.length h2;rw[s5]at this;have h5:gN.length=5:=rfl;omega
  have hle:(4:Int)<=((bs l).size:Int):=by rw[ao];omega
  have hle5:(5:Int)<=((bs l).size:Int):=by rw[ao];omega
  have e4:(bs l).extract 0 4=bs jg:=by
   rw[cY,mE]
   congr 1
   have:l.take 4=(l.take 5).take 4:=by rw[List.take_take];rfl
   rw[this,h2];rfl
  have e5:(bs l).extract 5 (bs l).size=bs (l.drop 5):=by
   rw[cY,ao,qN]
  have c4:(⟨#[116,101,115,116]⟩:ByteArray)=bs jg:=rfl;have b4:(bs jg==bs jg)=true:=(gv _ _).2 rfl;have w5:IntKind.i64.wrap 5=5:=rfl;rw[hix];simp only[hle,hle5,e4,e5,c4,b4,w5,go_sem,simprocAttr]
 .obtain⟨w,r,hwr⟩:=yW 32 l;have hr:ve l=jq w r gm:=by rw[ve,if_neg h1,if_neg h2,hwr]
  have hwl:∀x,x∈w::r->x.length<=400:=λx hx=>by
   have:=wQ 32 l x (by rw[hwr];exact hx);omega
  have hrl:r.length<=400:=by
   have:=qk 32 l;rw[hwr,cu]at this;omega
  have hsp:=Oh l 32 (by omega);rw[hwr,bE]at hsp;have c4:(⟨#[116,101,115,116]⟩:ByteArray)=bs jg:=rfl;have hlss:wB (.tuple [.agg [.str ⟨#[]⟩,.nilslice,.nilslice,.str ⟨#[]⟩],.int .i64 6]) (.tuple [kh.pv,.int .i64 6]):=λM x u h=>(PL.tupleL (a:=[.agg [.str ⟨#[]⟩,.nilslice,.nilslice,.str ⟨#[]⟩],.int .i64 6]) (b:=[kh.pv,.int .i64 6]) ⟨hz,.refl _,trivial⟩).rep h;rw[hr];refine su bI (fn:=Tryz.f12) (n:=74) (rs:=[.cell 2 59,.tmp 3]) (by kernel_rfl) rfl rfl rfl PW (r7 rfl) ?_;simp only[hsz,b1,go_sem,simprocAttr];refine ae (R0 l (by omega)) rfl ?_;rcases Sp h2 with g|⟨g0,g1,g2⟩
  case' inl=>
   have b2:decide (0<=Lib.indexByte l 10)=false:=decide_eq_false (by omega);simp only[b2,go_sem,simprocAttr]
  case' inr=>
   obtain⟨m,hm⟩:=nx g0;rw[hm]at g1 g2 |-;have b2:decide (0<=((m:Nat):Int))=true:=decide_eq_true (by omega);have hle:((m:Nat):Int)<=((bs l).size:Int):=by rw[ao];exact g1
   have e4:(bs l).extract 0 m=bs (l.take m):=by rw[cY,mE]
   have b4:(bs (l.take m)==bs jg)=false:=by rw[cc];simpa using g2
   simp only[hle,e4,c4,b4,go_sem,simprocAttr]
  all_goals
   refine ae hsp rfl ?_;simp only[go_sem,simprocAttr];refine ae VZ rfl ?_;simp only[bp,go_sem,simprocAttr];refine aQ [2,5,6,7] gm (by decide) (τ:=Unit) (λdone rest _=>jq w r gm=jq w r rest) (λdone _=>[(8,.p (.int .i64 done.length))]) (λ_ _=>[.row 4 [lN]]) () rfl ?_ ?_ ?_
   .simp only[lN,cw,go_sem,simprocAttr]
   .intro _ e2;have hlt:¬((gm.length:Int)<(gm.length:Int)):=by omega
    simp only[lN,hlt,decide_false,go_sem,simprocAttr];rw[e2];exact hlss
   .rintro done ⟨v,f⟩ t _ e1 e2 hx hlt hnx
    have h0:(0:Int)<((r.length+1:Nat):Int):=by omega
    have h1':(1:Int)<=((r.length+1:Nat):Int):=by omega
    rw[jq]at e2;by_cases hv:v=w;rotate_left
    .have b5:(bs v==bs w)=false:=by rw[cc];simpa using hv
     rw[if_neg (λh=>hv h.1)]at e2;simp only[lN,hlt,decide_true,hx,h0,Kw,aL,b5,go_sem,simprocAttr];refine ak e1 () (by exact e2) ?_;simp only[hnx,lN,go_sem,simprocAttr]
    .subst hv;have b5:(bs v==bs v)=true:=(gv _ _).2 rfl;by_cases hk:v=jg
     .have b6:(bs v==bs jg)=true:=by rw[cc];simpa using hk
      rw[if_neg (λh=>h.2.1 hk)]at e2;simp only[lN,hlt,decide_true,hx,h0,Kw,aL,b5,c4,b6,go_sem,simprocAttr];refine ak e1 () (by exact e2) ?_;simp only[hnx,lN,go_sem,simprocAttr]
     .have b6:(bs v==bs jg)=false:=by rw[cc];simpa using hk
      simp only[lN,hlt,decide_true,hx,h0,h1',Kw,aL,b5,c4,b6,go_sem,simprocAttr];have hf5:f.length<=5:=by
       have:∀p,p∈gm->p.2.length<=5:=by decide
       exact this (v,f) (by rw[e1];simp)
      refine ax (TJ v r f (by omega) (by omega) (λx hx=>by have:=hwl x (by simp[hx]);omega)) rfl ?_;cases hq:(ef r f 0 [] []).2.2
      .rw[if_neg (λh=>by rw[hq]at h;exact absurd h.2.2 (by simp))]at e2;simp only[Kw,F6,hq,Said.pv,go_sem,simprocAttr];refine ak e1 () (by exact e2) ?_;simp only[hnx,lN,go_sem,simprocAttr]
      .rw[if_pos ⟨rfl,hk,hq⟩]at e2;rw[e2];simp only[Kw,F6,hq,Said.pv,go_sem,simprocAttr];exact wB.rfl'
def d5:List UInt8->List (List UInt8)->Option (List (List UInt8)×List Int)
 |[],[]=>some ([],[])
 |[],_::_=>none
 |c::f,ws=>
  if c=114 then(cI ws).map λl=>([],l)
  else match ws with
   |[]=>none
   |w::r=>
    if c=97 then(match aW w with|none=>none|some x=>(d5 f r).map λq=>(x::q.1,q.2))
    else(match bF w with|none=>none|some x=>(d5 f r).map λq=>(q.1,x::q.2))
theorem DE{w}{v}(h:bF w=some v):dO w=v/\¬v<0:=by
 unfold dO;rw[h];unfold bF at h;split at h
 .split at h
  .rename_i h1;cases h;exact⟨rfl,by omega⟩
  .cases h
 .cases h
theorem xg{w}(h:bF w=none):dO w=-1:=by
 unfold dO;rw[h]
theorem xc:∀(ws) (m),(fV ws m).2=(cI ws).isSome/\∀l,cI ws=some l->(fV ws m).1=m++l
 |[],m=>⟨rfl,λl h=>by cases h;simp[fV]⟩
 |w::r,m=>by
  by_cases hk:w=kX
  .have hn:dO w=-1:=xg (by rw[hk];decide);obtain⟨h1,h2⟩:=xc r (m++[dO w]);have e1:fV (w::r) m=fV r (m++[dO w]):=by rw[fV,if_neg (λh=>h.1 hk)]
   have e2:cI (w::r)=(cI r).map (-1::·):=by rw[cI,if_pos hk]
   rw[e1,e2];refine⟨by rw[h1];simp,λl h=>?_⟩;obtain⟨l',h3,rfl⟩:=cg.1 h;rw[h2 l' h3,hn];simp
  .cases hc:bF w with
   |none=>
    have hn:=xg hc;have e1:fV (w::r) m=(m,false):=by rw[fV,if_pos ⟨hk,by omega⟩]
    have e2:cI (w::r)=none:=by rw[cI,if_neg hk,hc]
    rw[e1,e2]
    exact⟨rfl,λl h=>by cases h⟩
   |some v=>
    obtain⟨hn,hv⟩:=DE hc;obtain⟨h1,h2⟩:=xc r (m++[dO w]);have e1:fV (w::r) m=fV r (m++[dO w]):=by rw[fV,if_neg (λh=>by rw[hn]at h;exact hv h.2)]
    have e2:cI (w::r)=(cI r).map (v::·):=by rw[cI,if_neg hk,hc]
    rw[e1,e2];refine⟨by rw[h1];simp,λl h=>?_⟩;obtain⟨l',h3,rfl⟩:=cg.1 h;rw[h2 l' h3,hn];simp
theorem Cm(ws):∀(f) (i) (n) (m),i<=ws.length->(ef ws f i n m).2.2=(d5 f (ws.drop i)).isSome/\∀q,d5 f (ws.drop i)=some q->(ef ws f i n m).1=n++q.1/\(ef ws f i n m).2.1=m++q.2
 |[],i,n,m,hi=>by
  cases hd:ws.drop i with
  |nil=>
   have:=congrArg List.length hd;rw[List.length_drop,cw]at this;refine⟨?_,λq h=>by cases h;simp[ef]⟩;simp[ef,d5]
   omega
  |cons w r=>
   have:=congrArg List.length hd;rw[List.length_drop,cu]at this;refine⟨?_,λq h=>by cases h⟩;simp[ef,d5]
   omega
 |c::f,i,n,m,hi=>by
  by_cases hc:c=114
  .obtain⟨h1,h2⟩:=xc (ws.drop i) m;have e1:ef ws (c::f) i n m=(n,(fV (ws.drop i) m).1,(fV (ws.drop i) m).2&&decide (i<=ws.length)):=by rw[ef,if_pos hc]
   have e2:d5 (c::f) (ws.drop i)=(cI (ws.drop i)).map λl=>([],l):=by
    cases hd:ws.drop i<;>rw[d5,if_pos hc]
   rw[e1,e2];refine⟨by rw[h1];simp[hi],λq h=>?_⟩;obtain⟨l',h3,rfl⟩:=cg.1 h;exact⟨by simp,h2 l' h3⟩
  .cases hd:ws.drop i with
   |nil=>
    have:=congrArg List.length hd;rw[List.length_drop,cw]at this;have e1:ef ws (c::f) i n m=(n,m,false):=by rw[ef,if_neg hc,na (by omega)]
    have e2:d5 (c::f) []=none:=by rw[d5,if_neg hc]
    rw[e1,e2]
    exact⟨rfl,λq h=>by cases h⟩
   |cons w r=>
    have hw:ws[i]?=some w:=by
     have:(ws.drop i)[0]?=some w:=by rw[hd];rfl
     rwa [nb]at this
    have hr:ws.drop (i+1)=r:=by rw[<-wE,hd];rfl
    have hil:i+1<=ws.length:=(aF.1 hw).1;by_cases ha:c=97
    .cases hn:nameOk (bs w) with
     |false=>
      have e1:ef ws (c::f) i n m=(n++[w],m,false):=by rw[ef,if_neg hc,hw];(try dsimp only);rw[if_pos ha,hn,if_neg (by simp)]
      have hnc:aW w=none:=by rw[aW,hn,if_neg (by simp)]
      have e2:d5 (c::f) (w::r)=none:=by rw[d5,if_neg hc];(try dsimp only);rw[if_pos ha,hnc]
      rw[e1,e2]
      exact⟨rfl,λq h=>by cases h⟩
     |true=>
      have e1:ef ws (c::f) i n m=ef ws f (i+1) (n++[w]) m:=by rw[ef,if_neg hc,hw];(try dsimp only);rw[if_pos ha,hn,if_pos rfl]
      have hnc:aW w=some w:=by rw[aW,hn,if_pos rfl]
      have e2:d5 (c::f) (w::r)=(d5 f r).map λq=>(w::q.1,q.2):=by rw[d5,if_neg hc];(try dsimp only);rw[if_pos ha,hnc]
      obtain⟨h1,h2⟩:=Cm ws f (i+1) (n++[w]) m hil;rw[hr]at h1 h2;rw[e1,e2];refine⟨by rw[h1];simp,λq h=>?_⟩;obtain⟨q',h3,rfl⟩:=cg.1 h;obtain⟨h4,h5⟩:=h2 q' h3;exact⟨by rw[h4];simp,h5⟩
    .cases hn:bF w with
     |none=>
      have hv:=xg hn;have e1:ef ws (c::f) i n m=(n,m++[dO w],false):=by rw[ef,if_neg hc,hw];(try dsimp only);rw[if_neg ha,if_pos (by omega)]
      have e2:d5 (c::f) (w::r)=none:=by rw[d5,if_neg hc];(try dsimp only);rw[if_neg ha,hn]
      rw[e1,e2]
      exact⟨rfl,λq h=>by cases h⟩
     |some v=>
      obtain⟨hv,hv0⟩:=DE hn;have e1:ef ws (c::f) i n m=ef ws f (i+1) n (m++[dO w]):=by rw[ef,if_neg hc,hw];(try dsimp only);rw[if_neg ha,if_neg (by omega)]
      have e2:d5 (c::f) (w::r)=(d5 f r).map λq=>(q.1,v::q.2):=by rw[d5,if_neg hc];(try dsimp only);rw[if_neg ha,hn]
      obtain⟨h1,h2⟩:=Cm ws f (i+1) n (m++[dO w]) hil;rw[hr]at h1 h2;rw[e1,e2];refine⟨by rw[h1];simp,λq h=>?_⟩;obtain⟨q',h3,rfl⟩:=cg.1 h;obtain⟨h4,h5⟩:=h2 q' h3;exact⟨h4,by rw[h5,hv];simp⟩
theorem K7(w v)(f)(r)(t)(hv:v≠jg):jq w r ((v,f)::t)=if v=w then(match d5 f r with|some q=>(⟨v,q.1,q.2,[]⟩,0)|none=>jq w r t) else jq w r t:=by
 obtain⟨h1,h2⟩:=Cm r f 0 [] [] (dY _);rw[mE]at h1 h2;rw[jq];by_cases hw:v=w
 .rw[if_pos hw]
  cases hq:d5 f r with
  |none=>
   rw[hq]at h1
   rw[if_neg (λh=>by rw[h1]at h;exact absurd h.2.2 (by simp))]
  |some q=>
   rw[hq]at h1;obtain⟨h3,h4⟩:=h2 q hq;rw[if_pos ⟨hw,hv,h1⟩,h3,h4];rfl
 .rw[if_neg hw,if_neg (λh=>hw h.1)]
def fy (w:List UInt8):Option (List (List UInt8)×List Int)->Said×Int
 |some q=>(⟨w,q.1,q.2,[]⟩,0)
 |none=>(kh,6)
theorem FY(w)(r)(hw:w≠jg):∀t,w∉t.map (·.1)->jq w r t=(kh,6)
 |[],_=>rfl
 |(v,f)::t,h=>by
  rw[bL,ci,not_or]at h;rw[jq,if_neg (λe=>h.1 e.1.symm)];exact FY w r hw t h.2
theorem AO(w)(r)(hw:w≠jg):∀t,(t.map (·.1)).Nodup->jq w r t=fy w ((t.lookup w).bind λf=>d5 f r)
 |[],_=>rfl
 |(v,f)::t,h=>by
  rw[bL,EZ]at h;by_cases hv:v=w
  .subst hv;rw[K7 _ _ _ _ _ hw,if_pos rfl,List.lookup_cons_self]
   cases hq:d5 f r with
   |none=>
    rw[gp,hq]
    exact FY v r hw t h.1
   |some q=>simp[fy,hq]
  .have hb:(w==v)=false:=by simpa using λe=>hv e.symm
   rw[List.lookup_cons,hb,<-AO w r hw t h.2,jq,if_neg (λe=>hv e.1)]
theorem Dq(r):∀t,jq jg r t=(kh,6)
 |[]=>rfl
 |(v,f)::t=>by
  rw[jq,if_neg (λe=>e.2.1 e.1)];exact Dq r t
theorem JK(w):∀t:List (List UInt8×List UInt8),w∉t.map (·.1)->t.lookup w=none
 |[],_=>rfl
 |(v,f)::t,h=>by
  rw[bL,ci,not_or]at h;have hb:(w==v)=false:=by simpa using h.1
  rw[List.lookup_cons,hb];exact JK w t h.2
def fN:Option Cmd->Said×Int
 |some c=>(cZ c,0)
 |none=>(kh,6)
theorem MO:(gm.map (·.1)).Nodup:=by decide
theorem PF(w)(r):jq w r gm=fN (cW w r):=by
 by_cases ht:w=jg
 .subst ht;rw[Dq];rfl
 rw[AO w r ht gm MO];by_cases h0:w=qU
 .subst h0;rw[show gm.lookup qU=some [97,97,110,114] from rfl];unfold cW;rw[if_pos rfl,gp]
  match r with
  |[]=>rfl
  |[n]=>cases h1:aW n<;>simp[d5,fy,fN,h1]
  |[n,k]=>cases h1:aW n<;>cases h2:aW k<;>simp[d5,fy,fN,h1,h2]
  |n::k::g::rs=>cases h1:aW n<;>cases h2:aW k<;>cases h3:bF g<;>cases h4:cI rs<;>simp[d5,fy,fN,cZ,h1,h2,h3,h4]
 by_cases h1:w=lV
 .subst h1;rw[show gm.lookup lV=some [97,97,97,110] from rfl];unfold cW;rw[if_neg (by decide),if_pos rfl,gp]
  match r with
  |[]=>rfl
  |[n]=>cases h1:aW n<;>simp[d5,fy,fN,h1]
  |[n,k]=>cases h1:aW n<;>cases h2:aW k<;>simp[d5,fy,fN,h1,h2]
  |[n,k,l]=>cases h1:aW n<;>cases h2:aW k<;>cases h3:aW l<;>simp[d5,fy,fN,h1,h2,h3]
  |[n,k,l,g]=>cases h1:aW n<;>cases h2:aW k<;>cases h3:aW l<;>cases h4:bF g<;>simp[d5,fy,fN,cZ,h1,h2,h3,h4]
  |n::k::l::g::x::rs=>cases h1:aW n<;>cases h2:aW k<;>cases h3:aW l<;>cases h4:bF g<;>simp[d5,fy,fN,h1,h2,h3,h4]
 by_cases h2:w=oK
 .subst h2;rw[show gm.lookup oK=some [97] from rfl];unfold cW;rw[if_neg (by decide),if_neg (by decide),if_pos rfl,gp]
  match r with
  |[]=>rfl
  |[n]=>cases h1:aW n<;>simp[d5,fy,fN,cZ,h1]
  |n::k::t=>cases h1:aW n<;>simp[d5,fy,fN,h1]
 by_cases h3:w=gO
 .subst h3;rw[show gm.lookup gO=some [97] from rfl];unfold cW;rw[if_neg (by decide),if_neg (by decide),if_neg (by decide),if_pos rfl,gp]
  match r with
  |[]=>rfl
  |[n]=>cases h1:aW n<;>simp[d5,fy,fN,cZ,h1]
  |n::k::t=>cases h1:aW n<;>simp[d5,fy,fN,h1]
 by_cases h4:w=oI
 .subst h4;rw[show gm.lookup oI=some [97] from rfl];unfold cW;rw[if_neg (by decide),if_neg (by decide),if_neg (by decide),if_neg (by decide),if_pos rfl,gp]
  match r with
  |[]=>rfl
  |[n]=>cases h1:aW n<;>simp[d5,fy,fN,cZ,h1]
  |n::k::t=>cases h1:aW n<;>simp[d5,fy,fN,h1]
 by_cases h5:w=jS
 .subst h5;rw[show gm.lookup jS=some [97] from rfl];unfold cW;rw[if_neg (by decide),if_neg (by decide),if_neg (by decide),if_neg (by decide),if_neg (by decide),if_pos rfl,gp]
  match r with
  |[]=>rfl
  |[n]=>cases h1:aW n<;>simp[d5,fy,fN,cZ,h1]
  |n::k::t=>cases h1:aW n<;>simp[d5,fy,fN,h1]
 by_cases h6:w=sA
 .subst h6;rw[show gm.lookup sA=some [97,110] from rfl];unfold cW;rw[if_neg (by decide),if_neg (by decide),if_neg (by decide),if_neg (by decide),if_neg (by decide),if_neg (by decide),if_pos rfl,gp]
  match r with
  |[]=>rfl
  |[n]=>cases h1:aW n<;>simp[d5,fy,fN,h1]
  |[n,g]=>cases h1:aW n<;>cases h2:bF g<;>simp[d5,fy,fN,cZ,h1,h2]
  |n::g::x::t=>cases h1:aW n<;>cases h2:bF g<;>simp[d5,fy,fN,h1,h2]
 by_cases h7:w=oJ
 .subst h7;rw[show gm.lookup oJ=some [] from rfl];unfold cW;rw[if_neg (by decide),if_neg (by decide),if_neg (by decide),if_neg (by decide),if_neg (by decide),if_neg (by decide),if_neg (by decide),if_pos rfl,gp]
  match r with
  |[]=>rfl
  |n::t=>rfl
 by_cases h8:w=p7
 .subst h8;rw[show gm.lookup p7=some [97,110,110,110,110] from rfl];unfold cW;rw[if_neg (by decide),if_neg (by decide),if_neg (by decide),if_neg (by decide),if_neg (by decide),if_neg (by decide),if_neg (by decide),if_neg (by decide),if_pos rfl,gp]
  match r with
  |[]=>rfl
  |[n]=>cases h1:aW n<;>simp[d5,fy,fN,h1]
  |[n,a]=>cases h1:aW n<;>cases h2:bF a<;>simp[d5,fy,fN,h1,h2]
  |[n,a,b]=>cases h1:aW n<;>cases h2:bF a<;>cases h3:bF b<;>simp[d5,fy,fN,h1,h2,h3]
  |[n,a,b,c]=>cases h1:aW n<;>cases h2:bF a<;>cases h3:bF b<;>cases h4:bF c<;>simp[d5,fy,fN,h1,h2,h3,h4]
  |[n,a,b,c,d]=>cases h1:aW n<;>cases h2:bF a<;>cases h3:bF b<;>cases h4:bF c<;>cases h5:bF d<;>simp[d5,fy,fN,cZ,h1,h2,h3,h4,h5]
  |n::a::b::c::d::x::t=>cases h1:aW n<;>cases h2:bF a<;>cases h3:bF b<;>cases h4:bF c<;>cases h5:bF d<;>simp[d5,fy,fN,h1,h2,h3,h4,h5]
 by_cases h9:w=mQ
 .subst h9;rw[show gm.lookup mQ=some [110,110,110] from rfl];unfold cW;rw[if_neg (by decide),if_neg (by decide),if_neg (by decide),if_neg (by decide),if_neg (by decide),if_neg (by decide),if_neg (by decide),if_neg (by decide),if_neg (by decide),if_pos rfl,gp]
  match r with
  |[]=>rfl
  |[a]=>cases h1:bF a<;>simp[d5,fy,fN,h1]
  |[a,b]=>cases h1:bF a<;>cases h2:bF b<;>simp[d5,fy,fN,h1,h2]
  |[a,b,c]=>cases h1:bF a<;>cases h2:bF b<;>cases h3:bF c<;>simp[d5,fy,fN,cZ,h1,h2,h3]
  |a::b::c::x::t=>cases h1:bF a<;>cases h2:bF b<;>cases h3:bF c<;>simp[d5,fy,fN,h1,h2,h3]
 by_cases h10:w=mP
 .subst h10;rw[show gm.lookup mP=some [] from rfl];unfold cW;rw[if_neg (by decide),if_neg (by decide),if_neg (by decide),if_neg (by decide),if_neg (by decide),if_neg (by decide),if_neg (by decide),if_neg (by decide),if_neg (by decide),if_neg (by decide),if_pos rfl,gp]
  match r with
  |[]=>rfl
  |n::t=>rfl
 have hl:gm.lookup w=none:=JK w gm (by simp[gm,h0,h1,h2,h3,h4,h5,h6,h7,h8,h9,h10,ht]);rw[hl];unfold cW;rw[if_neg h0,if_neg h1,if_neg h2,if_neg h3,if_neg h4,if_neg h5,if_neg h6,if_neg h7,if_neg h8,if_neg h9,if_neg h10];rfl
theorem Sy(l):ve l=wX l:=by
 unfold ve wX du;split
 .rfl
 split
 .rfl
 cases hs:aP 32 l with
 |nil=>rfl
 |cons w r=>
  simp only;rw[PF];cases cW w r<;>rfl
theorem Fj(l):af Tryz.prog 12 [.str (bs l)] (.tuple [(wX l).1.pv,.int .i64 (wX l).2]):=by
 rw[<-Sy];exact XY l
end Ch
variable {P:Program} {H:Hints}
def Kt (q v:PV):Prop:=∀(M:Nat->Prop) (w:World) (u:Value),RepP M w u q->RepP M w u v
theorem SU{q:PV}:Kt q q:=λ_ _ _ h=>h
theorem ND{n:Nat}{l:List PV}{b:Bool}:Kt (.slice n l b) (.slice n l false):=λ_ _ _ h=>by
 cases h with
 |slice f h1 h2 h3 h4 h5 h6 h7=>exact .slice f h1 h2 (λh=>by cases h) h4 h5 h6 h7
 |empty h1=>exact .empty (by simp)
theorem Po{A:AAct}{T:Nat->AV}(K:Nat->Bool)(hT:∀t,T t=A.tmps t\/T t=.undef\/∃q v,T t=.p v/\zg (eU (λi=>!K i) A.h) (A.tmps t)=some q/\Kt q v) :
  f7 P A { A with tmps:=T,h:=eU K A.h }:=
 ⟨rfl,rfl,λM0 S0 b cs0 m a w hr=>by
  have hr2:=hr.ahead (m':=gM K m) (h':=eU K A.h) (w':=w) (CF ⟨m,A.h,w⟩ K _) (z7 hr.hok K);refine⟨gM K m,hr2.size,λt=>?_,hr2.hok,hr2.ev,hr2.le,?_,hr2.rc⟩
  .show Rep M0 ⟨gM K m,eU K A.h,w⟩ (a.tmps.getD t undef) (T t);rcases hT t with h|h|⟨q,v,h,hq,hle⟩
   .rw[h];exact hr2.tmps t
   .rw[h];exact trivial
   .rw[h];exact hle _ _ _ (Aa (S:=⟨m,A.h,w⟩) hr.hok K (hr.tmps t) hq)
  .exact hr2.df⟩
theorem DM{A:AAct}(f:AV->Option PV)(live:List Nat)(t:Nat):∀l:List (Nat×PV),(∀p,p∈l->∃q,f (A.tmps p.1)=some q/\Kt q p.2) ->
  cX ((l.map λp=>(p.1,AV.p p.2))++bY A.tmps live []) t=A.tmps t\/cX ((l.map λp=>(p.1,AV.p p.2))++bY A.tmps live []) t=.undef\/∃q v,cX ((l.map λp=>(p.1,AV.p p.2))++bY A.tmps live []) t=.p v/\f (A.tmps t)=some q/\Kt q v
 |[],_=>by
  rcases xv (T:=A.tmps) live t with⟨h1,_⟩|h1
  .exact .inl h1
  .exact .inr (.inl h1)
 |p::l,hl=>by
  rw[bL,eu,rD];by_cases ht:t=p.1
  .rw[if_pos ht];subst ht;obtain⟨q,h1,h2⟩:=hl p (by simp);exact .inr (.inr ⟨q,p.2,rfl,h1,h2⟩)
  .rw[if_neg ht];exact DM f live t l λq hq=>hl q (by simp[hq])
theorem WL{c:Code}{Q:Ex->AAct->Prop}{A:AAct}(K:Nat->Bool)(live:List Nat)(l:List (Nat×PV))(h':Heap)(hh:eU K A.h=h')(hd:A.df=[])
  (hl:∀p,p∈l->∃q,zg (eU (λi=>!K i) A.h) (A.tmps p.1)=some q/\Kt q p.2) (k:SW P H c Q { n:=A.n,bs:=A.bs,rc:=A.rc,tmps:=cX ((l.map λp=>(p.1,AV.p p.2))++bY A.tmps live []),h:=h',df:=[] }):SW P H c Q A:=by
 subst hh;have hw:=Po (P:=P) (A:=A) (T:=cX ((l.map λp=>(p.1,AV.p p.2))++bY A.tmps live [])) K (λt=>DM _ live t l hl);refine UG hw ?_;rw[hd];exact k
theorem Yb{y:Code}{Q:Ex->AAct->Prop}{A:AAct}:@WQ ⟨ep (SW P H y Q) Q⟩ .normal A=SW P H y Q A:=rfl
attribute [go_sem] Yb
theorem Kr{x y}{Q}{A}(h:SW P H x (ep (SW P H y Q) Q) A):SW P H (.seq x y) Q A:=
 λM0 S0 b cs0 n m a w k hc hr hn=>by
  simp only[dh,cG]at hc;obtain⟨e,A1,m1,a1,w1,hq,hn1,hr1,harr⟩:=h M0 S0 b cs0 n m a w (.code y::k) hc.1 hr hn
  have pass:∀(e':Ex),e'≠.normal->Q e' A1->tJ P (Avoid M0 m1) (lone (b.atR a (.code x::.code y::k)) (bu A.rc cs0) w) b (.code y::k) (bu A1.rc cs0) a1 w1 e' ->
    pj P M0 S0 b cs0 n (lone (b.atR a (.code (.seq x y)::k)) (bu A.rc cs0) w) k Q:=
   λe' he hq harr=>⟨e',A1,m1,a1,w1,hq,hn1,hr1,.of_steps (.one stepR_seq) (.pass (x:=.code y) rfl he harr)⟩
  cases e with
  |normal=>exact(hq M0 S0 b cs0 n m1 a1 w1 k hc.2 hr1 hn1).of_steps (.head stepR_seq harr)
  |exit id=>exact pass (.exit id) (by simp) hq harr
  |ret=>exact pass .ret (by simp) hq harr
  |panic v=>exact pass (.panic v) (by simp) hq harr
theorem Ks{c}{x y}{Q}{A}(t)(ht:A.eval c=.p (.bool t))(h:SW P H (if t=true then x else y) Q A):SW P H (.cond c x y) Q A:=
 λM0 S0 b cs0 n m a w k hc hr hn=>by
  simp only[dh,cG]at hc;have hv:a.eval c=.bool t:=nJ (ht▸hr.eval c);have hs:=stepR_cond (P:=P) (b:=b) (a:=a) (k:=k) (cs:=bu A.rc cs0) (w:=w) (x:=x) (y:=y) hv
  cases t with
  |true=>exact(h M0 S0 b cs0 n m a w k hc.1 hr hn).of_steps (.one hs)
  |false=>exact(h M0 S0 b cs0 n m a w k hc.2 hr hn).of_steps (.one hs)
theorem HZ{id}{x}{Q}{A}(h:SW P H x (kp id Q) A):SW P H (.block id x) Q A:=
 λM0 S0 b cs0 n m a w k hc hr hn=>by
  obtain⟨e,A1,m1,a1,w1,hq,hn1,hr1,harr⟩:=h M0 S0 b cs0 n m a w (.inBlock id::k) hc hr hn
  cases e with
  |normal=>exact⟨.normal,A1,m1,a1,w1,hq,hn1,hr1,.head stepR_block (Steps.trans harr (.one stepR_inBlock))⟩
  |exit id'=>
   by_cases hid:id'=id
   .simp only[kp,hid,if_true]at hq;exact⟨.normal,A1,m1,a1,w1,hq,hn1,hr1,.head stepR_block (harr.1 k (by simp[exitTo,hid]))⟩
   .simp only[kp,hid,if_false]at hq;have this:(id==id')=false:=by simp;exact λh=>hid h.symm
    have hx:exitTo id' (.inBlock id::k)=exitTo id' k:=by simp[exitTo,this]
    exact⟨.exit id',A1,m1,a1,w1,hq,hn1,hr1,λk' hk=>.head stepR_block (harr.1 k' (by rw[hx];exact hk)),
     λhk=>let ⟨k₁,h1,h2⟩:=harr.2 (by rw[hx];exact hk);⟨k₁,h1,.head stepR_block h2⟩⟩
  |ret=>exact⟨.ret,A1,m1,a1,w1,hq,hn1,hr1,let ⟨k₁,h1⟩:=harr;⟨k₁,.head stepR_block h1⟩⟩
  |panic v=>exact⟨.panic v,A1,m1,a1,w1,hq,hn1,hr1,let ⟨v',t,h1,h2⟩:=harr;⟨v',t,h1,.head stepR_block h2⟩⟩
theorem UH{σ}{x}{Q}{A}(V:σ->Prop)(I)(μ)(s0)(hv:V s0)(h0:f7 P A (I s0))(hs:∀s,V s->SW P H x (ep (gu P V I μ s) Q) (I s)):SW P H (.loop x) Q A:=
 λM0 S0 b cs0 n m a w k hc hr hn=>by
  have key:∀(j:Nat) (s:σ),V s->μ s=j->∀(m:List (Option Nat)) (a:Act) (w:World),Rel P M0 S0 b cs0 m (I s) a w->(I s).n=n->pj P M0 S0 b cs0 n (lone (b.atR a (.code x::.inLoop x::k)) (bu (I s).rc cs0) w) k Q:=by
   intro j
   induction j using Nat.strongRecOn with
   |_ j ih=>
    intro s hVs hj m a w hr hn;obtain⟨e,A1,m1,a1,w1,hq,hn1,hr1,harr⟩:=hs s hVs M0 S0 b cs0 n m a w (.inLoop x::k) hc hr hn
    have pass:∀(e':Ex),e'≠.normal->Q e' A1->tJ P (Avoid M0 m1) (lone (b.atR a (.code x::.inLoop x::k)) (bu (I s).rc cs0) w) b (.inLoop x::k) (bu A1.rc cs0) a1 w1 e' ->
      pj P M0 S0 b cs0 n (lone (b.atR a (.code x::.inLoop x::k)) (bu (I s).rc cs0) w) k Q:=
     λe' he hq harr=>⟨e',A1,m1,a1,w1,hq,hn1,hr1,.pass (x:=.inLoop x) rfl he harr⟩
    cases e with
    |normal=>
     obtain⟨s',hV',hlt,hn2,hrc2,hw⟩:=hq;obtain⟨m2,hr2⟩:=hw M0 S0 b cs0 m1 a1 w1 hr1;have:=ih (μ s') (hj▸hlt) s' hV' rfl m2 a1 w1 hr2 (hn2.trans hn1);rw[hrc2]at this
     exact this.of_steps (Steps.trans harr (.one stepR_inLoop))
    |exit id=>exact pass (.exit id) (by simp) hq harr
    |ret=>exact pass .ret (by simp) hq harr
    |panic v=>exact pass (.panic v) (by simp) hq harr
  obtain⟨hn2,hrc2,hw⟩:=h0;obtain⟨m2,hr2⟩:=hw M0 S0 b cs0 m a w hr;have:=key _ s0 hv rfl m2 a w hr2 (hn2.trans hn);rw[hrc2]at this;exact this.of_steps (.one stepR_loop)
theorem O3{α τ}{x}{Q}{A}(live)(l)(hl:l.length<1000000000)(Inv:List α->List α->τ->Prop)(M)(hp)(t0)(hi:Inv [] l t0)
  (h0:mR A.bs A.df A.tmps A.h (bY A.tmps live (M [] t0)) (hp [] t0))
  (hnil:∀t,Inv l [] t->SW P H x (ep (gu P (pw l Inv) (λs=>fq A live (iv M s) (iv hp s)) (λs=>s.2.1.length) (l,[],t)) Q)
   {n:=A.n,bs:=A.bs,rc:=A.rc,tmps:=cX (bY A.tmps live (M l t)),h:=hp l t,df:=A.df })
  (hcons:∀done y r t,l=done++y::r->Inv done (y::r) t->l[done.length]?=some y->((done.length:Int)<(l.length:Int))->IntKind.i64.wrap ((done.length:Int)+1)=(((done++[y]).length:Nat):Int) ->
   SW P H x (ep (gu P (pw l Inv) (λs=>fq A live (iv M s) (iv hp s)) (λs=>s.2.1.length) (done,y::r,t)) Q)
    {n:=A.n,bs:=A.bs,rc:=A.rc,tmps:=cX (bY A.tmps live (M done t)),h:=hp done t,df:=A.df }):SW P H (.loop x) Q A:=by
 refine UH (pw l Inv) (λs=>fq A live (iv M s) (iv hp s)) (λs=>s.2.1.length) ([],l,t0) ⟨rfl,hi⟩ (rm rfl rfl rfl rfl h0) ?_
 rintro⟨done,rest,t⟩ ⟨e1,e2⟩
 dsimp only at e1 e2
 cases rest with
 |nil=>
  rw[bC]at e1;subst e1
  exact hnil t e2
 |cons y r=>
  have hle:done.length<l.length:=by rw[e1];simp
  refine hcons done y r t e1 e2 ?_ (by omega) ?_
  .subst e1;simp
  .rw[aj (by omega) (by omega)];simp
end Abs
end Go.Proofs.YtoapoaoelpcniaaGreatDoor
