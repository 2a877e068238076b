/-
  CONTRACTS: the reference's read, Say, Written of layer 13. No conditions but those in the 
  CONTRACTS: the reference's Say and Written of layer 13, in the words of the specification.
  LAWS: codes told by what they do, one behind the other; rows given up between them. No con
  CONTRACTS: the helpers of the laws of layer 13: valid, refused, verb, written; what a line
-/
import Derived.Test.YtfafnkpfamgbbaaGreatDoorAbsCutX
import Derived.Test.YtfafnkpfamgbbaaGreatDoorChLaw0X
import Derived.Test.YtfafnkpfamgbbaaGreatDoorChReadCX
import Derived.Test.YtfafnkpfamgbbaaGreatDoorChBkX
set_option linter.unusedSimpArgs false
set_option linter.unusedVariables false
open Go.Proofs.Tryz renaming prog->TP
namespace Go.Proofs.YtfafnkpfamgbbaaGreatDoor
namespace Abs
namespace Ch
set_option maxRecDepth 4000
structure Said where
 verb:List UInt8
 names:List (List UInt8)
 numbers:List Int
 text:List UInt8
def Said.pv (x:Said):PV:=.agg [.str (bs x.verb),bt x.names,.slice 1 (x.numbers.map aK) false,.str (bs x.text)]
def gX:List UInt8:=[116,101,115,116]
def kw:Cmd->Said
 |.lot n k g rs=>⟨oE,[n,k],g::rs,[]⟩
 |.batch n c l g=>⟨jU,[n,c,l],[g],[]⟩
 |.drop n=>⟨lN,[n],[],[]⟩
 |.plan c=>⟨pc,[c],[],[]⟩
 |.pour c=>⟨lM,[c],[],[]⟩
 |.test t=>⟨gX,[],[],t⟩
 |.promise k=>⟨jC,[k],[],[]⟩
 |.box k h=>⟨oF,[k],[h],[]⟩
 |.look=>⟨pe,[],[],[]⟩
 |.wick k a b c d=>⟨pb,[k],[a,b,c,d],[]⟩
 |.blend a b c=>⟨mf,[],[a,b,c],[]⟩
 |.stock=>⟨me,[],[],[]⟩
def kz:Said:=⟨[],[],[],[]⟩
def yw (l:List UInt8):Said×Int:=match fD l with | .error e=>(kz,e) | .ok c=>(kw c,0)
def fI:List (List UInt8)->List Int->List Int×Bool
 |[],m=>(m,true)
 |w::r,m=>if w≠kX/\dA w<0 then (m,false) else fI r (m++[dA w])
def dW (ws:List (List UInt8)):List UInt8->Nat->List (List UInt8)->List Int->List (List UInt8)×List Int×Bool
 |[],i,n,m=>(n,m,ws.length==i)
 |c::f,i,n,m =>
  if c=114 then (n,(fI (ws.drop i) m).1,(fI (ws.drop i) m).2&&decide (i<=ws.length))
  else match ws[i]? with
   |none=>(n,m,false)
   |some w =>
    if c=97 then (if nameOk (bs w)=true then dW ws f (i+1) (n++[w]) m else (n++[w],m,false))
    else (if dA w<0 then (n,m++[dA w],false) else dW ws f (i+1) n (m++[dA w]))
def ES (v:List UInt8) (q:List (List UInt8)×List Int×Bool):PV:=.tuple [Said.pv ⟨v,q.1,q.2.1,[]⟩,.bool q.2.2]
def sb (v:List UInt8) (n:List (List UInt8)) (m:List Int):AV:=.agg [.p (.str (bs v)),.slice 2 n.length 0 n.length,.slice 3 m.length 0 m.length,.p (.str (bs []))]
def ld:AV:=.p (.agg [.str ⟨#[]⟩,.nilslice,.nilslice,.str ⟨#[]⟩])
def rm (v:List UInt8) (n:List (List UInt8)) (m:List Int):Heap:=[.row 4 [ld],.row 4 [sb v n m],.row 1 (n.map mR),.row 1 (m.map λx=>.p (aK x))]
theorem Rg (w):-1<=dA w/\dA w<=10000000:=by
 unfold dA
 cases h:bD w with
 |none=>simp
 |some v =>
  unfold bD at h;split at h
  .split at h
   .rename_i h1;cases h;simp only;omega
   .cases h
  .cases h
set_option maxHeartbeats 4000000 in
theorem Sd (v) (ws) (f) (hw:ws.length<=1000) (hf:f.length<=1000) (hww:∀ w,w∈ws->w.length<=1000):ah TP 62 [.str (bs v),bt ws,.str (bs f)] (ES v (dW ws f 0 [] [])):=by
 refine dC (ai (by kernel_rfl) rfl zbO) rfl ?_;have hsz:((bs f).size:Int)=(f.length:Int):=by rw [aq]
 simp only [bt,go_sem,simprocAttr];refine eC [0,1,2,6,8,9] 1 1 4 _ (.agg [.p (.str (bs v)),.slice 2 0 0 0,.p .nilslice,.p (.str ⟨#[]⟩)]) (dD _) (dD _) rfl (fq 1 rfl rfl rfl) ?_ ?_ rfl ?_
 .simp only [go_sem,simprocAttr]
 .simp only [go_sem,simprocAttr]
 simp only [go_sem,simprocAttr];refine eC [0,1,2,6,8,9] 1 1 4 _ (.agg [.p (.str (bs v)),.slice 2 0 0 0,.slice 3 0 0 0,.p (.str ⟨#[]⟩)]) (dD _) (dD _) rfl (fq 2 rfl rfl rfl) ?_ ?_ rfl ?_
 .simp only [go_sem,simprocAttr]
 .simp only [go_sem,simprocAttr]
 simp only [go_sem,simprocAttr]
 refine dZ [1,2,6,8] (σ:=List UInt8×List UInt8×List (List UInt8)×List Int) (λq=>f=q.1++q.2.1/\dW ws f 0 [] []=dW ws q.2.1 q.1.length q.2.2.1 q.2.2.2/\q.2.2.1.length<=q.1.length/\q.2.2.2.length<=q.1.length) (λq=>q.2.1.length)
  (λq=>[(9,.p (.int .i64 q.1.length))]) (λq=>rm v q.2.2.1 q.2.2.2) ([],f,[],[]) ⟨rfl,rfl,bM _,bM _⟩ (by simp only [rm,sb,ld,go_sem,simprocAttr];rfl) ?_ ?_
 .simp only [go_sem,simprocAttr]
 rintro ⟨done,rest,n,m⟩ ⟨e1,e2,e3,e4⟩
 dsimp only at e1 e2 e3 e4;have hdl:=congrArg List.length e1;rw [aI] at hdl;have t1:List.take n.length (n.map λx=>PV.str (bs x))=n.map λx=>PV.str (bs x):=ga (by simp);have hrm:n.length+1<=aw:=by simp only [aw];omega
 have hrm2:m.length+1<=aw:=by simp only [aw];omega
 cases rest with
 |nil =>
  have hlt:¬ ((done.length:Int)<(f.length:Int)):=by rw [e1];simp
  simp only [hsz,hlt,decide_false,rm,sb,ld,mh,t1,go_sem,simprocAttr];have hq:(((ws.length:Nat):Int)==((f.length:Nat):Int))=(ws.length==done.length):=by
   rw [qX];simp at hdl |-;omega
  rw [hq,e2]
  exact .inl rfl
 |cons c r =>
  obtain ⟨hx,hlt⟩:=de e1;rw [ct] at hdl;have hxb:(bs f)[done.length]?=some c:=by rw [wC];exact hx
  have hnx:IntKind.i64.wrap ((done.length:Int)+1)=(((done++[c]).length:Nat):Int):=ba (by omega) (by simp [aw];omega) (by simp);have hlt':decide ((done.length:Int)<(f.length:Int))=true:=by simpa using hlt
  by_cases hc:c=114
  .subst hc;have d1:((((114:UInt8).toNat:Nat):Int)==114)=true:=rfl;simp only [hsz,hlt,hxb,rm,sb,ld,go_sem,simprocAttr]
   refine dZ [1,6,8,9] (σ:=List (List UInt8)×List (List UInt8)×List Int) (λq=>ws.drop done.length=q.1++q.2.1/\fI (ws.drop done.length) m=fI q.2.1 q.2.2/\q.2.2.length<=m.length+q.1.length) (λq=>q.2.1.length)
    (λq=>[(10,.p (.int .i64 ((done.length+q.1.length:Nat):Int)))]) (λq=>rm v n q.2.2) ([],ws.drop done.length,m) ⟨rfl,rfl,bM _⟩ (by simp only [rm,sb,ld,go_sem,simprocAttr]) ?_ ?_
   .simp only [go_sem,simprocAttr];rfl
   rintro ⟨dn,rs,m'⟩ ⟨g1,g2,g3⟩
   dsimp only at g1 g2 g3;have gl:=congrArg List.length g1;rw [aI,List.length_drop] at gl
   cases rs with
   |nil =>
    rw [ei] at gl;have hl2:¬ (((done.length+dn.length:Nat):Int)<((ws.length:Nat):Int)):=by omega
    simp only [hl2,decide_false,rm,sb,ld,mh,t1,go_sem,simprocAttr];refine .inl ?_;rw [e2,dW,if_pos rfl,g2];have hq:decide (((done.length:Nat):Int)<=((ws.length:Nat):Int))=decide (done.length<=ws.length):=by
     rw [qX];simp
    rw [hq]
    rfl
   |cons w rs =>
    rw [ct] at gl;have hl2:(((done.length+dn.length:Nat):Int)<((ws.length:Nat):Int)):=by omega
    have hw1:ws[done.length+dn.length]?=some w:=by
     have:(ws.drop done.length)[dn.length]?=some w:=by rw [g1];simp
     rwa [mz] at this
    have hrm3:m'.length+1<=aw:=by simp only [aw];omega
    have hwm:=hww w (aL hw1);have hnx2:IntKind.i64.wrap (((done.length+dn.length:Nat):Int)+1)=((done.length+(dn++[w]).length:Nat):Int):=ba (by omega) (by simp [aw];omega) (by simp;omega);have hg:=Rg w;have cx:(⟨#[120]⟩:ByteArray)=bs kX:=rfl;simp only [hl2,decide_true,hw1,rm,sb,ld,go_sem,simprocAttr];refine ae (Ky w) rfl ?_;rw [fI] at g2;by_cases q1:w=kX
    .have b1:(bs w==bs kX)=true:=by rw [cf];simpa using q1
     rw [if_neg (λh=>h.1 q1)] at g2;simp only [hw1,hl2,cx,b1,hrm3,go_sem,simprocAttr];refine aZ (dn++[w],rs,m'++[dA w]) ⟨by rw [g1];simp,g2,by show (m'++[dA w]).length<=m.length+(dn++[w]).length;simp;omega⟩ (j3 _) (by simp only [rm,sb,ld,aI,bh,bA,go_sem,simprocAttr]) ?_;simp only [hnx2,go_sem,simprocAttr]
    .have b1:(bs w==bs kX)=false:=by rw [cf];simpa using q1
     by_cases q2:dA w<0
     .have b2:decide (dA w<0)=true:=decide_eq_true q2;rw [if_pos ⟨q1,q2⟩] at g2;simp only [hw1,hl2,cx,b1,b2,mh,t1,go_sem,simprocAttr];refine .inl ?_;rw [e2,dW,if_pos rfl,g2];rfl
     .have b2:decide (dA w<0)=false:=decide_eq_false q2;rw [if_neg (λh=>q2 h.2)] at g2;simp only [hw1,hl2,cx,b1,b2,hrm3,go_sem,simprocAttr];refine aZ (dn++[w],rs,m'++[dA w]) ⟨by rw [g1];simp,g2,by show (m'++[dA w]).length<=m.length+(dn++[w]).length;simp;omega⟩ (j3 _) (by simp only [rm,sb,ld,aI,bh,bA,go_sem,simprocAttr]) ?_;simp only [hnx2,go_sem,simprocAttr]
  .have d1:(((c.toNat:Nat):Int)==114)=false:=by
    rw [beq_eq_false_iff_ne];intro e;exact hc (UInt8.toNat_inj.1 (by show c.toNat=114;omega))
   by_cases hi:ws.length<=done.length
   .have d2:decide (((ws.length:Nat):Int)<=(done.length:Int))=true:=decide_eq_true (by omega);have d2:((ws.length:Nat):Int)<=(done.length:Int):=by omega
    simp only [hsz,hlt,hxb,d1,d2,rm,sb,ld,mh,t1,go_sem,simprocAttr];rw [e2,dW,if_neg hc,ve hi];exact .inl rfl
   .obtain ⟨w,hw0⟩:∃ w,ws[done.length]?=some w:=⟨_,bE (by omega)⟩
    have d2:decide (((ws.length:Nat):Int)<=(done.length:Int))=false:=decide_eq_false (by omega);have hwl:(done.length:Int)<(ws.length:Int):=by omega
    by_cases ha:c=97
    .subst ha;have d3:((((97:UInt8).toNat:Nat):Int)==97)=true:=rfl;simp only [hsz,hlt,hxb,d2,hw0,hwl,rm,sb,ld,go_sem,simprocAttr];simp only [hrm,go_sem,simprocAttr];simp only [hwl,hw0,go_sem,simprocAttr];refine ae (F6 (bs w)) rfl ?_;have t2:List.take (n.length+1) (n.map (λx=>PV.str (bs x))++[.str (bs w)])=n.map (λx=>PV.str (bs x))++[.str (bs w)]:=ga (by simp);have fz2:∀ k h,aU (ci k h) (n.map mR++[.p (.str (bs w))])=some (n.map (λx=>PV.str (bs x))++[.str (bs w)]):=λk h=>by
      have:=mh k h (n++[w]);simpa [mR] using this
     have hst:dW ws (97::r) done.length n m=if nameOk (bs w)=true then dW ws r (done.length+1) (n++[w]) m else (n++[w],m,false):=by
      rw [dW,if_neg (by decide),hw0];dsimp only;rw [if_pos rfl]
     rw [hst] at e2;cases hnm:nameOk (bs w)
     .simp only [fz2,t2,aI,bh,go_sem,simprocAttr];rw [hnm,if_neg (by simp)] at e2;rw [e2];refine .inl ?_;simp [ES,Said.pv,bt,aK]
     .simp only [go_sem,simprocAttr];refine aZ (done++[97],r,n++[w],m) ⟨by rw [e1];simp,?_,?_,?_⟩ (j3 _) (by simp only [rm,sb,ld,aI,bh,bA,mR,go_sem,simprocAttr]) ?_
      .rw [hnm,if_pos rfl] at e2;rw [e2,aI,bh]
      .simp;omega
      .simp;omega
      simp only [hnx,go_sem,simprocAttr]
    .have d3:(((c.toNat:Nat):Int)==97)=false:=by
      rw [beq_eq_false_iff_ne];intro e;exact ha (UInt8.toNat_inj.1 (by show c.toNat=97;omega))
     simp only [hsz,hlt,hxb,d1,d2,d3,hw0,hwl,rm,sb,ld,go_sem,simprocAttr];refine aD (Ky w) rfl ?_;simp only [hrm2,hw0,hwl,go_sem,simprocAttr];refine ae (Ky w) rfl ?_;have hst:dW ws (c::r) done.length n m=if dA w<0 then (n,m++[dA w],false) else dW ws r (done.length+1) n (m++[dA w]):=by
      rw [dW,if_neg hc,hw0];dsimp only;rw [if_neg ha]
     rw [hst] at e2;have t3:List.take (m.length+1) (m.map (PV.int .i64)++[.int .i64 (dA w)])=m.map (PV.int .i64)++[.int .i64 (dA w)]:=ga (by simp);have fz3:∀ k h,aU (ci k h) (m.map (λx=>AV.p (PV.int .i64 x))++[.p (.int .i64 (dA w))])=some (m.map (PV.int .i64)++[.int .i64 (dA w)]):=λk h=>by
      have:=dq (er k h) (PV.int .i64) (m++[dA w]);simpa using this
     by_cases hq:dA w<0
     .have b2:decide (dA w<0)=true:=decide_eq_true hq;rw [if_pos hq] at e2;simp only [b2,mh,t1,fz3,t3,aI,bh,go_sem,simprocAttr];rw [e2];refine .inl ?_;simp [ES,Said.pv,bt,aK]
     .have b2:decide (dA w<0)=false:=decide_eq_false hq;rw [if_neg hq] at e2;simp only [b2,go_sem,simprocAttr];refine aZ (done++[c],r,n,m++[dA w]) ⟨by rw [e1];simp,?_,?_,?_⟩ (j3 _) (by simp only [rm,sb,ld,aI,bh,bA,go_sem,simprocAttr]) ?_
      .rw [e2,aI,bh]
      .simp;omega
      .simp;omega
      simp only [hnx,go_sem,simprocAttr]
def fU:List (List UInt8×List UInt8):=[(oE,[97,97,110,114]),(jU,[97,97,97,110]),(lN,[97]),(pc,[97]),(lM,[97]),(gX,[]),(jC,[97]),(oF,[97,110]),(pe,[]),(pb,[97,110,110,110,110]),(mf,[110,110,110]),(me,[])]
theorem UC:ah TP 61 [] (.tuple [bt (fU.map (·.1)),bt (fU.map (·.2))]):=by
 refine ah.lessD (q:=.tuple [.slice 1 ((fU.map (·.1)).map λx=>.str (bs x)) true,.slice 1 ((fU.map (·.2)).map λx=>.str (bs x)) true]) ?_ (PL.tupleL ⟨PL.sliceL rfl (dj _),PL.sliceL rfl (dj _),trivial⟩);refine aa (ai (by kernel_rfl) rfl zbP) rfl ?_;simp only [go_sem,simprocAttr];exact ⟨rfl,rfl⟩
def i6 (w:List UInt8) (r:List (List UInt8)):List (List UInt8×List UInt8)->Said×Int
 |[]=>(kz,6)
 |(v,f)::t=>if v=w/\v≠gX/\(dW r f 0 [] []).2.2=true then (⟨v,(dW r f 0 [] []).1,(dW r f 0 [] []).2.1,[]⟩,0) else i6 w r t
theorem Lo {l} (h:l.take 5=gR):aH 10 l=(gX,some (l.drop 5)):=by
 have:l=gR++l.drop 5:=by rw [<-h,kZ]
 generalize l.drop 5=r at this;subst this;rfl
theorem QV {l} (h:¬ l.take 5=gR):Lib.indexByte l 10<0\/(0<=Lib.indexByte l 10/\Lib.indexByte l 10<=(l.length:Int)/\l.take (Lib.indexByte l 10).toNat≠gX):=by
 rcases jV 10 l with ⟨h1,h2,h3⟩ | ⟨r,h1,h2,h3⟩
 .left;omega
 .right;have hl:=congrArg List.length h3;rw [aI] at hl;refine ⟨by omega,by omega,λhe=>h ?_⟩;have hp:l.take (aH 10 l).1.length=(aH 10 l).1:=by
   have:=congrArg (List.take (aH 10 l).1.length) h3;rw [d9] at this
   .exact this
   .rfl
  rw [h2,iH,hp] at he;rw [he] at h3;rw [h3];rfl
def t6 (l:List UInt8):Said×Int :=
 if 400<l.length then (kz,3) else if l.take 5=gR then (⟨gX,[],[],l.drop 5⟩,0) else match aJ 32 l with | []=>(kz,6) | w::r=>i6 w r fU
set_option maxHeartbeats 4000000 in
theorem Zx (l):ah TP 38 [.str (bs l)] (.tuple [(t6 l).1.pv,.int .i64 (t6 l).2]):=by
 have hz:PL (.agg [.str ⟨#[]⟩,.nilslice,.nilslice,.str ⟨#[]⟩]) kz.pv:=PL.aggL rfl ⟨.refl _,.nil _,.nil _,.refl _,trivial⟩;have hsz:((bs l).size:Int)=(l.length:Int):=by rw [aq]
 by_cases h1:400<l.length
 .have b1:decide ((400:Int)<(l.length:Int))=true:=decide_eq_true (by omega);have hr:t6 l=(kz,3):=if_pos h1;rw [hr];refine ah.lessD (q:=.tuple [.agg [.str ⟨#[]⟩,.nilslice,.nilslice,.str ⟨#[]⟩],.int .i64 3]) ?_ (PL.tupleL ⟨hz,.refl _,trivial⟩);refine dC (ai (by kernel_rfl) rfl Oc) rfl ?_;simp only [hsz,b1,go_sem,simprocAttr]
 have b1:decide ((400:Int)<(l.length:Int))=false:=decide_eq_false (by omega);by_cases h2:l.take 5=gR
 .have hcut:=Lo h2;have hr:t6 l=(⟨gX,[],[],l.drop 5⟩,0):=by rw [t6,if_neg h1,if_pos h2]
  rw [hr];refine ah.lessD (q:=.tuple [.agg [.str (bs gX),.nilslice,.nilslice,.str (bs (l.drop 5))],.int .i64 0]) ?_ (PL.tupleL ⟨PL.aggL rfl ⟨.refl _,.nil _,.nil _,.refl _,trivial⟩,.refl _,trivial⟩);refine dC (ai (by kernel_rfl) rfl Oc) rfl ?_;simp only [hsz,b1,go_sem,simprocAttr];refine ae (Qu l (by omega)) rfl ?_;have hix:Lib.indexByte l 10=4:=by
   rcases jV 10 l with ⟨g1,g2,g3⟩ | ⟨r,g1,g2,g3⟩
   .rw [hcut] at g1;cases g1
   .rw [g2,hcut];rfl
  have hlen:5<=l.length:=by
   have:=congrArg List.length h2;rw [tK] at this;have h5:gR.length=5:=rfl;omega
  have hle:(4:Int)<=((bs l).size:Int):=by rw [aq];omega
  have hle5:(5:Int)<=((bs l).size:Int):=by rw [aq];omega
  have e4:(bs l).extract 0 4=bs gX:=by
   rw [cZ,nq]
   congr 1
   have:l.take 4=(l.take 5).take 4:=by rw [List.take_take];rfl
   rw [this,h2];rfl
  have e5:(bs l).extract 5 (bs l).size=bs (l.drop 5):=by
   rw [cZ,aq,qW]
  have c4:(⟨#[116,101,115,116]⟩:ByteArray)=bs gX:=rfl;have b4:(bs gX==bs gX)=true:=(pk _ _).2 rfl;have w5:IntKind.i64.wrap 5=5:=rfl;rw [hix];simp only [hle,hle5,e4,e5,c4,b4,w5,go_sem,simprocAttr]
 .obtain ⟨w,r,hwr⟩:=sB 32 l;have hr:t6 l=i6 w r fU:=by rw [t6,if_neg h1,if_neg h2,hwr]
  have hwl:∀ x,x∈w::r->x.length<=400:=λx hx=>by
   have:=vA 32 l x (by rw [hwr];exact hx);omega
  have hrl:r.length<=400:=by
   have:=pz 32 l;rw [hwr,ct] at this;omega
  have hsp:=MM l 32 (by omega);rw [hwr,bG] at hsp;have c4:(⟨#[116,101,115,116]⟩:ByteArray)=bs gX:=rfl;have hlss:u7 (.tuple [.agg [.str ⟨#[]⟩,.nilslice,.nilslice,.str ⟨#[]⟩],.int .i64 6]) (.tuple [kz.pv,.int .i64 6]):=λM x u h=>(PL.tupleL (a:=[.agg [.str ⟨#[]⟩,.nilslice,.nilslice,.str ⟨#[]⟩],.int .i64 6]) (b:=[kz.pv,.int .i64 6]) ⟨hz,.refl _,trivial⟩).rep h;rw [hr];refine rq dU (fn:=Tryz.f38) (n:=74) (rs:=[.cell 2 116,.tmp 3]) (by kernel_rfl) rfl rfl rfl Oc (nv rfl) ?_;simp only [hsz,b1,go_sem,simprocAttr];refine ae (Qu l (by omega)) rfl ?_;rcases QV h2 with g | ⟨g0,g1,g2⟩
  case' inl =>
   have b2:decide (0<=Lib.indexByte l 10)=false:=decide_eq_false (by omega);simp only [b2,go_sem,simprocAttr]
  case' inr =>
   obtain ⟨m,hm⟩:=p4 g0;rw [hm] at g1 g2 |-;have b2:decide (0<=((m:Nat):Int))=true:=decide_eq_true (by omega);have hle:((m:Nat):Int)<=((bs l).size:Int):=by rw [aq];exact g1
   have e4:(bs l).extract 0 m=bs (l.take m):=by rw [cZ,nq]
   have b4:(bs (l.take m)==bs gX)=false:=by rw [cf];simpa using g2
   simp only [hle,e4,c4,b4,go_sem,simprocAttr]
  all_goals
   refine ae hsp rfl ?_;simp only [go_sem,simprocAttr];refine ae UC rfl ?_;simp only [bt,go_sem,simprocAttr];refine br [2,5,6,7] fU (by decide) (τ:=Unit) (λdone rest _=>i6 w r fU=i6 w r rest) (λdone _=>[(8,.p (.int .i64 done.length))]) (λ_ _=>[.row 4 [ld]]) () rfl ?_ ?_ ?_
   .simp only [ld,ei,go_sem,simprocAttr]
   .intro _ e2;have hlt:¬ ((fU.length:Int)<(fU.length:Int)):=by omega
    simp only [ld,hlt,decide_false,go_sem,simprocAttr];rw [e2];exact hlss
   .rintro done ⟨v,f⟩ t _ e1 e2 hx hlt hnx
    have h0:(0:Int)<((r.length+1:Nat):Int):=by omega
    have h1':(1:Int)<=((r.length+1:Nat):Int):=by omega
    rw [i6] at e2;by_cases hv:v=w;rotate_left
    .have b5:(bs v==bs w)=false:=by rw [cf];simpa using hv
     rw [if_neg (λh=>hv h.1)] at e2;simp only [ld,hlt,decide_true,hx,h0,I8,bj,b5,go_sem,simprocAttr];refine aF e1 () (by exact e2) ?_;simp only [hnx,ld,go_sem,simprocAttr]
    .subst hv;have b5:(bs v==bs v)=true:=(pk _ _).2 rfl;by_cases hk:v=gX
     .have b6:(bs v==bs gX)=true:=by rw [cf];simpa using hk
      rw [if_neg (λh=>h.2.1 hk)] at e2;simp only [ld,hlt,decide_true,hx,h0,I8,bj,b5,c4,b6,go_sem,simprocAttr];refine aF e1 () (by exact e2) ?_;simp only [hnx,ld,go_sem,simprocAttr]
     .have b6:(bs v==bs gX)=false:=by rw [cf];simpa using hk
      simp only [ld,hlt,decide_true,hx,h0,h1',I8,bj,b5,c4,b6,go_sem,simprocAttr];have hf5:f.length<=5:=by
       have:∀ p,p∈fU->p.2.length<=5:=by decide
       exact this (v,f) (by rw [e1];simp)
      refine aD (Sd v r f (by omega) (by omega) (λx hx=>by have:=hwl x (by simp [hx]);omega)) rfl ?_;cases hq:(dW r f 0 [] []).2.2
      .rw [if_neg (λh=>by rw [hq] at h;exact absurd h.2.2 (by simp))] at e2;simp only [I8,ES,hq,Said.pv,go_sem,simprocAttr];refine aF e1 () (by exact e2) ?_;simp only [hnx,ld,go_sem,simprocAttr]
      .rw [if_pos ⟨rfl,hk,hq⟩] at e2;rw [e2];simp only [I8,ES,hq,Said.pv,go_sem,simprocAttr];exact u7.rfl'
def dO:List UInt8->List (List UInt8)->Option (List (List UInt8)×List Int)
 |[],[]=>some ([],[])
 |[],_::_=>none
 |c::f,ws =>
  if c=114 then (cr ws).map λl=>([],l)
  else match ws with
   |[]=>none
   |w::r =>
    if c=97 then (match aV w with | none=>none | some x=>(dO f r).map λq=>(x::q.1,q.2))
    else (match bD w with | none=>none | some x=>(dO f r).map λq=>(q.1,x::q.2))
theorem CE {w} {v} (h:bD w=some v):dA w=v/\¬ v<0:=by
 unfold dA;rw [h];unfold bD at h;split at h
 .split at h
  .rename_i h1;cases h;exact ⟨rfl,by omega⟩
  .cases h
 .cases h
theorem vR {w} (h:bD w=none):dA w=-1:=by
 unfold dA;rw [h]
theorem vN:∀ (ws) (m),(fI ws m).2=(cr ws).isSome/\∀ l,cr ws=some l->(fI ws m).1=m++l
 |[],m=>⟨rfl,λl h=>by cases h;simp [fI]⟩
 |w::r,m=>by
  by_cases hk:w=kX
  .have hn:dA w=-1:=vR (by rw [hk];decide);obtain ⟨h1,h2⟩:=vN r (m++[dA w]);have e1:fI (w::r) m=fI r (m++[dA w]):=by rw [fI,if_neg (λh=>h.1 hk)]
   have e2:cr (w::r)=(cr r).map (-1::·):=by rw [cr,if_pos hk]
   rw [e1,e2];refine ⟨by rw [h1];simp,λl h=>?_⟩;obtain ⟨l',h3,rfl⟩:=bT.1 h;rw [h2 l' h3,hn];simp
  .cases hc:bD w with
   |none =>
    have hn:=vR hc;have e1:fI (w::r) m=(m,false):=by rw [fI,if_pos ⟨hk,by omega⟩]
    have e2:cr (w::r)=none:=by rw [cr,if_neg hk,hc]
    rw [e1,e2]
    exact ⟨rfl,λl h=>by cases h⟩
   |some v =>
    obtain ⟨hn,hv⟩:=CE hc;obtain ⟨h1,h2⟩:=vN r (m++[dA w]);have e1:fI (w::r) m=fI r (m++[dA w]):=by rw [fI,if_neg (λh=>by rw [hn] at h;exact hv h.2)]
    have e2:cr (w::r)=(cr r).map (v::·):=by rw [cr,if_neg hk,hc]
    rw [e1,e2];refine ⟨by rw [h1];simp,λl h=>?_⟩;obtain ⟨l',h3,rfl⟩:=bT.1 h;rw [h2 l' h3,hn];simp
theorem Bo (ws):∀ (f) (i) (n) (m),i<=ws.length->(dW ws f i n m).2.2=(dO f (ws.drop i)).isSome/\∀ q,dO f (ws.drop i)=some q->(dW ws f i n m).1=n++q.1/\(dW ws f i n m).2.1=m++q.2
 |[],i,n,m,hi=>by
  cases hd:ws.drop i with
  |nil =>
   have:=congrArg List.length hd;rw [List.length_drop,ei] at this;refine ⟨?_,λq h=>by cases h;simp [dW]⟩;simp [dW,dO]
   omega
  |cons w r =>
   have:=congrArg List.length hd;rw [List.length_drop,ct] at this;refine ⟨?_,λq h=>by cases h⟩;simp [dW,dO]
   omega
 |c::f,i,n,m,hi=>by
  by_cases hc:c=114
  .obtain ⟨h1,h2⟩:=vN (ws.drop i) m;have e1:dW ws (c::f) i n m=(n,(fI (ws.drop i) m).1,(fI (ws.drop i) m).2&&decide (i<=ws.length)):=by rw [dW,if_pos hc]
   have e2:dO (c::f) (ws.drop i)=(cr (ws.drop i)).map λl=>([],l):=by
    cases hd:ws.drop i<;>rw [dO,if_pos hc]
   rw [e1,e2];refine ⟨by rw [h1];simp [hi],λq h=>?_⟩;obtain ⟨l',h3,rfl⟩:=bT.1 h;exact ⟨by simp,h2 l' h3⟩
  .cases hd:ws.drop i with
   |nil =>
    have:=congrArg List.length hd;rw [List.length_drop,ei] at this;have e1:dW ws (c::f) i n m=(n,m,false):=by rw [dW,if_neg hc,ve (by omega)]
    have e2:dO (c::f) []=none:=by rw [dO,if_neg hc]
    rw [e1,e2]
    exact ⟨rfl,λq h=>by cases h⟩
   |cons w r =>
    have hw:ws[i]?=some w:=by
     have:(ws.drop i)[0]?=some w:=by rw [hd];rfl
     rwa [mz] at this
    have hr:ws.drop (i+1)=r:=by rw [<-vd,hd];rfl
    have hil:i+1<=ws.length:=(aE.1 hw).1;by_cases ha:c=97
    .cases hn:nameOk (bs w) with
     |false =>
      have e1:dW ws (c::f) i n m=(n++[w],m,false):=by rw [dW,if_neg hc,hw];(try dsimp only);rw [if_pos ha,hn,if_neg (by simp)]
      have hnc:aV w=none:=by rw [aV,hn,if_neg (by simp)]
      have e2:dO (c::f) (w::r)=none:=by rw [dO,if_neg hc];(try dsimp only);rw [if_pos ha,hnc]
      rw [e1,e2]
      exact ⟨rfl,λq h=>by cases h⟩
     |true =>
      have e1:dW ws (c::f) i n m=dW ws f (i+1) (n++[w]) m:=by rw [dW,if_neg hc,hw];(try dsimp only);rw [if_pos ha,hn,if_pos rfl]
      have hnc:aV w=some w:=by rw [aV,hn,if_pos rfl]
      have e2:dO (c::f) (w::r)=(dO f r).map λq=>(w::q.1,q.2):=by rw [dO,if_neg hc];(try dsimp only);rw [if_pos ha,hnc]
      obtain ⟨h1,h2⟩:=Bo ws f (i+1) (n++[w]) m hil;rw [hr] at h1 h2;rw [e1,e2];refine ⟨by rw [h1];simp,λq h=>?_⟩;obtain ⟨q',h3,rfl⟩:=bT.1 h;obtain ⟨h4,h5⟩:=h2 q' h3;exact ⟨by rw [h4];simp,h5⟩
    .cases hn:bD w with
     |none =>
      have hv:=vR hn;have e1:dW ws (c::f) i n m=(n,m++[dA w],false):=by rw [dW,if_neg hc,hw];(try dsimp only);rw [if_neg ha,if_pos (by omega)]
      have e2:dO (c::f) (w::r)=none:=by rw [dO,if_neg hc];(try dsimp only);rw [if_neg ha,hn]
      rw [e1,e2]
      exact ⟨rfl,λq h=>by cases h⟩
     |some v =>
      obtain ⟨hv,hv0⟩:=CE hn;have e1:dW ws (c::f) i n m=dW ws f (i+1) n (m++[dA w]):=by rw [dW,if_neg hc,hw];(try dsimp only);rw [if_neg ha,if_neg (by omega)]
      have e2:dO (c::f) (w::r)=(dO f r).map λq=>(q.1,v::q.2):=by rw [dO,if_neg hc];(try dsimp only);rw [if_neg ha,hn]
      obtain ⟨h1,h2⟩:=Bo ws f (i+1) n (m++[dA w]) hil;rw [hr] at h1 h2;rw [e1,e2];refine ⟨by rw [h1];simp,λq h=>?_⟩;obtain ⟨q',h3,rfl⟩:=bT.1 h;obtain ⟨h4,h5⟩:=h2 q' h3;exact ⟨h4,by rw [h5,hv];simp⟩
theorem JG (w v) (f) (r) (t) (hv:v≠gX):i6 w r ((v,f)::t)=if v=w then (match dO f r with | some q=>(⟨v,q.1,q.2,[]⟩,0) | none=>i6 w r t) else i6 w r t:=by
 obtain ⟨h1,h2⟩:=Bo r f 0 [] [] (dD _);rw [nq] at h1 h2;rw [i6];by_cases hw:v=w
 .rw [if_pos hw]
  cases hq:dO f r with
  |none =>
   rw [hq] at h1
   rw [if_neg (λh=>by rw [h1] at h;exact absurd h.2.2 (by simp))]
  |some q =>
   rw [hq] at h1;obtain ⟨h3,h4⟩:=h2 q hq;rw [if_pos ⟨hw,hv,h1⟩,h3,h4];rfl
 .rw [if_neg hw,if_neg (λh=>hw h.1)]
def fj (w:List UInt8):Option (List (List UInt8)×List Int)->Said×Int
 |some q=>(⟨w,q.1,q.2,[]⟩,0)
 |none=>(kz,6)
theorem EK (w) (r) (hw:w≠gX):∀ t,w∉t.map (·.1)->i6 w r t=(kz,6)
 |[],_=>rfl
 |(v,f)::t,h=>by
  rw [bB,bw,not_or] at h;rw [i6,if_neg (λe=>h.1 e.1.symm)];exact EK w r hw t h.2
theorem zL (w) (r) (hw:w≠gX):∀ t,(t.map (·.1)).Nodup->i6 w r t=fj w ((t.lookup w).bind λf=>dO f r)
 |[],_=>rfl
 |(v,f)::t,h=>by
  rw [bB,D2] at h;by_cases hv:v=w
  .subst hv;rw [JG _ _ _ _ _ hw,if_pos rfl,List.lookup_cons_self]
   cases hq:dO f r with
   |none =>
    rw [iO,hq]
    exact EK v r hw t h.1
   |some q=>simp [fj,hq]
  .have hb:(w==v)=false:=by simpa using λe=>hv e.symm
   rw [List.lookup_cons,hb,<-zL w r hw t h.2,i6,if_neg (λe=>hv e.1)]
theorem Cq (r):∀ t,i6 gX r t=(kz,6)
 |[]=>rfl
 |(v,f)::t=>by
  rw [i6,if_neg (λe=>e.2.1 e.1)];exact Cq r t
theorem Ip (w):∀ t:List (List UInt8×List UInt8),w∉t.map (·.1)->t.lookup w=none
 |[],_=>rfl
 |(v,f)::t,h=>by
  rw [bB,bw,not_or] at h;have hb:(w==v)=false:=by simpa using h.1
  rw [List.lookup_cons,hb];exact Ip w t h.2
def fC:Option Cmd->Said×Int
 |some c=>(kw c,0)
 |none=>(kz,6)
theorem Lp:(fU.map (·.1)).Nodup:=by decide
theorem NW (w) (r):i6 w r fU=fC (dd w r):=by
 by_cases ht:w=gX
 .subst ht;rw [Cq];rfl
 rw [zL w r ht fU Lp];by_cases h0:w=oE
 .subst h0;rw [show fU.lookup oE=some [97,97,110,114] from rfl];unfold dd;rw [if_pos rfl,iO]
  match r with
  |[]=>rfl
  |[n]=>cases h1:aV n<;>simp [dO,fj,fC,h1]
  |[n,k]=>cases h1:aV n<;>cases h2:aV k<;>simp [dO,fj,fC,h1,h2]
  |n::k::g::rs=>cases h1:aV n<;>cases h2:aV k<;>cases h3:bD g<;>cases h4:cr rs<;>simp [dO,fj,fC,kw,h1,h2,h3,h4]
 by_cases h1:w=jU
 .subst h1;rw [show fU.lookup jU=some [97,97,97,110] from rfl];unfold dd;rw [if_neg (by decide),if_pos rfl,iO]
  match r with
  |[]=>rfl
  |[n]=>cases h1:aV n<;>simp [dO,fj,fC,h1]
  |[n,k]=>cases h1:aV n<;>cases h2:aV k<;>simp [dO,fj,fC,h1,h2]
  |[n,k,l]=>cases h1:aV n<;>cases h2:aV k<;>cases h3:aV l<;>simp [dO,fj,fC,h1,h2,h3]
  |[n,k,l,g]=>cases h1:aV n<;>cases h2:aV k<;>cases h3:aV l<;>cases h4:bD g<;>simp [dO,fj,fC,kw,h1,h2,h3,h4]
  |n::k::l::g::x::rs=>cases h1:aV n<;>cases h2:aV k<;>cases h3:aV l<;>cases h4:bD g<;>simp [dO,fj,fC,h1,h2,h3,h4]
 by_cases h2:w=lN
 .subst h2;rw [show fU.lookup lN=some [97] from rfl];unfold dd;rw [if_neg (by decide),if_neg (by decide),if_pos rfl,iO]
  match r with
  |[]=>rfl
  |[n]=>cases h1:aV n<;>simp [dO,fj,fC,kw,h1]
  |n::k::t=>cases h1:aV n<;>simp [dO,fj,fC,h1]
 by_cases h3:w=pc
 .subst h3;rw [show fU.lookup pc=some [97] from rfl];unfold dd;rw [if_neg (by decide),if_neg (by decide),if_neg (by decide),if_pos rfl,iO]
  match r with
  |[]=>rfl
  |[n]=>cases h1:aV n<;>simp [dO,fj,fC,kw,h1]
  |n::k::t=>cases h1:aV n<;>simp [dO,fj,fC,h1]
 by_cases h4:w=lM
 .subst h4;rw [show fU.lookup lM=some [97] from rfl];unfold dd;rw [if_neg (by decide),if_neg (by decide),if_neg (by decide),if_neg (by decide),if_pos rfl,iO]
  match r with
  |[]=>rfl
  |[n]=>cases h1:aV n<;>simp [dO,fj,fC,kw,h1]
  |n::k::t=>cases h1:aV n<;>simp [dO,fj,fC,h1]
 by_cases h5:w=jC
 .subst h5;rw [show fU.lookup jC=some [97] from rfl];unfold dd;rw [if_neg (by decide),if_neg (by decide),if_neg (by decide),if_neg (by decide),if_neg (by decide),if_pos rfl,iO]
  match r with
  |[]=>rfl
  |[n]=>cases h1:aV n<;>simp [dO,fj,fC,kw,h1]
  |n::k::t=>cases h1:aV n<;>simp [dO,fj,fC,h1]
 by_cases h6:w=oF
 .subst h6;rw [show fU.lookup oF=some [97,110] from rfl];unfold dd;rw [if_neg (by decide),if_neg (by decide),if_neg (by decide),if_neg (by decide),if_neg (by decide),if_neg (by decide),if_pos rfl,iO]
  match r with
  |[]=>rfl
  |[n]=>cases h1:aV n<;>simp [dO,fj,fC,h1]
  |[n,g]=>cases h1:aV n<;>cases h2:bD g<;>simp [dO,fj,fC,kw,h1,h2]
  |n::g::x::t=>cases h1:aV n<;>cases h2:bD g<;>simp [dO,fj,fC,h1,h2]
 by_cases h7:w=pe
 .subst h7;rw [show fU.lookup pe=some [] from rfl];unfold dd;rw [if_neg (by decide),if_neg (by decide),if_neg (by decide),if_neg (by decide),if_neg (by decide),if_neg (by decide),if_neg (by decide),if_pos rfl,iO]
  match r with
  |[]=>rfl
  |n::t=>rfl
 by_cases h8:w=pb
 .subst h8;rw [show fU.lookup pb=some [97,110,110,110,110] from rfl];unfold dd;rw [if_neg (by decide),if_neg (by decide),if_neg (by decide),if_neg (by decide),if_neg (by decide),if_neg (by decide),if_neg (by decide),if_neg (by decide),if_pos rfl,iO]
  match r with
  |[]=>rfl
  |[n]=>cases h1:aV n<;>simp [dO,fj,fC,h1]
  |[n,a]=>cases h1:aV n<;>cases h2:bD a<;>simp [dO,fj,fC,h1,h2]
  |[n,a,b]=>cases h1:aV n<;>cases h2:bD a<;>cases h3:bD b<;>simp [dO,fj,fC,h1,h2,h3]
  |[n,a,b,c]=>cases h1:aV n<;>cases h2:bD a<;>cases h3:bD b<;>cases h4:bD c<;>simp [dO,fj,fC,h1,h2,h3,h4]
  |[n,a,b,c,d]=>cases h1:aV n<;>cases h2:bD a<;>cases h3:bD b<;>cases h4:bD c<;>cases h5:bD d<;>simp [dO,fj,fC,kw,h1,h2,h3,h4,h5]
  |n::a::b::c::d::x::t=>cases h1:aV n<;>cases h2:bD a<;>cases h3:bD b<;>cases h4:bD c<;>cases h5:bD d<;>simp [dO,fj,fC,h1,h2,h3,h4,h5]
 by_cases h9:w=mf
 .subst h9;rw [show fU.lookup mf=some [110,110,110] from rfl];unfold dd;rw [if_neg (by decide),if_neg (by decide),if_neg (by decide),if_neg (by decide),if_neg (by decide),if_neg (by decide),if_neg (by decide),if_neg (by decide),if_neg (by decide),if_pos rfl,iO]
  match r with
  |[]=>rfl
  |[a]=>cases h1:bD a<;>simp [dO,fj,fC,h1]
  |[a,b]=>cases h1:bD a<;>cases h2:bD b<;>simp [dO,fj,fC,h1,h2]
  |[a,b,c]=>cases h1:bD a<;>cases h2:bD b<;>cases h3:bD c<;>simp [dO,fj,fC,kw,h1,h2,h3]
  |a::b::c::x::t=>cases h1:bD a<;>cases h2:bD b<;>cases h3:bD c<;>simp [dO,fj,fC,h1,h2,h3]
 by_cases h10:w=me
 .subst h10;rw [show fU.lookup me=some [] from rfl];unfold dd;rw [if_neg (by decide),if_neg (by decide),if_neg (by decide),if_neg (by decide),if_neg (by decide),if_neg (by decide),if_neg (by decide),if_neg (by decide),if_neg (by decide),if_neg (by decide),if_pos rfl,iO]
  match r with
  |[]=>rfl
  |n::t=>rfl
 have hl:fU.lookup w=none:=Ip w fU (by simp [fU,h0,h1,h2,h3,h4,h5,h6,h7,h8,h9,h10,ht]);rw [hl];unfold dd;rw [if_neg h0,if_neg h1,if_neg h2,if_neg h3,if_neg h4,if_neg h5,if_neg h6,if_neg h7,if_neg h8,if_neg h9,if_neg h10];rfl
theorem Q3 (l):t6 l=yw l:=by
 unfold t6 yw fD;split
 .rfl
 split
 .rfl
 cases hs:aJ 32 l with
 |nil=>rfl
 |cons w r =>
  simp only;rw [NW];cases dd w r<;>rfl
theorem Zw (l):ah TP 38 [.str (bs l)] (.tuple [(yw l).1.pv,.int .i64 (yw l).2]):=by
 rw [<-Q3];exact Zx l
def cL (v:List UInt8):Bool:=v==oE||v==jU||v==lN||v==lM||v==gX||v==oF
theorem C8 (v):ah TP 18 [.str (bs v)] (.bool (cL v)):=by
 refine aa (ai (by kernel_rfl) rfl zcm) rfl ?_;have c0:(⟨#[108,111,116]⟩:ByteArray)=bs oE:=rfl;have c1:(⟨#[98,97,116,99,104]⟩:ByteArray)=bs jU:=rfl;have c2:(⟨#[100,114,111,112]⟩:ByteArray)=bs lN:=rfl;have c3:(⟨#[112,111,117,114]⟩:ByteArray)=bs lM:=rfl;have c4:(⟨#[116,101,115,116]⟩:ByteArray)=bs gX:=rfl;have c5:(⟨#[98,111,120]⟩:ByteArray)=bs oF:=rfl;simp only [c0,c1,c2,c3,c4,c5,cf,go_sem,simprocAttr];cases h0:(v==oE)
 rotate_left
 .simp only [cL,mO,h0,go_sem,simprocAttr]
 simp only [cf,go_sem,simprocAttr];cases h1:(v==jU)
 rotate_left
 .simp only [cL,mO,Bool.or_true,h0,h1,go_sem,simprocAttr]
 simp only [cf,go_sem,simprocAttr];cases h2:(v==lN)
 rotate_left
 .simp only [cL,mO,Bool.or_true,h0,h1,h2,go_sem,simprocAttr]
 simp only [cf,go_sem,simprocAttr];cases h3:(v==lM)
 rotate_left
 .simp only [cL,mO,Bool.or_true,h0,h1,h2,h3,go_sem,simprocAttr]
 simp only [cf,go_sem,simprocAttr];cases h4:(v==gX)
 rotate_left
 .simp only [cL,mO,Bool.or_true,h0,h1,h2,h3,h4,go_sem,simprocAttr]
 simp only [cf,go_sem,simprocAttr];cases h5:(v==oF)
 rotate_left
 .simp only [cL,Bool.or_true,h0,h1,h2,h3,h4,h5,go_sem,simprocAttr]
 simp only [cL,h0,h1,h2,h3,h4,h5];rfl
theorem Es (c):cL (kw c).verb=c.written:=by
 cases c<;>rfl
end Ch
variable {P:Program} {H:Hints}
def GM (q v:PV):Prop:=∀ (M:Nat->Prop) (w:World) (u:Value),RepP M w u q->RepP M w u v
theorem Rq {q}:GM q q:=λ_ _ _ h=>h
theorem vV {n} {l} {b}:GM (.slice n l b) (.slice n l false):=λ_ _ _ h=>by
 cases h with
 |slice f h1 h2 h3 h4 h5 h6 h7=>exact .slice f h1 h2 (λh=>by cases h) h4 h5 h6 h7
 |empty h1=>exact .empty (by simp)
theorem ah.le2 {f} {a b b'} {v} (hc:ah P f [a,b] v) (h:GM b' b):ah P f [a,b'] v:=by
 intro M0 w cargs hM hg ha;refine hc M0 w cargs hM hg ⟨ha.1,λi c hi=>?_⟩
 match i,hi with
 |0,hi=>exact ha.2 0 c hi
 |1,hi=>cases hi;exact h _ _ _ (ha.2 1 b' rfl)
theorem NF {A} {T} (K) (hT:∀ t,T t=A.tmps t\/T t=.undef\/∃ q v,T t=.p v/\xV (eH (λi=>!K i) A.h) (A.tmps t)=some q/\GM q v) :
  fW P A { A with tmps:=T,h:=eH K A.h } :=
 ⟨rfl,rfl,λM0 S0 b cs0 m a w hr=>by
  have hr2:=hr.ahead (m':=gC K m) (h':=eH K A.h) (w':=w) (BG ⟨m,A.h,w⟩ K _) (yV hr.hok K);refine ⟨gC K m,hr2.size,λt=>?_,hr2.hok,hr2.ev,hr2.le,?_,hr2.rc⟩
  .show Rep M0 ⟨gC K m,eH K A.h,w⟩ (a.tmps.getD t undef) (T t);rcases hT t with h | h | ⟨q,v,h,hq,hle⟩
   .rw [h];exact hr2.tmps t
   .rw [h];exact trivial
   .rw [h];exact hle _ _ _ (yX (S:=⟨m,A.h,w⟩) hr.hok K (hr.tmps t) hq)
  .exact hr2.df⟩
theorem CN {A:AAct} (f:AV->Option PV) (live) (t):∀ l:List (Nat×PV),(∀ p,p∈l->∃ q,f (A.tmps p.1)=some q/\GM q p.2) ->
  cY ((l.map λp=>(p.1,AV.p p.2))++ce A.tmps live []) t=A.tmps t\/cY ((l.map λp=>(p.1,AV.p p.2))++ce A.tmps live []) t=.undef\/∃ q v,cY ((l.map λp=>(p.1,AV.p p.2))++ce A.tmps live []) t=.p v/\f (A.tmps t)=some q/\GM q v
 |[],_=>by
  rcases wd (T:=A.tmps) live t with ⟨h1,_⟩ | h1
  .exact .inl h1
  .exact .inr (.inl h1)
 |p::l,hl=>by
  rw [bB,hG,qz];by_cases ht:t=p.1
  .rw [if_pos ht];subst ht;obtain ⟨q,h1,h2⟩:=hl p (by simp);exact .inr (.inr ⟨q,p.2,rfl,h1,h2⟩)
  .rw [if_neg ht];exact CN f live t l λq hq=>hl q (by simp [hq])
theorem Vg {c} {Q} {A} (K) (live) (l:List (Nat×PV)) (h') (hh:eH K A.h=h') (hd:A.df=[])
  (hl:∀ p,p∈l->∃ q,xV (eH (λi=>!K i) A.h) (A.tmps p.1)=some q/\GM q p.2) (k:SW P H c Q { n:=A.n,bs:=A.bs,rc:=A.rc,tmps:=cY ((l.map λp=>(p.1,AV.p p.2))++ce A.tmps live []),h:=h',df:=[] }):SW P H c Q A:=by
 subst hh;have hw:=NF (P:=P) (A:=A) (T:=cY ((l.map λp=>(p.1,AV.p p.2))++ce A.tmps live [])) K (λt=>CN _ live t l hl);refine S9 hw ?_;rw [hd];exact k
theorem ZJ {y} {Q} {A}:@WQ ⟨eK (SW P H y Q) Q⟩ .normal A=SW P H y Q A:=rfl
attribute [go_sem] ZJ
end Abs
end Go.Proofs.YtfafnkpfamgbbaaGreatDoor
namespace Go.Proofs.YtfafnkpfamgbbaaGreatDoor
namespace Abs
namespace Ch
set_option maxRecDepth 4000
theorem Gd (s):ah TP 9 [s.pv] (.bool ((bm s).2.2==0)):=by
 refine aa (ai (by kernel_rfl) rfl ok9) rfl ?_;simp only [go_sem,simprocAttr];refine ae (Hv s) rfl ?_;simp only [al,go_sem,simprocAttr]
def Ew:List UInt8:=[110,111,32]
def dF (a:List UInt8):Bool:=decide (3<a.length)&&(a.take 3==Ew)
theorem Da (a):ah TP 17 [.str (bs a)] (.bool (dF a)):=by
 refine aa (ai (by kernel_rfl) rfl zcn) rfl ?_;have hsz:((bs a).size:Int)=(a.length:Int):=by rw [aq]
 have c0:(⟨#[110,111,32]⟩:ByteArray)=bs Ew:=rfl;by_cases h:3<a.length
 .have b1:decide ((3:Int)<(a.length:Int))=true:=decide_eq_true (by omega);have h3:(3:Int)<=(a.length:Int):=by omega
  have e3:(bs a).extract 0 3=bs (a.take 3):=by rw [cZ,nq]
  simp only [hsz,b1,h3,e3,c0,cf,dF,h,decide_true,go_sem,simprocAttr]
 .have b1:decide ((3:Int)<(a.length:Int))=false:=decide_eq_false (by omega);simp only [hsz,b1,dF,h,decide_false,go_sem,simprocAttr]
def gx (l:List UInt8):List UInt8:=(yw l).1.verb
theorem MK (l):ah TP 19 [.str (bs l)] (.str (bs (gx l))):=by
 refine aa (ai (by kernel_rfl) rfl zcl) rfl ?_;simp only [go_sem,simprocAttr];refine ae (Zw l) rfl ?_;simp only [Said.pv,gx,go_sem,simprocAttr]
def dc:List (List UInt8)->List (List UInt8)->List (List UInt8)
 |l::ls,a::an=>(if (cL (gx l)&&!dF a)=true then [l] else [])++dc ls an
 |_,_=>[]
theorem uX:∀ (ls an) (l a),ls.length=an.length->dc (ls++[l]) (an++[a])=dc ls an++(if (cL (gx l)&&!dF a)=true then [l] else [])
 |[],[],l,a,_=>by simp [dc]
 |x::ls,y::an,l,a,h=>by
  rw [hG,hG,dc,dc,uX ls an l a (by simpa using h),cE]
 |[],_::_,_,_,h=>by cases h
 |_::_,[],_,_,h=>by cases h
theorem SD {s} {b b'} {c} {a} (hc:c.written=false) (h:aR s b c=.ok (b',a)):b'=b:=by
 cases c with
 |lot name kind grams rs=>cases hc
 |batch name colour lot grams=>cases hc
 |drop name=>cases hc
 |pour c=>cases hc
 |test text=>cases hc
 |box kind hours=>cases hc
 |plan c =>
  simp only [aR] at h;split at h
  .cases h
  .cases h;rfl
 |promise kind =>
  simp only [aR] at h;split at h
  .cases h
  .cases h;rfl
 |look =>
  simp only [aR] at h
  cases h;rfl
 |wick kind a1 b1 c1 d1 =>
  simp only [aR] at h;split at h
  .cases h
  split at h
  .cases h
  split at h
  .cases h
  split at h
  .cases h
  cases h;rfl
 |blend a1 b1 c1 =>
  simp only [aR] at h;split at h
  .cases h
  cases h;rfl
 |stock =>
  simp only [aR] at h;cases h;rfl
theorem vn {l} {c} (h:fD l=.ok c):cL (gx l)=c.written:=by
 unfold gx yw;rw [h];exact Es c
theorem NI {l} {e} (h:fD l=.error e):cL (gx l)=false:=by
 unfold gx yw;rw [h];rfl
def E0 (a:List UInt8):Prop:=a.length<=3\/a[0]?≠some 110
theorem Cz {a} (h:E0 a):dF a=false:=by
 unfold dF;rcases h with h | h
 .rw [decide_eq_false (by omega)];rfl
 .have:(a.take 3==Ew)=false:=by
   rw [beq_eq_false_iff_ne];intro e;apply h
   cases a with
   |nil=>cases e
   |cons x a =>
    have:=congrArg (λl:List UInt8=>l[0]?) e;simpa [Ew] using this
  rw [this,Bool.and_false]
theorem FV (n):∀ b,(bH n)[0]?=some b->b≠110:=by
 intro b hb he;have:=qG n.toNat b (aL hb);rw [he] at this;exact absurd this.2 (by decide)
theorem FT (n):(bH n)≠[]:=lz _
theorem J7 (x) (r) (h:x≠[]):(joinL (x::r))[0]?=x[0]?:=by
 cases r with
 |nil=>rfl
 |cons y r =>
  rw [joinL,yW h]
theorem ug {x} {r} (h:x≠[]) (h2:∀ b,x[0]?=some b->b≠110):E0 (joinL (x::r)):=by
 right;rw [J7 x r h];intro e;exact h2 110 e rfl
theorem Dr {s} {b b'} {c} {a} (hc:c.written=true) (h:aR s b c=.ok (b',a)):E0 a:=by
 cases c with
 |lot name kind grams rs =>
  simp only [aR] at h;split at h
  .cases h
  split at h
  .cases h
  split at h
  .cases h
  split at h
  .cases h
  split at h
  .cases h
  cases h;refine ug ?_ ?_
  .unfold kG;split
   .decide
   .split<;>decide
  .unfold kG;intro b hb;split at hb
   .cases hb;decide
   .split at hb<;>cases hb<;>decide
 |batch name colour lot grams =>
  simp only [aR] at h;split at h
  .cases h
  split at h
  .cases h
  split at h
  .cases h
  split at h
  .cases h
  split at h
  .cases h
  split at h
  .cases h
  split at h
  .cases h
  cases h
  left;decide
 |drop name =>
  simp only [aR] at h;split at h
  .cases h
  split at h
  .cases h
  split at h
  .cases h
  cases h
  left;decide
 |pour c =>
  simp only [aR] at h;split at h
  .cases h
  .cases h;right;intro e
   exact FV _ 110 e rfl
 |test text =>
  simp only [aR] at h;split at h
  .cases h
  split at h
  .cases h
  cases h;split
  .exact ug (FT _) (FV _)
  .exact ug (by decide) (λb hb=>by cases hb;decide)
 |box kind hours =>
  simp only [aR] at h;split at h
  .cases h
  split at h
  .cases h
  split at h
  .cases h
  cases h
  left;decide
 |plan c=>cases hc
 |promise kind=>cases hc
 |look=>cases hc
 |wick kind a1 b1 c1 d1=>cases hc
 |blend a1 b1 c1=>cases hc
 |stock=>cases hc
theorem JJ (e):dF (joinL [H9,bH e])=true:=by
 have h:joinL [H9,bH e]=[110,111,32]++bH e:=rfl;have hp:0<(bH e).length:=tN.2 (FT e);unfold dF;rw [h];simp [Ew];omega
def uR (s:ChShop) (b:ChBooks) (l:List UInt8):List UInt8:=match eh s b l with | .error e=>joinL [H9,bH e] | .ok (_,a,_)=>a
def qf (s:ChShop) (b:ChBooks) (l:List UInt8):ChBooks:=match eh s b l with | .error _=>b | .ok (b',_,_)=>b'
def q8 (s:ChShop) (b:ChBooks) (l:List UInt8):List (List UInt8):=match eh s b l with | .error _=>[] | .ok (_,_,w)=>if w=true then [l] else []
theorem QX (s) (q) (l):eE s q l=(qf s q.1 l,q.2.1++[uR s q.1 l],q.2.2++q8 s q.1 l):=by
 unfold eE qf uR q8
 cases eh s q.1 l with
 |error e=>simp
 |ok x =>
  obtain ⟨b,a,w⟩:=x;cases w<;>simp
theorem BM {s} {b} {l} {e} (hs:fD l=.error e):eh s b l=.error e:=by simp [eh,hs]
theorem BK {s} {b} {l} {c} {e} (hs:fD l=.ok c) (ha:aR s b c=.error e):eh s b l=.error e:=by simp [eh,hs,ha]
theorem BJ {s} {b b'} {l a} {c} (hs:fD l=.ok c) (ha:aR s b c=.ok (b',a)):eh s b l=.ok (b',a,c.written):=by simp [eh,hs,ha]
theorem PR (s) (b) (l):q8 s b l=if (cL (gx l)&&!dF (uR s b l))=true then [l] else []:=by
 unfold q8 uR
 cases hs:fD l with
 |error e=>rw [BM hs,NI hs];simp
 |ok c =>
  rw [vn hs]
  cases ha:aR s b c with
  |error e=>rw [BK hs ha];simp [JJ]
  |ok x =>
   obtain ⟨b',a⟩:=x;rw [BJ hs ha];simp only
   cases hw:c.written with
   |false=>simp
   |true=>simp [Cz (Dr hw ha)]
theorem IZ {s} {b} {l} (h:(cL (gx l)&&!dF (uR s b l))=false):qf s b l=b:=by
 unfold uR at h;unfold qf
 cases hs:fD l with
 |error e=>rw [BM hs]
 |ok c =>
  rw [vn hs] at h
  cases ha:aR s b c with
  |error e=>rw [BK hs ha]
  |ok x =>
   obtain ⟨b',a⟩:=x;rw [BJ hs ha] at h |-;simp only at h |-
   cases hw:c.written with
   |false=>exact SD hw ha
   |true =>
    rw [hw,Cz (Dr hw ha)] at h;cases h
def fV (s:ChShop):ChBooks->List (List UInt8)->List (List UInt8)
 |_,[]=>[]
 |b,l::r=>uR s b l::fV s (qf s b l) r
def iQ (s:ChShop):ChBooks->List (List UInt8)->ChBooks
 |b,[]=>b
 |b,l::r=>iQ s (qf s b l) r
def jy (s:ChShop):ChBooks->List (List UInt8)->List (List UInt8)
 |_,[]=>[]
 |b,l::r=>q8 s b l++jy s (qf s b l) r
theorem IG (s):∀ (d) (q),d.foldl (eE s) q=(iQ s q.1 d,q.2.1++fV s q.1 d,q.2.2++jy s q.1 d)
 |[],q=>by simp [iQ,fV,jy]
 |l::d,q=>by
  rw [my,IG s d,QX];simp [iQ,fV,jy]
theorem pC (s) (d):bN s d=(iQ s aS d,fV s aS d,jy s aS d):=by
 rw [bN,IG];simp
theorem rP (s):∀ (d) (b),(fV s b d).length=d.length
 |[],_=>rfl
 |l::d,b=>by rw [fV,ct,ct,rP s d]
theorem ze (s):∀ (d e) (b),fV s b (d++e)=fV s b d++fV s (iQ s b d) e
 |[],_,_=>rfl
 |l::d,e,b=>by rw [hG,fV,ze s d e,fV,iQ];rfl
theorem zb (s):∀ (d e) (b),iQ s b (d++e)=iQ s (iQ s b d) e
 |[],_,_=>rfl
 |l::d,e,b=>by rw [hG,iQ,zb s d e,iQ]
theorem Bh (s):∀ (d) (b),jy s b d=dc d (fV s b d)
 |[],_=>rfl
 |l::d,b=>by rw [jy,fV,dc,PR,Bh s d]
end Ch
end Abs
end Go.Proofs.YtfafnkpfamgbbaaGreatDoor
