/- CONTRACTS of the program's functions, and laws on what they return. No conditions but those in the theorems' heads. -/
import Derived.Test.YtnjiadikeacfaaaGreatDoorChBkX
set_option linter.all false
open Go.Proofs.Tryz renaming prog->TP
namespace Go.Proofs.YtnjiadikeacfaaaGreatDoor
namespace Abs
namespace Ch
set_option maxRecDepth 4000
theorem SOk.colours{s}(h:SOk s):s.colour.colours.length<1000000000:=by
 have:=(Cl.wG h.colour).len;omega
def Id (x:ClBatch):AV:=.p x.pv
theorem VL(n)(h)(l:List ClBatch):aS (ci n h) (l.map Id)=some (l.map ClBatch.pv):=de (ef n h) ClBatch.pv l
theorem V6(n)(x):below n (Id x)=True:=eq_true trivial
attribute [go_sem] VL V6
def j5 (l:List ChBatch):List ClBatch:=l.map λx=>⟨x.colour,x.grams⟩
theorem L5(s)(b)(ex)(n)(hs:SOk s)(hb:BkOk s b n)(c)(o)(m)(hq:lC s b c=.ok (o,m)) :
  aB TP 209 [.ptr 2 1 0 0,.p (.str (bs c))] (B7 s b ex) (λr h'=>r=.ret (.p (.tuple [.slice 1 (o.map Cl.pX) false,.int .i64 m]))/\h'=B7 s b ex):=by
 have hl:=hb.batches;have hc9:=hs.colours;unfold lC at hq;dsimp only at hq;split at hq
 .cases hq
 rename_i h0;split at hq
 .cases hq
 rename_i h1;have h1':Cl.dJ s.colour (az (λx:ClColour=>x.name==bs c) s.colour.colours 0) (eL b)=0:=by simpa using h1
 split at hq
 .cases hq
 rename_i q h2;cases hq;refine oZ (ah Tryz.func209 rfl (by kernel_rfl)) rfl ?_;simp only[ChShop.cells,go_sem,simprocAttr];refine ae (MA s.colour.colours (bs c) false hc9 (by omega)) rfl ?_;simp only[go_sem,simprocAttr];refine ck 7 2 (by simp only[go_sem,simprocAttr]) ?_;simp only[go_sem,simprocAttr];refine bm [0,6,25,26] b.batches (by omega) (τ:=Unit) (λdone rest _=>True) (λdone _=>[(7,.slice 7 done.length 0 done.length),(27,.p (.int .i64 done.length))]) (λdone _=>B7 s b ex++[.row 2 ((j5 done).map Id)]) () trivial ?_ ?_ ?_
 .simp only[ChShop.cells,j5,bj,go_sem,simprocAttr]
 .intro _ _;have hw:j5 b.batches=eL b:=rfl;have hwl:(eL b).length=b.batches.length:=by simp only[eL,dL]
  have hB:=Cl.PP s.colour (az (λx:ClColour=>x.name==bs c) s.colour.colours 0) (eL b) (by rw[hwl];omega);rw[Cl.r6,if_pos h1',h2]at hB;simp only[ChShop.cells,hw,go_sem,simprocAttr];refine wn hB ?_ ?_
  .simp only[hwl,go_sem,simprocAttr];rw[gv (by rw[dL,hwl];exact bi _)]
  simp only[go_sem,simprocAttr];refine au (λ_=>?_) (λh=>by cases h);simp only[go_sem,simprocAttr]
 .intro done w r _ e1 _ hx hlt hnx;have hx':=wi hx ex;have hrm:done.length+1<=ar:=by rw[e1]at hl;simp at hl;simp only[ar];omega
  have hwd:(j5 done).length=done.length:=by simp[j5]
  simp only[ChShop.cells,hlt,hx',hrm,hwd,go_sem,simprocAttr];refine aE e1 () trivial ?_;simp only[hnx,j5,aK,ca,bD,bj,Id,ClBatch.pv,go_sem,simprocAttr]
def Wb (s:ChShop) (b:ChBooks) (ex:List PV) (e:Int) (r:AEnd) (h':Heap):Prop:=r=.panic (f9 e)/\h'=B7 s b ex
theorem L6(s)(b)(ex)(n)(hs:SOk s)(hb:BkOk s b n)(c)(e)(hq:lC s b c=.error e) :
  aB TP 209 [.ptr 2 1 0 0,.p (.str (bs c))] (B7 s b ex) (Wb s b ex e):=by
 have hl:=hb.batches;have hc9:=hs.colours;refine bK (ah Tryz.func209 rfl (by kernel_rfl)) rfl ?_;simp only[ChShop.cells,go_sem,simprocAttr];by_cases h0:az (λx:ClColour=>x.name==bs c) s.colour.colours 0<0
 .have he:e=4:=by
   unfold lC at hq;dsimp only at hq;rw[if_pos h0]at hq;cases hq;rfl
  subst he;refine ro (Tc s.colour.colours (bs c) false hc9 h0) rfl (mv _) ?_;simp only[go_sem,simprocAttr];exact⟨_,[],(bw _).symm,rfl,fi s b ex,trivial,rfl,rfl⟩
 obtain⟨hp,hne⟩:Cl.r6 s.colour (az (λx:ClColour=>x.name==bs c) s.colour.colours 0) (eL b)=.tuple [.nilslice,.int .i64 0,.int .i64 e]/\(e==0)=false:=by
  unfold lC at hq;dsimp only at hq;rw[if_neg h0]at hq;split at hq
  .rename_i h1;cases hq;rw[Cl.r6,if_neg h1];exact⟨rfl,by simpa using h1⟩
  .rename_i h1;have h1':Cl.dJ s.colour (az (λx:ClColour=>x.name==bs c) s.colour.colours 0) (eL b)=0:=by simpa using h1
   split at hq
   .rename_i h2;cases hq;rw[Cl.r6,if_pos h1',h2];exact⟨rfl,rfl⟩
   .cases hq
 refine ae (MA s.colour.colours (bs c) false hc9 (by omega)) rfl ?_;simp only[go_sem,simprocAttr];refine ck 7 2 (by simp only[go_sem,simprocAttr]) ?_;simp only[go_sem,simprocAttr];refine bm [0,6,25,26] b.batches (by omega) (τ:=Unit) (λdone rest _=>True) (λdone _=>[(7,.slice 7 done.length 0 done.length),(27,.p (.int .i64 done.length))]) (λdone _=>B7 s b ex++[.row 2 ((j5 done).map Id)]) () trivial ?_ ?_ ?_
 .simp only[ChShop.cells,j5,bj,go_sem,simprocAttr]
 .intro _ _;have hw:j5 b.batches=eL b:=rfl;have hwl:(eL b).length=b.batches.length:=by simp only[eL,dL]
  have hB:=Cl.PP s.colour (az (λx:ClColour=>x.name==bs c) s.colour.colours 0) (eL b) (by rw[hwl];omega);rw[hp]at hB;simp only[ChShop.cells,hw,go_sem,simprocAttr];refine wn hB ?_ ?_
  .simp only[hwl,go_sem,simprocAttr];rw[gv (by rw[dL,hwl];exact bi _)]
  simp only[hne,go_sem,simprocAttr];refine au (λh=>by cases h) (λ_=>?_);simp only[go_sem,simprocAttr];exact⟨_,_,rfl,rfl,fi s b ex,trivial,rfl,rfl⟩
 .intro done w r _ e1 _ hx hlt hnx;have hx':=wi hx ex;have hrm:done.length+1<=ar:=by rw[e1]at hl;simp at hl;simp only[ar];omega
  have hwd:(j5 done).length=done.length:=by simp[j5]
  simp only[ChShop.cells,hlt,hx',hrm,hwd,go_sem,simprocAttr];refine aE e1 () trivial ?_;simp only[hnx,j5,aK,ca,bD,bj,Id,ClBatch.pv,go_sem,simprocAttr]
theorem uB{s}{b}{c}{o}{m}(hs:SOk s){n}(hb:BkOk s b n)(hq:lC s b c=.ok (o,m)):o.Perm (List.range b.batches.length)/\0<=m/\m<=210000:=by
 unfold lC at hq;dsimp only at hq;split at hq
 .cases hq
 split at hq
 .cases hq
 split at hq
 .cases hq
 rename_i q h2;cases hq;have hwl:(eL b).length=b.batches.length:=by simp only[eL,dL]
 unfold Cl.Aw at h2;rw[hwl]at h2;have hl:(List.range b.batches.length).length<=7:=by rw[List.length_range];exact hb.batches
 have hS:=Cl.mV (need:=Cl.iX s.colour (eL b)) (col:=Cl.lG (eL b)) (λc j n h=>by
  unfold Cl.iX at h;split at h
  .exact Cl.A7 (Cl.wG hs.colour) h
  .cases h) 7 (az (λx:ClColour=>x.name==bs c) s.colour.colours 0) (List.range b.batches.length)
 rw[h2]at hS;refine⟨Cl.CO hl h2,?_,?_⟩
 .exact(hS o m rfl).1
 .have:=(hS o m rfl).2;omega
def jq (b:ChBooks) (o:List Nat):List Word:=o.map λi=>.s (qP b.batches i)
theorem QD(b)(o)(m):(jq b o++[Word.n m]).flatMap Word.ws=o.map (qP b.batches)++[bC m]:=by
 rw[rB]
 congr 1
 induction o with
 |nil=>rfl
 |cons x r ih=>simp only[jq,bD,mN]at ih |-;rw[ih];rfl
theorem Jn{s}{b}{n}(hb:BkOk s b n)(i):(qP b.batches i).length<=1000:=by
 unfold qP;split
 .rename_i x hx;have h:=(hb.waits x (aT hx)).2.2;unfold bl;have:x.name.data.toList.length=x.name.size:=by show x.name.data.toList.length=x.name.data.size;exact BO
  omega
 .exact cV _
theorem DD(s)(b)(ex)(n)(hs:SOk s)(hb:BkOk s b n)(c):aB TP 141 [.ptr 2 1 0 0,.p (.str (bs c))] (B7 s b ex) (j4 s b ex (aP s b (.plan c))):=by
 have hl:=hb.batches;refine bK (ah Tryz.func141 rfl (by kernel_rfl)) rfl ?_;simp only[ChShop.cells,go_sem,simprocAttr]
 cases hq:lC s b c with
 |error e=>
  refine s9 (L6 s b ex n hs hb c e hq) ?_;simp only[go_sem,simprocAttr]
  exact dl (e:=e) (by simp only[aP,hq]) [] (bw _).symm
 |ok q=>
  obtain⟨o,m⟩:=q;obtain⟨f1,f2,f3⟩:=uB hs hb hq;have fl:o.length=b.batches.length:=by rw[f1.length_eq,List.length_range]
  refine ct (v:=.p (.tuple [.slice 1 (o.map Cl.pX) false,.int .i64 m])) (h':=B7 s b ex) (L5 s b ex n hs hb c o m hq) ?_;simp only[go_sem,simprocAttr];refine ck 7 1 (by simp only[go_sem,simprocAttr]) ?_;simp only[go_sem,simprocAttr];refine bm [0,6,16,17] o (by omega) (τ:=Unit) (λdone rest _=>True) (λdone _=>[(7,.slice 7 done.length 0 done.length),(18,.p (.int .i64 done.length))]) (λdone _=>B7 s b ex++[.row 1 ((jq b done).map rE)]) () trivial ?_ ?_ ?_
  .simp only[ChShop.cells,jq,bj,go_sem,simprocAttr]
  .intro _ _;have hpl:(jq b o).length=o.length:=by simp[jq]
   have hrm:o.length+1<=ar:=by simp only[ar];omega
   simp only[ChShop.cells,hpl,hrm,go_sem,simprocAttr];have hsd:=oG (jq b o++[.n m]) false (by rw[aK,hpl];simp;omega) (λw hw=>by
    rcases b7.1 hw with hw|hw
    .obtain⟨i,_,rfl⟩:=dN.1 hw;exact Jn hb i
    .simp at hw;subst hw
     exact⟨f2,by omega⟩)
   refine aY hsd ?_ (.str _) ?_
   .have e:(jq b o).map rE++[AV.p (.iface 3 (.int .i64 m))]=(jq b o++[Word.n m]).map rE:=by rw[ca];rfl
    have e2:o.length+1=(jq b o++[Word.n m]).length:=by rw[aK,hpl];rfl
    simp only[e,H5,go_sem,simprocAttr];rw[e2,if_pos rfl];show some [PV.slice 1 (List.take (jq b o++[Word.n m]).length (List.map Word.pv (jq b o++[Word.n m]))) false]=_;rw[gv (by rw[dL];exact bi _)]
   simp only[go_sem,simprocAttr];exact gX (b':=b) (ex':=ex) (a:=joinL ((jq b o++[Word.n m]).flatMap Word.ws)) (by rw[QD];simp only[aP,hq]) [_] rfl
  .intro done w r _ e1 _ hx hlt hnx;have hw:w<b.batches.length:=by
    have:w∈o:=by rw[e1];simp
    have:=f1.mem_iff.1 this;exact DO.1 this
   obtain⟨y,hy⟩:∃y,b.batches[w]?=some y:=⟨_,bA hw⟩
   have hx':=wi hy ex;have hn:qP b.batches w=bl y.name:=by rw[qP,hy]
   have hwB:(w:Int)<(b.batches.length:Int):=by omega
   have hrm:done.length+1<=ar:=by rw[e1]at fl;simp at fl;simp only[ar];omega
   have hpl:(jq b done).length=done.length:=by simp[jq]
   simp only[ChShop.cells,hlt,hx,Cl.pX,hx',hwB,hrm,hpl,go_sem,simprocAttr];refine aE e1 () trivial ?_;simp only[hnx,jq,aK,ca,bD,bj,rE,Word.pv,hn,J9,go_sem,simprocAttr]
def pw (l:List ChBatch):Int:=(l.map (·.grams)).sum
theorem pS{s}{b}{n}(hb:BkOk s b n):∀d,(∀x,x∈d->x∈b.batches)->0<=pw d/\pw d<=100000*d.length
 |[],_=>by simp[pw]
 |x::r,h=>by
  have ih:=pS hb r (λy hy=>h y (by simp[hy]));have hx:=(hb.waits x (h x (by simp))).1;simp only[pw,bD,List.sum_cons,cc]at ih |-;omega
set_option maxHeartbeats 1000000 in
theorem VE(s)(b)(ex)(n)(hs:SOk s)(hb:BkOk s b n)(c):aB TP 143 [.ptr 2 1 0 0,.p (.str (bs c))] (B7 s b ex) (j4 s b ex (aP s b (.pour c))):=by
 have hl:=hb.batches;refine bK (ah Tryz.func143 rfl (by kernel_rfl)) rfl ?_;simp only[ChShop.cells,go_sem,simprocAttr]
 cases hq:lC s b c with
 |error e=>
  refine s9 (L6 s b ex n hs hb c e hq) ?_;simp only[go_sem,simprocAttr]
  exact dl (e:=e) (by simp only[aP,hq]) [] (bw _).symm
 |ok q=>
  obtain⟨o,m⟩:=q;obtain⟨f1,f2,f3⟩:=uB hs hb hq;refine ct (v:=.p (.tuple [.slice 1 (o.map Cl.pX) false,.int .i64 m])) (h':=B7 s b ex) (L5 s b ex n hs hb c o m hq) ?_;simp only[go_sem,simprocAttr];refine bm [0,6,19,20] b.batches (by omega) (τ:=Unit) (λdone rest _=>True) (λdone _=>[(21,.p (.int .i64 done.length))]) (λdone _=>B7 s { b with poured:=b.poured+pw done } ex) () trivial ?_ ?_ ?_
  .simp only[ChShop.cells,pw,bj,List.sum_nil,uR,go_sem,simprocAttr]
  .intro _ _;have hsum:=pS hb b.batches (λx hx=>hx);have hw1:=hb.poured;have hw2:=hb.lost;have hw3:=hb.few;have hwr:IntKind.i64.wrap (b.lost+m)=b.lost+m:=am (by omega) (by omega);simp only[ChShop.cells,hwr,go_sem,simprocAttr];have hsd:=oG [.n m] true (by simp) (λw hw=>by
    simp only[ce,fW,or_false]at hw;subst hw
    exact⟨f2,by omega⟩)
   refine ae hsd rfl ?_;simp only[go_sem,simprocAttr];exact Rq (b':={ b with poured:=b.poured+Nz b.batches,batches:=[],lost:=b.lost+m }) (l:=b.batches) (x:=ex) (a:=joinL ([Word.n m].flatMap Word.ws)) (by simp only[aP,hq];rfl) rfl [] (bw _).symm
  .intro done w r _ e1 _ hx hlt hnx;have hx':=wi hx ex;have hsum:=pS hb (done++[w]) (λx hx=>by rw[e1];simp at hx |-;rcases hx with h|h;exact .inl h;exact .inr (.inl h));have hdw:pw (done++[w])=pw done+w.grams:=by simp[pw]
   have hdl:(done++[w]).length<=7:=by rw[e1]at hl;simp at hl |-;omega
   have hw1:=hb.poured;have hw3:=hb.few;have hwr:IntKind.i64.wrap (b.poured+pw done+w.grams)=b.poured+(pw done+w.grams):=by rw[Int.add_assoc];exact am (by omega) (by omega)
   simp only[ChShop.cells,hlt,hx',hwr,go_sem,simprocAttr];refine aE e1 () trivial ?_;simp only[hnx,hdw,ChShop.cells,go_sem,simprocAttr]
theorem Jf{s}{a}(h:(aM s a).2=0):aO s.kinds.length (aM s a).1=0/\bn s []=0:=by
 unfold aM at h |-;split at h
 .rename_i h0;rw[if_pos h0];split at h
  .cases h
  .rename_i h1;rw[if_neg h1];split at h
   .cases h
   .rename_i t ht;split at h
    .rename_i hg;rw[if_pos hg];refine⟨?_,h0⟩;unfold ma at hg;simp only[dD,beq_iff_eq]at hg;exact hg.1
    .cases h
 .rename_i h0;exact absurd h h0
theorem yq{s}(h:bn s []=0):(hrCheck s).2.2=0:=by
 unfold bn at h;split at h
 .assumption
 .exact h
theorem Gy{nk}{t}(h:aO nk t=0):dn t=t.pv:=by
 have:=(eX h).1.two;unfold dn
 cases hm:t.marks with
 |nil=>rw[hm]at this;simp at this
 |cons m r=>simp only[HrTest.pv,hm]
theorem Tl{s}{t}{nk}(h:aO nk t=0):(jD s t).1.length<=1000/\∀i,i∈(jD s t).1->0<=i/\i<1000000000:=by
 have hl:=(eX h).1.len;have hg:∀(l:List HrMark) (i:Nat),(nh t i l).length<=l.length/\∀j,j∈nh t i l->0<=j/\j<i+l.length:=by
  intro l
  induction l with
  |nil=>intro i;exact⟨bi _,λj hj=>by cases hj⟩
  |cons m r ih=>
   intro i;have:=ih (i+1);rw[nh];refine⟨?_,λj hj=>?_⟩
   .rw[aK,cc];have:(if gy (wo t i)=true then [(i:Int)] else []).length<=1:=by split<;>simp
    omega
   .rcases b7.1 hj with hj|hj
    .split at hj
     .simp at hj;subst hj;simp;omega
     .simp at hj
    .have:=this.2 j hj;simp at this |-;omega
 unfold jD;split
 .unfold wW;split
  .simp
  .have:=hg t.marks 0;refine⟨iN this.1 (by omega),λi hi=>?_⟩;have:=this.2 i hi;simp at this;omega
 .simp
theorem IE(s)(b:ChBooks)(ex)(t):B7 s { b with tests:=b.tests++[t] } ex =
  [.dead,.dead,.row 23 [.agg ([.slice 3 b.lots.length 0 b.lots.length,.slice 4 (b.batches.length+ex.length) 0 b.batches.length,.slice 5 (b.tests.length+1) 0 (b.tests.length+1),.slice 6 b.boxes.length 0 b.boxes.length,.p (.int .i64 b.poured),.p (.int .i64 b.lost)]++s.cells.map .p)],
  .row 4 (b.lots.map kZ),.row 4 (b.batches.map cC++ex.map .p),.row 3 (b.tests.map ow++[.p t.pv]),.row 2 (b.boxes.map sA)]:=by
 simp only[B7,aK,bt,ca,bD,bj,ow]
def AG:Hints:=eu [(53,.low),(1007052,.sto),(32,.low),(40,.app 37),(5000001,.app 5)]
theorem Tg:cv AG Tryz.f129=true:=by kernel_rfl
set_option maxHeartbeats 1000000 in
theorem VC(s)(b)(ex)(n)(hs:SOk s)(hb:BkOk s b n)(text):aB TP 129 [.ptr 2 1 0 0,.p (.str (bs text))] (B7 s b ex) (j4 s b ex (aP s b (.test text))):=by
 have hl:=hb.tests;refine bK (eA (by kernel_rfl) rfl Tg) rfl ?_;simp only[ChShop.cells,go_sem,simprocAttr];refine ae (Im s.hour text) rfl ?_;by_cases he:(aM s.hour text).2=0;rotate_left
 .have he':((aM s.hour text).2==0)=false:=by simpa using he
  simp only[dn,he',go_sem,simprocAttr];refine au (λh=>by cases h) (λ_=>?_);simp only[go_sem,simprocAttr];exact dl (e:=(aM s.hour text).2) (by simp only[aP,if_pos he]) [_] rfl
 obtain⟨g1,g2⟩:=Jf he;have hpv:=Gy g1;simp only[hpv,he,HrTest.pv,go_sem,simprocAttr];refine au (λ_=>?_) (λh=>by cases h);simp only[go_sem,simprocAttr];refine au (λh2=>?_) (λh2=>?_);rotate_left
 .have h2':¬b.tests.length<8:=by simp at h2;omega
  simp only[go_sem,simprocAttr];exact dl (e:=3) (by simp only[aP,if_neg (not_not_intro he),if_pos h2']) [_] rfl
 have h2':b.tests.length<8:=by simp at h2;omega
 have h2n:¬¬b.tests.length<8:=λh=>h h2';have hrm:b.tests.length+1<=ar:=by simp only[ar];omega
 simp only[hrm,AG,aV,go_sem,simprocAttr];refine And.intro (.inr ⟨5,_,rfl,rfl⟩) ?_;refine ay (JZ s.hour (aM s.hour text).1) rfl ?_
 have hact:aP s b (.test text)=.ok ({ b with tests:=b.tests++[(aM s.hour text).1] },
   if(di s.hour (aM s.hour text).1).2=0 then joinL [bC (di s.hour (aM s.hour text).1).1.lo,bC (di s.hour (aM s.hour text).1).1.hi]
   else joinL (IZ::(jD s.hour (aM s.hour text).1).1.map bC)):=by simp only[aP,if_neg (not_not_intro he),if_neg h2n]
 by_cases hr:(di s.hour (aM s.hour text).1).2=0
 .simp only[AG,hr,Span.pv,go_sem,simprocAttr];have hrg:0<=(di s.hour (aM s.hour text).1).1.lo/\(di s.hour (aM s.hour text).1).1.lo<1000000000/\0<=(di s.hour (aM s.hour text).1).1.hi/\(di s.hour (aM s.hour text).1).1.hi<1000000000:=by
   have:=rT (eX g1).1;unfold di;split
   .split
    .dsimp only;omega
    .dsimp only;omega
   .dsimp only;omega
  have hsd:=oG [.n (di s.hour (aM s.hour text).1).1.lo,.n (di s.hour (aM s.hour text).1).1.hi] true (by simp) (λw hw=>by
   simp only[ce,fW,or_false]at hw;rcases hw with rfl|rfl
   .exact⟨hrg.1,hrg.2.1⟩
   .exact⟨hrg.2.2.1,hrg.2.2.2⟩)
  refine And.intro rfl ?_;refine ae hsd rfl ?_;simp only[go_sem,simprocAttr];rw[if_pos hr]at hact;exact gX (ex':=ex) (a:=joinL ([Word.n (di s.hour (aM s.hour text).1).1.lo,.n (di s.hour (aM s.hour text).1).1.hi].flatMap Word.ws)) hact [_,_] (congrArg (·++[_,_]) (IE s b ex (aM s.hour text).1).symm)
 .have hr':((di s.hour (aM s.hour text).1).2==0)=false:=by simpa using hr
  simp only[AG,aV,hr',Span.pv,go_sem,simprocAttr];refine And.intro rfl ?_;refine ay (Mw s.hour (aM s.hour text).1) rfl ?_;simp only[AG,mo,go_sem,simprocAttr];obtain⟨o1,o2⟩:=Tl (s:=s.hour) g1;have hsd:=oG [.s IZ,.ns (jD s.hour (aM s.hour text).1).1] true (by simp) (λw hw=>by
   simp only[ce,fW,or_false]at hw;rcases hw with rfl|rfl
   .show (3:Nat)<=1000;decide
   .exact⟨o1,o2⟩)
  refine ae hsd rfl ?_;simp only[go_sem,simprocAttr];rw[if_neg hr]at hact;exact gX (ex':=ex) (a:=joinL ([Word.s IZ,.ns (jD s.hour (aM s.hour text).1).1].flatMap Word.ws)) (by simpa[Word.ws]using hact) [_,_] (congrArg (·++[_,_]) (IE s b ex (aM s.hour text).1).symm)
theorem SX(t)(rs)(k):Wx.mf (Wx.PI t rs k):=by
 have key:∀(l:List (Nat×Nat)) (p:Span),Wx.mf p->Wx.mf (Wx.joinL (λq=>(Wx.vr (Wx.iY t rs q)).map (Wx.iR k q)) l p):=by
  intro l
  induction l with
  |nil=>intro p h;exact h
  |cons q l ih=>
   intro p h;rw[Wx.joinL];refine ih _ ?_;unfold Wx.vr;by_cases hc:(Wx.iY t rs q).lo<=(Wx.iY t rs q).hi
   .rw[if_pos hc];have hi:=Wx.EO hc;refine Wx.HY h ?_;unfold Wx.iR;split
    .omega
    .split
     .dsimp only;omega
     .dsimp only;omega
   .rw[if_neg hc];exact h
 exact key _ _ (by unfold Wx.mf;decide)
theorem I8{t}{rs}{k}(h:(Wx.bE t rs k).2.2=0):(0<=(Wx.bE t rs k).1.lo/\(Wx.bE t rs k).1.lo<1000000000)/\0<=(Wx.bE t rs k).1.hi/\(Wx.bE t rs k).1.hi<1000000000:=by
 have hB:=SX t rs k.toNat;unfold Wx.mf at hB;unfold Wx.bE at h |-;split
 .split
  .unfold Wx.mz;split
   .dsimp only;omega
   .split
    .dsimp only;omega
    .split<;>dsimp only<;>omega
  .dsimp only;omega
 .dsimp only;omega
theorem SOk.waxkinds{s}(h:SOk s):s.wax.kinds.length<1000000000:=by
 have:=(Wx.D7 h.wax).kinds;omega
theorem OW(s)(x:ChLot):af TP 196 [x.pv,.ptr 1 [.str s] 0 0] (.bool (x.name==s)):=by
 refine aa (ah Tryz.func196 rfl (by kernel_rfl)) rfl ?_;simp only[go_sem,simprocAttr]
theorem J7(s)(x:ChBatch):af TP 201 [x.pv,.ptr 1 [.str s] 0 0] (.bool (x.name==s)):=by
 refine aa (ah Tryz.func201 rfl (by kernel_rfl)) rfl ?_;simp only[go_sem,simprocAttr]
theorem Gn(s)(b:ChBooks)(ex)(t):B7 s { b with lots:=b.lots++[t] } ex =
  [.dead,.dead,.row 23 [.agg ([.slice 3 (b.lots.length+1) 0 (b.lots.length+1),.slice 4 (b.batches.length+ex.length) 0 b.batches.length,.slice 5 b.tests.length 0 b.tests.length,.slice 6 b.boxes.length 0 b.boxes.length,.p (.int .i64 b.poured),.p (.int .i64 b.lost)]++s.cells.map .p)],
  .row 4 (b.lots.map kZ++[.p t.pv]),.row 4 (b.batches.map cC++ex.map .p),.row 3 (b.tests.map ow),.row 2 (b.boxes.map sA)]:=by
 simp only[B7,aK,bt,ca,bD,bj,kZ]
def Gj:Hints:=eu [(64,.low),(76,.app 69),(5000001,.app 6)]
theorem Vh:cv Gj Tryz.f135=true:=by kernel_rfl
set_option maxHeartbeats 1000000 in
theorem X4(s)(b)(ex)(n)(hs:SOk s)(hb:BkOk s b n)(name kind)(grams)(rs)(hrs:rs.length<1000000000):aB TP 135 [.ptr 2 1 0 0,.p (.str (bs name)),.p (.str (bs kind)),.p (.int .i64 grams),.p (.slice 1 (rs.map aG) false)] (B7 s b ex) (j4 s b ex (aP s b (.lot name kind grams rs))):=by
 have hl:=hb.lots;refine bK (eA (by kernel_rfl) rfl Vh) rfl ?_;simp only[ChShop.cells,go_sem,simprocAttr];refine aY (Ar (fv:=.func (.func 196) [] [.ptr 1 [.str (bs name)] 0 0]) b.lots (λy=>y.name==bs name) false 4 rfl (by omega) λy _=>⟨_,_,_,rfl,OW (bs name) y⟩) ?_ (.bool _) ?_
 .simp only[go_sem,simprocAttr]
 simp only[go_sem,simprocAttr];refine au (λh1=>?_) (λh1=>?_);rotate_left
 .have h1':(b.lots.any λy=>y.name==bs name)=true:=by simpa using h1
  simp only[go_sem,simprocAttr];exact dl (e:=5) (by simp only[aP,if_pos h1']) [_] rfl
 have h1':¬(b.lots.any λy=>y.name==bs name)=true:=by
  intro h;rw[h]at h1;cases h1
 simp only[go_sem,simprocAttr];by_cases h2:az (λx:WxKind=>x.name==bs kind) s.wax.kinds 0<0
 .refine ro (Te s.wax.kinds (bs kind) false hs.waxkinds h2) rfl (mv _) ?_;simp only[go_sem,simprocAttr];exact dl (e:=4) (by simp only[aP,if_neg h1',if_pos h2]) [_] rfl
 refine ae (Uq s.wax.kinds (bs kind) false hs.waxkinds (by omega)) rfl ?_;by_cases h3:1<=grams/\grams<=100000;rotate_left
 .have ha:aP s b (.lot name kind grams rs)=.error 7:=by simp only[aP,if_neg h1',if_neg h2,if_pos h3]
  by_cases hg:1<=grams
  .have hg2:decide (grams<=100000)=false:=by simpa using λh=>h3 ⟨hg,h⟩
   have hg1:decide (1<=grams)=true:=by simpa using hg
   simp only[hg1,hg2,go_sem,simprocAttr];refine au (λh=>by cases h) (λ_=>?_);simp only[go_sem,simprocAttr];exact dl (e:=7) ha [_] rfl
  .have hg1:decide (1<=grams)=false:=by simpa using hg
   simp only[hg1,go_sem,simprocAttr];refine au (λh=>by cases h) (λ_=>?_);simp only[go_sem,simprocAttr];exact dl (e:=7) ha [_] rfl
 have h3n:¬¬(1<=grams/\grams<=100000):=λh=>h h3;simp only[h3.1,h3.2,go_sem,simprocAttr];refine au (λ_=>?_) (λh=>by cases h);simp only[go_sem,simprocAttr];refine ae (Wx.VW s.wax rs (az (λx:WxKind=>x.name==bs kind) s.wax.kinds 0) hrs) rfl ?_;by_cases h4:(Wx.bE s.wax rs (az (λx:WxKind=>x.name==bs kind) s.wax.kinds 0)).2.2=0;rotate_left
 .have h4':((Wx.bE s.wax rs (az (λx:WxKind=>x.name==bs kind) s.wax.kinds 0)).2.2==0)=false:=by simpa using h4
  simp only[h4',Span.pv,go_sem,simprocAttr];refine au (λh=>by cases h) (λ_=>?_);simp only[go_sem,simprocAttr];exact dl (e:=(Wx.bE s.wax rs (az (λx:WxKind=>x.name==bs kind) s.wax.kinds 0)).2.2) (by simp only[aP,if_neg h1',if_neg h2,if_neg h3n,if_pos h4]) [_,_] rfl
 have h4n:¬(Wx.bE s.wax rs (az (λx:WxKind=>x.name==bs kind) s.wax.kinds 0)).2.2≠0:=λh=>h h4;obtain⟨r1,r2⟩:=I8 h4;simp only[h4,Span.pv,go_sem,simprocAttr];refine au (λ_=>?_) (λh=>by cases h);simp only[go_sem,simprocAttr];refine au (λh5=>?_) (λh5=>?_);rotate_left
 .have h5':¬b.lots.length<8:=by simp at h5;omega
  simp only[go_sem,simprocAttr];exact dl (e:=3) (by simp only[aP,if_neg h1',if_neg h2,if_neg h3n,if_neg h4n,if_pos h5']) [_,_] rfl
 have h5':b.lots.length<8:=by simp at h5;omega
 have h5n:¬¬b.lots.length<8:=λh=>h h5';have hrm:b.lots.length+1<=ar:=by simp only[ar];omega
 have hact:aP s b (.lot name kind grams rs)=.ok ({ b with lots:=b.lots++[⟨bs name,az (λx:WxKind=>x.name==bs kind) s.wax.kinds 0,grams,rs⟩] },joinL [km (Wx.bE s.wax rs (az (λx:WxKind=>x.name==bs kind) s.wax.kinds 0)).2.1,bC (Wx.bE s.wax rs (az (λx:WxKind=>x.name==bs kind) s.wax.kinds 0)).1.lo,bC (Wx.bE s.wax rs (az (λx:WxKind=>x.name==bs kind) s.wax.kinds 0)).1.hi]):=by
  simp only[aP,if_neg h1',if_neg h2,if_neg h3n,if_neg h4n,if_neg h5n]
 simp only[hrm,Gj,aV,go_sem,simprocAttr];refine And.intro (.inr ⟨3,_,rfl,rfl⟩) ?_;have hsd:∀w:List UInt8,w.length<=1000->af TP 93 [.slice 1 ([Word.s w,.n (Wx.bE s.wax rs (az (λx:WxKind=>x.name==bs kind) s.wax.kinds 0)).1.lo,.n (Wx.bE s.wax rs (az (λx:WxKind=>x.name==bs kind) s.wax.kinds 0)).1.hi].map Word.pv) true] _:=λw hw=>oG [.s w,.n (Wx.bE s.wax rs (az (λx:WxKind=>x.name==bs kind) s.wax.kinds 0)).1.lo,.n (Wx.bE s.wax rs (az (λx:WxKind=>x.name==bs kind) s.wax.kinds 0)).1.hi] true (by simp) (λx hx=>by
  simp only[ce,fW,or_false]at hx;rcases hx with rfl|rfl|rfl
  .exact hw
  .exact r1
  .exact r2)
 by_cases v1:(Wx.bE s.wax rs (az (λx:WxKind=>x.name==bs kind) s.wax.kinds 0)).2.1=1
 .have hv:km (Wx.bE s.wax rs (az (λx:WxKind=>x.name==bs kind) s.wax.kinds 0)).2.1=DA:=by rw[km,if_pos v1]
  simp only[v1,Gj,go_sem,simprocAttr];refine ae (hsd DA (by decide)) rfl ?_;simp only[go_sem,simprocAttr];exact gX (ex':=ex) (a:=joinL ([Word.s DA,.n (Wx.bE s.wax rs (az (λx:WxKind=>x.name==bs kind) s.wax.kinds 0)).1.lo,.n (Wx.bE s.wax rs (az (λx:WxKind=>x.name==bs kind) s.wax.kinds 0)).1.hi].flatMap Word.ws)) (by rw[hact,hv];rfl) [_,_] (congrArg (·++[_,_]) (Gn s b ex ⟨bs name,az (λx:WxKind=>x.name==bs kind) s.wax.kinds 0,grams,rs⟩).symm)
 have v1':((Wx.bE s.wax rs (az (λx:WxKind=>x.name==bs kind) s.wax.kinds 0)).2.1==1)=false:=by simpa using v1
 by_cases v2:(Wx.bE s.wax rs (az (λx:WxKind=>x.name==bs kind) s.wax.kinds 0)).2.1=2
 .have hv:km (Wx.bE s.wax rs (az (λx:WxKind=>x.name==bs kind) s.wax.kinds 0)).2.1=tB:=by rw[km,if_neg v1,if_pos v2]
  simp only[v2,Gj,go_sem,simprocAttr];refine ae (hsd tB (by decide)) rfl ?_;simp only[go_sem,simprocAttr];exact gX (ex':=ex) (a:=joinL ([Word.s tB,.n (Wx.bE s.wax rs (az (λx:WxKind=>x.name==bs kind) s.wax.kinds 0)).1.lo,.n (Wx.bE s.wax rs (az (λx:WxKind=>x.name==bs kind) s.wax.kinds 0)).1.hi].flatMap Word.ws)) (by rw[hact,hv];rfl) [_,_] (congrArg (·++[_,_]) (Gn s b ex ⟨bs name,az (λx:WxKind=>x.name==bs kind) s.wax.kinds 0,grams,rs⟩).symm)
 have v2':((Wx.bE s.wax rs (az (λx:WxKind=>x.name==bs kind) s.wax.kinds 0)).2.1==2)=false:=by simpa using v2
 have hv:km (Wx.bE s.wax rs (az (λx:WxKind=>x.name==bs kind) s.wax.kinds 0)).2.1=wB:=by rw[km,if_neg v1,if_neg v2]
 simp only[v1',v2',Gj,go_sem,simprocAttr];refine ae (hsd wB (by decide)) rfl ?_;simp only[go_sem,simprocAttr];exact gX (ex':=ex) (a:=joinL ([Word.s wB,.n (Wx.bE s.wax rs (az (λx:WxKind=>x.name==bs kind) s.wax.kinds 0)).1.lo,.n (Wx.bE s.wax rs (az (λx:WxKind=>x.name==bs kind) s.wax.kinds 0)).1.hi].flatMap Word.ws)) (by rw[hact,hv];rfl) [_,_] (congrArg (·++[_,_]) (Gn s b ex ⟨bs name,az (λx:WxKind=>x.name==bs kind) s.wax.kinds 0,grams,rs⟩).symm)
theorem rS{α}(p):∀(l) (k),az p l k<0\/∃(j:Nat) (x:α),az p l k=((k+j:Nat):Int)/\l[j]?=some x/\p x=true
 |[],k=>.inl (by simp[az])
 |y::l,k=>by
  rw[az];split
  .rename_i h;exact .inr ⟨0,y,by simp,rfl,h⟩
  .rcases rS p l (k+1) with h|⟨j,x,h1,h2,h3⟩
   .exact .inl h
   .exact .inr ⟨j+1,x,by rw[h1];congr 1;omega,by simpa using h2,h3⟩
theorem Na(s)(b:ChBooks)(ex)(ls)(t):B7 s { b with lots:=ls,batches:=b.batches++[t] } ex =
  [.dead,.dead,.row 23 [.agg ([.slice 3 ls.length 0 ls.length,.slice 4 (b.batches.length+1+ex.length) 0 (b.batches.length+1),.slice 5 b.tests.length 0 b.tests.length,.slice 6 b.boxes.length 0 b.boxes.length,.p (.int .i64 b.poured),.p (.int .i64 b.lost)]++s.cells.map .p)],
  .row 4 (ls.map kZ),.row 4 (b.batches.map cC++[.p t.pv]++ex.map .p),.row 3 (b.tests.map ow),.row 2 (b.boxes.map sA)]:=by
 simp only[B7,aK,bt,ca,bD,bj,cC]
theorem mh(l:List ChBatch)(ex):(l.map ChBatch.pv++ex).take l.length=l.map ChBatch.pv:=jL (by simp)
theorem SD(s)(b:ChBooks)(ls)(t):B7 s { b with lots:=ls,batches:=b.batches++[t] } [] =
  [.dead,.dead,.row 23 [.agg ([.slice 3 ls.length 0 ls.length,.slice 4 (b.batches.length+1) 0 (b.batches.length+1),.slice 5 b.tests.length 0 b.tests.length,.slice 6 b.boxes.length 0 b.boxes.length,.p (.int .i64 b.poured),.p (.int .i64 b.lost)]++s.cells.map .p)],
  .row 4 (ls.map kZ),.row 4 (b.batches.map cC++[.p t.pv]),.row 3 (b.tests.map ow),.row 2 (b.boxes.map sA)]:=by
 rw[Na,bj,bw];rfl
def PA:Hints:=eu [(77,.low),(89,.app 82),(5000001,.app 6)]
theorem Vi:cv PA Tryz.f137=true:=by kernel_rfl
set_option maxHeartbeats 1000000 in
theorem TH(s)(b)(ex)(n)(hs:SOk s)(hb:BkOk s b n)(name colour lot)(grams):aB TP 137 [.ptr 2 1 0 0,.p (.str (bs name)),.p (.str (bs colour)),.p (.str (bs lot)),.p (.int .i64 grams)] (B7 s b ex) (j4 s b ex (aP s b (.batch name colour lot grams))):=by
 have hl:=hb.batches;have hll:=hb.lots;refine bK (eA (by kernel_rfl) rfl Vi) rfl ?_;simp only[ChShop.cells,go_sem,simprocAttr];refine aY (Aq (fv:=.func (.func 201) [] [.ptr 1 [.str (bs name)] 0 0]) b.batches (λy=>y.name==bs name) false 4 rfl (by omega) λy _=>⟨_,_,_,rfl,J7 (bs name) y⟩) ?_ (.bool _) ?_
 .simp only[go_sem,simprocAttr];rw[mh]
 simp only[go_sem,simprocAttr];refine au (λh1=>?_) (λh1=>?_);rotate_left
 .have h1':(b.batches.any λy=>y.name==bs name)=true:=by simpa using h1
  simp only[go_sem,simprocAttr];exact dl (e:=5) (by simp only[aP,if_pos h1']) [_] rfl
 have h1':¬(b.batches.any λy=>y.name==bs name)=true:=by
  intro h;rw[h]at h1;cases h1
 simp only[go_sem,simprocAttr];by_cases h2:az (λx:ClColour=>x.name==bs colour) s.colour.colours 0<0
 .refine ro (Td s.colour.colours (bs colour) false hs.colours h2) rfl (mv _) ?_;simp only[go_sem,simprocAttr];exact dl (e:=4) (by simp only[aP,if_neg h1',if_pos h2]) [_] rfl
 refine ae (Up s.colour.colours (bs colour) false hs.colours (by omega)) rfl ?_;simp only[go_sem,simprocAttr];rcases rS (λx:ChLot=>x.name==bs lot) b.lots 0 with h3|⟨j,x,hj,hx,_⟩
 .refine ro (Tb b.lots (bs lot) false (by omega) h3) ?_ (mv _) ?_
  .simp only[go_sem,simprocAttr]
  simp only[go_sem,simprocAttr];exact dl (e:=4) (by simp only[aP,if_neg h1',if_neg h2,if_pos h3]) [_] rfl
 rw[d5]at hj;have hjl:j<b.lots.length:=(ax.1 hx).1;have hjB:(j:Int)<(b.lots.length:Int):=by omega
 have h3:¬az (λx:ChLot=>x.name==bs lot) b.lots 0<0:=by rw[hj];omega
 have h3j:¬(j:Int)<0:=by omega
 have hfd:=Uo b.lots (bs lot) false (by omega) (by omega);rw[hj]at hfd;refine aY hfd ?_ (.int _ _) ?_
 .simp only[go_sem,simprocAttr]
 by_cases h4:1<=grams/\grams<=100000;rotate_left
 .have ha:aP s b (.batch name colour lot grams)=.error 7:=by simp only[aP,if_neg h1',if_neg h2,if_neg h3,if_pos h4]
  by_cases hg:1<=grams
  .have hg2:decide (grams<=100000)=false:=by simpa using λh=>h4 ⟨hg,h⟩
   have hg1:decide (1<=grams)=true:=by simpa using hg
   simp only[hg1,hg2,go_sem,simprocAttr];refine au (λh=>by cases h) (λ_=>?_);simp only[go_sem,simprocAttr];exact dl (e:=7) ha [_] rfl
  .have hg1:decide (1<=grams)=false:=by simpa using hg
   simp only[hg1,go_sem,simprocAttr];refine au (λh=>by cases h) (λ_=>?_);simp only[go_sem,simprocAttr];exact dl (e:=7) ha [_] rfl
 have h4n:¬¬(1<=grams/\grams<=100000):=λh=>h h4;have hA:kZ x=.p x.pv:=rfl;simp only[h4.1,h4.2,go_sem,simprocAttr];refine au (λ_=>?_) (λh=>by cases h);simp only[hjB,hx,hA,go_sem,simprocAttr];refine au (λh5=>?_) (λh5=>?_);rotate_left
 .have h5':¬grams<=x.grams:=by simpa using h5
  simp only[go_sem,simprocAttr];exact dl (e:=9) (by simp only[aP,if_neg h1',if_neg h2,if_neg h4n,hj,if_neg h3j,jO,hx,if_pos h5']) [_] rfl
 have h5':grams<=x.grams:=by simpa using h5
 have h5n:¬¬grams<=x.grams:=λh=>h h5';simp only[go_sem,simprocAttr];refine au (λh6=>?_) (λh6=>?_);rotate_left
 .have h6':¬b.batches.length<7:=by simp at h6;omega
  simp only[go_sem,simprocAttr];exact dl (e:=3) (by simp only[aP,if_neg h1',if_neg h2,if_neg h4n,hj,if_neg h3j,jO,hx,if_neg h5n,if_pos h6']) [_] rfl
 have h6':b.batches.length<7:=by simp at h6;omega
 have h6n:¬¬b.batches.length<7:=λh=>h h6';have hg:=hb.grams x (aT hx);have hw:IntKind.i64.wrap (x.grams-grams)=x.grams-grams:=am (by omega) (by have:=hb.few;omega);have hact:aP s b (.batch name colour lot grams)=.ok ({ b with lots:=b.lots.set j { x with grams:=x.grams-grams },batches:=b.batches++[⟨bs name,az (λx:ClColour=>x.name==bs colour) s.colour.colours 0,(j:Int),grams⟩] },BQ):=by
  simp only[aP,if_neg h1',if_neg h2,if_neg h4n,hj,if_neg h3j,jO,hx,if_neg h5n,if_neg h6n]
 have hrm:b.batches.length+1<=ar:=by simp only[ar];omega
 have hset:(b.lots.map kZ).set j (.p (.agg [.str x.name,.int .i64 x.kind,.int .i64 (x.grams-grams),.slice 1 (x.readings.map aG) false]))=(b.lots.set j { x with grams:=x.grams-grams }).map kZ:=by rw[PC];rfl
 have hsl:(b.lots.set j { x with grams:=x.grams-grams }).length=b.lots.length:=y8;simp only[hjB,hx,hA,hw,hset,go_sem,simprocAttr]
 cases ex with
 |nil=>
  simp only[PA,aV,bj,bw,cH,ik,hrm,go_sem,simprocAttr];refine And.intro (.inr ⟨4,_,rfl,rfl⟩) ?_;refine gX (ex':=[]) hact [.row 1 [.p (.str (bs name))]] ?_
  rw[SD,hsl];rfl
 |cons e ex=>
  have hc1:(b.batches.map cC++AV.p e::ex.map AV.p).length=b.batches.length+(ex.length+1):=by simp
  have hc2:(b.batches.length=b.batches.length+(ex.length+1))=False:=eq_false (by omega);have hc3:(b.batches.map cC++AV.p e::ex.map AV.p).take b.batches.length=b.batches.map cC:=jL (by simp);have hc4:(b.batches.map cC++AV.p e::ex.map AV.p).drop (b.batches.length+1)=ex.map AV.p:=by
   rw[List.drop_append];simp
  have hc5:b.batches.length+1<=b.batches.length+(ex.length+1):=by omega
  simp only[PA,aV,cc,hc1,hc2,hc3,hc4,hc5,go_sem,simprocAttr];refine And.intro (.inr ⟨4,_,rfl,rfl⟩) ?_;refine gX (ex':=ex) hact [.row 1 [.p (.str (bs name))]] ?_;rw[Na,hsl,show b.batches.length+1+ex.length=b.batches.length+(ex.length+1) by omega];rfl
def oJ:PV:=.agg [.str .empty,.int .i64 0,.int .i64 0,.int .i64 0]
theorem Q1(l:List ChBatch)(ex:List PV)(i id)(h)(hid:h[id]?=some (.row 4 (l.map cC++ex.map .p)))(hi:i<l.length)(hlen:l.length<=7) :
  aB TP 208 [.slice id (l.length+ex.length) 0 l.length,.p (.int .i64 i),.p (.int .i64 (i+1:Nat))] h
   (λr h'=>r=.ret (.slice id (l.length+ex.length) 0 (l.length-1))/\h'=h.set id (.row 4 ((l.eraseIdx i).map cC++.p oJ::ex.map .p))):=by
 refine aA (ah Tryz.func208 rfl (by kernel_rfl)) rfl ?_;have h1:(i:Int)<=((i+1:Nat):Int):=by omega
 have h2:((i+1:Nat):Int)<=(l.length:Int):=by omega
 have h2e:((i+1:Nat):Int)<=((l.length+ex.length:Nat):Int):=by omega
 have h3:((i:Int)==((i+1:Nat):Int))=false:=by simp;omega
 have h0:(0:Int)<=(i:Int):=by omega
 have h4:(0:Int)+(l.length:Int)<=((l.length+ex.length:Nat):Int):=by omega
 have h4b:(l.length:Int)<=((l.length+ex.length:Nat):Int):=by omega
 have h5:(i:Int)<=(l.length:Int):=by omega
 have h5e:(i:Int)<=((l.length+ex.length:Nat):Int):=by omega
 have h6:i+1+(l.length-(i+1))<=l.length+ex.length:=by omega
 have h7:¬(i=l.length+ex.length):=by omega
 have hys:List.take (l.length-(i+1)) (List.drop (i+1) (l.map cC++ex.map .p))=(l.drop (i+1)).map cC:=by
  rw[PD (by rw[dL];omega),<-List.map_drop,jL (by simp)]
 have h8:i+(l.length-(i+1))=l.length-1:=by omega
 have h9:l.length-1<=l.length+ex.length:=by omega
 obtain⟨z,hz⟩:∃z,List.drop (l.length-1) (l.map cC++ex.map .p)=z::ex.map AV.p:=by
  have:(List.drop (l.length-1) (l.map cC)).length=1:=by simp;omega
  match hd:List.drop (l.length-1) (l.map cC),this with
  |[z],_=>
   refine⟨z,?_⟩;rw[PD (by rw[dL];omega),hd];rfl
 have htk0:List.take i (l.map cC++ex.map AV.p)=(l.take i).map cC:=by rw[List.take_append_of_le_length (by rw[dL];omega),y6]
 have her:(l.take i).map cC++((l.drop (i+1)).map cC++z::ex.map AV.p)=(l.eraseIdx i).map cC++z::ex.map AV.p:=by
  rw[<-dq,<-ca,SF]
 have hel:(l.eraseIdx i).length=l.length-1:=by rw[xV,if_pos hi]
 have hgs:∀x,(h.set id x)[id]?=some x:=λx=>by rw[iJ (ax.1 hid).1]
 have h10:((l.length-1:Nat):Int)<=(l.length:Int):=by omega
 have h10e:((l.length-1:Nat):Int)<=((l.length+ex.length:Nat):Int):=by omega
 have h11:(0:Int)<=((l.length-1:Nat):Int):=by omega
 have h12:l.length-1+1=l.length:=by omega
 have h13:l.length-(l.length-1)=1:=by omega
 have h14:l.length-1+(l.length-(l.length-1))<=l.length+ex.length:=by omega
 have h15:¬((l.length:Int)<=((l.length-1:Nat):Int)):=by omega
 have h16:l.length<=l.length+ex.length:=by omega
 have hle2:((l.eraseIdx i).map cC++z::ex.map AV.p).length=l.length+ex.length:=by simp[hel];omega
 have hle3:(l.length-1+(ex.length+1))=l.length+ex.length:=by omega
 have htk:List.take (l.length-1) (List.map cC (l.eraseIdx i)++z::ex.map AV.p)=List.map cC (l.eraseIdx i):=jL (by rw[dL,hel]);have nJ:List.drop l.length (List.map cC (l.eraseIdx i)++z::ex.map AV.p)=ex.map AV.p:=by
  rw[List.drop_append,Dw (by rw[dL,hel];omega),dL,hel,h13];rfl
 simp only[h15,htk,nJ,hid,h0,h1,h2,h3,h4,h5,h6,h7,hys,h8,h9,hz,htk0,her,hgs,h10,h11,h12,h13,h16,hle2,Is,Nat.sub_zero,d5,List.length_drop,dq,pO,IN,Nc,oJ,go_sem,simprocAttr];rfl
theorem SC(s)(b:ChBooks)(ex)(ls)(j)(hj:j<b.batches.length):B7 s { b with lots:=ls,batches:=b.batches.eraseIdx j } (oJ::ex) =
  [.dead,.dead,.row 23 [.agg ([.slice 3 ls.length 0 ls.length,.slice 4 (b.batches.length+ex.length) 0 (b.batches.length-1),.slice 5 b.tests.length 0 b.tests.length,.slice 6 b.boxes.length 0 b.boxes.length,.p (.int .i64 b.poured),.p (.int .i64 b.lost)]++s.cells.map .p)],
  .row 4 (ls.map kZ),.row 4 ((b.batches.eraseIdx j).map cC++.p oJ::ex.map .p),.row 3 (b.tests.map ow),.row 2 (b.boxes.map sA)]:=by
 have h1:(b.batches.eraseIdx j).length=b.batches.length-1:=by rw[xV,if_pos hj]
 have h2:b.batches.length-1+(ex.length+1)=b.batches.length+ex.length:=by omega
 simp only[B7,h1,cc,h2,bD]
set_option maxHeartbeats 1000000 in
theorem VI(s)(b)(ex)(n)(hs:SOk s)(hb:BkOk s b n)(name):aB TP 139 [.ptr 2 1 0 0,.p (.str (bs name))] (B7 s b ex) (j4 s b ex (aP s b (.drop name))):=by
 have hl:=hb.batches;have hll:=hb.lots;refine bK (ah Tryz.func139 rfl (by kernel_rfl)) rfl ?_;simp only[ChShop.cells,go_sem,simprocAttr];rcases rS (λx:ChBatch=>x.name==bs name) b.batches 0 with h3|⟨j,y,hj,hy,_⟩
 .refine ro (Ta b.batches (bs name) false (by omega) h3) ?_ (mv _) ?_
  .simp only[go_sem,simprocAttr];rw[mh]
  simp only[go_sem,simprocAttr];exact dl (e:=4) (by simp only[aP,if_pos h3]) [] (bw _).symm
 rw[d5]at hj;have hjl:j<b.batches.length:=(ax.1 hy).1;have hjB:(j:Int)<(b.batches.length:Int):=by omega
 have hnj:¬(j:Int)<0:=by omega
 have hfd:=Un b.batches (bs name) false (by omega) (by omega);rw[hj]at hfd;refine aY hfd ?_ (.int _ _) ?_
 .simp only[go_sem,simprocAttr];rw[mh]
 have hy':=wi hy ex;obtain⟨⟨g1,g2⟩,⟨g3,g4⟩,_⟩:=hb.waits y (aT hy);obtain⟨k,hk⟩:=pq g3;have hkl:k<b.lots.length:=by omega
 obtain⟨x,hx⟩:∃x,b.lots[k]?=some x:=⟨_,bA hkl⟩
 have hkB:(k:Int)<(b.lots.length:Int):=by omega
 have hA:kZ x=.p x.pv:=rfl;have hg:=hb.grams x (aT hx);have hw:IntKind.i64.wrap (x.grams+y.grams)=x.grams+y.grams:=am (by omega) (by have:=hb.few;omega);have hw2:IntKind.i64.wrap ((j:Int)+1)=((j+1:Nat):Int):=by rw[am (by omega) (by omega)];rfl
 have hset:(b.lots.map kZ).set k (.p (.agg [.str x.name,.int .i64 x.kind,.int .i64 (x.grams+y.grams),.slice 1 (x.readings.map aG) false]))=(b.lots.set k { x with grams:=x.grams+y.grams }).map kZ:=by rw[PC];rfl
 have hsl:(b.lots.set k { x with grams:=x.grams+y.grams }).length=b.lots.length:=y8;have hact:aP s b (.drop name)=.ok ({ b with lots:=b.lots.set k { x with grams:=x.grams+y.grams },batches:=b.batches.eraseIdx j },BQ):=by
  simp only[aP,hj,if_neg hnj,jO,hy,hk,hx]
 simp only[hjB,hy',hk,hkB,hx,hA,hw,hset,hw2,go_sem,simprocAttr];refine ct (Q1 b.batches ex j 4 _ rfl hjl hl) ?_;simp only[go_sem,simprocAttr];refine gX (ex':=oJ::ex) hact [] ?_;rw[SC _ _ _ _ _ hjl,hsl];rfl
end Ch
end Abs
end Go.Proofs.YtnjiadikeacfaaaGreatDoor
