/- CONTRACTS of the program's functions, and laws on what they return. No conditions but those in the theorems' heads. -/
import Derived.Test.YtmndpldajflenaaGreatDoorSoGoX
set_option linter.all false
set_option maxHeartbeats 4000000
namespace Go.Proofs.YtmndpldajflenaaGreatDoor
namespace Abs
namespace Tr
set_option maxRecDepth 4000
theorem IJ{α:Type}{p:Nat->α->Bool}{l:List α}{k:Nat}{x:α}(h:l[k]?=some x):bv p (l.drop k) k=(p k x||bv p (l.drop (k+1)) (k+1)):=by
 obtain⟨hl,he⟩:=aA.1 h;rw[rN hl,he,bv]
theorem GU(b:List TrBatch)(f:Bool)(i:Nat)(x:TrBatch)(hx:b[i]?=some x)(hl:b.length<100000)(hT:∀y,y∈b->(y.takes.length:Int)<=9223372036854775807):PCall Tryz.prog 25 [.slice 5 (b.map TrBatch.pv) f,.int .i64 i] (.int .i64 (bo b i x)):=by
 have hil:=(aA.1 hx).1;have hlt:(i:Int)<(b.length:Int):=by omega
 have hTx:=hT x (aV hx);have wi:IntKind.i64.wrap ((i:Int)-1)=i-1:=aj (by omega) (by omega);have hN:fw ((b.take i).map (·.name)) x.name=if nameOk x.name=true then(if((b.take i).any λy=>y.name==x.name)=true then 5 else 0) else 6:=by
  unfold fw;rw[ub];rfl
 refine ae (am Tryz.func25 rfl) rfl ?_;simp only[hlt,hx,go_sem,simprocAttr];refine aa (Bi x.name) rfl ?_;simp only[go_sem,simprocAttr];cases hn:nameOk x.name
 .have hS:bo b i x=6:=by rw[bo,hN,hn];rfl
  simp only[hS,go_sem,simprocAttr]
 simp only[go_sem,simprocAttr]
 refine aS [0,1,5] (σ:=List TrBatch×List TrBatch) (λq=>b.take i=q.1++q.2/\((b.take i).any λy=>y.name==x.name)=q.2.any λy=>y.name==x.name) (λq=>q.2.length)
  (λq=>[(6,.p (.int .i64 q.1.length))]) (λ_=>[.row 5 [.p x.pv]]) ([],b.take i) ⟨rfl,rfl⟩ ?_ ?_
 .simp only[go_sem,simprocAttr]<;>simp
 rintro⟨done,rest⟩ ⟨e1,e2⟩
 dsimp only at e1 e2;have hlen:=congrArg List.length e1;simp at hlen
 cases rest with
 |cons y r=>
  have hy:b[done.length]?=some y:=by
   have:(b.take i)[done.length]?=some y:=by rw[e1];simp
   rw[kh]at this;split at this
   .exact this
   .cases this
  have h1:((done.length:Nat):Int)<(i:Int):=by simp at hlen;omega
  have h2:((done.length:Nat):Int)<(b.length:Int):=by omega
  have hnx:IntKind.i64.wrap ((done.length:Int)+1)=(((done++[y]).length:Nat):Int):=az (by omega) (by simp[ai];omega) (by simp);rw[eV]at e2;simp only[h1,h2,hy,go_sem,simprocAttr];cases h5:y.name==x.name
  .rw[h5,gA]at e2;simp only[go_sem,simprocAttr];refine ak (done++[y],r) ⟨by simp[e1],e2⟩ (by simp) ?_;simp only[hnx,go_sem,simprocAttr]
  .rw[h5,gY]at e2;have hS:bo b i x=5:=by rw[bo,hN,hn,e2];rfl
   simp only[hS,go_sem,simprocAttr]
 |nil=>
  have h1:¬((done.length:Nat):Int)<(i:Int):=by simp at hlen;omega
  rw[fC]at e2
  have hS:bo b i x=(if an x.grams 1 100000=true/\an x.fresh 0 x.grams=true then
   (if x.lost=true/\x.takes≠[] then 6 else
    if(x.takes.any λt=>!an t.src 0 ((i:Int)-1))=true then 4 else
    if unsorted x.takes=true then 5 else
    if(x.takes.any λt=>!an t.grams 1 100000)=true then 7 else
    if x.lost=false/\kP x.takes x.fresh≠x.grams then 2 else 0)
  else 7):=by rw[bo,hN,hn,e2];rfl
  simp only[h1,go_sem,simprocAttr];refine aa (vS _ _ _) rfl ?_;simp only[go_sem,simprocAttr];cases h6:an x.grams 1 100000
  .rw[if_neg (by rw[h6];simp)]at hS;simp only[hS,go_sem,simprocAttr]
  simp only[go_sem,simprocAttr];refine aa (vS _ _ _) rfl ?_;simp only[go_sem,simprocAttr];cases h7:an x.fresh 0 x.grams
  .rw[if_neg (by rw[h7];simp)]at hS;simp only[hS,go_sem,simprocAttr]
  rw[if_pos ⟨h6,h7⟩]at hS;simp only[go_sem,simprocAttr];have hlen0:decide ((0:Int)<(x.takes.length:Int))=decide (x.takes≠[]):=by
   cases x.takes<;>simp
  have h8:(x.lost=true/\x.takes≠[])\/¬(x.lost=true/\x.takes≠[]):=Classical.em _;rcases h8 with h8|h8
  .rw[if_pos h8]at hS;have hd:decide ((0:Int)<(x.takes.length:Int))=true:=by rw[hlen0];simpa using h8.2
   simp only[h8.1,hd,hS,go_sem,simprocAttr]
  rw[if_neg h8]at hS;have hd:x.lost=true->decide ((0:Int)<(x.takes.length:Int))=false:=λh=>by
   rw[hlen0];exact decide_eq_false λh2=>h8 ⟨h,h2⟩
  have e4:=A9 x.takes;rw[<-e4]at hS;obtain⟨lo,hlo⟩:∃lo,x.lost=lo:=⟨_,rfl⟩
  cases lo;case' true=>simp only[hlo,hd hlo,go_sem,simprocAttr]
  case' false=>simp only[hlo,go_sem,simprocAttr]
  all_goals
   refine lT [1,5] x.takes hTx (τ:=Unit) (λdone rest _=>(x.takes.any λt=>!an t.src 0 ((i:Int)-1))=rest.any λt=>!an t.src 0 ((i:Int)-1)) (λdone _=>[(7,.p (.int .i64 done.length))]) (λ_ _=>[.row 5 [.p x.pv]]) () rfl ?_ ?_ ?_
   .simp only[hlo,go_sem,simprocAttr]<;>simp
   .intro _ f2;rw[fC]at f2;rw[f2,if_neg (by decide)]at hS;simp only[go_sem,simprocAttr];refine aS [5] (σ:=Nat) (λk=>1<=k/\(k:Int)<=9223372036854775807/\bv (gT x.takes) x.takes 0=bv (gT x.takes) (x.takes.drop k) k) (λk=>x.takes.length-k) (λk=>[(8,.p (.int .i64 k))]) (λ_=>[.row 5 [.p x.pv]]) 1 ⟨aJ _,by decide,?_⟩ ?_ ?_
    .cases hq:x.takes with
     |nil=>rfl
     |cons t r=>rw[bv];rfl
    .simp only[hlo,go_sem,simprocAttr]
    intro k hk;obtain⟨k1,k2,e5⟩:=hk;dsimp only;rcases aw k x.takes.length with hkl|hkl
    .obtain⟨t,ht⟩:∃t,x.takes[k]?=some t:=⟨_,aT hkl⟩
     obtain⟨j,rfl⟩:∃j,k=j+1:=⟨k-1,by omega⟩
     obtain⟨u,hu⟩:∃u,x.takes[j]?=some u:=⟨_,aT (by omega)⟩
     have hda:gT x.takes (j+1) t=decide (t.src<=u.src):=by simp only[gT,hu]
     rw[IJ ht,hda]at e5;have c1:decide (((j+1:Nat):Int)<(x.takes.length:Int))=true:=decide_eq_true (by omega);have c2:((j+1:Nat):Int)<(x.takes.length:Int):=by omega
     have c3:IntKind.i64.wrap (((j+1:Nat):Int)-1)=(j:Int):=(qm (by omega) (by omega)).trans (by omega);have c4:(j:Int)<(x.takes.length:Int):=by omega
     have c5:IntKind.i64.wrap (((j+1:Nat):Int)+1)=((j+1+1:Nat):Int):=(qm (by omega) (by omega)).trans (by omega);have c6:(0:Int)<=((j+1:Nat):Int):=by omega
     generalize hL:j+1=L at *
     have hTo:((L:Nat):Int).toNat=L:=by omega
     simp only[c1,c2,c3,c4,c6,ht,hu,hTo,go_sem,simprocAttr];cases g2:decide (t.src<=u.src)
     .rw[g2,gA]at e5;simp only[go_sem,simprocAttr];refine ak (L+1) ⟨by omega,by omega,e5⟩ (by omega) ?_;simp only[c5,hlo,go_sem,simprocAttr]
     .rw[g2,gY]at e5;rw[e5,if_pos rfl]at hS;simp only[hS,go_sem,simprocAttr]
    .have c1:decide ((k:Int)<(x.takes.length:Int))=false:=decide_eq_false (by omega);rw[pf hkl,bv]at e5;rw[e5,if_neg (by decide)]at hS;simp only[c1,go_sem,simprocAttr];refine lT [5] x.takes hTx (τ:=Int) (λdone rest s=>(x.takes.any λt=>!an t.grams 1 100000)=(rest.any λt=>!an t.grams 1 100000)/\kP x.takes x.fresh=kP rest s) (λdone s=>[(9,.p (.int .i64 s)),(10,.p (.int .i64 done.length))]) (λ_ _=>[.row 5 [.p x.pv]]) x.fresh ⟨rfl,rfl⟩ ?_ ?_ ?_
     .simp only[hlo,go_sem,simprocAttr]<;>simp
     .rintro s ⟨f3,f4⟩
      rw[fC]at f3;rw[f3,if_neg (by decide)]at hS;rw[show kP [] s=s from rfl]at f4;simp only[hlo,go_sem,simprocAttr]
      first
       |(rw[if_neg (λh=>by rw[hlo]at h;cases h.1)]at hS
         rw[hS]
         done)
       |(cases g4:(s != x.grams)
         .rw[if_neg (λh=>by have g5:=h.2;rw[f4]at g5;simp at g4;exact g5 g4)]at hS;simp only[hS,go_sem,simprocAttr]
         .rw[if_pos ⟨hlo,by rw[f4];simpa using g4⟩]at hS
          simp only[hS,go_sem,simprocAttr])
     .rintro dn t r s f1 ⟨f3,f4⟩ ht hlt2 hnx
      rw[eV]at f3;rw[show kP (t::r) s=kP r (IntKind.i64.wrap (s+t.grams)) from rfl]at f4;simp only[hlt2,ht,go_sem,simprocAttr];refine aa (vS _ _ _) rfl ?_;simp only[go_sem,simprocAttr];cases g1:an t.grams 1 100000
      .rw[g1,lw,gY]at f3;rw[f3,if_pos rfl]at hS;simp only[hS,go_sem,simprocAttr]
      .rw[g1,Bool.not_true,gA]at f3;simp only[hlt2,ht,go_sem,simprocAttr];refine aq f1 _ ⟨f3,f4⟩ ?_;simp only[hnx,hlo,go_sem,simprocAttr]
   .intro dn t r _ f1 f2 ht hlt2 hnx;rw[eV]at f2;simp only[hlt2,ht,wi,go_sem,simprocAttr];refine aa (vS _ _ _) rfl ?_;simp only[go_sem,simprocAttr];cases g1:an t.src 0 ((i:Int)-1)
    .rw[g1,lw,gY]at f2;rw[f2,if_pos rfl]at hS;simp only[hS,go_sem,simprocAttr]
    .rw[g1,Bool.not_true,gA]at f2;simp only[go_sem,simprocAttr];refine aq f1 () f2 ?_;simp only[hnx,hlo,go_sem,simprocAttr]
def ce (b:List TrBatch) (k:Nat):List Nat:=(List.range k).filter (ba b)
theorem AE{b:List TrBatch}(k:Nat):ce b (k+1)=ce b k++(if ba b k=true then [k] else []):=by
 unfold ce;rw[List.range_succ,zx]
 congr 1
 cases h:ba b k<;>simp[h]
theorem vp(b:List TrBatch)(k:Nat):(ce b k).length<=k:=by
 have:=List.length_filter_le (ba b) (List.range k);simpa[ce]using this
def bQ (n:Nat):PV:=.int .i64 n
attribute [go_sem] bQ
theorem Nj(b:List TrBatch)(f:Bool)(hl:b.length<100000):eS Tryz.prog 26 [.slice 5 (b.map TrBatch.pv) f] (.slice 1 ((losts b).map bQ) false):=by
 refine di (am Tryz.func26 rfl) rfl ?_;simp only[go_sem,simprocAttr];refine dq 3 1 (by simp only[go_sem,simprocAttr]) ?_;simp only[go_sem,simprocAttr]
 refine bt [0] b (by omega) (τ:=Unit) (λ_ _ _=>True) (λdone _=>[(3,.slice 0 (ce b done.length).length 0 (ce b done.length).length),(4,.p (.int .i64 done.length))])
  (λdone _=>[.row 1 ((ce b done.length).map λi=>.p (bQ i))]) () trivial ?_ ?_ ?_
 .have h0:ce b 0=[]:=rfl;simp only[h0,go_sem,simprocAttr]<;>simp
 .intro _ _;have hq:losts b=ce b b.length:=rfl;rw[hq];simp only[go_sem,simprocAttr];rw[show ((ce b b.length).map λ(i:Nat)=>AV.p (PV.int .i64 (i:Int)))=(ce b b.length).map (λ(i:Nat)=>AV.p (bQ i)) from rfl,fg 7 _ bQ (λ_=>rfl)];simp;exact dz (by simp)
 .intro done x r _ e1 _ hx hlt hnx;have hlb:ba b done.length=x.lost:=by unfold ba;rw[cS hx]
  have hlo:=AE (b:=b) done.length;rw[hlb]at hlo;have hfl:=vp b done.length;have hrm:(ce b done.length).length+1<=ai:=by simp[ai];omega
  simp only[hlt,hx,go_sem,simprocAttr];cases hq:x.lost
  .rw[hq,if_neg (by decide),co]at hlo;simp only[go_sem,simprocAttr];refine aq e1 () trivial ?_;simp only[hnx,ay,aC,hlo,go_sem,simprocAttr]
  .rw[hq,if_pos rfl]at hlo;simp only[hrm,go_sem,simprocAttr];refine aq e1 () trivial ?_;simp only[hnx,ay,aC,hlo,kg,go_sem,simprocAttr]
def bT (b:List TrBatch) (k:Nat) (i:Nat):Int:=sm k λj=>cC (dj b j).takes i
def dG (b:List TrBatch) (k:Nat) (i:Nat):Int:=(dj b i).grams-bT b k i
theorem mO:∀(l:List TrTake) (t:TrTake) (i:Nat),cC (l++[t]) i=cC l i+(if t.src=i then t.grams else 0)
 |[],t,i=>by simp[cC]
 |u::l,t,i=>by
  rw[rO,cC,mO l t i,cC];omega
structure BatsOk (b:List TrBatch):Prop where
 len:b.length<=8
 bat:∀(i:Nat) (x:TrBatch),b[i]?=some x->BatOk i x
theorem xE:∀(l:List TrTake),unsorted l=false->l.Pairwise λa b=>a.src<b.src
 |[],_=>.nil
 |[_],_=>List.pairwise_singleton _ _
 |a::c::l,h=>by
  simp only[unsorted,Bool.or_eq_false_iff,decide_eq_false_iff_not]at h;have ih:=xE (c::l) h.2;refine List.Pairwise.cons (λx hx=>?_) ih;rcases dQ.1 hx with rfl|hx
  .omega
  .have:=(List.pairwise_cons.1 ih).1 x hx;omega
end Tr
variable {P:Program} {M0:Nat->Prop}
theorem Ae{w:World}{b}{ob}(h:w.heap[b]?=some ob):w.putObj b ob=w:=by
 obtain⟨hlt,he⟩:=uL.1 h;have:w.heap.setIfInBounds b ob=w.heap:=by
  apply oz
  .simp
  .intro i h1 h2;rw[Array.getElem_setIfInBounds];split
   .rename_i e;subst e;exact he.symm
   .rfl
 unfold World.putObj;simp only[this]
theorem Ga{S}(hS:HOk P M0 S){id}{φ}(hid:S.h[id]?=some (.memo φ)) :
  lu φ/\∃es,(∀p,p∈es->φ p.1 p.2=true)/\HOk P M0 ⟨S.m,S.h.set id (.mp es),S.w⟩/\Ev S.h.length S ⟨S.m,S.h.set id (.mp es),S.w⟩:=by
 obtain⟨hg,es,hf,bl,C,clk,hm,hb,hrel⟩:=hS.obj id _ hid;have:=ig hS (o:=.mp es) (ob:=.map C clk) hm hid hb (kE hb) (by intro C T f;simp) (.inr (.inr ⟨by simp[AObj.tag],rfl,rfl⟩)) (λhe hx=>⟨bl,C,clk,rfl,hx,hrel.mono λv a=>he.keepS⟩);rw[Ae hb]at this;exact⟨hg,es,hf,this⟩
theorem qL{S}(hS:HOk P M0 S){id}{es}{φ}(hg:lu φ)(hf:∀p,p∈es->φ p.1 p.2=true)(hid:S.h[id]?=some (.mp es)) :
  HOk P M0 ⟨S.m,S.h.set id (.memo φ),S.w⟩/\Ev S.h.length S ⟨S.m,S.h.set id (.memo φ),S.w⟩:=by
 obtain⟨bl,C,clk,hm,hb,hrel⟩:=hS.obj id _ hid;have:=ig hS (o:=.memo φ) (ob:=.map C clk) hm hid hb (kE hb) (by intro C T f;simp) (.inr (.inr ⟨by simp[AObj.tag],rfl,rfl⟩)) (λhe hx=>⟨hg,es,hf,bl,C,clk,rfl,hx,hrel.mono λv a=>he.keepS⟩);rw[Ae hb]at this;exact this
theorem vG{f}{args}{h}{R}{id}{φ}(hid:h[id]?=some (.memo φ))
  (k:lu φ->∀es,(∀p,p∈es->φ p.1 p.2=true)->aN P f args (h.set id (.mp es)) (λr h''=>(h''=h\/h''=h.set id (.mp es))/\R r h)):aN P f args h R:=by
 intro M0 m w cargs hS hargs;have hidl:=(aA.1 hid).1;obtain⟨hg,es,hf,hS',hev⟩:=Ga hS hid;have:=k hg es hf M0 m w cargs hS' (hargs.imp λv a _ hr=>hev.keep hr);refine⟨this.1,this.2.mono λe w' hh=>?_⟩;obtain⟨r,h'',m',⟨hh,hR⟩,hev',hk,hend⟩:=hh;have hevT:Ev h.length ⟨m,h,w⟩ ⟨m',h'',w'⟩:=hev.trans (by simpa using hev');rcases hh with rfl|rfl
 .exact⟨r,_,m',hR,hevT,hk,hend⟩
 .have hid':(h.set id (.mp es))[id]?=some (.mp es):=fp hidl;obtain⟨hk2,hev2⟩:=qL hk (φ:=φ) hg hf hid';have e1:(h.set id (.mp es)).set id (.memo φ)=h:=by rw[List.set_set];exact ji hid
  dsimp only at hk2 hev2;rw[e1]at hk2 hev2;refine⟨r,h,m',hR,hevT.trans (by simpa using hev2),hk2,?_⟩
  cases e with
  |returned v'=>
   cases r with
   |panic v=>exact hend.elim
   |ret a=>exact hev2.keep hend
  |panicked ch=>
   cases r with
   |ret a=>exact hend.elim
   |panic v=>
    obtain⟨v',h1,h2⟩:=hend
    exact⟨v',h1,hev2.keep (a:=.p v) h2⟩
  |outgrown=>exact hend.elim
theorem Fk{A}{id}{es}{φ}(hg:lu φ)(hf:∀p,p∈es->φ p.1 p.2=true)(hid:A.h[id]?=some (.mp es)):fy P A { A with h:=A.h.set id (.memo φ) }:=
 ⟨rfl,rfl,λM0 S0 b cs0 m a w hr=>⟨m,by
  have:=qL (S:=⟨m,A.h,w⟩) hr.hok hg hf hid
  exact hr.ahead (m':=m) (h':=A.h.set id (.memo φ)) (w':=w) this.2 this.1⟩⟩
variable {H:Hints} {Q:Cont}
end Abs
end Go.Proofs.YtmndpldajflenaaGreatDoor
