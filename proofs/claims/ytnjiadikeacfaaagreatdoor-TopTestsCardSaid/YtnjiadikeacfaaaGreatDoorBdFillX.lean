/- CONTRACTS of the program's functions, and laws on what they return. No conditions but those in the theorems' heads. -/
import Derived.Test.YtnjiadikeacfaaaGreatDoorBdValX
import Derived.Test.YtnjiadikeacfaaaGreatDoorHrTxtX
import Derived.Test.YtnjiadikeacfaaaGreatDoorWkRunX
import Derived.Shelf.Strings.OnBuilder
set_option linter.all false
open Go.Proofs.Tryz renaming prog->TP
namespace Go.Proofs.YtnjiadikeacfaaaGreatDoor
namespace Abs
set_option maxRecDepth 4000
def nw (l:List BdWax) (w:BdWish):Nat->List Int->Int->List (List Int)
 |0,pre,left=>if jS l w (pre++[left])=0 then [pre++[left]] else []
 |k+1,pre,left=>match w.parts[pre.length]? with
  |some s=>(iQ s.lo (if s.hi<left then s.hi else left)).flatMap λn=>nw l w k (pre++[n]) (left-n)
  |none=>[]
theorem ze{a b c}(h1:a<=b+1)(h2:b<=c):iQ a c=iQ a b++iQ (b+1) c:=by
 unfold iQ;obtain⟨m,hm⟩:∃m:Nat,(b+1-a).toNat=m:=⟨_,rfl⟩
 obtain⟨k,hk⟩:∃k:Nat,(c+1-(b+1)).toNat=k:=⟨_,rfl⟩
 have e:(c+1-a).toNat=m+k:=by omega
 rw[e,hm,hk,List.range_add,ca,th]
 congr 1
 apply IV;intro i _;simp only[Function.comp];omega
theorem KI{a b}(h:b<a):iQ a b=[]:=by
 unfold iQ;have:(b+1-a).toNat=0:=by omega
 rw[this];rfl
theorem ul{α β:Type}{f:α->List β}:∀{l:List α},(∀x,x∈l->f x=[])->l.flatMap f=[]
 |[],_=>rfl
 |x::l,h=>by rw[mN,h x (by simp),ul λy hy=>h y (by simp[hy])];rfl
theorem Ow{β:Type}{f:Int->List β}{lo hi left}(h0:0<=lo)(hf:∀n,n<lo\/hi<n->f n=[]):(iQ 0 left).flatMap f=(iQ lo (if hi<left then hi else left)).flatMap f:=by
 obtain⟨m,hm⟩:∃m,(if hi<left then hi else left)=m:=⟨_,rfl⟩
 have hmh:m<=hi:=by rw[<-hm];split<;>omega
 have hml:m<=left:=by rw[<-hm];split<;>omega
 have hmx:∀n,n<=left->m<n->hi<n:=λn h1 h2=>by rw[<-hm]at h2;split at h2<;>omega
 rw[hm];rcases Int.lt_or_le m lo with h|h
 .rw[KI h];exact ul λn hn=>by
   have:=wP.1 hn;by_cases h1:n<lo
   .exact hf n (.inl h1)
   .exact hf n (.inr (hmx n this.2 (by omega)))
 .have e1:iQ 0 left=iQ 0 (lo-1)++iQ lo left:=by have:=ze (a:=0) (b:=lo-1) (c:=left) (by omega) (by omega);rwa [Int.sub_add_cancel]at this
  have e2:iQ lo left=iQ lo m++iQ (m+1) left:=ze (by omega) hml
  rw[e1,e2,rB,rB,ul (l:=iQ 0 (lo-1)) λn hn=>hf n (.inl (by have:=wP.1 hn;omega)),
   ul (l:=iQ (m+1) left) λn hn=>hf n (.inr (by have:=wP.1 hn;exact hmx n this.2 (by omega)))]
  simp
theorem QG{l}{w}{pre t}{n}{s}(hs:w.parts[pre.length]?=some s)(hn:n<s.lo\/s.hi<n):jS l w (pre++n::t)=1:=by
 have:nS w (pre++n::t)=true:=by
  unfold nS;rw[Dq];refine⟨(n,s),aT (i:=pre.length) (List.getElem?_zip_eq_some.2 ⟨by simp,hs⟩),?_⟩;simp[al];omega
 rw[jS,if_pos this]
theorem H'{l}{w}(hw:WishOk l.length w):∀(k) (pre) (left),pre.length+k+1=l.length->nw l w k pre left=((pA k left).map (pre++·)).filter λr=>jS l w r==0
 |0,pre,left,h=>by
  rw[nw,pA]
  simp[List.filter_cons]
 |k+1,pre,left,h=>by
  have hlt:pre.length<w.parts.length:=by have:=hw.len;omega
  obtain⟨s,hs⟩:∃s,w.parts[pre.length]?=some s:=⟨_,bA hlt⟩
  have hsr:=hw.parts s (aT hs);rw[nw,hs,pA];dsimp only;have e:∀n,nw l w k (pre++[n]) (left-n)=(((pA k (left-n)).map (n::·)).map (pre++·)).filter λr=>jS l w r==0:=λn=>by
   rw[H' hw k (pre++[n]) (left-n) (by simp;omega)];simp[jw]
  simp only[e];have:((((iQ 0 left).flatMap λn=>(pA k (left-n)).map (n::·)).map (pre++·)).filter λr=>jS l w r==0)=(iQ 0 left).flatMap λn=>(((pA k (left-n)).map (n::·)).map (pre++·)).filter λr=>jS l w r==0:=by
   rw[List.map_flatMap,List.filter_flatMap]
  rw[this];symm;refine Ow hsr.1 λn hn=>?_;rw[List.filter_eq_nil_iff];intro r hr;simp only[th,dN,Function.comp]at hr;obtain⟨t,_,rfl⟩:=hr;rw[QG hs hn];decide
theorem Oy{l}{w}(hl:BdWaxesOk l)(hw:WishOk l.length w):nw l w (l.length-1) [] 20=fits l w:=by
 rw[H' hw _ _ _ (by have:=hl.len;simp;omega)];simp[fits]
def wh (l:List BdWax):PV:=.ptr 1 [fM l] 0 0
def wd (w:BdWish):PV:=.ptr 5 [w.pv] 0 0
attribute [go_sem] wh wd
def mb (l:List BdWax) (w:BdWish) (n0 id:Nat) (lo:Heap) (cur:List Int) (ext:Heap):Heap:=
 lo++(.row 1 [.ref .yl id]::.row 1 (cur.map λx=>.p (aG x))::.row 1 [.slice (n0+1) l.length 0 l.length] ::
  .row 1 [.func (.func 298) [] [.p (wh l),.ptr (n0+2) 1 0 0,.p (wd w),.ptr n0 1 0 0,.ptr (n0+3) 1 0 0]]::ext)
theorem rl{lo:Heap}{n0}(h:lo.length=n0)(t)(j):(lo++t)[n0+j]?=t[j]?:=by rw[cm (by omega)];congr 1;omega
theorem pk{lo:Heap}{n0}(h:lo.length=n0)(t):(lo++t)[n0]?=t[0]?:=rl h t 0
theorem rk{lo:Heap}{n0}(h:lo.length=n0)(t)(j)(x):(lo++t).set (n0+j) x=lo++t.set j x:=by
 rw[tt _ _ (by omega)];congr 2;omega
theorem D6{cur pre:List Int}{v c}(h:cur.take pre.length=pre)(hc:cur[pre.length]?=some c):(cur.set pre.length v).take (pre.length+1)=pre++[v]:=by
 have hlt:=(ax.1 hc).1;rw[xW,List.take_set_of_le (by omega),h];simp[hlt]
set_option maxHeartbeats 2000000 in
theorem P3{l}{w}(hl:BdWaxesOk l)(hw:WishOk l.length w){id n0}{Inv:Nat->Heap->Prop}{Fin:Heap->Prop}{all:List (List Int)}
  (hy:∀(k) (xs) (lo mid) (j),(all.map λr=>r.map aG)[k]?=some xs->Inv k lo->lo.length=n0->mid[j]?=some (.row 1 (xs.map .p)) ->
   sC TP id [.slice (j+n0) xs.length 0 xs.length] (lo++mid) (λr h'=>∃lo' ext,h'=lo'++mid++ext/\lo'.length=n0 /\
    ((r=.ret (.p (.bool true))/\Inv (k+1) lo')\/(r=.ret (.p (.bool false))/\Fin lo')))) :
  ∀(k) (pre) (left) (lo) (cur) (ext) (idx) (tl),pre.length+k+1=l.length->0<=left->left<=20->(∀n,n∈pre->0<=n/\n<=20) ->
   cur.length=l.length->cur.take pre.length=pre->idx<=all.length->all.drop idx=nw l w k pre left++tl->lo.length=n0->Inv idx lo ->
   aB TP 298 [.p (.int .i64 pre.length),.p (.int .i64 left),.p (wh l),.ptr (n0+2) 1 0 0,.p (wd w),.ptr n0 1 0 0,.ptr (n0+3) 1 0 0] (mb l w n0 id lo cur ext)
    (λr h'=>∃lo' cur' ext',h'=mb l w n0 id lo' cur' ext'/\lo'.length=n0/\((r=.ret (.p (.bool true))/\cur'.length=l.length/\cur'.take pre.length=pre/\∃idx',idx'<=all.length/\all.drop idx'=tl/\Inv idx' lo') \/
     (r=.ret (.p (.bool false))/\Fin lo')))
 |0,pre,left,lo,cur,ext,idx,tl,h1,h2,h3,h4,h5,h6,h7,h8,h9,h10=>by
  refine aA (ah Tryz.func298 rfl (by kernel_rfl)) rfl ?_;have hl5:=hl.len;have gg:=rl h9;have g0:=pk h9;have ss:=rk h9;have hw1:IntKind.i64.wrap ((l.length:Int)-1)=(l.length:Int)-1:=HR hl;have hc:(((pre.length:Nat):Int)==(l.length:Int)-1)=true:=by simp;omega
  obtain⟨c,hcur⟩:∃c,cur[pre.length]?=some c:=⟨_,bA (by omega)⟩
  have hlt:((pre.length:Nat):Int)<(l.length:Int):=by omega
  have hset:(cur.map λx=>AV.p (aG x)).set pre.length (.p (aG left))=(cur.set pre.length left).map λx=>AV.p (aG x):=by rw[PC]
  have hcs:cur.set pre.length left=pre++[left]:=by
   have:=D6 (v:=left) h6 hcur;rwa [gv (by simp;omega)]at this
  rw[hcs]at hset;simp only[aG]at hset;have hlen:(pre++[left]).length=l.length:=by simp;omega
  have hrng:∀n,n∈pre++[left]->0<=n/\n<=20:=λn hn=>by
   rcases b7.1 hn with hn|hn
   .exact h4 n hn
   .simp at hn;omega
  simp only[mb,gg,ss,hw1,hc,hcur,hlt,h5,hset,go_sem,simprocAttr];have htk:((pre++[left]).map aG).take l.length=(pre++[left]).map aG:=gv (by simp;omega);refine aY (VT false hl hw hlen hrng) ?_ (.int _ _) ?_
  .simp only[gg,hlen,go_sem,simprocAttr];exact congrArg (λx=>PV.slice 1 x false) htk
  simp only[go_sem,simprocAttr];rw[nw]at h8;cases hb:(jS l w (pre++[left]) != 0)
  rotate_left
  .have hb':¬jS l w (pre++[left])=0:=by simpa using hb
   rw[if_neg hb',gR]at h8;simp only[go_sem,simprocAttr];first|exact⟨lo,pre++[left],ext,rfl,h9,.inl ⟨hlen,by simp,idx,h7,h8,h10⟩⟩|exact⟨lo,pre++[left],ext,rfl,h9,hlen,by simp,idx,h7,h8,h10⟩
  have hb':jS l w (pre++[left])=0:=by simpa using hb
  rw[if_pos hb',Dt]at h8;have hidx:all[idx]?=some (pre++[left]):=by rw[<-List.head?_drop,h8];rfl
  have hlti:idx<all.length:=(ax.1 hidx).1;have hdrop:all.drop (idx+1)=tl:=by rw[<-xX,h8];rfl
  have hyl:=hy idx ((pre++[left]).map aG) lo (.row 1 [.ref .yl id]::.row 1 ((pre++[left]).map λx=>.p (aG x))::.row 1 [.slice (n0+1) l.length 0 l.length] ::
   .row 1 [.func (.func 298) [] [.p (wh l),.ptr (n0+2) 1 0 0,.p (wd w),.ptr n0 1 0 0,.ptr (n0+3) 1 0 0]]::ext) 1 (by rw[cz,hidx];rfl) h10 h9 (by simp)
  rw[dL,hlen,Nat.add_comm 1 n0]at hyl;simp only[aG,wh,wd,fM,BdWish.pv]at hyl;simp only[gg,g0,go_sem,simprocAttr];refine pm hyl (λv h' hr=>?_) (λv h' hr=>?_);rotate_left
  .obtain⟨_,_,_,_,hr⟩:=hr;rcases hr with⟨hr,_⟩|⟨hr,_⟩<;>cases hr
  obtain⟨lo',ext',rfl,k1,hr⟩:=hr;rcases hr with⟨hr,k2⟩|⟨hr,k2⟩
  .cases hr;simp only[go_sem,simprocAttr];first|exact⟨lo',pre++[left],ext++ext',by simp[mb],k1,.inl ⟨hlen,by simp,idx+1,by omega,hdrop,k2⟩⟩|exact⟨lo',pre++[left],ext++ext',by simp[],k1,hlen,by simp,idx+1,by omega,hdrop,k2⟩
  .cases hr;simp only[go_sem,simprocAttr]
   first|exact⟨lo',pre++[left],ext++ext',by simp[mb],k1,.inr k2⟩|exact⟨lo',pre++[left],ext++ext',by simp[],k1,k2⟩
 |k+1,pre,left,lo,cur,ext,idx,tl,h1,h2,h3,h4,h5,h6,h7,h8,h9,h10=>by
  refine aA (ah Tryz.func298 rfl (by kernel_rfl)) rfl ?_;have hl5:=hl.len;have gg:=rl h9;have g0:=pk h9;have ss:=rk h9;have hw1:IntKind.i64.wrap ((l.length:Int)-1)=(l.length:Int)-1:=HR hl;have hc:(((pre.length:Nat):Int)==(l.length:Int)-1)=false:=by simp;omega
  have hltp:pre.length<w.parts.length:=by have:=hw.len;omega
  have hltp':((pre.length:Nat):Int)<(w.parts.length:Int):=by omega
  obtain⟨s,hs⟩:∃s,w.parts[pre.length]?=some s:=⟨_,bA hltp⟩
  have hsr:=hw.parts s (aT hs);have hw2:IntKind.i64.wrap (((pre.length:Nat):Int)+1)=((pre.length+1:Nat):Int):=be (by omega) (by simp[ar];omega) (by omega);rw[nw,hs]at h8;dsimp only at h8;obtain⟨m,hm⟩:∃m,(if s.hi<left then s.hi else left)=m:=⟨_,rfl⟩
  have hml:m<=left:=by rw[<-hm];split<;>omega
  have hmin:(if s.hi<left then PV.int .i64 s.hi else PV.int .i64 left)=.int .i64 m:=by rw[<-hm];split<;>rfl
  rw[hm]at h8;simp only[mb,hw1,hc,hs,hltp',go_sem,simprocAttr]
  refine eO [0,1,3,4,6] (σ:=List Int×List Int×Heap×List Int×Heap×Nat)
   (λq=>iQ s.lo m=q.1++q.2.1/\q.2.2.1.length=n0/\q.2.2.2.1.length=l.length/\q.2.2.2.1.take pre.length=pre/\q.2.2.2.2.2<=all.length/\all.drop q.2.2.2.2.2=(q.2.1.flatMap λn=>nw l w k (pre++[n]) (left-n))++tl/\Inv q.2.2.2.2.2 q.2.2.1)
   (λq=>q.2.1.length) (λq=>[(10,.p (.int .i64 (s.lo+(q.1.length:Int))))]) (λq=>mb l w n0 id q.2.2.1 q.2.2.2.1 q.2.2.2.2.1) ([],iQ s.lo m,lo,cur,ext,idx) ⟨rfl,h9,h5,h6,h7,h8,h10⟩ (by simp only[mb,go_sem,simprocAttr]) ?_ ?_
  .simp only[go_sem,simprocAttr]<;>simp
  clear h5 h6 h7 h8 h9 h10 gg g0 ss idx
  rintro⟨done,rest,lo',cur',ext',idx⟩ ⟨e1,h9,h5,h6,h7,h8,h10⟩
  dsimp only at e1 h9 h5 h6 h7 h8 h10;have gg:=rl h9;have g0:=pk h9;have ss:=rk h9
  cases rest with
  |nil=>
   have hlen:=Qm s.lo m;rw[e1,bw]at hlen;have hgt:¬s.lo+(done.length:Int)<=m:=by omega
   simp only[mb,hs,hltp',hm,hgt,go_sem,simprocAttr]
   first|exact⟨lo',cur',ext',rfl,h9,.inl ⟨h5,h6,idx,h7,by simpa using h8,h10⟩⟩|exact⟨lo',cur',ext',rfl,h9,h5,h6,idx,h7,by simpa using h8,h10⟩
  |cons y r=>
   have hy0:(iQ s.lo m)[done.length]?=some y:=by rw[e1];simp
   obtain⟨hy1,hy2⟩:=Qn hy0;have hle:s.lo+(done.length:Int)<=m:=by omega
   obtain⟨c,hcur⟩:∃c,cur'[pre.length]?=some c:=⟨_,bA (by omega)⟩
   have hlt:((pre.length:Nat):Int)<(l.length:Int):=by omega
   have hset:(cur'.map λx=>AV.p (aG x)).set pre.length (.p (aG y))=(cur'.set pre.length y).map λx=>AV.p (aG x):=by rw[PC]
   have hcs:(cur'.set pre.length y).take (pre.length+1)=pre++[y]:=D6 h6 hcur;simp only[aG]at hset;have hwy:IntKind.i64.wrap (left-y)=left-y:=am (by omega) (by omega);have hnx:IntKind.i64.wrap (y+1)=y+1:=am (by omega) (by omega);rw[mN,dq]at h8
   have ih:=P3 hl hw hy k (pre++[y]) (left-y) lo' (cur'.set pre.length y) ext' idx ((r.flatMap λn=>nw l w k (pre++[n]) (left-n))++tl) (by simp;omega) (by omega) (by omega)
    (λn hn=>by
     rcases b7.1 hn with hn|hn
     .exact h4 n hn
     .simp at hn;omega) (by simpa using h5) (by rw[aK];exact hcs) h7 h8 h9 h10
   rw[hy1]at ih hset hwy hnx hcs;simp only[mb,gg,ss,hs,hltp',hm,hle,h5,hcur,hlt,hset,hw2,hwy,go_sem,simprocAttr];simp only[mb,wh,wd,fM,BdWish.pv,aG,aK,bt]at ih;refine cp ih (λv h' hr=>?_) (λv h' hr=>?_);rotate_left
   .obtain⟨_,_,_,_,_,hr⟩:=hr;rcases hr with⟨hr,_⟩|⟨hr,_⟩<;>cases hr
   obtain⟨lo2,cur2,ext2,rfl,k1,hr⟩:=hr;rcases hr with⟨hr,k2,k3,idx2,k4,k5,k6⟩|⟨hr,k2⟩
   .cases hr;simp only[go_sem,simprocAttr];refine br (done++[y],r,lo2,cur2,ext2,idx2) ⟨by simp[e1],k1,k2,?_,k4,k5,k6⟩ (by simp) rfl ?_
    .have:=congrArg (List.take pre.length) k3;rw[List.take_take,jL rfl]at this;rwa [IJ (by simp)]at this
    .simp only[hnx,aK,bt,go_sem,simprocAttr];omega
   .cases hr;simp only[go_sem,simprocAttr];first|exact⟨lo2,cur2,ext2,rfl,k1,.inr k2⟩|exact⟨lo2,cur2,ext2,rfl,k1,k2⟩
def Ag (l:List BdWax) (w:BdWish):PV:=.func (.func 297) [] [wh l,wd w]
theorem Ok{l}{w}(hl:BdWaxesOk l)(hw:WishOk l.length w):Qa TP (Ag l w) 1 ((fits l w).map λr=>r.map aG):=by
 refine⟨_,_,_,rfl,λid Inv Fin h0 hid hy hi=>?_⟩;have hl5:=hl.len;have gg:=rl (lo:=h0) rfl;have g0:=pk (lo:=h0) rfl;have ss:=rk (lo:=h0) rfl;have hrm:((l.length:Nat):Int)<=(ar:Int):=by simp[ar];omega
 refine aA (ah Tryz.func297 rfl (by kernel_rfl)) rfl ?_;simp only[hrm,l4,dq,aK,bt,gg,ss,go_sem,simprocAttr];have hfill:=P3 hl hw hy (l.length-1) [] 20 h0 (List.replicate l.length 0) [] 0 [] (by simp;omega) (by omega) (by omega) (by simp) (by simp) (by simp) (by omega) (by rw[Oy hl hw];simp) rfl hi;simp only[mb,wh,wd,fM,BdWish.pv,aG,List.map_replicate,cH,Int.cast_ofNat_Int]at hfill;refine cp hfill (λv h' hr=>?_) (λv h' hr=>?_);rotate_left
 .obtain⟨_,_,_,_,_,hr⟩:=hr;rcases hr with⟨hr,_⟩|⟨hr,_⟩<;>cases hr
 obtain⟨lo2,cur2,ext2,rfl,k1,hr⟩:=hr;have fin:∀(k:Nat),k<=(fits l w).length->(fits l w).drop k=[]->k=(fits l w).length:=λk h1 h2=>by
  have:=congrArg List.length h2;simp at this;omega
 rcases hr with⟨hr,k2,k3,idx2,k4,k5,k6⟩|⟨hr,k2⟩
 .cases hr;simp only[go_sem,simprocAttr];refine⟨lo2,_,rfl,k1,.inl ?_⟩;have:=fin idx2 k4 k5;simpa[<-this]using k6
 .cases hr;simp only[go_sem,simprocAttr];exact⟨lo2,_,rfl,k1,.inr k2⟩
theorem FG(l)(w):af TP 270 [fM l,w.pv] (Ag l w):=by
 refine dd (ah Tryz.func270 rfl (by kernel_rfl)) rfl ?_;simp only[Ag,go_sem,simprocAttr]
theorem E9(ps)(b1)(id)(h)(hid:h[id]?=some (.row 1 (ps.map λp=>.p (aG p.2))))(hl:ps.length<=5) :
  aB TP 272 [.p (.slice 7 (ps.map λp=>p.1.pv) b1),.slice id ps.length 0 ps.length] h (λr h'=>r=.ret (.p (qp ps))/\h'=h):=by
 refine oZ (ah Tryz.func272 rfl (by kernel_rfl)) rfl ?_;have hlt0:id<h.length:=(ax.1 hid).1;have hidt:∀t,(h++t)[id]?=some (.row 1 (ps.map λp=>.p (aG p.2))):=λt=>by rw[aZ hlt0];exact hid
 simp only[aG]at hidt;have gg:=rl (lo:=h) rfl;have g0:=pk (lo:=h) rfl;have ss:=rk (lo:=h) rfl;have s0:∀t x,(h++t).set h.length x=h++t.set 0 x:=λt x=>ss t 0 x;have hrm:((ps.length:Nat):Int)<=(ar:Int):=by simp[ar];omega
 have hr0:List.replicate ps.length rL=iI ps []:=by simp[iI]
 simp only[rL]at hr0;simp only[hrm,l4,hr0,go_sem,simprocAttr];refine Pl [1,5,11,12] ps (by omega) (τ:=Heap) (λ_ _ _=>True) (λdone _=>[(13,.p (.int .i64 done.length))]) (λdone ext=>h++(.row 8 (iI ps done)::ext)) [] trivial (by simp only[go_sem,simprocAttr]) ?_ ?_ ?_
 .simp only[go_sem,simprocAttr]
 .intro ext _;have hz:(iI ps ps)=ps.map λp=>.p (cL p):=by simp[iI]
  simp only[cL]at hz;simp only[hz,go_sem,simprocAttr];rfl
 .intro done x r ext e1 _ hx hlt hnx;have h1:=CI e1;have h2:=CJ e1;have h3:=CH e1;simp only[rL]at h2;simp only[cL]at h3;have ge:=pk (lo:=ext) rfl;have se:∀t x,(ext++t).set ext.length x=ext++t.set 0 x:=λt x=>rk (lo:=ext) rfl t 0 x;simp only[hlt,hx,h1,h2,h3,hidt,gg,g0,ss,s0,ge,se,dq,aK,go_sem,simprocAttr];refine Po e1 _ trivial rfl ?_;simp only[hnx,go_sem,simprocAttr]
def eN (l:List BdWax) (r:List Int):Int:=cX jE (l.zip r)
def cW (pr:List Int->Int):Option (List Int)->List (List Int)->Option (List Int)
 |b,[]=>b
 |none,r::t=>cW pr (some r) t
 |some b,r::t=>if pr r<pr b then cW pr (some r) t else cW pr (some b) t
theorem nB(pr):∀(t) (b) (r),cW pr b (t++[r])=cW pr (cW pr b t) [r]
 |[],b,r=>by cases b<;>rfl
 |x::t,none,r=>by rw[eW,cW,nB pr t,cW]
 |x::t,some b,r=>by
  rw[eW,cW,cW];split
  .rw[nB pr t]
  .rw[nB pr t]
theorem lV(pr):∀(t) (b) (r),cW pr b t=some r->b=some r\/r∈t
 |[],b,r,h=>by cases b<;>simp_all [cW]
 |x::t,none,r,h=>by
  rw[cW]at h;rcases lV pr t _ r h with h|h
  .cases h;exact .inr (by simp)
  .exact .inr (by simp[h])
 |x::t,some b,r,h=>by
  rw[cW]at h;split at h
  .rcases lV pr t _ r h with h|h
   .cases h;exact .inr (by simp)
   .exact .inr (by simp[h])
  .rcases lV pr t _ r h with h|h
   .exact .inl h
   .exact .inr (by simp[h])
theorem u0{α:Type}{l:List α}{k}{x}(h:l[k]?=some x):l.take (k+1)=l.take k++[x]:=by
 rw[xW,h];rfl
def b9 (l:List BdWax) (w:BdWish):List Int×Int×Int:=
 if iK l w=0 then
  match cW (eN l) none (fits l w) with
  |none=>([],0,9)
  |some b=>(b,eN l b,0)
 else([],0,iK l w)
def sX (v:List Int×Int×Int):PV:=.tuple [.slice 1 (v.1.map aG) false,.int .i64 v.2.1,.int .i64 v.2.2]
def pW:Option (List Int)->PV
 |none=>.nilslice
 |some b=>.slice 1 (b.map aG) false
def mn (l:List BdWax):Option (List Int)->Int
 |none=>0
 |some b=>eN l b
set_option maxHeartbeats 1000000 in
theorem ME(l)(w):af TP 216 [fM l,w.pv] (sX (b9 l w)):=by
 refine eB (eA (by kernel_rfl) rfl Vp) rfl ?_;simp only[UZ,go_sem,simprocAttr]
 (first|refine ae (Uh l w) rfl ?_|refine ay (Uh l w) rfl ?_)
 simp only[go_sem,simprocAttr];refine aR (λhe=>?_) (λhe=>?_)
 .have he':¬iK l w=0:=by simpa using he
  simp only[sX,b9,if_neg he',go_sem,simprocAttr];first|rfl|exact .inl rfl|exact⟨_,_,rfl,rfl,.inr ⟨rfl,1,rfl⟩,.inl rfl,.inl rfl,trivial⟩|exact⟨_,_,rfl,rfl,.inr ⟨rfl,1,rfl⟩,.inl rfl,trivial⟩|exact⟨_,_,rfl,rfl,.inl rfl,.inl rfl,trivial⟩|exact .inl (.inl rfl)|exact .inl (.inr ⟨rfl,1,rfl⟩)|exact .inr ⟨_,_,rfl,rfl,.inl rfl,.inl rfl,trivial⟩|exact .inr ⟨_,_,rfl,rfl,.inr ⟨rfl,1,rfl⟩,.inl rfl,trivial⟩|exact⟨1,rfl⟩|(simp;done)|(refine .inr ⟨_,_,rfl,rfl,?_⟩;repeat' (first|exact trivial|exact .inl rfl|exact .inr ⟨rfl,1,rfl⟩|refine⟨?_,?_⟩))
 have he':iK l w=0:=by simpa using he
 obtain⟨hl,hw⟩:=BP he';have hl5:=hl.len;simp only[go_sem,simprocAttr]
 (first|refine ae (FG l w) rfl ?_|refine ay (FG l w) rfl ?_)
 simp only[Ag,go_sem,simprocAttr];have hspec:b9 l w=match cW (eN l) none (fits l w) with|none=>([],0,9)|some b=>(b,eN l b,0):=by rw[b9,if_pos he']
 rw[hspec];have hmem:∀k b,cW (eN l) none ((fits l w).take k)=some b->RecOk l.length b:=λk b h=>by
  rcases lV _ _ _ _ h with h|h
  .cases h
  .exact(yG hl (sb h)).1
 refine Sb (l:=(fits l w).map λr=>r.map aG) (λo k h=>h=[.row 1 [.p (fM l)],.row 5 [.p w.pv],.row 1 [.p (pW (cW (eN l) none ((fits l w).take k)))],.row 1 [.p (.int .i64 (mn l (cW (eN l) none ((fits l w).take k))))],.dblock,o]) (λ_ _=>False)
  rfl (by simp only[Ag,go_sem,simprocAttr]) (Ok hl hw) dC (by kernel_rfl) rfl (by kernel_rfl) (by kernel_rfl) ?_ ?_ ?_ ?_ (λ_ _ _ h=>h.elim)
 .rintro o k h rfl;simp
 .intro o;simp only[cW,pW,mn,go_sem,simprocAttr]
 .rintro oR oB oD k xs lo mid j hk rfl _ hj
  rw[cz,cd]at hk;obtain⟨r,hk,rfl⟩:=hk;have hro:=(yG hl (aT hk)).1;have hps:=tO hl hro.rng;have hne:¬(r.map aG=[]):=by
   intro h;have:=congrArg List.length h;have h2:=hro.len;simp at this;subst this;simp at h2;omega
  have hne2:r≠[]:=λh=>hne (by rw[h];rfl);rw[u0 hk,nB];have hmk:=hmem k;generalize cW (eN l) none ((fits l w).take k)=bo at hmk;have htk:(r.map aG).take r.length=r.map aG:=gv (by simp);have hz1:((l.zip r).map λp=>p.1.pv)=l.map BdWax.pv:=AQ BdWax.pv hro.len;have hz2:((l.zip r).map λp=>AV.p (aG p.2))=r.map λn=>AV.p (aG n):=AP (λn=>AV.p (aG n)) hro.len;have hzl:(l.zip r).length=r.length:=by simp[hro.len]
  have hbl:∀a0 a1 a2 a3 a4 a5,aB TP 272 [.p (fM l),.slice (j+6) r.length 0 r.length] (a0::a1::a2::a3::a4::a5::mid) (λr' h'=>r'=.ret (.p (qp (l.zip r)))/\h'=a0::a1::a2::a3::a4::a5::mid):=λa0 a1 a2 a3 a4 a5=>by
   have:=E9 (l.zip r) false (j+6) (a0::a1::a2::a3::a4::a5::mid) (by rw[hz2];simpa[jw]using hj) hps.len;rwa [hz1,hzl]at this
  simp only[fM,qp]at hbl;simp only[go_sem,simprocAttr];refine ct (hbl _ _ _ _ _ _) ?_;simp only[go_sem,simprocAttr]
  (first|refine ae (vW (l.zip r) false hps) rfl ?_|refine ay (vW (l.zip r) false hps) rfl ?_)
  simp only[go_sem,simprocAttr];have hprice:cX jE (l.zip r)=eN l r:=rfl;rw[hprice]
  cases bo with
  |none=>
   simp only[pW,go_sem,simprocAttr];refine wn (Lq r false hne2 (by have:=hro.len;omega)) ?_ ?_
   .simp only[hj,htk,go_sem,simprocAttr]
   simp only[go_sem,simprocAttr];first|refine⟨_,[],?_,rfl,.inl rfl⟩|refine⟨_,[],?_,rfl,rfl⟩
   simp only[cW,pW,mn,bw,go_sem,simprocAttr]
  |some b=>
   have hbo:=hmk b rfl;have hbn:¬(b.map aG=[]):=by
    intro h;have:=congrArg List.length h;have h2:=hbo.len;simp at this;subst this;simp at h2;omega
   simp only[pW,mn,hbn,go_sem,simprocAttr];cases hlt:decide (eN l r<eN l b)
   .have hlt':¬eN l r<eN l b:=by simpa using hlt
    simp only[go_sem,simprocAttr];first|refine⟨_,[],?_,rfl,.inl rfl⟩|refine⟨_,[],?_,rfl,rfl⟩
    simp only[if_neg hlt',cW,pW,mn,bw,go_sem,simprocAttr]
   .have hlt':eN l r<eN l b:=by simpa using hlt
    simp only[go_sem,simprocAttr];refine wn (Lq r false hne2 (by have:=hro.len;omega)) ?_ ?_
    .simp only[hj,htk,go_sem,simprocAttr]
    simp only[go_sem,simprocAttr];first|refine⟨_,[],?_,rfl,.inl rfl⟩|refine⟨_,[],?_,rfl,rfl⟩
    simp only[if_pos hlt',cW,pW,mn,bw,go_sem,simprocAttr]
 .rintro o lo mid rfl _
  have hlen:(fits l w).take (((fits l w).map λr=>r.map aG).length)=fits l w:=by simp
  rw[hlen];have hmk:=hmem (fits l w).length;rw[te]at hmk;generalize cW (eN l) none (fits l w)=bo at hmk;simp only[go_sem,simprocAttr]
  cases bo with
  |none=>
   simp only[pW,sX,bZ,go_sem,simprocAttr]
   first|rfl|exact .inl rfl|exact⟨_,_,rfl,rfl,.inr ⟨rfl,1,rfl⟩,.inl rfl,.inl rfl,trivial⟩|exact⟨_,_,rfl,rfl,.inr ⟨rfl,1,rfl⟩,.inl rfl,trivial⟩|exact⟨_,_,rfl,rfl,.inl rfl,.inl rfl,trivial⟩|exact .inl (.inl rfl)|exact .inl (.inr ⟨rfl,1,rfl⟩)|exact .inr ⟨_,_,rfl,rfl,.inl rfl,.inl rfl,trivial⟩|exact .inr ⟨_,_,rfl,rfl,.inr ⟨rfl,1,rfl⟩,.inl rfl,trivial⟩|exact⟨1,rfl⟩|(simp;done)|(refine .inr ⟨_,_,rfl,rfl,?_⟩;repeat' (first|exact trivial|exact .inl rfl|exact .inr ⟨rfl,1,rfl⟩|refine⟨?_,?_⟩))
  |some b=>
   have hbo:=hmk b rfl;have hbn:¬(b.map aG=[]):=by
    intro h;have:=congrArg List.length h;have h2:=hbo.len;simp at this;subst this;simp at h2;omega
   simp only[pW,mn,sX,hbn,bZ,aV,go_sem,simprocAttr]
namespace Ch
def vG:List UInt8:=[108,111,116]
def oW:List UInt8:=[98,97,116,99,104]
def rR:List UInt8:=[100,114,111,112]
def uf:List UInt8:=[112,108,97,110]
def rQ:List UInt8:=[112,111,117,114]
def mq:List UInt8:=[112,114,111,109,105,115,101]
def vH:List UInt8:=[98,111,120]
def ug:List UInt8:=[108,111,111,107]
def ue:List UInt8:=[119,105,99,107]
def qS:List UInt8:=[98,108,101,110,100]
def qR:List UInt8:=[115,116,111,99,107]
def gN:List UInt8:=[116,101,115,116,10]
def kX:List UInt8:=[120]
def BQ:List UInt8:=[111,107]
def HA:List UInt8:=[110,111]
def IZ:List UInt8:=[111,100,100]
def wC:List UInt8:=[98,114,111,107,101,110]
def PG:List UInt8:=[110,111,110,101]
def DA:List UInt8:=[112,117,114,101]
def wB:List UInt8:=[105,109,112,117,114,101]
def tB:List UInt8:=[112,101,114,104,97,112,115]
def joinL:List (List UInt8)->List UInt8
 |[]=>[]
 |[x]=>x
 |x::y::r=>x++32::joinL (y::r)
inductive Cmd where
 |lot (name kind:List UInt8) (grams:Int) (rs:List Int)
 |batch (name colour lot:List UInt8) (grams:Int)
 |drop (name:List UInt8)
 |plan (c:List UInt8)
 |pour (c:List UInt8)
 |test (text:List UInt8)
 |promise (kind:List UInt8)
 |box (kind:List UInt8) (hours:Int)
 |look
 |wick (kind:List UInt8) (a b c d:Int)
 |blend (a b c:Int)
 |stock
def Cmd.written:Cmd->Bool
 |.lot _ _ _ _=>true
 |.batch _ _ _ _=>true
 |.drop _=>true
 |.pour _=>true
 |.test _=>true
 |.box _ _=>true
 |_=>false
def eP (l:List UInt8):Option Int:=match jk l with|some v=>if 0<=v/\v<=10000000/\bC v=l then some v else none|none=>none
def cS (l:List UInt8):Option (List UInt8):=if nameOk (bs l)=true then some l else none
def eb:List (List UInt8)->Option (List Int)
 |[]=>some []
 |w::r=>if w=kX then(eb r).map (-1::·) else match eP w with|some n=>(eb r).map (n::·)|none=>none
def ff (v:List UInt8) (ws:List (List UInt8)):Option Cmd:=
 if v=vG then(match ws with|n::k::g::r=>(match cS n,cS k,eP g,eb r with|some n,some k,some g,some r=>some (.lot n k g r)|_,_,_,_=>none)|_=>none)
 else if v=oW then(match ws with|[n,c,l,g]=>(match cS n,cS c,cS l,eP g with|some n,some c,some l,some g=>some (.batch n c l g)|_,_,_,_=>none)|_=>none)
 else if v=rR then(match ws with|[n]=>(cS n).map .drop|_=>none)
 else if v=uf then(match ws with|[n]=>(cS n).map .plan|_=>none)
 else if v=rQ then(match ws with|[n]=>(cS n).map .pour|_=>none)
 else if v=mq then(match ws with|[n]=>(cS n).map .promise|_=>none)
 else if v=vH then(match ws with|[n,g]=>(match cS n,eP g with|some n,some g=>some (.box n g)|_,_=>none)|_=>none)
 else if v=ug then(match ws with|[]=>some .look|_=>none)
 else if v=ue then(match ws with|[n,a,b,c,d]=>(match cS n,eP a,eP b,eP c,eP d with|some n,some a,some b,some c,some d=>some (.wick n a b c d)|_,_,_,_,_=>none)|_=>none)
 else if v=qS then(match ws with|[a,b,c]=>(match eP a,eP b,eP c with|some a,some b,some c=>some (.blend a b c)|_,_,_=>none)|_=>none)
 else if v=qR then(match ws with|[]=>some .stock|_=>none)
 else none
def fj (l:List UInt8):Except Int Cmd:=
 if 400<l.length then .error 3
 else if l.take 5=gN then .ok (.test (l.drop 5))
 else match aQ 32 l with
  |[]=>.error 6
  |v::ws=>match ff v ws with|some c=>.ok c|none=>.error 6
def bl (s:ByteArray):List UInt8:=s.data.toList
def eL (b:ChBooks):List ClBatch:=b.batches.map λx=>⟨x.colour,x.grams⟩
def km (n:Int):List UInt8:=if n=1 then DA else if n=2 then tB else wB
def Nz (l:List ChBatch):Int:=(l.map (·.grams)).sum
def im (s:ChShop) (a b c:Int):BdWish:=⟨List.replicate s.blend.length ⟨0,20⟩,⟨a,b⟩,⟨0,c⟩⟩
def lC (s:ChShop) (b:ChBooks) (c:List UInt8):Except Int (List Nat×Int):=
 let k:=az (λx:ClColour=>x.name==bs c) s.colour.colours 0
 if k<0 then .error 4
 else if Cl.dJ s.colour k (eL b)≠0 then .error (Cl.dJ s.colour k (eL b))
 else match Cl.Aw s.colour k (eL b) with|none=>.error 9|some q=>.ok q
def fX (s:ChShop) (b:ChBooks) (kind:List UInt8):Except Int (Int×Int):=
 let k:=az (λx:HrKind=>x.name==bs kind) s.hour.kinds 0
 if k<0 then .error 4
 else if(cx s.hour b.tests k).2≠0 then .error (cx s.hour b.tests k).2
 else .ok (k,(cx s.hour b.tests k).1)
def qP (l:List ChBatch) (i:Nat):List UInt8:=match l[i]? with|some x=>bl x.name|none=>[]
def aP (s:ChShop) (b:ChBooks):Cmd->Except Int (ChBooks×List UInt8)
 |.lot name kind grams rs=>
  let k:=az (λx:WxKind=>x.name==bs kind) s.wax.kinds 0
  if b.lots.any (λx=>x.name==bs name)=true then .error 5
  else if k<0 then .error 4
  else if ¬(1<=grams/\grams<=100000) then .error 7
  else if(Wx.bE s.wax rs k).2.2≠0 then .error (Wx.bE s.wax rs k).2.2
  else if ¬b.lots.length<8 then .error 3
  else .ok ({ b with lots:=b.lots++[⟨bs name,k,grams,rs⟩] },joinL [km (Wx.bE s.wax rs k).2.1,bC (Wx.bE s.wax rs k).1.lo,bC (Wx.bE s.wax rs k).1.hi])
 |.batch name colour lot grams=>
  let c:=az (λx:ClColour=>x.name==bs colour) s.colour.colours 0
  let i:=az (λx:ChLot=>x.name==bs lot) b.lots 0
  if b.batches.any (λx=>x.name==bs name)=true then .error 5
  else if c<0 then .error 4
  else if i<0 then .error 4
  else if ¬(1<=grams/\grams<=100000) then .error 7
  else match b.lots[i.toNat]? with
   |none=>.error 4
   |some x=>
    if ¬grams<=x.grams then .error 9
    else if ¬b.batches.length<7 then .error 3
    else .ok ({ b with lots:=b.lots.set i.toNat { x with grams:=x.grams-grams },batches:=b.batches++[⟨bs name,c,i,grams⟩] },BQ)
 |.drop name=>
  let i:=az (λx:ChBatch=>x.name==bs name) b.batches 0
  if i<0 then .error 4
  else match b.batches[i.toNat]? with
   |none=>.error 4
   |some y=>match b.lots[y.lot.toNat]? with
    |none=>.error 4
    |some x=>.ok ({ b with lots:=b.lots.set y.lot.toNat { x with grams:=x.grams+y.grams },batches:=b.batches.eraseIdx i.toNat },BQ)
 |.plan c=>match lC s b c with
  |.error e=>.error e
  |.ok (o,n)=>.ok (b,joinL (o.map (qP b.batches)++[bC n]))
 |.pour c=>match lC s b c with
  |.error e=>.error e
  |.ok (_,n)=>.ok ({ b with poured:=b.poured+Nz b.batches,batches:=[],lost:=b.lost+n },bC n)
 |.test text=>
  if(aM s.hour text).2≠0 then .error (aM s.hour text).2
  else if ¬b.tests.length<8 then .error 3
  else .ok ({ b with tests:=b.tests++[(aM s.hour text).1] },
   if(di s.hour (aM s.hour text).1).2=0 then joinL [bC (di s.hour (aM s.hour text).1).1.lo,bC (di s.hour (aM s.hour text).1).1.hi]
   else joinL (IZ::(jD s.hour (aM s.hour text).1).1.map bC))
 |.promise kind=>match fX s b kind with
  |.error e=>.error e
  |.ok (_,n)=>.ok (b,bC n)
 |.box kind hours=>match fX s b kind with
  |.error e=>.error e
  |.ok (k,n)=>if ¬hours<=n then .error 9 else if ¬b.boxes.length<20 then .error 3 else .ok ({ b with boxes:=b.boxes++[⟨k,hours⟩] },BQ)
 |.look=>.ok (b,if(bG s.hour b.tests b.boxes).1=[] then BQ else joinL (wC::(bG s.hour b.tests b.boxes).1.map bC))
 |.wick kind a b' c d=>
  let i:=az (λx:Wax=>x.name==bs kind) s.wick.waxes 0
  if i<0 then .error 4
  else match s.wick.waxes[i.toNat]? with
   |none=>.error 4
   |some x=>
    if(Wk.d9 s.wick ⟨i,a,b',⟨c,d⟩⟩ x).2≠0 then .error (Wk.d9 s.wick ⟨i,a,b',⟨c,d⟩⟩ x).2
    else match s.wick.wicks[(Wk.d9 s.wick ⟨i,a,b',⟨c,d⟩⟩ x).1.toNat]? with
     |none=>.error 4
     |some w=>.ok (b,bl w.name)
 |.blend a b' c=>
  if(b9 s.blend (im s a b' c)).2.2≠0 then .error (b9 s.blend (im s a b' c)).2.2
  else .ok (b,joinL ((b9 s.blend (im s a b' c)).1.map bC++[bC (b9 s.blend (im s a b' c)).2.1]))
 |.stock=>.ok (b,if b.lots=[] then PG else joinL (b.lots.flatMap λx=>[bl x.name,bC x.grams]))
def d8 (s:ChShop) (b:ChBooks) (l:List UInt8):Except Int (ChBooks×List UInt8×Bool):=
 match fj l with
 |.error e=>.error e
 |.ok c=>match aP s b c with|.error e=>.error e|.ok (b',a)=>.ok (b',a,c.written)
end Ch
end Abs
open Go.Shelf
def Tryz.lays156_ren:Go.Shelf.Ren:=⟨λ| 156=>120|165=>166|166=>45|169=>46|240=>95|241=>233|276=>121|277=>285|n=>n,λ| 0=>0|3=>3|4=>4|5=>5|9=>9|20=>20|31=>49|37=>43|70=>107|72=>109|75=>114|76=>115|80=>91|127=>191|164=>213|n=>n,λ| n=>n⟩
theorem Tryz.lays156:Go.Proofs.Lays.n156 TP Tryz.lays156_ren:={
 mixed:=by kernel_rfl
 f156:=Tryz.func120.trans (congrArg some (by kernel_rfl))
 f165:=Tryz.func166.trans (congrArg some (by kernel_rfl))
 f166:=Tryz.func45.trans (congrArg some (by kernel_rfl))
 f169:=Tryz.func46.trans (congrArg some (by kernel_rfl))
 f240:=Tryz.func95.trans (congrArg some (by kernel_rfl))
 f241:=Tryz.func233.trans (congrArg some (by kernel_rfl))
 f276:=Tryz.func121.trans (congrArg some (by kernel_rfl))
 f277:=Tryz.func285.trans (congrArg some (by kernel_rfl))
 t0:=Tryz.underlying0
 a0:=Tryz.isAgg0
 z0:=Tryz.sizeOf0
 v0:=Tryz.zeroValue0
 t3:=Tryz.underlying3
 a3:=Tryz.isAgg3
 z3:=Tryz.sizeOf3
 v3:=Tryz.zeroValue3
 t4:=Tryz.underlying4
 a4:=Tryz.isAgg4
 z4:=Tryz.sizeOf4
 v4:=Tryz.zeroValue4
 t9:=Tryz.underlying9
 a9:=Tryz.isAgg9
 z9:=Tryz.sizeOf9
 v9:=Tryz.zeroValue9
 t20:=Tryz.underlying20
 a20:=Tryz.isAgg20
 z20:=Tryz.sizeOf20
 v20:=Tryz.zeroValue20
 t31:=Tryz.underlying49
 a31:=Tryz.isAgg49
 z31:=Tryz.sizeOf49
 v31:=Tryz.zeroValue49
 t37:=Tryz.underlying43
 a37:=Tryz.isAgg43
 z37:=Tryz.sizeOf43
 v37:=Tryz.zeroValue43
 t70:=Tryz.underlying107
 a70:=Tryz.isAgg107
 z70:=Tryz.sizeOf107
 v70:=Tryz.zeroValue107
 t72:=Tryz.underlying109
 a72:=Tryz.isAgg109
 z72:=Tryz.sizeOf109
 v72:=Tryz.zeroValue109
 t75:=Tryz.underlying114
 a75:=Tryz.isAgg114
 z75:=Tryz.sizeOf114
 v75:=Tryz.zeroValue114
 t76:=Tryz.underlying115
 a76:=Tryz.isAgg115
 z76:=Tryz.sizeOf115
 v76:=Tryz.zeroValue115
 t127:=Tryz.underlying191
 a127:=Tryz.isAgg191
 z127:=Tryz.sizeOf191
 v127:=Tryz.zeroValue191
 t164:=Tryz.underlying213
 a164:=Tryz.isAgg213
 z164:=Tryz.sizeOf213
 v164:=Tryz.zeroValue213 }
theorem Tryz.lays156X:Go.Proofs.Builder.Extra TP Tryz.lays156_ren:={
 sizeBuilder:=by kernel_rfl
 liesBuilder:=by kernel_rfl
 t5:=by kernel_rfl
 a5:=Tryz.isAgg5
 z5:=Tryz.sizeOf5
 v5:=Tryz.zeroValue5
 infoByte:=by kernel_rfl
 cellsByte:=by kernel_rfl
 sizeByte:=by kernel_rfl
 neB5:=Nat.ne_of_beq_eq_false (by kernel_rfl) }
namespace Abs
open Go.RowKit Go.Sort
set_option maxRecDepth 100000
theorem Ru{w:World}{b k}{v}(h:w.cell? ⟨b,k,none⟩=some v):b<w.heap.size:=by
 unfold World.cell? at h;rcases dg b w.heap.size with h'|h'
 .exact h'
 .simp[pN h']at h
theorem V3(l)(sep)(fl)(hl:l.length<=1000000)(hb:(Lib.join l sep).length<=1000000000) :
  af TP 120 [.slice 1 (l.map λx=>.str (bs x)) fl,.str (bs sep)] (.str (bs (Lib.join l sep))):=by
 intro M0 w cargs hM hg ha;obtain⟨u,v,rfl,hu,hv⟩:=zx ha;cases hv;refine⟨(λw'=>ja Tryz.func120 Vt _ w'),?_⟩;have hdat:(l.map bs).map (λx:ByteArray=>x.data.toList)=l:=by rw[th];simp[jw,f']
 have fin:∀(e:Ending) (w':World),e=.returned (.string ⟨(Lib.join ((l.map bs).map (·.data.toList)) (bs sep).data.toList).toArray⟩)/\Below w.heap.size w w'->∃v',e=Ending.returned v'/\RepP M0 w' v' (.str (bs (Lib.join l sep)))/\Fr [] w w':=by
  rintro e w' ⟨rfl,h⟩
  refine⟨_,rfl,?_,lS h⟩;rw[hdat,f'];exact .str _
 generalize hxs:l.map (λx=>PV.str (bs x))=xs at hu
 cases hu with
 |slice f hlen hcap hfull hsz hM' hc hr=>
  rename_i b off len cap;subst hlen;have hlen2:xs.length=(l.map bs).length:=by rw[<-hxs];simp
  cases hl0:l with
  |nil=>
   subst hl0;simp only[bj]at hxs;subst hxs
   exact(Any.strings_Join_none Tryz.lays156 Tryz.lays156X (some ⟨b,off,none⟩) cap (bs sep) w).mono λe w' h=>fin e w' ⟨h.1,h.2▸Below.refl _ _⟩
  |cons x0 l0=>
   rw[<-hl0];have hcells:∀(j:Nat) x,(l.map bs)[j]?=some x->w.cell? ⟨b,off+j,none⟩=some (.string x):=by
    intro j x hj;have hjx:xs[j]?=some (.str x):=by
     rw[<-hxs,cz];rw[cz]at hj
     cases hq:l[j]? with
     |none=>rw[hq]at hj;cases hj
     |some q=>rw[hq]at hj;cases hj;rfl
    have hjl:=(ax.1 hjx).1;have h1:=hr j 0 _ _ hjx rfl;have h2:=hc j (by omega);rw[h2];have h3:f (j*1+0)=f j:=by simp
    rw[h3]at h1;cases hf:f j<;>rw[hf]at h1<;>cases h1;rfl
   have hbk:b<w.heap.size:=Ru (hcells 0 (bs x0) (by rw[hl0];rfl));have:=Any.strings_Join Tryz.lays156 Tryz.lays156X b off cap (l.map bs) (bs sep) w hcells hbk (by simp;omega) (by rw[<-hlen2];exact hcap) (by rw[hdat,f'];omega);rw[<-hlen2]at this
   exact this.mono fin
 |empty hfull=>
  rename_i a cap;have hl0:l=[]:=by cases l with|nil=>rfl|cons x r=>simp at hxs
  subst hl0;exact(Any.strings_Join_none Tryz.lays156 Tryz.lays156X a cap (bs sep) w).mono λe w' h=>fin e w' ⟨h.1,h.2▸Below.refl _ _⟩
end Abs
end Go.Proofs.YtnjiadikeacfaaaGreatDoor
