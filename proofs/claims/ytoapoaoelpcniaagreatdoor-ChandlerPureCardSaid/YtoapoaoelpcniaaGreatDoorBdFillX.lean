/- CONTRACTS of the program's functions, and laws on what they return. No conditions but those in the theorems' heads. -/
import Derived.Test.YtoapoaoelpcniaaGreatDoorBdChkX
import Derived.Test.YtoapoaoelpcniaaGreatDoorWkRunX
import Derived.Shelf.Strings.OnBuilder
set_option linter.all false
open Go.Proofs.Tryz renaming prog->TP
namespace Go.Proofs.YtoapoaoelpcniaaGreatDoor
namespace Abs
set_option maxRecDepth 4000
def oQ (l:List BdWax) (w:BdWish):Nat->List Int->Int->List (List Int)
 |0,pre,left=>if kA l w (pre++[left])=0 then [pre++[left]] else []
 |k+1,pre,left=>match w.parts[pre.length]? with
  |some s=>(jp s.lo (if s.hi<left then s.hi else left)).flatMap λn=>oQ l w k (pre++[n]) (left-n)
  |none=>[]
theorem AA{a b c}(h1:a<=b+1)(h2:b<=c):jp a c=jp a b++jp (b+1) c:=by
 unfold jp;obtain⟨m,hm⟩:∃m:Nat,(b+1-a).toNat=m:=⟨_,rfl⟩
 obtain⟨k,hk⟩:∃k:Nat,(c+1-(b+1)).toNat=k:=⟨_,rfl⟩
 have e:(c+1-a).toNat=m+k:=by omega
 rw[e,hm,hk,List.range_add,cj,uR]
 congr 1
 apply Pf;intro i _;simp only[Function.comp];omega
theorem MF{a b}(h:b<a):jp a b=[]:=by
 unfold jp;have:(b+1-a).toNat=0:=by omega
 rw[this];rfl
theorem vV{α β:Type}{f:α->List β}:∀{l:List α},(∀x,x∈l->f x=[])->l.flatMap f=[]
 |[],_=>rfl
 |x::l,h=>by rw[mF,h x (by simp),vV λy hy=>h y (by simp[hy])];rfl
theorem Qq{β:Type}{f:Int->List β}{lo hi left}(h0:0<=lo)(hf:∀n,n<lo\/hi<n->f n=[]):(jp 0 left).flatMap f=(jp lo (if hi<left then hi else left)).flatMap f:=by
 obtain⟨m,hm⟩:∃m,(if hi<left then hi else left)=m:=⟨_,rfl⟩
 have hmh:m<=hi:=by rw[<-hm];split<;>omega
 have hml:m<=left:=by rw[<-hm];split<;>omega
 have hmx:∀n,n<=left->m<n->hi<n:=λn h1 h2=>by rw[<-hm]at h2;split at h2<;>omega
 rw[hm];rcases Int.lt_or_le m lo with h|h
 .rw[MF h];exact vV λn hn=>by
   have:=yt.1 hn;by_cases h1:n<lo
   .exact hf n (.inl h1)
   .exact hf n (.inr (hmx n this.2 (by omega)))
 .have e1:jp 0 left=jp 0 (lo-1)++jp lo left:=by have:=AA (a:=0) (b:=lo-1) (c:=left) (by omega) (by omega);rwa [Int.sub_add_cancel]at this
  have e2:jp lo left=jp lo m++jp (m+1) left:=AA (by omega) hml
  rw[e1,e2,Dd,Dd,vV (l:=jp 0 (lo-1)) λn hn=>hf n (.inl (by have:=yt.1 hn;omega)),
   vV (l:=jp (m+1) left) λn hn=>hf n (.inr (by have:=yt.1 hn;exact hmx n this.2 (by omega)))]
  simp
theorem SH{l}{w}{pre t}{n}{s}(hs:w.parts[pre.length]?=some s)(hn:n<s.lo\/s.hi<n):kA l w (pre++n::t)=1:=by
 have:pA w (pre++n::t)=true:=by
  unfold pA;rw[KD];refine⟨(n,s),aG (i:=pre.length) (List.getElem?_zip_eq_some.2 ⟨by simp,hs⟩),?_⟩;simp[ar];omega
 rw[kA,if_pos this]
theorem J3{l}{w}(hw:WishOk l.length w):∀(k) (pre) (left),pre.length+k+1=l.length->oQ l w k pre left=((qR k left).map (pre++·)).filter λr=>kA l w r==0
 |0,pre,left,h=>by
  rw[oQ,qR]
  simp[List.filter_cons]
 |k+1,pre,left,h=>by
  have hlt:pre.length<w.parts.length:=by have:=hw.len;omega
  obtain⟨s,hs⟩:∃s,w.parts[pre.length]?=some s:=⟨_,dc hlt⟩
  have hsr:=hw.parts s (aG hs);rw[oQ,hs,qR];dsimp only;have e:∀n,oQ l w k (pre++[n]) (left-n)=(((qR k (left-n)).map (n::·)).map (pre++·)).filter λr=>kA l w r==0:=λn=>by
   rw[J3 hw k (pre++[n]) (left-n) (by simp;omega)];simp[j5]
  simp only[e];have:((((jp 0 left).flatMap λn=>(qR k (left-n)).map (n::·)).map (pre++·)).filter λr=>kA l w r==0)=(jp 0 left).flatMap λn=>(((qR k (left-n)).map (n::·)).map (pre++·)).filter λr=>kA l w r==0:=by
   rw[List.map_flatMap,List.filter_flatMap]
  rw[this];symm;refine Qq hsr.1 λn hn=>?_;rw[List.filter_eq_nil_iff];intro r hr;simp only[uR,cH,Function.comp]at hr;obtain⟨t,_,rfl⟩:=hr;rw[SH hs hn];decide
theorem Qs{l}{w}(hl:BdWaxesOk l)(hw:WishOk l.length w):oQ l w (l.length-1) [] 20=fits l w:=by
 rw[J3 hw _ _ _ (by have:=hl.len;simp;omega)];simp[fits]
def xZ (l:List BdWax):PV:=.ptr 1 [f' l] 0 0
def xW (w:BdWish):PV:=.ptr 5 [w.pv] 0 0
attribute [go_sem] xZ xW
def nt (l:List BdWax) (w:BdWish) (n0 id:Nat) (lo:Heap) (cur:List Int) (ext:Heap):Heap:=
 lo++(.row 1 [.ref .yl id]::.row 1 (cur.map λx=>.p (aI x))::.row 1 [.slice (n0+1) l.length 0 l.length] ::
  .row 1 [.func (.func 314) [] [.p (xZ l),.ptr (n0+2) 1 0 0,.p (xW w),.ptr n0 1 0 0,.ptr (n0+3) 1 0 0]]::ext)
theorem sO{lo:Heap}{n0}(h:lo.length=n0)(t)(j):(lo++t)[n0+j]?=t[j]?:=by rw[bW (by omega)];congr 1;omega
theorem qK{lo:Heap}{n0}(h:lo.length=n0)(t):(lo++t)[n0]?=t[0]?:=sO h t 0
theorem sN{lo:Heap}{n0}(h:lo.length=n0)(t)(j)(x):(lo++t).set (n0+j) x=lo++t.set j x:=by
 rw[uU _ _ (by omega)];congr 2;omega
theorem FM{cur pre:List Int}{v c}(h:cur.take pre.length=pre)(hc:cur[pre.length]?=some c):(cur.set pre.length v).take (pre.length+1)=pre++[v]:=by
 have hlt:=(aF.1 hc).1;rw[s6,List.take_set_of_le (by omega),h];simp[hlt]
set_option maxHeartbeats 2000000 in
theorem RZ{l}{w}(hl:BdWaxesOk l)(hw:WishOk l.length w){id n0}{Inv:Nat->Heap->Prop}{Fin:Heap->Prop}{all:List (List Int)}
  (hy:∀(k) (xs) (lo mid) (j),(all.map λr=>r.map aI)[k]?=some xs->Inv k lo->lo.length=n0->mid[j]?=some (.row 1 (xs.map .p)) ->
   ue TP id [.slice (j+n0) xs.length 0 xs.length] (lo++mid) (λr h'=>∃lo' ext,h'=lo'++mid++ext/\lo'.length=n0 /\
    ((r=.ret (.p (.bool true))/\Inv (k+1) lo')\/(r=.ret (.p (.bool false))/\Fin lo')))) :
  ∀(k) (pre) (left) (lo) (cur) (ext) (idx) (tl),pre.length+k+1=l.length->0<=left->left<=20->(∀n,n∈pre->0<=n/\n<=20) ->
   cur.length=l.length->cur.take pre.length=pre->idx<=all.length->all.drop idx=oQ l w k pre left++tl->lo.length=n0->Inv idx lo ->
   aD TP 314 [.p (.int .i64 pre.length),.p (.int .i64 left),.p (xZ l),.ptr (n0+2) 1 0 0,.p (xW w),.ptr n0 1 0 0,.ptr (n0+3) 1 0 0] (nt l w n0 id lo cur ext)
    (λr h'=>∃lo' cur' ext',h'=nt l w n0 id lo' cur' ext'/\lo'.length=n0/\((r=.ret (.p (.bool true))/\cur'.length=l.length/\cur'.take pre.length=pre/\∃idx',idx'<=all.length/\all.drop idx'=tl/\Inv idx' lo') \/
     (r=.ret (.p (.bool false))/\Fin lo')))
 |0,pre,left,lo,cur,ext,idx,tl,h1,h2,h3,h4,h5,h6,h7,h8,h9,h10=>by
  refine aC (ah Tryz.func314 rfl (by kernel_rfl)) rfl ?_;have hl5:=hl.len;have gg:=sO h9;have g0:=qK h9;have ss:=sN h9;have hw1:IntKind.i64.wrap ((l.length:Int)-1)=(l.length:Int)-1:=JM hl;have hc:(((pre.length:Nat):Int)==(l.length:Int)-1)=true:=by simp;omega
  obtain⟨c,hcur⟩:∃c,cur[pre.length]?=some c:=⟨_,dc (by omega)⟩
  have hlt:((pre.length:Nat):Int)<(l.length:Int):=by omega
  have hset:(cur.map λx=>AV.p (aI x)).set pre.length (.p (aI left))=(cur.set pre.length left).map λx=>AV.p (aI x):=by rw[RE]
  have hcs:cur.set pre.length left=pre++[left]:=by
   have:=FM (v:=left) h6 hcur;rwa [eD (by simp;omega)]at this
  rw[hcs]at hset;simp only[aI]at hset;have hlen:(pre++[left]).length=l.length:=by simp;omega
  have hrng:∀n,n∈pre++[left]->0<=n/\n<=20:=λn hn=>by
   rcases dr.1 hn with hn|hn
   .exact h4 n hn
   .simp at hn;omega
  simp only[nt,gg,ss,hw1,hc,hcur,hlt,h5,hset,go_sem,simprocAttr];have htk:((pre++[left]).map aI).take l.length=(pre++[left]).map aI:=eD (by simp;omega);refine bf (XR false hl hw hlen hrng) ?_ (.int _ _) ?_
  .simp only[gg,hlen,go_sem,simprocAttr];exact congrArg (λx=>PV.slice 1 x false) htk
  simp only[go_sem,simprocAttr];rw[oQ]at h8;cases hb:(kA l w (pre++[left]) != 0)
  rotate_left
  .have hb':¬kA l w (pre++[left])=0:=by simpa using hb
   rw[if_neg hb',ky]at h8;simp only[go_sem,simprocAttr];first|exact⟨lo,pre++[left],ext,rfl,h9,.inl ⟨hlen,by simp,idx,h7,h8,h10⟩⟩|exact⟨lo,pre++[left],ext,rfl,h9,hlen,by simp,idx,h7,h8,h10⟩
  have hb':kA l w (pre++[left])=0:=by simpa using hb
  rw[if_pos hb',KQ]at h8;have hidx:all[idx]?=some (pre++[left]):=by rw[<-List.head?_drop,h8];rfl
  have hlti:idx<all.length:=(aF.1 hidx).1;have hdrop:all.drop (idx+1)=tl:=by rw[<-wE,h8];rfl
  have hyl:=hy idx ((pre++[left]).map aI) lo (.row 1 [.ref .yl id]::.row 1 ((pre++[left]).map λx=>.p (aI x))::.row 1 [.slice (n0+1) l.length 0 l.length] ::
   .row 1 [.func (.func 314) [] [.p (xZ l),.ptr (n0+2) 1 0 0,.p (xW w),.ptr n0 1 0 0,.ptr (n0+3) 1 0 0]]::ext) 1 (by rw[cO,hidx];rfl) h10 h9 (by simp)
  rw[eF,hlen,Nat.add_comm 1 n0]at hyl;simp only[aI,xZ,xW,f',BdWish.pv]at hyl;simp only[gg,g0,go_sem,simprocAttr];refine qL hyl (λv h' hr=>?_) (λv h' hr=>?_);rotate_left
  .obtain⟨_,_,_,_,hr⟩:=hr;rcases hr with⟨hr,_⟩|⟨hr,_⟩<;>cases hr
  obtain⟨lo',ext',rfl,k1,hr⟩:=hr;rcases hr with⟨hr,k2⟩|⟨hr,k2⟩
  .cases hr;simp only[go_sem,simprocAttr];first|exact⟨lo',pre++[left],ext++ext',by simp[nt],k1,.inl ⟨hlen,by simp,idx+1,by omega,hdrop,k2⟩⟩|exact⟨lo',pre++[left],ext++ext',by simp[],k1,hlen,by simp,idx+1,by omega,hdrop,k2⟩
  .cases hr;simp only[go_sem,simprocAttr]
   first|exact⟨lo',pre++[left],ext++ext',by simp[nt],k1,.inr k2⟩|exact⟨lo',pre++[left],ext++ext',by simp[],k1,k2⟩
 |k+1,pre,left,lo,cur,ext,idx,tl,h1,h2,h3,h4,h5,h6,h7,h8,h9,h10=>by
  refine aC (ah Tryz.func314 rfl (by kernel_rfl)) rfl ?_;have hl5:=hl.len;have gg:=sO h9;have g0:=qK h9;have ss:=sN h9;have hw1:IntKind.i64.wrap ((l.length:Int)-1)=(l.length:Int)-1:=JM hl;have hc:(((pre.length:Nat):Int)==(l.length:Int)-1)=false:=by simp;omega
  have hltp:pre.length<w.parts.length:=by have:=hw.len;omega
  have hltp':((pre.length:Nat):Int)<(w.parts.length:Int):=by omega
  obtain⟨s,hs⟩:∃s,w.parts[pre.length]?=some s:=⟨_,dc hltp⟩
  have hsr:=hw.parts s (aG hs);have hw2:IntKind.i64.wrap (((pre.length:Nat):Int)+1)=((pre.length+1:Nat):Int):=bj (by omega) (by simp[aw];omega) (by omega);rw[oQ,hs]at h8;dsimp only at h8;obtain⟨m,hm⟩:∃m,(if s.hi<left then s.hi else left)=m:=⟨_,rfl⟩
  have hml:m<=left:=by rw[<-hm];split<;>omega
  have hmin:(if s.hi<left then PV.int .i64 s.hi else PV.int .i64 left)=.int .i64 m:=by rw[<-hm];split<;>rfl
  rw[hm]at h8;simp only[nt,hw1,hc,hs,hltp',go_sem,simprocAttr]
  refine eC [0,1,3,4,6] (σ:=List Int×List Int×Heap×List Int×Heap×Nat)
   (λq=>jp s.lo m=q.1++q.2.1/\q.2.2.1.length=n0/\q.2.2.2.1.length=l.length/\q.2.2.2.1.take pre.length=pre/\q.2.2.2.2.2<=all.length/\all.drop q.2.2.2.2.2=(q.2.1.flatMap λn=>oQ l w k (pre++[n]) (left-n))++tl/\Inv q.2.2.2.2.2 q.2.2.1)
   (λq=>q.2.1.length) (λq=>[(10,.p (.int .i64 (s.lo+(q.1.length:Int))))]) (λq=>nt l w n0 id q.2.2.1 q.2.2.2.1 q.2.2.2.2.1) ([],jp s.lo m,lo,cur,ext,idx) ⟨rfl,h9,h5,h6,h7,h8,h10⟩ (by simp only[nt,go_sem,simprocAttr]) ?_ ?_
  .simp only[go_sem,simprocAttr]<;>simp
  clear h5 h6 h7 h8 h9 h10 gg g0 ss idx
  rintro⟨done,rest,lo',cur',ext',idx⟩ ⟨e1,h9,h5,h6,h7,h8,h10⟩
  dsimp only at e1 h9 h5 h6 h7 h8 h10;have gg:=sO h9;have g0:=qK h9;have ss:=sN h9
  cases rest with
  |nil=>
   have hlen:=Sl s.lo m;rw[e1,bC]at hlen;have hgt:¬s.lo+(done.length:Int)<=m:=by omega
   simp only[nt,hs,hltp',hm,hgt,go_sem,simprocAttr]
   first|exact⟨lo',cur',ext',rfl,h9,.inl ⟨h5,h6,idx,h7,by simpa using h8,h10⟩⟩|exact⟨lo',cur',ext',rfl,h9,h5,h6,idx,h7,by simpa using h8,h10⟩
  |cons y r=>
   have hy0:(jp s.lo m)[done.length]?=some y:=by rw[e1];simp
   obtain⟨hy1,hy2⟩:=Sm hy0;have hle:s.lo+(done.length:Int)<=m:=by omega
   obtain⟨c,hcur⟩:∃c,cur'[pre.length]?=some c:=⟨_,dc (by omega)⟩
   have hlt:((pre.length:Nat):Int)<(l.length:Int):=by omega
   have hset:(cur'.map λx=>AV.p (aI x)).set pre.length (.p (aI y))=(cur'.set pre.length y).map λx=>AV.p (aI x):=by rw[RE]
   have hcs:(cur'.set pre.length y).take (pre.length+1)=pre++[y]:=FM h6 hcur;simp only[aI]at hset;have hwy:IntKind.i64.wrap (left-y)=left-y:=aj (by omega) (by omega);have hnx:IntKind.i64.wrap (y+1)=y+1:=aj (by omega) (by omega);rw[mF,cF]at h8
   have ih:=RZ hl hw hy k (pre++[y]) (left-y) lo' (cur'.set pre.length y) ext' idx ((r.flatMap λn=>oQ l w k (pre++[n]) (left-n))++tl) (by simp;omega) (by omega) (by omega)
    (λn hn=>by
     rcases dr.1 hn with hn|hn
     .exact h4 n hn
     .simp at hn;omega) (by simpa using h5) (by rw[aB];exact hcs) h7 h8 h9 h10
   rw[hy1]at ih hset hwy hnx hcs;simp only[nt,gg,ss,hs,hltp',hm,hle,h5,hcur,hlt,hset,hw2,hwy,go_sem,simprocAttr];simp only[nt,xZ,xW,f',BdWish.pv,aI,aB,bn]at ih;refine cz ih (λv h' hr=>?_) (λv h' hr=>?_);rotate_left
   .obtain⟨_,_,_,_,_,hr⟩:=hr;rcases hr with⟨hr,_⟩|⟨hr,_⟩<;>cases hr
   obtain⟨lo2,cur2,ext2,rfl,k1,hr⟩:=hr;rcases hr with⟨hr,k2,k3,idx2,k4,k5,k6⟩|⟨hr,k2⟩
   .cases hr;simp only[go_sem,simprocAttr];refine bh (done++[y],r,lo2,cur2,ext2,idx2) ⟨by simp[e1],k1,k2,?_,k4,k5,k6⟩ (by simp) rfl ?_
    .have:=congrArg (List.take pre.length) k3;rw[List.take_take,gk rfl]at this;rwa [E8 (by simp)]at this
    .simp only[hnx,aB,bn,go_sem,simprocAttr];omega
   .cases hr;simp only[go_sem,simprocAttr];first|exact⟨lo2,cur2,ext2,rfl,k1,.inr k2⟩|exact⟨lo2,cur2,ext2,rfl,k1,k2⟩
def BA (l:List BdWax) (w:BdWish):PV:=.func (.func 313) [] [xZ l,xW w]
theorem Qi{l}{w}(hl:BdWaxesOk l)(hw:WishOk l.length w):Sa TP (BA l w) 1 ((fits l w).map λr=>r.map aI):=by
 refine⟨_,_,_,rfl,λid Inv Fin h0 hid hy hi=>?_⟩;have hl5:=hl.len;have gg:=sO (lo:=h0) rfl;have g0:=qK (lo:=h0) rfl;have ss:=sN (lo:=h0) rfl;have hrm:((l.length:Nat):Int)<=(aw:Int):=by simp[aw];omega
 refine aC (ah Tryz.func313 rfl (by kernel_rfl)) rfl ?_;simp only[hrm,ir,cF,aB,bn,gg,ss,go_sem,simprocAttr];have hfill:=RZ hl hw hy (l.length-1) [] 20 h0 (List.replicate l.length 0) [] 0 [] (by simp;omega) (by omega) (by omega) (by simp) (by simp) (by simp) (by omega) (by rw[Qs hl hw];simp) rfl hi;simp only[nt,xZ,xW,f',BdWish.pv,aI,List.map_replicate,cw,Int.cast_ofNat_Int]at hfill;refine cz hfill (λv h' hr=>?_) (λv h' hr=>?_);rotate_left
 .obtain⟨_,_,_,_,_,hr⟩:=hr;rcases hr with⟨hr,_⟩|⟨hr,_⟩<;>cases hr
 obtain⟨lo2,cur2,ext2,rfl,k1,hr⟩:=hr;have fin:∀(k:Nat),k<=(fits l w).length->(fits l w).drop k=[]->k=(fits l w).length:=λk h1 h2=>by
  have:=congrArg List.length h2;simp at this;omega
 rcases hr with⟨hr,k2,k3,idx2,k4,k5,k6⟩|⟨hr,k2⟩
 .cases hr;simp only[go_sem,simprocAttr];refine⟨lo2,_,rfl,k1,.inl ?_⟩;have:=fin idx2 k4 k5;simpa[<-this]using k6
 .cases hr;simp only[go_sem,simprocAttr];exact⟨lo2,_,rfl,k1,.inr k2⟩
theorem Ho(l)(w):af TP 287 [f' l,w.pv] (BA l w):=by
 refine dg (ah Tryz.func287 rfl (by kernel_rfl)) rfl ?_;simp only[BA,go_sem,simprocAttr]
theorem GR(ps)(b1)(id)(h)(hid:h[id]?=some (.row 1 (ps.map λp=>.p (aI p.2))))(hl:ps.length<=5) :
  aD TP 289 [.p (.slice 7 (ps.map λp=>p.1.pv) b1),.slice id ps.length 0 ps.length] h (λr h'=>r=.ret (.p (rW ps))/\h'=h):=by
 refine qz (ah Tryz.func289 rfl (by kernel_rfl)) rfl ?_;have hlt0:id<h.length:=(aF.1 hid).1;have hidt:∀t,(h++t)[id]?=some (.row 1 (ps.map λp=>.p (aI p.2))):=λt=>by rw[aX hlt0];exact hid
 simp only[aI]at hidt;have gg:=sO (lo:=h) rfl;have g0:=qK (lo:=h) rfl;have ss:=sN (lo:=h) rfl;have s0:∀t x,(h++t).set h.length x=h++t.set 0 x:=λt x=>ss t 0 x;have hrm:((ps.length:Nat):Int)<=(aw:Int):=by simp[aw];omega
 have hr0:List.replicate ps.length tr=jb ps []:=by simp[jb]
 simp only[tr]at hr0;simp only[hrm,ir,hr0,go_sem,simprocAttr];refine Rp [1,5,11,12] ps (by omega) (τ:=Heap) (λ_ _ _=>True) (λdone _=>[(13,.p (.int .i64 done.length))]) (λdone ext=>h++(.row 8 (jb ps done)::ext)) [] trivial (by simp only[go_sem,simprocAttr]) ?_ ?_ ?_
 .simp only[go_sem,simprocAttr]
 .intro ext _;have hz:(jb ps ps)=ps.map λp=>.p (da p):=by simp[jb]
  simp only[da]at hz;simp only[hz,go_sem,simprocAttr];rfl
 .intro done x r ext e1 _ hx hlt hnx;have h1:=Eb e1;have h2:=Ec e1;have h3:=Ea e1;simp only[tr]at h2;simp only[da]at h3;have ge:=qK (lo:=ext) rfl;have se:∀t x,(ext++t).set ext.length x=ext++t.set 0 x:=λt x=>sN (lo:=ext) rfl t 0 x;simp only[hlt,hx,h1,h2,h3,hidt,gg,g0,ss,s0,ge,se,cF,aB,go_sem,simprocAttr];refine Rr e1 _ trivial rfl ?_;simp only[hnx,go_sem,simprocAttr]
def ff (l:List BdWax) (r:List Int):Int:=dt kn (l.zip r)
def dq (pr:List Int->Int):Option (List Int)->List (List Int)->Option (List Int)
 |b,[]=>b
 |none,r::t=>dq pr (some r) t
 |some b,r::t=>if pr r<pr b then dq pr (some r) t else dq pr (some b) t
theorem oV(pr):∀(t) (b) (r),dq pr b (t++[r])=dq pr (dq pr b t) [r]
 |[],b,r=>by cases b<;>rfl
 |x::t,none,r=>by rw[eu,dq,oV pr t,dq]
 |x::t,some b,r=>by
  rw[eu,dq,dq];split
  .rw[oV pr t]
  .rw[oV pr t]
theorem mY(pr):∀(t) (b) (r),dq pr b t=some r->b=some r\/r∈t
 |[],b,r,h=>by cases b<;>simp_all [dq]
 |x::t,none,r,h=>by
  rw[dq]at h;rcases mY pr t _ r h with h|h
  .cases h;exact .inr (by simp)
  .exact .inr (by simp[h])
 |x::t,some b,r,h=>by
  rw[dq]at h;split at h
  .rcases mY pr t _ r h with h|h
   .cases h;exact .inr (by simp)
   .exact .inr (by simp[h])
  .rcases mY pr t _ r h with h|h
   .exact .inl h
   .exact .inr (by simp[h])
theorem wK{α:Type}{l:List α}{k}{x}(h:l[k]?=some x):l.take (k+1)=l.take k++[x]:=by
 rw[s6,h];rfl
def cf (l:List BdWax) (w:BdWish):List Int×Int×Int:=
 if jh l w=0 then
  match dq (ff l) none (fits l w) with
  |none=>([],0,9)
  |some b=>(b,ff l b,0)
 else([],0,jh l w)
def uF (v:List Int×Int×Int):PV:=.tuple [.slice 1 (v.1.map aI) false,.int .i64 v.2.1,.int .i64 v.2.2]
def rz:Option (List Int)->PV
 |none=>.nilslice
 |some b=>.slice 1 (b.map aI) false
def nF (l:List BdWax):Option (List Int)->Int
 |none=>0
 |some b=>ff l b
set_option maxHeartbeats 1000000 in
theorem Ox(l)(w):af TP 225 [f' l,w.pv] (uF (cf l w)):=by
 refine dj (eg (by kernel_rfl) rfl Xo) rfl ?_;simp only[WY,go_sem,simprocAttr]
 (first|refine ae (V5 l w) rfl ?_|refine ax (V5 l w) rfl ?_)
 simp only[go_sem,simprocAttr];refine aT (λhe=>?_) (λhe=>?_)
 .have he':¬jh l w=0:=by simpa using he
  simp only[uF,cf,if_neg he',go_sem,simprocAttr];first|rfl|exact .inl rfl|exact⟨_,_,rfl,rfl,.inr ⟨rfl,1,rfl⟩,.inl rfl,.inl rfl,trivial⟩|exact⟨_,_,rfl,rfl,.inr ⟨rfl,1,rfl⟩,.inl rfl,trivial⟩|exact⟨_,_,rfl,rfl,.inl rfl,.inl rfl,trivial⟩|exact .inl (.inl rfl)|exact .inl (.inr ⟨rfl,1,rfl⟩)|exact .inr ⟨_,_,rfl,rfl,.inl rfl,.inl rfl,trivial⟩|exact .inr ⟨_,_,rfl,rfl,.inr ⟨rfl,1,rfl⟩,.inl rfl,trivial⟩|exact⟨1,rfl⟩|(simp;done)|(refine .inr ⟨_,_,rfl,rfl,?_⟩;repeat' (first|exact trivial|exact .inl rfl|exact .inr ⟨rfl,1,rfl⟩|refine⟨?_,?_⟩))
 have he':jh l w=0:=by simpa using he
 obtain⟨hl,hw⟩:=De he';have hl5:=hl.len;simp only[go_sem,simprocAttr]
 (first|refine ae (Ho l w) rfl ?_|refine ax (Ho l w) rfl ?_)
 simp only[BA,go_sem,simprocAttr];have hspec:cf l w=match dq (ff l) none (fits l w) with|none=>([],0,9)|some b=>(b,ff l b,0):=by rw[cf,if_pos he']
 rw[hspec];have hmem:∀k b,dq (ff l) none ((fits l w).take k)=some b->RecOk l.length b:=λk b h=>by
  rcases mY _ _ _ _ h with h|h
  .cases h
  .exact(Ac hl (tO h)).1
 refine Uh (l:=(fits l w).map λr=>r.map aI) (λo k h=>h=[.row 1 [.p (f' l)],.row 5 [.p w.pv],.row 1 [.p (rz (dq (ff l) none ((fits l w).take k)))],.row 1 [.p (.int .i64 (nF l (dq (ff l) none ((fits l w).take k))))],.dblock,o]) (λ_ _=>False)
  rfl (by simp only[BA,go_sem,simprocAttr]) (Qi hl hw) bI (by kernel_rfl) rfl (by kernel_rfl) (by kernel_rfl) ?_ ?_ ?_ ?_ (λ_ _ _ h=>h.elim)
 .rintro o k h rfl;simp
 .intro o;simp only[dq,rz,nF,go_sem,simprocAttr]
 .rintro oR oB oD k xs lo mid j hk rfl _ hj
  rw[cO,cg]at hk;obtain⟨r,hk,rfl⟩:=hk;have hro:=(Ac hl (aG hk)).1;have hps:=vo hl hro.rng;have hne:¬(r.map aI=[]):=by
   intro h;have:=congrArg List.length h;have h2:=hro.len;simp at this;subst this;simp at h2;omega
  have hne2:r≠[]:=λh=>hne (by rw[h];rfl);rw[wK hk,oV];have hmk:=hmem k;generalize dq (ff l) none ((fits l w).take k)=bo at hmk;have htk:(r.map aI).take r.length=r.map aI:=eD (by simp);have hz1:((l.zip r).map λp=>p.1.pv)=l.map BdWax.pv:=Cc BdWax.pv hro.len;have hz2:((l.zip r).map λp=>AV.p (aI p.2))=r.map λn=>AV.p (aI n):=Cb (λn=>AV.p (aI n)) hro.len;have hzl:(l.zip r).length=r.length:=by simp[hro.len]
  have hbl:∀a0 a1 a2 a3 a4 a5,aD TP 289 [.p (f' l),.slice (j+6) r.length 0 r.length] (a0::a1::a2::a3::a4::a5::mid) (λr' h'=>r'=.ret (.p (rW (l.zip r)))/\h'=a0::a1::a2::a3::a4::a5::mid):=λa0 a1 a2 a3 a4 a5=>by
   have:=GR (l.zip r) false (j+6) (a0::a1::a2::a3::a4::a5::mid) (by rw[hz2];simpa[j5]using hj) hps.len;rwa [hz1,hzl]at this
  simp only[f',rW]at hbl;simp only[go_sem,simprocAttr];refine cJ (hbl _ _ _ _ _ _) ?_;simp only[go_sem,simprocAttr]
  (first|refine ae (xM (l.zip r) false hps) rfl ?_|refine ax (xM (l.zip r) false hps) rfl ?_)
  simp only[go_sem,simprocAttr];have hprice:dt kn (l.zip r)=ff l r:=rfl;rw[hprice]
  cases bo with
  |none=>
   simp only[rz,go_sem,simprocAttr];refine yc (Nq r false hne2 (by have:=hro.len;omega)) ?_ ?_
   .simp only[hj,htk,go_sem,simprocAttr]
   simp only[go_sem,simprocAttr];first|refine⟨_,[],?_,rfl,.inl rfl⟩|refine⟨_,[],?_,rfl,rfl⟩
   simp only[dq,rz,nF,bC,go_sem,simprocAttr]
  |some b=>
   have hbo:=hmk b rfl;have hbn:¬(b.map aI=[]):=by
    intro h;have:=congrArg List.length h;have h2:=hbo.len;simp at this;subst this;simp at h2;omega
   simp only[rz,nF,hbn,go_sem,simprocAttr];cases hlt:decide (ff l r<ff l b)
   .have hlt':¬ff l r<ff l b:=by simpa using hlt
    simp only[go_sem,simprocAttr];first|refine⟨_,[],?_,rfl,.inl rfl⟩|refine⟨_,[],?_,rfl,rfl⟩
    simp only[if_neg hlt',dq,rz,nF,bC,go_sem,simprocAttr]
   .have hlt':ff l r<ff l b:=by simpa using hlt
    simp only[go_sem,simprocAttr];refine yc (Nq r false hne2 (by have:=hro.len;omega)) ?_ ?_
    .simp only[hj,htk,go_sem,simprocAttr]
    simp only[go_sem,simprocAttr];first|refine⟨_,[],?_,rfl,.inl rfl⟩|refine⟨_,[],?_,rfl,rfl⟩
    simp only[if_pos hlt',dq,rz,nF,bC,go_sem,simprocAttr]
 .rintro o lo mid rfl _
  have hlen:(fits l w).take (((fits l w).map λr=>r.map aI).length)=fits l w:=by simp
  rw[hlen];have hmk:=hmem (fits l w).length;rw[qN]at hmk;generalize dq (ff l) none (fits l w)=bo at hmk;simp only[go_sem,simprocAttr]
  cases bo with
  |none=>
   simp only[rz,uF,cb,go_sem,simprocAttr]
   first|rfl|exact .inl rfl|exact⟨_,_,rfl,rfl,.inr ⟨rfl,1,rfl⟩,.inl rfl,.inl rfl,trivial⟩|exact⟨_,_,rfl,rfl,.inr ⟨rfl,1,rfl⟩,.inl rfl,trivial⟩|exact⟨_,_,rfl,rfl,.inl rfl,.inl rfl,trivial⟩|exact .inl (.inl rfl)|exact .inl (.inr ⟨rfl,1,rfl⟩)|exact .inr ⟨_,_,rfl,rfl,.inl rfl,.inl rfl,trivial⟩|exact .inr ⟨_,_,rfl,rfl,.inr ⟨rfl,1,rfl⟩,.inl rfl,trivial⟩|exact⟨1,rfl⟩|(simp;done)|(refine .inr ⟨_,_,rfl,rfl,?_⟩;repeat' (first|exact trivial|exact .inl rfl|exact .inr ⟨rfl,1,rfl⟩|refine⟨?_,?_⟩))
  |some b=>
   have hbo:=hmk b rfl;have hbn:¬(b.map aI=[]):=by
    intro h;have:=congrArg List.length h;have h2:=hbo.len;simp at this;subst this;simp at h2;omega
   simp only[rz,nF,uF,hbn,cb,aL,go_sem,simprocAttr]
namespace Ch
def qU:List UInt8:=[108,111,116]
def lV:List UInt8:=[98,97,116,99,104]
def oK:List UInt8:=[100,114,111,112]
def gO:List UInt8:=[112,108,97,110]
def oI:List UInt8:=[112,111,117,114]
def jS:List UInt8:=[112,114,111,109,105,115,101]
def sA:List UInt8:=[98,111,120]
def oJ:List UInt8:=[108,111,111,107]
def p7:List UInt8:=[119,105,99,107]
def mQ:List UInt8:=[98,108,101,110,100]
def mP:List UInt8:=[115,116,111,99,107]
def gN:List UInt8:=[116,101,115,116,10]
def kX:List UInt8:=[120]
def uf:List UInt8:=[111,107]
def Az:List UInt8:=[110,111]
def KU:List UInt8:=[111,100,100]
def mf:List UInt8:=[98,114,111,107,101,110]
def RG:List UInt8:=[110,111,110,101]
def Fa:List UInt8:=[112,117,114,101]
def ug:List UInt8:=[105,109,112,117,114,101]
def r8:List UInt8:=[112,101,114,104,97,112,115]
def joinL:List (List UInt8)->List UInt8
 |[]=>[]
 |[x]=>x
 |x::y::r=>x++32::joinL (y::r)
inductive Cmd where
 |lot (name kind:List UInt8) (grams:Int) (rs:List Int)
 |batch (name colour lot:List UInt8) (grams:Int)
 |drop (name:List UInt8)
 |plan (c:List UInt8)
 |pour (c:List UInt8)
 |test (text:List UInt8)
 |promise (kind:List UInt8)
 |box (kind:List UInt8) (hours:Int)
 |look
 |wick (kind:List UInt8) (a b c d:Int)
 |blend (a b c:Int)
 |stock
def Cmd.written:Cmd->Bool
 |.lot _ _ _ _=>true
 |.batch _ _ _ _=>true
 |.drop _=>true
 |.pour _=>true
 |.test _=>true
 |.box _ _=>true
 |_=>false
def bF (l:List UInt8):Option Int:=match jR l with|some v=>if 0<=v/\v<=10000000/\be v=l then some v else none|none=>none
def aW (l:List UInt8):Option (List UInt8):=if nameOk (bs l)=true then some l else none
def cI:List (List UInt8)->Option (List Int)
 |[]=>some []
 |w::r=>if w=kX then(cI r).map (-1::·) else match bF w with|some n=>(cI r).map (n::·)|none=>none
def cW (v:List UInt8) (ws:List (List UInt8)):Option Cmd:=
 if v=qU then(match ws with|n::k::g::r=>(match aW n,aW k,bF g,cI r with|some n,some k,some g,some r=>some (.lot n k g r)|_,_,_,_=>none)|_=>none)
 else if v=lV then(match ws with|[n,c,l,g]=>(match aW n,aW c,aW l,bF g with|some n,some c,some l,some g=>some (.batch n c l g)|_,_,_,_=>none)|_=>none)
 else if v=oK then(match ws with|[n]=>(aW n).map .drop|_=>none)
 else if v=gO then(match ws with|[n]=>(aW n).map .plan|_=>none)
 else if v=oI then(match ws with|[n]=>(aW n).map .pour|_=>none)
 else if v=jS then(match ws with|[n]=>(aW n).map .promise|_=>none)
 else if v=sA then(match ws with|[n,g]=>(match aW n,bF g with|some n,some g=>some (.box n g)|_,_=>none)|_=>none)
 else if v=oJ then(match ws with|[]=>some .look|_=>none)
 else if v=p7 then(match ws with|[n,a,b,c,d]=>(match aW n,bF a,bF b,bF c,bF d with|some n,some a,some b,some c,some d=>some (.wick n a b c d)|_,_,_,_,_=>none)|_=>none)
 else if v=mQ then(match ws with|[a,b,c]=>(match bF a,bF b,bF c with|some a,some b,some c=>some (.blend a b c)|_,_,_=>none)|_=>none)
 else if v=mP then(match ws with|[]=>some .stock|_=>none)
 else none
def du (l:List UInt8):Except Int Cmd:=
 if 400<l.length then .error 3
 else if l.take 5=gN then .ok (.test (l.drop 5))
 else match aP 32 l with
  |[]=>.error 6
  |v::ws=>match cW v ws with|some c=>.ok c|none=>.error 6
def bl (s:ByteArray):List UInt8:=s.data.toList
def cy (b:ChBooks):List ClBatch:=b.batches.map λx=>⟨x.colour,x.grams⟩
def ji (n:Int):List UInt8:=if n=1 then Fa else if n=2 then r8 else ug
def j8 (l:List ChBatch):Int:=(l.map (·.grams)).sum
def iM (s:ChShop) (a b c:Int):BdWish:=⟨List.replicate s.blend.length ⟨0,20⟩,⟨a,b⟩,⟨0,c⟩⟩
def jK (s:ChShop) (b:ChBooks) (c:List UInt8):Except Int (List Nat×Int):=
 let k:=aA (λx:ClColour=>x.name==bs c) s.colour.colours 0
 if k<0 then .error 4
 else if Cl.dH s.colour k (cy b)≠0 then .error (Cl.dH s.colour k (cy b))
 else match Cl.BR s.colour k (cy b) with|none=>.error 9|some q=>.ok q
def fA (s:ChShop) (b:ChBooks) (kind:List UInt8):Except Int (Int×Int):=
 let k:=aA (λx:HrKind=>x.name==bs kind) s.hour.kinds 0
 if k<0 then .error 4
 else if(dz s.hour b.tests k).2≠0 then .error (dz s.hour b.tests k).2
 else .ok (k,(dz s.hour b.tests k).1)
def ij (l:List ChBatch) (i:Nat):List UInt8:=match l[i]? with|some x=>bl x.name|none=>[]
def aO (s:ChShop) (b:ChBooks):Cmd->Except Int (ChBooks×List UInt8)
 |.lot name kind grams rs=>
  let k:=aA (λx:WxKind=>x.name==bs kind) s.wax.kinds 0
  if b.lots.any (λx=>x.name==bs name)=true then .error 5
  else if k<0 then .error 4
  else if ¬(1<=grams/\grams<=100000) then .error 7
  else if(Wx.bD s.wax rs k).2.2≠0 then .error (Wx.bD s.wax rs k).2.2
  else if ¬b.lots.length<8 then .error 3
  else .ok ({ b with lots:=b.lots++[⟨bs name,k,grams,rs⟩] },joinL [ji (Wx.bD s.wax rs k).2.1,be (Wx.bD s.wax rs k).1.lo,be (Wx.bD s.wax rs k).1.hi])
 |.batch name colour lot grams=>
  let c:=aA (λx:ClColour=>x.name==bs colour) s.colour.colours 0
  let i:=aA (λx:ChLot=>x.name==bs lot) b.lots 0
  if b.batches.any (λx=>x.name==bs name)=true then .error 5
  else if c<0 then .error 4
  else if i<0 then .error 4
  else if ¬(1<=grams/\grams<=100000) then .error 7
  else match b.lots[i.toNat]? with
   |none=>.error 4
   |some x=>
    if ¬grams<=x.grams then .error 9
    else if ¬b.batches.length<7 then .error 3
    else .ok ({ b with lots:=b.lots.set i.toNat { x with grams:=x.grams-grams },batches:=b.batches++[⟨bs name,c,i,grams⟩] },uf)
 |.drop name=>
  let i:=aA (λx:ChBatch=>x.name==bs name) b.batches 0
  if i<0 then .error 4
  else match b.batches[i.toNat]? with
   |none=>.error 4
   |some y=>match b.lots[y.lot.toNat]? with
    |none=>.error 4
    |some x=>.ok ({ b with lots:=b.lots.set y.lot.toNat { x with grams:=x.grams+y.grams },batches:=b.batches.eraseIdx i.toNat },uf)
 |.plan c=>match jK s b c with
  |.error e=>.error e
  |.ok (o,n)=>.ok (b,joinL (o.map (ij b.batches)++[be n]))
 |.pour c=>match jK s b c with
  |.error e=>.error e
  |.ok (_,n)=>.ok ({ b with poured:=b.poured+j8 b.batches,batches:=[],lost:=b.lost+n },be n)
 |.test text=>
  if(aU s.hour text).2≠0 then .error (aU s.hour text).2
  else if ¬b.tests.length<8 then .error 3
  else .ok ({ b with tests:=b.tests++[(aU s.hour text).1] },
   if(d9 s.hour (aU s.hour text).1).2=0 then joinL [be (d9 s.hour (aU s.hour text).1).1.lo,be (d9 s.hour (aU s.hour text).1).1.hi]
   else joinL (KU::(kW s.hour (aU s.hour text).1).1.map be))
 |.promise kind=>match fA s b kind with
  |.error e=>.error e
  |.ok (_,n)=>.ok (b,be n)
 |.box kind hours=>match fA s b kind with
  |.error e=>.error e
  |.ok (k,n)=>if ¬hours<=n then .error 9 else if ¬b.boxes.length<20 then .error 3 else .ok ({ b with boxes:=b.boxes++[⟨k,hours⟩] },uf)
 |.look=>.ok (b,if(bq s.hour b.tests b.boxes).1=[] then uf else joinL (mf::(bq s.hour b.tests b.boxes).1.map be))
 |.wick kind a b' c d=>
  let i:=aA (λx:Wax=>x.name==bs kind) s.wick.waxes 0
  if i<0 then .error 4
  else match s.wick.waxes[i.toNat]? with
   |none=>.error 4
   |some x=>
    if(Wk.eG s.wick ⟨i,a,b',⟨c,d⟩⟩ x).2≠0 then .error (Wk.eG s.wick ⟨i,a,b',⟨c,d⟩⟩ x).2
    else match s.wick.wicks[(Wk.eG s.wick ⟨i,a,b',⟨c,d⟩⟩ x).1.toNat]? with
     |none=>.error 4
     |some w=>.ok (b,bl w.name)
 |.blend a b' c=>
  if(cf s.blend (iM s a b' c)).2.2≠0 then .error (cf s.blend (iM s a b' c)).2.2
  else .ok (b,joinL ((cf s.blend (iM s a b' c)).1.map be++[be (cf s.blend (iM s a b' c)).2.1]))
 |.stock=>.ok (b,if b.lots=[] then RG else joinL (b.lots.flatMap λx=>[bl x.name,be x.grams]))
def eX (s:ChShop) (b:ChBooks) (l:List UInt8):Except Int (ChBooks×List UInt8×Bool):=
 match du l with
 |.error e=>.error e
 |.ok c=>match aO s b c with|.error e=>.error e|.ok (b',a)=>.ok (b',a,c.written)
end Ch
end Abs
open Go.Shelf
def Tryz.lays156_ren:Go.Shelf.Ren:=⟨λ| 156=>94|165=>161|166=>65|169=>66|240=>111|241=>226|276=>162|277=>292|n=>n,λ| 0=>0|3=>3|4=>4|5=>5|9=>9|20=>20|31=>42|37=>141|70=>168|72=>170|75=>175|76=>176|80=>117|127=>225|164=>254|n=>n,λ| n=>n⟩
theorem Tryz.lays156:Go.Proofs.Lays.n156 TP Tryz.lays156_ren:={
 mixed:=by kernel_rfl
 f156:=Tryz.func94.trans (congrArg some (by kernel_rfl))
 f165:=Tryz.func161.trans (congrArg some (by kernel_rfl))
 f166:=Tryz.func65.trans (congrArg some (by kernel_rfl))
 f169:=Tryz.func66.trans (congrArg some (by kernel_rfl))
 f240:=Tryz.func111.trans (congrArg some (by kernel_rfl))
 f241:=Tryz.func226.trans (congrArg some (by kernel_rfl))
 f276:=Tryz.func162.trans (congrArg some (by kernel_rfl))
 f277:=Tryz.func292.trans (congrArg some (by kernel_rfl))
 t0:=Tryz.underlying0
 a0:=Tryz.isAgg0
 z0:=Tryz.sizeOf0
 v0:=Tryz.zeroValue0
 t3:=Tryz.underlying3
 a3:=Tryz.isAgg3
 z3:=Tryz.sizeOf3
 v3:=Tryz.zeroValue3
 t4:=Tryz.underlying4
 a4:=Tryz.isAgg4
 z4:=Tryz.sizeOf4
 v4:=Tryz.zeroValue4
 t9:=Tryz.underlying9
 a9:=Tryz.isAgg9
 z9:=Tryz.sizeOf9
 v9:=Tryz.zeroValue9
 t20:=Tryz.underlying20
 a20:=Tryz.isAgg20
 z20:=Tryz.sizeOf20
 v20:=Tryz.zeroValue20
 t31:=Tryz.underlying42
 a31:=Tryz.isAgg42
 z31:=Tryz.sizeOf42
 v31:=Tryz.zeroValue42
 t37:=Tryz.underlying141
 a37:=Tryz.isAgg141
 z37:=Tryz.sizeOf141
 v37:=Tryz.zeroValue141
 t70:=Tryz.underlying168
 a70:=Tryz.isAgg168
 z70:=Tryz.sizeOf168
 v70:=Tryz.zeroValue168
 t72:=Tryz.underlying170
 a72:=Tryz.isAgg170
 z72:=Tryz.sizeOf170
 v72:=Tryz.zeroValue170
 t75:=Tryz.underlying175
 a75:=Tryz.isAgg175
 z75:=Tryz.sizeOf175
 v75:=Tryz.zeroValue175
 t76:=Tryz.underlying176
 a76:=Tryz.isAgg176
 z76:=Tryz.sizeOf176
 v76:=Tryz.zeroValue176
 t127:=Tryz.underlying225
 a127:=Tryz.isAgg225
 z127:=Tryz.sizeOf225
 v127:=Tryz.zeroValue225
 t164:=Tryz.underlying254
 a164:=Tryz.isAgg254
 z164:=Tryz.sizeOf254
 v164:=Tryz.zeroValue254 }
theorem Tryz.lays156X:Go.Proofs.Builder.Extra TP Tryz.lays156_ren:={
 sizeBuilder:=by kernel_rfl
 liesBuilder:=by kernel_rfl
 t5:=by kernel_rfl
 a5:=Tryz.isAgg5
 z5:=Tryz.sizeOf5
 v5:=Tryz.zeroValue5
 infoByte:=by kernel_rfl
 cellsByte:=by kernel_rfl
 sizeByte:=by kernel_rfl
 neB5:=Nat.ne_of_beq_eq_false (by kernel_rfl) }
namespace Abs
open Go.RowKit Go.Sort
set_option maxRecDepth 100000
theorem Tv{w:World}{b k}{v}(h:w.cell? ⟨b,k,none⟩=some v):b<w.heap.size:=by
 unfold World.cell? at h;rcases dF b w.heap.size with h'|h'
 .exact h'
 .simp[rh h']at h
theorem X3(l)(sep)(fl)(hl:l.length<=1000000)(hb:(Lib.join l sep).length<=1000000000) :
  af TP 94 [.slice 1 (l.map λx=>.str (bs x)) fl,.str (bs sep)] (.str (bs (Lib.join l sep))):=by
 intro M0 w cargs hM hg ha;obtain⟨u,v,rfl,hu,hv⟩:=AW ha;cases hv;refine⟨(λw'=>jD Tryz.func94 ZP _ w'),?_⟩;have hdat:(l.map bs).map (λx:ByteArray=>x.data.toList)=l:=by rw[uR];simp[j5,gF]
 have fin:∀(e:Ending) (w':World),e=.returned (.string ⟨(Lib.join ((l.map bs).map (·.data.toList)) (bs sep).data.toList).toArray⟩)/\Below w.heap.size w w'->∃v',e=Ending.returned v'/\RepP M0 w' v' (.str (bs (Lib.join l sep)))/\Fr [] w w':=by
  rintro e w' ⟨rfl,h⟩
  refine⟨_,rfl,?_,mV h⟩;rw[hdat,gF];exact .str _
 generalize hxs:l.map (λx=>PV.str (bs x))=xs at hu
 cases hu with
 |slice f hlen hcap hfull hsz hM' hc hr=>
  rename_i b off len cap;subst hlen;have hlen2:xs.length=(l.map bs).length:=by rw[<-hxs];simp
  cases hl0:l with
  |nil=>
   subst hl0;simp only[ck]at hxs;subst hxs
   exact(Any.strings_Join_none Tryz.lays156 Tryz.lays156X (some ⟨b,off,none⟩) cap (bs sep) w).mono λe w' h=>fin e w' ⟨h.1,h.2▸Below.refl _ _⟩
  |cons x0 l0=>
   rw[<-hl0];have hcells:∀(j:Nat) x,(l.map bs)[j]?=some x->w.cell? ⟨b,off+j,none⟩=some (.string x):=by
    intro j x hj;have hjx:xs[j]?=some (.str x):=by
     rw[<-hxs,cO];rw[cO]at hj
     cases hq:l[j]? with
     |none=>rw[hq]at hj;cases hj
     |some q=>rw[hq]at hj;cases hj;rfl
    have hjl:=(aF.1 hjx).1;have h1:=hr j 0 _ _ hjx rfl;have h2:=hc j (by omega);rw[h2];have h3:f (j*1+0)=f j:=by simp
    rw[h3]at h1;cases hf:f j<;>rw[hf]at h1<;>cases h1;rfl
   have hbk:b<w.heap.size:=Tv (hcells 0 (bs x0) (by rw[hl0];rfl));have:=Any.strings_Join Tryz.lays156 Tryz.lays156X b off cap (l.map bs) (bs sep) w hcells hbk (by simp;omega) (by rw[<-hlen2];exact hcap) (by rw[hdat,gF];omega);rw[<-hlen2]at this
   exact this.mono fin
 |empty hfull=>
  rename_i a cap;have hl0:l=[]:=by cases l with|nil=>rfl|cons x r=>simp at hxs
  subst hl0;exact(Any.strings_Join_none Tryz.lays156 Tryz.lays156X a cap (bs sep) w).mono λe w' h=>fin e w' ⟨h.1,h.2▸Below.refl _ _⟩
end Abs
end Go.Proofs.YtoapoaoelpcniaaGreatDoor
