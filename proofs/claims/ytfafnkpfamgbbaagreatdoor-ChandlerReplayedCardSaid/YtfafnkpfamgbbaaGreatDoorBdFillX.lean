/-
  CONTRACTS: the program's iterator over the recipes that fit a wish.
  CONTRACTS: Cheapest, Stays; in the program and in the reference.
  WHAT THE CHANDLER DOES, as plain Lean: what a line says, and what it does to the books. De
  THE LIBRARY'S CONTRACTS AT THIS PROGRAM, further ones: what they ask of its bodies and typ
  CONTRACTS: texts put together with a sign between them; a text that begins as another one.
-/
import Derived.Test.YtfafnkpfamgbbaaGreatDoorAbsCutX
import Derived.Test.YtfafnkpfamgbbaaGreatDoorBdValX
import Derived.Test.YtfafnkpfamgbbaaGreatDoorClGoX
import Derived.Test.YtfafnkpfamgbbaaGreatDoorWxSoldX
import Derived.Test.YtfafnkpfamgbbaaGreatDoorHrUseX
import Derived.Test.YtfafnkpfamgbbaaGreatDoorHrReadX
import Derived.Test.YtfafnkpfamgbbaaGreatDoorWkRunX
import Derived.Shelf.Strings.OnBuilder
import Derived.KernelRfl
import Derived.Test.YtfafnkpfamgbbaaGreatDoorProg
import Derived.Test.YtfafnkpfamgbbaaGreatDoorStrLibX
set_option linter.unusedSimpArgs false
set_option linter.unusedVariables false
open Go.Proofs.Tryz renaming prog->TP
namespace Go.Proofs.YtfafnkpfamgbbaaGreatDoor
namespace Abs
set_option maxRecDepth 4000
def nY (l:List BdWax) (w:BdWish):Nat->List Int->Int->List (List Int)
 |0,pre,left=>if j8 l w (pre++[left])=0 then [pre++[left]] else []
 |k+1,pre,left=>match w.parts[pre.length]? with
  |some s=>(iY s.lo (if s.hi<left then s.hi else left)).flatMap λn=>nY l w k (pre++[n]) (left-n)
  |none=>[]
theorem zx {a b c} (h1:a<=b+1) (h2:b<=c):iY a c=iY a b++iY (b+1) c:=by
 unfold iY;obtain ⟨m,hm⟩:∃ m:Nat,(b+1-a).toNat=m:=⟨_,rfl⟩
 obtain ⟨k,hk⟩:∃ k:Nat,(c+1-(b+1)).toNat=k:=⟨_,rfl⟩
 have e:(c+1-a).toNat=m+k:=by omega
 rw [e,hm,hk,List.range_add,bA,tH]
 congr 1
 apply Ny;intro i _;simp only [Function.comp];omega
theorem Lg {a b} (h:b<a):iY a b=[]:=by
 unfold iY;have:(b+1-a).toNat=0:=by omega
 rw [this];rfl
theorem uB {α β:Type} {f:α->List β}:∀ {l:List α},(∀ x,x∈l->f x=[])->l.flatMap f=[]
 |[],_=>rfl
 |x::l,h=>by rw [kR,h x (by simp),uB λy hy=>h y (by simp [hy])];rfl
theorem OF {β:Type} {f:Int->List β} {lo hi left} (h0:0<=lo) (hf:∀ n,n<lo\/hi<n->f n=[]):(iY 0 left).flatMap f=(iY lo (if hi<left then hi else left)).flatMap f:=by
 obtain ⟨m,hm⟩:∃ m,(if hi<left then hi else left)=m:=⟨_,rfl⟩
 have hmh:m<=hi:=by rw [<-hm];split<;>omega
 have hml:m<=left:=by rw [<-hm];split<;>omega
 have hmx:∀ n,n<=left->m<n->hi<n:=λn h1 h2=>by rw [<-hm] at h2;split at h2<;>omega
 rw [hm];rcases Int.lt_or_le m lo with h | h
 .rw [Lg h];exact uB λn hn=>by
   have:=xk.1 hn;by_cases h1:n<lo
   .exact hf n (.inl h1)
   .exact hf n (.inr (hmx n this.2 (by omega)))
 .have e1:iY 0 left=iY 0 (lo-1)++iY lo left:=by have:=zx (a:=0) (b:=lo-1) (c:=left) (by omega) (by omega);rwa [Int.sub_add_cancel] at this
  have e2:iY lo left=iY lo m++iY (m+1) left:=zx (by omega) hml
  rw [e1,e2,vg,vg,uB (l:=iY 0 (lo-1)) λn hn=>hf n (.inl (by have:=xk.1 hn;omega)),
   uB (l:=iY (m+1) left) λn hn=>hf n (.inr (by have:=xk.1 hn;exact hmx n this.2 (by omega)))]
  simp
theorem Rb {l} {w} {pre t} {n} {s} (hs:w.parts[pre.length]?=some s) (hn:n<s.lo\/s.hi<n):j8 l w (pre++n::t)=1:=by
 have:ox w (pre++n::t)=true:=by
  unfold ox;rw [DW];refine ⟨(n,s),aL (i:=pre.length) (List.getElem?_zip_eq_some.2 ⟨by simp,hs⟩),?_⟩;simp [ar];omega
 rw [j8,if_pos this]
theorem II {l} {w} (hw:WishOk l.length w):∀ (k) (pre) (left),pre.length+k+1=l.length->nY l w k pre left=((p7 k left).map (pre++·)).filter λr=>j8 l w r==0
 |0,pre,left,h=>by
  rw [nY,p7]
  simp [List.filter_cons]
 |k+1,pre,left,h=>by
  have hlt:pre.length<w.parts.length:=by have:=hw.len;omega
  obtain ⟨s,hs⟩:∃ s,w.parts[pre.length]?=some s:=⟨_,bE hlt⟩
  have hsr:=hw.parts s (aL hs);rw [nY,hs,p7];dsimp only;have e:∀ n,nY l w k (pre++[n]) (left-n)=(((p7 k (left-n)).map (n::·)).map (pre++·)).filter λr=>j8 l w r==0:=λn=>by
   rw [II hw k (pre++[n]) (left-n) (by simp;omega)];simp [jN]
  simp only [e];have:((((iY 0 left).flatMap λn=>(p7 k (left-n)).map (n::·)).map (pre++·)).filter λr=>j8 l w r==0)=(iY 0 left).flatMap λn=>(((p7 k (left-n)).map (n::·)).map (pre++·)).filter λr=>j8 l w r==0:=by
   rw [List.map_flatMap,List.filter_flatMap]
  rw [this];symm;refine OF hsr.1 λn hn=>?_;rw [List.filter_eq_nil_iff];intro r hr;simp only [tH,ec,Function.comp] at hr;obtain ⟨t,_,rfl⟩:=hr;rw [Rb hs hn];decide
theorem OH {l} {w} (hl:BdWaxesOk l) (hw:WishOk l.length w):nY l w (l.length-1) [] 20=fits l w:=by
 rw [II hw _ _ _ (by have:=hl.len;simp;omega)];simp [fits]
def wH (l:List BdWax):PV:=.ptr 1 [fP l] 0 0
def wE (w:BdWish):PV:=.ptr 5 [w.pv] 0 0
attribute [go_sem] wH wE
def mJ (l:List BdWax) (w:BdWish) (n0 id:Nat) (lo:Heap) (cur:List Int) (ext:Heap):Heap :=
 lo++(.row 1 [.ref .yl id]::.row 1 (cur.map λx=>.p (aK x))::.row 1 [.slice (n0+1) l.length 0 l.length] ::
  .row 1 [.func (.func 298) [] [.p (wH l),.ptr (n0+2) 1 0 0,.p (wE w),.ptr n0 1 0 0,.ptr (n0+3) 1 0 0]]::ext)
theorem rO {lo:Heap} {n0} (h:lo.length=n0) (t) (j):(lo++t)[n0+j]?=t[j]?:=by rw [cn (by omega)];congr 1;omega
theorem pW {lo:Heap} {n0} (h:lo.length=n0) (t):(lo++t)[n0]?=t[0]?:=rO h t 0
theorem rN {lo:Heap} {n0} (h:lo.length=n0) (t) (j) (x):(lo++t).set (n0+j) x=lo++t.set j x:=by
 rw [tP _ _ (by omega)];congr 2;omega
theorem ED {cur pre:List Int} {v c} (h:cur.take pre.length=pre) (hc:cur[pre.length]?=some c):(cur.set pre.length v).take (pre.length+1)=pre++[v]:=by
 have hlt:=(aE.1 hc).1;rw [yp,List.take_set_of_le (by omega),h];simp [hlt]
set_option maxHeartbeats 2000000 in
theorem Qt {l} {w} (hl:BdWaxesOk l) (hw:WishOk l.length w) {id n0} {Inv:Nat->Heap->Prop} {Fin:Heap->Prop} {all:List (List Int)}
  (hy:∀ (k) (xs) (lo mid) (j),(all.map λr=>r.map aK)[k]?=some xs->Inv k lo->lo.length=n0->mid[j]?=some (.row 1 (xs.map .p)) ->
   sT TP id [.slice (j+n0) xs.length 0 xs.length] (lo++mid) (λr h'=>∃ lo' ext,h'=lo'++mid++ext/\lo'.length=n0 /\
    ((r=.ret (.p (.bool true))/\Inv (k+1) lo')\/(r=.ret (.p (.bool false))/\Fin lo')))) :
  ∀ (k) (pre) (left) (lo) (cur) (ext) (idx) (tl),pre.length+k+1=l.length->0<=left->left<=20->(∀ n,n∈pre->0<=n/\n<=20) ->
   cur.length=l.length->cur.take pre.length=pre->idx<=all.length->all.drop idx=nY l w k pre left++tl->lo.length=n0->Inv idx lo ->
   aC TP 298 [.p (.int .i64 pre.length),.p (.int .i64 left),.p (wH l),.ptr (n0+2) 1 0 0,.p (wE w),.ptr n0 1 0 0,.ptr (n0+3) 1 0 0] (mJ l w n0 id lo cur ext)
    (λr h'=>∃ lo' cur' ext',h'=mJ l w n0 id lo' cur' ext'/\lo'.length=n0/\((r=.ret (.p (.bool true))/\cur'.length=l.length/\cur'.take pre.length=pre/\∃ idx',idx'<=all.length/\all.drop idx'=tl/\Inv idx' lo') \/
     (r=.ret (.p (.bool false))/\Fin lo')))
 |0,pre,left,lo,cur,ext,idx,tl,h1,h2,h3,h4,h5,h6,h7,h8,h9,h10=>by
  refine aB (ai (by kernel_rfl) rfl P4) rfl ?_;have hl5:=hl.len;have gg:=rO h9;have g0:=pW h9;have ss:=rN h9;have hw1:IntKind.i64.wrap ((l.length:Int)-1)=(l.length:Int)-1:=Ir hl;have hc:(((pre.length:Nat):Int)==(l.length:Int)-1)=true:=by simp;omega
  obtain ⟨c,hcur⟩:∃ c,cur[pre.length]?=some c:=⟨_,bE (by omega)⟩
  have hlt:((pre.length:Nat):Int)<(l.length:Int):=by omega
  have hset:(cur.map λx=>AV.p (aK x)).set pre.length (.p (aK left))=(cur.set pre.length left).map λx=>AV.p (aK x):=by rw [DX]
  have hcs:cur.set pre.length left=pre++[left]:=by
   have:=ED (v:=left) h6 hcur;rwa [ga (by simp;omega)] at this
  rw [hcs] at hset;simp only [aK] at hset;have hlen:(pre++[left]).length=l.length:=by simp;omega
  have hrng:∀ n,n∈pre++[left]->0<=n/\n<=20:=λn hn=>by
   rcases ea.1 hn with hn | hn
   .exact h4 n hn
   .simp at hn;omega
  simp only [mJ,gg,ss,hw1,hc,hcur,hlt,h5,hset,go_sem,simprocAttr];have htk:((pre++[left]).map aK).take l.length=(pre++[left]).map aK:=ga (by simp;omega);refine bf (Zp false hl hw hlen hrng) ?_ (.int _ _) ?_
  .simp only [gg,hlen,go_sem,simprocAttr];exact congrArg (λx=>PV.slice 1 x false) htk
  simp only [go_sem,simprocAttr];rw [nY] at h8;cases hb:(j8 l w (pre++[left]) != 0)
  rotate_left
  .have hb':¬ j8 l w (pre++[left])=0:=by simpa using hb
   rw [if_neg hb',oq] at h8;simp only [go_sem,simprocAttr];first | exact ⟨lo,pre++[left],ext,rfl,h9,.inl ⟨hlen,by simp,idx,h7,h8,h10⟩⟩ | exact ⟨lo,pre++[left],ext,rfl,h9,hlen,by simp,idx,h7,h8,h10⟩
  have hb':j8 l w (pre++[left])=0:=by simpa using hb
  rw [if_pos hb',Jc] at h8;have hidx:all[idx]?=some (pre++[left]):=by rw [<-List.head?_drop,h8];rfl
  have hlti:idx<all.length:=(aE.1 hidx).1;have hdrop:all.drop (idx+1)=tl:=by rw [<-vd,h8];rfl
  have hyl:=hy idx ((pre++[left]).map aK) lo (.row 1 [.ref .yl id]::.row 1 ((pre++[left]).map λx=>.p (aK x))::.row 1 [.slice (n0+1) l.length 0 l.length] ::
   .row 1 [.func (.func 298) [] [.p (wH l),.ptr (n0+2) 1 0 0,.p (wE w),.ptr n0 1 0 0,.ptr (n0+3) 1 0 0]]::ext) 1 (by rw [cv,hidx];rfl) h10 h9 (by simp)
  rw [dL,hlen,Nat.add_comm 1 n0] at hyl;simp only [aK,wH,wE,fP,BdWish.pv] at hyl;simp only [gg,g0,go_sem,simprocAttr];refine pX hyl (λv h' hr=>?_) (λv h' hr=>?_);rotate_left
  .obtain ⟨_,_,_,_,hr⟩:=hr;rcases hr with ⟨hr,_⟩ | ⟨hr,_⟩<;>cases hr
  obtain ⟨lo',ext',rfl,k1,hr⟩:=hr;rcases hr with ⟨hr,k2⟩ | ⟨hr,k2⟩
  .cases hr;simp only [go_sem,simprocAttr];first | exact ⟨lo',pre++[left],ext++ext',by simp [mJ],k1,.inl ⟨hlen,by simp,idx+1,by omega,hdrop,k2⟩⟩ | exact ⟨lo',pre++[left],ext++ext',by simp [],k1,hlen,by simp,idx+1,by omega,hdrop,k2⟩
  .cases hr;simp only [go_sem,simprocAttr]
   first | exact ⟨lo',pre++[left],ext++ext',by simp [mJ],k1,.inr k2⟩ | exact ⟨lo',pre++[left],ext++ext',by simp [],k1,k2⟩
 |k+1,pre,left,lo,cur,ext,idx,tl,h1,h2,h3,h4,h5,h6,h7,h8,h9,h10=>by
  refine aB (ai (by kernel_rfl) rfl P4) rfl ?_;have hl5:=hl.len;have gg:=rO h9;have g0:=pW h9;have ss:=rN h9;have hw1:IntKind.i64.wrap ((l.length:Int)-1)=(l.length:Int)-1:=Ir hl;have hc:(((pre.length:Nat):Int)==(l.length:Int)-1)=false:=by simp;omega
  have hltp:pre.length<w.parts.length:=by have:=hw.len;omega
  have hltp':((pre.length:Nat):Int)<(w.parts.length:Int):=by omega
  obtain ⟨s,hs⟩:∃ s,w.parts[pre.length]?=some s:=⟨_,bE hltp⟩
  have hsr:=hw.parts s (aL hs);have hw2:IntKind.i64.wrap (((pre.length:Nat):Int)+1)=((pre.length+1:Nat):Int):=ba (by omega) (by simp [aw];omega) (by omega);rw [nY,hs] at h8;dsimp only at h8;obtain ⟨m,hm⟩:∃ m,(if s.hi<left then s.hi else left)=m:=⟨_,rfl⟩
  have hml:m<=left:=by rw [<-hm];split<;>omega
  have hmin:(if s.hi<left then PV.int .i64 s.hi else PV.int .i64 left)=.int .i64 m:=by rw [<-hm];split<;>rfl
  rw [hm] at h8;simp only [mJ,hw1,hc,hs,hltp',go_sem,simprocAttr]
  refine dZ [0,1,3,4,6] (σ:=List Int×List Int×Heap×List Int×Heap×Nat)
   (λq=>iY s.lo m=q.1++q.2.1/\q.2.2.1.length=n0/\q.2.2.2.1.length=l.length/\q.2.2.2.1.take pre.length=pre/\q.2.2.2.2.2<=all.length/\all.drop q.2.2.2.2.2=(q.2.1.flatMap λn=>nY l w k (pre++[n]) (left-n))++tl/\Inv q.2.2.2.2.2 q.2.2.1)
   (λq=>q.2.1.length) (λq=>[(10,.p (.int .i64 (s.lo+(q.1.length:Int))))]) (λq=>mJ l w n0 id q.2.2.1 q.2.2.2.1 q.2.2.2.2.1) ([],iY s.lo m,lo,cur,ext,idx) ⟨rfl,h9,h5,h6,h7,h8,h10⟩ (by simp only [mJ,go_sem,simprocAttr]) ?_ ?_
  .simp only [go_sem,simprocAttr]<;>simp
  clear h5 h6 h7 h8 h9 h10 gg g0 ss idx
  rintro ⟨done,rest,lo',cur',ext',idx⟩ ⟨e1,h9,h5,h6,h7,h8,h10⟩
  dsimp only at e1 h9 h5 h6 h7 h8 h10;have gg:=rO h9;have g0:=pW h9;have ss:=rN h9
  cases rest with
  |nil =>
   have hlen:=QP s.lo m;rw [e1,aW] at hlen;have hgt:¬ s.lo+(done.length:Int)<=m:=by omega
   simp only [mJ,hs,hltp',hm,hgt,go_sem,simprocAttr]
   first | exact ⟨lo',cur',ext',rfl,h9,.inl ⟨h5,h6,idx,h7,by simpa using h8,h10⟩⟩ | exact ⟨lo',cur',ext',rfl,h9,h5,h6,idx,h7,by simpa using h8,h10⟩
  |cons y r =>
   have hy0:(iY s.lo m)[done.length]?=some y:=by rw [e1];simp
   obtain ⟨hy1,hy2⟩:=QQ hy0;have hle:s.lo+(done.length:Int)<=m:=by omega
   obtain ⟨c,hcur⟩:∃ c,cur'[pre.length]?=some c:=⟨_,bE (by omega)⟩
   have hlt:((pre.length:Nat):Int)<(l.length:Int):=by omega
   have hset:(cur'.map λx=>AV.p (aK x)).set pre.length (.p (aK y))=(cur'.set pre.length y).map λx=>AV.p (aK x):=by rw [DX]
   have hcs:(cur'.set pre.length y).take (pre.length+1)=pre++[y]:=ED h6 hcur;simp only [aK] at hset;have hwy:IntKind.i64.wrap (left-y)=left-y:=ax (by omega) (by omega);have hnx:IntKind.i64.wrap (y+1)=y+1:=ax (by omega) (by omega);rw [kR,cE] at h8
   have ih:=Qt hl hw hy k (pre++[y]) (left-y) lo' (cur'.set pre.length y) ext' idx ((r.flatMap λn=>nY l w k (pre++[n]) (left-n))++tl) (by simp;omega) (by omega) (by omega)
    (λn hn=>by
     rcases ea.1 hn with hn | hn
     .exact h4 n hn
     .simp at hn;omega) (by simpa using h5) (by rw [aI];exact hcs) h7 h8 h9 h10
   rw [hy1] at ih hset hwy hnx hcs;simp only [mJ,gg,ss,hs,hltp',hm,hle,h5,hcur,hlt,hset,hw2,hwy,go_sem,simprocAttr];simp only [mJ,wH,wE,fP,BdWish.pv,aK,aI,bh] at ih;refine cq ih (λv h' hr=>?_) (λv h' hr=>?_);rotate_left
   .obtain ⟨_,_,_,_,_,hr⟩:=hr;rcases hr with ⟨hr,_⟩ | ⟨hr,_⟩<;>cases hr
   obtain ⟨lo2,cur2,ext2,rfl,k1,hr⟩:=hr;rcases hr with ⟨hr,k2,k3,idx2,k4,k5,k6⟩ | ⟨hr,k2⟩
   .cases hr;simp only [go_sem,simprocAttr];refine aZ (done++[y],r,lo2,cur2,ext2,idx2) ⟨by simp [e1],k1,k2,?_,k4,k5,k6⟩ (by simp) rfl ?_
    .have:=congrArg (List.take pre.length) k3;rw [List.take_take,d9 rfl] at this;rwa [Jb (by simp)] at this
    .simp only [hnx,aI,bh,go_sem,simprocAttr];omega
   .cases hr;simp only [go_sem,simprocAttr];first | exact ⟨lo2,cur2,ext2,rfl,k1,.inr k2⟩ | exact ⟨lo2,cur2,ext2,rfl,k1,k2⟩
def AD (l:List BdWax) (w:BdWish):PV:=.func (.func 297) [] [wH l,wE w]
theorem Ox {l} {w} (hl:BdWaxesOk l) (hw:WishOk l.length w):QD TP (AD l w) 1 ((fits l w).map λr=>r.map aK):=by
 refine ⟨_,_,_,rfl,λid Inv Fin h0 hid hy hi=>?_⟩;have hl5:=hl.len;have gg:=rO (lo:=h0) rfl;have g0:=pW (lo:=h0) rfl;have ss:=rN (lo:=h0) rfl;have hrm:((l.length:Nat):Int)<=(aw:Int):=by simp [aw];omega
 refine aB (ai (by kernel_rfl) rfl WE) rfl ?_;simp only [hrm,pZ,cE,aI,bh,gg,ss,go_sem,simprocAttr];have hfill:=Qt hl hw hy (l.length-1) [] 20 h0 (List.replicate l.length 0) [] 0 [] (by simp;omega) (by omega) (by omega) (by simp) (by simp) (by simp) (by omega) (by rw [OH hl hw];simp) rfl hi;simp only [mJ,wH,wE,fP,BdWish.pv,aK,List.map_replicate,ei,Int.cast_ofNat_Int] at hfill;refine cq hfill (λv h' hr=>?_) (λv h' hr=>?_);rotate_left
 .obtain ⟨_,_,_,_,_,hr⟩:=hr;rcases hr with ⟨hr,_⟩ | ⟨hr,_⟩<;>cases hr
 obtain ⟨lo2,cur2,ext2,rfl,k1,hr⟩:=hr;have fin:∀ (k:Nat),k<=(fits l w).length->(fits l w).drop k=[]->k=(fits l w).length:=λk h1 h2=>by
  have:=congrArg List.length h2;simp at this;omega
 rcases hr with ⟨hr,k2,k3,idx2,k4,k5,k6⟩ | ⟨hr,k2⟩
 .cases hr;simp only [go_sem,simprocAttr];refine ⟨lo2,_,rfl,k1,.inl ?_⟩;have:=fin idx2 k4 k5;simpa [<-this] using k6
 .cases hr;simp only [go_sem,simprocAttr];exact ⟨lo2,_,rfl,k1,.inr k2⟩
theorem Gb (l) (w):ah TP 266 [fP l,w.pv] (AD l w):=by
 refine cW (ai (by kernel_rfl) rfl W7) rfl ?_;simp only [AD,go_sem,simprocAttr]
theorem FG (ps) (b1) (id) (h) (hid:h[id]?=some (.row 1 (ps.map λp=>.p (aK p.2)))) (hl:ps.length<=5) :
  aC TP 268 [.p (.slice 7 (ps.map λp=>p.1.pv) b1),.slice id ps.length 0 ps.length] h (λr h'=>r=.ret (.p (qS ps))/\h'=h):=by
 refine pL (ai (by kernel_rfl) rfl P5) rfl ?_;have hlt0:id<h.length:=(aE.1 hid).1;have hidt:∀ t,(h++t)[id]?=some (.row 1 (ps.map λp=>.p (aK p.2))):=λt=>by rw [be hlt0];exact hid
 simp only [aK] at hidt;have gg:=rO (lo:=h) rfl;have g0:=pW (lo:=h) rfl;have ss:=rN (lo:=h) rfl;have s0:∀ t x,(h++t).set h.length x=h++t.set 0 x:=λt x=>ss t 0 x;have hrm:((ps.length:Nat):Int)<=(aw:Int):=by simp [aw];omega
 have hr0:List.replicate ps.length sc=iN ps []:=by simp [iN]
 simp only [sc] at hr0;simp only [hrm,pZ,hr0,go_sem,simprocAttr];refine Pv [1,5,11,12] ps (by omega) (τ:=Heap) (λ_ _ _=>True) (λdone _=>[(13,.p (.int .i64 done.length))]) (λdone ext=>h++(.row 8 (iN ps done)::ext)) [] trivial (by simp only [go_sem,simprocAttr]) ?_ ?_ ?_
 .simp only [go_sem,simprocAttr]
 .intro ext _;have hz:(iN ps ps)=ps.map λp=>.p (cQ p):=by simp [iN]
  simp only [cQ] at hz;simp only [hz,go_sem,simprocAttr];rfl
 .intro done x r ext e1 _ hx hlt hnx;have h1:=Dg e1;have h2:=Dh e1;have h3:=Df e1;simp only [sc] at h2;simp only [cQ] at h3;have ge:=pW (lo:=ext) rfl;have se:∀ t x,(ext++t).set ext.length x=ext++t.set 0 x:=λt x=>rN (lo:=ext) rfl t 0 x;simp only [hlt,hx,h1,h2,h3,hidt,gg,g0,ss,s0,ge,se,cE,aI,go_sem,simprocAttr];refine Px e1 _ trivial rfl ?_;simp only [hnx,go_sem,simprocAttr]
def eW (l:List BdWax) (r:List Int):Int:=di jW (l.zip r)
def dh (pr:List Int->Int):Option (List Int)->List (List Int)->Option (List Int)
 |b,[]=>b
 |none,r::t=>dh pr (some r) t
 |some b,r::t=>if pr r<pr b then dh pr (some r) t else dh pr (some b) t
theorem n8 (pr):∀ (t) (b) (r),dh pr b (t++[r])=dh pr (dh pr b t) [r]
 |[],b,r=>by cases b<;>rfl
 |x::t,none,r=>by rw [hG,dh,n8 pr t,dh]
 |x::t,some b,r=>by
  rw [hG,dh,dh];split
  .rw [n8 pr t]
  .rw [n8 pr t]
theorem mo (pr):∀ (t) (b) (r),dh pr b t=some r->b=some r\/r∈t
 |[],b,r,h=>by cases b<;>simp_all [dh]
 |x::t,none,r,h=>by
  rw [dh] at h;rcases mo pr t _ r h with h | h
  .cases h;exact .inr (by simp)
  .exact .inr (by simp [h])
 |x::t,some b,r,h=>by
  rw [dh] at h;split at h
  .rcases mo pr t _ r h with h | h
   .cases h;exact .inr (by simp)
   .exact .inr (by simp [h])
  .rcases mo pr t _ r h with h | h
   .exact .inl h
   .exact .inr (by simp [h])
theorem vq {α:Type} {l:List α} {k} {x} (h:l[k]?=some x):l.take (k+1)=l.take k++[x]:=by
 rw [yp,h];rfl
def cb (l:List BdWax) (w:BdWish):List Int×Int×Int :=
 if iR l w=0 then
  match dh (eW l) none (fits l w) with
  |none=>([],0,9)
  |some b=>(b,eW l b,0)
 else ([],0,iR l w)
def tu (v:List Int×Int×Int):PV:=.tuple [.slice 1 (v.1.map aK) false,.int .i64 v.2.1,.int .i64 v.2.2]
def qt:Option (List Int)->PV
 |none=>.nilslice
 |some b=>.slice 1 (b.map aK) false
def mV (l:List BdWax):Option (List Int)->Int
 |none=>0
 |some b=>eW l b
set_option maxHeartbeats 1000000 in
theorem MX (l) (w):ah TP 195 [fP l,w.pv] (tu (cb l w)):=by
 refine dC (ai (by kernel_rfl) rfl XX) rfl ?_;simp only [Vr,go_sem,simprocAttr]
 (first | refine ae (UH l w) rfl ?_ | refine aD (UH l w) rfl ?_)
 simp only [go_sem,simprocAttr];refine aT (λhe=>?_) (λhe=>?_)
 .have he':¬ iR l w=0:=by simpa using he
  simp only [tu,cb,if_neg he',go_sem,simprocAttr];first | rfl | exact .inl rfl | exact ⟨_,_,rfl,rfl,.inr ⟨rfl,1,rfl⟩,.inl rfl,.inl rfl,trivial⟩ | exact ⟨_,_,rfl,rfl,.inr ⟨rfl,1,rfl⟩,.inl rfl,trivial⟩ | exact ⟨_,_,rfl,rfl,.inl rfl,.inl rfl,trivial⟩ | exact .inl (.inl rfl) | exact .inl (.inr ⟨rfl,1,rfl⟩) | exact .inr ⟨_,_,rfl,rfl,.inl rfl,.inl rfl,trivial⟩ | exact .inr ⟨_,_,rfl,rfl,.inr ⟨rfl,1,rfl⟩,.inl rfl,trivial⟩ | exact ⟨1,rfl⟩ | (simp;done) | (refine .inr ⟨_,_,rfl,rfl,?_⟩;repeat' (first | exact trivial | exact .inl rfl | exact .inr ⟨rfl,1,rfl⟩ | refine ⟨?_,?_⟩))
 have he':iR l w=0:=by simpa using he
 obtain ⟨hl,hw⟩:=Ce he';have hl5:=hl.len;simp only [go_sem,simprocAttr]
 (first | refine ae (Gb l w) rfl ?_ | refine aD (Gb l w) rfl ?_)
 simp only [AD,go_sem,simprocAttr];have hspec:cb l w=match dh (eW l) none (fits l w) with | none=>([],0,9) | some b=>(b,eW l b,0):=by rw [cb,if_pos he']
 rw [hspec];have hmem:∀ k b,dh (eW l) none ((fits l w).take k)=some b->RecOk l.length b:=λk b h=>by
  rcases mo _ _ _ _ h with h | h
  .cases h
  .exact (yZ hl (sy h)).1
 refine SH (l:=(fits l w).map λr=>r.map aK) (λo k h=>h=[.row 1 [.p (fP l)],.row 5 [.p w.pv],.row 1 [.p (qt (dh (eW l) none ((fits l w).take k)))],.row 1 [.p (.int .i64 (mV l (dh (eW l) none ((fits l w).take k))))],.dblock,o]) (λ_ _=>False)
  rfl (by simp only [AD,go_sem,simprocAttr]) (Ox hl hw) dU (by kernel_rfl) rfl (by kernel_rfl) (by kernel_rfl) ?_ ?_ ?_ ?_ (λ_ _ _ h=>h.elim)
 .rintro o k h rfl;simp
 .intro o;simp only [dh,qt,mV,go_sem,simprocAttr]
 .rintro oR oB oD k xs lo mid j hk rfl _ hj
  rw [cv,bT] at hk;obtain ⟨r,hk,rfl⟩:=hk;have hro:=(yZ hl (aL hk)).1;have hps:=ue hl hro.rng;have hne:¬ (r.map aK=[]):=by
   intro h;have:=congrArg List.length h;have h2:=hro.len;simp at this;subst this;simp at h2;omega
  have hne2:r≠[]:=λh=>hne (by rw [h];rfl);rw [vq hk,n8];have hmk:=hmem k;generalize dh (eW l) none ((fits l w).take k)=bo at hmk;have htk:(r.map aK).take r.length=r.map aK:=ga (by simp);have hz1:((l.zip r).map λp=>p.1.pv)=l.map BdWax.pv:=Bg BdWax.pv hro.len;have hz2:((l.zip r).map λp=>AV.p (aK p.2))=r.map λn=>AV.p (aK n):=Bf (λn=>AV.p (aK n)) hro.len;have hzl:(l.zip r).length=r.length:=by simp [hro.len]
  have hbl:∀ a0 a1 a2 a3 a4 a5,aC TP 268 [.p (fP l),.slice (j+6) r.length 0 r.length] (a0::a1::a2::a3::a4::a5::mid) (λr' h'=>r'=.ret (.p (qS (l.zip r)))/\h'=a0::a1::a2::a3::a4::a5::mid):=λa0 a1 a2 a3 a4 a5=>by
   have:=FG (l.zip r) false (j+6) (a0::a1::a2::a3::a4::a5::mid) (by rw [hz2];simpa [jN] using hj) hps.len;rwa [hz1,hzl] at this
  simp only [fP,qS] at hbl;simp only [go_sem,simprocAttr];refine cy (hbl _ _ _ _ _ _) ?_;simp only [go_sem,simprocAttr]
  (first | refine ae (wy (l.zip r) false hps) rfl ?_ | refine aD (wy (l.zip r) false hps) rfl ?_)
  simp only [go_sem,simprocAttr];have hprice:di jW (l.zip r)=eW l r:=rfl;rw [hprice]
  cases bo with
  |none =>
   simp only [qt,go_sem,simprocAttr];refine wN (LT r false hne2 (by have:=hro.len;omega)) ?_ ?_
   .simp only [hj,htk,go_sem,simprocAttr]
   simp only [go_sem,simprocAttr];first | refine ⟨_,[],?_,rfl,.inl rfl⟩ | refine ⟨_,[],?_,rfl,rfl⟩
   simp only [dh,qt,mV,aW,go_sem,simprocAttr]
  |some b =>
   have hbo:=hmk b rfl;have hbn:¬ (b.map aK=[]):=by
    intro h;have:=congrArg List.length h;have h2:=hbo.len;simp at this;subst this;simp at h2;omega
   simp only [qt,mV,hbn,go_sem,simprocAttr];cases hlt:decide (eW l r<eW l b)
   .have hlt':¬ eW l r<eW l b:=by simpa using hlt
    simp only [go_sem,simprocAttr];first | refine ⟨_,[],?_,rfl,.inl rfl⟩ | refine ⟨_,[],?_,rfl,rfl⟩
    simp only [if_neg hlt',dh,qt,mV,aW,go_sem,simprocAttr]
   .have hlt':eW l r<eW l b:=by simpa using hlt
    simp only [go_sem,simprocAttr];refine wN (LT r false hne2 (by have:=hro.len;omega)) ?_ ?_
    .simp only [hj,htk,go_sem,simprocAttr]
    simp only [go_sem,simprocAttr];first | refine ⟨_,[],?_,rfl,.inl rfl⟩ | refine ⟨_,[],?_,rfl,rfl⟩
    simp only [if_pos hlt',dh,qt,mV,aW,go_sem,simprocAttr]
 .rintro o lo mid rfl _
  have hlen:(fits l w).take (((fits l w).map λr=>r.map aK).length)=fits l w:=by simp
  rw [hlen];have hmk:=hmem (fits l w).length;rw [qW] at hmk;generalize dh (eW l) none (fits l w)=bo at hmk;simp only [go_sem,simprocAttr]
  cases bo with
  |none =>
   simp only [qt,tu,b7,go_sem,simprocAttr]
   first | rfl | exact .inl rfl | exact ⟨_,_,rfl,rfl,.inr ⟨rfl,1,rfl⟩,.inl rfl,.inl rfl,trivial⟩ | exact ⟨_,_,rfl,rfl,.inr ⟨rfl,1,rfl⟩,.inl rfl,trivial⟩ | exact ⟨_,_,rfl,rfl,.inl rfl,.inl rfl,trivial⟩ | exact .inl (.inl rfl) | exact .inl (.inr ⟨rfl,1,rfl⟩) | exact .inr ⟨_,_,rfl,rfl,.inl rfl,.inl rfl,trivial⟩ | exact .inr ⟨_,_,rfl,rfl,.inr ⟨rfl,1,rfl⟩,.inl rfl,trivial⟩ | exact ⟨1,rfl⟩ | (simp;done) | (refine .inr ⟨_,_,rfl,rfl,?_⟩;repeat' (first | exact trivial | exact .inl rfl | exact .inr ⟨rfl,1,rfl⟩ | refine ⟨?_,?_⟩))
  |some b =>
   have hbo:=hmk b rfl;have hbn:¬ (b.map aK=[]):=by
    intro h;have:=congrArg List.length h;have h2:=hbo.len;simp at this;subst this;simp at h2;omega
   simp only [qt,mV,tu,hbn,b7,bj,go_sem,simprocAttr]
namespace Ch
def oE:List UInt8:=[108,111,116]
def jU:List UInt8:=[98,97,116,99,104]
def lN:List UInt8:=[100,114,111,112]
def pc:List UInt8:=[112,108,97,110]
def lM:List UInt8:=[112,111,117,114]
def jC:List UInt8:=[112,114,111,109,105,115,101]
def oF:List UInt8:=[98,111,120]
def pe:List UInt8:=[108,111,111,107]
def pb:List UInt8:=[119,105,99,107]
def mf:List UInt8:=[98,108,101,110,100]
def me:List UInt8:=[115,116,111,99,107]
def gR:List UInt8:=[116,101,115,116,10]
def kX:List UInt8:=[120]
def Cf:List UInt8:=[111,107]
def H9:List UInt8:=[110,111]
def Jw:List UInt8:=[111,100,100]
def xa:List UInt8:=[98,114,111,107,101,110]
def PS:List UInt8:=[110,111,110,101]
def D7:List UInt8:=[112,117,114,101]
def w9:List UInt8:=[105,109,112,117,114,101]
def tV:List UInt8:=[112,101,114,104,97,112,115]
def joinL:List (List UInt8)->List UInt8
 |[]=>[]
 |[x]=>x
 |x::y::r=>x++32::joinL (y::r)
inductive Cmd where
 |lot (name kind:List UInt8) (grams:Int) (rs:List Int)
 |batch (name colour lot:List UInt8) (grams:Int)
 |drop (name:List UInt8)
 |plan (c:List UInt8)
 |pour (c:List UInt8)
 |test (text:List UInt8)
 |promise (kind:List UInt8)
 |box (kind:List UInt8) (hours:Int)
 |look
 |wick (kind:List UInt8) (a b c d:Int)
 |blend (a b c:Int)
 |stock
def Cmd.written:Cmd->Bool
 |.lot _ _ _ _=>true
 |.batch _ _ _ _=>true
 |.drop _=>true
 |.pour _=>true
 |.test _=>true
 |.box _ _=>true
 |_=>false
def bD (l:List UInt8):Option Int:=match jB l with | some v=>if 0<=v/\v<=10000000/\bH v=l then some v else none | none=>none
def aV (l:List UInt8):Option (List UInt8):=if nameOk (bs l)=true then some l else none
def cr:List (List UInt8)->Option (List Int)
 |[]=>some []
 |w::r=>if w=kX then (cr r).map (-1::·) else match bD w with | some n=>(cr r).map (n::·) | none=>none
def dd (v:List UInt8) (ws:List (List UInt8)):Option Cmd :=
 if v=oE then (match ws with | n::k::g::r=>(match aV n,aV k,bD g,cr r with | some n,some k,some g,some r=>some (.lot n k g r) | _,_,_,_=>none) | _=>none)
 else if v=jU then (match ws with | [n,c,l,g]=>(match aV n,aV c,aV l,bD g with | some n,some c,some l,some g=>some (.batch n c l g) | _,_,_,_=>none) | _=>none)
 else if v=lN then (match ws with | [n]=>(aV n).map .drop | _=>none)
 else if v=pc then (match ws with | [n]=>(aV n).map .plan | _=>none)
 else if v=lM then (match ws with | [n]=>(aV n).map .pour | _=>none)
 else if v=jC then (match ws with | [n]=>(aV n).map .promise | _=>none)
 else if v=oF then (match ws with | [n,g]=>(match aV n,bD g with | some n,some g=>some (.box n g) | _,_=>none) | _=>none)
 else if v=pe then (match ws with | []=>some .look | _=>none)
 else if v=pb then (match ws with | [n,a,b,c,d]=>(match aV n,bD a,bD b,bD c,bD d with | some n,some a,some b,some c,some d=>some (.wick n a b c d) | _,_,_,_,_=>none) | _=>none)
 else if v=mf then (match ws with | [a,b,c]=>(match bD a,bD b,bD c with | some a,some b,some c=>some (.blend a b c) | _,_,_=>none) | _=>none)
 else if v=me then (match ws with | []=>some .stock | _=>none)
 else none
def fD (l:List UInt8):Except Int Cmd :=
 if 400<l.length then .error 3
 else if l.take 5=gR then .ok (.test (l.drop 5))
 else match aJ 32 l with
  |[]=>.error 6
  |v::ws=>match dd v ws with | some c=>.ok c | none=>.error 6
def bl (s:ByteArray):List UInt8:=s.data.toList
def eV (b:ChBooks):List ClBatch:=b.batches.map λx=>⟨x.colour,x.grams⟩
def kG (n:Int):List UInt8:=if n=1 then D7 else if n=2 then tV else w9
def NK (l:List ChBatch):Int:=(l.map (·.grams)).sum
def ip (s:ChShop) (a b c:Int):BdWish:=⟨List.replicate s.blend.length ⟨0,20⟩,⟨a,b⟩,⟨0,c⟩⟩
def lW (s:ChShop) (b:ChBooks) (c:List UInt8):Except Int (List Nat×Int) :=
 let k:=aA (λx:ClColour=>x.name==bs c) s.colour.colours 0
 if k<0 then .error 4
 else if Cl.dR s.colour k (eV b)≠0 then .error (Cl.dR s.colour k (eV b))
 else match Cl.AT s.colour k (eV b) with | none=>.error 9 | some q=>.ok q
def gb (s:ChShop) (b:ChBooks) (kind:List UInt8):Except Int (Int×Int) :=
 let k:=aA (λx:HrKind=>x.name==bs kind) s.hour.kinds 0
 if k<0 then .error 4
 else if (ep s.hour b.tests k).2≠0 then .error (ep s.hour b.tests k).2
 else .ok (k,(ep s.hour b.tests k).1)
def rv (l:List ChBatch) (i:Nat):List UInt8:=match l[i]? with | some x=>bl x.name | none=>[]
def aR (s:ChShop) (b:ChBooks):Cmd->Except Int (ChBooks×List UInt8)
 |.lot name kind grams rs =>
  let k:=aA (λx:WxKind=>x.name==bs kind) s.wax.kinds 0
  if b.lots.any (λx=>x.name==bs name)=true then .error 5
  else if k<0 then .error 4
  else if ¬ (1<=grams/\grams<=100000) then .error 7
  else if (Wx.bI s.wax rs k).2.2≠0 then .error (Wx.bI s.wax rs k).2.2
  else if ¬ b.lots.length<8 then .error 3
  else .ok ({ b with lots:=b.lots++[⟨bs name,k,grams,rs⟩] },joinL [kG (Wx.bI s.wax rs k).2.1,bH (Wx.bI s.wax rs k).1.lo,bH (Wx.bI s.wax rs k).1.hi])
 |.batch name colour lot grams =>
  let c:=aA (λx:ClColour=>x.name==bs colour) s.colour.colours 0
  let i:=aA (λx:ChLot=>x.name==bs lot) b.lots 0
  if b.batches.any (λx=>x.name==bs name)=true then .error 5
  else if c<0 then .error 4
  else if i<0 then .error 4
  else if ¬ (1<=grams/\grams<=100000) then .error 7
  else match b.lots[i.toNat]? with
   |none=>.error 4
   |some x =>
    if ¬ grams<=x.grams then .error 9
    else if ¬ b.batches.length<7 then .error 3
    else .ok ({ b with lots:=b.lots.set i.toNat { x with grams:=x.grams-grams },batches:=b.batches++[⟨bs name,c,i,grams⟩] },Cf)
 |.drop name =>
  let i:=aA (λx:ChBatch=>x.name==bs name) b.batches 0
  if i<0 then .error 4
  else match b.batches[i.toNat]? with
   |none=>.error 4
   |some y=>match b.lots[y.lot.toNat]? with
    |none=>.error 4
    |some x=>.ok ({ b with lots:=b.lots.set y.lot.toNat { x with grams:=x.grams+y.grams },batches:=b.batches.eraseIdx i.toNat },Cf)
 |.plan c=>match lW s b c with
  |.error e=>.error e
  |.ok (o,n)=>.ok (b,joinL (o.map (rv b.batches)++[bH n]))
 |.pour c=>match lW s b c with
  |.error e=>.error e
  |.ok (_,n)=>.ok ({ b with poured:=b.poured+NK b.batches,batches:=[],lost:=b.lost+n },bH n)
 |.test text =>
  if (aP s.hour text).2≠0 then .error (aP s.hour text).2
  else if ¬ b.tests.length<8 then .error 3
  else .ok ({ b with tests:=b.tests++[(aP s.hour text).1] },
   if (dS s.hour (aP s.hour text).1).2=0 then joinL [bH (dS s.hour (aP s.hour text).1).1.lo,bH (dS s.hour (aP s.hour text).1).1.hi]
   else joinL (Jw::(kB s.hour (aP s.hour text).1).1.map bH))
 |.promise kind=>match gb s b kind with
  |.error e=>.error e
  |.ok (_,n)=>.ok (b,bH n)
 |.box kind hours=>match gb s b kind with
  |.error e=>.error e
  |.ok (k,n)=>if ¬ hours<=n then .error 9 else if ¬ b.boxes.length<20 then .error 3 else .ok ({ b with boxes:=b.boxes++[⟨k,hours⟩] },Cf)
 |.look=>.ok (b,if (cz s.hour b.tests b.boxes).1=[] then Cf else joinL (xa::(cz s.hour b.tests b.boxes).1.map bH))
 |.wick kind a b' c d =>
  let i:=aA (λx:Wax=>x.name==bs kind) s.wick.waxes 0
  if i<0 then .error 4
  else match s.wick.waxes[i.toNat]? with
   |none=>.error 4
   |some x =>
    if (Wk.ej s.wick ⟨i,a,b',⟨c,d⟩⟩ x).2≠0 then .error (Wk.ej s.wick ⟨i,a,b',⟨c,d⟩⟩ x).2
    else match s.wick.wicks[(Wk.ej s.wick ⟨i,a,b',⟨c,d⟩⟩ x).1.toNat]? with
     |none=>.error 4
     |some w=>.ok (b,bl w.name)
 |.blend a b' c =>
  if (cb s.blend (ip s a b' c)).2.2≠0 then .error (cb s.blend (ip s a b' c)).2.2
  else .ok (b,joinL ((cb s.blend (ip s a b' c)).1.map bH++[bH (cb s.blend (ip s a b' c)).2.1]))
 |.stock=>.ok (b,if b.lots=[] then PS else joinL (b.lots.flatMap λx=>[bl x.name,bH x.grams]))
def eh (s:ChShop) (b:ChBooks) (l:List UInt8):Except Int (ChBooks×List UInt8×Bool) :=
 match fD l with
 |.error e=>.error e
 |.ok c=>match aR s b c with | .error e=>.error e | .ok (b',a)=>.ok (b',a,c.written)
end Ch
end Abs
open Go.Shelf
def Tryz.lays156_ren:Go.Shelf.Ren:=⟨λ| 156=>63 | 165=>86 | 166=>24 | 169=>25 | 240=>42 | 241=>135 | 276=>64 | 277=>203 | n=>n,λ| 0=>0 | 3=>3 | 4=>4 | 5=>5 | 9=>9 | 20=>20 | 31=>42 | 37=>82 | 70=>81 | 72=>84 | 75=>89 | 76=>90 | 80=>92 | 127=>121 | 164=>147 | n=>n,λ| n=>n⟩
theorem Tryz.lays156:Go.Proofs.Lays.n156 TP Tryz.lays156_ren:={
 mixed:=by kernel_rfl
 f156:=Tryz.func63.trans (congrArg some (by kernel_rfl))
 f165:=Tryz.func86.trans (congrArg some (by kernel_rfl))
 f166:=Tryz.func24.trans (congrArg some (by kernel_rfl))
 f169:=Tryz.func25.trans (congrArg some (by kernel_rfl))
 f240:=Tryz.func42.trans (congrArg some (by kernel_rfl))
 f241:=Tryz.func135.trans (congrArg some (by kernel_rfl))
 f276:=Tryz.func64.trans (congrArg some (by kernel_rfl))
 f277:=Tryz.func203.trans (congrArg some (by kernel_rfl))
 t0:=Tryz.underlying0
 a0:=Tryz.isAgg0
 z0:=Tryz.sizeOf0
 v0:=Tryz.zeroValue0
 t3:=Tryz.underlying3
 a3:=Tryz.isAgg3
 z3:=Tryz.sizeOf3
 v3:=Tryz.zeroValue3
 t4:=Tryz.underlying4
 a4:=Tryz.isAgg4
 z4:=Tryz.sizeOf4
 v4:=Tryz.zeroValue4
 t9:=Tryz.underlying9
 a9:=Tryz.isAgg9
 z9:=Tryz.sizeOf9
 v9:=Tryz.zeroValue9
 t20:=Tryz.underlying20
 a20:=Tryz.isAgg20
 z20:=Tryz.sizeOf20
 v20:=Tryz.zeroValue20
 t31:=Tryz.underlying42
 a31:=Tryz.isAgg42
 z31:=Tryz.sizeOf42
 v31:=Tryz.zeroValue42
 t37:=Tryz.underlying82
 a37:=Tryz.isAgg82
 z37:=Tryz.sizeOf82
 v37:=Tryz.zeroValue82
 t70:=Tryz.underlying81
 a70:=Tryz.isAgg81
 z70:=Tryz.sizeOf81
 v70:=Tryz.zeroValue81
 t72:=Tryz.underlying84
 a72:=Tryz.isAgg84
 z72:=Tryz.sizeOf84
 v72:=Tryz.zeroValue84
 t75:=Tryz.underlying89
 a75:=Tryz.isAgg89
 z75:=Tryz.sizeOf89
 v75:=Tryz.zeroValue89
 t76:=Tryz.underlying90
 a76:=Tryz.isAgg90
 z76:=Tryz.sizeOf90
 v76:=Tryz.zeroValue90
 t127:=Tryz.underlying121
 a127:=Tryz.isAgg121
 z127:=Tryz.sizeOf121
 v127:=Tryz.zeroValue121
 t164:=Tryz.underlying147
 a164:=Tryz.isAgg147
 z164:=Tryz.sizeOf147
 v164:=Tryz.zeroValue147 }
theorem Tryz.lays156X:Go.Proofs.Builder.Extra TP Tryz.lays156_ren:={
 sizeBuilder:=by kernel_rfl
 liesBuilder:=by kernel_rfl
 t5:=by kernel_rfl
 a5:=Tryz.isAgg5
 z5:=Tryz.sizeOf5
 v5:=Tryz.zeroValue5
 infoByte:=by kernel_rfl
 cellsByte:=by kernel_rfl
 sizeByte:=by kernel_rfl
 neB5:=Nat.ne_of_beq_eq_false (by kernel_rfl) }
namespace Abs
open Go.RowKit Go.Sort
set_option maxRecDepth 100000
theorem RZ {w:World} {b k} {v} (h:w.cell? ⟨b,k,none⟩=some v):b<w.heap.size:=by
 unfold World.cell? at h;rcases dr b w.heap.size with h' | h'
 .exact h'
 .simp [ql h'] at h
theorem ZC (l) (sep) (fl) (hl:l.length<=1000000) (hb:(Lib.join l sep).length<=1000000000) :
  ah TP 63 [.slice 1 (l.map λx=>.str (bs x)) fl,.str (bs sep)] (.str (bs (Lib.join l sep))):=by
 intro M0 w cargs hM hg ha;obtain ⟨u,v,rfl,hu,hv⟩:=zR ha;cases hv;refine ⟨(λw'=>jn Tryz.func63 zbN _ w'),?_⟩;have hdat:(l.map bs).map (λx:ByteArray=>x.data.toList)=l:=by rw [tH];simp [jN,gq]
 have fin:∀ (e:Ending) (w':World),e=.returned (.string ⟨(Lib.join ((l.map bs).map (·.data.toList)) (bs sep).data.toList).toArray⟩)/\Below w.heap.size w w'->∃ v',e=Ending.returned v'/\RepP M0 w' v' (.str (bs (Lib.join l sep)))/\Fr [] w w':=by
  rintro e w' ⟨rfl,h⟩
  refine ⟨_,rfl,?_,mj h⟩;rw [hdat,gq];exact .str _
 generalize hxs:l.map (λx=>PV.str (bs x))=xs at hu
 cases hu with
 |slice f hlen hcap hfull hsz hM' hc hr =>
  rename_i b off len cap;subst hlen;have hlen2:xs.length=(l.map bs).length:=by rw [<-hxs];simp
  cases hl0:l with
  |nil =>
   subst hl0;simp only [cm] at hxs;subst hxs
   exact (Any.strings_Join_none Tryz.lays156 Tryz.lays156X (some ⟨b,off,none⟩) cap (bs sep) w).mono λe w' h=>fin e w' ⟨h.1,h.2▸Below.refl _ _⟩
  |cons x0 l0 =>
   rw [<-hl0];have hcells:∀ (j:Nat) x,(l.map bs)[j]?=some x->w.cell? ⟨b,off+j,none⟩=some (.string x):=by
    intro j x hj;have hjx:xs[j]?=some (.str x):=by
     rw [<-hxs,cv];rw [cv] at hj
     cases hq:l[j]? with
     |none=>rw [hq] at hj;cases hj
     |some q=>rw [hq] at hj;cases hj;rfl
    have hjl:=(aE.1 hjx).1;have h1:=hr j 0 _ _ hjx rfl;have h2:=hc j (by omega);rw [h2];have h3:f (j*1+0)=f j:=by simp
    rw [h3] at h1;cases hf:f j<;>rw [hf] at h1<;>cases h1;rfl
   have hbk:b<w.heap.size:=RZ (hcells 0 (bs x0) (by rw [hl0];rfl));have:=Any.strings_Join Tryz.lays156 Tryz.lays156X b off cap (l.map bs) (bs sep) w hcells hbk (by simp;omega) (by rw [<-hlen2];exact hcap) (by rw [hdat,gq];omega);rw [<-hlen2] at this
   exact this.mono fin
 |empty hfull =>
  rename_i a cap;have hl0:l=[]:=by cases l with | nil=>rfl | cons x r=>simp at hxs
  subst hl0;exact (Any.strings_Join_none Tryz.lays156 Tryz.lays156X a cap (bs sep) w).mono λe w' h=>fin e w' ⟨h.1,h.2▸Below.refl _ _⟩
end Abs
end Go.Proofs.YtfafnkpfamgbbaaGreatDoor
