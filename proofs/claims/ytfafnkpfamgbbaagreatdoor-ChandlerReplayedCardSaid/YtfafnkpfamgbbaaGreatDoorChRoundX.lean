/-
  WHAT IS WRITTEN ON CARDS IS READ AGAIN; plain Lean. No conditions but those in the theorem
  THE LAWS ChandlerRefused, ChandlerReplayed. No conditions but those in the theorems' heads
  WHAT THE ARGUMENTS OF THE LAWS OF LAYER 9 LOOK LIKE. No conditions beyond the theorems' ow
  WHAT THE ARGUMENTS OF THE LAWS OF LAYER 13 LOOK LIKE. No conditions beyond the theorems' o
-/
import Derived.Test.YtfafnkpfamgbbaaGreatDoorChSayX
import Derived.Test.YtfafnkpfamgbbaaGreatDoorChBkX
import Derived.Test.YtfafnkpfamgbbaaGreatDoorAbsCutX
import Derived.Test.YtfafnkpfamgbbaaGreatDoorAbsEvX
import Derived.Test.YtfafnkpfamgbbaaGreatDoorChLaw0X
set_option linter.unusedSimpArgs false
set_option linter.unusedVariables false
open Go.Proofs.Tryz renaming prog->TP
namespace Go.Proofs.YtfafnkpfamgbbaaGreatDoor
namespace Abs
namespace Ch
theorem xj {x} (h:nameOk (bs x)=true):(47:UInt8)∉x:=by
 unfold nameOk at h;rw [cK] at h;intro hm;have:=ru _ _ h.1 47 hm;simp at this
theorem lj {w x} (h:aV w=some x):(47:UInt8)∉w/\x=w:=by
 unfold aV at h;split at h
 .rename_i hn;cases h;exact ⟨xj hn,rfl⟩
 .cases h
theorem sq (n):(47:UInt8)∉bH n:=by
 intro hm;have:=qG n.toNat 47 hm;simp at this
theorem xi {w} {v} (h:bD w=some v):(47:UInt8)∉w:=by
 unfold bD at h;split at h
 .split at h
  .rename_i h1;rw [<-h1.2.2];exact sq _
  .cases h
 .cases h
theorem yC:∀ {ws} {l},cr ws=some l->∀ w,w∈ws->(47:UInt8)∉w
 |[],_,_,w,hw=>by cases hw
 |x::r,l,h,w,hw=>by
  rw [cr] at h;split at h
  .rename_i hx;obtain ⟨l',h1,_⟩:=bT.1 h;rcases bw.1 hw with rfl | hw
   .rw [hx];decide
   .exact yC h1 w hw
  .split at h
   .rename_i hx;obtain ⟨l',h1,_⟩:=bT.1 h;rcases bw.1 hw with rfl | hw
    .exact xi hx
    .exact yC h1 w hw
   .cases h
theorem yu {a} {c} (hac:a≠c):∀ (l),(∀ w,w∈aJ c l->a∉w)->a∉l
 |[],_=>by simp
 |x::r,h=>by
  unfold aJ at h;by_cases hx:x=c
  .rw [if_pos hx] at h;rw [bw,not_or];exact ⟨λe=>hac (e.trans hx),yu hac r λw hw=>h w (tQ _ hw)⟩
  .rw [if_neg hx] at h
   cases hs:aJ c r with
   |nil =>
    have:=lH c r;rw [hs] at this
    cases this
   |cons b t =>
    rw [hs] at h;simp only at h;have h1:=h (x::b) (by simp);rw [bw,not_or] at h1;rw [bw,not_or];refine ⟨h1.1,yu hac r λw hw=>?_⟩;rw [hs] at hw;rcases bw.1 hw with rfl | hw
    .exact h1.2
    .exact h w (tQ _ hw)
theorem Lu {v} {ws} {c} (h:dd v ws=some c) (hw:c.written=true):∀ w,w∈v::ws->(47:UInt8)∉w:=by
 unfold dd at h;split at h
 .rename_i hv;split at h
  .split at h
   .rename_i h1 h2 h3 h4;cases h;intro w hm;simp only [bw] at hm;rcases hm with rfl | rfl | rfl | rfl | hm
    .rw [hv];decide
    .exact (lj h1).1
    .exact (lj h2).1
    .exact xi h3
    .exact yC h4 w hm
   .cases h
  .cases h
 split at h
 .rename_i hv;split at h
  .split at h
   .rename_i h1 h2 h3 h4;cases h;intro w hm;simp only [bw,eD,or_false] at hm;rcases hm with rfl | rfl | rfl | rfl | rfl
    .rw [hv];decide
    .exact (lj h1).1
    .exact (lj h2).1
    .exact (lj h3).1
    .exact xi h4
   .cases h
  .cases h
 split at h
 .rename_i hv;split at h
  .obtain ⟨x,h1,rfl⟩:=bT.1 h;intro w hm;simp only [bw,eD,or_false] at hm;rcases hm with rfl | rfl
   .rw [hv];decide
   .exact (lj h1).1
  .cases h
 split at h
 .split at h
  .obtain ⟨x,h1,rfl⟩:=bT.1 h;cases hw
  .cases h
 split at h
 .rename_i hv;split at h
  .obtain ⟨x,h1,rfl⟩:=bT.1 h;intro w hm;simp only [bw,eD,or_false] at hm;rcases hm with rfl | rfl
   .rw [hv];decide
   .exact (lj h1).1
  .cases h
 split at h
 .split at h
  .obtain ⟨x,h1,rfl⟩:=bT.1 h;cases hw
  .cases h
 split at h
 .rename_i hv;split at h
  .split at h
   .rename_i h1 h2;cases h;intro w hm;simp only [bw,eD,or_false] at hm;rcases hm with rfl | rfl | rfl
    .rw [hv];decide
    .exact (lj h1).1
    .exact xi h2
   .cases h
  .cases h
 split at h
 .split at h
  .cases h;cases hw
  .cases h
 split at h
 .split at h
  .split at h
   .cases h;cases hw
   .cases h
  .cases h
 split at h
 .split at h
  .split at h
   .cases h;cases hw
   .cases h
  .cases h
 split at h
 .split at h
  .cases h;cases hw
  .cases h
 .cases h
theorem QU {s} {t} (hs:(hrCheck s).2.2=0) (h:(aP s t).2=0):(47:UInt8)∉t:=by
 have hno:∀ n,cd s []=n->n≠0->(aP s t).2=n:=λn e h0=>by rw [aP,if_neg (by rw [e];exact h0),e]
 unfold aP at h;split at h
 .split at h
  .cases h
  .split at h
   .cases h
   .rename_i x hx;split at h
    .rename_i hg;unfold mI at hg;rw [cK] at hg;have ht:iK s x=t:=by simpa using hg.2
     rw [<-ht];unfold iK mb;have hn:∀ c,c∈(((s.kinds[x.kind.toNat]?).map λk=>k.name.data.toList).getD [])->c≠47:=by
      intro c hc
      cases hk:s.kinds[x.kind.toNat]? with
      |none=>rw [hk] at hc;cases hc
      |some k =>
       rw [hk] at hc;have hko:=(pI hs (aL hk)).name;have:=xj (x:=k.name.data.toList) (by rw [tr];exact hko)
       rintro rfl
       exact this hc
     have hm:∀ (ms:List HrMark),(47:UInt8)∉(ms.map jh).flatten:=by
      intro ms
      induction ms with
      |nil=>simp
      |cons m ms ih =>
       rw [bB,Ek,ea,not_or];refine ⟨?_,ih⟩;unfold jh;simp only [ea,not_or];exact ⟨⟨⟨sq _,by decide⟩,sq _⟩,by decide⟩
     simp only [ea,not_or];exact ⟨⟨⟨⟨⟨by decide,λhc=>hn 47 hc rfl⟩,by decide⟩,sq _⟩,by decide⟩,hm _⟩
    .cases h
 .rename_i h0;exact absurd h h0
theorem Ro {s} {b b'} {l a} {c} (hs:SOk s) (hc:fD l=.ok c) (hw:c.written=true) (ha:aR s b c=.ok (b',a)):(47:UInt8)∉l:=by
 unfold fD at hc;split at hc
 .cases hc
 split at hc
 .rename_i h5;cases hc;have hr:(aP s.hour (l.drop 5)).2=0:=by
   simp only [aR] at ha;split at ha
   .cases ha
   .rename_i h;exact Classical.byContradiction h
  have:=QU hs.hour hr;rw [<-kZ 5 l,h5,ea,not_or];exact ⟨by decide,this⟩
 .cases hsp:aJ 32 l with
  |nil=>rw [hsp] at hc;cases hc
  |cons v ws =>
   rw [hsp] at hc;simp only at hc
   cases hq:dd v ws with
   |none=>rw [hq] at hc;cases hc
   |some c' =>
    rw [hq] at hc;cases hc;refine yu (c:=32) (by decide) l ?_;rw [hsp];exact Lu hq hw
theorem vk {s} {b} {l} (h:q8 s b l≠[]):q8 s b l=[l]/\∃ c a b',fD l=.ok c/\c.written=true/\aR s b c=.ok (b',a)/\eh s b l=.ok (b',a,true):=by
 unfold q8 at h |-
 cases hs:fD l with
 |error e=>rw [BM hs] at h;exact absurd rfl h
 |ok c =>
  cases ha:aR s b c with
  |error e=>rw [BK hs ha] at h;exact absurd rfl h
  |ok x =>
   obtain ⟨b',a⟩:=x;have hd:=BJ hs ha;rw [hd] at h |-;simp only at h |-
   cases hw:c.written with
   |false=>rw [hw] at h;exact absurd rfl h
   |true=>exact ⟨by simp,c,a,b',rfl,hw,ha,rfl⟩
theorem La {s} (hs:SOk s):∀ (d) (b),∀ x,x∈jy s b d->(47:UInt8)∉x/\x≠[]/\x.length<=400
 |[],b,x,hx=>by cases hx
 |l::d,b,x,hx=>by
  rw [jy,ea] at hx;rcases hx with hx | hx
  .obtain ⟨h1,c,a,b',h2,h3,h4,_⟩:=vk (λe=>by rw [e] at hx;cases hx);rw [h1,fT] at hx;subst hx;refine ⟨Ro hs h2 h3 h4,?_,Co h2⟩
   rintro rfl
   cases h2
  .exact La hs d _ x hx
theorem H8 (s):∀ (d) (b),(jy s b d).length<=d.length
 |[],_=>bM _
 |l::d,b=>by
  rw [jy,aI,ct];have h1:=H8 s d (qf s b l);have h2:(q8 s b l).length<=1:=by
   by_cases h:q8 s b l=[]
   .rw [h];exact dD _
   .rw [(vk h).1];exact bM _
  omega
theorem NZ {x} (h:(47:UInt8)∉x):repL 47 10 (repL 10 47 x)=x:=by
 induction x with
 |nil=>rfl
 |cons c r ih =>
  rw [bw,not_or] at h;have ih:=ih h.2;unfold repL at ih |-;rw [bB,bB,ih];by_cases hc:c=10
  .rw [if_pos hc,if_pos rfl,hc]
  .rw [if_neg hc,if_neg (λe=>h.1 e.symm)]
theorem Tz (x):(10:UInt8)∉repL 10 47 x:=by
 intro h;obtain ⟨c,_,hc⟩:=ec.1 h;by_cases e:c=10
 .rw [if_pos e] at hc;cases hc
 .rw [if_neg e] at hc;exact e hc
def jp:Nat->List (List UInt8)->List UInt8
 |_,[]=>[]
 |i,x::r=>mL i x++jp (i+1) r
theorem xP:∀ (l) (i),(l.mapIdx λj x=>mL (i+j) x).flatten=jp i l
 |[],_=>rfl
 |x::l,i=>by
  rw [List.mapIdx_cons,Ek,jp,<-xP l (i+1)]
  congr 2
  apply nu;intro j;simp only [wV]
  congr 1
  funext y;rw [show i+(j+1)=i+1+j by omega]
theorem Hr (l):eZ l=jp 0 l:=by
 rw [<-xP l 0];unfold eZ
 congr 1
 apply nu;intro j;simp only [wV,jv]
theorem Cx:∀ (l) (i),i+l.length<=1000->(∀ x,x∈l->(47:UInt8)∉x/\x≠[]/\x.length<=400)->l7 (i+1) (aJ 10 (jp i l))=some l
 |[],i,_,_=>rfl
 |x::l,i,hi,h=>by
  obtain ⟨h1,h2,h3⟩:=h x (by simp);have hd:=rG (n:=((i+1:Nat):Int));have hno:(10:UInt8)∉bH ((i+1:Nat):Int)++32::repL 10 47 x:=by
   rw [ea,not_or,bw,not_or];exact ⟨hd.1,by decide,Tz x⟩
  have hc:jp i (x::l)=(bH ((i+1:Nat):Int)++32::repL 10 47 x)++10::jp (i+1) l:=by
   rw [jp,mL];simp
  obtain ⟨a,r,hr⟩:=sB 10 (jp (i+1) l);have ih:=Cx l (i+1) (by simp at hi;omega) λy hy=>h y (tQ _ hy);rw [hr] at ih;rw [hc,j4 _ hno,hr,l7];have hrow:nF (i+1) (bH ((i+1:Nat):Int)++32::repL 10 47 x)=some x:=by
   rw [nF,tj _ hd.2];simp only;rw [if_pos ⟨trivial,λe=>h2 (uW (by rw [<-iu 10 47 x,e];rfl)),by rw [iu];exact h3⟩,NZ h1]
  rw [hrow];simp only;rw [ih];rfl
theorem JK {l} (hl:l.length<=40) (h:∀ x,x∈l->(47:UInt8)∉x/\x≠[]/\x.length<=400):cT (eZ l)=(l,0):=by
 have:=Cx l 0 (by omega) h;unfold cT;rw [Hr,this];simp only;rw [if_neg (by omega)]
theorem uc (s):∀ (d) (b) (i),cN s b i (jy s b d)=(iQ s b d,-1)
 |[],b,i=>rfl
 |l::d,b,i=>by
  rw [jy,iQ];by_cases h:q8 s b l=[]
  .have hb:qf s b l=b:=by
    apply IZ;have hw:=PR s b l;rw [h] at hw;split at hw
    .cases hw
    .rename_i h1;simpa using h1
   rw [h,oq,hb];exact uc s d b i
  .obtain ⟨h1,c,a,b',_,_,_,h2⟩:=vk h;have hb:qf s b l=b':=by rw [qf,h2]
   rw [h1,Jc,cN,h2,hb];simp only [if_true];exact uc s d b' (i+1)
set_option maxRecDepth 4000
set_option maxHeartbeats 1000000 in
theorem MJ (ls an) (h:an.length=ls.length) (hl:ls.length<=1000):ah TP 16 [bt ls,bt an] (bt (dc ls an)):=by
 refine dC (ai (by kernel_rfl) rfl zco) rfl ?_;simp only [bt,go_sem,simprocAttr];refine cg 5 1 (by simp only [go_sem,simprocAttr]) ?_;simp only [go_sem,simprocAttr]
 refine dZ [0,1] (σ:=List (List UInt8)×List (List UInt8)×List (List UInt8)×List (List UInt8)) (λq=>ls=q.1++q.2.1/\an=q.2.2.1++q.2.2.2/\q.1.length=q.2.2.1.length/\(dc q.1 q.2.2.1).length<=q.1.length) (λq=>q.2.1.length)
  (λq=>[(5,.slice 0 (dc q.1 q.2.2.1).length 0 (dc q.1 q.2.2.1).length),(6,.p (.int .i64 q.1.length))]) (λq=>[.row 1 ((dc q.1 q.2.2.1).map mR)]) ([],ls,[],an) ⟨rfl,rfl,rfl,bM _⟩ rfl ?_ ?_
 .simp only [dc,ei,go_sem,simprocAttr]
 rintro ⟨d,r,da,ra⟩ ⟨e1,e2,e3,e4⟩
 dsimp only at e1 e2 e3 e4;have hl1:=congrArg List.length e1;have hl2:=congrArg List.length e2;rw [aI] at hl1 hl2
 cases r with
 |nil =>
  have hra:ra=[]:=uW (by simp at hl1;omega);subst hra;rw [aW] at e1 e2;subst e1 e2;have hlt:¬ ((ls.length:Int)<(ls.length:Int)):=by omega
  have t1:List.take (dc ls an).length ((dc ls an).map λx=>PV.str (bs x))=(dc ls an).map λx=>PV.str (bs x):=ga (by simp)
  simp only [hlt,decide_false,mh,t1,go_sem,simprocAttr]
 |cons l r =>
  cases ra with
  |nil=>simp at hl1 hl2;omega
  |cons a ra =>
   obtain ⟨hx,hlt⟩:=de e1;obtain ⟨hy,hlt2⟩:=de e2;rw [ct] at hl1;have hnx:IntKind.i64.wrap ((d.length:Int)+1)=(((d++[l]).length:Nat):Int):=ba (by omega) (by simp [aw];omega) (by simp);have hrm:(dc d da).length+1<=aw:=by simp only [aw];omega
   rw [<-e3] at hy hlt2;have hsn:=uX d da l a e3;simp only [hlt,decide_true,hx,go_sem,simprocAttr];refine ae (MK l) rfl ?_;simp only [go_sem,simprocAttr];refine ae (C8 (gx l)) rfl ?_
   cases hw:cL (gx l) with
   |false =>
    rw [hw,Bool.false_and,if_neg (by simp),aW] at hsn;simp only [go_sem,simprocAttr];refine aZ (d++[l],r,da++[a],ra) ⟨by rw [e1];simp,by rw [e2];simp,by simp [e3],?_⟩ (j3 _) (by simp only [hsn,go_sem,simprocAttr]) ?_
    .show (dc (d++[l]) (da++[a])).length<=(d++[l]).length;rw [hsn,aI,bh];omega
    simp only [hnx,hsn,go_sem,simprocAttr]
   |true =>
    simp only [hy,hlt2,go_sem,simprocAttr];refine ae (Da a) rfl ?_
    cases hr:dF a with
    |true =>
     rw [hw,hr,Bool.not_true,Bool.and_false,if_neg (by simp),aW] at hsn;simp only [go_sem,simprocAttr];refine aZ (d++[l],r,da++[a],ra) ⟨by rw [e1];simp,by rw [e2];simp,by simp [e3],?_⟩ (j3 _) (by simp only [hsn,go_sem,simprocAttr]) ?_
     .show (dc (d++[l]) (da++[a])).length<=(d++[l]).length;rw [hsn,aI,bh];omega
     simp only [hnx,hsn,go_sem,simprocAttr]
    |false =>
     rw [hw,hr,tI,Bool.and_true,if_pos rfl] at hsn;simp only [hx,hlt,hrm,dL,go_sem,simprocAttr];refine aZ (d++[l],r,da++[a],ra) ⟨by rw [e1];simp,by rw [e2];simp,by simp [e3],?_⟩ (j3 _) (by simp only [hsn,bA,mR,go_sem,simprocAttr]) ?_
     .show (dc (d++[l]) (da++[a])).length<=(d++[l]).length;rw [hsn];simp only [aI,bh];omega
     simp only [hnx,hsn,aI,bh,go_sem,simprocAttr]
set_option maxHeartbeats 1000000 in
theorem xF (s:ChShop) (ls):ah TP 3 [s.pv,bt ls] (.bool true):=by
 refine aa (ai (by kernel_rfl) rfl ok3) rfl ?_;simp only [go_sem,simprocAttr];refine ae (L' s ls) rfl ?_;simp only [go_sem,simprocAttr];refine ae (Aj s ls) rfl ?_;by_cases he:bz s ls=0;rotate_left
 .have hn:(bz s ls != 0)=true:=by simpa using he
  have h0:k7 s ls=[]:=by rw [k7,if_neg he]
  have e0:(bz s ls==bz s ls)=true:=by simp
  have c0:(⟨#[]⟩:ByteArray)=bs []:=rfl;have c1:(bs (eZ [])==bs [])=true:=rfl;simp only [hn,h0,e0,c0,c1,go_sem,simprocAttr];refine ae rM rfl ?_;simp only [go_sem,simprocAttr]
 obtain ⟨h1,h2⟩:=Kl he;have hv:((bm s).2.2==0)=true:=by simpa using h1
 simp only [he,go_sem,simprocAttr];refine ae (Gd s) rfl ?_;simp only [hv,go_sem,simprocAttr];refine ae (Ak s ls) rfl ?_;have hw:k7 s ls=jy s aS ls:=by rw [k7,if_pos he,pC]
 have hb:mr s ls=iQ s aS ls:=by rw [mr,if_pos he,pC]
 have ha:nx s ls=fV s aS ls:=by rw [nx,if_pos he,pC]
 have hs:=zG h1;have hwl:=H8 s ls aS;have hno:=La hs ls aS;have hrd:=JK (by omega) hno;have hln:=uL (jy s aS ls) [] (by simp;omega) (λx hx=>(hno x (by simpa using hx)).2.2);have hrp:dQ s (eZ (jy s aS ls))=(iQ s aS ls,-1,0):=by
  rw [dQ,hrd,if_neg (by simpa using h1)];simp only [uc];rfl
 have hbl:=De s ls;rw [hb] at hbl;have hal:=rP s ls aS;simp only [he,hw,hb,ha,go_sem,simprocAttr];refine ae (Ql (eZ (jy s aS ls)) (by omega)) rfl ?_;rw [hrd];simp only [go_sem,simprocAttr];refine ae (BA s (eZ (jy s aS ls)) (by omega)) rfl ?_;rw [hrp];have hq:((ls.length:Int) != (ls.length:Int))=false:=by simp
 have hws:=MJ ls (fV s aS ls) hal (by omega);have hst:=y7 (jy s aS ls) (dc ls (fV s aS ls)) (by omega);rw [<-Bh,show (jy s aS ls==jy s aS ls)=true by simp] at hst;rw [<-Bh] at hws;have heq:=KF _ hbl;simp only [ChBooks.pv,ChBooks.cells] at heq;simp only [bt,hal,hq,go_sem,simprocAttr];refine ae heq rfl ?_;simp only [go_sem,simprocAttr];simp only [bt] at hws hst;refine ae hws rfl ?_;simp only [go_sem,simprocAttr];refine ae hst rfl ?_;simp only [go_sem,simprocAttr];refine ae rM rfl ?_;simp only [go_sem,simprocAttr]
def OX (ls an:List (List UInt8)):List Int:=((List.range ls.length).filter λi=>dF ((an[i]?).getD [])||!cL (gx ((ls[i]?).getD []))).map λi:Nat=>(i:Int)
def jJ (ls an:List (List UInt8)) (n:Nat):List Int:=((List.range n).filter λi=>dF ((an[i]?).getD [])||!cL (gx ((ls[i]?).getD []))).map λi:Nat=>(i:Int)
theorem AJ (ls an) (n):jJ ls an (n+1)=jJ ls an n++(if (dF ((an[n]?).getD [])||!cL (gx ((ls[n]?).getD [])))=true then [(n:Int)] else []):=by
 unfold jJ;rw [List.range_succ,D4,bA]
 congr 1
 by_cases h:(dF ((an[n]?).getD [])||!cL (gx ((ls[n]?).getD [])))=true
 .rw [if_pos h];simp only [List.filter_cons,h,if_true,List.filter_nil];rfl
 .rw [if_neg h];simp only [List.filter_cons,h,List.filter_nil];rfl
theorem C7 (ls an):∀ n,(jJ ls an n).length<=n
 |0=>by simp [jJ]
 |n+1=>by
  rw [AJ,aI];have:=C7 ls an n;split<;>simp<;>omega
theorem UA {ls an} {k:Nat} {v} (h:(OX ls an)[k]?=some v):∃ i:Nat,v=(i)/\i<ls.length/\(dF ((an[i]?).getD [])||!cL (gx ((ls[i]?).getD [])))=true:=by
 unfold OX at h;rw [cv] at h;obtain ⟨i,h1,rfl⟩:=bT.1 h;have hm:=aL h1;rw [List.mem_filter,Be] at hm;exact ⟨i,rfl,hm.1,hm.2⟩
theorem Dw {s} {ls A d r da ra} {l a} {kq} (hA:fV s aS ls=A) (e1:ls=d++l::r) (hd:d.length=kq) (e2:A=da++a::ra) (hda:da.length=kq)
  (hkc:(dF ((A[kq]?).getD [])||!cL (gx ((ls[kq]?).getD [])))=true):da++ra=fV s aS (d++r)/\iQ s aS ls=iQ s aS (d++r):=by
 have g1:(A[kq]?).getD []=a:=by rw [e2,<-hda];simp
 have g2:(ls[kq]?).getD []=l:=by rw [e1,<-hd];simp
 rw [g1,g2] at hkc;have hq:=hA;rw [e1,ze,fV,e2] at hq;obtain ⟨q1,q2⟩:=List.append_inj hq (by rw [rP,hd,hda]);obtain ⟨q3,q4⟩:=Bd q2
 have hb:qf s (iQ s aS d) l=iQ s aS d:=IZ (by
  rw [q3]
  cases h1:dF a<;>cases h2:cL (gx l)<;>simp_all)
 rw [<-q1,<-q4,e1,zb,zb,iQ,hb,ze];exact ⟨rfl,rfl⟩
set_option maxHeartbeats 4000000 in
theorem yN (s:ChShop) (ls) (k) (hk:0<=k/\k<=255):ah TP 4 [s.pv,bt ls,.int .u8 k] (.bool true):=by
 refine E1 (ai (by kernel_rfl) rfl ok4) rfl ?_;refine jZ dU ?_;simp only [go_sem,simprocAttr];refine jZ dU ?_;simp only [go_sem,simprocAttr];refine ae (Aj s ls) rfl ?_;simp only [go_sem,simprocAttr];refine jZ dU ?_;by_cases he:bz s ls=0;rotate_left
 .have hn:(bz s ls != 0)=true:=by simpa using he
  have h0:nx s ls=[]:=by rw [nx,if_neg he]
  simp only [hn,h0,bt,cm,ei,go_sem,simprocAttr];refine ae rM rfl ?_;simp only [go_sem,simprocAttr]
 obtain ⟨h1,h2⟩:=Kl he;have hv:((bm s).2.2==0)=true:=by simpa using h1
 have ha:nx s ls=fV s aS ls:=by rw [nx,if_pos he,pC]
 have hal:=rP s ls aS;simp only [he,ha,go_sem,simprocAttr];refine ae (Gd s) rfl ?_;simp only [hv,go_sem,simprocAttr];refine jZ dU ?_;have hq:((ls.length:Int) != (ls.length:Int))=false:=by simp
 simp only [bt,hal,hq,go_sem,simprocAttr];refine jZ dU ?_;simp only [go_sem,simprocAttr];refine jZ dU ?_;simp only [go_sem,simprocAttr];generalize hA:fV s aS ls=A at hal;refine cg 9 1 (by simp only [go_sem,simprocAttr]) ?_;simp only [go_sem,simprocAttr];have hc0:jJ ls A 0=[]:=rfl
 refine dZ [1,2,3,7] (σ:=Nat) (λi=>i<=ls.length) (λi=>ls.length-i)
  (λi=>[(9,.slice 1 (jJ ls A i).length 0 (jJ ls A i).length),(10,.p (.int .i64 i))]) (λi=>[.row 17 [.p s.pv],.row 1 ((jJ ls A i).map λx=>.p (aK x))]) 0 (dD _) (by simp only [go_sem,simprocAttr];rfl) ?_ ?_
 .simp only [hc0,ei,go_sem,simprocAttr];try rfl
 .intro i hi;rcases zl hi with e | hlt
  .subst e;have hlt:¬ ((ls.length:Int)<(ls.length:Int)):=by omega
   simp only [hlt,decide_false,go_sem,simprocAttr];refine jZ dU ?_;by_cases hC:jJ ls A ls.length=[]
   .simp only [hC,ei,go_sem,simprocAttr];refine ae rM rfl ?_;simp only [go_sem,simprocAttr]
   have hCl:0<(jJ ls A ls.length).length:=tN.2 hC;obtain ⟨m,rfl⟩:=p4 hk.1;obtain ⟨n,hn⟩:∃ n,n=m%(jJ ls A ls.length).length:=⟨_,rfl⟩
   have hnl:n<(jJ ls A ls.length).length:=by rw [hn];exact ym m hCl
   obtain ⟨v,hkn⟩:∃ v,(jJ ls A ls.length)[n]?=some v:=⟨_,bE hnl⟩
   obtain ⟨kq,rfl,hkl,hkc⟩:=UA (k:=n) (show (OX ls A)[n]?=some v from hkn);generalize jJ ls A ls.length=C at *
   have hrow:(List.map (λx=>AV.p (PV.int .i64 x)) C)[n]?=some (.p (.int .i64 kq)):=by rw [cv,hkn];rfl
   have q0:((C.length:Int)==0)=false:=by rw [beq_eq_false_iff_ne];omega
   have w2:IntKind.i64.wrap ((m:Nat):Int)=((m:Nat):Int):=ax (by omega) (by omega);have w3:¬ ((C.length:Int)=0):=by omega
   have w4:((m:Nat):Int).tmod (C.length:Int)=((n:Nat):Int):=by rw [hn];rfl
   have w5:((n:Nat):Int)<(C.length:Int):=by omega
   simp only [q0,go_sem,simprocAttr];refine jZ dU ?_;simp only [w2,w3,w4,w5,hrow,go_sem,simprocAttr];obtain ⟨d,l,r,e1,hd⟩:∃ d l r,ls=d++l::r/\d.length=kq:=⟨ls.take kq,ls[kq],ls.drop (kq+1),by rw [<-oV hkl,kZ],by rw [tK];omega⟩
   obtain ⟨da,a,ra,e2,hda⟩:∃ da a ra,A=da++a::ra/\da.length=kq:=⟨A.take kq,A[kq]'(by omega),A.drop (kq+1),by rw [<-oV (by omega),kZ],by rw [tK];omega⟩
   have hT:List.take kq (List.map (λx=>PV.str (bs x)) ls)=List.map (λx=>PV.str (bs x)) d:=by rw [e1,<-Ej,d9 hd]
   have hD:List.drop (kq+1) (List.map (λx=>PV.str (bs x)) ls)=List.map (λx=>PV.str (bs x)) r:=by rw [e1,<-List.map_drop,show kq+1=(d++[l]).length by simp [hd],show d++l::r=(d++[l])++r by simp,List.drop_left]
   have hT2:List.take kq (List.map (λx=>PV.str (bs x)) A)=List.map (λx=>PV.str (bs x)) da:=by rw [e2,<-Ej,d9 hda]
   have hD2:List.drop (kq+1) (List.map (λx=>PV.str (bs x)) A)=List.map (λx=>PV.str (bs x)) ra:=by rw [e2,<-List.map_drop,show kq+1=(da++[a]).length by simp [hda],show da++a::ra=(da++[a])++ra by simp,List.drop_left]
   have b1:((kq:Nat):Int)<=(ls.length:Int):=by omega
   have b2:((kq+1:Nat):Int)<=(ls.length:Int):=by omega
   have b3:((kq:Nat):Int)<=(A.length:Int):=by omega
   have b4:((kq+1:Nat):Int)<=(A.length:Int):=by omega
   have n1:IntKind.i64.wrap ((kq:Int)+1)=((kq+1:Nat):Int):=ba (by omega) (by simp [aw];omega) (by simp);refine jZ dU ?_;have sk:d.length+r.length+1=ls.length:=by rw [e1];simp;omega
   have r0:(0:Nat)<=aw:=dD _;have r1:d.length<=aw:=by simp only [aw];omega
   have r2:r.length<=aw:=by simp only [aw];omega
   have r3:d.length+r.length<=aw:=by simp only [aw];omega
   have s1:da.length<=aw:=by rw [hda,<-hd];exact r1
   obtain ⟨hwant,hbook⟩:=Dw hA e1 hd e2 hda hkc;obtain ⟨less,hless⟩:∃ z,z=d++r:=⟨_,rfl⟩
   rw [<-hless] at hwant hbook;have hll:less.length+1=ls.length:=by rw [hless,e1];simp;omega
   have hle:bz s less=0:=by rw [bz,if_pos h1,if_neg (by omega)]
   have k1:=Aj s less;have k2:=Ak s ls;have k3:=Ak s less;have k4:=y7 (fV s aS less) (fV s aS less) (by rw [rP];omega);rw [show (fV s aS less==fV s aS less)=true by simp] at k4;rw [hle,nx,if_pos hle,pC] at k1;rw [he,mr,if_pos he,pC] at k2;rw [hle,mr,if_pos hle,pC] at k3;dsimp only at k1 k2 k3;rw [hbook] at k2;have hbl:=De s less;rw [mr,if_pos hle,pC] at hbl;have k5:=KF _ hbl;have k6:ah TP 15 [bt (fV s aS less),bt (da++ra)] (.bool true):=by rw [hwant];exact k4
   have hral:ra.length=r.length:=by have:=congrArg List.length e1;have h3:=congrArg List.length e2;simp at this h3;omega
   have hfz:∀ n h (l:List (List UInt8)),aU (ci n h) (List.map AV.p (List.map (λx=>PV.str (bs x)) l))=some (l.map λx=>PV.str (bs x)):=λn h l=>by
    rw [tH];exact mh n h l
   generalize iQ s aS less=BL at *
   generalize fV s aS less=WL at *
   have hdal:da.length=d.length:=by omega
   have hap:∀ (p q:List (List UInt8)) (z:List UInt8),List.map AV.p (List.map (λx=>PV.str (bs x)) p)++AV.p (.str (bs z))::List.map AV.p (List.map (λx=>PV.str (bs x)) q)=List.map AV.p (List.map (λx=>PV.str (bs x)) (p++z::q)):=λp q z=>by simp
   have htk:∀ (p q:List (List UInt8)) (y z:List UInt8),List.take (p.length+1+(q.length+1)) (PV.str (bs y)::List.map (λx=>PV.str (bs x)) (p++z::q))=PV.str (bs y)::List.map (λx=>PV.str (bs x)) (p++z::q):=λp q y z=>ga (by simp;omega);have hpl:∀ a b:Nat,a+(b+1)+1=a+1+(b+1):=λa b=>by omega
   have s2:ra.length<=aw:=by rw [hral];exact r2
   have s3:da.length+ra.length<=aw:=by rw [hral,hdal];exact r3
   rcases d with _ | ⟨y,d⟩<;>rcases da with _ | ⟨y2,da⟩<;>first | (exfalso;simp at hdal;done) | skip
   all_goals rcases r with _ | ⟨x,r⟩<;>rcases ra with _ | ⟨x2,ra⟩<;>first | (exfalso;simp at hral;done) | skip
   all_goals simp only [cm,ei,ct,jv,lY] at hT hD r1 r2 r3 s1 s2 s3 hT2 hD2 hdal hral
   all_goals simp only [oq,aW,hG] at k6
   all_goals simp only [hT,hD,b1,b2,n1,H4,bj,ei,r0,r1,r2,r3,jv,lY,dL,go_sem,simprocAttr]
   all_goals iterate 2 (try refine ⟨.inl ⟨_,rfl⟩,?_⟩)
   all_goals refine Vg (λi=>i != 0) [1,3,7,11] [(12,bt less)] _ rfl rfl ?_ ?_
   all_goals first | (intro p hp;simp only [fT] at hp;subst hp;simp only [hap,htk,hfz,eH,List.mapIdx_cons,List.mapIdx_nil,aW,ct,dL,aI,hpl,go_sem,simprocAttr];rw [hless];first | exact vV | (simp only [bt,bB,aW];exact Rq)) | skip
   all_goals refine jZ dU ?_
   all_goals simp only [eH,List.mapIdx_cons,List.mapIdx_nil,go_sem,simprocAttr]
   all_goals refine ae k1 rfl ?_
   all_goals simp only [go_sem,simprocAttr]
   all_goals refine jZ dU ?_
   all_goals simp only [go_sem,simprocAttr]
   all_goals refine ae k2 rfl ?_
   all_goals simp only [go_sem,simprocAttr]
   all_goals refine jZ dU ?_
   all_goals simp only [go_sem,simprocAttr]
   all_goals refine ae k3 rfl ?_
   all_goals simp only [go_sem,simprocAttr]
   all_goals refine jZ dU ?_
   all_goals simp only [hT2,hD2,dL,b3,b4,n1,bj,ei,ct,s1,s2,s3,jv,lY,go_sem,simprocAttr]
   all_goals iterate 3 (first | refine ⟨.inl ⟨_,rfl⟩,?_⟩ | refine ⟨.inr ⟨5,_,rfl,rfl⟩,?_⟩ | skip)
   all_goals first
    |refine Cc (k6.le2 (vV (b:=true))) ?_ (.bool _) ?_
     .simp only [bt,hfz,go_sem,simprocAttr]
    |refine Cc (k6.le2 (vV (b:=false))) ?_ (.bool _) ?_
     .simp only [bt,hap,hpl,htk,hfz,aW,bB,ct,dL,aI,go_sem,simprocAttr]
   all_goals simp only [go_sem,simprocAttr]
   all_goals refine aD k5 rfl ?_
   all_goals simp only [go_sem,simprocAttr]
   all_goals refine aD rM rfl ?_
   all_goals simp only [go_sem,simprocAttr]
   all_goals refine D5 dU ?_
   all_goals simp only [go_sem,simprocAttr]
  .obtain ⟨d,l,r,e1,rfl⟩:∃ d l r,ls=d++l::r/\d.length=i:=⟨ls.take i,ls[i],ls.drop (i+1),by rw [<-oV hlt,kZ],by rw [tK];omega⟩
   obtain ⟨da,a,ra,e2,e3⟩:∃ da a ra,A=da++a::ra/\da.length=d.length:=⟨A.take d.length,A[d.length]'(by omega),A.drop (d.length+1),by rw [<-oV (by omega),kZ],by rw [tK];omega⟩
   obtain ⟨hx,hlt1⟩:=de e1;obtain ⟨hy,hlt2⟩:=de e2;rw [e3] at hy hlt2;have hnx:IntKind.i64.wrap ((d.length:Int)+1)=(((d.length+1):Nat):Int):=ba (by omega) (by simp [aw];omega) (by simp);have hcl:=C7 ls A d.length;have hrm:(jJ ls A d.length).length+1<=aw:=by simp only [aw];omega
   have hg1:(A[d.length]?).getD []=a:=by rw [e2,cn (by omega),e3];simp
   have hg2:(ls[d.length]?).getD []=l:=by rw [e1];simp
   have hs1:=AJ ls A d.length;rw [hg1,hg2] at hs1;simp only [hlt1,decide_true,hy,hlt2,go_sem,simprocAttr];refine ae (Da a) rfl ?_
   cases hr:dF a with
   |true =>
    rw [hr,mO,if_pos rfl] at hs1;simp only [H4,hrm,dL,go_sem,simprocAttr];refine aZ (d.length+1) hlt (by rw [e1];simp;omega) (by simp only [hs1,bA,bB,cm,go_sem,simprocAttr]) ?_;simp only [hnx,hs1,aI,bh,go_sem,simprocAttr]
    trace_state
   |false =>
    simp only [hx,hlt1,go_sem,simprocAttr];refine ae (MK l) rfl ?_;simp only [go_sem,simprocAttr];refine ae (C8 (gx l)) rfl ?_
    cases hw:cL (gx l) with
    |true =>
     rw [hr,hw,Bool.not_true,bS,if_neg (by simp),aW] at hs1;simp only [go_sem,simprocAttr];refine aZ (d.length+1) hlt (by rw [e1];simp;omega) (by simp only [hs1,go_sem,simprocAttr]) ?_;simp only [hnx,hs1,go_sem,simprocAttr]
     trace_state
    |false =>
     rw [hr,hw,tI,Bool.or_true,if_pos rfl] at hs1;simp only [H4,hrm,dL,go_sem,simprocAttr];refine aZ (d.length+1) hlt (by rw [e1];simp;omega) (by simp only [hs1,bA,bB,cm,go_sem,simprocAttr]) ?_;simp only [hnx,hs1,aI,bh,go_sem,simprocAttr]
     trace_state
end Ch
set_option maxRecDepth 100000
theorem dX (cs):jT true cs=.agg cs:=by
 cases cs with
 |nil=>rfl
 |cons a l=>cases l<;>rfl
theorem jm {n} {cs} (h:db TP (n+1) 3 cs):∃ m,cs=[.int .i64 m]:=by
 obtain ⟨m,h,_⟩:=LD (k:=.i64) (by kernel_rfl) h;exact ⟨m,h⟩
theorem gS {n} {cs} (h:db TP (n+2) 30 cs):∃ s:Span,cs=[.int .i64 s.lo,.int .i64 s.hi]:=by
 obtain ⟨a,_,rfl,ha,b,_,rfl,hb,rfl⟩:=d4 (ts:=[3,3]) (by kernel_rfl) h;obtain ⟨x,rfl⟩:=jm ha;obtain ⟨y,rfl⟩:=jm hb;exact ⟨⟨x,y⟩,rfl⟩
theorem Mi {n} {cs} (h:db TP (n+3) 168 cs):∃ k:HrKind,.agg cs=k.pv:=by
 obtain ⟨a,_,rfl,ha,b,_,rfl,hb,c,_,rfl,hc,rfl⟩:=d4 (ts:=[9,30,3]) (by kernel_rfl) h;obtain ⟨x,rfl,_⟩:=nH (by kernel_rfl) ha;obtain ⟨y,rfl⟩:=gS hb;obtain ⟨z,rfl⟩:=jm hc;exact ⟨⟨x,y,z⟩,rfl⟩
theorem Mh {n} {cs} (h:db TP (n+3) 171 cs):∃ k:HrRule,.agg cs=k.pv:=by
 obtain ⟨a,_,rfl,ha,b,_,rfl,hb,c,_,rfl,hc,rfl⟩:=d4 (ts:=[9,30,30]) (by kernel_rfl) h;obtain ⟨x,rfl,_⟩:=nH (by kernel_rfl) ha;obtain ⟨y,rfl⟩:=gS hb;obtain ⟨z,rfl⟩:=gS hc;exact ⟨⟨x,y,z⟩,rfl⟩
theorem Aq {n} {cs} (h:db TP (n+4) 33 cs):∃ l:List HrKind,cs=[.slice 4 (l.map HrKind.pv) false]:=by
 obtain ⟨xs,rfl,_,hx⟩:=iS (e:=168) (z:=4) (g:=true) (by kernel_rfl) h;obtain ⟨l,rfl⟩:=ik HrKind.pv (xs:=xs) λx hm=>by
  obtain ⟨es,rfl,h⟩:=hx x hm;rw [dX];exact Mi h
 exact ⟨l,rfl⟩
theorem Ap {n} {cs} (h:db TP (n+4) 34 cs):∃ l:List HrRule,cs=[.slice 5 (l.map HrRule.pv) false]:=by
 obtain ⟨xs,rfl,_,hx⟩:=iS (e:=171) (z:=5) (g:=true) (by kernel_rfl) h;obtain ⟨l,rfl⟩:=ik HrRule.pv (xs:=xs) λx hm=>by
  obtain ⟨es,rfl,h⟩:=hx x hm;rw [dX];exact Mh h
 exact ⟨l,rfl⟩
theorem xc {v} (h:xb TP 8 36 v):∃ s:HrShop,v=s.pv:=by
 obtain ⟨cs,rfl,h⟩:=h;rw [show (b8 TP 36==some true)=true by kernel_rfl,dX];obtain ⟨a,_,rfl,ha,b,_,rfl,hb,c,_,rfl,hc,rfl⟩:=d4 (ts:=[33,34,3]) (by kernel_rfl) h;obtain ⟨x,rfl⟩:=Aq ha;obtain ⟨y,rfl⟩:=Ap hb;obtain ⟨z,rfl⟩:=jm hc;exact ⟨⟨x,y,z⟩,rfl⟩
theorem St {v} (h:xb TP 8 5 v):∃ k,v=.int .u8 k/\0<=k/\k<=255:=by
 obtain ⟨cs,rfl,h⟩:=h;rw [show (b8 TP 5==some true)=false by kernel_rfl];obtain ⟨k,rfl,h1,h2⟩:=LD (k:=.u8) (by kernel_rfl) h;exact ⟨k,rfl,h1,h2⟩
namespace Ch
theorem Rr {n} {cs} (h:db TP (n+2) 65 cs):∃ l:List Int,cs=[.slice 1 (l.map aK) false]:=by
 obtain ⟨xs,rfl,_,hx⟩:=iS (e:=3) (z:=1) (g:=false) (by kernel_rfl) h;obtain ⟨l,rfl⟩:=ik aK (xs:=xs) λx hm=>by
  obtain ⟨es,rfl,h⟩:=hx x hm;obtain ⟨m,rfl⟩:=jm h;exact ⟨m,rfl⟩
 exact ⟨l,rfl⟩
theorem Ot {n} {cs} (h:db TP (n+3) 152 cs):∃ l:List Span,cs=[.slice 2 (l.map Span.pv) false]:=by
 obtain ⟨xs,rfl,_,hx⟩:=iS (e:=30) (z:=2) (g:=true) (by kernel_rfl) h;obtain ⟨l,rfl⟩:=ik Span.pv (xs:=xs) λx hm=>by
  obtain ⟨es,rfl,h⟩:=hx x hm;rw [dX];obtain ⟨s,rfl⟩:=gS h;exact ⟨s,rfl⟩
 exact ⟨l,rfl⟩
theorem Md {n} {cs} (h:db TP (n+4) 151 cs):∃ w:WxProp,.agg cs=w.pv:=by
 obtain ⟨a,_,rfl,ha,b,_,rfl,hb,rfl⟩:=d4 (ts:=[9,3]) (by kernel_rfl) h;obtain ⟨x,rfl,_⟩:=nH (by kernel_rfl) ha;obtain ⟨y,rfl⟩:=jm hb;exact ⟨⟨x,y⟩,rfl⟩
theorem Me {n} {cs} (h:db TP (n+4) 154 cs):∃ w:WxKind,.agg cs=w.pv:=by
 obtain ⟨a,_,rfl,ha,b,_,rfl,hb,rfl⟩:=d4 (ts:=[9,152]) (by kernel_rfl) h;obtain ⟨x,rfl,_⟩:=nH (by kernel_rfl) ha;obtain ⟨y,rfl⟩:=Ot hb;exact ⟨⟨x,y⟩,rfl⟩
theorem Kb {n} {cs} (h:db TP (n+2) 176 cs):∃ s:BdPoint,.agg cs=s.pv:=by
 obtain ⟨a,_,rfl,ha,b,_,rfl,hb,rfl⟩:=d4 (ts:=[3,3]) (by kernel_rfl) h;obtain ⟨x,rfl⟩:=jm ha;obtain ⟨y,rfl⟩:=jm hb;exact ⟨⟨x,y⟩,rfl⟩
theorem Hh {n} {cs} (h:db TP (n+3) 156 cs):∃ l:List BdPoint,cs=[.slice 2 (l.map BdPoint.pv) false]:=by
 obtain ⟨xs,rfl,_,hx⟩:=iS (e:=176) (z:=2) (g:=true) (by kernel_rfl) h;obtain ⟨l,rfl⟩:=ik BdPoint.pv (xs:=xs) λx hm=>by
  obtain ⟨es,rfl,h⟩:=hx x hm;rw [dX];exact Kb h
 exact ⟨l,rfl⟩
theorem Ou {n} {cs} (h:db TP (n+4) 158 cs):∃ w:BdWax,.agg cs=w.pv:=by
 obtain ⟨a,_,rfl,ha,b,_,rfl,hb,c,_,rfl,hc,d,_,rfl,hd,e,_,rfl,he,rfl⟩:=d4 (ts:=[9,3,30,30,156]) (by kernel_rfl) h;obtain ⟨x,rfl,_⟩:=nH (by kernel_rfl) ha;obtain ⟨y,rfl⟩:=jm hb;obtain ⟨z,rfl⟩:=gS hc;obtain ⟨u,rfl⟩:=gS hd;obtain ⟨v,rfl⟩:=Hh he;exact ⟨⟨x,y,z,u,v⟩,rfl⟩
theorem Mf {n} {cs} (h:db TP (n+4) 163 cs):∃ w:Wick,.agg cs=w.pv:=by
 obtain ⟨a,_,rfl,ha,b,_,rfl,hb,c,_,rfl,hc,rfl⟩:=d4 (ts:=[9,3,30]) (by kernel_rfl) h;obtain ⟨x,rfl,_⟩:=nH (by kernel_rfl) ha;obtain ⟨y,rfl⟩:=jm hb;obtain ⟨z,rfl⟩:=gS hc;exact ⟨⟨x,y,z⟩,rfl⟩
theorem Oq {n} {cs} (h:db TP (n+4) 166 cs):∃ w:Wax,.agg cs=w.pv:=by
 obtain ⟨a,_,rfl,ha,b,_,rfl,hb,c,_,rfl,hc,d,_,rfl,hd,e,_,rfl,he,rfl⟩:=d4 (ts:=[9,30,30,30,3]) (by kernel_rfl) h;obtain ⟨x,rfl,_⟩:=nH (by kernel_rfl) ha;obtain ⟨y,rfl⟩:=gS hb;obtain ⟨z,rfl⟩:=gS hc;obtain ⟨u,rfl⟩:=gS hd;obtain ⟨v,rfl⟩:=jm he;exact ⟨⟨x,y,z,u,v⟩,rfl⟩
theorem Hg {n} {cs} (h:db TP (n+4) 75 cs):∃ w:ClColour,.agg cs=w.pv:=by
 obtain ⟨a,_,rfl,ha,b,_,rfl,hb,c,_,rfl,hc,rfl⟩:=d4 (ts:=[9,30,65]) (by kernel_rfl) h;obtain ⟨x,rfl,_⟩:=nH (by kernel_rfl) ha;obtain ⟨y,rfl⟩:=gS hb;obtain ⟨z,rfl⟩:=Rr hc;exact ⟨⟨x,y,z⟩,rfl⟩
theorem J9 {n} {cs} (h:db TP (n+5) 22 cs):∃ l:List WxProp,cs=[.slice 2 (l.map WxProp.pv) false]:=by
 obtain ⟨xs,rfl,_,hx⟩:=iS (e:=151) (z:=2) (g:=true) (by kernel_rfl) h;obtain ⟨l,rfl⟩:=ik WxProp.pv (xs:=xs) λx hm=>by
  obtain ⟨es,rfl,h⟩:=hx x hm;rw [dX];exact Md h
 exact ⟨l,rfl⟩
theorem J' {n} {cs} (h:db TP (n+5) 23 cs):∃ l:List WxKind,cs=[.slice 2 (l.map WxKind.pv) false]:=by
 obtain ⟨xs,rfl,_,hx⟩:=iS (e:=154) (z:=2) (g:=true) (by kernel_rfl) h;obtain ⟨l,rfl⟩:=ik WxKind.pv (xs:=xs) λx hm=>by
  obtain ⟨es,rfl,h⟩:=hx x hm;rw [dX];exact Me h
 exact ⟨l,rfl⟩
theorem Mj {n} {cs} (h:db TP (n+5) 26 cs):∃ l:List BdWax,cs=[.slice 7 (l.map BdWax.pv) false]:=by
 obtain ⟨xs,rfl,_,hx⟩:=iS (e:=158) (z:=7) (g:=true) (by kernel_rfl) h;obtain ⟨l,rfl⟩:=ik BdWax.pv (xs:=xs) λx hm=>by
  obtain ⟨es,rfl,h⟩:=hx x hm;rw [dX];exact Ou h
 exact ⟨l,rfl⟩
theorem Ka {n} {cs} (h:db TP (n+5) 27 cs):∃ l:List Wick,cs=[.slice 4 (l.map Wick.pv) false]:=by
 obtain ⟨xs,rfl,_,hx⟩:=iS (e:=163) (z:=4) (g:=true) (by kernel_rfl) h;obtain ⟨l,rfl⟩:=ik Wick.pv (xs:=xs) λx hm=>by
  obtain ⟨es,rfl,h⟩:=hx x hm;rw [dX];exact Mf h
 exact ⟨l,rfl⟩
theorem Mg {n} {cs} (h:db TP (n+5) 28 cs):∃ l:List Wax,cs=[.slice 8 (l.map Wax.pv) false]:=by
 obtain ⟨xs,rfl,_,hx⟩:=iS (e:=166) (z:=8) (g:=true) (by kernel_rfl) h;obtain ⟨l,rfl⟩:=ik Wax.pv (xs:=xs) λx hm=>by
  obtain ⟨es,rfl,h⟩:=hx x hm;rw [dX];exact Oq h
 exact ⟨l,rfl⟩
theorem FC {n} {cs} (h:db TP (n+5) 37 cs):∃ l:List ClColour,cs=[.slice 4 (l.map ClColour.pv) false]:=by
 obtain ⟨xs,rfl,_,hx⟩:=iS (e:=75) (z:=4) (g:=true) (by kernel_rfl) h;obtain ⟨l,rfl⟩:=ik ClColour.pv (xs:=xs) λx hm=>by
  obtain ⟨es,rfl,h⟩:=hx x hm;rw [dX];exact Hg h
 exact ⟨l,rfl⟩
theorem C5 {v} (h:xb TP 8 41 v):∃ s:ChShop,v=s.pv:=by
 obtain ⟨cs,rfl,h⟩:=h;rw [show (b8 TP 41==some true)=true by kernel_rfl,dX];obtain ⟨a,_,rfl,ha,b,_,rfl,hb,c,_,rfl,hc,d,_,rfl,hd,e,_,rfl,he,rfl⟩:=d4 (ts:=[25,26,32,36,39]) (by kernel_rfl) h;obtain ⟨a1,_,rfl,ha1,a2,_,rfl,ha2,a3,_,rfl,ha3,rfl⟩:=d4 (ts:=[22,23,3]) (by kernel_rfl) ha;obtain ⟨x1,rfl⟩:=J9 ha1;obtain ⟨x2,rfl⟩:=J' ha2;obtain ⟨x3,rfl⟩:=jm ha3;obtain ⟨y,rfl⟩:=Mj hb;obtain ⟨c1,_,rfl,hc1,c2,_,rfl,hc2,c3,_,rfl,hc3,c4,_,rfl,hc4,rfl⟩:=d4 (ts:=[27,28,30,30]) (by kernel_rfl) hc;obtain ⟨z1,rfl⟩:=Ka hc1;obtain ⟨z2,rfl⟩:=Mg hc2;obtain ⟨z3,rfl⟩:=gS hc3;obtain ⟨z4,rfl⟩:=gS hc4;obtain ⟨d1,_,rfl,hd1,d2,_,rfl,hd2,d3,_,rfl,hd3,rfl⟩:=d4 (ts:=[33,34,3]) (by kernel_rfl) hd;obtain ⟨u1,rfl⟩:=Aq hd1;obtain ⟨u2,rfl⟩:=Ap hd2;obtain ⟨u3,rfl⟩:=jm hd3;obtain ⟨e1,_,rfl,he1,e2,_,rfl,he2,e3,_,rfl,he3,rfl⟩:=d4 (ts:=[37,30,3]) (by kernel_rfl) he;obtain ⟨w1,rfl⟩:=FC he1;obtain ⟨w2,rfl⟩:=gS he2;obtain ⟨w3,rfl⟩:=jm he3;exact ⟨⟨⟨x1,x2,x3⟩,y,⟨z1,z2,z3,z4⟩,⟨u1,u2,u3⟩,⟨w1,w2,w3⟩⟩,rfl⟩
theorem Ft {v} (h:xb TP 8 42 v):∃ l,v=bt l/\l.length<9223372036854775808:=by
 obtain ⟨cs,rfl,h⟩:=h;rw [show (b8 TP 42==some true)=false by kernel_rfl];obtain ⟨xs,rfl,hlen,hx⟩:=iS (e:=9) (z:=1) (g:=false) (by kernel_rfl) h;obtain ⟨l,rfl⟩:=ik (λx:List UInt8=>PV.str (bs x)) (xs:=xs) λx hm=>by
  obtain ⟨es,rfl,h⟩:=hx x hm;obtain ⟨s,rfl,_⟩:=nH (by kernel_rfl) h;exact ⟨s.data.toList,by rw [tr];rfl⟩
 refine ⟨l,rfl,?_⟩;simp [maxLen] at hlen;omega
end Ch
end Abs
end Go.Proofs.YtfafnkpfamgbbaaGreatDoor
