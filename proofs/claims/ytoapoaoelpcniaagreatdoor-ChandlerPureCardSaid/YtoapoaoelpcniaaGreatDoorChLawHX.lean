/- CONTRACTS of the program's functions, and laws on what they return. No conditions but those in the theorems' heads. -/
import Derived.Test.YtoapoaoelpcniaaGreatDoorChSayX
set_option linter.all false
open Go.Proofs.Tryz renaming prog->TP
namespace Go.Proofs.YtoapoaoelpcniaaGreatDoor
namespace Abs
namespace Ch
set_option maxRecDepth 4000
theorem wg(s:ChShop):af TP 9 [s.pv] (.bool ((bi s).2.2==0)):=by
 refine aa (ah Tryz.func9 rfl (by kernel_rfl)) rfl ?_;simp only[go_sem,simprocAttr];refine ae (IV s) rfl ?_;simp only[al,go_sem,simprocAttr]
def FG:List UInt8:=[110,111,32]
def fz (a:List UInt8):Bool:=decide (3<a.length)&&(a.take 3==FG)
theorem tF(a:List UInt8):af TP 13 [.str (bs a)] (.bool (fz a)):=by
 refine aa (ah Tryz.func13 rfl (by kernel_rfl)) rfl ?_;have hsz:((bs a).size:Int)=(a.length:Int):=by rw[ao]
 have c0:(⟨#[110,111,32]⟩:ByteArray)=bs FG:=rfl;by_cases h:3<a.length
 .have b1:decide ((3:Int)<(a.length:Int))=true:=decide_eq_true (by omega);have h3:(3:Int)<=(a.length:Int):=by omega
  have e3:(bs a).extract 0 3=bs (a.take 3):=by rw[cY,mE]
  simp only[hsz,b1,h3,e3,c0,cc,fz,h,decide_true,go_sem,simprocAttr]
 .have b1:decide ((3:Int)<(a.length:Int))=false:=decide_eq_false (by omega);simp only[hsz,b1,fz,h,decide_false,go_sem,simprocAttr]
theorem Kl{s:ChShop}{b b':ChBooks}{c:Cmd}{a:List UInt8}(hc:c.written=false)(h:aO s b c=.ok (b',a)):b'=b:=by
 cases c with
 |lot name kind grams rs=>cases hc
 |batch name colour lot grams=>cases hc
 |drop name=>cases hc
 |pour c=>cases hc
 |test text=>cases hc
 |box kind hours=>cases hc
 |plan c=>
  simp only[aO]at h;split at h
  .cases h
  .cases h;rfl
 |promise kind=>
  simp only[aO]at h;split at h
  .cases h
  .cases h;rfl
 |look=>
  simp only[aO]at h
  cases h;rfl
 |wick kind a1 b1 c1 d1=>
  simp only[aO]at h;split at h
  .cases h
  split at h
  .cases h
  split at h
  .cases h
  split at h
  .cases h
  cases h;rfl
 |blend a1 b1 c1=>
  simp only[aO]at h;split at h
  .cases h
  cases h;rfl
 |stock=>
  simp only[aO]at h;cases h;rfl
def Ge (a:List UInt8):Prop:=a.length<=3\/a[0]?≠some 110
theorem xe{a:List UInt8}(h:Ge a):fz a=false:=by
 unfold fz;rcases h with h|h
 .rw[decide_eq_false (by omega)];rfl
 .have:(a.take 3==FG)=false:=by
   rw[beq_eq_false_iff_ne];intro e;apply h
   cases a with
   |nil=>cases e
   |cons x a=>
    have:=congrArg (λl:List UInt8=>l[0]?) e;simpa[FG]using this
  rw[this,Bool.and_false]
theorem G7(n:Int):∀b,(be n)[0]?=some b->b≠110:=by
 intro b hb he;have:=wb n.toNat b (aG hb);rw[he]at this;exact absurd this.2 (by decide)
theorem G5(n:Int):(be n)≠[]:=l6 _
theorem Lx(x:List UInt8)(r:List (List UInt8))(h:x≠[]):(joinL (x::r))[0]?=x[0]?:=by
 cases r with
 |nil=>rfl
 |cons y r=>
  rw[joinL,z8 h]
theorem vq{x:List UInt8}{r:List (List UInt8)}(h:x≠[])(h2:∀b,x[0]?=some b->b≠110):Ge (joinL (x::r)):=by
 right;rw[Lx x r h];intro e;exact h2 110 e rfl
theorem En{s:ChShop}{b b':ChBooks}{c:Cmd}{a:List UInt8}(hc:c.written=true)(h:aO s b c=.ok (b',a)):Ge a:=by
 cases c with
 |lot name kind grams rs=>
  simp only[aO]at h;split at h
  .cases h
  split at h
  .cases h
  split at h
  .cases h
  split at h
  .cases h
  split at h
  .cases h
  cases h;refine vq ?_ ?_
  .unfold ji;split
   .decide
   .split<;>decide
  .unfold ji;intro b hb;split at hb
   .cases hb;decide
   .split at hb<;>cases hb<;>decide
 |batch name colour lot grams=>
  simp only[aO]at h;split at h
  .cases h
  split at h
  .cases h
  split at h
  .cases h
  split at h
  .cases h
  split at h
  .cases h
  split at h
  .cases h
  split at h
  .cases h
  cases h
  left;decide
 |drop name=>
  simp only[aO]at h;split at h
  .cases h
  split at h
  .cases h
  split at h
  .cases h
  cases h
  left;decide
 |pour c=>
  simp only[aO]at h;split at h
  .cases h
  .cases h;right;intro e
   exact G7 _ 110 e rfl
 |test text=>
  simp only[aO]at h;split at h
  .cases h
  split at h
  .cases h
  cases h;split
  .exact vq (G5 _) (G7 _)
  .exact vq (by decide) (λb hb=>by cases hb;decide)
 |box kind hours=>
  simp only[aO]at h;split at h
  .cases h
  split at h
  .cases h
  split at h
  .cases h
  cases h
  left;decide
 |plan c=>cases hc
 |promise kind=>cases hc
 |look=>cases hc
 |wick kind a1 b1 c1 d1=>cases hc
 |blend a1 b1 c1=>cases hc
 |stock=>cases hc
theorem vm(e:Int):fz (joinL [Az,be e])=true:=by
 have h:joinL [Az,be e]=[110,111,32]++be e:=rfl;have hp:0<(be e).length:=s7.2 (G5 e);unfold fz;rw[h];simp[FG];omega
def fx (s:ChShop) (b:ChBooks) (l:List UInt8):List UInt8:=match eX s b l with|.error e=>joinL [Az,be e]|.ok (_,a,_)=>a
def oX (s:ChShop) (b:ChBooks) (l:List UInt8):ChBooks:=match eX s b l with|.error _=>b|.ok (b',_,_)=>b'
def Pl (s:ChShop) (b:ChBooks) (l:List UInt8):List (List UInt8):=match eX s b l with|.error _=>[]|.ok (_,_,w)=>if w=true then [l] else []
theorem Sr(s:ChShop)(q:ChBooks×List (List UInt8)×List (List UInt8))(l:List UInt8):eR s q l=(oX s q.1 l,q.2.1++[fx s q.1 l],q.2.2++Pl s q.1 l):=by
 unfold eR oX fx Pl
 cases eX s q.1 l with
 |error e=>simp
 |ok x=>
  obtain⟨b,a,w⟩:=x;cases w<;>simp
theorem CI{s:ChShop}{b:ChBooks}{l:List UInt8}{e:Int}(hs:du l=.error e):eX s b l=.error e:=by simp[eX,hs]
theorem rV{s:ChShop}{b:ChBooks}{l:List UInt8}{c:Cmd}{e:Int}(hs:du l=.ok c)(ha:aO s b c=.error e):eX s b l=.error e:=by simp[eX,hs,ha]
theorem pJ{s:ChShop}{b b':ChBooks}{l a:List UInt8}{c:Cmd}(hs:du l=.ok c)(ha:aO s b c=.ok (b',a)):eX s b l=.ok (b',a,c.written):=by simp[eX,hs,ha]
def fO (s:ChShop):ChBooks->List (List UInt8)->List (List UInt8)
 |_,[]=>[]
 |b,l::r=>fx s b l::fO s (oX s b l) r
def eL (s:ChShop):ChBooks->List (List UInt8)->ChBooks
 |b,[]=>b
 |b,l::r=>eL s (oX s b l) r
def FB (s:ChShop):ChBooks->List (List UInt8)->List (List UInt8)
 |_,[]=>[]
 |b,l::r=>Pl s b l++FB s (oX s b l) r
theorem J1(s:ChShop):∀(d:List (List UInt8)) (q:ChBooks×List (List UInt8)×List (List UInt8)),d.foldl (eR s) q=(eL s q.1 d,q.2.1++fO s q.1 d,q.2.2++FB s q.1 d)
 |[],q=>by simp[eL,fO,FB]
 |l::d,q=>by
  rw[nd,J1 s d,Sr];simp[eL,fO,FB]
theorem kS(s:ChShop)(d:List (List UInt8)):bM s d=(eL s aJ d,fO s aJ d,FB s aJ d):=by
 rw[bM,J1];simp
theorem pO(s:ChShop):∀(d:List (List UInt8)) (b:ChBooks),(fO s b d).length=d.length
 |[],_=>rfl
 |l::d,b=>by rw[fO,cu,cu,pO s d]
theorem Am(s:ChShop):∀(d e:List (List UInt8)) (b:ChBooks),fO s b (d++e)=fO s b d++fO s (eL s b d) e
 |[],_,_=>rfl
 |l::d,e,b=>by rw[eu,fO,Am s d e,fO,eL];rfl
theorem Ht(s:ChShop):∀(d e:List (List UInt8)) (b:ChBooks),eL s b (d++e)=eL s (eL s b d) e
 |[],_,_=>rfl
 |l::d,e,b=>by rw[eu,eL,Ht s d e,eL]
theorem yN(s):∀(d) (b) (i) (l),d[i]?=some l->(fO s b d)[i]?=some (fx s (eL s b (d.take i)) l)
 |[],b,i,l,h=>by cases h
 |x::d,b,0,l,h=>by cases h;rfl
 |x::d,b,i+1,l,h=>by
  rw[fO,yh,List.take_succ_cons,eL];exact yN s d _ i l (by simpa using h)
def kC (l:List ChLot):Int:=(l.map (·.grams)).sum
def lu (b:ChBooks):Int:=kC b.lots+j8 b.batches+b.poured
def km:Cmd->Int
 |.lot _ _ g _=>g
 |_=>0
def eY (l a:List UInt8):Int:=match du l with|.ok c=>if fz a=true then 0 else km c|.error _=>0
def ej:List (List UInt8)->List (List UInt8)->Int
 |l::ls,a::an=>eY l a+ej ls an
 |_,_=>0
theorem xU:∀(ls an) (l a),ls.length=an.length->ej (ls++[l]) (an++[a])=ej ls an+eY l a
 |[],[],l,a,_=>by simp[ej]
 |x::ls,y::an,l,a,h=>by
  rw[eu,eu,ej,ej,xU ls an l a (by simpa using h)]
  omega
 |[],_::_,_,_,h=>by cases h
 |_::_,[],_,_,h=>by cases h
theorem FQ(l)(x):kC (l++[x])=kC l+x.grams:=by simp[kC]
theorem FR(l)(x):j8 (l++[x])=j8 l+x.grams:=by simp[j8]
theorem zF:∀(l) (i) (x y),l[i]?=some x->kC (l.set i y)=kC l-x.grams+y.grams
 |[],i,x,y,h=>by cases h
 |z::l,0,x,y,h=>by
  cases h;simp only[List.set_cons_zero,kC,bL,List.sum_cons]
  omega
 |z::l,i+1,x,y,h=>by
  have:=zF l i x y (by simpa using h);simp only[kC]at this;simp only[List.set_cons_succ,kC,bL,List.sum_cons];omega
theorem AB:∀(l) (i) (y),l[i]?=some y->j8 (l.eraseIdx i)=j8 l-y.grams
 |[],i,y,h=>by cases h
 |z::l,0,y,h=>by
  cases h;simp only[List.eraseIdx_cons_zero,j8,bL,List.sum_cons]
  omega
 |z::l,i+1,y,h=>by
  have:=AB l i y (by simpa using h);simp only[j8]at this;simp only[List.eraseIdx_cons_succ,j8,bL,List.sum_cons];omega
theorem OT{s}{b b'}{c}{a}(h:aO s b c=.ok (b',a)):lu b'=lu b+km c:=by
 cases hw:c.written with
 |false=>
  rw[Kl hw h]
  cases c<;>first|(simp[km];done)|cases hw
 |true=>
 cases c with
 |lot name kind grams rs=>
  simp only[aO]at h;split at h
  .cases h
  split at h
  .cases h
  split at h
  .cases h
  split at h
  .cases h
  split at h
  .cases h
  cases h;simp only[lu,FQ,km]
  omega
 |batch name colour lot grams=>
  simp only[aO]at h;split at h
  .cases h
  split at h
  .cases h
  split at h
  .cases h
  split at h
  .cases h
  split at h
  .cases h
  rename_i x hx;split at h
  .cases h
  split at h
  .cases h
  cases h;simp only[lu,FR,km,zF _ _ _ _ hx]
  omega
 |drop name=>
  simp only[aO]at h;split at h
  .cases h
  split at h
  .cases h
  rename_i y hy;split at h
  .cases h
  rename_i x hx;cases h;simp only[lu,AB _ _ _ hy,km,zF _ _ _ _ hx]
  omega
 |pour c=>
  simp only[aO]at h;split at h
  .cases h
  .cases h;simp only[lu,km];have:j8 []=0:=rfl
   omega
 |test text=>
  simp only[aO]at h;split at h
  .cases h
  split at h
  .cases h
  cases h
  simp[lu,km]
 |box kind hours=>
  simp only[aO]at h;split at h
  .cases h
  split at h
  .cases h
  split at h
  .cases h
  cases h
  simp[lu,km]
 |plan c=>cases hw
 |promise kind=>cases hw
 |look=>cases hw
 |wick kind a1 b1 c1 d1=>cases hw
 |blend a1 b1 c1=>cases hw
 |stock=>cases hw
theorem LP(s)(b)(l):lu (oX s b l)=lu b+eY l (fx s b l):=by
 unfold eY fx oX
 cases hs:du l with
 |error e=>rw[CI hs];simp
 |ok c=>
  cases ha:aO s b c with
  |error e=>rw[rV hs ha];simp[vm]
  |ok x=>
   obtain⟨b',a⟩:=x;rw[pJ hs ha];have:=OT ha;simp only
   cases hw:c.written with
   |true=>
    rw[xe (En hw ha),if_neg (by simp)]
    exact this
   |false=>
    have h0:km c=0:=by cases c<;>first|rfl|cases hw
    rw[this,h0];split<;>rfl
theorem Dr(s):∀(d) (b),lu (eL s b d)=lu b+ej d (fO s b d)
 |[],b=>by simp[eL,ej]
 |l::d,b=>by
  rw[eL,fO,ej,Dr s d,LP];omega
theorem FO:∀(l:List Int) (m),(∀x,x∈l->0<=x/\x<=m)->0<=l.sum/\l.sum<=l.length*m
 |[],m,_=>by simp
 |x::l,m,h=>by
  have h1:=h x (by simp);have h2:=FO l m λy hy=>h y (by simp[hy]);have h3:((l.length+1:Nat):Int)*m=(l.length:Int)*m+m:=by rw[Int.natCast_add];simp[Int.add_mul]
  rw[List.sum_cons,cu,h3];omega
theorem vd{l}{e}(h:du l=.error e):wX l=(kh,e)/\e≠0:=by
 refine⟨by rw[wX,h],?_⟩;unfold du at h;split at h
 .cases h;decide
 split at h
 .cases h
 split at h
 .cases h;decide
 .split at h
  .cases h
  .cases h;decide
theorem yk{l}{c}(h:du l=.ok c):wX l=(cZ c,0):=by rw[wX,h]
def R9:Cmd->Prop
 |.lot _ _ g _=>0<=g/\g<=10000000
 |_=>True
theorem MW{v}{ws}{c}(e:cW v ws=some c):R9 c:=by
 unfold cW at e;repeat' split at e
 all_goals first
  |(cases e;done)
  |(cases e;trivial)
  |(simp only[cg]at e;obtain⟨_,_,rfl⟩:=e;trivial)
  |(rename_i h1 _;cases e;exact(xh h1).2.imp id λh=>h.1)
theorem Jx{l n k}{g}{rs}(h:du l=.ok (.lot n k g rs)):0<=g/\g<=10000000:=by
 have key:∀c,du l=.ok c->R9 c:=by
  intro c h;unfold du at h;split at h
  .cases h
  split at h
  .cases h;trivial
  split at h
  .cases h
  .split at h
   .rename_i hc;cases h;exact MW hc
   .cases h
 exact key _ h
def Lz:Cmd->Bool
 |.lot _ _ _ _=>true
 |_=>false
theorem pm(c):(bs (cZ c).verb==⟨#[108,111,116]⟩)=Lz c:=by
 rw[show (⟨#[108,111,116]⟩:ByteArray)=bs qU from rfl,cc];cases c<;>rfl
theorem OC(l a):0<=eY l a/\eY l a<=10000000:=by
 unfold eY
 cases hs:du l with
 |error e=>simp
 |ok c=>
  simp only;split
  .omega
  .cases c with
   |lot n k g rs=>exact Jx hs
   |_=>simp[km]
theorem BP:∀ls an,0<=ej ls an/\ej ls an<=ls.length*10000000
 |[],_=>by simp[ej]
 |l::ls,[]=>by simp[ej];omega
 |l::ls,a::an=>by
  have:=OC l a;have:=BP ls an;rw[ej,cu];omega
theorem Dk{s}{b}{n}(h:BkOk s b n){d r}(e:b.lots=d++r):0<=kC d/\kC d<=40000000:=by
 have h1:=FO (d.map (·.grams)) 4100000 λx hx=>by
  obtain⟨y,hy,rfl⟩:=cH.1 hx;have:=h.grams y (by rw[e];simp[hy]);have:=h.few;omega
 have:=h.lots;rw[e,aB]at this;rw[eF]at h1;exact⟨h1.1,by show (d.map (·.grams)).sum<=_;omega⟩
theorem MP{s}{b}{n}(h:BkOk s b n){d r}(e:b.batches=d++r):0<=j8 d/\j8 d<=700000:=by
 have h1:=FO (d.map (·.grams)) 100000 λx hx=>by
  obtain⟨y,hy,rfl⟩:=cH.1 hx;have:=h.waits y (by rw[e];simp[hy]);omega
 have:=h.batches;rw[e,aB]at this;rw[eF]at h1;exact⟨h1.1,by show (d.map (·.grams)).sum<=_;omega⟩
set_option maxHeartbeats 2000000 in
theorem zV(s:ChShop)(ls):af TP 3 [s.pv,bp ls] (.bool true):=by
 refine aa (ah Tryz.func3 rfl (by kernel_rfl)) rfl ?_;simp only[go_sem,simprocAttr];refine ae (xw s ls) rfl ?_;simp only[go_sem,simprocAttr];refine ae (vQ s ls) rfl ?_;by_cases he:aY s ls=0;rotate_left
 .have hn:(aY s ls != 0)=true:=by simpa using he
  have h0:iY s ls=aJ:=by rw[iY,if_neg he]
  have e0:(aY s ls==aY s ls)=true:=by simp
  have heq:=(R2 aJ No).arglessD (args':=[aJ.pv,iu]) ⟨.refl _,Cd,trivial⟩;simp only[ChBooks.pv,ChBooks.cells,iu]at heq;simp only[hn,h0,e0,go_sem,simprocAttr];refine ae heq rfl ?_;simp only[go_sem,simprocAttr];refine ae l7 rfl ?_;simp only[go_sem,simprocAttr]
 obtain⟨h1,h2⟩:=yG he;have hs:=sa h1;have hv:((bi s).2.2==0)=true:=by simpa using h1
 have hb:iY s ls=eL s aJ ls:=by rw[iY,if_pos he,kS]
 have ha:jn s ls=fO s aJ ls:=by rw[jn,if_pos he,kS]
 have hal:=pO s ls aJ;have hok:=wZ hs h2;rw[kS]at hok;have hbl:=OD s ls;rw[hb]at hbl;have hw:=Dr s ls aJ;rw[show lu aJ=0 from rfl,Int.zero_add]at hw;simp only[he,hb,ha,go_sem,simprocAttr];refine ae (wg s) rfl ?_;have hq:((ls.length:Int) != (ls.length:Int))=false:=by simp
 dsimp only at hok hbl;generalize hA:fO s aJ ls=A at hal hw;generalize hB:eL s aJ ls=B at hok hbl hw;simp only[hv,bp,hal,hq,go_sem,simprocAttr];refine aQ [1,5,7] ls (by omega) (τ:=Unit) (λ_ _ _=>True) (λdone _=>[(9,.p (.int .i64 (ej done (A.take done.length)))),(10,.p (.int .i64 done.length))]) (λ_ _=>[.row 17 [.p s.pv],.row 6 [.p B.pv]]) () trivial ?_ ?_ ?_
 .simp only[ej,cw,List.take_zero,go_sem,simprocAttr]
 rotate_left
 .intro done x rest _ e1 _ hx hlt hnx;have hdl:=congrArg List.length e1;simp only[aB,cu]at hdl;obtain⟨a,hy⟩:∃a,A[done.length]?=some a:=⟨_,dc (by omega)⟩
  have hz:ej (done++[x]) (A.take (done++[x]).length)=ej done (A.take done.length)+eY x a:=by
   rw[aB,bn,s6,hy,<-xU done _ x a (by rw[s5];omega)];rfl
  have hz1:=BP done (A.take done.length);simp only[hlt,decide_true,hx,go_sem,simprocAttr];refine ae (Fj x) rfl ?_
  cases hsy:du x with
  |error e=>
   obtain⟨r1,r2⟩:=vd hsy;have r3:(e==0)=false:=by simpa using r2
   have b0:eY x a=0:=by rw[eY,hsy]
   rw[b0,mb]at hz;simp only[r1,r3,Said.pv,go_sem,simprocAttr];refine ak e1 () trivial ?_
   simp only[hnx,hz,go_sem,simprocAttr]
  |ok c=>
   have r1:=yk hsy
   cases hc:Lz c with
   |false=>
    have b0:eY x a=0:=by
     rw[eY,hsy];have:km c=0:=by cases c<;>first|rfl|cases hc
     simp only[this,ite_self]
    rw[b0,mb]at hz;simp only[r1,Said.pv,pm,hc,go_sem,simprocAttr];refine ak e1 () trivial ?_
    simp only[hnx,hz,go_sem,simprocAttr]
   |true=>
    obtain⟨n,k,g,rs,rfl⟩:∃n k g rs,c=.lot n k g rs:=by cases c<;>first|exact⟨_,_,_,_,rfl⟩|cases hc
    have hg:=Jx hsy;have hlt2:(done.length:Int)<(A.length:Int):=by omega
    simp only[r1,Said.pv,pm,hc,hy,hlt,hal,go_sem,simprocAttr];refine ae (tF a) rfl ?_
    cases hr:fz a with
    |true=>
     have b0:eY x a=0:=by rw[eY,hsy];simp only[hr,if_true]
     rw[b0,mb]at hz;simp only[go_sem,simprocAttr];refine ak e1 () trivial ?_
     simp only[hnx,hz,go_sem,simprocAttr]
    |false=>
     have b0:eY x a=g:=by rw[eY,hsy];simp[hr,km]
     rw[b0]at hz;have w1:IntKind.i64.wrap (ej done (A.take done.length)+g)=ej done (A.take done.length)+g:=aj (by omega) (by omega);have l0:(0:Int)<((rs.length+1:Nat):Int):=by omega
     simp only[cZ,w1,cu,l0,go_sem,simprocAttr];refine ak e1 () trivial ?_;simp only[hnx,hz,go_sem,simprocAttr]
 intro _ _;have hlt:¬((ls.length:Int)<(ls.length:Int)):=by omega
 have hAl:A.take ls.length=A:=eD (by omega);simp only[hlt,decide_false,hAl,go_sem,simprocAttr];have hp:=hok.poured;have hfew:=hok.few;refine aQ [5,9] B.lots (by have:=hok.lots;omega) (τ:=Unit) (λ_ _ _=>True) (λdone _=>[(13,.p (.int .i64 (B.poured+kC done))),(14,.p (.int .i64 done.length))]) (λ_ _=>[.row 17 [.p s.pv],.row 6 [.p B.pv]]) () trivial ?_ ?_ ?_
 .simp only[cw,show kC []=0 from rfl,mb,go_sem,simprocAttr]
 rotate_left
 .intro done x rest _ e1 _ hx hlt hnx;have hg:=hok.grams x (by rw[e1];simp);have hd:=Dk hok e1;have b1:decide (x.grams<0)=false:=decide_eq_false (by omega);have w1:IntKind.i64.wrap (B.poured+kC done+x.grams)=B.poured+kC (done++[x]):=by rw[FQ,aj (by omega) (by omega)];omega
  simp only[hlt,decide_true,hx,b1,w1,go_sem,simprocAttr];refine ak e1 () trivial ?_;simp only[hnx,go_sem,simprocAttr]
 intro _ _;have hlt2:¬((B.lots.length:Int)<(B.lots.length:Int)):=by omega
 have hL:=Dk hok (bC B.lots).symm;simp only[hlt2,decide_false,go_sem,simprocAttr];refine aQ [5,9] B.batches (by have:=hok.batches;omega) (τ:=Unit) (λ_ _ _=>True) (λdone _=>[(13,.p (.int .i64 (B.poured+kC B.lots+j8 done))),(15,.p (.int .i64 done.length))]) (λ_ _=>[.row 17 [.p s.pv],.row 6 [.p B.pv]]) () trivial ?_ ?_ ?_
 .simp only[cw,show j8 []=0 from rfl,mb,go_sem,simprocAttr]
 rotate_left
 .intro done x rest _ e1 _ hx hlt hnx;have hg:=(hok.waits x (by rw[e1];simp)).1;have hd:=MP hok e1;have b1:decide (x.grams<1)=false:=decide_eq_false (by omega);have w1:IntKind.i64.wrap (B.poured+kC B.lots+j8 done+x.grams)=B.poured+kC B.lots+j8 (done++[x]):=by rw[FR,aj (by omega) (by omega)];omega
  simp only[hlt,decide_true,hx,b1,w1,go_sem,simprocAttr];refine ak e1 () trivial ?_;simp only[hnx,go_sem,simprocAttr]
 intro _ _;have hlt3:¬((B.batches.length:Int)<(B.batches.length:Int)):=by omega
 have hend:(ej ls A==B.poured+kC B.lots+j8 B.batches)=true:=by
  rw[beq_iff_eq,<-hw,lu];omega
 simp only[hlt3,decide_false,hend,go_sem,simprocAttr];refine ae l7 rfl ?_;simp only[go_sem,simprocAttr]
end Ch
set_option maxRecDepth 100000
theorem dx(cs):kg true cs=.agg cs:=by
 cases cs with
 |nil=>rfl
 |cons a l=>cases l<;>rfl
theorem jB{n}{cs}(h:cT TP (n+1) 3 cs):∃m,cs=[.int .i64 m]:=by
 obtain⟨m,h,_⟩:=M6 (k:=.i64) (by kernel_rfl) h;exact⟨m,h⟩
theorem hJ{n}{cs}(h:cT TP (n+2) 30 cs):∃s:Span,cs=[.int .i64 s.lo,.int .i64 s.hi]:=by
 obtain⟨a,_,rfl,ha,b,_,rfl,hb,rfl⟩:=em (ts:=[3,3]) (by kernel_rfl) h;obtain⟨x,rfl⟩:=jB ha;obtain⟨y,rfl⟩:=jB hb;exact⟨⟨x,y⟩,rfl⟩
theorem NT{n}{cs}(h:cT TP (n+3) 90 cs):∃k:HrKind,.agg cs=k.pv:=by
 obtain⟨a,_,rfl,ha,b,_,rfl,hb,c,_,rfl,hc,rfl⟩:=em (ts:=[9,30,3]) (by kernel_rfl) h;obtain⟨x,rfl,_⟩:=om (by kernel_rfl) ha;obtain⟨y,rfl⟩:=hJ hb;obtain⟨z,rfl⟩:=jB hc;exact⟨⟨x,y,z⟩,rfl⟩
theorem NS{n}{cs}(h:cT TP (n+3) 219 cs):∃k:HrRule,.agg cs=k.pv:=by
 obtain⟨a,_,rfl,ha,b,_,rfl,hb,c,_,rfl,hc,rfl⟩:=em (ts:=[9,30,30]) (by kernel_rfl) h;obtain⟨x,rfl,_⟩:=om (by kernel_rfl) ha;obtain⟨y,rfl⟩:=hJ hb;obtain⟨z,rfl⟩:=hJ hc;exact⟨⟨x,y,z⟩,rfl⟩
theorem Bn{n}{cs}(h:cT TP (n+4) 33 cs):∃l:List HrKind,cs=[.slice 4 (l.map HrKind.pv) false]:=by
 obtain⟨xs,rfl,_,hx⟩:=jj (e:=90) (z:=4) (g:=true) (by kernel_rfl) h;obtain⟨l,rfl⟩:=iI HrKind.pv (xs:=xs) λx hm=>by
  obtain⟨es,rfl,h⟩:=hx x hm;rw[dx];exact NT h
 exact⟨l,rfl⟩
theorem Bm{n}{cs}(h:cT TP (n+4) 34 cs):∃l:List HrRule,cs=[.slice 5 (l.map HrRule.pv) false]:=by
 obtain⟨xs,rfl,_,hx⟩:=jj (e:=219) (z:=5) (g:=true) (by kernel_rfl) h;obtain⟨l,rfl⟩:=iI HrRule.pv (xs:=xs) λx hm=>by
  obtain⟨es,rfl,h⟩:=hx x hm;rw[dx];exact NS h
 exact⟨l,rfl⟩
theorem uh{v}(h:u5 TP 8 36 v):∃s:HrShop,v=s.pv:=by
 obtain⟨cs,rfl,h⟩:=h;rw[show (bZ TP 36==some true)=true by kernel_rfl,dx];obtain⟨a,_,rfl,ha,b,_,rfl,hb,c,_,rfl,hc,rfl⟩:=em (ts:=[33,34,3]) (by kernel_rfl) h;obtain⟨x,rfl⟩:=Bn ha;obtain⟨y,rfl⟩:=Bm hb;obtain⟨z,rfl⟩:=jB hc;exact⟨⟨x,y,z⟩,rfl⟩
namespace Ch
theorem SV{n}{cs}(h:cT TP (n+2) 57 cs):∃l:List Int,cs=[.slice 1 (l.map aI) false]:=by
 obtain⟨xs,rfl,_,hx⟩:=jj (e:=3) (z:=1) (g:=false) (by kernel_rfl) h;obtain⟨l,rfl⟩:=iI aI (xs:=xs) λx hm=>by
  obtain⟨es,rfl,h⟩:=hx x hm;obtain⟨m,rfl⟩:=jB h;exact⟨m,rfl⟩
 exact⟨l,rfl⟩
theorem Qd{n}{cs}(h:cT TP (n+3) 70 cs):∃l:List Span,cs=[.slice 2 (l.map Span.pv) false]:=by
 obtain⟨xs,rfl,_,hx⟩:=jj (e:=30) (z:=2) (g:=true) (by kernel_rfl) h;obtain⟨l,rfl⟩:=iI Span.pv (xs:=xs) λx hm=>by
  obtain⟨es,rfl,h⟩:=hx x hm;rw[dx];obtain⟨s,rfl⟩:=hJ h;exact⟨s,rfl⟩
 exact⟨l,rfl⟩
theorem NO{n}{cs}(h:cT TP (n+4) 128 cs):∃w:WxProp,.agg cs=w.pv:=by
 obtain⟨a,_,rfl,ha,b,_,rfl,hb,rfl⟩:=em (ts:=[9,3]) (by kernel_rfl) h;obtain⟨x,rfl,_⟩:=om (by kernel_rfl) ha;obtain⟨y,rfl⟩:=jB hb;exact⟨⟨x,y⟩,rfl⟩
theorem NP{n}{cs}(h:cT TP (n+4) 72 cs):∃w:WxKind,.agg cs=w.pv:=by
 obtain⟨a,_,rfl,ha,b,_,rfl,hb,rfl⟩:=em (ts:=[9,70]) (by kernel_rfl) h;obtain⟨x,rfl,_⟩:=om (by kernel_rfl) ha;obtain⟨y,rfl⟩:=Qd hb;exact⟨⟨x,y⟩,rfl⟩
theorem LE{n}{cs}(h:cT TP (n+2) 224 cs):∃s:BdPoint,.agg cs=s.pv:=by
 obtain⟨a,_,rfl,ha,b,_,rfl,hb,rfl⟩:=em (ts:=[3,3]) (by kernel_rfl) h;obtain⟨x,rfl⟩:=jB ha;obtain⟨y,rfl⟩:=jB hb;exact⟨⟨x,y⟩,rfl⟩
theorem ID{n}{cs}(h:cT TP (n+3) 206 cs):∃l:List BdPoint,cs=[.slice 2 (l.map BdPoint.pv) false]:=by
 obtain⟨xs,rfl,_,hx⟩:=jj (e:=224) (z:=2) (g:=true) (by kernel_rfl) h;obtain⟨l,rfl⟩:=iI BdPoint.pv (xs:=xs) λx hm=>by
  obtain⟨es,rfl,h⟩:=hx x hm;rw[dx];exact LE h
 exact⟨l,rfl⟩
theorem Qe{n}{cs}(h:cT TP (n+4) 208 cs):∃w:BdWax,.agg cs=w.pv:=by
 obtain⟨a,_,rfl,ha,b,_,rfl,hb,c,_,rfl,hc,d,_,rfl,hd,e,_,rfl,he,rfl⟩:=em (ts:=[9,3,30,30,206]) (by kernel_rfl) h;obtain⟨x,rfl,_⟩:=om (by kernel_rfl) ha;obtain⟨y,rfl⟩:=jB hb;obtain⟨z,rfl⟩:=hJ hc;obtain⟨u,rfl⟩:=hJ hd;obtain⟨v,rfl⟩:=ID he;exact⟨⟨x,y,z,u,v⟩,rfl⟩
theorem NQ{n}{cs}(h:cT TP (n+4) 213 cs):∃w:Wick,.agg cs=w.pv:=by
 obtain⟨a,_,rfl,ha,b,_,rfl,hb,c,_,rfl,hc,rfl⟩:=em (ts:=[9,3,30]) (by kernel_rfl) h;obtain⟨x,rfl,_⟩:=om (by kernel_rfl) ha;obtain⟨y,rfl⟩:=jB hb;obtain⟨z,rfl⟩:=hJ hc;exact⟨⟨x,y,z⟩,rfl⟩
theorem Qc{n}{cs}(h:cT TP (n+4) 216 cs):∃w:Wax,.agg cs=w.pv:=by
 obtain⟨a,_,rfl,ha,b,_,rfl,hb,c,_,rfl,hc,d,_,rfl,hd,e,_,rfl,he,rfl⟩:=em (ts:=[9,30,30,30,3]) (by kernel_rfl) h;obtain⟨x,rfl,_⟩:=om (by kernel_rfl) ha;obtain⟨y,rfl⟩:=hJ hb;obtain⟨z,rfl⟩:=hJ hc;obtain⟨u,rfl⟩:=hJ hd;obtain⟨v,rfl⟩:=jB he;exact⟨⟨x,y,z,u,v⟩,rfl⟩
theorem IC{n}{cs}(h:cT TP (n+4) 77 cs):∃w:ClColour,.agg cs=w.pv:=by
 obtain⟨a,_,rfl,ha,b,_,rfl,hb,c,_,rfl,hc,rfl⟩:=em (ts:=[9,30,57]) (by kernel_rfl) h;obtain⟨x,rfl,_⟩:=om (by kernel_rfl) ha;obtain⟨y,rfl⟩:=hJ hb;obtain⟨z,rfl⟩:=SV hc;exact⟨⟨x,y,z⟩,rfl⟩
theorem LB{n}{cs}(h:cT TP (n+5) 22 cs):∃l:List WxProp,cs=[.slice 2 (l.map WxProp.pv) false]:=by
 obtain⟨xs,rfl,_,hx⟩:=jj (e:=128) (z:=2) (g:=true) (by kernel_rfl) h;obtain⟨l,rfl⟩:=iI WxProp.pv (xs:=xs) λx hm=>by
  obtain⟨es,rfl,h⟩:=hx x hm;rw[dx];exact NO h
 exact⟨l,rfl⟩
theorem LC{n}{cs}(h:cT TP (n+5) 23 cs):∃l:List WxKind,cs=[.slice 2 (l.map WxKind.pv) false]:=by
 obtain⟨xs,rfl,_,hx⟩:=jj (e:=72) (z:=2) (g:=true) (by kernel_rfl) h;obtain⟨l,rfl⟩:=iI WxKind.pv (xs:=xs) λx hm=>by
  obtain⟨es,rfl,h⟩:=hx x hm;rw[dx];exact NP h
 exact⟨l,rfl⟩
theorem NU{n}{cs}(h:cT TP (n+5) 26 cs):∃l:List BdWax,cs=[.slice 7 (l.map BdWax.pv) false]:=by
 obtain⟨xs,rfl,_,hx⟩:=jj (e:=208) (z:=7) (g:=true) (by kernel_rfl) h;obtain⟨l,rfl⟩:=iI BdWax.pv (xs:=xs) λx hm=>by
  obtain⟨es,rfl,h⟩:=hx x hm;rw[dx];exact Qe h
 exact⟨l,rfl⟩
theorem LD{n}{cs}(h:cT TP (n+5) 27 cs):∃l:List Wick,cs=[.slice 4 (l.map Wick.pv) false]:=by
 obtain⟨xs,rfl,_,hx⟩:=jj (e:=213) (z:=4) (g:=true) (by kernel_rfl) h;obtain⟨l,rfl⟩:=iI Wick.pv (xs:=xs) λx hm=>by
  obtain⟨es,rfl,h⟩:=hx x hm;rw[dx];exact NQ h
 exact⟨l,rfl⟩
theorem NR{n}{cs}(h:cT TP (n+5) 28 cs):∃l:List Wax,cs=[.slice 8 (l.map Wax.pv) false]:=by
 obtain⟨xs,rfl,_,hx⟩:=jj (e:=216) (z:=8) (g:=true) (by kernel_rfl) h;obtain⟨l,rfl⟩:=iI Wax.pv (xs:=xs) λx hm=>by
  obtain⟨es,rfl,h⟩:=hx x hm;rw[dx];exact Qc h
 exact⟨l,rfl⟩
theorem GN{n}{cs}(h:cT TP (n+5) 37 cs):∃l:List ClColour,cs=[.slice 4 (l.map ClColour.pv) false]:=by
 obtain⟨xs,rfl,_,hx⟩:=jj (e:=77) (z:=4) (g:=true) (by kernel_rfl) h;obtain⟨l,rfl⟩:=iI ClColour.pv (xs:=xs) λx hm=>by
  obtain⟨es,rfl,h⟩:=hx x hm;rw[dx];exact IC h
 exact⟨l,rfl⟩
theorem tE{v}(h:u5 TP 8 41 v):∃s:ChShop,v=s.pv:=by
 obtain⟨cs,rfl,h⟩:=h;rw[show (bZ TP 41==some true)=true by kernel_rfl,dx];obtain⟨a,_,rfl,ha,b,_,rfl,hb,c,_,rfl,hc,d,_,rfl,hd,e,_,rfl,he,rfl⟩:=em (ts:=[25,26,32,36,39]) (by kernel_rfl) h;obtain⟨a1,_,rfl,ha1,a2,_,rfl,ha2,a3,_,rfl,ha3,rfl⟩:=em (ts:=[22,23,3]) (by kernel_rfl) ha;obtain⟨x1,rfl⟩:=LB ha1;obtain⟨x2,rfl⟩:=LC ha2;obtain⟨x3,rfl⟩:=jB ha3;obtain⟨y,rfl⟩:=NU hb;obtain⟨c1,_,rfl,hc1,c2,_,rfl,hc2,c3,_,rfl,hc3,c4,_,rfl,hc4,rfl⟩:=em (ts:=[27,28,30,30]) (by kernel_rfl) hc;obtain⟨z1,rfl⟩:=LD hc1;obtain⟨z2,rfl⟩:=NR hc2;obtain⟨z3,rfl⟩:=hJ hc3;obtain⟨z4,rfl⟩:=hJ hc4;obtain⟨d1,_,rfl,hd1,d2,_,rfl,hd2,d3,_,rfl,hd3,rfl⟩:=em (ts:=[33,34,3]) (by kernel_rfl) hd;obtain⟨u1,rfl⟩:=Bn hd1;obtain⟨u2,rfl⟩:=Bm hd2;obtain⟨u3,rfl⟩:=jB hd3;obtain⟨e1,_,rfl,he1,e2,_,rfl,he2,e3,_,rfl,he3,rfl⟩:=em (ts:=[37,30,3]) (by kernel_rfl) he;obtain⟨w1,rfl⟩:=GN he1;obtain⟨w2,rfl⟩:=hJ he2;obtain⟨w3,rfl⟩:=jB he3;exact⟨⟨⟨x1,x2,x3⟩,y,⟨z1,z2,z3,z4⟩,⟨u1,u2,u3⟩,⟨w1,w2,w3⟩⟩,rfl⟩
theorem vN{v}(h:u5 TP 8 42 v):∃l,v=bp l/\l.length<9223372036854775808:=by
 obtain⟨cs,rfl,h⟩:=h;rw[show (bZ TP 42==some true)=false by kernel_rfl];obtain⟨xs,rfl,hlen,hx⟩:=jj (e:=9) (z:=1) (g:=false) (by kernel_rfl) h;obtain⟨l,rfl⟩:=iI (λx:List UInt8=>PV.str (bs x)) (xs:=xs) λx hm=>by
  obtain⟨es,rfl,h⟩:=hx x hm;obtain⟨s,rfl,_⟩:=om (by kernel_rfl) h;exact⟨s.data.toList,by rw[xT];rfl⟩
 refine⟨l,rfl,?_⟩;simp[maxLen]at hlen;omega
theorem Es{t}(h:Wx.TableOk t){i j:Nat}{a b}(hi:t.kinds[i]?=some a)(hj:t.kinds[j]?=some b)(hn:a.name=b.name):i=j:=by
 have key:∀(i j:Nat) (a b:WxKind),t.kinds[i]?=some a->t.kinds[j]?=some b->a.name=b.name->i<j->False:=by
  intro i j a b hi hj hn hij;have hjl:=(aF.1 hj).1;have e:t.kinds=t.kinds.take j++b::t.kinds.drop (j+1):=by
   have h1:=nX hjl;rw[(aF.1 hj).2]at h1;rw[<-h1,lr]
  have:=Abs.eP h.names _ b _ e;unfold Wx.kindErr at this;split at this
  .rename_i h0;refine(vB h0).2 a.name ?_ hn;rw[ky,cH];refine⟨a,aG (i:=i) ?_,rfl⟩;rw[pg,if_pos hij];exact hi
  .contradiction
 rcases rk i j with h1|h1|h1
 .exact(key i j a b hi hj hn h1).elim
 .exact h1
 .exact(key j i b a hj hi hn.symm h1).elim
def kQ:List UInt8:=[112,117,114,101,32]
def p4 (a:List UInt8):Bool:=decide (5<=a.length)&&(a.take 5==kQ)
theorem Nb{v}{x y}(h:p4 (joinL [ji v,x,y])=true):v=1:=by
 unfold p4 at h;rw[cG]at h;have h2:=h.2;unfold ji at h2;split at h2
 .assumption
 .exfalso;have h3:=eq_of_beq h2;have h4:=congrArg (λl:List UInt8=>l[0]? ) h3;split at h4
  .have h5:=congrArg (λl:List UInt8=>l[1]? ) h3;rw[if_pos (by assumption)]at h5;revert h5;simp[joinL,r8,kQ]
  .revert h4;simp[joinL,ug,kQ]
theorem SA(e):p4 (joinL [Az,be e])=false:=by
 unfold p4;have:((joinL [Az,be e]).take 5==kQ)=false:=by
  rw[beq_eq_false_iff_ne];intro h;have:=congrArg (λl:List UInt8=>l[0]?) h;revert this;simp[joinL,Az,kQ]
 rw[this,Bool.and_false]
def pG (kind:Int) (p q:Nat) (n:Int):Int:=if(p:Int)=kind then n else if(q:Int)=kind then 1000-n else 0
theorem Lc{s}{b}{l name kd}{grams}{rs}(hs:du l=.ok (.lot name kd grams rs))(hp:p4 (fx s b l)=true) :
  Wx.cE s.wax rs=0/\∃(k:Nat) (x:WxKind),s.wax.kinds[k]?=some x/\x.name=bs kd /\
   ∀(p q) (n),p<s.wax.kinds.length->q<s.wax.kinds.length->1<=n->n<=1000->(p=q->n=1000)->Wx.k9 s.wax rs p q n=true->s.wax.purity<=pG k p q n:=by
 unfold fx at hp
 cases ha:aO s b (.lot name kd grams rs) with
 |error e=>
  rw[rV hs ha]at hp;dsimp only at hp;rw[SA]at hp
  cases hp
 |ok z=>
  obtain⟨b',a⟩:=z;rw[pJ hs ha]at hp;dsimp only at hp;simp only[aO]at ha;split at ha
  .cases ha
  split at ha
  .cases ha
  rename_i hk0;split at ha
  .cases ha
  split at ha
  .cases ha
  rename_i hw;split at ha
  .cases ha
  have hw':=Classical.byContradiction hw;cases ha;have hv:=Nb hp;rcases lW (λx:WxKind=>x.name==bs kd) s.wax.kinds 0 with h|⟨k,x,e1,e2,e3⟩
  .exact absurd h hk0
  rw[iq]at e1;rw[e1]at hv hw';unfold Wx.bD at hv hw';by_cases hse:Wx.cE s.wax rs=0;rotate_left
  .rw[if_neg hse]at hw';exact absurd hw' hse
  rw[if_pos hse]at hv hw';by_cases hg:ar (k:Int) 0 ((s.wax.kinds.length:Int)-1)=true;rotate_left
  .rw[if_neg hg]at hw';cases hw'
  rw[if_pos hg,g7]at hv hw';obtain⟨ht,hl,hro⟩:=Wx.tk hse;have hkl:=(aF.1 e2).1;refine⟨hse,k,x,e2,(gv _ _).1 e3,λp q n hp0 hq0 h1 h2 hpq hex=>?_⟩;have hR:=Wx.yX (Wx.k9 s.wax rs) k (sp:=Wx.Jw s.wax rs) (Wx.FV s.wax rs) s.wax.kinds.length;have he:=Wx.Ss s.wax rs k ht hkl;have hb:=(hR.1 (Wx.pH k (p,q) n) ⟨(p,q),n,(Wx.vE _ _).2 ⟨hp0,hq0⟩,⟨h1,h2⟩,hex,rfl⟩).1;have he':Wx.RI k (Wx.Jw s.wax rs) s.wax.kinds.length=Wx.AJ s.wax rs k:=he;rw[he']at hb;have hpl:s.wax.purity<=(Wx.AJ s.wax rs k).lo:=by
   unfold Wx.mi at hv hw';split at hv
   .cases hv
   .split at hv
    .assumption
    .split at hv<;>cases hv
  refine s8 hpl (s8 hb ?_);unfold Wx.pH pG Wx.nH;by_cases hkp:k=p
  .subst hkp;rw[if_pos rfl];split
   .rename_i h;have:=hpq h.2;omega
   .simp
  .rw[if_neg (λe=>hkp e.1),if_neg hkp,if_neg (show ¬(p:Int)=(k:Int) by omega)];by_cases hkq:k=q
   .subst hkq;simp
   .rw[if_neg hkq,if_neg (show ¬(q:Int)=(k:Int) by omega)];exact ir _
end Ch
end Abs
end Go.Proofs.YtoapoaoelpcniaaGreatDoor
