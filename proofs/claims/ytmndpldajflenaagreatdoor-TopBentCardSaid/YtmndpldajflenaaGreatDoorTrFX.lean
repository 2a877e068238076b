/- CONTRACTS of the program's functions, and laws on what they return. No conditions but those in the theorems' heads. -/
import Derived.Test.YtmndpldajflenaaGreatDoorTrDX
set_option linter.all false
set_option maxHeartbeats 8000000
namespace Go.Proofs.YtmndpldajflenaaGreatDoor
namespace Abs
namespace Tr
set_option maxRecDepth 4000
theorem lJ{α:Type}{f:Nat->α->Int}{x:α}{r:List α}{i:Nat}:bc f (x::r) i=if f i x=0 then bc f r (i+1) else((i:Int),f i x):=rfl
def cZ (b:List TrBatch):Prop:=∀y,y∈b->(y.takes.length:Int)<=9223372036854775807
theorem G9{b:List TrBatch}(hl:an b.length 1 8=true)(h:(bc (bo b) b 0).2=0):BatsOk b:=by
 simp[an]at hl;exact⟨by omega,λi x hx=>By (by simpa using nV h i x hx)⟩
theorem LK{b:List TrBatch}(h:BatsOk b)(i:Nat):-10000000<=kept b i/\kept b i<=10000000:=by
 have h8:=h.len;have ht:=kA h i b.length (aJ _);unfold bT at ht;unfold kept;split
 .rename_i hi;have:=(lO h hi).grams;omega
 .omega
theorem LE{b:List TrBatch}(h:BatsOk b)(i:Nat):-10000000<=bF b i/\bF b i<=10000000:=by
 rcases aw i b.length with hi|hi
 .have h1:=(lO h hi).grams;have h2:=(lO h hi).fresh;unfold bF;split<;>omega
 .rw[kq hi];omega
def kG (b:List TrBatch) (k:Nat):Option Nat:=jG b (List.range' k (b.length-k))
theorem Ef{b:List TrBatch}{k:Nat}(hk:k<b.length):kG b k=if kept b k<0 then some k else kG b (k+1):=by
 unfold kG;rw[show b.length-k=(b.length-(k+1))+1 by omega,List.range'_succ,jG]
def xa (b:List TrBatch) (o:Option Nat):Int×Int×Int:=match o with|some i=>(4,(i:Int),7)|none=>if solves b.length (supp b)=true then(0,0,0) else(5,0,9)
theorem DN{b:List TrBatch}(h1:an b.length 1 8=true)(h2:(bc (bo b) b 0).2=0):bM b=if 3<(losts b).length then((3,0,3):Int×Int×Int) else xa b (jG b (List.range b.length)):=by
 unfold bM;rw[if_pos h1,if_pos h2];rfl
theorem EI{b:List TrBatch}(f:Bool)(h:BatsOk b):PCall Tryz.prog 28 [gN b.length (supp b) .nilslice] (.bool (solves b.length (supp b))):=
 Ky b.length (supp b) h.len (LK h) (LE h) λ_ _=>rfl
theorem cRefCheck(b:List TrBatch)(f:Bool)(hT:cZ b):PCall Tryz.prog 5 [.slice 5 (b.map TrBatch.pv) f] (cd (bM b)):=by
 refine ae (am Tryz.func5 rfl) rfl ?_;simp only[go_sem,simprocAttr];refine aa (vS _ _ _) rfl ?_;simp only[go_sem,simprocAttr];cases h1:an b.length 1 8
 .have hS:bM b=(1,0,3):=by rw[bM,h1];rfl
  simp only[cd,hS,go_sem,simprocAttr]
 have h1':=h1;simp[an]at h1';simp only[go_sem,simprocAttr];refine bt [0] b (by omega) (τ:=Unit) (λdone rest _=>bc (bo b) b 0=bc (bo b) rest done.length) (λdone _=>[(5,.p (.int .i64 done.length))]) (λ_ _=>[]) () rfl ?_ ?_ ?_
 .simp only[go_sem,simprocAttr]<;>simp
 .intro _ e2;rw[show bc (bo b) [] b.length=(0,0) from rfl]at e2;have h2:(bc (bo b) b 0).2=0:=by rw[e2]
  have hb:=G9 h1 h2;have hS:=DN h1 h2;simp only[go_sem,simprocAttr];refine aa (Nj b f (by omega)).pure rfl ?_;simp only[go_sem,simprocAttr];cases h3:decide ((3:Int)<((losts b).length:Int));rotate_left
  .have h3':3<(losts b).length:=by have:=of_decide_eq_true h3;omega
   rw[if_pos h3']at hS;simp only[cd,hS,go_sem,simprocAttr]
  have h3':¬3<(losts b).length:=by have:=of_decide_eq_false h3;omega
  rw[if_neg h3']at hS;simp only[go_sem,simprocAttr];refine aa (NJ b f hb) rfl ?_;simp only[go_sem,simprocAttr];refine aS [0,7] (σ:=Nat) (λk=>k<=b.length/\jG b (List.range b.length)=kG b k) (λk=>b.length-k) (λk=>[(8,.p (.int .i64 k))]) (λ_=>[]) 0 ⟨bE _,by rw[kG,List.range_eq_range'];rfl⟩ ?_ ?_
  .simp only[go_sem,simprocAttr]
  rintro k ⟨hk,hke⟩
  dsimp only;rcases aw k b.length with hkn|hkn
  .have c1:decide ((k:Int)<(b.length:Int))=true:=decide_eq_true (by omega);have c2:(k:Int)<(b.length:Int):=by omega
   have c3:IntKind.i64.wrap ((k:Int)+1)=((k+1:Nat):Int):=az (by omega) (by simp[ai];omega) (by omega);have g1:=dd (kept b) hkn;rw[Ef hkn]at hke;simp only[c1,c2,g1,go_sem,simprocAttr];cases d1:decide (kept b k<0)
   .rw[if_neg (by simpa using d1)]at hke;simp only[go_sem,simprocAttr];refine ak (k+1) ⟨hkn,hke⟩ (by omega) ?_;simp only[c3,go_sem,simprocAttr]
   .rw[if_pos (by simpa using d1)]at hke;rw[hke,xa]at hS;simp only[cd,hS,go_sem,simprocAttr]
  .have c1:decide ((k:Int)<(b.length:Int))=false:=decide_eq_false (by omega);have hkn':k=b.length:=by omega
   rw[hkn',kG,qk]at hke;rw[show jG b (List.range' b.length 0)=none from rfl]at hke;rw[hke,xa]at hS;simp only[c1,go_sem,simprocAttr];refine aa (vV b f hb) rfl ?_;simp only[go_sem,simprocAttr];refine aa (EI f hb) rfl ?_;simp only[go_sem,simprocAttr];cases h4:solves b.length (supp b)
   .rw[h4,if_neg (by decide)]at hS;simp only[cd,hS,go_sem,simprocAttr]
   .rw[h4,if_pos rfl]at hS;simp only[cd,hS,go_sem,simprocAttr]
 .intro done x r _ e1 e2 hx hlt hnx;rw[lJ]at e2;simp only[hlt,go_sem,simprocAttr];refine aa (GU b f done.length x hx (by omega) hT) rfl ?_;simp only[go_sem,simprocAttr];cases h2:(bo b done.length x != 0)
  .rw[if_pos (by simpa using h2)]at e2;simp only[go_sem,simprocAttr];refine aq e1 () (by rw[e2];simp) ?_;simp only[hnx,go_sem,simprocAttr]
  .have h2':¬bo b done.length x=0:=by simpa using h2
   rw[if_neg h2']at e2;have hS:bM b=(2,(done.length:Int),bo b done.length x):=by rw[bM,if_pos h1,e2,if_neg h2']
   simp only[cd,hS,go_sem,simprocAttr]
def ik (g:Nat->Nat->Int):List PV:=cI 64 λj=>g (j / 8) (j%8)
def F4 (nv:Nat->Nat->Bool):List PV:=cB 64 λj=>nv (j / 8) (j%8)
def aQ (p:Pb):List PV:=cI 8 p.has++(cI 8 p.needs++F4 p.nv)
theorem AS(g:Nat->Nat->Int):(ik g).length=64:=bm _ _
theorem C5(g:Nat->Nat->Bool):(F4 g).length=64:=iO _ _
theorem cf(p:Pb):(aQ p).length=80:=by simp[aQ,bm,C5]
attribute [go_sem] AS C5 cf
theorem jU{x t:Nat}(ht:t<8):(x*8+t) / 8=x/\(x*8+t)%8=t:=by omega
theorem q5(g:Nat->Nat->Int){x t:Nat}(hx:x<8)(ht:t<8):(ik g)[x*8+t]?=some (.int .i64 (g x t)):=by
 unfold ik;rw[dd _ (by omega),(jU ht).1,(jU ht).2]
theorem Ia(g:Nat->Nat->Int){x:Nat}(hx:x<8):List.take 8 (List.drop (x*8) ((ik g).map AV.p))=(cI 8 (g x)).map AV.p:=by
 refine iv λt=>?_;rcases aw t 8 with h|h
 .rw[List.getElem?_take_of_lt h,nn,bU,q5 g hx h,bU,dd _ h]
 .rw[fq (by simp;omega),fq (by simp[bm];omega)]
theorem qE{l:List PV}{o:Nat}{v:PV}{l':List PV}(ho:o<l.length)(h:l.set o v=l'):bV (List.take o (l.map AV.p)++[.p v]++List.drop (o+1) (l.map AV.p))=some l':=by
 have:=pK (l.map AV.p) o (.p v) (by simpa using ho);unfold cR at this;rw[aC]at this;rw[this,<-zh,h,eH]
theorem sT{n o:Nat}(f:Nat->Int)(v:Int):(cI n f).set o (.int .i64 v)=cI n λi=>if i=o then v else f i:=by
 unfold cI;rw[jk];exact lv λi _=>by dsimp only;split<;>rfl
theorem Mv{n o:Nat}(f:Nat->Bool)(v:Bool):(cB n f).set o (.bool v)=cB n λi=>if i=o then v else f i:=by
 unfold cB;rw[jk];exact lv λi _=>by dsimp only;split<;>rfl
def qr {α:Type} (g:Nat->Nat->α) (x t:Nat) (v:α):Nat->Nat->α:=λa b=>if a=x then(if b=t then v else g a b) else g a b
theorem uz(g:Nat->Nat->Int){x t:Nat}(hx:x<8)(ht:t<8)(v:Int):bV (List.take (x*8+t) ((ik g).map AV.p)++[.p (.int .i64 v)]++List.drop (x*8+t+1) ((ik g).map AV.p))=some (ik (qr g x t v)):=by
 refine qE (by rw[AS];omega) ?_;unfold ik;rw[sT];refine kw λj hj=>?_;unfold qr;by_cases h:j=x*8+t
 .subst h;rw[(jU ht).1,(jU ht).2];simp
 .rw[if_neg h];by_cases h1:j / 8=x
  .rw[if_pos h1,if_neg (by omega)]
  .rw[if_neg h1]
theorem td{α:Type}(a b:List α)(o:Nat)(v:α)(h:a.length=o)(k:Nat):(a++b).set (o+k) v=a++b.set k v:=by
 rw[yR _ _ (by omega)];congr 2;omega
theorem s9(p:Pb){x:Nat}(hx:x<8):(aQ p)[x]?=some (.int .i64 (p.has x)):=by
 unfold aQ;rw[br (by rw[bm];exact hx),dd _ hx]
theorem zO(p:Pb){x:Nat}(hx:x<8):(aQ p)[8+x]?=some (.int .i64 (p.needs x)):=by
 unfold aQ;rw[ca (by rw[bm];omega),bm,br (by rw[bm];omega),Nat.add_sub_cancel_left,dd _ hx]
theorem Lo(p:Pb){x t:Nat}(hx:x<8)(ht:t<8):(aQ p)[16+x*8+t]?=some (.bool (p.nv x t)):=by
 unfold aQ F4;rw[ca (by rw[bm];omega),bm,ca (by rw[bm];omega),bm,show 16+x*8+t-8-8=x*8+t by omega,cN _ (by omega),(jU ht).1,(jU ht).2]
theorem tK(p:Pb){x:Nat}(hx:x<8)(v:Int):bV (List.take x ((aQ p).map AV.p)++[.p (.int .i64 v)]++List.drop (x+1) ((aQ p).map AV.p))=some (aQ ⟨λi=>if i=x then v else p.has i,p.needs,p.nv⟩):=by
 refine qE (by rw[cf];omega) ?_;unfold aQ;rw[kO _ _ (by rw[bm];exact hx),sT]
theorem zN(p:Pb){x:Nat}(hx:x<8)(v:Int):bV (List.take (8+x) ((aQ p).map AV.p)++[.p (.int .i64 v)]++List.drop (8+x+1) ((aQ p).map AV.p))=some (aQ ⟨p.has,λi=>if i=x then v else p.needs i,p.nv⟩):=by
 refine qE (by rw[cf];omega) ?_;unfold aQ;rw[td _ _ 8 _ (bm _ _),kO _ _ (by rw[bm];exact hx),sT]
theorem DQ(p:Pb){x t:Nat}(hx:x<8)(ht:t<8)(v:Bool):bV (List.take (16+x*8+t) ((aQ p).map AV.p)++[.p (.bool v)]++List.drop (16+x*8+t+1) ((aQ p).map AV.p))=some (aQ ⟨p.has,p.needs,qr p.nv x t v⟩):=by
 refine qE (by rw[cf];omega) ?_;unfold aQ F4;rw[show 16+x*8+t=8+(8+(x*8+t)) by omega,td _ _ 8 _ (bm _ _),td _ _ 8 _ (bm _ _),Mv]
 congr 2
 refine g8 λj hj=>?_;show (if j=x*8+t then v else p.nv (j / 8) (j%8))=qr p.nv x t v (j / 8) (j%8);unfold qr;by_cases h:j=x*8+t
 .subst h;rw[(jU ht).1,(jU ht).2];simp
 .rw[if_neg h];by_cases h1:j / 8=x
  .rw[if_pos h1,if_neg (by omega)]
  .rw[if_neg h1]
theorem Fq(p:Pb):List.take 8 (List.drop 8 ((aQ p).map AV.p))=(cI 8 p.needs).map AV.p:=by
 unfold aQ;rw[kg,List.drop_left' (by simp[bm]),kg,i6 (by simp[bm])]
theorem fE{p q:Pb}(h1:∀i,i<8->p.has i=q.has i)(h2:∀i,i<8->p.needs i=q.needs i)(h3:∀x t,x<8->t<8->p.nv x t=q.nv x t):aQ p=aQ q:=by
 unfold aQ F4;rw[kw h1,kw h2,g8 λj hj=>h3 (j / 8) (j%8) (by omega) (by omega)]
theorem q6{g f:Nat->Nat->Int}(h:∀x t,x<8->t<8->g x t=f x t):ik g=ik f:=by
 unfold ik;exact kw λj hj=>h (j / 8) (j%8) (by omega) (by omega)
theorem Jr:ax Tryz.prog 276=some (.agg (ik λ_ _=>0)):=by kernel_rfl
theorem Jv:ax Tryz.prog 172=some (.agg (cB 8 λ_=>false)):=by kernel_rfl
attribute [go_sem high] Jr Jv
def rm (needs:Nat->Int) (nv:Nat->Nat->Bool) (σ:St):Heap:=
 [.row 80 [.p (.agg (aQ ⟨σ.has,needs,nv⟩))],.row 64 [.p (.agg (ik σ.giv))],.row 1 [.func (.func 141) [] [.ptr 0 1 0 0,.ptr 1 1 0 0,.ptr 2 1 0 0]],.row 8 [.p (.agg (cB 8 σ.seen))]]
attribute [go_sem] rm
structure StB (nv:Nat->Nat->Bool) (σ:St):Prop where
 inv:Inv nv σ
 tot:∀x,x<8->tot σ x<=1000000
theorem StB.has{nv:Nat->Nat->Bool}{σ:St}(h:StB nv σ){x:Nat}(hx:x<8):0<=σ.has x/\σ.has x<=1000000:=by
 have h1:=h.inv.has x;have h2:=h.tot x hx;have h3:=mi (n:=8) (f:=σ.giv x) λi _=>h.inv.giv x i;unfold Tr.tot at h2;omega
theorem StB.giv{nv:Nat->Nat->Bool}{σ:St}(h:StB nv σ){x t:Nat}(hx:x<8)(ht:t<8):0<=σ.giv x t/\σ.giv x t<=1000000:=by
 have h1:=h.inv.has x;have h2:=h.tot x hx;have h3:=yU (n:=8) (f:=σ.giv x) (λi _=>h.inv.giv x i) ht;have h4:=h.inv.giv x t;unfold Tr.tot at h2;omega
theorem uF{needs:Nat->Int}{nv:Nat->Nat->Bool}{σ:St}:∀o,o∈rm needs nv σ->bw 4 o:=by
 intro o ho;simp only[rm,dQ,rM,or_false]at ho;rcases ho with rfl|rfl|rfl|rfl<;>simp[bw,below,de,bS,bP]
theorem vC(a b:Int):(if b<a then b else a)=min a b:=by split<;>omega
def mostB (most:Int):Prop:=0<most/\most<=1000000
theorem Nz(needs:Nat->Int)(nv:Nat->Nat->Bool):∀(k to:Nat) (most:Int) (σ:St),to<8->jQ σ.seen 8<k->mostB most->StB nv σ ->
  aN Tryz.prog 141 [.p (.int .i64 to),.p (.int .i64 most),.ptr 3 1 0 0,.ptr 0 1 0 0,.ptr 1 1 0 0,.ptr 2 1 0 0] (rm needs nv σ)
   (λr h'=>r=.ret (.p (.int .i64 (jt nv k to most σ).1))/\h'=rm needs nv (jt nv k to most σ).2):=by
 intro k
 induction k with
 |zero=>intro to most σ _ h;omega
 |succ k ih=>
 intro to most σ hto hcnt hmost hσ;have hfk:jt nv (k+1) to most σ=kT (jt nv k) nv to most (List.range' 0 to) σ:=by rw[jt,List.range_eq_range']
 refine dS (am Tryz.func141 rfl) rfl ?_;simp only[go_sem,simprocAttr]
 refine aS [0,1,2,3,4,5,14] (σ:=Nat×St) (λq=>q.1<=to/\StB nv q.2/\jQ q.2.seen 8<k+1/\jt nv (k+1) to most σ=kT (jt nv k) nv to most (List.range' q.1 (to-q.1)) q.2) (λq=>to-q.1)
  (λq=>[(15,.p (.int .i64 q.1))]) (λq=>rm needs nv q.2) (0,σ) ⟨bE _,hσ,hcnt,hfk⟩ ?_ ?_
 .simp only[go_sem,simprocAttr]
 rintro⟨x,τ⟩ ⟨hx,hτ,hc,he⟩
 dsimp only at hx hτ hc he;dsimp only;rcases aw x to with hxt|hxt
 rotate_left
 .have hd:decide ((x:Int)<(to:Int))=false:=decide_eq_false (by omega);rw[show to-x=0 by omega]at he;rw[show kT (jt nv k) nv to most (List.range' x 0) τ=(0,τ) from rfl]at he;rw[he];simp only[hd,go_sem,simprocAttr];refine⟨_,_,rfl,rfl,?_,trivial,rfl⟩;exact λo ho=>uF (needs:=needs) (nv:=nv) (σ:=τ) o ho
 have hd:decide ((x:Int)<(to:Int))=true:=decide_eq_true (by omega);have x8:x<8:=by omega
 have x8i:(x:Int)<8:=by omega
 have x7:x<=7:=by omega
 have x79:x<=79:=by omega
 have x56:x*8<=56:=by omega
 have t8i:(to:Int)<8:=by omega
 have gs:=cN τ.seen x8;have gn:=Lo ⟨τ.has,needs,nv⟩ x8 hto;dsimp only at gn;have gh:=s9 ⟨τ.has,needs,nv⟩ x8;dsimp only at gh;have wx:IntKind.i64.wrap ((x:Int)+1)=((x+1:Nat):Int):=az (by omega) (by simp[ai];omega) (by omega);rw[show to-x=(to-(x+1))+1 by omega,List.range'_succ,kT]at he;simp only[hd,x8i,t8i,Nat.mul_one,gs,go_sem,simprocAttr];cases hs:τ.seen x
 .simp only[x8i,t8i,Nat.mul_one,gn,go_sem,simprocAttr];cases hn:nv x to
  .rw[if_neg (by rw[hs,hn];simp)]at he;have gp:=kK τ.seen true x8;have hhB:=hτ.has x8;have hgB:=hτ.giv x8 hto;obtain⟨hm0,hm1⟩:=hmost;simp only[x8i,t8i,x7,Nat.mul_one,gp,gh,vC,go_sem,simprocAttr];obtain⟨n,hnn⟩:∃n,n=min most (τ.has x):=⟨_,rfl⟩
   have hnB:n<=τ.has x/\n<=1000000:=by omega
   rw[<-hnn]at he |-;cases hpos:decide (0<n);rotate_left
   .have hpos':0<n:=by simpa using hpos
    rw[if_pos hpos']at he;have w1:IntKind.i64.wrap (τ.has x-n)=τ.has x-n:=aj (by omega) (by omega);have w2:IntKind.i64.wrap (τ.giv x to+n)=τ.giv x to+n:=aj (by omega) (by omega);have p1:=tK ⟨τ.has,needs,nv⟩ x8 (τ.has x-n);dsimp only at p1;have g1:=q5 τ.giv x8 hto;have p2:=uz τ.giv x8 hto (τ.giv x to+n);have o1:x*8+to<=63:=by omega
    have q1:aQ ⟨λi=>if i=x then τ.has x-n else τ.has i,needs,nv⟩=aQ ⟨(shift (rd (mark τ x) x n) x to n).has,needs,nv⟩:=fE (λi _=>by
     show (if i=x then τ.has x-n else τ.has i)=if i=x then τ.has i-n else τ.has i
     by_cases h:i=x
     .subst h;rfl
     .rw[if_neg h,if_neg h]) (λ_ _=>rfl) λ_ _ _ _=>rfl
    have q2:ik (qr τ.giv x to (τ.giv x to+n))=ik (shift (rd (mark τ x) x n) x to n).giv:=q6 λa b _ _=>by
     show (if a=x then(if b=to then τ.giv x to+n else τ.giv a b) else τ.giv a b)=if a=x then(if b=to then τ.giv a b+n else τ.giv a b) else τ.giv a b
     by_cases h:a=x
     .subst h;by_cases h2:b=to
      .subst h2;rfl
      .rw[if_pos rfl,if_pos rfl,if_neg h2,if_neg h2]
     .rw[if_neg h,if_neg h]
    have q3:cB 8 (λi=>if i=x then true else τ.seen i)=cB 8 (shift (rd (mark τ x) x n) x to n).seen:=rfl;rw[he];simp only[x8i,t8i,x7,x79,Nat.mul_one,gh,w1,w2,p1,g1,p2,o1,q1,q2,q3,go_sem,simprocAttr];refine⟨_,_,rfl,rfl,?_,trivial,rfl⟩;exact λo ho=>uF (needs:=needs) (nv:=nv) (σ:=shift (rd (mark τ x) x n) x to n) o ho
   have hpos':¬0<n:=by simpa using hpos
   rw[if_neg hpos']at he;have grow:=Ia τ.giv x8;have q3:cB 8 (λi=>if i=x then true else τ.seen i)=cB 8 (mark τ x).seen:=rfl;have hcm:=uE hs 8 x8;change jQ (mark τ x).seen 8+1=jQ τ.seen 8 at hcm;have hμ:StB nv (mark τ x):=⟨⟨hτ.inv.has,hτ.inv.giv,hτ.inv.can⟩,hτ.tot⟩
   obtain⟨OT,hOT⟩:∃OT,OT=kY (jt nv k) x to most (List.range 8) (mark τ x):=⟨_,rfl⟩
   rw[<-hOT]at he;rw[List.range_eq_range']at hOT;simp only[x8i,t8i,x56,Nat.mul_one,grow,q3,go_sem,simprocAttr]
   refine aS [0,1,2,3,4,5,10,14,15,63] (σ:=Nat×St) (λq=>q.1<=8/\StB nv q.2/\jQ q.2.seen 8<k/\q.2.giv=τ.giv/\OT=kY (jt nv k) x to most (List.range' q.1 (8-q.1)) q.2) (λq=>8-q.1)
    (λq=>[(64,.p (.int .i64 q.1))]) (λq=>rm needs nv q.2) (0,mark τ x) ⟨bE _,hμ,by dsimp only;omega,rfl,hOT⟩ ?_ ?_
   .simp only[go_sem,simprocAttr];exact⟨rfl,rfl⟩
   rintro⟨o,ρ⟩ ⟨ho,hρ,hcr,hgv,hOo⟩
   dsimp only at ho hρ hcr hgv hOo;dsimp only;rcases aw o 8 with ho8|ho8
   rotate_left
   .have hd2:decide ((o:Int)<8)=false:=decide_eq_false (by omega);rw[show 8-o=0 by omega]at hOo;rw[show kY (jt nv k) x to most (List.range' o 0) ρ=(0,ρ) from rfl]at hOo;rw[hOo]at he;dsimp only at he;rw[if_neg (by decide)]at he;simp only[hd2,go_sem,simprocAttr];refine ak (x+1,ρ) ⟨hxt,hρ,by dsimp only;omega,he⟩ (by dsimp only;omega) ?_;simp only[wx,go_sem,simprocAttr]
   have hd2:decide ((o:Int)<8)=true:=decide_eq_true (by omega);have o8i:(o:Int)<8:=by omega
   have go:=dd (τ.giv x) ho8;have hgoB:=hτ.giv x8 ho8;have wo:IntKind.i64.wrap ((o:Int)+1)=((o+1:Nat):Int):=az (by omega) (by simp[ai];omega) (by omega);have ho1:(8-o)=(8-(o+1))+1:=by omega
   rw[ho1,List.range'_succ,kY,hgv]at hOo;simp only[hd2,o8i,Nat.mul_one,go,go_sem,simprocAttr];cases hot:((o:Int)==(to:Int))
   rotate_left
   .have hot':o=to:=by have:=eq_of_beq hot;omega
    rw[if_pos (.inl hot')]at hOo;simp only[go_sem,simprocAttr];refine ak (o+1,ρ) ⟨ho8,hρ,hcr,hgv,hOo⟩ (by dsimp only;omega) ?_;simp only[wo,go_sem,simprocAttr]
   have hot':¬o=to:=by simp at hot;omega
   simp only[go_sem,simprocAttr];cases hz:(τ.giv x o==0)
   rotate_left
   .rw[if_pos (.inr (by simpa using hz))]at hOo;simp only[go_sem,simprocAttr];refine ak (o+1,ρ) ⟨ho8,hρ,hcr,hgv,hOo⟩ (by dsimp only;omega) ?_;simp only[wo,go_sem,simprocAttr]
   have hz':¬τ.giv x o=0:=by simpa using hz
   rw[if_neg (λh=>h.elim hot' hz')]at hOo;simp only[vC,go_sem,simprocAttr];have hmm:mostB (min most (τ.giv x o)):=⟨by omega,by omega⟩
   refine fj (ih o (min most (τ.giv x o)) ρ ho8 hcr hmm hρ) ?_;obtain⟨hgot,_⟩:=tx nv k o (min most (τ.giv x o)) ρ ho8 hcr hmm.1 hρ.inv;generalize hF:jt nv k o (min most (τ.giv x o)) ρ=F at hOo hgot |-;obtain⟨m,ρ'⟩:=F;dsimp only at hOo hgot |-;have hρ':StB nv ρ':=⟨hgot.inv,λy hy=>by rw[hgot.tot y hy];exact hρ.tot y hy⟩
   have hmB:=hgot.hi;have hm0':=hgot.lo;simp only[go_sem,simprocAttr];cases hmp:decide (0<m)
   .have hmp':¬0<m:=by simpa using hmp
    have hm00:m=0:=by omega
    rw[if_neg hmp']at hOo;have hcm2:=rg hgot.mono 8;simp only[go_sem,simprocAttr];refine ak (o+1,ρ') ⟨ho8,hρ',by dsimp only;omega,(hgot.same hm00).2.trans hgv,hOo⟩ (by dsimp only;omega) ?_;simp only[wo,go_sem,simprocAttr]
   .have hmp':0<m:=by simpa using hmp
    rw[if_pos hmp']at hOo;rw[hOo]at he;dsimp only at he;rw[if_pos hmp']at he;rw[he];have a1:=hρ'.giv x8 ho8;have a2:=hρ'.giv x8 hto;have o1:x*8+o<=63:=by omega
    have o2:x*8+to<=63:=by omega
    have g1:=q5 ρ'.giv x8 ho8;have p1:=uz ρ'.giv x8 ho8 (ρ'.giv x o-m);have q1:ik (qr ρ'.giv x o (ρ'.giv x o-m))=ik (shift ρ' x o (-m)).giv:=q6 λa b _ _=>by
     show (if a=x then(if b=o then ρ'.giv x o-m else ρ'.giv a b) else ρ'.giv a b)=if a=x then(if b=o then ρ'.giv a b+-m else ρ'.giv a b) else ρ'.giv a b
     by_cases h:a=x
     .subst h;by_cases h2:b=o
      .subst h2;rw[if_pos rfl,if_pos rfl,if_pos rfl];omega
      .rw[if_pos rfl,if_pos rfl,if_neg h2,if_neg h2]
     .rw[if_neg h,if_neg h]
    have a3:(shift ρ' x o (-m)).giv x to=ρ'.giv x to:=by
     show (if x=x then(if to=o then ρ'.giv x to+-m else ρ'.giv x to) else ρ'.giv x to)=_;rw[if_pos rfl,if_neg (λh=>hot' h.symm)]
    have g2:=q5 (shift ρ' x o (-m)).giv x8 hto;rw[a3]at g2;have p2:=uz (shift ρ' x o (-m)).giv x8 hto (ρ'.giv x to+m);have q2:ik (qr (shift ρ' x o (-m)).giv x to (ρ'.giv x to+m))=ik (shift (shift ρ' x o (-m)) x to m).giv:=q6 λa b _ _=>by
     show (if a=x then(if b=to then ρ'.giv x to+m else(shift ρ' x o (-m)).giv a b) else(shift ρ' x o (-m)).giv a b)=if a=x then(if b=to then(shift ρ' x o (-m)).giv a b+m else(shift ρ' x o (-m)).giv a b) else(shift ρ' x o (-m)).giv a b
     by_cases h:a=x
     .subst h;by_cases h2:b=to
      .subst h2;rw[if_pos rfl,if_pos rfl,if_pos rfl,if_pos rfl,a3]
      .rw[if_pos rfl,if_pos rfl,if_neg h2,if_neg h2]
     .rw[if_neg h,if_neg h]
    have w1:IntKind.i64.wrap (ρ'.giv x o-m)=ρ'.giv x o-m:=aj (by omega) (by omega);have w2:IntKind.i64.wrap (ρ'.giv x to+m)=ρ'.giv x to+m:=aj (by omega) (by omega);simp only[x8i,t8i,o8i,Nat.mul_one,o1,o2,g1,w1,p1,q1,g2,w2,p2,q2,go_sem,simprocAttr];refine⟨_,_,rfl,rfl,?_,trivial,rfl⟩;exact λo ho=>uF (needs:=needs) (nv:=nv) (σ:=shift (shift ρ' x _ (-m)) x to m) o ho
  .rw[if_pos (.inr hn)]at he;simp only[go_sem,simprocAttr];refine ak (x+1,τ) ⟨hxt,hτ,hc,he⟩ (by dsimp only;omega) ?_;simp only[wx,go_sem,simprocAttr]
 .rw[if_pos (.inl hs)]at he;simp only[go_sem,simprocAttr];refine ak (x+1,τ) ⟨hxt,hτ,hc,he⟩ (by dsimp only;omega) ?_;simp only[wx,go_sem,simprocAttr]
end Tr
end Abs
end Go.Proofs.YtmndpldajflenaaGreatDoor
