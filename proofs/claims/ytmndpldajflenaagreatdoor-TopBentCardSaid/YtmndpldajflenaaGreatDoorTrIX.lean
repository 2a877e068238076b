/- CONTRACTS of the program's functions, and laws on what they return. No conditions but those in the theorems' heads. -/
import Derived.Test.YtmndpldajflenaaGreatDoorTrFX
import Derived.Lib.AppendZerosOnto
import Derived.Lib.Walk
import Derived.Lib.SliceRun
import Derived.Shelf.Abstract
set_option linter.all false
set_option maxHeartbeats 8000000
open Go.Proofs.Tryz renaming prog->TP
open Go.Proofs.Tryz
namespace Go.Proofs.YtmndpldajflenaaGreatDoor
namespace Abs
namespace Tr
set_option maxRecDepth 4000
def EX (needs:Nat->Int) (nv:Nat->Nat->Bool) (σ:St):Heap:=
 [.row 80 [.p (.agg (aQ ⟨σ.has,needs,nv⟩))],.row 64 [.p (.agg (ik σ.giv))],.row 1 [.func (.func 141) [] [.ptr 0 1 0 0,.ptr 1 1 0 0,.ptr 2 1 0 0]]]
attribute [go_sem] EX
structure PbOk (p:Pb):Prop where
 has:∀x,0<=p.has x/\p.has x<=1000000
 needs:∀t,0<=p.needs t/\p.needs t<=1000000
theorem xb{nv:Nat->Nat->Bool}{σ:St}(h:StB nv σ):StB nv (fresh σ):=⟨⟨h.inv.has,h.inv.giv,h.inv.can⟩,h.tot⟩
theorem JF{p:Pb}(h:PbOk p):StB p.nv ⟨p.has,λ_ _=>0,λ_=>false⟩:=
 ⟨⟨λx=>(h.has x).1,λ_ _=>dF _,λ_ _ h=>absurd h (Int.lt_irrefl _)⟩,λx _=>by
  unfold tot;dsimp only;rw[sm_zero λ_ _=>rfl]
  have:=(h.has x).2;omega⟩
theorem GP(p:Pb)(h:PbOk p):PCall TP 99 [.agg (aQ p)] (.int .i64 (short p.nv p.has p.needs)):=by
 have zs:=Fq p;refine ae (am func99 rfl) rfl ?_;simp only[zs,eH,go_sem,simprocAttr]
 refine aS [4,10] (σ:=Nat×Int×St) (λq=>q.1<=8/\0<=q.2.1/\q.2.1<=1000000*q.1/\StB p.nv q.2.2/\short p.nv p.has p.needs=q.2.1+(nD p.nv p.needs (List.range' q.1 (8-q.1)) q.2.2).1) (λq=>8-q.1)
  (λq=>[(2,.p (.int .i64 q.2.1)),(11,.p (.int .i64 q.1))]) (λq=>EX p.needs p.nv q.2.2) (0,0,⟨p.has,λ_ _=>0,λ_=>false⟩) ⟨bE _,dF _,dF _,JF h,by rw[short,List.range_eq_range'];exact(Int.zero_add _).symm⟩ ?_ ?_
 .simp only[go_sem,simprocAttr]
 rintro⟨t,g,ρ⟩ ⟨ht,g0,g1,hρ,hS⟩
 dsimp only at ht g0 g1 hρ hS;dsimp only;rcases aw t 8 with ht8|ht8
 rotate_left
 .have hd:decide ((t:Int)<8)=false:=decide_eq_false (by omega);rw[show 8-t=0 by omega]at hS;rw[show (nD p.nv p.needs (List.range' t 0) ρ).1=0 from rfl,mH]at hS;simp only[hd,hS,go_sem,simprocAttr]
 have hd:decide ((t:Int)<8)=true:=decide_eq_true (by omega);have t8i:(t:Int)<8:=by omega
 have gn:=dd p.needs ht8;have wt:IntKind.i64.wrap ((t:Int)+1)=((t+1:Nat):Int):=az (by omega) (by simp[ai];omega) (by omega);have hnB:=h.needs t;rw[show 8-t=(8-(t+1))+1 by omega,List.range'_succ,nD]at hS;dsimp only at hS;obtain⟨F,hF⟩:∃F,F=fill p.nv (p.needs t).toNat t (p.needs t) ρ:=⟨_,rfl⟩
 rw[<-hF]at hS;simp only[hd,t8i,gn,Nat.mul_one,go_sem,simprocAttr]
 refine aS [4,5,10,11] (σ:=Nat×Int×St) (λq=>q.2.1.toNat<=q.1/\0<=q.2.1/\q.2.1<=p.needs t/\StB p.nv q.2.2/\F=fill p.nv q.1 t q.2.1 q.2.2) (λq=>q.2.1.toNat)
  (λq=>[(2,.p (.int .i64 g)),(6,.p (.int .i64 q.2.1))]) (λq=>EX p.needs p.nv q.2.2) ((p.needs t).toNat,p.needs t,ρ) ⟨aJ _,hnB.1,dF _,hρ,hF⟩ ?_ ?_
 .simp only[go_sem,simprocAttr]
 rintro⟨k,need,τ⟩ ⟨hk,n0,n1,hτ,hFk⟩
 dsimp only at hk n0 n1 hτ hFk;dsimp only;cases hp:decide (0<need)
 .have hp':need=0:=by have:=of_decide_eq_false hp;omega
  have hf0:F=(0,τ):=by
   rw[hFk,hp']
   cases k with
   |zero=>rfl
   |succ k=>rw[fill,if_pos (by omega)]
  rw[hf0]at hS;dsimp only at hS;simp only[hp,go_sem,simprocAttr];refine ak (t+1,g,τ) ⟨ht8,g0,by dsimp only;omega,hτ,by dsimp only;rw[hS];omega⟩ (by dsimp only;omega) ?_;simp only[wt,go_sem,simprocAttr]
 have hp':0<need:=of_decide_eq_true hp;obtain⟨k,rfl⟩:∃j,k=j+1:=⟨k-1,by omega⟩
 have hfs:(cB 8 λ_=>false)=cB 8 (fresh τ).seen:=rfl;have hmb:mostB need:=⟨hp',by omega⟩
 obtain⟨hgot,_⟩:=tx p.nv 9 t need (fresh τ) ht8 (sO τ) hp' (xb hτ).inv;have hcall:=Nz p.needs p.nv 9 t need (fresh τ) ht8 (sO τ) hmb (xb hτ);rw[fill,if_neg (by omega)]at hFk;generalize hQ:jt p.nv 9 t need (fresh τ)=Q at hFk hgot hcall;obtain⟨n,τ'⟩:=Q;dsimp only at hFk hgot hcall;have hτ':StB p.nv τ':=⟨hgot.inv,λy hy=>by rw[hgot.tot y hy];exact(xb hτ).tot y hy⟩
 have l0:=hgot.lo;have l1:=hgot.hi;have w1:IntKind.i64.wrap (g+need)=g+need:=aj (by omega) (by omega);have w2:IntKind.i64.wrap (need-n)=need-n:=aj (by omega) (by omega);simp only[hp,go_sem,simprocAttr];refine fj hcall ?_;simp only[go_sem,simprocAttr];cases hz:(n==0)
 .have hz':¬n=0:=by simpa using hz
  rw[if_neg hz']at hFk;simp only[w2,go_sem,simprocAttr];refine ak (k,need-n,τ') ⟨by dsimp only;omega,by dsimp only;omega,by dsimp only;omega,hτ',hFk⟩ (by dsimp only;omega) ?_;simp only[go_sem,simprocAttr]
 .have hz':n=0:=by simpa using hz
  rw[if_pos hz']at hFk;rw[hFk]at hS;dsimp only at hS;simp only[w1,go_sem,simprocAttr];refine ak (t+1,g+need,τ') ⟨ht8,by dsimp only;omega,by dsimp only;omega,hτ',by dsimp only;rw[hS];omega⟩ (by dsimp only;omega) ?_;simp only[wt,go_sem,simprocAttr]
end Tr
open Go.RowKit Go.Lib
set_option maxRecDepth 100000
theorem H7:∃i,TP.info? 3=some i/\i.size=1/\i.bytes=8/\∃z,i.zero=some z:=by
 have h1:bj TP 3=some 1:=by kernel_rfl
 have h2:iP TP 3=some 8:=by kernel_rfl
 have h3:fJ TP 3 1=true:=by kernel_rfl
 unfold bj at h1;unfold iP at h2;unfold fJ at h3
 cases hq:TP.info? 3 with
 |none=>rw[hq]at h1;cases h1
 |some i=>
  rw[hq]at h1 h2 h3;refine⟨i,rfl,fW h1,fW h2,?_⟩
  cases hz:i.zero with
  |none=>simp[hz]at h3
  |some z=>exact⟨z,rfl⟩
theorem Gx{n:Nat}:Builtin.nextslicecap (0+n) 0<=n:=by
 unfold Builtin.nextslicecap;split
 .omega
 .split<;>omega
theorem L3(l c n:Nat)(w:World)(hc0:c=0)(hl0:l=0)(h0:1<=n)(hn:n<=1000000000) :
  Calls TP 116 #[.slice none l c,.int .i64 n] w λe w'=>∃cs:Array Value,n<=cs.size/\e=.returned (.slice (some ⟨w.heap.size,0,none⟩) 0 cs.size)/\w'=w.drew.alloc (.cells cs 3):=by
 obtain⟨i,hi,hs,hb,z,hz⟩:=H7;have zs:z.cells.size=1:=by
  have h3:fJ TP 3 1=true:=by kernel_rfl
  unfold fJ at h3;rw[hi]at h3;simp[hz]at h3;exact h3
 have hg:∀ty,(Builtin.append_ #[35,3] ty #[.slice none c c,.int .i64 ((n:Int)-((c:Int)-(l:Int)))]).run TP w=.ok (.slice (some ⟨w.heap.size,0,none⟩) (l+n) (grownCap w (l+n) c 3)) (w.drew.alloc (.cells (([]:List Value).toArray++Builtin.zeroCells z.cells n++Builtin.zeroCells z.cells (grownCap w (l+n) c 3-(l+n))) 3)):=λty=>by
  subst hc0;subst hl0;rw[show (n:Int)-(((0:Nat):Int)-((0:Nat):Int))=(n:Int) by omega];exact Lib.run_append_grow_zeros (P:=TP) w 35 3 ty 3 i z .i64 .i64 underlying35 underlying3 hi hz none 0 0 [] (by simp[Builtin.firstCells]) n (by omega) (by omega) (by omega) (by omega) (by rw[hb];omega) (by rw[hb];have:=Gx (n:=n);omega)
 have hG:=grownCap_ge w (l+n) c 3;have hG63:=grownCap_le_maxLen w (l+n) c 3 (by unfold maxLen;omega);unfold maxLen at hG63;obtain⟨G,hGG⟩:∃G,G=grownCap w (l+n) c 3:=⟨_,rfl⟩
 rw[<-hGG]at hg hG hG63;have hsz:(([]:List Value).toArray++Builtin.zeroCells z.cells n++Builtin.zeroCells z.cells (G-(l+n))).size=G:=by
  simp[Builtin.zeroCells,zs];omega
 obtain⟨C,hC⟩:∃C,C=([]:List Value).toArray++Builtin.zeroCells z.cells n++Builtin.zeroCells z.cells (G-(l+n)):=⟨_,rfl⟩
 rw[<-hC]at hg hsz;clear hC hGG;have h1:¬((n:Int)<0):=by omega
 have h2:wrap64 ((c:Int)-(l:Int))=(c:Int)-(l:Int):=by unfold wrap64;omega
 have h3:wrap64 ((n:Int)-((c:Int)-(l:Int)))=(n:Int)-((c:Int)-(l:Int)):=by unfold wrap64;omega
 have h4:(n:Int)-((c:Int)-(l:Int)) > 0:=by omega
 have hGn:l+n<=G:=hG;have hG63':G<=9223372036854775807:=by omega
 go_enter func116,ntmps116
 subst hc0;subst hl0
 go_wp2_with (at_builtin;refine Lib.wpList_append_run _ rfl _ _ _ _ rfl _ _ rfl rfl _ _ (hg _) ?_)
 all_goals (go_ret;subst hsz;exact⟨C,by omega,rfl,rfl⟩)
theorem uy{h:Heap}{n:Nat}(h0:1<=n)(hn:n<=1000000000) :
  aN TP 116 [.p .nilslice,.p (.int .i64 n)] h (λr h'=>r=.ret (.slice h.length 0 0 0)/\h'=h++[.row 1 []]):=by
 intro M0 m w cargs hS ha;have hnn:=ha.1;have ha0:=ha.2 0 _ rfl;have ha1:=ha.2 1 _ rfl
 obtain⟨c0,c1,rfl⟩:∃c0 c1,cargs=#[c0,c1]:=⟨cargs.getD 0 undef,cargs.getD 1 undef,by
  apply oz
  .simpa using hnn
  .intro i h1 h2;have:i=0\/i=1:=by simp at h2;omega
   rcases this with rfl|rfl<;>simp[h1]⟩
 have ha0':RepP (Avoid M0 m) w c0 .nilslice:=ha0;have ha1':RepP (Avoid M0 m) w c1 (.int .i64 n):=ha1;cases ha1';cases ha0';refine⟨λw'=>Go.Proofs.enters_of func116 (by kernel_rfl) rfl _ w',?_⟩;refine(L3 0 0 n w rfl rfl h0 hn).mono ?_
 rintro e w' ⟨cs,hle,rfl,rfl⟩
 have hln:m.length=h.length:=hS.len;have k1:=HOk.drew hS;have e1:=Ev.drew h.length (Mem.mk m h w);have k2:=HOk.new k1 (o:=.row 1 []) (ob:=.cells cs 3) (.inr ⟨_,3,cs,rfl,bf _ _,by simp,λi x hx=>by simp at hx⟩);have e2:=Ev.new h.length M0 k1 (aJ _) (.row 1 []) (.cells cs 3);have hshape:(w.drew.alloc (.cells cs 3)).shape? w.drew.heap.size=some (3,cs.size):=by
  unfold World.shape?;rw[bf]
 have hfin:aY M0 ((Mem.mk m h w).drew.new (.row 1 []) (.cells cs 3)) (.slice (some ⟨w.heap.size,0,none⟩) 0 cs.size) (.slice h.length 0 0 0):=
  ⟨⟨_,_,_,rfl⟩,.inr ⟨1,[],by simp[Mem.new,Mem.drew],aJ _,λ_=>.inr (.inl ⟨w.heap.size,cs.size,3,cs.size,by show (m++[some w.heap.size]).getD h.length none=_;rw[<-hln];simp,by simp,⟨bE _,aJ _⟩,hshape,by simp,bE _⟩)⟩⟩
 exact⟨.ret (.slice h.length 0 0 0),_,_,⟨rfl,rfl⟩,e1.trans e2,k2,hfin⟩
namespace Tr
set_option maxRecDepth 4000
inductive ISl:PV->List Int->Prop
 |nil:ISl .nilslice []
 |mk {l:List Int} {b:Bool}:ISl (.slice 1 (l.map intPV) b) l
theorem Ic(n:Nat)(h:Heap)(l:List Int):aM (eW n h) (List.map AV.p (l.map intPV))=some (l.map intPV):=rH n h intPV (λ_=>rfl) l
theorem th(x y:PV)(a b:List Int)(f:Bool)(hx:ISl x a)(hy:ISl y b)(h0:1<=a.length+b.length)(hn:a.length+b.length<=1000000) :
  eS TP 62 [.slice 1 [x,y] f] (.slice 1 ((a++b).map intPV) false):=by
 have w0:∀n:Nat,n<=1000000->IntKind.i64.wrap ((0:Int)+(n:Int))=((n:Nat):Int):=λn h=>(aj (by omega) (by omega)).trans (by omega);have wz:∀n:Nat,n<=1000000->IntKind.i64.wrap ((n:Int)+0)=((n:Nat):Int):=λn h=>(aj (by omega) (by omega)).trans (by omega);have w1:=w0 a.length (by omega);have w1b:=w0 b.length (by omega);have w3:=wz a.length (by omega);have w2:IntKind.i64.wrap ((a.length:Int)+(b.length:Int))=((a.length+b.length:Nat):Int):=aj (by omega) (by omega) |>.trans (by omega);have n1:decide (((a.length:Nat):Int)<0)=false:=decide_eq_false (by omega);have n2:decide (((a.length+b.length:Nat):Int)<0)=false:=decide_eq_false (by omega);have n3:decide (((b.length:Nat):Int)<0)=false:=decide_eq_false (by omega);have l1:a.length<=ai:=by simp[ai];omega
 have l2:b.length<=ai:=by simp[ai];omega
 have l3:a.length+b.length<=ai:=by simp[ai];omega
 refine di (am func62 rfl) rfl ?_;simp only[go_sem,simprocAttr];refine aE ?_;simp only[go_sem,simprocAttr]
 cases hx with
 |nil=>
  cases hy with
  |nil=>simp at h0
  |mk=>
   have gb:1<=b.length:=by simpa using h0
   have gn:b.length<=1000000000:=by simp at hn;omega
   simp only[w1b,n3,go_sem,simprocAttr];refine aE ?_;simp only[w1b,n3,go_sem,simprocAttr];refine aE ?_;simp only[w1b,n3,go_sem,simprocAttr];refine fj (uy gb gn) ?_;simp only[go_sem,simprocAttr];refine aE ?_;simp only[l2,show (0:Nat)<=ai from bE _,go_sem,simprocAttr];refine aE ?_;simp only[l2,go_sem,simprocAttr];refine aE ?_;simp only[l2,Ic,go_sem,simprocAttr]
   first|done|simp
 |mk=>
  simp only[w1,n1,go_sem,simprocAttr];refine aE ?_
  cases hy with
  |nil=>
   have ga:1<=a.length:=by simpa using h0
   have gn:a.length<=1000000000:=by simp at hn;omega
   simp only[w3,n1,go_sem,simprocAttr];refine aE ?_;simp only[w3,n1,go_sem,simprocAttr];refine fj (uy ga gn) ?_;simp only[go_sem,simprocAttr];refine aE ?_;simp only[l1,go_sem,simprocAttr];refine aE ?_;simp only[l1,j5,go_sem,simprocAttr];refine aE ?_;simp only[l1,Ic,co,go_sem,simprocAttr]
   first|done|simp
  |mk=>
   simp only[w2,n2,go_sem,simprocAttr];refine aE ?_;simp only[w2,n2,go_sem,simprocAttr];refine fj (uy h0 (by omega)) ?_;simp only[go_sem,simprocAttr];refine aE ?_;simp only[l1,go_sem,simprocAttr];refine aE ?_;simp only[l3,go_sem,simprocAttr];refine aE ?_;simp only[l3,Ic,go_sem,simprocAttr];simp[dz]
def lI (n:Nat) (f:Nat->Int):List Int:=(List.range n).map f
theorem vt{n:Nat}{f:Nat->Int}:(lI n f).length=n:=by simp[lI]
theorem Jc{n:Nat}{f:Nat->Int}:(lI n f).map intPV=cI n f:=by simp[lI,cI,intPV,zA]
theorem Hn{n:Nat}{f:Nat->Int}{b:Bool}(h:n≠0):ISl (.slice 1 (cI n f) b) (lI n f):=by
 rw[<-Jc];exact .mk
def N7:Hints:=je [(7,.mut)]
theorem O8:dv N7 f120=true:=by kernel_rfl
theorem KJ(p:Pb):my 0 0 8 (some (80,[PV.agg (aQ p)]))=some (.slice 1 (cI 8 p.has) false):=by
 show (if 0+8<=(aQ p).length then some (PV.slice 1 ((List.drop 0 (aQ p)).take 8) false) else none)=_;rw[if_pos (by rw[cf];omega)];unfold aQ;rw[oZ,i6 (bm _ _)]
theorem IG(p:Pb):my 0 8 8 (some (80,[PV.agg (aQ p)]))=some (.slice 1 (cI 8 p.needs) false):=by
 show (if 8+8<=(aQ p).length then some (PV.slice 1 ((List.drop 8 (aQ p)).take 8) false) else none)=_;rw[if_pos (by rw[cf];omega)];unfold aQ;rw[List.drop_left' (bm _ _),i6 (bm _ _)]
def MP (p:Pb):Prop:=∀i,8<=i->p.has i=0/\p.needs i=0
theorem JS{p:Pb}:(((List.range 8).all λi=>decide (0<=p.has i/\p.has i<=100000))&&((List.range 8).all λi=>decide (0<=p.needs i/\p.needs i<=100000)))=!((lI 8 p.has++lI 8 p.needs).any λn=>!an n 0 100000):=by
 have h:∀f:Nat->Int,((List.range 8).all λi=>decide (0<=f i/\f i<=100000))=!((lI 8 f).any λn=>!an n 0 100000):=λf=>by
  unfold lI;rw[ub,gC];simp[an,zA]
 rw[h,h,List.any_append,Bool.not_or]
theorem Bg(p:Pb)(hz:MP p):PCall TP 120 [.agg (aQ p)] (.bool (fN p)):=by
 refine ae (ku (by kernel_rfl) rfl O8) rfl ?_;simp only[N7,af,go_sem,simprocAttr];refine KX (th (.slice 1 (cI 8 p.has) false) (.slice 1 (cI 8 p.needs) false) (lI 8 p.has) (lI 8 p.needs) false (Hn (by omega)) (Hn (by omega)) (by simp[vt]) (by simp[vt])) ?_ ?_
 .simp only[KJ,IG,go_sem,simprocAttr]
 simp only[go_sem,simprocAttr];refine ao (n5 0 100000 (lI 8 p.has++lI 8 p.needs) false (by simp[vt])) rfl ?_;have hO:=JS (p:=p);have hW:fN p=((((List.range 8).all λi=>decide (0<=p.has i/\p.has i<=100000))&&((List.range 8).all λi=>decide (0<=p.needs i/\p.needs i<=100000)))&&decide (short p.nv p.has p.needs=0)):=rfl;cases ho:(lI 8 p.has++lI 8 p.needs).any λn=>!an n 0 100000
 .rw[ho,lw]at hO;have hp:PbOk p:=by
   rw[bY,iw,iw]at hO;refine⟨λx=>?_,λx=>?_⟩
   .rcases aw x 8 with h|h
    .have:=of_decide_eq_true (hO.1 x (bX.2 h));omega
    .have:=hz x h;omega
   .rcases aw x 8 with h|h
    .have:=of_decide_eq_true (hO.2 x (bX.2 h));omega
    .have:=hz x h;omega
  rw[hO,kM]at hW;simp only[ho,go_sem,simprocAttr];refine ao (GP p hp) rfl ?_;simp only[hW,go_sem,simprocAttr];rfl
 .rw[ho,Bool.not_true]at hO;rw[hO,Bool.false_and]at hW;simp only[ho,hW,go_sem,simprocAttr]
end Tr
end Abs
end Go.Proofs.YtmndpldajflenaaGreatDoor
