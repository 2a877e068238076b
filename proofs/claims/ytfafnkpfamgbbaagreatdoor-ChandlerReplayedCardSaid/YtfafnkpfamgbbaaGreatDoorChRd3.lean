/-
  CONTRACTS: chandler: read. No conditions but those in the theorems' heads.
-/
import Derived.Test.YtfafnkpfamgbbaaGreatDoorAbsCutX
import Derived.Test.YtfafnkpfamgbbaaGreatDoorChRepX
set_option linter.unusedSimpArgs false
set_option linter.unusedVariables false
namespace Go.Proofs.YtfafnkpfamgbbaaGreatDoor
namespace Abs
namespace Ch
set_option maxRecDepth 4000
def D3:Heap:=[.row 1 [.p (.str .empty)],.row 1 [.p (.bool false)],.row 1 [.p (.int .i64 0)]]
def Vs (s:ChShop) (b:ChBooks) (ex:List PV):Heap:=B7 s b ex++D3
attribute [go_sem] D3 Vs
def uT (s:ChShop) (b:ChBooks) (ex:List PV) (line:List UInt8) (r:AEnd) (h':Heap):Prop :=
 match fD line with
 |.error e=>r=.panic (gp e)/\∃ t,t.take 3=D3/\h'=H7 s b ex t
 |.ok c=>∃ F first caps t,t.take 3=D3/\r=.ret (.agg [.p (.bool c.written),.func (.func F) first caps])/\h'=H7 s b ex t/\(∀ o,o∈h'->bi h'.length o)/\(∀ a,a∈first++caps->below h'.length a)/\aC Tryz.prog F (first++caps) h' (jK s b ex t (aR s b c))
theorem bq {s} {b} {ex} {line} {e} (h:fD line=.error e) {h'} (t) (hh:h'=B7 s b ex++t) (h3:t.take 3=D3:=by rfl):uT s b ex line (.panic (gp e)) h':=by
 unfold uT;rw [h];exact ⟨rfl,t,h3,hh⟩
theorem JB (c):∀ (l),∀ w,w∈aJ c l->w.length<=l.length:=by
 intro l
 induction l with
 |nil=>intro w hw;simp [aJ] at hw;subst hw;exact bM _
 |cons x r ih =>
  intro w hw;rw [aJ] at hw;split at hw
  .rcases bw.1 hw with rfl | hw
   .exact dD _
   .exact Nat.le_succ_of_le (ih w hw)
  .split at hw
   .rename_i h;exact absurd h (pw _ _)
   .rename_i a t h;rw [h] at ih;rcases bw.1 hw with rfl | hw
    .have:=ih a (by simp);simp only [ct];omega
    .exact Nat.le_succ_of_le (ih w (by simp [hw]))
def bg (o:Option Cmd):Except Int Cmd:=match o with | some c=>.ok c | none=>.error 6
theorem Lt {line} {v} {ws} (h1:¬ 400<line.length) (h2:¬ line.take 5=gR) (hsp:aJ 32 line=v::ws):fD line=bg (dd v ws):=by
 unfold fD;rw [if_neg h1,if_neg h2,hsp];rfl
theorem ri (ws):dd oE ws=(match ws with | n::k::g::r=>(match aV n,aV k,bD g,cr r with | some n,some k,some g,some r=>some (.lot n k g r) | _,_,_,_=>none) | _=>none):=by unfold dd;rw [if_pos rfl];rfl
theorem lJ (ws):dd jU ws=(match ws with | [n,c,l,g]=>(match aV n,aV c,aV l,bD g with | some n,some c,some l,some g=>some (.batch n c l g) | _,_,_,_=>none) | _=>none):=by
 unfold dd;rw [if_neg (by decide),if_pos rfl];rfl
theorem vH (ws):dd lN ws=(match ws with | [n]=>(aV n).map .drop | _=>none):=by
 unfold dd;rw [if_neg (by decide),if_neg (by decide),if_pos rfl];rfl
theorem vG (ws):dd pc ws=(match ws with | [n]=>(aV n).map .plan | _=>none):=by
 unfold dd;rw [if_neg (by decide),if_neg (by decide),if_neg (by decide),if_pos rfl];rfl
theorem vF (ws):dd lM ws=(match ws with | [n]=>(aV n).map .pour | _=>none):=by
 unfold dd;rw [if_neg (by decide),if_neg (by decide),if_neg (by decide),if_neg (by decide),if_pos rfl];rfl
theorem rh (ws):dd jC ws=(match ws with | [n]=>(aV n).map .promise | _=>none):=by
 unfold dd;rw [if_neg (by decide),if_neg (by decide),if_neg (by decide),if_neg (by decide),if_neg (by decide),if_pos rfl];rfl
theorem tZ (ws):dd oF ws=(match ws with | [n,g]=>(match aV n,bD g with | some n,some g=>some (.box n g) | _,_=>none) | _=>none):=by
 unfold dd;rw [if_neg (by decide),if_neg (by decide),if_neg (by decide),if_neg (by decide),if_neg (by decide),if_neg (by decide),if_pos rfl];rfl
theorem Cp (ws):dd pe ws=(match ws with | []=>some .look | _=>none):=by
 unfold dd;rw [if_neg (by decide),if_neg (by decide),if_neg (by decide),if_neg (by decide),if_neg (by decide),if_neg (by decide),if_neg (by decide),if_pos rfl];rfl
theorem k9 (ws):dd pb ws=(match ws with | [n,a,b,c,d]=>(match aV n,bD a,bD b,bD c,bD d with | some n,some a,some b,some c,some d=>some (.wick n a b c d) | _,_,_,_,_=>none) | _=>none):=by
 unfold dd;rw [if_neg (by decide),if_neg (by decide),if_neg (by decide),if_neg (by decide),if_neg (by decide),if_neg (by decide),if_neg (by decide),if_neg (by decide),if_pos rfl];rfl
theorem nD (ws):dd mf ws=(match ws with | [a,b,c]=>(match bD a,bD b,bD c with | some a,some b,some c=>some (.blend a b c) | _,_,_=>none) | _=>none):=by
 unfold dd;rw [if_neg (by decide),if_neg (by decide),if_neg (by decide),if_neg (by decide),if_neg (by decide),if_neg (by decide),if_neg (by decide),if_neg (by decide),if_neg (by decide),if_pos rfl];rfl
theorem zK (ws):dd me ws=(match ws with | []=>some .stock | _=>none):=by
 unfold dd;rw [if_neg (by decide),if_neg (by decide),if_neg (by decide),if_neg (by decide),if_neg (by decide),if_neg (by decide),if_neg (by decide),if_neg (by decide),if_neg (by decide),if_neg (by decide),if_pos rfl];rfl
theorem Q2 {v} {ws} (c0:(v==oE)=false) (c1:(v==jU)=false) (c2:(v==lN)=false) (c3:(v==pc)=false) (c4:(v==lM)=false) (c5:(v==jC)=false) (c6:(v==oF)=false) (c7:(v==pe)=false)
  (c8:(v==pb)=false) (c9:(v==mf)=false) (c10:(v==me)=false):dd v ws=none:=by
 rw [beq_eq_false_iff_ne] at c0 c1 c2 c3 c4 c5 c6 c7 c8 c9 c10;unfold dd;rw [if_neg c0,if_neg c1,if_neg c2,if_neg c3,if_neg c4,if_neg c5,if_neg c6,if_neg c7,if_neg c8,if_neg c9,if_neg c10]
theorem L5 (v):(bs v==({ data:=#[108,111,116] }:ByteArray))=(v==oE):=cf v oE
theorem Fx (v):(bs v==({ data:=#[98,97,116,99,104] }:ByteArray))=(v==jU):=cf v jU
theorem Iw (v):(bs v==({ data:=#[100,114,111,112] }:ByteArray))=(v==lN):=cf v lN
theorem Iu (v):(bs v==({ data:=#[112,108,97,110] }:ByteArray))=(v==pc):=cf v pc
theorem It (v):(bs v==({ data:=#[112,111,117,114] }:ByteArray))=(v==lM):=cf v lM
theorem Ah (v):(bs v==({ data:=#[112,114,111,109,105,115,101] }:ByteArray))=(v==jC):=cf v jC
theorem L6 (v):(bs v==({ data:=#[98,111,120] }:ByteArray))=(v==oF):=cf v oF
theorem Iv (v):(bs v==({ data:=#[108,111,111,107] }:ByteArray))=(v==pe):=cf v pe
theorem Is (v):(bs v==({ data:=#[119,105,99,107] }:ByteArray))=(v==pb):=cf v pb
theorem Fw (v):(bs v==({ data:=#[98,108,101,110,100] }:ByteArray))=(v==mf):=cf v mf
theorem Fv (v):(bs v==({ data:=#[115,116,111,99,107] }:ByteArray))=(v==me):=cf v me
theorem kF:bX Tryz.prog 92=.func:=by kernel_rfl
def D9 (v:Int):AV:=.p (aK v)
theorem Sw (n) (x):below n (D9 x)=True:=eq_true trivial
attribute [go_sem] Sw
theorem TY (v):(bs v==({ data:=#[120] }:ByteArray))=(v==kX):=cf v kX
theorem keepS (n) (a) (h):gc (n+1) (a::h)=.dead::gc n h:=by
 unfold gc;rw [List.mapIdx_cons]
 congr 1
 .apply nu;intro i;simp
theorem Y7 (a) (h):gc 0 (a::h)=a::h.map λ_=>.dead:=by
 unfold gc;rw [List.mapIdx_cons]
 congr 1
 apply nu;intro i;simp
theorem T0 (a0 a1 a2 a3 a4 a5 a6 a7 a8 a9 a10 a11 a12 a13) (h):gc 13 (a0::a1::a2::a3::a4::a5::a6::a7::a8::a9::a10::a11::a12::a13::h)=.dead::.dead::.dead::.dead::.dead::.dead::.dead::.dead::.dead::.dead::.dead::.dead::.dead::a13::h.map λ_=>.dead:=by
 rw [keepS,keepS,keepS,keepS,keepS,keepS,keepS,keepS,keepS,keepS,keepS,keepS,keepS,Y7]
def K8:Hints:=eg [(66,.app 64),(67,.low),(68,.low),(1015066,.sto),(5000001,.app 7)]
theorem TM:aj K8 Tryz.f58=true:=by kernel_rfl
theorem gW {s} {b} {ex} {line} {c} (h:fD line=.ok c) {F} {first caps} {h'} (t) (hh:h'=H7 s b ex t) (ho:∀ o,o∈h'->bi h'.length o) (ha:∀ a,a∈first++caps->below h'.length a)
  (hc:aC Tryz.prog F (first++caps) (H7 s b ex t) (jK s b ex t (aR s b c))) (h3:t.take 3=D3:=by rfl):uT s b ex line (.ret (.agg [.p (.bool c.written),.func (.func F) first caps])) h':=by
 unfold uT;rw [h];subst hh;exact ⟨F,first,caps,t,h3,rfl,rfl,ho,ha,hc⟩
set_option maxHeartbeats 4000000 in
theorem Za (s) (b) (ex) (n) (hs:SOk s) (hb:BkOk s b n) (line):aC Tryz.prog 58 [.ptr 2 1 0 0,.p (.str (bs line))] (Vs s b ex) (uT s b ex line):=by
 refine aB (ai (by kernel_rfl) rfl TM) rfl ?_;simp only [go_sem,simprocAttr];refine az (λh1=>?_) (λh1=>?_);rotate_left
 .have h1':400<line.length:=by rw [aq] at h1;simp at h1;omega
  simp only [go_sem,simprocAttr];exact bq (e:=3) (by rw [fD,if_pos h1']) _ rfl
 have h1':¬ 400<line.length:=by rw [aq] at h1;simp at h1;omega
 simp only [go_sem,simprocAttr];have hl9:line.length<1000000000:=by omega
 refine ae (KE line gR hl9 (by decide)) rfl ?_;by_cases h2:line.take 5=gR
 .have e1:decide (line.take gR.length=gR)=true:=decide_eq_true h2;have e2:(if line.take gR.length=gR then line.drop gR.length else line)=line.drop 5:=if_pos h2;simp only [e1,e2,go_sem,simprocAttr];refine gW (c:=.test (line.drop 5)) (by rw [fD,if_neg h1',if_pos h2]) _ rfl ?_ ?_ (Zm s b ex _ n hs hb 10 12 _ rfl rfl)
  .simp only [go_sem,simprocAttr]
  .simp only [go_sem,simprocAttr]
 have e1:decide (line.take gR.length=gR)=false:=decide_eq_false h2;have e2:(if line.take gR.length=gR then line.drop gR.length else line)=line:=if_neg h2;have hww:=JB 32 line;simp only [e1,e2,go_sem,simprocAttr];refine ae (C9 line 32 hl9) rfl ?_
 cases hsp:aJ 32 line with
 |nil=>exact absurd hsp (pw _ _)
 |cons v ws =>
 rw [hsp] at hww;have hsay:=Lt h1' h2 hsp;have hwl:∀ w,w∈ws->w.length<=1000000:=λw hw=>by have:=hww w (by simp [hw]);omega
 simp only [bG,go_sem,simprocAttr];refine cy (Av v ws 13 _ rfl) ?_;simp only [go_sem,simprocAttr];cases c0:v==oE;rotate_left
 .have hv:=eq_of_beq c0;subst hv;simp only [L5,c0,go_sem,simprocAttr];refine jY ws 13 14 rfl rfl (λw1 r1 e1 n1=>?_) (λhf o=>?_);rotate_left
  .simp only [go_sem,simprocAttr];exact bq (e:=6) (by rw [hsay,ri];rcases ws with _ | ⟨x1,_ | ⟨x2,_ | ⟨x3,_ | ⟨x4,_ | ⟨x5,_⟩⟩⟩⟩⟩<;>simp_all [bg]) _ rfl
  subst e1;simp only [cU,bG,go_sem,simprocAttr];refine jY r1 13 14 rfl rfl (λw2 r2 e2 n2=>?_) (λhf o=>?_);rotate_left
  .simp only [go_sem,simprocAttr];exact bq (e:=6) (by rw [hsay,ri];rcases r1 with _ | ⟨x1,_ | ⟨x2,_ | ⟨x3,_ | ⟨x4,_⟩⟩⟩⟩<;>simp_all [bg]) _ rfl
  subst e2;simp only [cU,bG,go_sem,simprocAttr];refine gL r2 13 14 (λw hw=>hwl w (by simp [hw])) rfl rfl (λw3 r3 z3 e3 n3=>?_) (λhf o=>?_);rotate_left
  .simp only [go_sem,simprocAttr];exact bq (e:=6) (by rw [hsay,ri];rcases r2 with _ | ⟨x1,_ | ⟨x2,_ | ⟨x3,_⟩⟩⟩<;>simp_all [bg]) _ rfl
  subst e3;simp only [cU,bG,go_sem,simprocAttr];have hr3:r3.length<=400:=by
   have h:=pz 32 line;rw [hsp] at h;simp at h;omega
  refine B9 [2,4,7,10,11,12,13,14,15] 19 1 (show 10<=19 by decide) (show 10<=20 by decide) rfl ?_ ?_ rfl ?_
  .simp only [go_sem,simprocAttr]
  .simp only [go_sem,simprocAttr]
  simp only [go_sem,simprocAttr]
  refine gu [2,4,7,10,11,12,13,14,15] (σ:=List (List UInt8)×List Int) (λq=>cr r3=(cr q.1).map (q.2++·)/\(∀ w,w∈q.1->w.length<=1000000)/\q.2.length+q.1.length=r3.length) (λq=>q.1.length) (λq=>[])
   (λq=>Vs s b ex++[.row 1 [.ptr 2 1 0 0],.row 2 [.p (.agg [.bool false,.nilfunc])],.row 1 [.p (.str (bs line))],cU q.1,iX 13,.row 2 [.p (.agg [.bool false,.nilfunc])],.row 1 [.p (.str (bs w1))],.row 1 [.p (.str (bs w2))],.row 1 [.p (.int .i64 z3)],.row 1 [.slice 20 q.2.length 0 q.2.length],.row 1 (q.2.map D9)])
   (r3,[]) ⟨?_,λw hw=>hwl w (by simp [hw]),by simp⟩ ?_ ?_
  .show cr r3=(cr r3).map ([]++·);cases cr r3<;>rfl
  .simp only [cU,iX,bG,go_sem,simprocAttr]
  rintro ⟨q,rs⟩ ⟨i1,i2,i3⟩
  dsimp only at i1 i2 i3
  cases q with
  |nil =>
   have hc:fD line=.ok (.lot w1 w2 z3 rs):=by
    rw [hsay,ri];have:cr r3=some rs:=by rw [i1];simp [cr]
    simp only [n1,n2,n3,this];rfl
   simp only [cU,iX,bG,kF,go_sem,simprocAttr];refine az (λ_=>?_) (λh=>by cases h);simp only [go_sem,simprocAttr];refine gW hc _ rfl ?_ ?_ (zcz s b ex _ n hs hb 10 16 17 18 19 20 _ _ _ rs (by simp at i3;omega) rfl rfl rfl rfl rfl (by decide) rfl)
   .simp only [go_sem,simprocAttr]
   .simp only [go_sem,simprocAttr]
  |cons w r =>
   have hn0:decide ((0:Int)<((r.length+1:Nat):Int))=true:=decide_eq_true (by omega);have hn1:(0:Int)<((r.length+1:Nat):Int):=by omega
   have hn2:(1:Int)<=((r.length+1:Nat):Int):=by omega
   have htk:List.take (r.length+1) (PV.str (bs w)::r.map λx=>PV.str (bs x))=PV.str (bs w)::r.map λx=>PV.str (bs x):=ga (by simp);have hrm:rs.length+1<=aw:=by simp at i3;simp only [aw];omega
   cases hx:w==kX;rotate_left
   .have hwx:=eq_of_beq hx;simp only [cU,iX,bG,hn1,hn2,htk,hrm,TY,hx,K8,bj,T0,go_sem,simprocAttr];refine And.intro (.inr ⟨20,_,rfl,rfl⟩) ?_;refine bW (r,rs++[-1]) ⟨?_,λw hw=>i2 w (by simp [hw]),by simp at i3 |-;omega⟩ (by dsimp only [List.length_cons];omega) ?_
    .show cr r3=(cr r).map ((rs++[-1])++·);rw [i1,cr,if_pos hwx];cases cr r<;>simp
    .simp only [cU,iX,bG,aI,bh,bA,bB,cm,D9,go_sem,simprocAttr]
   simp only [cU,iX,bG,hn1,TY,hx,go_sem,simprocAttr];refine gL (w::r) 13 14 i2 rfl rfl (λw' r' z' e' n'=>?_) (λhf o=>?_);rotate_left
   .simp only [go_sem,simprocAttr]
    exact bq (e:=6) (by
     rw [hsay,ri];have hnw:=hf w r rfl;have:cr r3=none:=by rw [i1,cr,if_neg (by simpa using hx),hnw];rfl
     simp only [n1,n2,n3,this]
     rfl) _ rfl
   cases e';simp only [hrm,K8,go_sem,simprocAttr];refine bW (r,rs++[z']) ⟨?_,λw hw=>i2 w (by simp [hw]),by simp at i3 |-;omega⟩ (by dsimp only [List.length_cons];omega) ?_
   .show cr r3=(cr r).map ((rs++[z'])++·);rw [i1,cr,if_neg (by simpa using hx),n'];cases cr r<;>simp
   .simp only [cU,iX,bG,aI,bh,bA,bB,cm,D9,go_sem,simprocAttr]
 simp only [L5,c0,go_sem,simprocAttr];cases c1:v==jU;rotate_left
 .have hv:=eq_of_beq c1;subst hv;simp only [Fx,c1,go_sem,simprocAttr];refine jY ws 13 14 rfl rfl (λw1 r1 e1 n1=>?_) (λhf o=>?_);rotate_left
  .simp only [go_sem,simprocAttr];exact bq (e:=6) (by rw [hsay,lJ];rcases ws with _ | ⟨x1,_ | ⟨x2,_ | ⟨x3,_ | ⟨x4,_ | ⟨x5,_⟩⟩⟩⟩⟩<;>simp_all [bg]) _ rfl
  subst e1;simp only [cU,bG,go_sem,simprocAttr];refine jY r1 13 14 rfl rfl (λw2 r2 e2 n2=>?_) (λhf o=>?_);rotate_left
  .simp only [go_sem,simprocAttr];exact bq (e:=6) (by rw [hsay,lJ];rcases r1 with _ | ⟨x1,_ | ⟨x2,_ | ⟨x3,_ | ⟨x4,_⟩⟩⟩⟩<;>simp_all [bg]) _ rfl
  subst e2;simp only [cU,bG,go_sem,simprocAttr];refine jY r2 13 14 rfl rfl (λw3 r3 e3 n3=>?_) (λhf o=>?_);rotate_left
  .simp only [go_sem,simprocAttr];exact bq (e:=6) (by rw [hsay,lJ];rcases r2 with _ | ⟨x1,_ | ⟨x2,_ | ⟨x3,_⟩⟩⟩<;>simp_all [bg]) _ rfl
  subst e3;simp only [cU,bG,go_sem,simprocAttr];refine gL r3 13 14 (λw hw=>hwl w (by simp [hw])) rfl rfl (λw4 r4 z4 e4 n4=>?_) (λhf o=>?_);rotate_left
  .simp only [go_sem,simprocAttr];exact bq (e:=6) (by rw [hsay,lJ];rcases r3 with _ | ⟨x1,_ | ⟨x2,_⟩⟩<;>simp_all [bg]) _ rfl
  subst e4;simp only [cU,bG,go_sem,simprocAttr]
  cases r4 with
  |cons y q =>
   have hq:(((q.length+1:Nat):Int)==0)=false:=by rw [beq_eq_false_iff_ne];omega
   simp only [hq,go_sem,simprocAttr];refine az (λh=>by cases h) (λ_=>?_);simp only [go_sem,simprocAttr]
   exact bq (e:=6) (by rw [hsay,lJ];simp_all [bg]) _ rfl
  |nil =>
   simp only [go_sem,simprocAttr];refine az (λ_=>?_) (λh=>by cases h);simp only [go_sem,simprocAttr];have hc:fD line=.ok (.batch w1 w2 w3 z4):=by rw [hsay,lJ];simp_all [bg]
   refine gW hc _ rfl ?_ ?_ (Ux s b ex _ n hs hb 10 16 17 18 19 _ _ _ _ rfl rfl rfl rfl rfl)
   .simp only [go_sem,simprocAttr]
   .simp only [go_sem,simprocAttr]
 simp only [Fx,c1,go_sem,simprocAttr];cases c2:v==lN;rotate_left
 .have hv:=eq_of_beq c2;subst hv;simp only [Iw,c2,go_sem,simprocAttr];refine jY ws 13 14 rfl rfl (λw1 r1 e1 n1=>?_) (λhf o=>?_);rotate_left
  .simp only [go_sem,simprocAttr];exact bq (e:=6) (by rw [hsay,vH];rcases ws with _ | ⟨x1,_ | ⟨x2,_⟩⟩<;>simp_all [bg]) _ rfl
  subst e1;simp only [cU,bG,go_sem,simprocAttr]
  cases r1 with
  |cons y q =>
   have hq:(((q.length+1:Nat):Int)==0)=false:=by rw [beq_eq_false_iff_ne];omega
   simp only [hq,go_sem,simprocAttr];refine az (λh=>by cases h) (λ_=>?_);simp only [go_sem,simprocAttr]
   exact bq (e:=6) (by rw [hsay,vH];simp_all [bg]) _ rfl
  |nil =>
   simp only [go_sem,simprocAttr];refine az (λ_=>?_) (λh=>by cases h);simp only [go_sem,simprocAttr];have hc:fD line=.ok (.drop w1):=by rw [hsay,vH];simp_all [bg]
   refine gW hc _ rfl ?_ ?_ (Us s b ex _ n hs hb 10 16 _ rfl rfl)
   .simp only [go_sem,simprocAttr]
   .simp only [go_sem,simprocAttr]
 simp only [Iw,c2,go_sem,simprocAttr];cases c3:v==pc;rotate_left
 .have hv:=eq_of_beq c3;subst hv;simp only [Iu,c3,go_sem,simprocAttr];refine jY ws 13 14 rfl rfl (λw1 r1 e1 n1=>?_) (λhf o=>?_);rotate_left
  .simp only [go_sem,simprocAttr];exact bq (e:=6) (by rw [hsay,vG];rcases ws with _ | ⟨x1,_ | ⟨x2,_⟩⟩<;>simp_all [bg]) _ rfl
  subst e1;simp only [cU,bG,go_sem,simprocAttr]
  cases r1 with
  |cons y q =>
   have hq:(((q.length+1:Nat):Int)==0)=false:=by rw [beq_eq_false_iff_ne];omega
   simp only [hq,go_sem,simprocAttr];refine az (λh=>by cases h) (λ_=>?_);simp only [go_sem,simprocAttr]
   exact bq (e:=6) (by rw [hsay,vG];simp_all [bg]) _ rfl
  |nil =>
   simp only [go_sem,simprocAttr];refine az (λ_=>?_) (λh=>by cases h);simp only [go_sem,simprocAttr];have hc:fD line=.ok (.plan w1):=by rw [hsay,vG];simp_all [bg]
   refine gW hc _ rfl ?_ ?_ (Ur s b ex _ n hs hb 10 16 _ rfl rfl)
   .simp only [go_sem,simprocAttr]
   .simp only [go_sem,simprocAttr]
 simp only [Iu,c3,go_sem,simprocAttr];cases c4:v==lM;rotate_left
 .have hv:=eq_of_beq c4;subst hv;simp only [It,c4,go_sem,simprocAttr];refine jY ws 13 14 rfl rfl (λw1 r1 e1 n1=>?_) (λhf o=>?_);rotate_left
  .simp only [go_sem,simprocAttr];exact bq (e:=6) (by rw [hsay,vF];rcases ws with _ | ⟨x1,_ | ⟨x2,_⟩⟩<;>simp_all [bg]) _ rfl
  subst e1;simp only [cU,bG,go_sem,simprocAttr]
  cases r1 with
  |cons y q =>
   have hq:(((q.length+1:Nat):Int)==0)=false:=by rw [beq_eq_false_iff_ne];omega
   simp only [hq,go_sem,simprocAttr];refine az (λh=>by cases h) (λ_=>?_);simp only [go_sem,simprocAttr]
   exact bq (e:=6) (by rw [hsay,vF];simp_all [bg]) _ rfl
  |nil =>
   simp only [go_sem,simprocAttr];refine az (λ_=>?_) (λh=>by cases h);simp only [go_sem,simprocAttr];have hc:fD line=.ok (.pour w1):=by rw [hsay,vF];simp_all [bg]
   refine gW hc _ rfl ?_ ?_ (Uq s b ex _ n hs hb 10 16 _ rfl rfl)
   .simp only [go_sem,simprocAttr]
   .simp only [go_sem,simprocAttr]
 simp only [It,c4,go_sem,simprocAttr];cases c5:v==jC;rotate_left
 .have hv:=eq_of_beq c5;subst hv;simp only [Ah,c5,go_sem,simprocAttr];refine jY ws 13 14 rfl rfl (λw1 r1 e1 n1=>?_) (λhf o=>?_);rotate_left
  .simp only [go_sem,simprocAttr];exact bq (e:=6) (by rw [hsay,rh];rcases ws with _ | ⟨x1,_ | ⟨x2,_⟩⟩<;>simp_all [bg]) _ rfl
  subst e1;simp only [cU,bG,go_sem,simprocAttr]
  cases r1 with
  |cons y q =>
   have hq:(((q.length+1:Nat):Int)==0)=false:=by rw [beq_eq_false_iff_ne];omega
   simp only [hq,go_sem,simprocAttr];refine az (λh=>by cases h) (λ_=>?_);simp only [go_sem,simprocAttr]
   exact bq (e:=6) (by rw [hsay,rh];simp_all [bg]) _ rfl
  |nil =>
   simp only [go_sem,simprocAttr];refine az (λ_=>?_) (λh=>by cases h);simp only [go_sem,simprocAttr];have hc:fD line=.ok (.promise w1):=by rw [hsay,rh];simp_all [bg]
   refine gW hc _ rfl ?_ ?_ (OS s b ex _ n hs hb 10 16 _ rfl rfl)
   .simp only [go_sem,simprocAttr]
   .simp only [go_sem,simprocAttr]
 simp only [Ah,c5,go_sem,simprocAttr];cases c6:v==oF;rotate_left
 .have hv:=eq_of_beq c6;subst hv;simp only [L6,c6,go_sem,simprocAttr];refine jY ws 13 14 rfl rfl (λw1 r1 e1 n1=>?_) (λhf o=>?_);rotate_left
  .simp only [go_sem,simprocAttr];exact bq (e:=6) (by rw [hsay,tZ];rcases ws with _ | ⟨x1,_ | ⟨x2,_ | ⟨x3,_⟩⟩⟩<;>simp_all [bg]) _ rfl
  subst e1;simp only [cU,bG,go_sem,simprocAttr];refine gL r1 13 14 (λw hw=>hwl w (by simp [hw])) rfl rfl (λw2 r2 z2 e2 n2=>?_) (λhf o=>?_);rotate_left
  .simp only [go_sem,simprocAttr];exact bq (e:=6) (by rw [hsay,tZ];rcases r1 with _ | ⟨x1,_ | ⟨x2,_⟩⟩<;>simp_all [bg]) _ rfl
  subst e2;simp only [cU,bG,go_sem,simprocAttr]
  cases r2 with
  |cons y q =>
   have hq:(((q.length+1:Nat):Int)==0)=false:=by rw [beq_eq_false_iff_ne];omega
   simp only [hq,go_sem,simprocAttr];refine az (λh=>by cases h) (λ_=>?_);simp only [go_sem,simprocAttr]
   exact bq (e:=6) (by rw [hsay,tZ];simp_all [bg]) _ rfl
  |nil =>
   simp only [go_sem,simprocAttr];refine az (λ_=>?_) (λh=>by cases h);simp only [go_sem,simprocAttr];have hc:fD line=.ok (.box w1 z2):=by rw [hsay,tZ];simp_all [bg]
   refine gW hc _ rfl ?_ ?_ (zcA s b ex _ n hs hb 10 16 17 _ _ rfl rfl rfl)
   .simp only [go_sem,simprocAttr]
   .simp only [go_sem,simprocAttr]
 simp only [L6,c6,go_sem,simprocAttr];cases c7:v==pe;rotate_left
 .have hv:=eq_of_beq c7;subst hv;simp only [Iv,c7,go_sem,simprocAttr]
  cases ws with
  |cons y q =>
   have hq:(((q.length+1:Nat):Int)==0)=false:=by rw [beq_eq_false_iff_ne];omega
   simp only [hq,cU,bG,go_sem,simprocAttr];refine az (λh=>by cases h) (λ_=>?_);simp only [go_sem,simprocAttr]
   exact bq (e:=6) (by rw [hsay,Cp];simp_all [bg]) _ rfl
  |nil =>
   simp only [cU,bG,go_sem,simprocAttr];refine az (λ_=>?_) (λh=>by cases h);simp only [go_sem,simprocAttr];have hc:fD line=.ok (.look):=by rw [hsay,Cp];simp_all [bg]
   refine gW hc _ rfl ?_ ?_ (j1 (Kh s b ex n hb) (by simp only [go_sem,simprocAttr]) _)
   .simp only [go_sem,simprocAttr]
   .simp only [go_sem,simprocAttr]
 simp only [Iv,c7,go_sem,simprocAttr];cases c8:v==pb;rotate_left
 .have hv:=eq_of_beq c8;subst hv;simp only [Is,c8,go_sem,simprocAttr];refine jY ws 13 14 rfl rfl (λw1 r1 e1 n1=>?_) (λhf o=>?_);rotate_left
  .simp only [go_sem,simprocAttr];exact bq (e:=6) (by rw [hsay,k9];rcases ws with _ | ⟨x1,_ | ⟨x2,_ | ⟨x3,_ | ⟨x4,_ | ⟨x5,_ | ⟨x6,_⟩⟩⟩⟩⟩⟩<;>simp_all [bg]) _ rfl
  subst e1;simp only [cU,bG,go_sem,simprocAttr];refine gL r1 13 14 (λw hw=>hwl w (by simp [hw])) rfl rfl (λw2 r2 z2 e2 n2=>?_) (λhf o=>?_);rotate_left
  .simp only [go_sem,simprocAttr];exact bq (e:=6) (by rw [hsay,k9];rcases r1 with _ | ⟨x1,_ | ⟨x2,_ | ⟨x3,_ | ⟨x4,_ | ⟨x5,_⟩⟩⟩⟩⟩<;>simp_all [bg]) _ rfl
  subst e2;simp only [cU,bG,go_sem,simprocAttr];refine gL r2 13 14 (λw hw=>hwl w (by simp [hw])) rfl rfl (λw3 r3 z3 e3 n3=>?_) (λhf o=>?_);rotate_left
  .simp only [go_sem,simprocAttr];exact bq (e:=6) (by rw [hsay,k9];rcases r2 with _ | ⟨x1,_ | ⟨x2,_ | ⟨x3,_ | ⟨x4,_⟩⟩⟩⟩<;>simp_all [bg]) _ rfl
  subst e3;simp only [cU,bG,go_sem,simprocAttr];refine gL r3 13 14 (λw hw=>hwl w (by simp [hw])) rfl rfl (λw4 r4 z4 e4 n4=>?_) (λhf o=>?_);rotate_left
  .simp only [go_sem,simprocAttr];exact bq (e:=6) (by rw [hsay,k9];rcases r3 with _ | ⟨x1,_ | ⟨x2,_ | ⟨x3,_⟩⟩⟩<;>simp_all [bg]) _ rfl
  subst e4;simp only [cU,bG,go_sem,simprocAttr];refine gL r4 13 14 (λw hw=>hwl w (by simp [hw])) rfl rfl (λw5 r5 z5 e5 n5=>?_) (λhf o=>?_);rotate_left
  .simp only [go_sem,simprocAttr];exact bq (e:=6) (by rw [hsay,k9];rcases r4 with _ | ⟨x1,_ | ⟨x2,_⟩⟩<;>simp_all [bg]) _ rfl
  subst e5;simp only [cU,bG,go_sem,simprocAttr]
  cases r5 with
  |cons y q =>
   have hq:(((q.length+1:Nat):Int)==0)=false:=by rw [beq_eq_false_iff_ne];omega
   simp only [hq,go_sem,simprocAttr];refine az (λh=>by cases h) (λ_=>?_);simp only [go_sem,simprocAttr]
   exact bq (e:=6) (by rw [hsay,k9];simp_all [bg]) _ rfl
  |nil =>
   simp only [go_sem,simprocAttr];refine az (λ_=>?_) (λh=>by cases h);simp only [go_sem,simprocAttr];have hc:fD line=.ok (.wick w1 z2 z3 z4 z5):=by rw [hsay,k9];simp_all [bg]
   refine gW hc _ rfl ?_ ?_ (Zl s b ex _ n hs hb 10 16 17 _ _ _ _ _ rfl rfl rfl)
   .simp only [go_sem,simprocAttr]
   .simp only [go_sem,simprocAttr]
 simp only [Is,c8,go_sem,simprocAttr];cases c9:v==mf;rotate_left
 .have hv:=eq_of_beq c9;subst hv;simp only [Fw,c9,go_sem,simprocAttr];refine gL ws 13 14 (λw hw=>hwl w (by simp [hw])) rfl rfl (λw1 r1 z1 e1 n1=>?_) (λhf o=>?_);rotate_left
  .simp only [go_sem,simprocAttr];exact bq (e:=6) (by rw [hsay,nD];rcases ws with _ | ⟨x1,_ | ⟨x2,_ | ⟨x3,_ | ⟨x4,_⟩⟩⟩⟩<;>simp_all [bg]) _ rfl
  subst e1;simp only [cU,bG,go_sem,simprocAttr];refine gL r1 13 14 (λw hw=>hwl w (by simp [hw])) rfl rfl (λw2 r2 z2 e2 n2=>?_) (λhf o=>?_);rotate_left
  .simp only [go_sem,simprocAttr];exact bq (e:=6) (by rw [hsay,nD];rcases r1 with _ | ⟨x1,_ | ⟨x2,_ | ⟨x3,_⟩⟩⟩<;>simp_all [bg]) _ rfl
  subst e2;simp only [cU,bG,go_sem,simprocAttr];refine gL r2 13 14 (λw hw=>hwl w (by simp [hw])) rfl rfl (λw3 r3 z3 e3 n3=>?_) (λhf o=>?_);rotate_left
  .simp only [go_sem,simprocAttr];exact bq (e:=6) (by rw [hsay,nD];rcases r2 with _ | ⟨x1,_ | ⟨x2,_⟩⟩<;>simp_all [bg]) _ rfl
  subst e3;simp only [cU,bG,go_sem,simprocAttr]
  cases r3 with
  |cons y q =>
   have hq:(((q.length+1:Nat):Int)==0)=false:=by rw [beq_eq_false_iff_ne];omega
   simp only [hq,go_sem,simprocAttr];refine az (λh=>by cases h) (λ_=>?_);simp only [go_sem,simprocAttr]
   exact bq (e:=6) (by rw [hsay,nD];simp_all [bg]) _ rfl
  |nil =>
   simp only [go_sem,simprocAttr];refine az (λ_=>?_) (λh=>by cases h);simp only [go_sem,simprocAttr];have hc:fD line=.ok (.blend z1 z2 z3):=by rw [hsay,nD];simp_all [bg]
   refine gW hc _ rfl ?_ ?_ (Uw s b ex _ n hs hb 10 16 _ _ _ rfl rfl)
   .simp only [go_sem,simprocAttr]
   .simp only [go_sem,simprocAttr]
 simp only [Fw,c9,go_sem,simprocAttr];cases c10:v==me;rotate_left
 .have hv:=eq_of_beq c10;subst hv;simp only [Fv,c10,go_sem,simprocAttr]
  cases ws with
  |cons y q =>
   have hq:(((q.length+1:Nat):Int)==0)=false:=by rw [beq_eq_false_iff_ne];omega
   simp only [hq,cU,bG,go_sem,simprocAttr];refine az (λh=>by cases h) (λ_=>?_);simp only [go_sem,simprocAttr]
   exact bq (e:=6) (by rw [hsay,zK];simp_all [bg]) _ rfl
  |nil =>
   simp only [cU,bG,go_sem,simprocAttr];refine az (λ_=>?_) (λh=>by cases h);simp only [go_sem,simprocAttr];have hc:fD line=.ok (.stock):=by rw [hsay,zK];simp_all [bg]
   refine gW hc _ rfl ?_ ?_ (j1 (T4 s b ex n hs hb) (by simp only [go_sem,simprocAttr]) _)
   .simp only [go_sem,simprocAttr]
   .simp only [go_sem,simprocAttr]
 simp only [Fv,c10,kF,go_sem,simprocAttr];refine az (λh=>by cases h) (λ_=>?_);simp only [go_sem,simprocAttr];exact bq (e:=6) (by rw [hsay,Q2 c0 c1 c2 c3 c4 c5 c6 c7 c8 c9 c10];rfl) _ rfl
end Ch
end Abs
end Go.Proofs.YtfafnkpfamgbbaaGreatDoor
