/-
  CONTRACTS: chandler: read. No conditions but those in the theorems' heads.
-/
import Derived.Test.YtfafnkpfamgbbaaGreatDoorAbsCutX
import Derived.Test.YtfafnkpfamgbbaaGreatDoorChRepX
set_option linter.unusedSimpArgs false
set_option linter.unusedVariables false
namespace Go.Proofs.YtfafnkpfamgbbaaGreatDoor
namespace Abs
namespace Ch
set_option maxRecDepth 4000
def D3:Heap:=[.row 1 [.p (.str .empty)],.row 1 [.p (.bool false)],.row 1 [.p (.int .i64 0)]]
def Su (s:ChShop) (b:ChBooks) (ex:List PV):Heap:=B7 s b ex++D3
attribute [go_sem] D3 Su
def th (s:ChShop) (b:ChBooks) (ex:List PV) (line:List UInt8) (r:AEnd) (h':Heap):Prop :=
 match iW line with
 |.error e=>r=.panic (fo e)/\∃ t,t.take 3=D3/\h'=H7 s b ex t
 |.ok c=>∃ F first caps t,t.take 3=D3/\r=.ret (.agg [.p (.bool c.written),.func (.func F) first caps])/\h'=H7 s b ex t/\(∀ o,o∈h'->aV h'.length o)/\(∀ a,a∈first++caps->below h'.length a)/\ay Tryz.prog F (first++caps) h' (iR s b ex t (aU s b c))
theorem aY {s} {b} {ex} {line} {e} (h:iW line=.error e) {h'} (t) (hh:h'=B7 s b ex++t) (h3:t.take 3=D3:=by rfl):th s b ex line (.panic (fo e)) h':=by
 unfold th;rw [h];exact ⟨rfl,t,h3,hh⟩
theorem Hg (c):∀ (l),∀ w,w∈aN c l->w.length<=l.length:=by
 intro l
 induction l with
 |nil=>intro w hw;simp [aN] at hw;subst hw;exact bR _
 |cons x r ih =>
  intro w hw;rw [aN] at hw;split at hw
  .rcases cz.1 hw with rfl | hw
   .exact cQ _
   .exact Nat.le_succ_of_le (ih w hw)
  .split at hw
   .rename_i h;exact absurd h (Ap _ _)
   .rename_i a t h;rw [h] at ih;rcases cz.1 hw with rfl | hw
    .have:=ih a (by simp);simp only [e9];omega
    .exact Nat.le_succ_of_le (ih w (by simp [hw]))
def aT (o:Option Cmd):Except Int Cmd:=match o with | some c=>.ok c | none=>.error 6
theorem IZ {line} {v} {ws} (h1:¬ 400<line.length) (h2:¬ line.take 5=jX) (hsp:aN 32 line=v::ws):iW line=aT (fb v ws):=by
 unfold iW;rw [if_neg h1,if_neg h2,hsp];rfl
theorem pI (ws):fb zB ws=(match ws with | n::k::g::r=>(match cF n,cF k,eM g,d9 r with | some n,some k,some g,some r=>some (.lot n k g r) | _,_,_,_=>none) | _=>none):=by unfold fb;rw [if_pos rfl];rfl
theorem kC (ws):fb rp ws=(match ws with | [n,c,l,g]=>(match cF n,cF c,cF l,eM g with | some n,some c,some l,some g=>some (.batch n c l g) | _,_,_,_=>none) | _=>none):=by
 unfold fb;rw [if_neg (by decide),if_pos rfl];rfl
theorem tU (ws):fb vr ws=(match ws with | [n]=>(cF n).map .drop | _=>none):=by
 unfold fb;rw [if_neg (by decide),if_neg (by decide),if_pos rfl];rfl
theorem tT (ws):fb vp ws=(match ws with | [n]=>(cF n).map .plan | _=>none):=by
 unfold fb;rw [if_neg (by decide),if_neg (by decide),if_neg (by decide),if_pos rfl];rfl
theorem tS (ws):fb vo ws=(match ws with | [n]=>(cF n).map .pour | _=>none):=by
 unfold fb;rw [if_neg (by decide),if_neg (by decide),if_neg (by decide),if_neg (by decide),if_pos rfl];rfl
theorem pH (ws):fb nb ws=(match ws with | [n]=>(cF n).map .promise | _=>none):=by
 unfold fb;rw [if_neg (by decide),if_neg (by decide),if_neg (by decide),if_neg (by decide),if_neg (by decide),if_pos rfl];rfl
theorem sn (ws):fb zC ws=(match ws with | [n,g]=>(match cF n,eM g with | some n,some g=>some (.box n g) | _,_=>none) | _=>none):=by
 unfold fb;rw [if_neg (by decide),if_neg (by decide),if_neg (by decide),if_neg (by decide),if_neg (by decide),if_neg (by decide),if_pos rfl];rfl
theorem Ar (ws):fb vq ws=(match ws with | []=>some .look | _=>none):=by
 unfold fb;rw [if_neg (by decide),if_neg (by decide),if_neg (by decide),if_neg (by decide),if_neg (by decide),if_neg (by decide),if_neg (by decide),if_pos rfl];rfl
theorem j7 (ws):fb vn ws=(match ws with | [n,a,b,c,d]=>(match cF n,eM a,eM b,eM c,eM d with | some n,some a,some b,some c,some d=>some (.wick n a b c d) | _,_,_,_,_=>none) | _=>none):=by
 unfold fb;rw [if_neg (by decide),if_neg (by decide),if_neg (by decide),if_neg (by decide),if_neg (by decide),if_neg (by decide),if_neg (by decide),if_neg (by decide),if_pos rfl];rfl
theorem l9 (ws):fb ro ws=(match ws with | [a,b,c]=>(match eM a,eM b,eM c with | some a,some b,some c=>some (.blend a b c) | _,_,_=>none) | _=>none):=by
 unfold fb;rw [if_neg (by decide),if_neg (by decide),if_neg (by decide),if_neg (by decide),if_neg (by decide),if_neg (by decide),if_neg (by decide),if_neg (by decide),if_neg (by decide),if_pos rfl];rfl
theorem xK (ws):fb rn ws=(match ws with | []=>some .stock | _=>none):=by
 unfold fb;rw [if_neg (by decide),if_neg (by decide),if_neg (by decide),if_neg (by decide),if_neg (by decide),if_neg (by decide),if_neg (by decide),if_neg (by decide),if_neg (by decide),if_neg (by decide),if_pos rfl];rfl
theorem Of {v} {ws} (c0:(v==zB)=false) (c1:(v==rp)=false) (c2:(v==vr)=false) (c3:(v==vp)=false) (c4:(v==vo)=false) (c5:(v==nb)=false) (c6:(v==zC)=false) (c7:(v==vq)=false)
  (c8:(v==vn)=false) (c9:(v==ro)=false) (c10:(v==rn)=false):fb v ws=none:=by
 rw [beq_eq_false_iff_ne] at c0 c1 c2 c3 c4 c5 c6 c7 c8 c9 c10;unfold fb;rw [if_neg c0,if_neg c1,if_neg c2,if_neg c3,if_neg c4,if_neg c5,if_neg c6,if_neg c7,if_neg c8,if_neg c9,if_neg c10]
theorem JB (v):(bs v==({ data:=#[108,111,116] }:ByteArray))=(v==zB):=dd v zB
theorem Df (v):(bs v==({ data:=#[98,97,116,99,104] }:ByteArray))=(v==rp):=dd v rp
theorem F' (v):(bs v==({ data:=#[100,114,111,112] }:ByteArray))=(v==vr):=dd v vr
theorem F8 (v):(bs v==({ data:=#[112,108,97,110] }:ByteArray))=(v==vp):=dd v vp
theorem F7 (v):(bs v==({ data:=#[112,111,117,114] }:ByteArray))=(v==vo):=dd v vo
theorem yf (v):(bs v==({ data:=#[112,114,111,109,105,115,101] }:ByteArray))=(v==nb):=dd v nb
theorem JC (v):(bs v==({ data:=#[98,111,120] }:ByteArray))=(v==zC):=dd v zC
theorem F9 (v):(bs v==({ data:=#[108,111,111,107] }:ByteArray))=(v==vq):=dd v vq
theorem F6 (v):(bs v==({ data:=#[119,105,99,107] }:ByteArray))=(v==vn):=dd v vn
theorem De (v):(bs v==({ data:=#[98,108,101,110,100] }:ByteArray))=(v==ro):=dd v ro
theorem Dd (v):(bs v==({ data:=#[115,116,111,99,107] }:ByteArray))=(v==rn):=dd v rn
theorem kF:bG Tryz.prog 92=.func:=by kernel_rfl
def BU (v:Int):AV:=.p (aJ v)
theorem PI (n) (x):below n (BU x)=True:=eq_true trivial
attribute [go_sem] PI
theorem QZ (v):(bs v==({ data:=#[120] }:ByteArray))=(v==kX):=dd v kX
theorem keepS (n) (a) (h):fi (n+1) (a::h)=.dead::fi n h:=by
 unfold fi;rw [List.mapIdx_cons]
 congr 1
 .apply rV;intro i;simp
theorem V8 (a) (h):fi 0 (a::h)=a::h.map λ_=>.dead:=by
 unfold fi;rw [List.mapIdx_cons]
 congr 1
 apply rV;intro i;simp
theorem Q1 (a0 a1 a2 a3 a4 a5 a6 a7 a8 a9 a10 a11 a12 a13) (h):fi 13 (a0::a1::a2::a3::a4::a5::a6::a7::a8::a9::a10::a11::a12::a13::h)=.dead::.dead::.dead::.dead::.dead::.dead::.dead::.dead::.dead::.dead::.dead::.dead::.dead::a13::h.map λ_=>.dead:=by
 rw [keepS,keepS,keepS,keepS,keepS,keepS,keepS,keepS,keepS,keepS,keepS,keepS,keepS,V8]
def IF:Hints:=dY [(66,.app 64),(67,.low),(68,.low),(1015066,.sto),(5000001,.app 7)]
theorem QP:aj IF Tryz.f58=true:=by kernel_rfl
theorem f9 {s} {b} {ex} {line} {c} (h:iW line=.ok c) {F} {first caps} {h'} (t) (hh:h'=H7 s b ex t) (ho:∀ o,o∈h'->aV h'.length o) (ha:∀ a,a∈first++caps->below h'.length a)
  (hc:ay Tryz.prog F (first++caps) (H7 s b ex t) (iR s b ex t (aU s b c))) (h3:t.take 3=D3:=by rfl):th s b ex line (.ret (.agg [.p (.bool c.written),.func (.func F) first caps])) h':=by
 unfold th;rw [h];subst hh;exact ⟨F,first,caps,t,h3,rfl,rfl,ho,ha,hc⟩
set_option maxHeartbeats 4000000 in
theorem Wb (s) (b) (ex) (n) (hs:SOk s) (hb:BkOk s b n) (line):ay Tryz.prog 58 [.ptr 2 1 0 0,.p (.str (bs line))] (Su s b ex) (th s b ex line):=by
 refine ax (ai (by kernel_rfl) rfl QP) rfl ?_;simp only [go_sem,simprocAttr];refine aq (λh1=>?_) (λh1=>?_);rotate_left
 .have h1':400<line.length:=by rw [aw] at h1;simp at h1;omega
  simp only [go_sem,simprocAttr];exact aY (e:=3) (by rw [iW,if_pos h1']) _ rfl
 have h1':¬ 400<line.length:=by rw [aw] at h1;simp at h1;omega
 simp only [go_sem,simprocAttr];have hl9:line.length<1000000000:=by omega
 refine ae (Ie line jX hl9 (by decide)) rfl ?_;by_cases h2:line.take 5=jX
 .have e1:decide (line.take jX.length=jX)=true:=decide_eq_true h2;have e2:(if line.take jX.length=jX then line.drop jX.length else line)=line.drop 5:=if_pos h2;simp only [e1,e2,go_sem,simprocAttr];refine f9 (c:=.test (line.drop 5)) (by rw [iW,if_neg h1',if_pos h2]) _ rfl ?_ ?_ (Wo s b ex _ n hs hb 10 12 _ rfl rfl)
  .simp only [go_sem,simprocAttr]
  .simp only [go_sem,simprocAttr]
 have e1:decide (line.take jX.length=jX)=false:=decide_eq_false h2;have e2:(if line.take jX.length=jX then line.drop jX.length else line)=line:=if_neg h2;have hww:=Hg 32 line;simp only [e1,e2,go_sem,simprocAttr];refine ae (A0 line 32 hl9) rfl ?_
 cases hsp:aN 32 line with
 |nil=>exact absurd hsp (Ap _ _)
 |cons v ws =>
 rw [hsp] at hww;have hsay:=IZ h1' h2 hsp;have hwl:∀ w,w∈ws->w.length<=1000000:=λw hw=>by have:=hww w (by simp [hw]);omega
 simp only [bA,go_sem,simprocAttr];refine b9 (yu v ws 13 _ rfl) ?_;simp only [go_sem,simprocAttr];cases c0:v==zB;rotate_left
 .have hv:=eq_of_beq c0;subst hv;simp only [JB,c0,go_sem,simprocAttr];refine i8 ws 13 14 rfl rfl (λw1 r1 e1 n1=>?_) (λhf o=>?_);rotate_left
  .simp only [go_sem,simprocAttr];exact aY (e:=6) (by rw [hsay,pI];rcases ws with _ | ⟨x1,_ | ⟨x2,_ | ⟨x3,_ | ⟨x4,_ | ⟨x5,_⟩⟩⟩⟩⟩<;>simp_all [aT]) _ rfl
  subst e1;simp only [ct,bA,go_sem,simprocAttr];refine i8 r1 13 14 rfl rfl (λw2 r2 e2 n2=>?_) (λhf o=>?_);rotate_left
  .simp only [go_sem,simprocAttr];exact aY (e:=6) (by rw [hsay,pI];rcases r1 with _ | ⟨x1,_ | ⟨x2,_ | ⟨x3,_ | ⟨x4,_⟩⟩⟩⟩<;>simp_all [aT]) _ rfl
  subst e2;simp only [ct,bA,go_sem,simprocAttr];refine fO r2 13 14 (λw hw=>hwl w (by simp [hw])) rfl rfl (λw3 r3 z3 e3 n3=>?_) (λhf o=>?_);rotate_left
  .simp only [go_sem,simprocAttr];exact aY (e:=6) (by rw [hsay,pI];rcases r2 with _ | ⟨x1,_ | ⟨x2,_ | ⟨x3,_⟩⟩⟩<;>simp_all [aT]) _ rfl
  subst e3;simp only [ct,bA,go_sem,simprocAttr];have hr3:r3.length<=400:=by
   have h:=qp 32 line;rw [hsp] at h;simp at h;omega
  refine Ac [2,4,7,10,11,12,13,14,15] 19 1 (show 10<=19 by decide) (show 10<=20 by decide) rfl ?_ ?_ rfl ?_
  .simp only [go_sem,simprocAttr]
  .simp only [go_sem,simprocAttr]
  simp only [go_sem,simprocAttr]
  refine i7 [2,4,7,10,11,12,13,14,15] (σ:=List (List UInt8)×List Int) (λq=>d9 r3=(d9 q.1).map (q.2++·)/\(∀ w,w∈q.1->w.length<=1000000)/\q.2.length+q.1.length=r3.length) (λq=>q.1.length) (λq=>[])
   (λq=>Su s b ex++[.row 1 [.ptr 2 1 0 0],.row 2 [.p (.agg [.bool false,.nilfunc])],.row 1 [.p (.str (bs line))],ct q.1,hZ 13,.row 2 [.p (.agg [.bool false,.nilfunc])],.row 1 [.p (.str (bs w1))],.row 1 [.p (.str (bs w2))],.row 1 [.p (.int .i64 z3)],.row 1 [.slice 20 q.2.length 0 q.2.length],.row 1 (q.2.map BU)])
   (r3,[]) ⟨?_,λw hw=>hwl w (by simp [hw]),by simp⟩ ?_ ?_
  .show d9 r3=(d9 r3).map ([]++·);cases d9 r3<;>rfl
  .simp only [ct,hZ,bA,go_sem,simprocAttr]
  rintro ⟨q,rs⟩ ⟨i1,i2,i3⟩
  dsimp only at i1 i2 i3
  cases q with
  |nil =>
   have hc:iW line=.ok (.lot w1 w2 z3 rs):=by
    rw [hsay,pI];have:d9 r3=some rs:=by rw [i1];simp [d9]
    simp only [n1,n2,n3,this];rfl
   simp only [ct,hZ,bA,kF,go_sem,simprocAttr];refine aq (λ_=>?_) (λh=>by cases h);simp only [go_sem,simprocAttr];refine f9 hc _ rfl ?_ ?_ (Zh s b ex _ n hs hb 10 16 17 18 19 20 _ _ _ rs (by simp at i3;omega) rfl rfl rfl rfl rfl (by decide) rfl)
   .simp only [go_sem,simprocAttr]
   .simp only [go_sem,simprocAttr]
  |cons w r =>
   have hn0:decide ((0:Int)<((r.length+1:Nat):Int))=true:=decide_eq_true (by omega);have hn1:(0:Int)<((r.length+1:Nat):Int):=by omega
   have hn2:(1:Int)<=((r.length+1:Nat):Int):=by omega
   have htk:List.take (r.length+1) (PV.str (bs w)::r.map λx=>PV.str (bs x))=PV.str (bs w)::r.map λx=>PV.str (bs x):=fx (by simp);have hrm:rs.length+1<=aB:=by simp at i3;simp only [aB];omega
   cases hx:w==kX;rotate_left
   .have hwx:=eq_of_beq hx;simp only [ct,hZ,bA,hn1,hn2,htk,hrm,QZ,hx,IF,bf,Q1,go_sem,simprocAttr];refine And.intro (.inr ⟨20,_,rfl,rfl⟩) ?_;refine dp (r,rs++[-1]) ⟨?_,λw hw=>i2 w (by simp [hw]),by simp at i3 |-;omega⟩ (by dsimp only [List.length_cons];omega) ?_
    .show d9 r3=(d9 r).map ((rs++[-1])++·);rw [i1,d9,if_pos hwx];cases d9 r<;>simp
    .simp only [ct,hZ,bA,aP,bu,cp,bQ,cO,BU,go_sem,simprocAttr]
   simp only [ct,hZ,bA,hn1,QZ,hx,go_sem,simprocAttr];refine fO (w::r) 13 14 i2 rfl rfl (λw' r' z' e' n'=>?_) (λhf o=>?_);rotate_left
   .simp only [go_sem,simprocAttr]
    exact aY (e:=6) (by
     rw [hsay,pI];have hnw:=hf w r rfl;have:d9 r3=none:=by rw [i1,d9,if_neg (by simpa using hx),hnw];rfl
     simp only [n1,n2,n3,this]
     rfl) _ rfl
   cases e';simp only [hrm,IF,go_sem,simprocAttr];refine dp (r,rs++[z']) ⟨?_,λw hw=>i2 w (by simp [hw]),by simp at i3 |-;omega⟩ (by dsimp only [List.length_cons];omega) ?_
   .show d9 r3=(d9 r).map ((rs++[z'])++·);rw [i1,d9,if_neg (by simpa using hx),n'];cases d9 r<;>simp
   .simp only [ct,hZ,bA,aP,bu,cp,bQ,cO,BU,go_sem,simprocAttr]
 simp only [JB,c0,go_sem,simprocAttr];cases c1:v==rp;rotate_left
 .have hv:=eq_of_beq c1;subst hv;simp only [Df,c1,go_sem,simprocAttr];refine i8 ws 13 14 rfl rfl (λw1 r1 e1 n1=>?_) (λhf o=>?_);rotate_left
  .simp only [go_sem,simprocAttr];exact aY (e:=6) (by rw [hsay,kC];rcases ws with _ | ⟨x1,_ | ⟨x2,_ | ⟨x3,_ | ⟨x4,_ | ⟨x5,_⟩⟩⟩⟩⟩<;>simp_all [aT]) _ rfl
  subst e1;simp only [ct,bA,go_sem,simprocAttr];refine i8 r1 13 14 rfl rfl (λw2 r2 e2 n2=>?_) (λhf o=>?_);rotate_left
  .simp only [go_sem,simprocAttr];exact aY (e:=6) (by rw [hsay,kC];rcases r1 with _ | ⟨x1,_ | ⟨x2,_ | ⟨x3,_ | ⟨x4,_⟩⟩⟩⟩<;>simp_all [aT]) _ rfl
  subst e2;simp only [ct,bA,go_sem,simprocAttr];refine i8 r2 13 14 rfl rfl (λw3 r3 e3 n3=>?_) (λhf o=>?_);rotate_left
  .simp only [go_sem,simprocAttr];exact aY (e:=6) (by rw [hsay,kC];rcases r2 with _ | ⟨x1,_ | ⟨x2,_ | ⟨x3,_⟩⟩⟩<;>simp_all [aT]) _ rfl
  subst e3;simp only [ct,bA,go_sem,simprocAttr];refine fO r3 13 14 (λw hw=>hwl w (by simp [hw])) rfl rfl (λw4 r4 z4 e4 n4=>?_) (λhf o=>?_);rotate_left
  .simp only [go_sem,simprocAttr];exact aY (e:=6) (by rw [hsay,kC];rcases r3 with _ | ⟨x1,_ | ⟨x2,_⟩⟩<;>simp_all [aT]) _ rfl
  subst e4;simp only [ct,bA,go_sem,simprocAttr]
  cases r4 with
  |cons y q =>
   have hq:(((q.length+1:Nat):Int)==0)=false:=by rw [beq_eq_false_iff_ne];omega
   simp only [hq,go_sem,simprocAttr];refine aq (λh=>by cases h) (λ_=>?_);simp only [go_sem,simprocAttr]
   exact aY (e:=6) (by rw [hsay,kC];simp_all [aT]) _ rfl
  |nil =>
   simp only [go_sem,simprocAttr];refine aq (λ_=>?_) (λh=>by cases h);simp only [go_sem,simprocAttr];have hc:iW line=.ok (.batch w1 w2 w3 z4):=by rw [hsay,kC];simp_all [aT]
   refine f9 hc _ rfl ?_ ?_ (RA s b ex _ n hs hb 10 16 17 18 19 _ _ _ _ rfl rfl rfl rfl rfl)
   .simp only [go_sem,simprocAttr]
   .simp only [go_sem,simprocAttr]
 simp only [Df,c1,go_sem,simprocAttr];cases c2:v==vr;rotate_left
 .have hv:=eq_of_beq c2;subst hv;simp only [F',c2,go_sem,simprocAttr];refine i8 ws 13 14 rfl rfl (λw1 r1 e1 n1=>?_) (λhf o=>?_);rotate_left
  .simp only [go_sem,simprocAttr];exact aY (e:=6) (by rw [hsay,tU];rcases ws with _ | ⟨x1,_ | ⟨x2,_⟩⟩<;>simp_all [aT]) _ rfl
  subst e1;simp only [ct,bA,go_sem,simprocAttr]
  cases r1 with
  |cons y q =>
   have hq:(((q.length+1:Nat):Int)==0)=false:=by rw [beq_eq_false_iff_ne];omega
   simp only [hq,go_sem,simprocAttr];refine aq (λh=>by cases h) (λ_=>?_);simp only [go_sem,simprocAttr]
   exact aY (e:=6) (by rw [hsay,tU];simp_all [aT]) _ rfl
  |nil =>
   simp only [go_sem,simprocAttr];refine aq (λ_=>?_) (λh=>by cases h);simp only [go_sem,simprocAttr];have hc:iW line=.ok (.drop w1):=by rw [hsay,tU];simp_all [aT]
   refine f9 hc _ rfl ?_ ?_ (Rv s b ex _ n hs hb 10 16 _ rfl rfl)
   .simp only [go_sem,simprocAttr]
   .simp only [go_sem,simprocAttr]
 simp only [F',c2,go_sem,simprocAttr];cases c3:v==vp;rotate_left
 .have hv:=eq_of_beq c3;subst hv;simp only [F8,c3,go_sem,simprocAttr];refine i8 ws 13 14 rfl rfl (λw1 r1 e1 n1=>?_) (λhf o=>?_);rotate_left
  .simp only [go_sem,simprocAttr];exact aY (e:=6) (by rw [hsay,tT];rcases ws with _ | ⟨x1,_ | ⟨x2,_⟩⟩<;>simp_all [aT]) _ rfl
  subst e1;simp only [ct,bA,go_sem,simprocAttr]
  cases r1 with
  |cons y q =>
   have hq:(((q.length+1:Nat):Int)==0)=false:=by rw [beq_eq_false_iff_ne];omega
   simp only [hq,go_sem,simprocAttr];refine aq (λh=>by cases h) (λ_=>?_);simp only [go_sem,simprocAttr]
   exact aY (e:=6) (by rw [hsay,tT];simp_all [aT]) _ rfl
  |nil =>
   simp only [go_sem,simprocAttr];refine aq (λ_=>?_) (λh=>by cases h);simp only [go_sem,simprocAttr];have hc:iW line=.ok (.plan w1):=by rw [hsay,tT];simp_all [aT]
   refine f9 hc _ rfl ?_ ?_ (Ru s b ex _ n hs hb 10 16 _ rfl rfl)
   .simp only [go_sem,simprocAttr]
   .simp only [go_sem,simprocAttr]
 simp only [F8,c3,go_sem,simprocAttr];cases c4:v==vo;rotate_left
 .have hv:=eq_of_beq c4;subst hv;simp only [F7,c4,go_sem,simprocAttr];refine i8 ws 13 14 rfl rfl (λw1 r1 e1 n1=>?_) (λhf o=>?_);rotate_left
  .simp only [go_sem,simprocAttr];exact aY (e:=6) (by rw [hsay,tS];rcases ws with _ | ⟨x1,_ | ⟨x2,_⟩⟩<;>simp_all [aT]) _ rfl
  subst e1;simp only [ct,bA,go_sem,simprocAttr]
  cases r1 with
  |cons y q =>
   have hq:(((q.length+1:Nat):Int)==0)=false:=by rw [beq_eq_false_iff_ne];omega
   simp only [hq,go_sem,simprocAttr];refine aq (λh=>by cases h) (λ_=>?_);simp only [go_sem,simprocAttr]
   exact aY (e:=6) (by rw [hsay,tS];simp_all [aT]) _ rfl
  |nil =>
   simp only [go_sem,simprocAttr];refine aq (λ_=>?_) (λh=>by cases h);simp only [go_sem,simprocAttr];have hc:iW line=.ok (.pour w1):=by rw [hsay,tS];simp_all [aT]
   refine f9 hc _ rfl ?_ ?_ (Rt s b ex _ n hs hb 10 16 _ rfl rfl)
   .simp only [go_sem,simprocAttr]
   .simp only [go_sem,simprocAttr]
 simp only [F7,c4,go_sem,simprocAttr];cases c5:v==nb;rotate_left
 .have hv:=eq_of_beq c5;subst hv;simp only [yf,c5,go_sem,simprocAttr];refine i8 ws 13 14 rfl rfl (λw1 r1 e1 n1=>?_) (λhf o=>?_);rotate_left
  .simp only [go_sem,simprocAttr];exact aY (e:=6) (by rw [hsay,pH];rcases ws with _ | ⟨x1,_ | ⟨x2,_⟩⟩<;>simp_all [aT]) _ rfl
  subst e1;simp only [ct,bA,go_sem,simprocAttr]
  cases r1 with
  |cons y q =>
   have hq:(((q.length+1:Nat):Int)==0)=false:=by rw [beq_eq_false_iff_ne];omega
   simp only [hq,go_sem,simprocAttr];refine aq (λh=>by cases h) (λ_=>?_);simp only [go_sem,simprocAttr]
   exact aY (e:=6) (by rw [hsay,pH];simp_all [aT]) _ rfl
  |nil =>
   simp only [go_sem,simprocAttr];refine aq (λ_=>?_) (λh=>by cases h);simp only [go_sem,simprocAttr];have hc:iW line=.ok (.promise w1):=by rw [hsay,pH];simp_all [aT]
   refine f9 hc _ rfl ?_ ?_ (Mf s b ex _ n hs hb 10 16 _ rfl rfl)
   .simp only [go_sem,simprocAttr]
   .simp only [go_sem,simprocAttr]
 simp only [yf,c5,go_sem,simprocAttr];cases c6:v==zC;rotate_left
 .have hv:=eq_of_beq c6;subst hv;simp only [JC,c6,go_sem,simprocAttr];refine i8 ws 13 14 rfl rfl (λw1 r1 e1 n1=>?_) (λhf o=>?_);rotate_left
  .simp only [go_sem,simprocAttr];exact aY (e:=6) (by rw [hsay,sn];rcases ws with _ | ⟨x1,_ | ⟨x2,_ | ⟨x3,_⟩⟩⟩<;>simp_all [aT]) _ rfl
  subst e1;simp only [ct,bA,go_sem,simprocAttr];refine fO r1 13 14 (λw hw=>hwl w (by simp [hw])) rfl rfl (λw2 r2 z2 e2 n2=>?_) (λhf o=>?_);rotate_left
  .simp only [go_sem,simprocAttr];exact aY (e:=6) (by rw [hsay,sn];rcases r1 with _ | ⟨x1,_ | ⟨x2,_⟩⟩<;>simp_all [aT]) _ rfl
  subst e2;simp only [ct,bA,go_sem,simprocAttr]
  cases r2 with
  |cons y q =>
   have hq:(((q.length+1:Nat):Int)==0)=false:=by rw [beq_eq_false_iff_ne];omega
   simp only [hq,go_sem,simprocAttr];refine aq (λh=>by cases h) (λ_=>?_);simp only [go_sem,simprocAttr]
   exact aY (e:=6) (by rw [hsay,sn];simp_all [aT]) _ rfl
  |nil =>
   simp only [go_sem,simprocAttr];refine aq (λ_=>?_) (λh=>by cases h);simp only [go_sem,simprocAttr];have hc:iW line=.ok (.box w1 z2):=by rw [hsay,sn];simp_all [aT]
   refine f9 hc _ rfl ?_ ?_ (Zi s b ex _ n hs hb 10 16 17 _ _ rfl rfl rfl)
   .simp only [go_sem,simprocAttr]
   .simp only [go_sem,simprocAttr]
 simp only [JC,c6,go_sem,simprocAttr];cases c7:v==vq;rotate_left
 .have hv:=eq_of_beq c7;subst hv;simp only [F9,c7,go_sem,simprocAttr]
  cases ws with
  |cons y q =>
   have hq:(((q.length+1:Nat):Int)==0)=false:=by rw [beq_eq_false_iff_ne];omega
   simp only [hq,ct,bA,go_sem,simprocAttr];refine aq (λh=>by cases h) (λ_=>?_);simp only [go_sem,simprocAttr]
   exact aY (e:=6) (by rw [hsay,Ar];simp_all [aT]) _ rfl
  |nil =>
   simp only [ct,bA,go_sem,simprocAttr];refine aq (λ_=>?_) (λh=>by cases h);simp only [go_sem,simprocAttr];have hc:iW line=.ok (.look):=by rw [hsay,Ar];simp_all [aT]
   refine f9 hc _ rfl ?_ ?_ (jb (HU s b ex n hb) (by simp only [go_sem,simprocAttr]) _)
   .simp only [go_sem,simprocAttr]
   .simp only [go_sem,simprocAttr]
 simp only [F9,c7,go_sem,simprocAttr];cases c8:v==vn;rotate_left
 .have hv:=eq_of_beq c8;subst hv;simp only [F6,c8,go_sem,simprocAttr];refine i8 ws 13 14 rfl rfl (λw1 r1 e1 n1=>?_) (λhf o=>?_);rotate_left
  .simp only [go_sem,simprocAttr];exact aY (e:=6) (by rw [hsay,j7];rcases ws with _ | ⟨x1,_ | ⟨x2,_ | ⟨x3,_ | ⟨x4,_ | ⟨x5,_ | ⟨x6,_⟩⟩⟩⟩⟩⟩<;>simp_all [aT]) _ rfl
  subst e1;simp only [ct,bA,go_sem,simprocAttr];refine fO r1 13 14 (λw hw=>hwl w (by simp [hw])) rfl rfl (λw2 r2 z2 e2 n2=>?_) (λhf o=>?_);rotate_left
  .simp only [go_sem,simprocAttr];exact aY (e:=6) (by rw [hsay,j7];rcases r1 with _ | ⟨x1,_ | ⟨x2,_ | ⟨x3,_ | ⟨x4,_ | ⟨x5,_⟩⟩⟩⟩⟩<;>simp_all [aT]) _ rfl
  subst e2;simp only [ct,bA,go_sem,simprocAttr];refine fO r2 13 14 (λw hw=>hwl w (by simp [hw])) rfl rfl (λw3 r3 z3 e3 n3=>?_) (λhf o=>?_);rotate_left
  .simp only [go_sem,simprocAttr];exact aY (e:=6) (by rw [hsay,j7];rcases r2 with _ | ⟨x1,_ | ⟨x2,_ | ⟨x3,_ | ⟨x4,_⟩⟩⟩⟩<;>simp_all [aT]) _ rfl
  subst e3;simp only [ct,bA,go_sem,simprocAttr];refine fO r3 13 14 (λw hw=>hwl w (by simp [hw])) rfl rfl (λw4 r4 z4 e4 n4=>?_) (λhf o=>?_);rotate_left
  .simp only [go_sem,simprocAttr];exact aY (e:=6) (by rw [hsay,j7];rcases r3 with _ | ⟨x1,_ | ⟨x2,_ | ⟨x3,_⟩⟩⟩<;>simp_all [aT]) _ rfl
  subst e4;simp only [ct,bA,go_sem,simprocAttr];refine fO r4 13 14 (λw hw=>hwl w (by simp [hw])) rfl rfl (λw5 r5 z5 e5 n5=>?_) (λhf o=>?_);rotate_left
  .simp only [go_sem,simprocAttr];exact aY (e:=6) (by rw [hsay,j7];rcases r4 with _ | ⟨x1,_ | ⟨x2,_⟩⟩<;>simp_all [aT]) _ rfl
  subst e5;simp only [ct,bA,go_sem,simprocAttr]
  cases r5 with
  |cons y q =>
   have hq:(((q.length+1:Nat):Int)==0)=false:=by rw [beq_eq_false_iff_ne];omega
   simp only [hq,go_sem,simprocAttr];refine aq (λh=>by cases h) (λ_=>?_);simp only [go_sem,simprocAttr]
   exact aY (e:=6) (by rw [hsay,j7];simp_all [aT]) _ rfl
  |nil =>
   simp only [go_sem,simprocAttr];refine aq (λ_=>?_) (λh=>by cases h);simp only [go_sem,simprocAttr];have hc:iW line=.ok (.wick w1 z2 z3 z4 z5):=by rw [hsay,j7];simp_all [aT]
   refine f9 hc _ rfl ?_ ?_ (Wn s b ex _ n hs hb 10 16 17 _ _ _ _ _ rfl rfl rfl)
   .simp only [go_sem,simprocAttr]
   .simp only [go_sem,simprocAttr]
 simp only [F6,c8,go_sem,simprocAttr];cases c9:v==ro;rotate_left
 .have hv:=eq_of_beq c9;subst hv;simp only [De,c9,go_sem,simprocAttr];refine fO ws 13 14 (λw hw=>hwl w (by simp [hw])) rfl rfl (λw1 r1 z1 e1 n1=>?_) (λhf o=>?_);rotate_left
  .simp only [go_sem,simprocAttr];exact aY (e:=6) (by rw [hsay,l9];rcases ws with _ | ⟨x1,_ | ⟨x2,_ | ⟨x3,_ | ⟨x4,_⟩⟩⟩⟩<;>simp_all [aT]) _ rfl
  subst e1;simp only [ct,bA,go_sem,simprocAttr];refine fO r1 13 14 (λw hw=>hwl w (by simp [hw])) rfl rfl (λw2 r2 z2 e2 n2=>?_) (λhf o=>?_);rotate_left
  .simp only [go_sem,simprocAttr];exact aY (e:=6) (by rw [hsay,l9];rcases r1 with _ | ⟨x1,_ | ⟨x2,_ | ⟨x3,_⟩⟩⟩<;>simp_all [aT]) _ rfl
  subst e2;simp only [ct,bA,go_sem,simprocAttr];refine fO r2 13 14 (λw hw=>hwl w (by simp [hw])) rfl rfl (λw3 r3 z3 e3 n3=>?_) (λhf o=>?_);rotate_left
  .simp only [go_sem,simprocAttr];exact aY (e:=6) (by rw [hsay,l9];rcases r2 with _ | ⟨x1,_ | ⟨x2,_⟩⟩<;>simp_all [aT]) _ rfl
  subst e3;simp only [ct,bA,go_sem,simprocAttr]
  cases r3 with
  |cons y q =>
   have hq:(((q.length+1:Nat):Int)==0)=false:=by rw [beq_eq_false_iff_ne];omega
   simp only [hq,go_sem,simprocAttr];refine aq (λh=>by cases h) (λ_=>?_);simp only [go_sem,simprocAttr]
   exact aY (e:=6) (by rw [hsay,l9];simp_all [aT]) _ rfl
  |nil =>
   simp only [go_sem,simprocAttr];refine aq (λ_=>?_) (λh=>by cases h);simp only [go_sem,simprocAttr];have hc:iW line=.ok (.blend z1 z2 z3):=by rw [hsay,l9];simp_all [aT]
   refine f9 hc _ rfl ?_ ?_ (Rz s b ex _ n hs hb 10 16 _ _ _ rfl rfl)
   .simp only [go_sem,simprocAttr]
   .simp only [go_sem,simprocAttr]
 simp only [De,c9,go_sem,simprocAttr];cases c10:v==rn;rotate_left
 .have hv:=eq_of_beq c10;subst hv;simp only [Dd,c10,go_sem,simprocAttr]
  cases ws with
  |cons y q =>
   have hq:(((q.length+1:Nat):Int)==0)=false:=by rw [beq_eq_false_iff_ne];omega
   simp only [hq,ct,bA,go_sem,simprocAttr];refine aq (λh=>by cases h) (λ_=>?_);simp only [go_sem,simprocAttr]
   exact aY (e:=6) (by rw [hsay,xK];simp_all [aT]) _ rfl
  |nil =>
   simp only [ct,bA,go_sem,simprocAttr];refine aq (λ_=>?_) (λh=>by cases h);simp only [go_sem,simprocAttr];have hc:iW line=.ok (.stock):=by rw [hsay,xK];simp_all [aT]
   refine f9 hc _ rfl ?_ ?_ (jb (Q6 s b ex n hs hb) (by simp only [go_sem,simprocAttr]) _)
   .simp only [go_sem,simprocAttr]
   .simp only [go_sem,simprocAttr]
 simp only [Dd,c10,kF,go_sem,simprocAttr];refine aq (λh=>by cases h) (λ_=>?_);simp only [go_sem,simprocAttr];exact aY (e:=6) (by rw [hsay,Of c0 c1 c2 c3 c4 c5 c6 c7 c8 c9 c10];rfl) _ rfl
end Ch
end Abs
end Go.Proofs.YtfafnkpfamgbbaaGreatDoor
