/- CONTRACTS: chandler: read. No conditions but those in the theorems' heads. -/
import Derived.Test.YtnjiadikeacfaaaGreatDoorChRepX
set_option linter.all false
namespace Go.Proofs.YtnjiadikeacfaaaGreatDoor
namespace Abs
namespace Ch
set_option maxRecDepth 4000
def D3:Heap:=[.row 1 [.p (.str .empty)],.row 1 [.p (.bool false)],.row 1 [.p (.int .i64 0)]]
def U0 (s:ChShop) (b:ChBooks) (ex:List PV):Heap:=B7 s b ex++D3
attribute [go_sem] D3 U0
def uG (s:ChShop) (b:ChBooks) (ex:List PV) (line:List UInt8) (r:AEnd) (h':Heap):Prop:=
 match fj line with
 |.error e=>r=.panic (f9 e)/\∃t,t.take 3=D3/\h'=H7 s b ex t
 |.ok c=>∃F first caps t,t.take 3=D3/\r=.ret (.agg [.p (.bool c.written),.func (.func F) first caps])/\h'=H7 s b ex t/\(∀o,o∈h'->bf h'.length o)/\(∀a,a∈first++caps->below h'.length a)/\aB Tryz.prog F (first++caps) h' (js s b ex t (aP s b c))
theorem bq{s}{b}{ex}{line}{e}(h:fj line=.error e){h'}(t)(hh:h'=B7 s b ex++t)(h3:t.take 3=D3:=by rfl):uG s b ex line (.panic (f9 e)) h':=by
 unfold uG;rw[h];exact⟨rfl,t,h3,hh⟩
theorem I7(c):∀(l),∀w,w∈aQ c l->w.length<=l.length:=by
 intro l
 induction l with
 |nil=>intro w hw;simp[aQ]at hw;subst hw;exact bi _
 |cons x r ih=>
  intro w hw;rw[aQ]at hw;split at hw
  .rcases ce.1 hw with rfl|hw
   .exact cV _
   .exact Nat.le_succ_of_le (ih w hw)
  .split at hw
   .rename_i h;exact absurd h (BX _ _)
   .rename_i a t h;rw[h]at ih;rcases ce.1 hw with rfl|hw
    .have:=ih a (by simp);simp only[cc];omega
    .exact Nat.le_succ_of_le (ih w (by simp[hw]))
def ba (o:Option Cmd):Except Int Cmd:=match o with|some c=>.ok c|none=>.error 6
theorem KV{line}{v}{ws}(h1:¬400<line.length)(h2:¬line.take 5=gN)(hsp:aQ 32 line=v::ws):fj line=ba (ff v ws):=by
 unfold fj;rw[if_neg h1,if_neg h2,hsp];rfl
theorem qH(ws):ff vG ws=(match ws with|n::k::g::r=>(match cS n,cS k,eP g,eb r with|some n,some k,some g,some r=>some (.lot n k g r)|_,_,_,_=>none)|_=>none):=by unfold ff;rw[if_pos rfl];rfl
theorem ll(ws):ff oW ws=(match ws with|[n,c,l,g]=>(match cS n,cS c,cS l,eP g with|some n,some c,some l,some g=>some (.batch n c l g)|_,_,_,_=>none)|_=>none):=by
 unfold ff;rw[if_neg (by decide),if_pos rfl];rfl
theorem vh(ws):ff rR ws=(match ws with|[n]=>(cS n).map .drop|_=>none):=by
 unfold ff;rw[if_neg (by decide),if_neg (by decide),if_pos rfl];rfl
theorem vg(ws):ff uf ws=(match ws with|[n]=>(cS n).map .plan|_=>none):=by
 unfold ff;rw[if_neg (by decide),if_neg (by decide),if_neg (by decide),if_pos rfl];rfl
theorem ve(ws):ff rQ ws=(match ws with|[n]=>(cS n).map .pour|_=>none):=by
 unfold ff;rw[if_neg (by decide),if_neg (by decide),if_neg (by decide),if_neg (by decide),if_pos rfl];rfl
theorem qG(ws):ff mq ws=(match ws with|[n]=>(cS n).map .promise|_=>none):=by
 unfold ff;rw[if_neg (by decide),if_neg (by decide),if_neg (by decide),if_neg (by decide),if_neg (by decide),if_pos rfl];rfl
theorem tH(ws):ff vH ws=(match ws with|[n,g]=>(match cS n,eP g with|some n,some g=>some (.box n g)|_,_=>none)|_=>none):=by
 unfold ff;rw[if_neg (by decide),if_neg (by decide),if_neg (by decide),if_neg (by decide),if_neg (by decide),if_neg (by decide),if_pos rfl];rfl
theorem B0(ws):ff ug ws=(match ws with|[]=>some .look|_=>none):=by
 unfold ff;rw[if_neg (by decide),if_neg (by decide),if_neg (by decide),if_neg (by decide),if_neg (by decide),if_neg (by decide),if_neg (by decide),if_pos rfl];rfl
theorem kN(ws):ff ue ws=(match ws with|[n,a,b,c,d]=>(match cS n,eP a,eP b,eP c,eP d with|some n,some a,some b,some c,some d=>some (.wick n a b c d)|_,_,_,_,_=>none)|_=>none):=by
 unfold ff;rw[if_neg (by decide),if_neg (by decide),if_neg (by decide),if_neg (by decide),if_neg (by decide),if_neg (by decide),if_neg (by decide),if_neg (by decide),if_pos rfl];rfl
theorem mW(ws):ff qS ws=(match ws with|[a,b,c]=>(match eP a,eP b,eP c with|some a,some b,some c=>some (.blend a b c)|_,_,_=>none)|_=>none):=by
 unfold ff;rw[if_neg (by decide),if_neg (by decide),if_neg (by decide),if_neg (by decide),if_neg (by decide),if_neg (by decide),if_neg (by decide),if_neg (by decide),if_neg (by decide),if_pos rfl];rfl
theorem zq(ws):ff qR ws=(match ws with|[]=>some .stock|_=>none):=by
 unfold ff;rw[if_neg (by decide),if_neg (by decide),if_neg (by decide),if_neg (by decide),if_neg (by decide),if_neg (by decide),if_neg (by decide),if_neg (by decide),if_neg (by decide),if_neg (by decide),if_pos rfl];rfl
theorem Qy{v}{ws}(c0:(v==vG)=false)(c1:(v==oW)=false)(c2:(v==rR)=false)(c3:(v==uf)=false)(c4:(v==rQ)=false)(c5:(v==mq)=false)(c6:(v==vH)=false)(c7:(v==ug)=false)
  (c8:(v==ue)=false) (c9:(v==qS)=false) (c10:(v==qR)=false):ff v ws=none:=by
 rw[beq_eq_false_iff_ne]at c0 c1 c2 c3 c4 c5 c6 c7 c8 c9 c10;unfold ff;rw[if_neg c0,if_neg c1,if_neg c2,if_neg c3,if_neg c4,if_neg c5,if_neg c6,if_neg c7,if_neg c8,if_neg c9,if_neg c10]
theorem LD(v):(bs v==({ data:=#[108,111,116] }:ByteArray))=(v==vG):=dH v vG
theorem E0(v):(bs v==({ data:=#[98,97,116,99,104] }:ByteArray))=(v==oW):=dH v oW
theorem HW(v):(bs v==({ data:=#[100,114,111,112] }:ByteArray))=(v==rR):=dH v rR
theorem HU(v):(bs v==({ data:=#[112,108,97,110] }:ByteArray))=(v==uf):=dH v uf
theorem HT(v):(bs v==({ data:=#[112,111,117,114] }:ByteArray))=(v==rQ):=dH v rQ
theorem zQ(v):(bs v==({ data:=#[112,114,111,109,105,115,101] }:ByteArray))=(v==mq):=dH v mq
theorem LE(v):(bs v==({ data:=#[98,111,120] }:ByteArray))=(v==vH):=dH v vH
theorem HV(v):(bs v==({ data:=#[108,111,111,107] }:ByteArray))=(v==ug):=dH v ug
theorem HS(v):(bs v==({ data:=#[119,105,99,107] }:ByteArray))=(v==ue):=dH v ue
theorem EZ(v):(bs v==({ data:=#[98,108,101,110,100] }:ByteArray))=(v==qS):=dH v qS
theorem EY(v):(bs v==({ data:=#[115,116,111,99,107] }:ByteArray))=(v==qR):=dH v qR
theorem kF:bS Tryz.prog 91=.func:=by kernel_rfl
def DB (v:Int):AV:=.p (aG v)
theorem RZ(n)(x):below n (DB x)=True:=eq_true trivial
attribute [go_sem] RZ
theorem Tp(v):(bs v==({ data:=#[120] }:ByteArray))=(v==kX):=dH v kX
theorem keepS(n)(a)(h):fY (n+1) (a::h)=.dead::fY n h:=by
 unfold fY;rw[List.mapIdx_cons]
 congr 1
 .apply qu;intro i;simp
theorem Vy(a)(h):fY 0 (a::h)=a::h.map λ_=>.dead:=by
 unfold fY;rw[List.mapIdx_cons]
 congr 1
 apply qu;intro i;simp
theorem Tr(a0 a1 a2 a3 a4 a5 a6 a7 a8 a9 a10 a11 a12 a13)(h):fY 13 (a0::a1::a2::a3::a4::a5::a6::a7::a8::a9::a10::a11::a12::a13::h)=.dead::.dead::.dead::.dead::.dead::.dead::.dead::.dead::.dead::.dead::.dead::.dead::.dead::a13::h.map λ_=>.dead:=by
 rw[keepS,keepS,keepS,keepS,keepS,keepS,keepS,keepS,keepS,keepS,keepS,keepS,keepS,Vy]
def Kx:Hints:=eu [(66,.app 64),(67,.low),(68,.low),(1015066,.sto),(5000001,.app 7)]
theorem Th:cv Kx Tryz.f98=true:=by kernel_rfl
theorem gT{s}{b}{ex}{line}{c}(h:fj line=.ok c){F}{first caps}{h'}(t)(hh:h'=H7 s b ex t)(ho:∀o,o∈h'->bf h'.length o)(ha:∀a,a∈first++caps->below h'.length a)
  (hc:aB Tryz.prog F (first++caps) (H7 s b ex t) (js s b ex t (aP s b c))) (h3:t.take 3=D3:=by rfl):uG s b ex line (.ret (.agg [.p (.bool c.written),.func (.func F) first caps])) h':=by
 unfold uG;rw[h];subst hh;exact⟨F,first,caps,t,h3,rfl,rfl,ho,ha,hc⟩
set_option maxHeartbeats 4000000 in
theorem VD(s)(b)(ex)(n)(hs:SOk s)(hb:BkOk s b n)(line):aB Tryz.prog 98 [.ptr 2 1 0 0,.p (.str (bs line))] (U0 s b ex) (uG s b ex line):=by
 refine aA (eA (by kernel_rfl) rfl Th) rfl ?_;simp only[go_sem,simprocAttr];refine au (λh1=>?_) (λh1=>?_);rotate_left
 .have h1':400<line.length:=by rw[aw]at h1;simp at h1;omega
  simp only[go_sem,simprocAttr];exact bq (e:=3) (by rw[fj,if_pos h1']) _ rfl
 have h1':¬400<line.length:=by rw[aw]at h1;simp at h1;omega
 simp only[go_sem,simprocAttr];have hl9:line.length<1000000000:=by omega
 refine ae (J6 line gN hl9 (by decide)) rfl ?_;by_cases h2:line.take 5=gN
 .have e1:decide (line.take gN.length=gN)=true:=decide_eq_true h2;have e2:(if line.take gN.length=gN then line.drop gN.length else line)=line.drop 5:=if_pos h2;simp only[e1,e2,go_sem,simprocAttr];refine gT (c:=.test (line.drop 5)) (by rw[fj,if_neg h1',if_pos h2]) _ rfl ?_ ?_ (VQ s b ex _ n hs hb 10 12 _ rfl rfl)
  .simp only[go_sem,simprocAttr]
  .simp only[go_sem,simprocAttr]
 have e1:decide (line.take gN.length=gN)=false:=decide_eq_false h2;have e2:(if line.take gN.length=gN then line.drop gN.length else line)=line:=if_neg h2;have hww:=I7 32 line;simp only[e1,e2,go_sem,simprocAttr];refine ae (CE line 32 hl9) rfl ?_
 cases hsp:aQ 32 line with
 |nil=>exact absurd hsp (BX _ _)
 |cons v ws=>
 rw[hsp]at hww;have hsay:=KV h1' h2 hsp;have hwl:∀w,w∈ws->w.length<=1000000:=λw hw=>by have:=hww w (by simp[hw]);omega
 simp only[bM,go_sem,simprocAttr];refine ct (z7 v ws 13 _ rfl) ?_;simp only[go_sem,simprocAttr];cases c0:v==vG;rotate_left
 .have hv:=eq_of_beq c0;subst hv;simp only[LD,c0,go_sem,simprocAttr];refine jH ws 13 14 rfl rfl (λw1 r1 e1 n1=>?_) (λhf o=>?_);rotate_left
  .simp only[go_sem,simprocAttr];exact bq (e:=6) (by rw[hsay,qH];rcases ws with _|⟨x1,_|⟨x2,_|⟨x3,_|⟨x4,_|⟨x5,_⟩⟩⟩⟩⟩<;>simp_all [ba]) _ rfl
  subst e1;simp only[cQ,bM,go_sem,simprocAttr];refine jH r1 13 14 rfl rfl (λw2 r2 e2 n2=>?_) (λhf o=>?_);rotate_left
  .simp only[go_sem,simprocAttr];exact bq (e:=6) (by rw[hsay,qH];rcases r1 with _|⟨x1,_|⟨x2,_|⟨x3,_|⟨x4,_⟩⟩⟩⟩<;>simp_all [ba]) _ rfl
  subst e2;simp only[cQ,bM,go_sem,simprocAttr];refine gF r2 13 14 (λw hw=>hwl w (by simp[hw])) rfl rfl (λw3 r3 z3 e3 n3=>?_) (λhf o=>?_);rotate_left
  .simp only[go_sem,simprocAttr];exact bq (e:=6) (by rw[hsay,qH];rcases r2 with _|⟨x1,_|⟨x2,_|⟨x3,_⟩⟩⟩<;>simp_all [ba]) _ rfl
  subst e3;simp only[cQ,bM,go_sem,simprocAttr];have hr3:r3.length<=400:=by
   have h:=rI 32 line;rw[hsp]at h;simp at h;omega
  refine BI [2,4,7,10,11,12,13,14,15] 19 1 (show 10<=19 by decide) (show 10<=20 by decide) rfl ?_ ?_ rfl ?_
  .simp only[go_sem,simprocAttr]
  .simp only[go_sem,simprocAttr]
  simp only[go_sem,simprocAttr]
  refine fp [2,4,7,10,11,12,13,14,15] (σ:=List (List UInt8)×List Int) (λq=>eb r3=(eb q.1).map (q.2++·)/\(∀w,w∈q.1->w.length<=1000000)/\q.2.length+q.1.length=r3.length) (λq=>q.1.length) (λq=>[])
   (λq=>U0 s b ex++[.row 1 [.ptr 2 1 0 0],.row 2 [.p (.agg [.bool false,.nilfunc])],.row 1 [.p (.str (bs line))],cQ q.1,iP 13,.row 2 [.p (.agg [.bool false,.nilfunc])],.row 1 [.p (.str (bs w1))],.row 1 [.p (.str (bs w2))],.row 1 [.p (.int .i64 z3)],.row 1 [.slice 20 q.2.length 0 q.2.length],.row 1 (q.2.map DB)])
   (r3,[]) ⟨?_,λw hw=>hwl w (by simp[hw]),by simp⟩ ?_ ?_
  .show eb r3=(eb r3).map ([]++·);cases eb r3<;>rfl
  .simp only[cQ,iP,bM,go_sem,simprocAttr]
  rintro⟨q,rs⟩ ⟨i1,i2,i3⟩
  dsimp only at i1 i2 i3
  cases q with
  |nil=>
   have hc:fj line=.ok (.lot w1 w2 z3 rs):=by
    rw[hsay,qH];have:eb r3=some rs:=by rw[i1];simp[eb]
    simp only[n1,n2,n3,this];rfl
   simp only[cQ,iP,bM,kF,go_sem,simprocAttr];refine au (λ_=>?_) (λh=>by cases h);simp only[go_sem,simprocAttr];refine gT hc _ rfl ?_ ?_ (X7 s b ex _ n hs hb 10 16 17 18 19 20 _ _ _ rs (by simp at i3;omega) rfl rfl rfl rfl rfl (by decide) rfl)
   .simp only[go_sem,simprocAttr]
   .simp only[go_sem,simprocAttr]
  |cons w r=>
   have hn0:decide ((0:Int)<((r.length+1:Nat):Int))=true:=decide_eq_true (by omega);have hn1:(0:Int)<((r.length+1:Nat):Int):=by omega
   have hn2:(1:Int)<=((r.length+1:Nat):Int):=by omega
   have htk:List.take (r.length+1) (PV.str (bs w)::r.map λx=>PV.str (bs x))=PV.str (bs w)::r.map λx=>PV.str (bs x):=gv (by simp);have hrm:rs.length+1<=ar:=by simp at i3;simp only[ar];omega
   cases hx:w==kX;rotate_left
   .have hwx:=eq_of_beq hx;simp only[cQ,iP,bM,hn1,hn2,htk,hrm,Tp,hx,Kx,aV,Tr,go_sem,simprocAttr];refine And.intro (.inr ⟨20,_,rfl,rfl⟩) ?_;refine bY (r,rs++[-1]) ⟨?_,λw hw=>i2 w (by simp[hw]),by simp at i3 |-;omega⟩ (by dsimp only[List.length_cons];omega) ?_
    .show eb r3=(eb r).map ((rs++[-1])++·);rw[i1,eb,if_pos hwx];cases eb r<;>simp
    .simp only[cQ,iP,bM,aK,bt,ca,bD,bj,DB,go_sem,simprocAttr]
   simp only[cQ,iP,bM,hn1,Tp,hx,go_sem,simprocAttr];refine gF (w::r) 13 14 i2 rfl rfl (λw' r' z' e' n'=>?_) (λhf o=>?_);rotate_left
   .simp only[go_sem,simprocAttr]
    exact bq (e:=6) (by
     rw[hsay,qH];have hnw:=hf w r rfl;have:eb r3=none:=by rw[i1,eb,if_neg (by simpa using hx),hnw];rfl
     simp only[n1,n2,n3,this]
     rfl) _ rfl
   cases e';simp only[hrm,Kx,go_sem,simprocAttr];refine bY (r,rs++[z']) ⟨?_,λw hw=>i2 w (by simp[hw]),by simp at i3 |-;omega⟩ (by dsimp only[List.length_cons];omega) ?_
   .show eb r3=(eb r).map ((rs++[z'])++·);rw[i1,eb,if_neg (by simpa using hx),n'];cases eb r<;>simp
   .simp only[cQ,iP,bM,aK,bt,ca,bD,bj,DB,go_sem,simprocAttr]
 simp only[LD,c0,go_sem,simprocAttr];cases c1:v==oW;rotate_left
 .have hv:=eq_of_beq c1;subst hv;simp only[E0,c1,go_sem,simprocAttr];refine jH ws 13 14 rfl rfl (λw1 r1 e1 n1=>?_) (λhf o=>?_);rotate_left
  .simp only[go_sem,simprocAttr];exact bq (e:=6) (by rw[hsay,ll];rcases ws with _|⟨x1,_|⟨x2,_|⟨x3,_|⟨x4,_|⟨x5,_⟩⟩⟩⟩⟩<;>simp_all [ba]) _ rfl
  subst e1;simp only[cQ,bM,go_sem,simprocAttr];refine jH r1 13 14 rfl rfl (λw2 r2 e2 n2=>?_) (λhf o=>?_);rotate_left
  .simp only[go_sem,simprocAttr];exact bq (e:=6) (by rw[hsay,ll];rcases r1 with _|⟨x1,_|⟨x2,_|⟨x3,_|⟨x4,_⟩⟩⟩⟩<;>simp_all [ba]) _ rfl
  subst e2;simp only[cQ,bM,go_sem,simprocAttr];refine jH r2 13 14 rfl rfl (λw3 r3 e3 n3=>?_) (λhf o=>?_);rotate_left
  .simp only[go_sem,simprocAttr];exact bq (e:=6) (by rw[hsay,ll];rcases r2 with _|⟨x1,_|⟨x2,_|⟨x3,_⟩⟩⟩<;>simp_all [ba]) _ rfl
  subst e3;simp only[cQ,bM,go_sem,simprocAttr];refine gF r3 13 14 (λw hw=>hwl w (by simp[hw])) rfl rfl (λw4 r4 z4 e4 n4=>?_) (λhf o=>?_);rotate_left
  .simp only[go_sem,simprocAttr];exact bq (e:=6) (by rw[hsay,ll];rcases r3 with _|⟨x1,_|⟨x2,_⟩⟩<;>simp_all [ba]) _ rfl
  subst e4;simp only[cQ,bM,go_sem,simprocAttr]
  cases r4 with
  |cons y q=>
   have hq:(((q.length+1:Nat):Int)==0)=false:=by rw[beq_eq_false_iff_ne];omega
   simp only[hq,go_sem,simprocAttr];refine au (λh=>by cases h) (λ_=>?_);simp only[go_sem,simprocAttr]
   exact bq (e:=6) (by rw[hsay,ll];simp_all [ba]) _ rfl
  |nil=>
   simp only[go_sem,simprocAttr];refine au (λ_=>?_) (λh=>by cases h);simp only[go_sem,simprocAttr];have hc:fj line=.ok (.batch w1 w2 w3 z4):=by rw[hsay,ll];simp_all [ba]
   refine gT hc _ rfl ?_ ?_ (T7 s b ex _ n hs hb 10 16 17 18 19 _ _ _ _ rfl rfl rfl rfl rfl)
   .simp only[go_sem,simprocAttr]
   .simp only[go_sem,simprocAttr]
 simp only[E0,c1,go_sem,simprocAttr];cases c2:v==rR;rotate_left
 .have hv:=eq_of_beq c2;subst hv;simp only[HW,c2,go_sem,simprocAttr];refine jH ws 13 14 rfl rfl (λw1 r1 e1 n1=>?_) (λhf o=>?_);rotate_left
  .simp only[go_sem,simprocAttr];exact bq (e:=6) (by rw[hsay,vh];rcases ws with _|⟨x1,_|⟨x2,_⟩⟩<;>simp_all [ba]) _ rfl
  subst e1;simp only[cQ,bM,go_sem,simprocAttr]
  cases r1 with
  |cons y q=>
   have hq:(((q.length+1:Nat):Int)==0)=false:=by rw[beq_eq_false_iff_ne];omega
   simp only[hq,go_sem,simprocAttr];refine au (λh=>by cases h) (λ_=>?_);simp only[go_sem,simprocAttr]
   exact bq (e:=6) (by rw[hsay,vh];simp_all [ba]) _ rfl
  |nil=>
   simp only[go_sem,simprocAttr];refine au (λ_=>?_) (λh=>by cases h);simp only[go_sem,simprocAttr];have hc:fj line=.ok (.drop w1):=by rw[hsay,vh];simp_all [ba]
   refine gT hc _ rfl ?_ ?_ (T1 s b ex _ n hs hb 10 16 _ rfl rfl)
   .simp only[go_sem,simprocAttr]
   .simp only[go_sem,simprocAttr]
 simp only[HW,c2,go_sem,simprocAttr];cases c3:v==uf;rotate_left
 .have hv:=eq_of_beq c3;subst hv;simp only[HU,c3,go_sem,simprocAttr];refine jH ws 13 14 rfl rfl (λw1 r1 e1 n1=>?_) (λhf o=>?_);rotate_left
  .simp only[go_sem,simprocAttr];exact bq (e:=6) (by rw[hsay,vg];rcases ws with _|⟨x1,_|⟨x2,_⟩⟩<;>simp_all [ba]) _ rfl
  subst e1;simp only[cQ,bM,go_sem,simprocAttr]
  cases r1 with
  |cons y q=>
   have hq:(((q.length+1:Nat):Int)==0)=false:=by rw[beq_eq_false_iff_ne];omega
   simp only[hq,go_sem,simprocAttr];refine au (λh=>by cases h) (λ_=>?_);simp only[go_sem,simprocAttr]
   exact bq (e:=6) (by rw[hsay,vg];simp_all [ba]) _ rfl
  |nil=>
   simp only[go_sem,simprocAttr];refine au (λ_=>?_) (λh=>by cases h);simp only[go_sem,simprocAttr];have hc:fj line=.ok (.plan w1):=by rw[hsay,vg];simp_all [ba]
   refine gT hc _ rfl ?_ ?_ (T0 s b ex _ n hs hb 10 16 _ rfl rfl)
   .simp only[go_sem,simprocAttr]
   .simp only[go_sem,simprocAttr]
 simp only[HU,c3,go_sem,simprocAttr];cases c4:v==rQ;rotate_left
 .have hv:=eq_of_beq c4;subst hv;simp only[HT,c4,go_sem,simprocAttr];refine jH ws 13 14 rfl rfl (λw1 r1 e1 n1=>?_) (λhf o=>?_);rotate_left
  .simp only[go_sem,simprocAttr];exact bq (e:=6) (by rw[hsay,ve];rcases ws with _|⟨x1,_|⟨x2,_⟩⟩<;>simp_all [ba]) _ rfl
  subst e1;simp only[cQ,bM,go_sem,simprocAttr]
  cases r1 with
  |cons y q=>
   have hq:(((q.length+1:Nat):Int)==0)=false:=by rw[beq_eq_false_iff_ne];omega
   simp only[hq,go_sem,simprocAttr];refine au (λh=>by cases h) (λ_=>?_);simp only[go_sem,simprocAttr]
   exact bq (e:=6) (by rw[hsay,ve];simp_all [ba]) _ rfl
  |nil=>
   simp only[go_sem,simprocAttr];refine au (λ_=>?_) (λh=>by cases h);simp only[go_sem,simprocAttr];have hc:fj line=.ok (.pour w1):=by rw[hsay,ve];simp_all [ba]
   refine gT hc _ rfl ?_ ?_ (TZ s b ex _ n hs hb 10 16 _ rfl rfl)
   .simp only[go_sem,simprocAttr]
   .simp only[go_sem,simprocAttr]
 simp only[HT,c4,go_sem,simprocAttr];cases c5:v==mq;rotate_left
 .have hv:=eq_of_beq c5;subst hv;simp only[zQ,c5,go_sem,simprocAttr];refine jH ws 13 14 rfl rfl (λw1 r1 e1 n1=>?_) (λhf o=>?_);rotate_left
  .simp only[go_sem,simprocAttr];exact bq (e:=6) (by rw[hsay,qG];rcases ws with _|⟨x1,_|⟨x2,_⟩⟩<;>simp_all [ba]) _ rfl
  subst e1;simp only[cQ,bM,go_sem,simprocAttr]
  cases r1 with
  |cons y q=>
   have hq:(((q.length+1:Nat):Int)==0)=false:=by rw[beq_eq_false_iff_ne];omega
   simp only[hq,go_sem,simprocAttr];refine au (λh=>by cases h) (λ_=>?_);simp only[go_sem,simprocAttr]
   exact bq (e:=6) (by rw[hsay,qG];simp_all [ba]) _ rfl
  |nil=>
   simp only[go_sem,simprocAttr];refine au (λ_=>?_) (λh=>by cases h);simp only[go_sem,simprocAttr];have hc:fj line=.ok (.promise w1):=by rw[hsay,qG];simp_all [ba]
   refine gT hc _ rfl ?_ ?_ (OH s b ex _ n hs hb 10 16 _ rfl rfl)
   .simp only[go_sem,simprocAttr]
   .simp only[go_sem,simprocAttr]
 simp only[zQ,c5,go_sem,simprocAttr];cases c6:v==vH;rotate_left
 .have hv:=eq_of_beq c6;subst hv;simp only[LE,c6,go_sem,simprocAttr];refine jH ws 13 14 rfl rfl (λw1 r1 e1 n1=>?_) (λhf o=>?_);rotate_left
  .simp only[go_sem,simprocAttr];exact bq (e:=6) (by rw[hsay,tH];rcases ws with _|⟨x1,_|⟨x2,_|⟨x3,_⟩⟩⟩<;>simp_all [ba]) _ rfl
  subst e1;simp only[cQ,bM,go_sem,simprocAttr];refine gF r1 13 14 (λw hw=>hwl w (by simp[hw])) rfl rfl (λw2 r2 z2 e2 n2=>?_) (λhf o=>?_);rotate_left
  .simp only[go_sem,simprocAttr];exact bq (e:=6) (by rw[hsay,tH];rcases r1 with _|⟨x1,_|⟨x2,_⟩⟩<;>simp_all [ba]) _ rfl
  subst e2;simp only[cQ,bM,go_sem,simprocAttr]
  cases r2 with
  |cons y q=>
   have hq:(((q.length+1:Nat):Int)==0)=false:=by rw[beq_eq_false_iff_ne];omega
   simp only[hq,go_sem,simprocAttr];refine au (λh=>by cases h) (λ_=>?_);simp only[go_sem,simprocAttr]
   exact bq (e:=6) (by rw[hsay,tH];simp_all [ba]) _ rfl
  |nil=>
   simp only[go_sem,simprocAttr];refine au (λ_=>?_) (λh=>by cases h);simp only[go_sem,simprocAttr];have hc:fj line=.ok (.box w1 z2):=by rw[hsay,tH];simp_all [ba]
   refine gT hc _ rfl ?_ ?_ (X8 s b ex _ n hs hb 10 16 17 _ _ rfl rfl rfl)
   .simp only[go_sem,simprocAttr]
   .simp only[go_sem,simprocAttr]
 simp only[LE,c6,go_sem,simprocAttr];cases c7:v==ug;rotate_left
 .have hv:=eq_of_beq c7;subst hv;simp only[HV,c7,go_sem,simprocAttr]
  cases ws with
  |cons y q=>
   have hq:(((q.length+1:Nat):Int)==0)=false:=by rw[beq_eq_false_iff_ne];omega
   simp only[hq,cQ,bM,go_sem,simprocAttr];refine au (λh=>by cases h) (λ_=>?_);simp only[go_sem,simprocAttr]
   exact bq (e:=6) (by rw[hsay,B0];simp_all [ba]) _ rfl
  |nil=>
   simp only[cQ,bM,go_sem,simprocAttr];refine au (λ_=>?_) (λh=>by cases h);simp only[go_sem,simprocAttr];have hc:fj line=.ok (.look):=by rw[hsay,B0];simp_all [ba]
   refine gT hc _ rfl ?_ ?_ (jJ (JL s b ex n hb) (by simp only[go_sem,simprocAttr]) _)
   .simp only[go_sem,simprocAttr]
   .simp only[go_sem,simprocAttr]
 simp only[HV,c7,go_sem,simprocAttr];cases c8:v==ue;rotate_left
 .have hv:=eq_of_beq c8;subst hv;simp only[HS,c8,go_sem,simprocAttr];refine jH ws 13 14 rfl rfl (λw1 r1 e1 n1=>?_) (λhf o=>?_);rotate_left
  .simp only[go_sem,simprocAttr];exact bq (e:=6) (by rw[hsay,kN];rcases ws with _|⟨x1,_|⟨x2,_|⟨x3,_|⟨x4,_|⟨x5,_|⟨x6,_⟩⟩⟩⟩⟩⟩<;>simp_all [ba]) _ rfl
  subst e1;simp only[cQ,bM,go_sem,simprocAttr];refine gF r1 13 14 (λw hw=>hwl w (by simp[hw])) rfl rfl (λw2 r2 z2 e2 n2=>?_) (λhf o=>?_);rotate_left
  .simp only[go_sem,simprocAttr];exact bq (e:=6) (by rw[hsay,kN];rcases r1 with _|⟨x1,_|⟨x2,_|⟨x3,_|⟨x4,_|⟨x5,_⟩⟩⟩⟩⟩<;>simp_all [ba]) _ rfl
  subst e2;simp only[cQ,bM,go_sem,simprocAttr];refine gF r2 13 14 (λw hw=>hwl w (by simp[hw])) rfl rfl (λw3 r3 z3 e3 n3=>?_) (λhf o=>?_);rotate_left
  .simp only[go_sem,simprocAttr];exact bq (e:=6) (by rw[hsay,kN];rcases r2 with _|⟨x1,_|⟨x2,_|⟨x3,_|⟨x4,_⟩⟩⟩⟩<;>simp_all [ba]) _ rfl
  subst e3;simp only[cQ,bM,go_sem,simprocAttr];refine gF r3 13 14 (λw hw=>hwl w (by simp[hw])) rfl rfl (λw4 r4 z4 e4 n4=>?_) (λhf o=>?_);rotate_left
  .simp only[go_sem,simprocAttr];exact bq (e:=6) (by rw[hsay,kN];rcases r3 with _|⟨x1,_|⟨x2,_|⟨x3,_⟩⟩⟩<;>simp_all [ba]) _ rfl
  subst e4;simp only[cQ,bM,go_sem,simprocAttr];refine gF r4 13 14 (λw hw=>hwl w (by simp[hw])) rfl rfl (λw5 r5 z5 e5 n5=>?_) (λhf o=>?_);rotate_left
  .simp only[go_sem,simprocAttr];exact bq (e:=6) (by rw[hsay,kN];rcases r4 with _|⟨x1,_|⟨x2,_⟩⟩<;>simp_all [ba]) _ rfl
  subst e5;simp only[cQ,bM,go_sem,simprocAttr]
  cases r5 with
  |cons y q=>
   have hq:(((q.length+1:Nat):Int)==0)=false:=by rw[beq_eq_false_iff_ne];omega
   simp only[hq,go_sem,simprocAttr];refine au (λh=>by cases h) (λ_=>?_);simp only[go_sem,simprocAttr]
   exact bq (e:=6) (by rw[hsay,kN];simp_all [ba]) _ rfl
  |nil=>
   simp only[go_sem,simprocAttr];refine au (λ_=>?_) (λh=>by cases h);simp only[go_sem,simprocAttr];have hc:fj line=.ok (.wick w1 z2 z3 z4 z5):=by rw[hsay,kN];simp_all [ba]
   refine gT hc _ rfl ?_ ?_ (VP s b ex _ n hs hb 10 16 17 _ _ _ _ _ rfl rfl rfl)
   .simp only[go_sem,simprocAttr]
   .simp only[go_sem,simprocAttr]
 simp only[HS,c8,go_sem,simprocAttr];cases c9:v==qS;rotate_left
 .have hv:=eq_of_beq c9;subst hv;simp only[EZ,c9,go_sem,simprocAttr];refine gF ws 13 14 (λw hw=>hwl w (by simp[hw])) rfl rfl (λw1 r1 z1 e1 n1=>?_) (λhf o=>?_);rotate_left
  .simp only[go_sem,simprocAttr];exact bq (e:=6) (by rw[hsay,mW];rcases ws with _|⟨x1,_|⟨x2,_|⟨x3,_|⟨x4,_⟩⟩⟩⟩<;>simp_all [ba]) _ rfl
  subst e1;simp only[cQ,bM,go_sem,simprocAttr];refine gF r1 13 14 (λw hw=>hwl w (by simp[hw])) rfl rfl (λw2 r2 z2 e2 n2=>?_) (λhf o=>?_);rotate_left
  .simp only[go_sem,simprocAttr];exact bq (e:=6) (by rw[hsay,mW];rcases r1 with _|⟨x1,_|⟨x2,_|⟨x3,_⟩⟩⟩<;>simp_all [ba]) _ rfl
  subst e2;simp only[cQ,bM,go_sem,simprocAttr];refine gF r2 13 14 (λw hw=>hwl w (by simp[hw])) rfl rfl (λw3 r3 z3 e3 n3=>?_) (λhf o=>?_);rotate_left
  .simp only[go_sem,simprocAttr];exact bq (e:=6) (by rw[hsay,mW];rcases r2 with _|⟨x1,_|⟨x2,_⟩⟩<;>simp_all [ba]) _ rfl
  subst e3;simp only[cQ,bM,go_sem,simprocAttr]
  cases r3 with
  |cons y q=>
   have hq:(((q.length+1:Nat):Int)==0)=false:=by rw[beq_eq_false_iff_ne];omega
   simp only[hq,go_sem,simprocAttr];refine au (λh=>by cases h) (λ_=>?_);simp only[go_sem,simprocAttr]
   exact bq (e:=6) (by rw[hsay,mW];simp_all [ba]) _ rfl
  |nil=>
   simp only[go_sem,simprocAttr];refine au (λ_=>?_) (λh=>by cases h);simp only[go_sem,simprocAttr];have hc:fj line=.ok (.blend z1 z2 z3):=by rw[hsay,mW];simp_all [ba]
   refine gT hc _ rfl ?_ ?_ (T6 s b ex _ n hs hb 10 16 _ _ _ rfl rfl)
   .simp only[go_sem,simprocAttr]
   .simp only[go_sem,simprocAttr]
 simp only[EZ,c9,go_sem,simprocAttr];cases c10:v==qR;rotate_left
 .have hv:=eq_of_beq c10;subst hv;simp only[EY,c10,go_sem,simprocAttr]
  cases ws with
  |cons y q=>
   have hq:(((q.length+1:Nat):Int)==0)=false:=by rw[beq_eq_false_iff_ne];omega
   simp only[hq,cQ,bM,go_sem,simprocAttr];refine au (λh=>by cases h) (λ_=>?_);simp only[go_sem,simprocAttr]
   exact bq (e:=6) (by rw[hsay,zq];simp_all [ba]) _ rfl
  |nil=>
   simp only[cQ,bM,go_sem,simprocAttr];refine au (λ_=>?_) (λh=>by cases h);simp only[go_sem,simprocAttr];have hc:fj line=.ok (.stock):=by rw[hsay,zq];simp_all [ba]
   refine gT hc _ rfl ?_ ?_ (jJ (TA s b ex n hs hb) (by simp only[go_sem,simprocAttr]) _)
   .simp only[go_sem,simprocAttr]
   .simp only[go_sem,simprocAttr]
 simp only[EY,c10,kF,go_sem,simprocAttr];refine au (λh=>by cases h) (λ_=>?_);simp only[go_sem,simprocAttr];exact bq (e:=6) (by rw[hsay,Qy c0 c1 c2 c3 c4 c5 c6 c7 c8 c9 c10];rfl) _ rfl
end Ch
end Abs
end Go.Proofs.YtnjiadikeacfaaaGreatDoor
