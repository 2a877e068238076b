/- CONTRACTS: chandler: read. No conditions but those in the theorems' heads. -/
import Derived.Test.YtoapoaoelpcniaaGreatDoorChRepX
set_option linter.all false
namespace Go.Proofs.YtoapoaoelpcniaaGreatDoor
namespace Abs
namespace Ch
set_option maxRecDepth 4000
def D3:Heap:=[.row 1 [.p (.str .empty)],.row 1 [.p (.bool false)],.row 1 [.p (.int .i64 0)]]
def WZ (s:ChShop) (b:ChBooks) (ex:List PV):Heap:=B7 s b ex++D3
attribute [go_sem] D3 WZ
def wm (s:ChShop) (b:ChBooks) (ex:List PV) (line:List UInt8) (r:AEnd) (h':Heap):Prop:=
 match du line with
 |.error e=>r=.panic (gE e)/\∃t,t.take 3=D3/\h'=H7 s b ex t
 |.ok c=>∃F first caps t,t.take 3=D3/\r=.ret (.agg [.p (.bool c.written),.func (.func F) first caps])/\h'=H7 s b ex t/\(∀o,o∈h'->bm h'.length o)/\(∀a,a∈first++caps->below h'.length a)/\aD Tryz.prog F (first++caps) h' (j1 s b ex t (aO s b c))
theorem bt{s}{b}{ex}{line}{e}(h:du line=.error e){h'}(t)(hh:h'=B7 s b ex++t)(h3:t.take 3=D3:=by rfl):wm s b ex line (.panic (gE e)) h':=by
 unfold wm;rw[h];exact⟨rfl,t,h3,hh⟩
theorem KZ(c):∀(l),∀w,w∈aP c l->w.length<=l.length:=by
 intro l
 induction l with
 |nil=>intro w hw;simp[aP]at hw;subst hw;exact bB _
 |cons x r ih=>
  intro w hw;rw[aP]at hw;split at hw
  .rcases ci.1 hw with rfl|hw
   .exact dY _
   .exact Nat.le_succ_of_le (ih w hw)
  .split at hw
   .rename_i h;exact absurd h (qj _ _)
   .rename_i a t h;rw[h]at ih;rcases ci.1 hw with rfl|hw
    .have:=ih a (by simp);simp only[cu];omega
    .exact Nat.le_succ_of_le (ih w (by simp[hw]))
def bg (o:Option Cmd):Except Int Cmd:=match o with|some c=>.ok c|none=>.error 6
theorem MU{line}{v}{ws}(h1:¬400<line.length)(h2:¬line.take 5=gN)(hsp:aP 32 line=v::ws):du line=bg (cW v ws):=by
 unfold du;rw[if_neg h1,if_neg h2,hsp];rfl
theorem sf(ws):cW qU ws=(match ws with|n::k::g::r=>(match aW n,aW k,bF g,cI r with|some n,some k,some g,some r=>some (.lot n k g r)|_,_,_,_=>none)|_=>none):=by unfold cW;rw[if_pos rfl];rfl
theorem mj(ws):cW lV ws=(match ws with|[n,c,l,g]=>(match aW n,aW c,aW l,bF g with|some n,some c,some l,some g=>some (.batch n c l g)|_,_,_,_=>none)|_=>none):=by
 unfold cW;rw[if_neg (by decide),if_pos rfl];rfl
theorem wW(ws):cW oK ws=(match ws with|[n]=>(aW n).map .drop|_=>none):=by
 unfold cW;rw[if_neg (by decide),if_neg (by decide),if_pos rfl];rfl
theorem wV(ws):cW gO ws=(match ws with|[n]=>(aW n).map .plan|_=>none):=by
 unfold cW;rw[if_neg (by decide),if_neg (by decide),if_neg (by decide),if_pos rfl];rfl
theorem wU(ws):cW oI ws=(match ws with|[n]=>(aW n).map .pour|_=>none):=by
 unfold cW;rw[if_neg (by decide),if_neg (by decide),if_neg (by decide),if_neg (by decide),if_pos rfl];rfl
theorem sd(ws):cW jS ws=(match ws with|[n]=>(aW n).map .promise|_=>none):=by
 unfold cW;rw[if_neg (by decide),if_neg (by decide),if_neg (by decide),if_neg (by decide),if_neg (by decide),if_pos rfl];rfl
theorem vb(ws):cW sA ws=(match ws with|[n,g]=>(match aW n,bF g with|some n,some g=>some (.box n g)|_,_=>none)|_=>none):=by
 unfold cW;rw[if_neg (by decide),if_neg (by decide),if_neg (by decide),if_neg (by decide),if_neg (by decide),if_neg (by decide),if_pos rfl];rfl
theorem Dp(ws):cW oJ ws=(match ws with|[]=>some .look|_=>none):=by
 unfold cW;rw[if_neg (by decide),if_neg (by decide),if_neg (by decide),if_neg (by decide),if_neg (by decide),if_neg (by decide),if_neg (by decide),if_pos rfl];rfl
theorem lJ(ws):cW p7 ws=(match ws with|[n,a,b,c,d]=>(match aW n,bF a,bF b,bF c,bF d with|some n,some a,some b,some c,some d=>some (.wick n a b c d)|_,_,_,_,_=>none)|_=>none):=by
 unfold cW;rw[if_neg (by decide),if_neg (by decide),if_neg (by decide),if_neg (by decide),if_neg (by decide),if_neg (by decide),if_neg (by decide),if_neg (by decide),if_pos rfl];rfl
theorem oe(ws):cW mQ ws=(match ws with|[a,b,c]=>(match bF a,bF b,bF c with|some a,some b,some c=>some (.blend a b c)|_,_,_=>none)|_=>none):=by
 unfold cW;rw[if_neg (by decide),if_neg (by decide),if_neg (by decide),if_neg (by decide),if_neg (by decide),if_neg (by decide),if_neg (by decide),if_neg (by decide),if_neg (by decide),if_pos rfl];rfl
theorem AN(ws):cW mP ws=(match ws with|[]=>some .stock|_=>none):=by
 unfold cW;rw[if_neg (by decide),if_neg (by decide),if_neg (by decide),if_neg (by decide),if_neg (by decide),if_neg (by decide),if_neg (by decide),if_neg (by decide),if_neg (by decide),if_neg (by decide),if_pos rfl];rfl
theorem Sx{v}{ws}(c0:(v==qU)=false)(c1:(v==lV)=false)(c2:(v==oK)=false)(c3:(v==gO)=false)(c4:(v==oI)=false)(c5:(v==jS)=false)(c6:(v==sA)=false)(c7:(v==oJ)=false)
  (c8:(v==p7)=false) (c9:(v==mQ)=false) (c10:(v==mP)=false):cW v ws=none:=by
 rw[beq_eq_false_iff_ne]at c0 c1 c2 c3 c4 c5 c6 c7 c8 c9 c10;unfold cW;rw[if_neg c0,if_neg c1,if_neg c2,if_neg c3,if_neg c4,if_neg c5,if_neg c6,if_neg c7,if_neg c8,if_neg c9,if_neg c10]
theorem NE(v):(bs v==({ data:=#[108,111,116] }:ByteArray))=(v==qU):=cc v qU
theorem GI(v):(bs v==({ data:=#[98,97,116,99,104] }:ByteArray))=(v==lV):=cc v lV
theorem JR(v):(bs v==({ data:=#[100,114,111,112] }:ByteArray))=(v==oK):=cc v oK
theorem JP(v):(bs v==({ data:=#[112,108,97,110] }:ByteArray))=(v==gO):=cc v gO
theorem JO(v):(bs v==({ data:=#[112,111,117,114] }:ByteArray))=(v==oI):=cc v oI
theorem Bg(v):(bs v==({ data:=#[112,114,111,109,105,115,101] }:ByteArray))=(v==jS):=cc v jS
theorem NF(v):(bs v==({ data:=#[98,111,120] }:ByteArray))=(v==sA):=cc v sA
theorem JQ(v):(bs v==({ data:=#[108,111,111,107] }:ByteArray))=(v==oJ):=cc v oJ
theorem JN(v):(bs v==({ data:=#[119,105,99,107] }:ByteArray))=(v==p7):=cc v p7
theorem GH(v):(bs v==({ data:=#[98,108,101,110,100] }:ByteArray))=(v==mQ):=cc v mQ
theorem GG(v):(bs v==({ data:=#[115,116,111,99,107] }:ByteArray))=(v==mP):=cc v mP
theorem kF:bX Tryz.prog 117=.func:=by kernel_rfl
def Fc (v:Int):AV:=.p (aI v)
theorem T7(n)(x):below n (Fc x)=True:=eq_true trivial
attribute [go_sem] T7
theorem Vk(v):(bs v==({ data:=#[120] }:ByteArray))=(v==kX):=cc v kX
theorem keepS(n)(a)(h):gA (n+1) (a::h)=.dead::gA n h:=by
 unfold gA;rw[List.mapIdx_cons]
 congr 1
 .apply uS;intro i;simp
theorem Xy(a)(h):gA 0 (a::h)=a::h.map λ_=>.dead:=by
 unfold gA;rw[List.mapIdx_cons]
 congr 1
 apply uS;intro i;simp
theorem Vm(a0 a1 a2 a3 a4 a5 a6 a7 a8 a9 a10 a11 a12 a13)(h):gA 13 (a0::a1::a2::a3::a4::a5::a6::a7::a8::a9::a10::a11::a12::a13::h)=.dead::.dead::.dead::.dead::.dead::.dead::.dead::.dead::.dead::.dead::.dead::.dead::.dead::a13::h.map λ_=>.dead:=by
 rw[keepS,keepS,keepS,keepS,keepS,keepS,keepS,keepS,keepS,keepS,keepS,keepS,keepS,Xy]
def Mw:Hints:=ec [(66,.app 64),(67,.low),(68,.low),(1015066,.sto),(5000001,.app 7)]
theorem Vc:cC Mw Tryz.f93=true:=by kernel_rfl
theorem ic{s}{b}{ex}{line}{c}(h:du line=.ok c){F}{first caps}{h'}(t)(hh:h'=H7 s b ex t)(ho:∀o,o∈h'->bm h'.length o)(ha:∀a,a∈first++caps->below h'.length a)
  (hc:aD Tryz.prog F (first++caps) (H7 s b ex t) (j1 s b ex t (aO s b c))) (h3:t.take 3=D3:=by rfl):wm s b ex line (.ret (.agg [.p (.bool c.written),.func (.func F) first caps])) h':=by
 unfold wm;rw[h];subst hh;exact⟨F,first,caps,t,h3,rfl,rfl,ho,ha,hc⟩
set_option maxHeartbeats 4000000 in
theorem XC(s)(b)(ex)(n)(hs:SOk s)(hb:BkOk s b n)(line):aD Tryz.prog 93 [.ptr 2 1 0 0,.p (.str (bs line))] (WZ s b ex) (wm s b ex line):=by
 refine aC (eg (by kernel_rfl) rfl Vc) rfl ?_;simp only[go_sem,simprocAttr];refine az (λh1=>?_) (λh1=>?_);rotate_left
 .have h1':400<line.length:=by rw[ao]at h1;simp at h1;omega
  simp only[go_sem,simprocAttr];exact bt (e:=3) (by rw[du,if_pos h1']) _ rfl
 have h1':¬400<line.length:=by rw[ao]at h1;simp at h1;omega
 simp only[go_sem,simprocAttr];have hl9:line.length<1000000000:=by omega
 refine ae (L6 line gN hl9 (by decide)) rfl ?_;by_cases h2:line.take 5=gN
 .have e1:decide (line.take gN.length=gN)=true:=decide_eq_true h2;have e2:(if line.take gN.length=gN then line.drop gN.length else line)=line.drop 5:=if_pos h2;simp only[e1,e2,go_sem,simprocAttr];refine ic (c:=.test (line.drop 5)) (by rw[du,if_neg h1',if_pos h2]) _ rfl ?_ ?_ (XO s b ex _ n hs hb 10 12 _ rfl rfl)
  .simp only[go_sem,simprocAttr]
  .simp only[go_sem,simprocAttr]
 have e1:decide (line.take gN.length=gN)=false:=decide_eq_false h2;have e2:(if line.take gN.length=gN then line.drop gN.length else line)=line:=if_neg h2;have hww:=KZ 32 line;simp only[e1,e2,go_sem,simprocAttr];refine ae (D6 line 32 hl9) rfl ?_
 cases hsp:aP 32 line with
 |nil=>exact absurd hsp (qj _ _)
 |cons v ws=>
 rw[hsp]at hww;have hsay:=MU h1' h2 hsp;have hwl:∀w,w∈ws->w.length<=1000000:=λw hw=>by have:=hww w (by simp[hw]);omega
 simp only[bE,go_sem,simprocAttr];refine cJ (Br v ws 13 _ rfl) ?_;simp only[go_sem,simprocAttr];cases c0:v==qU;rotate_left
 .have hv:=eq_of_beq c0;subst hv;simp only[NE,c0,go_sem,simprocAttr];refine kq ws 13 14 rfl rfl (λw1 r1 e1 n1=>?_) (λhf o=>?_);rotate_left
  .simp only[go_sem,simprocAttr];exact bt (e:=6) (by rw[hsay,sf];rcases ws with _|⟨x1,_|⟨x2,_|⟨x3,_|⟨x4,_|⟨x5,_⟩⟩⟩⟩⟩<;>simp_all [bg]) _ rfl
  subst e1;simp only[de,bE,go_sem,simprocAttr];refine kq r1 13 14 rfl rfl (λw2 r2 e2 n2=>?_) (λhf o=>?_);rotate_left
  .simp only[go_sem,simprocAttr];exact bt (e:=6) (by rw[hsay,sf];rcases r1 with _|⟨x1,_|⟨x2,_|⟨x3,_|⟨x4,_⟩⟩⟩⟩<;>simp_all [bg]) _ rfl
  subst e2;simp only[de,bE,go_sem,simprocAttr];refine gY r2 13 14 (λw hw=>hwl w (by simp[hw])) rfl rfl (λw3 r3 z3 e3 n3=>?_) (λhf o=>?_);rotate_left
  .simp only[go_sem,simprocAttr];exact bt (e:=6) (by rw[hsay,sf];rcases r2 with _|⟨x1,_|⟨x2,_|⟨x3,_⟩⟩⟩<;>simp_all [bg]) _ rfl
  subst e3;simp only[de,bE,go_sem,simprocAttr];have hr3:r3.length<=400:=by
   have h:=qk 32 line;rw[hsp]at h;simp at h;omega
  refine C7 [2,4,7,10,11,12,13,14,15] 19 1 (show 10<=19 by decide) (show 10<=20 by decide) rfl ?_ ?_ rfl ?_
  .simp only[go_sem,simprocAttr]
  .simp only[go_sem,simprocAttr]
  simp only[go_sem,simprocAttr]
  refine gH [2,4,7,10,11,12,13,14,15] (σ:=List (List UInt8)×List Int) (λq=>cI r3=(cI q.1).map (q.2++·)/\(∀w,w∈q.1->w.length<=1000000)/\q.2.length+q.1.length=r3.length) (λq=>q.1.length) (λq=>[])
   (λq=>WZ s b ex++[.row 1 [.ptr 2 1 0 0],.row 2 [.p (.agg [.bool false,.nilfunc])],.row 1 [.p (.str (bs line))],de q.1,jo 13,.row 2 [.p (.agg [.bool false,.nilfunc])],.row 1 [.p (.str (bs w1))],.row 1 [.p (.str (bs w2))],.row 1 [.p (.int .i64 z3)],.row 1 [.slice 20 q.2.length 0 q.2.length],.row 1 (q.2.map Fc)])
   (r3,[]) ⟨?_,λw hw=>hwl w (by simp[hw]),by simp⟩ ?_ ?_
  .show cI r3=(cI r3).map ([]++·);cases cI r3<;>rfl
  .simp only[de,jo,bE,go_sem,simprocAttr]
  rintro⟨q,rs⟩ ⟨i1,i2,i3⟩
  dsimp only at i1 i2 i3
  cases q with
  |nil=>
   have hc:du line=.ok (.lot w1 w2 z3 rs):=by
    rw[hsay,sf];have:cI r3=some rs:=by rw[i1];simp[cI]
    simp only[n1,n2,n3,this];rfl
   simp only[de,jo,bE,kF,go_sem,simprocAttr];refine az (λ_=>?_) (λh=>by cases h);simp only[go_sem,simprocAttr];refine ic hc _ rfl ?_ ?_ (Z4 s b ex _ n hs hb 10 16 17 18 19 20 _ _ _ rs (by simp at i3;omega) rfl rfl rfl rfl rfl (by decide) rfl)
   .simp only[go_sem,simprocAttr]
   .simp only[go_sem,simprocAttr]
  |cons w r=>
   have hn0:decide ((0:Int)<((r.length+1:Nat):Int))=true:=decide_eq_true (by omega);have hn1:(0:Int)<((r.length+1:Nat):Int):=by omega
   have hn2:(1:Int)<=((r.length+1:Nat):Int):=by omega
   have htk:List.take (r.length+1) (PV.str (bs w)::r.map λx=>PV.str (bs x))=PV.str (bs w)::r.map λx=>PV.str (bs x):=eD (by simp);have hrm:rs.length+1<=aw:=by simp at i3;simp only[aw];omega
   cases hx:w==kX;rotate_left
   .have hwx:=eq_of_beq hx;simp only[de,jo,bE,hn1,hn2,htk,hrm,Vk,hx,Mw,aL,Vm,go_sem,simprocAttr];refine And.intro (.inr ⟨20,_,rfl,rfl⟩) ?_;refine bU (r,rs++[-1]) ⟨?_,λw hw=>i2 w (by simp[hw]),by simp at i3 |-;omega⟩ (by dsimp only[List.length_cons];omega) ?_
    .show cI r3=(cI r).map ((rs++[-1])++·);rw[i1,cI,if_pos hwx];cases cI r<;>simp
    .simp only[de,jo,bE,aB,bn,cj,bL,ck,Fc,go_sem,simprocAttr]
   simp only[de,jo,bE,hn1,Vk,hx,go_sem,simprocAttr];refine gY (w::r) 13 14 i2 rfl rfl (λw' r' z' e' n'=>?_) (λhf o=>?_);rotate_left
   .simp only[go_sem,simprocAttr]
    exact bt (e:=6) (by
     rw[hsay,sf];have hnw:=hf w r rfl;have:cI r3=none:=by rw[i1,cI,if_neg (by simpa using hx),hnw];rfl
     simp only[n1,n2,n3,this]
     rfl) _ rfl
   cases e';simp only[hrm,Mw,go_sem,simprocAttr];refine bU (r,rs++[z']) ⟨?_,λw hw=>i2 w (by simp[hw]),by simp at i3 |-;omega⟩ (by dsimp only[List.length_cons];omega) ?_
   .show cI r3=(cI r).map ((rs++[z'])++·);rw[i1,cI,if_neg (by simpa using hx),n'];cases cI r<;>simp
   .simp only[de,jo,bE,aB,bn,cj,bL,ck,Fc,go_sem,simprocAttr]
 simp only[NE,c0,go_sem,simprocAttr];cases c1:v==lV;rotate_left
 .have hv:=eq_of_beq c1;subst hv;simp only[GI,c1,go_sem,simprocAttr];refine kq ws 13 14 rfl rfl (λw1 r1 e1 n1=>?_) (λhf o=>?_);rotate_left
  .simp only[go_sem,simprocAttr];exact bt (e:=6) (by rw[hsay,mj];rcases ws with _|⟨x1,_|⟨x2,_|⟨x3,_|⟨x4,_|⟨x5,_⟩⟩⟩⟩⟩<;>simp_all [bg]) _ rfl
  subst e1;simp only[de,bE,go_sem,simprocAttr];refine kq r1 13 14 rfl rfl (λw2 r2 e2 n2=>?_) (λhf o=>?_);rotate_left
  .simp only[go_sem,simprocAttr];exact bt (e:=6) (by rw[hsay,mj];rcases r1 with _|⟨x1,_|⟨x2,_|⟨x3,_|⟨x4,_⟩⟩⟩⟩<;>simp_all [bg]) _ rfl
  subst e2;simp only[de,bE,go_sem,simprocAttr];refine kq r2 13 14 rfl rfl (λw3 r3 e3 n3=>?_) (λhf o=>?_);rotate_left
  .simp only[go_sem,simprocAttr];exact bt (e:=6) (by rw[hsay,mj];rcases r2 with _|⟨x1,_|⟨x2,_|⟨x3,_⟩⟩⟩<;>simp_all [bg]) _ rfl
  subst e3;simp only[de,bE,go_sem,simprocAttr];refine gY r3 13 14 (λw hw=>hwl w (by simp[hw])) rfl rfl (λw4 r4 z4 e4 n4=>?_) (λhf o=>?_);rotate_left
  .simp only[go_sem,simprocAttr];exact bt (e:=6) (by rw[hsay,mj];rcases r3 with _|⟨x1,_|⟨x2,_⟩⟩<;>simp_all [bg]) _ rfl
  subst e4;simp only[de,bE,go_sem,simprocAttr]
  cases r4 with
  |cons y q=>
   have hq:(((q.length+1:Nat):Int)==0)=false:=by rw[beq_eq_false_iff_ne];omega
   simp only[hq,go_sem,simprocAttr];refine az (λh=>by cases h) (λ_=>?_);simp only[go_sem,simprocAttr]
   exact bt (e:=6) (by rw[hsay,mj];simp_all [bg]) _ rfl
  |nil=>
   simp only[go_sem,simprocAttr];refine az (λ_=>?_) (λh=>by cases h);simp only[go_sem,simprocAttr];have hc:du line=.ok (.batch w1 w2 w3 z4):=by rw[hsay,mj];simp_all [bg]
   refine ic hc _ rfl ?_ ?_ (VS s b ex _ n hs hb 10 16 17 18 19 _ _ _ _ rfl rfl rfl rfl rfl)
   .simp only[go_sem,simprocAttr]
   .simp only[go_sem,simprocAttr]
 simp only[GI,c1,go_sem,simprocAttr];cases c2:v==oK;rotate_left
 .have hv:=eq_of_beq c2;subst hv;simp only[JR,c2,go_sem,simprocAttr];refine kq ws 13 14 rfl rfl (λw1 r1 e1 n1=>?_) (λhf o=>?_);rotate_left
  .simp only[go_sem,simprocAttr];exact bt (e:=6) (by rw[hsay,wW];rcases ws with _|⟨x1,_|⟨x2,_⟩⟩<;>simp_all [bg]) _ rfl
  subst e1;simp only[de,bE,go_sem,simprocAttr]
  cases r1 with
  |cons y q=>
   have hq:(((q.length+1:Nat):Int)==0)=false:=by rw[beq_eq_false_iff_ne];omega
   simp only[hq,go_sem,simprocAttr];refine az (λh=>by cases h) (λ_=>?_);simp only[go_sem,simprocAttr]
   exact bt (e:=6) (by rw[hsay,wW];simp_all [bg]) _ rfl
  |nil=>
   simp only[go_sem,simprocAttr];refine az (λ_=>?_) (λh=>by cases h);simp only[go_sem,simprocAttr];have hc:du line=.ok (.drop w1):=by rw[hsay,wW];simp_all [bg]
   refine ic hc _ rfl ?_ ?_ (VN s b ex _ n hs hb 10 16 _ rfl rfl)
   .simp only[go_sem,simprocAttr]
   .simp only[go_sem,simprocAttr]
 simp only[JR,c2,go_sem,simprocAttr];cases c3:v==gO;rotate_left
 .have hv:=eq_of_beq c3;subst hv;simp only[JP,c3,go_sem,simprocAttr];refine kq ws 13 14 rfl rfl (λw1 r1 e1 n1=>?_) (λhf o=>?_);rotate_left
  .simp only[go_sem,simprocAttr];exact bt (e:=6) (by rw[hsay,wV];rcases ws with _|⟨x1,_|⟨x2,_⟩⟩<;>simp_all [bg]) _ rfl
  subst e1;simp only[de,bE,go_sem,simprocAttr]
  cases r1 with
  |cons y q=>
   have hq:(((q.length+1:Nat):Int)==0)=false:=by rw[beq_eq_false_iff_ne];omega
   simp only[hq,go_sem,simprocAttr];refine az (λh=>by cases h) (λ_=>?_);simp only[go_sem,simprocAttr]
   exact bt (e:=6) (by rw[hsay,wV];simp_all [bg]) _ rfl
  |nil=>
   simp only[go_sem,simprocAttr];refine az (λ_=>?_) (λh=>by cases h);simp only[go_sem,simprocAttr];have hc:du line=.ok (.plan w1):=by rw[hsay,wV];simp_all [bg]
   refine ic hc _ rfl ?_ ?_ (VM s b ex _ n hs hb 10 16 _ rfl rfl)
   .simp only[go_sem,simprocAttr]
   .simp only[go_sem,simprocAttr]
 simp only[JP,c3,go_sem,simprocAttr];cases c4:v==oI;rotate_left
 .have hv:=eq_of_beq c4;subst hv;simp only[JO,c4,go_sem,simprocAttr];refine kq ws 13 14 rfl rfl (λw1 r1 e1 n1=>?_) (λhf o=>?_);rotate_left
  .simp only[go_sem,simprocAttr];exact bt (e:=6) (by rw[hsay,wU];rcases ws with _|⟨x1,_|⟨x2,_⟩⟩<;>simp_all [bg]) _ rfl
  subst e1;simp only[de,bE,go_sem,simprocAttr]
  cases r1 with
  |cons y q=>
   have hq:(((q.length+1:Nat):Int)==0)=false:=by rw[beq_eq_false_iff_ne];omega
   simp only[hq,go_sem,simprocAttr];refine az (λh=>by cases h) (λ_=>?_);simp only[go_sem,simprocAttr]
   exact bt (e:=6) (by rw[hsay,wU];simp_all [bg]) _ rfl
  |nil=>
   simp only[go_sem,simprocAttr];refine az (λ_=>?_) (λh=>by cases h);simp only[go_sem,simprocAttr];have hc:du line=.ok (.pour w1):=by rw[hsay,wU];simp_all [bg]
   refine ic hc _ rfl ?_ ?_ (VL s b ex _ n hs hb 10 16 _ rfl rfl)
   .simp only[go_sem,simprocAttr]
   .simp only[go_sem,simprocAttr]
 simp only[JO,c4,go_sem,simprocAttr];cases c5:v==jS;rotate_left
 .have hv:=eq_of_beq c5;subst hv;simp only[Bg,c5,go_sem,simprocAttr];refine kq ws 13 14 rfl rfl (λw1 r1 e1 n1=>?_) (λhf o=>?_);rotate_left
  .simp only[go_sem,simprocAttr];exact bt (e:=6) (by rw[hsay,sd];rcases ws with _|⟨x1,_|⟨x2,_⟩⟩<;>simp_all [bg]) _ rfl
  subst e1;simp only[de,bE,go_sem,simprocAttr]
  cases r1 with
  |cons y q=>
   have hq:(((q.length+1:Nat):Int)==0)=false:=by rw[beq_eq_false_iff_ne];omega
   simp only[hq,go_sem,simprocAttr];refine az (λh=>by cases h) (λ_=>?_);simp only[go_sem,simprocAttr]
   exact bt (e:=6) (by rw[hsay,sd];simp_all [bg]) _ rfl
  |nil=>
   simp only[go_sem,simprocAttr];refine az (λ_=>?_) (λh=>by cases h);simp only[go_sem,simprocAttr];have hc:du line=.ok (.promise w1):=by rw[hsay,sd];simp_all [bg]
   refine ic hc _ rfl ?_ ?_ (QD s b ex _ n hs hb 10 16 _ rfl rfl)
   .simp only[go_sem,simprocAttr]
   .simp only[go_sem,simprocAttr]
 simp only[Bg,c5,go_sem,simprocAttr];cases c6:v==sA;rotate_left
 .have hv:=eq_of_beq c6;subst hv;simp only[NF,c6,go_sem,simprocAttr];refine kq ws 13 14 rfl rfl (λw1 r1 e1 n1=>?_) (λhf o=>?_);rotate_left
  .simp only[go_sem,simprocAttr];exact bt (e:=6) (by rw[hsay,vb];rcases ws with _|⟨x1,_|⟨x2,_|⟨x3,_⟩⟩⟩<;>simp_all [bg]) _ rfl
  subst e1;simp only[de,bE,go_sem,simprocAttr];refine gY r1 13 14 (λw hw=>hwl w (by simp[hw])) rfl rfl (λw2 r2 z2 e2 n2=>?_) (λhf o=>?_);rotate_left
  .simp only[go_sem,simprocAttr];exact bt (e:=6) (by rw[hsay,vb];rcases r1 with _|⟨x1,_|⟨x2,_⟩⟩<;>simp_all [bg]) _ rfl
  subst e2;simp only[de,bE,go_sem,simprocAttr]
  cases r2 with
  |cons y q=>
   have hq:(((q.length+1:Nat):Int)==0)=false:=by rw[beq_eq_false_iff_ne];omega
   simp only[hq,go_sem,simprocAttr];refine az (λh=>by cases h) (λ_=>?_);simp only[go_sem,simprocAttr]
   exact bt (e:=6) (by rw[hsay,vb];simp_all [bg]) _ rfl
  |nil=>
   simp only[go_sem,simprocAttr];refine az (λ_=>?_) (λh=>by cases h);simp only[go_sem,simprocAttr];have hc:du line=.ok (.box w1 z2):=by rw[hsay,vb];simp_all [bg]
   refine ic hc _ rfl ?_ ?_ (Z5 s b ex _ n hs hb 10 16 17 _ _ rfl rfl rfl)
   .simp only[go_sem,simprocAttr]
   .simp only[go_sem,simprocAttr]
 simp only[NF,c6,go_sem,simprocAttr];cases c7:v==oJ;rotate_left
 .have hv:=eq_of_beq c7;subst hv;simp only[JQ,c7,go_sem,simprocAttr]
  cases ws with
  |cons y q=>
   have hq:(((q.length+1:Nat):Int)==0)=false:=by rw[beq_eq_false_iff_ne];omega
   simp only[hq,de,bE,go_sem,simprocAttr];refine az (λh=>by cases h) (λ_=>?_);simp only[go_sem,simprocAttr]
   exact bt (e:=6) (by rw[hsay,Dp];simp_all [bg]) _ rfl
  |nil=>
   simp only[de,bE,go_sem,simprocAttr];refine az (λ_=>?_) (λh=>by cases h);simp only[go_sem,simprocAttr];have hc:du line=.ok (.look):=by rw[hsay,Dp];simp_all [bg]
   refine ic hc _ rfl ?_ ?_ (kr (LK s b ex n hb) (by simp only[go_sem,simprocAttr]) _)
   .simp only[go_sem,simprocAttr]
   .simp only[go_sem,simprocAttr]
 simp only[JQ,c7,go_sem,simprocAttr];cases c8:v==p7;rotate_left
 .have hv:=eq_of_beq c8;subst hv;simp only[JN,c8,go_sem,simprocAttr];refine kq ws 13 14 rfl rfl (λw1 r1 e1 n1=>?_) (λhf o=>?_);rotate_left
  .simp only[go_sem,simprocAttr];exact bt (e:=6) (by rw[hsay,lJ];rcases ws with _|⟨x1,_|⟨x2,_|⟨x3,_|⟨x4,_|⟨x5,_|⟨x6,_⟩⟩⟩⟩⟩⟩<;>simp_all [bg]) _ rfl
  subst e1;simp only[de,bE,go_sem,simprocAttr];refine gY r1 13 14 (λw hw=>hwl w (by simp[hw])) rfl rfl (λw2 r2 z2 e2 n2=>?_) (λhf o=>?_);rotate_left
  .simp only[go_sem,simprocAttr];exact bt (e:=6) (by rw[hsay,lJ];rcases r1 with _|⟨x1,_|⟨x2,_|⟨x3,_|⟨x4,_|⟨x5,_⟩⟩⟩⟩⟩<;>simp_all [bg]) _ rfl
  subst e2;simp only[de,bE,go_sem,simprocAttr];refine gY r2 13 14 (λw hw=>hwl w (by simp[hw])) rfl rfl (λw3 r3 z3 e3 n3=>?_) (λhf o=>?_);rotate_left
  .simp only[go_sem,simprocAttr];exact bt (e:=6) (by rw[hsay,lJ];rcases r2 with _|⟨x1,_|⟨x2,_|⟨x3,_|⟨x4,_⟩⟩⟩⟩<;>simp_all [bg]) _ rfl
  subst e3;simp only[de,bE,go_sem,simprocAttr];refine gY r3 13 14 (λw hw=>hwl w (by simp[hw])) rfl rfl (λw4 r4 z4 e4 n4=>?_) (λhf o=>?_);rotate_left
  .simp only[go_sem,simprocAttr];exact bt (e:=6) (by rw[hsay,lJ];rcases r3 with _|⟨x1,_|⟨x2,_|⟨x3,_⟩⟩⟩<;>simp_all [bg]) _ rfl
  subst e4;simp only[de,bE,go_sem,simprocAttr];refine gY r4 13 14 (λw hw=>hwl w (by simp[hw])) rfl rfl (λw5 r5 z5 e5 n5=>?_) (λhf o=>?_);rotate_left
  .simp only[go_sem,simprocAttr];exact bt (e:=6) (by rw[hsay,lJ];rcases r4 with _|⟨x1,_|⟨x2,_⟩⟩<;>simp_all [bg]) _ rfl
  subst e5;simp only[de,bE,go_sem,simprocAttr]
  cases r5 with
  |cons y q=>
   have hq:(((q.length+1:Nat):Int)==0)=false:=by rw[beq_eq_false_iff_ne];omega
   simp only[hq,go_sem,simprocAttr];refine az (λh=>by cases h) (λ_=>?_);simp only[go_sem,simprocAttr]
   exact bt (e:=6) (by rw[hsay,lJ];simp_all [bg]) _ rfl
  |nil=>
   simp only[go_sem,simprocAttr];refine az (λ_=>?_) (λh=>by cases h);simp only[go_sem,simprocAttr];have hc:du line=.ok (.wick w1 z2 z3 z4 z5):=by rw[hsay,lJ];simp_all [bg]
   refine ic hc _ rfl ?_ ?_ (XN s b ex _ n hs hb 10 16 17 _ _ _ _ _ rfl rfl rfl)
   .simp only[go_sem,simprocAttr]
   .simp only[go_sem,simprocAttr]
 simp only[JN,c8,go_sem,simprocAttr];cases c9:v==mQ;rotate_left
 .have hv:=eq_of_beq c9;subst hv;simp only[GH,c9,go_sem,simprocAttr];refine gY ws 13 14 (λw hw=>hwl w (by simp[hw])) rfl rfl (λw1 r1 z1 e1 n1=>?_) (λhf o=>?_);rotate_left
  .simp only[go_sem,simprocAttr];exact bt (e:=6) (by rw[hsay,oe];rcases ws with _|⟨x1,_|⟨x2,_|⟨x3,_|⟨x4,_⟩⟩⟩⟩<;>simp_all [bg]) _ rfl
  subst e1;simp only[de,bE,go_sem,simprocAttr];refine gY r1 13 14 (λw hw=>hwl w (by simp[hw])) rfl rfl (λw2 r2 z2 e2 n2=>?_) (λhf o=>?_);rotate_left
  .simp only[go_sem,simprocAttr];exact bt (e:=6) (by rw[hsay,oe];rcases r1 with _|⟨x1,_|⟨x2,_|⟨x3,_⟩⟩⟩<;>simp_all [bg]) _ rfl
  subst e2;simp only[de,bE,go_sem,simprocAttr];refine gY r2 13 14 (λw hw=>hwl w (by simp[hw])) rfl rfl (λw3 r3 z3 e3 n3=>?_) (λhf o=>?_);rotate_left
  .simp only[go_sem,simprocAttr];exact bt (e:=6) (by rw[hsay,oe];rcases r2 with _|⟨x1,_|⟨x2,_⟩⟩<;>simp_all [bg]) _ rfl
  subst e3;simp only[de,bE,go_sem,simprocAttr]
  cases r3 with
  |cons y q=>
   have hq:(((q.length+1:Nat):Int)==0)=false:=by rw[beq_eq_false_iff_ne];omega
   simp only[hq,go_sem,simprocAttr];refine az (λh=>by cases h) (λ_=>?_);simp only[go_sem,simprocAttr]
   exact bt (e:=6) (by rw[hsay,oe];simp_all [bg]) _ rfl
  |nil=>
   simp only[go_sem,simprocAttr];refine az (λ_=>?_) (λh=>by cases h);simp only[go_sem,simprocAttr];have hc:du line=.ok (.blend z1 z2 z3):=by rw[hsay,oe];simp_all [bg]
   refine ic hc _ rfl ?_ ?_ (VR s b ex _ n hs hb 10 16 _ _ _ rfl rfl)
   .simp only[go_sem,simprocAttr]
   .simp only[go_sem,simprocAttr]
 simp only[GH,c9,go_sem,simprocAttr];cases c10:v==mP;rotate_left
 .have hv:=eq_of_beq c10;subst hv;simp only[GG,c10,go_sem,simprocAttr]
  cases ws with
  |cons y q=>
   have hq:(((q.length+1:Nat):Int)==0)=false:=by rw[beq_eq_false_iff_ne];omega
   simp only[hq,de,bE,go_sem,simprocAttr];refine az (λh=>by cases h) (λ_=>?_);simp only[go_sem,simprocAttr]
   exact bt (e:=6) (by rw[hsay,AN];simp_all [bg]) _ rfl
  |nil=>
   simp only[de,bE,go_sem,simprocAttr];refine az (λ_=>?_) (λh=>by cases h);simp only[go_sem,simprocAttr];have hc:du line=.ok (.stock):=by rw[hsay,AN];simp_all [bg]
   refine ic hc _ rfl ?_ ?_ (kr (Vp s b ex n hs hb) (by simp only[go_sem,simprocAttr]) _)
   .simp only[go_sem,simprocAttr]
   .simp only[go_sem,simprocAttr]
 simp only[GG,c10,kF,go_sem,simprocAttr];refine az (λh=>by cases h) (λ_=>?_);simp only[go_sem,simprocAttr];exact bt (e:=6) (by rw[hsay,Sx c0 c1 c2 c3 c4 c5 c6 c7 c8 c9 c10];rfl) _ rfl
end Ch
end Abs
end Go.Proofs.YtoapoaoelpcniaaGreatDoor
