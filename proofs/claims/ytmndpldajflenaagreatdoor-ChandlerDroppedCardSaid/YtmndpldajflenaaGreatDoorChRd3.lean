/- CONTRACTS: chandler: read. No conditions but those in the theorems' heads. -/
import Derived.Test.YtmndpldajflenaaGreatDoorChRepX
set_option linter.all false
set_option maxHeartbeats 4000000
namespace Go.Proofs.YtmndpldajflenaaGreatDoor
namespace Abs
namespace Ch
set_option maxRecDepth 4000
def D3:Heap:=[.row 1 [.p (.str .empty)],.row 1 [.p (.bool false)],.row 1 [.p (.int .i64 0)]]
def TC (s:ChShop) (b:ChBooks) (ex:List PV):Heap:=B7 s b ex++D3
attribute [go_sem] D3 TC
def tO (s:ChShop) (b:ChBooks) (ex:List PV) (line:List UInt8) (r:AEnd) (h':Heap):Prop:=
 match gr line with
 |.error e=>r=.panic (gc e)/\∃t,t.take 3=D3/\h'=H7 s b ex t
 |.ok c=>∃F first caps t,t.take 3=D3/\r=.ret (.agg [.p (.bool c.written),.func (.func F) first caps])/\h'=H7 s b ex t/\(∀o,o∈h'->aX h'.length o)/\(∀a,a∈first++caps->below h'.length a)/\ar Tryz.prog F (first++caps) h' (jp s b ex t (aR s b c))
theorem bc{s}{b}{ex}{a}{e}(h:gr a=.error e){h'}(t)(hh:h'=B7 s b ex++t)(i:t.take 3=D3:=by rfl):tO s b ex a (.panic (gc e)) h':=by
 unfold tO;rw[h];exact⟨rfl,t,i,hh⟩
theorem Ii(c):∀(l),∀w,w∈aM c l->w.length<=l.length:=by
 intro l
 induction l with
 |nil=>intro w hw;simp[aM]at hw;subst hw;exact ba _
 |cons x r e=>
  intro w hw;rw[aM]at hw;split at hw
  .rcases ce.1 hw with rfl|hw
   .exact de _
   .exact Nat.le_succ_of_le (e w hw)
  .split at hw
   .rename_i h;exact absurd h (Ba _ _)
   .rename_i a t h;rw[h]at e;rcases ce.1 hw with rfl|hw
    .have:=e a (by simp);simp only[dB];omega
    .exact Nat.le_succ_of_le (e w (by simp[hw]))
def aW (o:Option Cmd):Except Int Cmd:=match o with|some c=>.ok c|none=>.error 6
theorem J'{a}{v}{ws}(j:¬400<a.length)(i:¬a.take 5=jo)(e:aM 32 a=v::ws):gr a=aW (fy v ws):=by
 unfold gr;rw[if_neg j,if_neg i,e];rfl
theorem qn(ws):fy uL ws=(match ws with|n::k::g::r=>(match cM n,cM k,fz g,eW r with|some n,some k,some g,some r=>some (.lot n k g r)|_,_,_,_=>none)|_=>none):=by unfold fy;rw[if_pos rfl];rfl
theorem lh(ws):fy dE ws=(match ws with|[n,c,l,g]=>(match cM n,cM c,cM l,fz g with|some n,some c,some l,some g=>some (.batch n c l g)|_,_,_,_=>none)|_=>none):=by
 unfold fy;rw[if_neg (by decide),if_pos rfl];rfl
theorem uu(ws):fy kw ws=(match ws with|[n]=>(cM n).map .drop|_=>none):=by
 unfold fy;rw[if_neg (by decide),if_neg (by decide),if_pos rfl];rfl
theorem ut(ws):fy vI ws=(match ws with|[n]=>(cM n).map .plan|_=>none):=by
 unfold fy;rw[if_neg (by decide),if_neg (by decide),if_neg (by decide),if_pos rfl];rfl
theorem us(ws):fy vH ws=(match ws with|[n]=>(cM n).map .pour|_=>none):=by
 unfold fy;rw[if_neg (by decide),if_neg (by decide),if_neg (by decide),if_neg (by decide),if_pos rfl];rfl
theorem qm(ws):fy nP ws=(match ws with|[n]=>(cM n).map .promise|_=>none):=by
 unfold fy;rw[if_neg (by decide),if_neg (by decide),if_neg (by decide),if_neg (by decide),if_neg (by decide),if_pos rfl];rfl
theorem sU(ws):fy Am ws=(match ws with|[n,g]=>(match cM n,fz g with|some n,some g=>some (.box n g)|_,_=>none)|_=>none):=by
 unfold fy;rw[if_neg (by decide),if_neg (by decide),if_neg (by decide),if_neg (by decide),if_neg (by decide),if_neg (by decide),if_pos rfl];rfl
theorem Bc(ws):fy vJ ws=(match ws with|[]=>some .look|_=>none):=by
 unfold fy;rw[if_neg (by decide),if_neg (by decide),if_neg (by decide),if_neg (by decide),if_neg (by decide),if_neg (by decide),if_neg (by decide),if_pos rfl];rfl
theorem kG(ws):fy vG ws=(match ws with|[n,a,b,c,d]=>(match cM n,fz a,fz b,fz c,fz d with|some n,some a,some b,some c,some d=>some (.wick n a b c d)|_,_,_,_,_=>none)|_=>none):=by
 unfold fy;rw[if_neg (by decide),if_neg (by decide),if_neg (by decide),if_neg (by decide),if_neg (by decide),if_neg (by decide),if_neg (by decide),if_neg (by decide),if_pos rfl];rfl
theorem mK(ws):fy r7 ws=(match ws with|[a,b,c]=>(match fz a,fz b,fz c with|some a,some b,some c=>some (.blend a b c)|_,_,_=>none)|_=>none):=by
 unfold fy;rw[if_neg (by decide),if_neg (by decide),if_neg (by decide),if_neg (by decide),if_neg (by decide),if_neg (by decide),if_neg (by decide),if_neg (by decide),if_neg (by decide),if_pos rfl];rfl
theorem yf(ws):fy r6 ws=(match ws with|[]=>some .stock|_=>none):=by
 unfold fy;rw[if_neg (by decide),if_neg (by decide),if_neg (by decide),if_neg (by decide),if_neg (by decide),if_neg (by decide),if_neg (by decide),if_neg (by decide),if_neg (by decide),if_neg (by decide),if_pos rfl];rfl
theorem Pn{v}{ws}(c0:(v==uL)=false)(c1:(v==dE)=false)(y:(v==kw)=false)(u:(v==vI)=false)(q:(v==vH)=false)(o:(v==nP)=false)(l:(v==Am)=false)(j:(v==vJ)=false)
  (i:(v==vG)=false) (e:(v==r7)=false) (a:(v==r6)=false):fy v ws=none:=by
 rw[beq_eq_false_iff_ne]at c0 c1 y u q o l j i e a;unfold fy;rw[if_neg c0,if_neg c1,if_neg y,if_neg u,if_neg q,if_neg o,if_neg l,if_neg j,if_neg i,if_neg e,if_neg a]
theorem KR(v):(bs v==({ data:=#[108,111,116] }:ByteArray))=(v==uL):=dy v uL
theorem Ea(v):(bs v==({ data:=#[98,97,116,99,104] }:ByteArray))=(v==dE):=dy v dE
theorem Hb(v):(bs v==({ data:=#[100,114,111,112] }:ByteArray))=(v==kw):=dy v kw
theorem G'(v):(bs v==({ data:=#[112,108,97,110] }:ByteArray))=(v==vI):=dy v vI
theorem G9(v):(bs v==({ data:=#[112,111,117,114] }:ByteArray))=(v==vH):=dy v vH
theorem yI(v):(bs v==({ data:=#[112,114,111,109,105,115,101] }:ByteArray))=(v==nP):=dy v nP
theorem KS(v):(bs v==({ data:=#[98,111,120] }:ByteArray))=(v==Am):=dy v Am
theorem Ha(v):(bs v==({ data:=#[108,111,111,107] }:ByteArray))=(v==vJ):=dy v vJ
theorem G8(v):(bs v==({ data:=#[119,105,99,107] }:ByteArray))=(v==vG):=dy v vG
theorem D'(v):(bs v==({ data:=#[98,108,101,110,100] }:ByteArray))=(v==r7):=dy v r7
theorem D9(v):(bs v==({ data:=#[115,116,111,99,107] }:ByteArray))=(v==r6):=dy v r6
theorem kF:dV Tryz.prog 139=.func:=by kernel_rfl
def CP (v:Int):AV:=.p (aI v)
theorem QP(n)(x):below n (CP x)=True:=eq_true trivial
attribute [go_sem] QP
theorem R8(v):(bs v==({ data:=#[120] }:ByteArray))=(v==kX):=dy v kX
theorem keepS(n)(a)(h):ga (n+1) (a::h)=.dead::ga n h:=by
 unfold ga;rw[List.mapIdx_cons]
 congr 1
 .apply mD;intro i;simp
theorem Uf(a)(h):ga 0 (a::h)=a::h.map λ_=>.dead:=by
 unfold ga;rw[List.mapIdx_cons]
 congr 1
 apply mD;intro i;simp
theorem R'(D C A z y v u q o l j i e a)(h):ga 13 (D::C::A::z::y::v::u::q::o::l::j::i::e::a::h)=.dead::.dead::.dead::.dead::.dead::.dead::.dead::.dead::.dead::.dead::.dead::.dead::.dead::a::h.map λ_=>.dead:=by
 rw[keepS,keepS,keepS,keepS,keepS,keepS,keepS,keepS,keepS,keepS,keepS,keepS,keepS,Uf]
def JM:Hints:=ez [(66,.app 64),(67,.low),(68,.low),(1015066,.sto),(5000001,.app 7)]
theorem R1:cy JM Tryz.f158=true:=by kernel_rfl
theorem gN{s}{b}{ex}{i}{c}(h:gr i=.ok c){F}{first e}{h'}(t)(hh:h'=H7 s b ex t)(j:∀o,o∈h'->aX h'.length o)(q:∀a,a∈first++e->below h'.length a)
  (l:ar Tryz.prog F (first++e) (H7 s b ex t) (jp s b ex t (aR s b c))) (u:t.take 3=D3:=by rfl):tO s b ex i (.ret (.agg [.p (.bool c.written),.func (.func F) first e])) h':=by
 unfold tO;rw[h];subst hh;exact⟨F,first,e,t,u,rfl,rfl,j,q,l⟩
theorem Uj(s)(b)(ex)(n)(N:SOk s)(M:BkOk s b n)(i):ar Tryz.prog 158 [.ptr 2 1 0 0,.p (.str (bs i))] (TC s b ex) (tO s b ex i):=by
 refine au (eI (by kernel_rfl) rfl R1) rfl ?_;simp only[go_sem,simprocAttr];refine an (λh1=>?_) (λh1=>?_);rotate_left
 .have R:400<i.length:=by rw[aj]at h1;simp at h1;omega
  simp only[go_sem,simprocAttr];exact bc (e:=3) (by rw[gr,if_pos R]) _ rfl
 have R:¬400<i.length:=by rw[aj]at h1;simp at h1;omega
 simp only[go_sem,simprocAttr];have a3:i.length<1000000000:=by omega
 refine ae (Jm i jo a3 (by decide)) rfl ?_;by_cases Z:i.take 5=jo
 .have C:decide (i.take jo.length=jo)=true:=decide_eq_true Z;have K:(if i.take jo.length=jo then i.drop jo.length else i)=i.drop 5:=if_pos Z;simp only[C,K,go_sem,simprocAttr];refine gN (c:=.test (i.drop 5)) (by rw[gr,if_neg R,if_pos Z]) _ rfl ?_ ?_ (Uv s b ex _ n N M 10 12 _ rfl rfl)
  .simp only[go_sem,simprocAttr]
  .simp only[go_sem,simprocAttr]
 have C:decide (i.take jo.length=jo)=false:=decide_eq_false Z;have K:(if i.take jo.length=jo then i.drop jo.length else i)=i:=if_neg Z;have a0:=Ii 32 i;simp only[C,K,go_sem,simprocAttr];refine ae (BS i 32 a3) rfl ?_
 cases O:aM 32 i with
 |nil=>exact absurd O (Ba _ _)
 |cons v ws=>
 rw[O]at a0;have a:=J' R Z O;have j:∀w,w∈ws->w.length<=1000000:=λw hw=>by have:=a0 w (by simp[hw]);omega
 simp only[bF,go_sem,simprocAttr];refine cq (yV v ws 13 _ rfl) ?_;simp only[go_sem,simprocAttr];cases c0:v==uL;rotate_left
 .have z:=eq_of_beq c0;subst z;simp only[KR,c0,go_sem,simprocAttr];refine jE ws 13 14 rfl rfl (λI l C n1=>?_) (λu o=>?_);rotate_left
  .simp only[go_sem,simprocAttr];exact bc (e:=6) (by rw[a,qn];rcases ws with _|⟨E,_|⟨D,_|⟨L,_|⟨T,_|⟨x5,_⟩⟩⟩⟩⟩<;>simp_all [aW]) _ rfl
  subst C;simp only[cK,bF,go_sem,simprocAttr];refine jE l 13 14 rfl rfl (λU J K Y=>?_) (λu o=>?_);rotate_left
  .simp only[go_sem,simprocAttr];exact bc (e:=6) (by rw[a,qn];rcases l with _|⟨E,_|⟨D,_|⟨L,_|⟨T,_⟩⟩⟩⟩<;>simp_all [aW]) _ rfl
  subst K;simp only[cK,bF,go_sem,simprocAttr];refine gD J 13 14 (λw hw=>j w (by simp[hw])) rfl rfl (λw3 F X V n3=>?_) (λu o=>?_);rotate_left
  .simp only[go_sem,simprocAttr];exact bc (e:=6) (by rw[a,qn];rcases J with _|⟨E,_|⟨D,_|⟨L,_⟩⟩⟩<;>simp_all [aW]) _ rfl
  subst V;simp only[cK,bF,go_sem,simprocAttr];have a8:F.length<=400:=by
   have h:=rg 32 i;rw[O]at h;simp at h;omega
  refine AT [2,4,7,10,11,12,13,14,15] 19 1 (show 10<=19 by decide) (show 10<=20 by decide) rfl ?_ ?_ rfl ?_
  .simp only[go_sem,simprocAttr]
  .simp only[go_sem,simprocAttr]
  simp only[go_sem,simprocAttr]
  refine gL [2,4,7,10,11,12,13,14,15] (σ:=List (List UInt8)×List Int) (λq=>eW F=(eW q.1).map (q.2++·)/\(∀w,w∈q.1->w.length<=1000000)/\q.2.length+q.1.length=F.length) (λq=>q.1.length) (λq=>[])
   (λq=>TC s b ex++[.row 1 [.ptr 2 1 0 0],.row 2 [.p (.agg [.bool false,.nilfunc])],.row 1 [.p (.str (bs i))],cK q.1,iL 13,.row 2 [.p (.agg [.bool false,.nilfunc])],.row 1 [.p (.str (bs I))],.row 1 [.p (.str (bs U))],.row 1 [.p (.int .i64 X)],.row 1 [.slice 20 q.2.length 0 q.2.length],.row 1 (q.2.map CP)])
   (F,[]) ⟨?_,λw hw=>j w (by simp[hw]),by simp⟩ ?_ ?_
  .show eW F=(eW F).map ([]++·);cases eW F<;>rfl
  .simp only[cK,iL,bF,go_sem,simprocAttr]
  rintro⟨q,rs⟩ ⟨i1,i2,i3⟩
  dsimp only at i1 i2 i3
  cases q with
  |nil=>
   have A:gr i=.ok (.lot I U X rs):=by
    rw[a,qn];have:eW F=some rs:=by rw[i1];simp[eW]
    simp only[n1,Y,n3,this];rfl
   simp only[cK,iL,bF,kF,go_sem,simprocAttr];refine an (λ_=>?_) (λh=>by cases h);simp only[go_sem,simprocAttr];refine gN A _ rfl ?_ ?_ (Wh s b ex _ n N M 10 16 17 18 19 20 _ _ _ rs (by simp at i3;omega) rfl rfl rfl rfl rfl (by decide) rfl)
   .simp only[go_sem,simprocAttr]
   .simp only[go_sem,simprocAttr]
  |cons w r=>
   have a9:decide ((0:Int)<((r.length+1:Nat):Int))=true:=decide_eq_true (by omega);have a2:(0:Int)<((r.length+1:Nat):Int):=by omega
   have a7:(1:Int)<=((r.length+1:Nat):Int):=by omega
   have a5:List.take (r.length+1) (PV.str (bs w)::r.map λx=>PV.str (bs x))=PV.str (bs w)::r.map λx=>PV.str (bs x):=fC (by simp);have a1:rs.length+1<=ao:=by simp at i3;simp only[ao];omega
   cases hx:w==kX;rotate_left
   .have a4:=eq_of_beq hx;simp only[cK,iL,bF,a2,a7,a5,a1,R8,hx,JM,aO,R',go_sem,simprocAttr];refine And.intro (.inr ⟨20,_,rfl,rfl⟩) ?_;refine cc (r,rs++[-1]) ⟨?_,λw hw=>i2 w (by simp[hw]),by simp at i3 |-;omega⟩ (by dsimp only[List.length_cons];omega) ?_
    .show eW F=(eW r).map ((rs++[-1])++·);rw[i1,eW,if_pos a4];cases eW r<;>simp
    .simp only[cK,iL,bF,aL,aV,bD,bK,cf,CP,go_sem,simprocAttr]
   simp only[cK,iL,bF,a2,R8,hx,go_sem,simprocAttr];refine gD (w::r) 13 14 i2 rfl rfl (λw' r' z' e' n'=>?_) (λu o=>?_);rotate_left
   .simp only[go_sem,simprocAttr]
    exact bc (e:=6) (by
     rw[a,qn];have a6:=u w r rfl;have:eW F=none:=by rw[i1,eW,if_neg (by simpa using hx),a6];rfl
     simp only[n1,Y,n3,this]
     rfl) _ rfl
   cases e';simp only[a1,JM,go_sem,simprocAttr];refine cc (r,rs++[z']) ⟨?_,λw hw=>i2 w (by simp[hw]),by simp at i3 |-;omega⟩ (by dsimp only[List.length_cons];omega) ?_
   .show eW F=(eW r).map ((rs++[z'])++·);rw[i1,eW,if_neg (by simpa using hx),n'];cases eW r<;>simp
   .simp only[cK,iL,bF,aL,aV,bD,bK,cf,CP,go_sem,simprocAttr]
 simp only[KR,c0,go_sem,simprocAttr];cases c1:v==dE;rotate_left
 .have z:=eq_of_beq c1;subst z;simp only[Ea,c1,go_sem,simprocAttr];refine jE ws 13 14 rfl rfl (λI l C n1=>?_) (λu o=>?_);rotate_left
  .simp only[go_sem,simprocAttr];exact bc (e:=6) (by rw[a,lh];rcases ws with _|⟨E,_|⟨D,_|⟨L,_|⟨T,_|⟨x5,_⟩⟩⟩⟩⟩<;>simp_all [aW]) _ rfl
  subst C;simp only[cK,bF,go_sem,simprocAttr];refine jE l 13 14 rfl rfl (λU J K Y=>?_) (λu o=>?_);rotate_left
  .simp only[go_sem,simprocAttr];exact bc (e:=6) (by rw[a,lh];rcases l with _|⟨E,_|⟨D,_|⟨L,_|⟨T,_⟩⟩⟩⟩<;>simp_all [aW]) _ rfl
  subst K;simp only[cK,bF,go_sem,simprocAttr];refine jE J 13 14 rfl rfl (λw3 F V n3=>?_) (λu o=>?_);rotate_left
  .simp only[go_sem,simprocAttr];exact bc (e:=6) (by rw[a,lh];rcases J with _|⟨E,_|⟨D,_|⟨L,_⟩⟩⟩<;>simp_all [aW]) _ rfl
  subst V;simp only[cK,bF,go_sem,simprocAttr];refine gD F 13 14 (λw hw=>j w (by simp[hw])) rfl rfl (λw4 r4 z4 e4 n4=>?_) (λu o=>?_);rotate_left
  .simp only[go_sem,simprocAttr];exact bc (e:=6) (by rw[a,lh];rcases F with _|⟨E,_|⟨D,_⟩⟩<;>simp_all [aW]) _ rfl
  subst e4;simp only[cK,bF,go_sem,simprocAttr]
  cases r4 with
  |cons y q=>
   have G:(((q.length+1:Nat):Int)==0)=false:=by rw[beq_eq_false_iff_ne];omega
   simp only[G,go_sem,simprocAttr];refine an (λh=>by cases h) (λ_=>?_);simp only[go_sem,simprocAttr]
   exact bc (e:=6) (by rw[a,lh];simp_all [aW]) _ rfl
  |nil=>
   simp only[go_sem,simprocAttr];refine an (λ_=>?_) (λh=>by cases h);simp only[go_sem,simprocAttr];have A:gr i=.ok (.batch I U w3 z4):=by rw[a,lh];simp_all [aW]
   refine gN A _ rfl ?_ ?_ (SG s b ex _ n N M 10 16 17 18 19 _ _ _ _ rfl rfl rfl rfl rfl)
   .simp only[go_sem,simprocAttr]
   .simp only[go_sem,simprocAttr]
 simp only[Ea,c1,go_sem,simprocAttr];cases c2:v==kw;rotate_left
 .have z:=eq_of_beq c2;subst z;simp only[Hb,c2,go_sem,simprocAttr];refine jE ws 13 14 rfl rfl (λI l C n1=>?_) (λu o=>?_);rotate_left
  .simp only[go_sem,simprocAttr];exact bc (e:=6) (by rw[a,uu];rcases ws with _|⟨E,_|⟨D,_⟩⟩<;>simp_all [aW]) _ rfl
  subst C;simp only[cK,bF,go_sem,simprocAttr]
  cases l with
  |cons y q=>
   have G:(((q.length+1:Nat):Int)==0)=false:=by rw[beq_eq_false_iff_ne];omega
   simp only[G,go_sem,simprocAttr];refine an (λh=>by cases h) (λ_=>?_);simp only[go_sem,simprocAttr]
   exact bc (e:=6) (by rw[a,uu];simp_all [aW]) _ rfl
  |nil=>
   simp only[go_sem,simprocAttr];refine an (λ_=>?_) (λh=>by cases h);simp only[go_sem,simprocAttr];have A:gr i=.ok (.drop I):=by rw[a,uu];simp_all [aW]
   refine gN A _ rfl ?_ ?_ (SB s b ex _ n N M 10 16 _ rfl rfl)
   .simp only[go_sem,simprocAttr]
   .simp only[go_sem,simprocAttr]
 simp only[Hb,c2,go_sem,simprocAttr];cases c3:v==vI;rotate_left
 .have z:=eq_of_beq c3;subst z;simp only[G',c3,go_sem,simprocAttr];refine jE ws 13 14 rfl rfl (λI l C n1=>?_) (λu o=>?_);rotate_left
  .simp only[go_sem,simprocAttr];exact bc (e:=6) (by rw[a,ut];rcases ws with _|⟨E,_|⟨D,_⟩⟩<;>simp_all [aW]) _ rfl
  subst C;simp only[cK,bF,go_sem,simprocAttr]
  cases l with
  |cons y q=>
   have G:(((q.length+1:Nat):Int)==0)=false:=by rw[beq_eq_false_iff_ne];omega
   simp only[G,go_sem,simprocAttr];refine an (λh=>by cases h) (λ_=>?_);simp only[go_sem,simprocAttr]
   exact bc (e:=6) (by rw[a,ut];simp_all [aW]) _ rfl
  |nil=>
   simp only[go_sem,simprocAttr];refine an (λ_=>?_) (λh=>by cases h);simp only[go_sem,simprocAttr];have A:gr i=.ok (.plan I):=by rw[a,ut];simp_all [aW]
   refine gN A _ rfl ?_ ?_ (SA s b ex _ n N M 10 16 _ rfl rfl)
   .simp only[go_sem,simprocAttr]
   .simp only[go_sem,simprocAttr]
 simp only[G',c3,go_sem,simprocAttr];cases c4:v==vH;rotate_left
 .have z:=eq_of_beq c4;subst z;simp only[G9,c4,go_sem,simprocAttr];refine jE ws 13 14 rfl rfl (λI l C n1=>?_) (λu o=>?_);rotate_left
  .simp only[go_sem,simprocAttr];exact bc (e:=6) (by rw[a,us];rcases ws with _|⟨E,_|⟨D,_⟩⟩<;>simp_all [aW]) _ rfl
  subst C;simp only[cK,bF,go_sem,simprocAttr]
  cases l with
  |cons y q=>
   have G:(((q.length+1:Nat):Int)==0)=false:=by rw[beq_eq_false_iff_ne];omega
   simp only[G,go_sem,simprocAttr];refine an (λh=>by cases h) (λ_=>?_);simp only[go_sem,simprocAttr]
   exact bc (e:=6) (by rw[a,us];simp_all [aW]) _ rfl
  |nil=>
   simp only[go_sem,simprocAttr];refine an (λ_=>?_) (λh=>by cases h);simp only[go_sem,simprocAttr];have A:gr i=.ok (.pour I):=by rw[a,us];simp_all [aW]
   refine gN A _ rfl ?_ ?_ (Sz s b ex _ n N M 10 16 _ rfl rfl)
   .simp only[go_sem,simprocAttr]
   .simp only[go_sem,simprocAttr]
 simp only[G9,c4,go_sem,simprocAttr];cases c5:v==nP;rotate_left
 .have z:=eq_of_beq c5;subst z;simp only[yI,c5,go_sem,simprocAttr];refine jE ws 13 14 rfl rfl (λI l C n1=>?_) (λu o=>?_);rotate_left
  .simp only[go_sem,simprocAttr];exact bc (e:=6) (by rw[a,qm];rcases ws with _|⟨E,_|⟨D,_⟩⟩<;>simp_all [aW]) _ rfl
  subst C;simp only[cK,bF,go_sem,simprocAttr]
  cases l with
  |cons y q=>
   have G:(((q.length+1:Nat):Int)==0)=false:=by rw[beq_eq_false_iff_ne];omega
   simp only[G,go_sem,simprocAttr];refine an (λh=>by cases h) (λ_=>?_);simp only[go_sem,simprocAttr]
   exact bc (e:=6) (by rw[a,qm];simp_all [aW]) _ rfl
  |nil=>
   simp only[go_sem,simprocAttr];refine an (λ_=>?_) (λh=>by cases h);simp only[go_sem,simprocAttr];have A:gr i=.ok (.promise I):=by rw[a,qm];simp_all [aW]
   refine gN A _ rfl ?_ ?_ (ND s b ex _ n N M 10 16 _ rfl rfl)
   .simp only[go_sem,simprocAttr]
   .simp only[go_sem,simprocAttr]
 simp only[yI,c5,go_sem,simprocAttr];cases c6:v==Am;rotate_left
 .have z:=eq_of_beq c6;subst z;simp only[KS,c6,go_sem,simprocAttr];refine jE ws 13 14 rfl rfl (λI l C n1=>?_) (λu o=>?_);rotate_left
  .simp only[go_sem,simprocAttr];exact bc (e:=6) (by rw[a,sU];rcases ws with _|⟨E,_|⟨D,_|⟨L,_⟩⟩⟩<;>simp_all [aW]) _ rfl
  subst C;simp only[cK,bF,go_sem,simprocAttr];refine gD l 13 14 (λw hw=>j w (by simp[hw])) rfl rfl (λU J z2 K Y=>?_) (λu o=>?_);rotate_left
  .simp only[go_sem,simprocAttr];exact bc (e:=6) (by rw[a,sU];rcases l with _|⟨E,_|⟨D,_⟩⟩<;>simp_all [aW]) _ rfl
  subst K;simp only[cK,bF,go_sem,simprocAttr]
  cases J with
  |cons y q=>
   have G:(((q.length+1:Nat):Int)==0)=false:=by rw[beq_eq_false_iff_ne];omega
   simp only[G,go_sem,simprocAttr];refine an (λh=>by cases h) (λ_=>?_);simp only[go_sem,simprocAttr]
   exact bc (e:=6) (by rw[a,sU];simp_all [aW]) _ rfl
  |nil=>
   simp only[go_sem,simprocAttr];refine an (λ_=>?_) (λh=>by cases h);simp only[go_sem,simprocAttr];have A:gr i=.ok (.box I z2):=by rw[a,sU];simp_all [aW]
   refine gN A _ rfl ?_ ?_ (Wi s b ex _ n N M 10 16 17 _ _ rfl rfl rfl)
   .simp only[go_sem,simprocAttr]
   .simp only[go_sem,simprocAttr]
 simp only[KS,c6,go_sem,simprocAttr];cases c7:v==vJ;rotate_left
 .have z:=eq_of_beq c7;subst z;simp only[Ha,c7,go_sem,simprocAttr]
  cases ws with
  |cons y q=>
   have G:(((q.length+1:Nat):Int)==0)=false:=by rw[beq_eq_false_iff_ne];omega
   simp only[G,cK,bF,go_sem,simprocAttr];refine an (λh=>by cases h) (λ_=>?_);simp only[go_sem,simprocAttr]
   exact bc (e:=6) (by rw[a,Bc];simp_all [aW]) _ rfl
  |nil=>
   simp only[cK,bF,go_sem,simprocAttr];refine an (λ_=>?_) (λh=>by cases h);simp only[go_sem,simprocAttr];have A:gr i=.ok (.look):=by rw[a,Bc];simp_all [aW]
   refine gN A _ rfl ?_ ?_ (jG (IZ s b ex n M) (by simp only[go_sem,simprocAttr]) _)
   .simp only[go_sem,simprocAttr]
   .simp only[go_sem,simprocAttr]
 simp only[Ha,c7,go_sem,simprocAttr];cases c8:v==vG;rotate_left
 .have z:=eq_of_beq c8;subst z;simp only[G8,c8,go_sem,simprocAttr];refine jE ws 13 14 rfl rfl (λI l C n1=>?_) (λu o=>?_);rotate_left
  .simp only[go_sem,simprocAttr];exact bc (e:=6) (by rw[a,kG];rcases ws with _|⟨E,_|⟨D,_|⟨L,_|⟨T,_|⟨x5,_|⟨x6,_⟩⟩⟩⟩⟩⟩<;>simp_all [aW]) _ rfl
  subst C;simp only[cK,bF,go_sem,simprocAttr];refine gD l 13 14 (λw hw=>j w (by simp[hw])) rfl rfl (λU J z2 K Y=>?_) (λu o=>?_);rotate_left
  .simp only[go_sem,simprocAttr];exact bc (e:=6) (by rw[a,kG];rcases l with _|⟨E,_|⟨D,_|⟨L,_|⟨T,_|⟨x5,_⟩⟩⟩⟩⟩<;>simp_all [aW]) _ rfl
  subst K;simp only[cK,bF,go_sem,simprocAttr];refine gD J 13 14 (λw hw=>j w (by simp[hw])) rfl rfl (λw3 F X V n3=>?_) (λu o=>?_);rotate_left
  .simp only[go_sem,simprocAttr];exact bc (e:=6) (by rw[a,kG];rcases J with _|⟨E,_|⟨D,_|⟨L,_|⟨T,_⟩⟩⟩⟩<;>simp_all [aW]) _ rfl
  subst V;simp only[cK,bF,go_sem,simprocAttr];refine gD F 13 14 (λw hw=>j w (by simp[hw])) rfl rfl (λw4 r4 z4 e4 n4=>?_) (λu o=>?_);rotate_left
  .simp only[go_sem,simprocAttr];exact bc (e:=6) (by rw[a,kG];rcases F with _|⟨E,_|⟨D,_|⟨L,_⟩⟩⟩<;>simp_all [aW]) _ rfl
  subst e4;simp only[cK,bF,go_sem,simprocAttr];refine gD r4 13 14 (λw hw=>j w (by simp[hw])) rfl rfl (λw5 r5 z5 e5 n5=>?_) (λu o=>?_);rotate_left
  .simp only[go_sem,simprocAttr];exact bc (e:=6) (by rw[a,kG];rcases r4 with _|⟨E,_|⟨D,_⟩⟩<;>simp_all [aW]) _ rfl
  subst e5;simp only[cK,bF,go_sem,simprocAttr]
  cases r5 with
  |cons y q=>
   have G:(((q.length+1:Nat):Int)==0)=false:=by rw[beq_eq_false_iff_ne];omega
   simp only[G,go_sem,simprocAttr];refine an (λh=>by cases h) (λ_=>?_);simp only[go_sem,simprocAttr]
   exact bc (e:=6) (by rw[a,kG];simp_all [aW]) _ rfl
  |nil=>
   simp only[go_sem,simprocAttr];refine an (λ_=>?_) (λh=>by cases h);simp only[go_sem,simprocAttr];have A:gr i=.ok (.wick I z2 X z4 z5):=by rw[a,kG];simp_all [aW]
   refine gN A _ rfl ?_ ?_ (Uu s b ex _ n N M 10 16 17 _ _ _ _ _ rfl rfl rfl)
   .simp only[go_sem,simprocAttr]
   .simp only[go_sem,simprocAttr]
 simp only[G8,c8,go_sem,simprocAttr];cases c9:v==r7;rotate_left
 .have z:=eq_of_beq c9;subst z;simp only[D',c9,go_sem,simprocAttr];refine gD ws 13 14 (λw hw=>j w (by simp[hw])) rfl rfl (λI l z1 C n1=>?_) (λu o=>?_);rotate_left
  .simp only[go_sem,simprocAttr];exact bc (e:=6) (by rw[a,mK];rcases ws with _|⟨E,_|⟨D,_|⟨L,_|⟨T,_⟩⟩⟩⟩<;>simp_all [aW]) _ rfl
  subst C;simp only[cK,bF,go_sem,simprocAttr];refine gD l 13 14 (λw hw=>j w (by simp[hw])) rfl rfl (λU J z2 K Y=>?_) (λu o=>?_);rotate_left
  .simp only[go_sem,simprocAttr];exact bc (e:=6) (by rw[a,mK];rcases l with _|⟨E,_|⟨D,_|⟨L,_⟩⟩⟩<;>simp_all [aW]) _ rfl
  subst K;simp only[cK,bF,go_sem,simprocAttr];refine gD J 13 14 (λw hw=>j w (by simp[hw])) rfl rfl (λw3 F X V n3=>?_) (λu o=>?_);rotate_left
  .simp only[go_sem,simprocAttr];exact bc (e:=6) (by rw[a,mK];rcases J with _|⟨E,_|⟨D,_⟩⟩<;>simp_all [aW]) _ rfl
  subst V;simp only[cK,bF,go_sem,simprocAttr]
  cases F with
  |cons y q=>
   have G:(((q.length+1:Nat):Int)==0)=false:=by rw[beq_eq_false_iff_ne];omega
   simp only[G,go_sem,simprocAttr];refine an (λh=>by cases h) (λ_=>?_);simp only[go_sem,simprocAttr]
   exact bc (e:=6) (by rw[a,mK];simp_all [aW]) _ rfl
  |nil=>
   simp only[go_sem,simprocAttr];refine an (λ_=>?_) (λh=>by cases h);simp only[go_sem,simprocAttr];have A:gr i=.ok (.blend z1 z2 X):=by rw[a,mK];simp_all [aW]
   refine gN A _ rfl ?_ ?_ (SF s b ex _ n N M 10 16 _ _ _ rfl rfl)
   .simp only[go_sem,simprocAttr]
   .simp only[go_sem,simprocAttr]
 simp only[D',c9,go_sem,simprocAttr];cases S:v==r6;rotate_left
 .have z:=eq_of_beq S;subst z;simp only[D9,S,go_sem,simprocAttr]
  cases ws with
  |cons y q=>
   have G:(((q.length+1:Nat):Int)==0)=false:=by rw[beq_eq_false_iff_ne];omega
   simp only[G,cK,bF,go_sem,simprocAttr];refine an (λh=>by cases h) (λ_=>?_);simp only[go_sem,simprocAttr]
   exact bc (e:=6) (by rw[a,yf];simp_all [aW]) _ rfl
  |nil=>
   simp only[cK,bF,go_sem,simprocAttr];refine an (λ_=>?_) (λh=>by cases h);simp only[go_sem,simprocAttr];have A:gr i=.ok (.stock):=by rw[a,yf];simp_all [aW]
   refine gN A _ rfl ?_ ?_ (jG (Sd s b ex n N M) (by simp only[go_sem,simprocAttr]) _)
   .simp only[go_sem,simprocAttr]
   .simp only[go_sem,simprocAttr]
 simp only[D9,S,kF,go_sem,simprocAttr];refine an (λh=>by cases h) (λ_=>?_);simp only[go_sem,simprocAttr];exact bc (e:=6) (by rw[a,Pn c0 c1 c2 c3 c4 c5 c6 c7 c8 c9 S];rfl) _ rfl
end Ch
end Abs
end Go.Proofs.YtmndpldajflenaaGreatDoor
