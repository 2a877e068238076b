/- CONTRACTS of the program's functions, and laws on what they return. No conditions but those in the theorems' heads. -/
import Derived.Test.YtmndpldajflenaaGreatDoorAbsHead
import Derived.ProofKit
import Derived.OpenShut
import Derived.Carry
set_option linter.all false
namespace Go.Proofs.YtmndpldajflenaaGreatDoor
namespace Abs
attribute [go_sem ↓] UN Og Tj Tk Tg UO Ti QX QZ Q2 Tn Q6 Ok To Q9 Ol Cx JC GJ Fj zE CB Fm AY CY zJ CZ
attribute [go_sem] Eg lY eU KJ IC IB AObj.isDead
attribute [go_sem] false_and vp fT o9 Int.toNat_zero Int.lt_irrefl Jy JE xF AX Cz uM qT qV qU exists_eq_left' true_or or_true false_or or_false List.getElem?_nil Int.cast_ofNat_Int decide_true decide_false WJ WI WH WG WE WA Wz Wy Ww Wv Wa V' V9 AV.plain yA List.all_cons HV Bj ui exists_eq' exists_eq List.append_cancel_left_eq dp cW kn Int.natCast_nonneg jI Option.map_none vg gq vh sr lX ky km zB CW vZ gj kl qQ sv tN pU Fh dN pq wv m9 aQ j8 bV eE Em pg mZ QT LV Gx LU Gv Jr LW Gw N7 Ju E4 GA Jv N6 Jt E3 Gy N8 Jw E5 DO Cm Cn yv Ck F' Ez List.forall_mem_append List.forall_mem_map List.forall_mem_cons fD false_imp_iff implies_true not_false_eq_true ne_eq H0 Ou Rh Ri OE OR.skip.injEq Rf Om On gG fI xr rd K9 IU pQ nh vF Iv Hg ri lG td Tm GI GH KW yJ KV pM D2 IL KX IM L9 zC Cy Fk AW zD Cd Ab kj zA CV vi UP p0 Tl Q3 Q4 Oi JD CA Fl KP KQ Kf Of Oe L7 Qg Lr Gb Ls I9 Lt GF GE GD pX AEnd.ret.injEq AV.p.injEq PV.bool.injEq PV.int.injEq PV.agg.injEq PV.tuple.injEq PV.str.injEq List.cons.injEq Q7 Rp Tp JH GN JF GL GK GM Fq Ft JG Fs p9 Fg pT Ak jn tj kR mU FX DP Rm Rg Rk Re yN Rl Mb Ma Rj Rn Ov Mc Ro Ra bA oT cv beq_true beq_false zS Bool.and_true Bool.false_and Bool.and_false Bool.not_true wR cn Bool.or_true sC l6 n9 Option.bind_none HZ bh aE Hint.isMut AAct.eval AAct.put Dg start Jz eG AV.cells PV.cells bK cf lc hZ mB o0 lB su nx gC ku AV.part AV.withCells ii rF iH dB dL gV dZ mi List.size_toArray Uq Up AS vK r9 x4 HG n6 r8 fO nZ kx List.set_cons_zero List.set_cons_succ pJ gp jP sub List.take_succ_cons List.take_zero List.drop_succ_cons qd and_self and_true true_and
open Go.ChangeShapes Go.WideShapes Go.ChangeAt Go.RowKit
def tP (R:TypeId->List PV->Prop):List Field->List PV->Prop
 |[],cs=>cs=[]
 |f::fs,cs=>∃a b,cs=a++b/\R f.type a/\tP R fs b
def JJ (R:List PV->Prop):Nat->List PV->Prop
 |0,cs=>cs=[]
 |n+1,cs=>∃a b,cs=a++b/\R a/\JJ R n b
def jz (agg:Bool) (cs:List PV):PV:=
 match agg,cs with
 |false,[c]=>c
 |_,cs=>.agg cs
def cQ (P:Program):Nat->TypeId->List PV->Prop
 |0,_,_=>False
 |n+1,t,cs=>
  match P.underlying t with
  |some .bool=>∃b,cs=[.bool b]
  |some (.int k)=>∃m,cs=[.int k m]/\(Lit.int k m).wf=true
  |some .string=>∃s:ByteArray,cs=[.str s]/\s.size<=maxLen
  |some (.slice e)=>∃xs,cs=[.slice (P.cellsOf e) xs false]/\xs.length<=maxLen/\∀x,x∈xs->∃es,x=jz (bn P e==some true) es/\cQ P n e es
  |some (.struct fs)=>tP (cQ P n) fs.toList cs
  |some (.array m e)=>JJ (cQ P n e) m cs
  |_=>False
def vw (P:Program) (n:Nat) (t:TypeId) (v:PV):Prop:=∃cs,v=jz (bn P t==some true) cs/\cQ P n t cs
def De (P:Program) (n:Nat):List TypeId->List PV->Prop
 |[],vs=>vs=[]
 |t::ts,vs=>∃v r,vs=v::r/\vw P n t v/\De P n ts r
def ug (P:Program):List Field->Nat->Nat->Bool
 |[],o,n=>o==n
 |f::fs,o,n=>f.offset==o&&ug P fs (o+P.cellsOf f.type) n
def tV (P:Program):Nat->TypeId->Bool
 |0,_=>false
 |n+1,t=>
  match P.underlying t with
  |some .bool=>P.cellsOf t==1
  |some (.int _)=>P.cellsOf t==1
  |some .string=>P.cellsOf t==1
  |some (.slice e)=>P.cellsOf t==1&&P.cellsOf e != 0&&tV P n e
  |some (.struct fs)=>ug P fs.toList 0 (P.cellsOf t)&&fs.toList.all λf=>tV P n f.type
  |some (.array m e)=>m*P.cellsOf e==P.cellsOf t&&tV P n e
  |_=>false
def Ca:Nat->Prop:=λ_=>False
def kA (w:World) (cs:List Value) (ps:List PV):Prop:=
 cs.length=ps.length/\∀(i:Nat) (c:PV),ps[i]?=some c->c.isCell=true/\RepP Ca w (cs.getD i undef) c
theorem kA.nil{w}:kA w [] []:=⟨rfl,by simp⟩
theorem kA.append{w}{a b}{p q}(h:kA w a p)(k:kA w b q):kA w (a++b) (p++q):=by
 refine⟨by simp[h.1,k.1],λi c hi=>?_⟩;rcases cx i p.length with e|e
 .rw[bp e]at hi;have:=h.2 i c hi;rw[cr,bp (by rw[h.1];exact e),<-cr];exact this
 .rw[cG e]at hi;have:=k.2 _ c hi;rw[cr,cG (by rw[h.1];exact e),h.1,<-cr];exact this
theorem kA.one{w}{v}{c}(a:c.isCell=true)(h:RepP Ca w v c):kA w [v] [c]:=by
 refine⟨rfl,λi e hi=>?_⟩
 cases i with
 |zero=>cases hi;exact⟨a,h⟩
 |succ i=>simp at hi
theorem wn{α:Type}{p:Nat->α->Prop}:∀(n),(∀i,i<n->∃x,p i x)->∃l:List α,l.length=n/\∀i x,l[i]?=some x->p i x
 |0,_=>⟨[],rfl,by simp⟩
 |n+1,h=>by
  obtain⟨l,o,j⟩:=wn n λi hi=>h i (by omega);obtain⟨x,hx⟩:=h n (by omega);refine⟨l++[x],by simp[o],λi y hi=>?_⟩;rcases cx i n with e|e
  .rw[bp (by omega)]at hi;exact j i y hi
  .rw[cG (by omega)]at hi
   cases a:i-l.length with
   |succ k=>rw[a]at hi;simp at hi
   |zero=>
    rw[a]at hi;have:i=n:=by omega
    subst this;simp at hi;subst hi;exact hx
theorem tW{a}{cs}{c}(h:a=true\/(cs=[c]/\c.isCell=true)):(jz a cs).cells=cs:=by
 rcases h with rfl|⟨rfl,e⟩
 .cases cs with
  |nil=>rfl
  |cons x l=>cases l<;>rfl
 .cases a
  .show PV.cells c=[c]
   cases c<;>first|rfl|cases e
  .rfl
section
variable {H:Type} {enc:TypeId×Value->H} {P:Program} {w:World} {sp:Nat->Bool} {held:Bool}
def Wj:TypeDesc->Bool
 |.struct _=>true
 |.array _ _=>true
 |_=>false
theorem vf{t}{d}(h:P.underlying t=some d):(bn P t==some true)=Wj d:=by
 unfold bn;rw[h];cases d<;>rfl
theorem wy{fuel n}(y:∀(fuel) (t) (cs) (x),tV P n t=true->DataW.trod enc P w 0 sp held fuel t cs=some x->∃ps,cQ P n t ps/\ps.length=P.cellsOf t/\kA w cs ps) :
  ∀(j) (o a) (cs:List Value),ug P j o a=true->cs.length=a->(∀f,f∈j->tV P n f.type=true) ->
   (∀f,f∈j->∃x,DataW.trod enc P w 0 sp held fuel f.type ((cs.drop f.offset).take (P.cellsOf f.type))=some x)->o<=a/\∃ps,tP (cQ P n) j ps/\kA w (cs.drop o) ps
 |[],o,a,cs,i,A,_,_=>by
  have:o=a:=by simpa[ug]using i
  subst this;refine⟨ba _,[],rfl,?_⟩;rw[HU (by omega)]
  exact .nil
 |f::j,o,a,cs,i,A,hok,z=>by
  simp only[ug,dQ,beq_iff_eq]at i;obtain⟨F,i⟩:=i;obtain⟨G,v,D,q⟩:=wy y j _ a cs i A (λg l=>hok g (by simp[l])) λg l=>z g (by simp[l]);obtain⟨x,hx⟩:=z f (by simp);obtain⟨ps,E,C,u⟩:=y fuel f.type _ x (hok f (by simp)) hx;refine⟨by omega,ps++v,⟨ps,v,rfl,E,D⟩,?_⟩;have e:cs.drop o=(cs.drop f.offset).take (P.cellsOf f.type)++cs.drop (o+P.cellsOf f.type):=by
   rw[F,<-qe,mE]
  rw[e];exact u.append q
theorem E9{n m}{e}:∀(k o) (cs:List Value),o+k=m->cs.length=m*P.cellsOf e ->
   (∀i,i<m->∃ps,cQ P n e ps/\ps.length=P.cellsOf e/\kA w ((cs.drop (i*P.cellsOf e)).take (P.cellsOf e)) ps)->∃ps,JJ (cQ P n e) k ps/\ps.length=k*P.cellsOf e/\kA w (cs.drop (o*P.cellsOf e)) ps
 |0,o,cs,C,y,_=>by
  refine⟨[],rfl,by simp,?_⟩;have:o=m:=by omega
  rw[this,HU (by omega)]
  exact .nil
 |k+1,o,cs,C,y,v=>by
  obtain⟨u,z,l,a⟩:=E9 k (o+1) cs (by omega) y v;obtain⟨ps,A,q,j⟩:=v o (by omega);refine⟨ps++u,⟨ps,u,rfl,A,z⟩,by simp[q,l,dK];omega,?_⟩;have e:cs.drop (o*P.cellsOf e)=(cs.drop (o*P.cellsOf e)).take (P.cellsOf e)++cs.drop ((o+1)*P.cellsOf e):=by
   rw[dK,sF,<-qe,mE]
  rw[e];exact j.append a
theorem MK:∀(n fuel) (t) (cs) (x),tV P n t=true->DataW.trod enc P w 0 sp held fuel t cs=some x->∃ps,cQ P n t ps/\ps.length=P.cellsOf t/\kA w cs ps:=by
 intro n
 induction n with
 |zero=>intro fuel t cs x h;cases h
 |succ n ih=>
  intro fuel t cs x hok h;unfold tV at hok;unfold cQ
  cases C:P.underlying t with
  |none=>rw[C]at hok;cases hok
  |some d=>
   rw[C]at hok
   cases d with
   |bool=>
    obtain⟨b,rfl,_⟩:=DataW.trod_bool C h
    exact⟨[.bool b],⟨b,rfl⟩,by simp only[beq_iff_eq]at hok;exact hok.symm,.one rfl (.bool b)⟩
   |int k=>
    obtain⟨m,rfl,_,a2⟩:=DataW.trod_int C h
    exact⟨[.int k m],⟨m,rfl,a2⟩,by simp only[beq_iff_eq]at hok;exact hok.symm,.one rfl (.int k m)⟩
   |string=>
    obtain⟨s,rfl,_,hs⟩:=DataW.trod_string C h
    exact⟨[.str s],⟨s,rfl,hs⟩,by simp only[beq_iff_eq]at hok;exact hok.symm,.one rfl (.str s)⟩
   |slice e=>
    simp only[dQ,beq_iff_eq,bne_iff_ne]at hok;obtain⟨⟨h1,a4⟩,a3⟩:=hok;rcases DataW.trod_slice C h with⟨rfl,_⟩|⟨a,len,cap,J,rest,M,rfl,rfl,_,_,a5,b1,b2,Z,_,_⟩
    .exact⟨[.slice (P.cellsOf e) [] false],⟨[],rfl,by simp,by simp⟩,by simp[h1],.one rfl (.empty (by simp))⟩
    .by_cases hz:len=0
     .subst hz;exact⟨[.slice (P.cellsOf e) [] false],⟨[],rfl,by simp,by simp⟩,by simp[h1],.one rfl (.empty (by simp))⟩
     .have a1:∀i,i<len->∃es:List PV×List Value,w.cells? 0 (a.add (i*P.cellsOf e)) (P.cellsOf e)=some es.2/\cQ P n e es.1/\es.1.length=P.cellsOf e/\kA w es.2 es.1:=by
       intro i hi;have o:=Z i hi;have F:i<J.length:=by omega
       rw[bO F]at o
       cases D:w.cells? 0 (a.add (i*P.cellsOf e)) (P.cellsOf e) with
       |none=>rw[D]at o;cases o
       |some T=>
        rw[D]at o;obtain⟨ps,h4,h5,h6⟩:=ih M e T _ a3 o;exact⟨(ps,T),rfl,h4,h5,h6⟩
      obtain⟨l,E,u⟩:=wn len a1;have I:a.spot=none:=by
       have h0:l[0]?=some l[0]:=bO (by omega);obtain⟨o,_,h4,h5⟩:=u 0 _ h0;obtain⟨_,h6,h7⟩:=World.cells?_some o;have R:=h7 0 (by omega);have O:(l[0].2)[0]?=some (l[0].2[0]'(by omega)):=bO (by omega);rw[O]at R;have:=World.cell?_spot R;simpa[Addr.add]using this
      obtain⟨U,off,b0⟩:=a;subst I;have a0:∀i j,(Addr.add ⟨U,off,none⟩ i).add j=⟨U,off+(i+j),none⟩:=by
       intro i j;unfold Addr.add;by_cases hi:i=0<;>by_cases L:j=0<;>simp[hi,L];omega
      refine⟨[.slice (P.cellsOf e) (l.map λq=>jz (bn P e==some true) q.1) false],⟨_,rfl,by simp[E];omega,λx hx=>?_⟩,by simp[h1],.one rfl ?_⟩
      .simp only[cX]at hx;obtain⟨q,A,rfl⟩:=hx;obtain⟨i,hi⟩:=eF A;exact⟨q.1,rfl,(u i q hi).2.1⟩
      .have z:∀(i:Nat) (q:List PV×List Value),l[i]?=some q->(jz (bn P e==some true) q.1).cells=q.1:=by
        intro i q A;have v:=(u i q A).2.1;have a9:(bn P e==some true)=true\/∃c,q.1=[c]/\c.isCell=true:=by
         cases n with
         |zero=>cases v
         |succ n=>
          unfold cQ at v
          cases G:P.underlying e with
          |none=>rw[G]at v;cases v
          |some d=>
           rw[G]at v;rw[vf G]
           cases d<;>first
            |exact .inl rfl
            |exact v.elim
            |(obtain⟨_,v,_⟩:=v;exact .inr ⟨_,v,rfl⟩)
            |(obtain⟨_,v⟩:=v;exact .inr ⟨_,v,rfl⟩)
        rcases a9 with o|⟨c,o,F⟩
        .exact tW (c:=.bool true) (.inl o)
        .exact tW (.inr ⟨o,F⟩)
       have X:∀i,i<len->∃q,l[i]?=some q:=λi hi=>⟨l[i]'(by omega),bO _⟩
       have Y:∀k,k<(l.map λq=>jz (bn P e==some true) q.1).length*P.cellsOf e->k / P.cellsOf e<len/\k%P.cellsOf e<P.cellsOf e:=by
        intro k hk;have y:0<P.cellsOf e:=Nat.pos_of_ne_zero a4;simp only[dp,E]at hk;exact⟨(Nat.div_lt_iff_lt_mul y).2 hk,vr _ y⟩
       refine .slice (λk=>(l.getD (k / P.cellsOf e) default).2.getD (k%P.cellsOf e) undef) (by simp[E]) a5 (by simp) (λx hx=>?_) (λ_ N=>N) (λk hk=>?_) λi j x c hx D=>?_
       .simp only[cX]at hx;obtain⟨q,A,rfl⟩:=hx;obtain⟨i,hi⟩:=eF A;rw[z i q hi];refine⟨(u i q hi).2.2.1,λc D=>?_⟩;obtain⟨j,L⟩:=eF D;exact((u i q hi).2.2.2.2 j c L).1
       .obtain⟨a7,a6⟩:=Y k hk;obtain⟨q,A⟩:=X _ a7;obtain⟨o,_,h4,h5⟩:=u _ q A;obtain⟨_,h6,h7⟩:=World.cells?_some o;have R:=h7 _ a6;rw[a0,Nat.div_add_mod']at R;rw[R];have O:l.getD (k / P.cellsOf e) default=q:=by simp[A]
        rw[O,cr];rw[bO (by omega)];rfl
       .simp only[cW,bC]at hx;obtain⟨q,A,rfl⟩:=hx;rw[z i q A]at D;have L:j<P.cellsOf e:=by
         have:=(aB.1 D).1;rw[(u i q A).2.2.1]at this;exact this
        have y:0<P.cellsOf e:=by omega
        have e1:(i*P.cellsOf e+j) / P.cellsOf e=i:=by
         rw[CE,Nat.mul_add_div y,Nat.div_eq_of_lt L];rfl
        have e2:(i*P.cellsOf e+j)%P.cellsOf e=j:=by
         rw[CE,Nat.mul_add_mod,H1 L]
        show RepP Ca w ((l.getD ((i*P.cellsOf e+j) / P.cellsOf e) default).2.getD ((i*P.cellsOf e+j)%P.cellsOf e) undef) c;rw[e1,e2];have O:l.getD i default=q:=by simp[A]
        rw[O]
        exact((u i q A).2.2.2.2 j c D).2
   |struct fs=>
    simp only[dQ,kC]at hok;obtain⟨xs,M,rfl,_,E,V,N⟩:=DataW.trod_struct C h;obtain⟨_,ps,v,K⟩:=wy (fuel:=M) ih fs.toList 0 (P.cellsOf t) cs hok.1 E hok.2 λf a8=>by
     obtain⟨i,hi⟩:=eF a8;have S:fs[i]?=some f:=by simpa using hi
     have o:=N i f S;have F:i<xs.length:=by
      have:=(tQ.1 S).1;omega
     rw[bO F]at o;exact⟨_,o⟩
    rw[qd]at K
    exact⟨ps,v,by rw[<-K.1,E],K⟩
   |array m e=>
    simp only[dQ,beq_iff_eq]at hok;obtain⟨xs,M,rfl,_,E,V,N⟩:=DataW.trod_array C h;obtain⟨ps,v,u,K⟩:=E9 (w:=w) (P:=P) (n:=n) (m:=m) (e:=e) m 0 cs (by omega) (by omega) λi hi=>by
     have o:=N i hi;have F:i<xs.length:=by omega
     rw[bO F]at o;exact ih M e _ _ hok.2 o
    rw[CD,qd]at K
    exact⟨ps,v,by omega,K⟩
   |_=>cases hok
theorem Mw{n base}{t}{v}{d}{ps}(hok:tV P n t=true)(j:Value.okWide P w .any base t v)(h:DataW.Trod enc P w 0 sp held t v d ps):∃q,vw P n t q/\RepP Ca w v q:=by
 obtain⟨fuel,h⟩:=h;obtain⟨y,o,I,D⟩:=MK n fuel t _ _ hok h;refine⟨_,⟨y,rfl,o⟩,?_⟩
 cases n with
 |zero=>cases hok
 |succ n=>
  unfold cQ at o;unfold Value.okWide at j
  cases z:P.underlying t with
  |none=>rw[z]at o;exact o.elim
  |some d=>
   rw[z]at o j;rw[vf z];have one:∀c,y=[c]->(∀C,v≠.agg C)->RepP Ca w v (jz false y):=by
    intro c u j;subst u;have F:=(D.2 0 c rfl).2;have E:v.cells.toList=[v]:=by cases v<;>first|rfl|exact absurd rfl (j _)
    rw[E]at F;exact F
   have agg:∀C,v=.agg C->RepP Ca w v (jz true y):=by
    intro C A;subst A;have E:jz true y=.agg y:=by cases y with|nil=>rfl|cons a l=>cases l<;>rfl
    rw[E];refine .agg (by have:=D.1;simpa[Value.cells]using this) (λc G=>?_) λi c hi=>?_
    .obtain⟨i,hi⟩:=eF G;exact(D.2 i c hi).1
    .have:=(D.2 i c hi).2;simpa[Value.cells]using this
   cases d with
   |bool=>obtain⟨b,u⟩:=o;exact one _ u (by rintro C rfl;simp[Cell.okWide,Cell.ok,z]at j)
   |int k=>obtain⟨m,u,_⟩:=o;exact one _ u (by rintro C rfl;simp[Cell.okWide,Cell.ok,z]at j)
   |string=>obtain⟨s,u,_⟩:=o;exact one _ u (by rintro C rfl;simp[Cell.okWide,Cell.ok,z]at j)
   |slice e=>obtain⟨xs,u,_⟩:=o;exact one _ u (by rintro C rfl;simp[Cell.okWide,Cell.ok,z]at j)
   |struct J=>obtain⟨C,A,_⟩:=j;exact agg C A
   |array m e=>obtain⟨C,A,_⟩:=j;exact agg C A
   |_=>exact o.elim
theorem A2{n base}:∀(ts) (e) (o) (ps),(∀t,t∈ts->tV P n t=true)->(∀(j:Nat) t v,ts[j]?=some t->e[j]?=some v->Value.okWide P w .any base t v) ->
  DataW.TrodAll enc P w 0 sp held ts e o ps->∃l,De P n ts l/\e.length=l.length/\∀(i) (c),l[i]?=some c->RepP Ca w (e.getD i undef) c
 |[],e,o,ps,_,_,h=>by
  obtain⟨rfl,rfl,rfl⟩:=trodAll_nil h
  exact⟨[],rfl,rfl,by simp⟩
 |t::ts,e,o,ps,hok,D,h=>by
  obtain⟨v,u,d,C,a,b,rfl,rfl,rfl,L,K⟩:=trodAll_cons h;obtain⟨q,G,F⟩:=Mw (hok t (by simp)) (D 0 t v rfl rfl) L;obtain⟨l,A,I,z⟩:=A2 ts u C b (λt E=>hok t (by simp[E])) (λj t v J y=>D (j+1) t v (by simpa using J) (by simpa using y)) K;refine⟨q::l,⟨q,l,rfl,G,A⟩,by simp[I],λi c hi=>?_⟩
  cases i with
  |zero=>cases hi;exact F
  |succ i=>exact z i c (by simpa using hi)
theorem Fd{W A}(y:laidOutB P=true)(z:Below W.heap.size W A)(e):∀(ts) (l) (o) (ps),(∀t,t∈ts->P.readableRec t=true/\t<P.types.size) ->
  DataW.TrodAll enc P W 0 (λ_=>true) true ts l o ps->(∀x,x∈ps->x.block<W.heap.size)->(∀x,x∈ps->e x.block=true)->DataW.TrodAll enc P A 0 e true ts l o ps
 |[],l,o,ps,_,h,_,_=>by
  obtain⟨rfl,rfl,rfl⟩:=trodAll_nil h
  exact rfl
 |t::ts,l,o,ps,hok,h,j,i=>by
  obtain⟨v,q,d,u,a,b,rfl,rfl,rfl,E,D⟩:=trodAll_cons h;refine⟨a,b,?_,Fd y z e ts q u b (λt C=>hok t (by simp[C])) D (λx hx=>j x (by simp[hx])) (λx hx=>i x (by simp[hx])),rfl⟩;exact WideElems.Trod_stays y (hok t (by simp)).1 (hok t (by simp)).2 E (λx hx=>z.same (j x (by simp[hx]))) (λx hx=>i x (by simp[hx]))
theorem Kr{f}{s:ChangeSpec}{o fresh q D}{W C}{args}{v}{F E}{e pa pv}
  (I:DataW.Whole enc P f.params.toList s.vars o W args.toList F E e)
  (z:∀(b) (sp) (O),DataW.TrodAll enc P C b sp O f.resultTypes.toList (v.resultList f.resultTypes.size) (s.fn H (F++E)).results [])
  (l:∀sp,(∀p∈e,sp p.block=true)->DataW.TrodAll enc P C 0 sp true f.params.toList args.toList (s.fn H (F++E)).args pa)
  (i:∀sp,(∀p∈e,sp p.block=true)->DataW.TrodVars enc P C sp s.vars (s.fn H (F++E)).vars pv)
  (y:e=pa++pv) (N:W.keptBut C (·∈e)) (K:∀a,a.block<W.heap.size->C.frozen? a=W.frozen? a)
  (hok:∀(j:Nat) (t) (r),f.resultTypes[j]?=some t->(v.resultList f.resultTypes.size)[j]?=some r->Value.okWide P C .any 0 t r) :
  s.post enc P f o fresh q D W args v C:=by
 have A:∀p∈e,(λb=>decide (b<W.heap.size)) p.block=true:=λp u=>by simpa using I.lt p u
 have J:=I.lt;refine⟨F,E,e,[],pa,pv,I,z _ _ _,l _ A,i _ A,World.keptBut_mono (λp u=>⟨u,?_⟩) N,λ_=>?_⟩
 .rw[y,ck]at u;exact Or.inr u
 .obtain⟨_,_,_,_,_,L,M⟩:=I;refine⟨hok,_,_,([]++pa)++pv,⟨[]++pa,pv,trodAll_append (l _ (λ_ _=>rfl)) (z _ _ _),i _ (λ_ _=>rfl),rfl,?_,?_⟩,?_⟩
  .intro b off u;have G:MemPlace.cell b off∈e:=by rw[y];simpa using u
   rw[K ⟨b,off,none⟩ (J _ G)];exact L b off G
  .intro R;have:=M R;rw[y]at this;simpa using this
  .intro p u _;rw[y];simpa using u
theorem Nq{w w'}(h:Fr [] w w'):Below w.heap.size w w':=⟨h.os,h.tape,h.output,h.size,λk a=>h.block k a (by simp[Own])⟩
theorem D8{f}{fn}{s:ChangeSpec}{ts}{tb}{n base}(D:fn.params.toList=ts)(C:fn.resultTypes=#[tb])(O:P.underlying tb=some .bool)(hl:laidOutB P=true)
  (hok:∀t,t∈ts->tV P n t=true/\P.readableRec t=true/\t<P.types.size) (o:s.vars=[]) (hs:∀(H) (l),l.length=ts.length->s.fn H l={ results:=[.lit (.bool true)],args:=l })
  (M:∀N,De P n ts N->af P f N (.bool true))
  {W} (hg:t7 P W) {args} {l gs} {z} {u fresh y I} (A:∀(j:Nat) t v,fn.params[j]?=some t->args[j]?=some v->Value.okWide P W .any base t v)
  (hW:DataW.Whole enc P fn.params.toList s.vars u W args.toList l gs z):Calls P f args W λe W'=>∃v,e=.returned v/\s.post enc P fn u fresh y I W args v W':=by
 have G:=hW;obtain⟨p,q,J,hV,rfl,a2,Z⟩:=hW;rw[o]at hV;obtain⟨rfl,rfl⟩:=trodVars_none hV;rw[D]at J;have L:l.length=ts.length:=by
  clear a2 Z G A;generalize args.toList=K at J
  induction ts generalizing K l p with
  |nil=>obtain⟨rfl,rfl,rfl⟩:=trodAll_nil J;rfl
  |cons t ts ih=>
   obtain⟨v,U,d,a4,a,b,rfl,rfl,rfl,h1,T⟩:=trodAll_cons J;have:∀(ts:List TypeId) (K:List Value) (l:List (DataW H)) (p:List MemPlace),DataW.TrodAll enc P W 0 (λ_=>true) true ts K l p->l.length=ts.length:=by
    intro ts
    induction ts with
    |nil=>intro K l p h;obtain⟨rfl,rfl,rfl⟩:=trodAll_nil h;rfl
    |cons t ts ih=>intro K l p h;obtain⟨v,U,d,a4,a,b,rfl,rfl,rfl,h1,T⟩:=trodAll_cons h;simp[ih _ _ _ T]
   simp[this _ _ _ _ T]
 obtain⟨N,Y,a1,X⟩:=A2 (n:=n) ts args.toList l p (λt S=>(hok t S).1) (λj t v hj R=>A j t v (by rw[<-D]at hj;simpa using hj) (by simpa using R)) J;obtain⟨_,hc⟩:=M N Y Ca W args (λb O=>O.elim) hg ⟨by simpa using a1,λi c hi=>by simpa using X i c hi⟩;refine hc.mono λe W' he=>?_;obtain⟨v',rfl,R,a3⟩:=he;cases R;have F:=Nq a3;have a0:∀x,x∈p->x.block<W.heap.size:=λx hx=>by
  have:=G.lt x (by simpa using hx);exact this
 refine⟨_,rfl,?_⟩;have E:=hs H l L;refine Kr (pa:=p) (pv:=[]) G (λb sp hd=>?_) (λsp V=>?_) (λsp _=>?_) (by simp) (F.frame _) (λa ha=>F.frozen ha) (ok_one C rfl (okWide_bool_mk O _))
 .rw[bt,E,C];exact trodAll_cons_mk (shut_bool O _) trodAll_mk0
 .rw[bt,E,D];exact Fd hl F sp ts _ l p (λt S=>(hok t S).2) J a0 λx hx=>V x (by simpa using hx)
 .rw[bt,E,o];rfl
end
end Abs
end Go.Proofs.YtmndpldajflenaaGreatDoor
namespace Go.Proofs.YtmndpldajflenaaGreatDoor
namespace Abs
variable {P:Program}
def sx (q v:PV):Prop:=qV q v\/∃sz xs,q=.slice sz xs true/\v=.slice sz xs false
theorem sx.rep{q v}(h:sx q v){M}{w}{u}(j:RepP M w u q):RepP M w u v:=by
 rcases h with h|⟨sz,xs,rfl,rfl⟩
 .exact h.rep j
 .cases j with
  |slice f e i a l y o j=>exact .slice f e i (by simp) l y o j
  |empty a=>exact .empty (by simp)
theorem sx.cell{q v}(h:sx q v)(a:q.isCell=true):v.isCell=true:=by
 rcases h with(rfl|⟨rfl,sz,rfl⟩)|⟨sz,xs,rfl,rfl⟩
 .exact a
 .rfl
 .rfl
def zG:List PV->List PV->Prop
 |[],[]=>True
 |q::a,v::b=>sx q v/\zG a b
 |_,_=>False
theorem zG.get:∀{a b},zG a b->a.length=b.length/\∀(i:Nat) (v),b[i]?=some v->∃q,a[i]?=some q/\sx q v
 |[],[],_=>⟨rfl,by simp⟩
 |q::a,v::b,h=>by
  obtain⟨j,e⟩:=zG.get h.2;refine⟨by simp[j],λi u hi=>?_⟩
  cases i with
  |zero=>cases hi;exact⟨q,rfl,h.1⟩
  |succ i=>exact e i u (by simpa using hi)
 |[],_::_,h=>h.elim
 |_::_,[],h=>h.elim
end Abs
end Go.Proofs.YtmndpldajflenaaGreatDoor
namespace Go.Proofs.YtmndpldajflenaaGreatDoor
namespace Abs
variable {P:Program}
def GR (P:Program) (t:TypeId):Option (List TypeId):=
 match P.underlying t with
 |some (.struct fs)=>some (fs.toList.map (·.type))
 |_=>none
def Sb (P:Program) (t:TypeId):Option IntKind:=
 match P.underlying t with
 |some (.int k)=>some k
 |_=>none
def OO (P:Program) (t:TypeId):Option (TypeId×Nat×Bool):=
 match P.underlying t with
 |some (.slice e)=>some (e,P.cellsOf e,bn P e==some true)
 |_=>none
def KY (P:Program) (t:TypeId):Bool:=
 match P.underlying t with
 |some .string=>true
 |_=>false
def JK (P:Program) (n:Nat):List TypeId->List PV->Prop
 |[],cs=>cs=[]
 |t::ts,cs=>∃a b,cs=a++b/\cQ P n t a/\JK P n ts b
theorem Kl{n}:∀{e} {cs},tP (cQ P n) e cs->JK P n (e.map (·.type)) cs
 |[],_,h=>h
 |_::_,_,⟨a,b,l,j,i⟩=>⟨a,b,l,j,Kl i⟩
theorem dD{n}{t}{ts}{cs}(a:GR P t=some ts)(h:cQ P (n+1) t cs):JK P n ts cs:=by
 unfold GR at a;unfold cQ at h;split at a
 .rename_i i e;rw[e]at h;cases a;exact Kl h
 .cases a
theorem yj{n}{t}{k}{cs}(a:Sb P t=some k)(h:cQ P (n+1) t cs):∃m,cs=[.int k m]/\k.min<=m/\m<=k.max:=by
 unfold Sb at a;unfold cQ at h;split at a
 .rename_i l e;rw[e]at h;cases a;obtain⟨m,j,i⟩:=h;exact⟨m,j,by simpa[Lit.wf]using i⟩
 .cases a
theorem lJ{n}{t}{cs}(a:KY P t=true)(h:cQ P (n+1) t cs):∃s,cs=[.str s]/\s.size<=maxLen:=by
 unfold KY at a;unfold cQ at h;split at a
 .rename_i e;rw[e]at h;exact h
 .cases a
theorem iE{n}{t e}{z}{g}{cs}(a:OO P t=some (e,z,g))(h:cQ P (n+1) t cs) :
  ∃xs,cs=[.slice z xs false]/\xs.length<=maxLen/\∀x,x∈xs->∃es,x=jz g es/\cQ P n e es:=by
 unfold OO at a;unfold cQ at h;split at a
 .rename_i j i;rw[i]at h;cases a;exact h
 .cases a
theorem hJ{α:Type}(f:α->PV):∀{xs},(∀x,x∈xs->∃a,x=f a)->∃l:List α,xs=l.map f
 |[],_=>⟨[],rfl⟩
 |x::r,h=>by
  obtain⟨a,rfl⟩:=h x (by simp);obtain⟨l,rfl⟩:=hJ f (xs:=r) λy e=>h y (by simp[e]);exact⟨a::l,rfl⟩
end Abs
end Go.Proofs.YtmndpldajflenaaGreatDoor
namespace Go.Proofs.YtmndpldajflenaaGreatDoor
namespace Abs
variable {P:Program} {H:Hints} {Q:Cont} {M0:Nat->Prop}
end Abs
end Go.Proofs.YtmndpldajflenaaGreatDoor
