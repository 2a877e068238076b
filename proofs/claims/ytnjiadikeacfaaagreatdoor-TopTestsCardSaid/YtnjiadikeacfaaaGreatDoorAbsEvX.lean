/- CONTRACTS of the program's functions, and laws on what they return. No conditions but those in the theorems' heads. -/
import Derived.Test.YtnjiadikeacfaaaGreatDoorAbsHead
import Derived.ProofKit
import Derived.OpenShut
import Derived.Carry
set_option linter.all false
namespace Go.Proofs.YtnjiadikeacfaaaGreatDoor
namespace Abs
attribute [go_sem ↓] V8 Pk UI UJ UF V9 UH R8 Sa Sd UM Sh Pp UN Sk Pq Dl Kn Ht F7 AC Dp F' BM DR DT yZ
attribute [go_sem] false_and wv kL l4 Int.toNat_zero Int.lt_irrefl Kj Kp yS BL Dn vI rp ru rq exists_eq_left' true_or or_true false_or or_false List.getElem?_nil Int.cast_ofNat_Int decide_true decide_false Yq Yp Yo Yn Ym Yl Yk Yj Yi Yh XT XS XR AV.plain zJ List.all_cons AL B9 mS exists_eq' exists_eq List.append_cancel_left_eq dL cz jO Int.natCast_nonneg mM Option.map_none yR hJ wl s5 l9 md s8 Az DJ xf j3 kx rm s7 uF qf F5 eg nK xC pE aS lR ci ef Fb pF lO R3 MM Hh ML Hf Kc MN Hg Pb Kf FT Hk Kg Pa Ke zzF Hi Pc Kh FU EE Da Db zD C9 GV Fk List.forall_mem_append List.forall_mem_map List.forall_mem_cons fW false_imp_iff implies_true not_false_eq_true ne_eq H0 Px Sr Ss PH OR.skip.injEq Sp Pr Pt gI iC yz tF L1 JH p9 nA wQ Jl HZ rK mT tX UL Hs Hr LH zR LG p5 ET Jw LM Jx MY AA Dm F8 BK AB C3 AZ ku Ay DI wm V' qo UK Se Sf Pm Ko Do F9 LA LB K4 Pj Pi MW Rs Mf GX Mg JT Mh Hp Ho Hn qk AEnd.ret.injEq AV.p.injEq PV.bool.injEq PV.int.injEq PV.agg.injEq PV.tuple.injEq PV.str.injEq List.cons.injEq Si Sz UO Ks Hx Kq Hv Hu Hw Gb Gd Kr Gc qq F4 qe A8 jr ud kY nn GH EF Sw Sq Su So zV Sv M3 M2 St Sx Py M4 Sy Sl bQ oX eH beq_true beq_false AO Bool.and_true Bool.false_and Bool.and_false Bool.not_true xZ cl Bool.or_true tg jQ ti Option.bind_none Nj bV aN Hint.isMut AAct.eval AAct.put D4 aW Kk d4 AV.cells PV.cells bD bj gR eW mL pf lD s6 nF gE kD AV.part AV.withCells ir sg gk cc cH d5 gL rn List.size_toArray VK VJ BH wT sK zh Iu oe sJ fN od kG List.set_cons_zero List.set_cons_succ pY gq jW sub List.take_succ_cons List.take_zero List.drop_succ_cons oq and_self and_true true_and
open Go.ChangeShapes Go.WideShapes Go.ChangeAt Go.RowKit
def uH (R:TypeId->List PV->Prop):List Field->List PV->Prop
 |[],cs=>cs=[]
 |f::fs,cs=>∃a b,cs=a++b/\R f.type a/\uH R fs b
def Ku (R:List PV->Prop):Nat->List PV->Prop
 |0,cs=>cs=[]
 |n+1,cs=>∃a b,cs=a++b/\R a/\Ku R n b
def jC (agg:Bool) (cs:List PV):PV:=
 match agg,cs with
 |false,[c]=>c
 |_,cs=>.agg cs
def cE (P:Program):Nat->TypeId->List PV->Prop
 |0,_,_=>False
 |n+1,t,cs=>
  match P.underlying t with
  |some .bool=>∃b,cs=[.bool b]
  |some (.int k)=>∃m,cs=[.int k m]/\(Lit.int k m).wf=true
  |some .string=>∃s:ByteArray,cs=[.str s]/\s.size<=maxLen
  |some (.slice e)=>∃xs,cs=[.slice (P.cellsOf e) xs false]/\xs.length<=maxLen/\∀x,x∈xs->∃es,x=jC (b6 P e==some true) es/\cE P n e es
  |some (.struct fs)=>uH (cE P n) fs.toList cs
  |some (.array m e)=>Ku (cE P n e) m cs
  |_=>False
def wE (P:Program) (n:Nat) (t:TypeId) (v:PV):Prop:=∃cs,v=jC (b6 P t==some true) cs/\cE P n t cs
def D0 (P:Program) (n:Nat):List TypeId->List PV->Prop
 |[],vs=>vs=[]
 |t::ts,vs=>∃v r,vs=v::r/\wE P n t v/\D0 P n ts r
def uZ (P:Program):List Field->Nat->Nat->Bool
 |[],o,n=>o==n
 |f::fs,o,n=>f.offset==o&&uZ P fs (o+P.cellsOf f.type) n
def uM (P:Program):Nat->TypeId->Bool
 |0,_=>false
 |n+1,t=>
  match P.underlying t with
  |some .bool=>P.cellsOf t==1
  |some (.int _)=>P.cellsOf t==1
  |some .string=>P.cellsOf t==1
  |some (.slice e)=>P.cellsOf t==1&&P.cellsOf e != 0&&uM P n e
  |some (.struct fs)=>uZ P fs.toList 0 (P.cellsOf t)&&fs.toList.all λf=>uM P n f.type
  |some (.array m e)=>m*P.cellsOf e==P.cellsOf t&&uM P n e
  |_=>false
def CX:Nat->Prop:=λ_=>False
def kJ (w:World) (cs:List Value) (ps:List PV):Prop:=
 cs.length=ps.length/\∀(i:Nat) (c:PV),ps[i]?=some c->c.isCell=true/\RepP CX w (cs.getD i undef) c
theorem kJ.nil{w}:kJ w [] []:=⟨rfl,by simp⟩
theorem kJ.append{w}{a b}{p q}(h:kJ w a p)(k:kJ w b q):kJ w (a++b) (p++q):=by
 refine⟨by simp[h.1,k.1],λi c hi=>?_⟩;rcases dg i p.length with hl|hl
 .rw[aZ hl]at hi;have:=h.2 i c hi;rw[cG,aZ (by rw[h.1];exact hl),<-cG];exact this
 .rw[cm hl]at hi;have:=k.2 _ c hi;rw[cG,cm (by rw[h.1];exact hl),h.1,<-cG];exact this
theorem kJ.one{w}{v}{c}(hc:c.isCell=true)(h:RepP CX w v c):kJ w [v] [c]:=by
 refine⟨rfl,λi c' hi=>?_⟩
 cases i with
 |zero=>cases hi;exact⟨hc,h⟩
 |succ i=>simp at hi
theorem xx{α:Type}{p:Nat->α->Prop}:∀(n),(∀i,i<n->∃x,p i x)->∃l:List α,l.length=n/\∀i x,l[i]?=some x->p i x
 |0,_=>⟨[],rfl,by simp⟩
 |n+1,h=>by
  obtain⟨l,h1,h2⟩:=xx n λi hi=>h i (by omega);obtain⟨x,hx⟩:=h n (by omega);refine⟨l++[x],by simp[h1],λi y hi=>?_⟩;rcases dg i n with hl|hl
  .rw[aZ (by omega)]at hi;exact h2 i y hi
  .rw[cm (by omega)]at hi
   cases he:i-l.length with
   |succ k=>rw[he]at hi;simp at hi
   |zero=>
    rw[he]at hi;have:i=n:=by omega
    subst this;simp at hi;subst hi;exact hx
theorem uN{a}{cs}{c}(h:a=true\/(cs=[c]/\c.isCell=true)):(jC a cs).cells=cs:=by
 rcases h with rfl|⟨rfl,hc⟩
 .cases cs with
  |nil=>rfl
  |cons x l=>cases l<;>rfl
 .cases a
  .show PV.cells c=[c]
   cases c<;>first|rfl|cases hc
  .rfl
section
variable {H:Type} {enc:TypeId×Value->H} {P:Program} {w:World} {sp:Nat->Bool} {held:Bool}
def Ya:TypeDesc->Bool
 |.struct _=>true
 |.array _ _=>true
 |_=>false
theorem wk{t}{d}(h:P.underlying t=some d):(b6 P t==some true)=Ya d:=by
 unfold b6;rw[h];cases d<;>rfl
theorem xF{fuel n}(ih:∀(fuel) (t) (cs) (x),uM P n t=true->DataW.trod enc P w 0 sp held fuel t cs=some x->∃ps,cE P n t ps/\ps.length=P.cellsOf t/\kJ w cs ps) :
  ∀(fs) (o total) (cs:List Value),uZ P fs o total=true->cs.length=total->(∀f,f∈fs->uM P n f.type=true) ->
   (∀f,f∈fs->∃x,DataW.trod enc P w 0 sp held fuel f.type ((cs.drop f.offset).take (P.cellsOf f.type))=some x)->o<=total/\∃ps,uH (cE P n) fs ps/\kJ w (cs.drop o) ps
 |[],o,total,cs,ht,hl,_,_=>by
  have:o=total:=by simpa[uZ]using ht
  subst this;refine⟨bi _,[],rfl,?_⟩;rw[Dw (by omega)]
  exact .nil
 |f::fs,o,total,cs,ht,hl,hok,hr=>by
  simp only[uZ,dD,beq_iff_eq]at ht;obtain⟨ho,ht⟩:=ht;obtain⟨hle,qs,hq,hrq⟩:=xF ih fs _ total cs ht hl (λg hg=>hok g (by simp[hg])) λg hg=>hr g (by simp[hg]);obtain⟨x,hx⟩:=hr f (by simp);obtain⟨ps,hp,hlen,hrp⟩:=ih fuel f.type _ x (hok f (by simp)) hx;refine⟨by omega,ps++qs,⟨ps,qs,rfl,hp,hq⟩,?_⟩;have e:cs.drop o=(cs.drop f.offset).take (P.cellsOf f.type)++cs.drop (o+P.cellsOf f.type):=by
   rw[ho,<-xX,rC]
  rw[e];exact hrp.append hrq
theorem FY{n m}{e}:∀(k o) (cs:List Value),o+k=m->cs.length=m*P.cellsOf e ->
   (∀i,i<m->∃ps,cE P n e ps/\ps.length=P.cellsOf e/\kJ w ((cs.drop (i*P.cellsOf e)).take (P.cellsOf e)) ps)->∃ps,Ku (cE P n e) k ps/\ps.length=k*P.cellsOf e/\kJ w (cs.drop (o*P.cellsOf e)) ps
 |0,o,cs,hk,hl,_=>by
  refine⟨[],rfl,by simp,?_⟩;have:o=m:=by omega
  rw[this,Dw (by omega)]
  exact .nil
 |k+1,o,cs,hk,hl,hr=>by
  obtain⟨qs,hq,hlq,hrq⟩:=FY k (o+1) cs (by omega) hl hr;obtain⟨ps,hp,hlp,hrp⟩:=hr o (by omega);refine⟨ps++qs,⟨ps,qs,rfl,hp,hq⟩,by simp[hlp,hlq,fx];omega,?_⟩;have e:cs.drop (o*P.cellsOf e)=(cs.drop (o*P.cellsOf e)).take (P.cellsOf e)++cs.drop ((o+1)*P.cellsOf e):=by
   rw[fx,ww,<-xX,rC]
  rw[e];exact hrp.append hrq
theorem NM:∀(n fuel) (t) (cs) (x),uM P n t=true->DataW.trod enc P w 0 sp held fuel t cs=some x->∃ps,cE P n t ps/\ps.length=P.cellsOf t/\kJ w cs ps:=by
 intro n
 induction n with
 |zero=>intro fuel t cs x h;cases h
 |succ n ih=>
  intro fuel t cs x hok h;unfold uM at hok;unfold cE
  cases hu:P.underlying t with
  |none=>rw[hu]at hok;cases hok
  |some d=>
   rw[hu]at hok
   cases d with
   |bool=>
    obtain⟨b,rfl,_⟩:=DataW.trod_bool hu h
    exact⟨[.bool b],⟨b,rfl⟩,by simp only[beq_iff_eq]at hok;exact hok.symm,.one rfl (.bool b)⟩
   |int k=>
    obtain⟨m,rfl,_,hwf⟩:=DataW.trod_int hu h
    exact⟨[.int k m],⟨m,rfl,hwf⟩,by simp only[beq_iff_eq]at hok;exact hok.symm,.one rfl (.int k m)⟩
   |string=>
    obtain⟨s,rfl,_,hs⟩:=DataW.trod_string hu h
    exact⟨[.str s],⟨s,rfl,hs⟩,by simp only[beq_iff_eq]at hok;exact hok.symm,.one rfl (.str s)⟩
   |slice e=>
    simp only[dD,beq_iff_eq,bne_iff_ne]at hok;obtain⟨⟨h1,hne⟩,hoe⟩:=hok;rcases DataW.trod_slice hu h with⟨rfl,_⟩|⟨a,len,cap,elems,rest,n',rfl,rfl,_,_,hlc,hcap,hel,hall,_,_⟩
    .exact⟨[.slice (P.cellsOf e) [] false],⟨[],rfl,by simp,by simp⟩,by simp[h1],.one rfl (.empty (by simp))⟩
    .by_cases hz:len=0
     .subst hz;exact⟨[.slice (P.cellsOf e) [] false],⟨[],rfl,by simp,by simp⟩,by simp[h1],.one rfl (.empty (by simp))⟩
     .have key:∀i,i<len->∃es:List PV×List Value,w.cells? 0 (a.add (i*P.cellsOf e)) (P.cellsOf e)=some es.2/\cE P n e es.1/\es.1.length=P.cellsOf e/\kJ w es.2 es.1:=by
       intro i hi;have h2:=hall i hi;have h3:i<elems.length:=by omega
       rw[bA h3]at h2
       cases hc:w.cells? 0 (a.add (i*P.cellsOf e)) (P.cellsOf e) with
       |none=>rw[hc]at h2;cases h2
       |some cs'=>
        rw[hc]at h2;obtain⟨ps,h4,h5,h6⟩:=ih n' e cs' _ hoe h2;exact⟨(ps,cs'),rfl,h4,h5,h6⟩
      obtain⟨l,hl,hlp⟩:=xx len key;have hspot:a.spot=none:=by
       have h0:l[0]?=some l[0]:=bA (by omega);obtain⟨h2,_,h4,h5⟩:=hlp 0 _ h0;obtain⟨_,h6,h7⟩:=World.cells?_some h2;have h8:=h7 0 (by omega);have h9:(l[0].2)[0]?=some (l[0].2[0]'(by omega)):=bA (by omega);rw[h9]at h8;have:=World.cell?_spot h8;simpa[Addr.add]using this
      obtain⟨blk,off,spot⟩:=a;subst hspot;have hadd:∀i j,(Addr.add ⟨blk,off,none⟩ i).add j=⟨blk,off+(i+j),none⟩:=by
       intro i j;unfold Addr.add;by_cases hi:i=0<;>by_cases hj:j=0<;>simp[hi,hj];omega
      refine⟨[.slice (P.cellsOf e) (l.map λq=>jC (b6 P e==some true) q.1) false],⟨_,rfl,by simp[hl];omega,λx hx=>?_⟩,by simp[h1],.one rfl ?_⟩
      .simp only[dN]at hx;obtain⟨q,hq,rfl⟩:=hx;obtain⟨i,hi⟩:=dz hq;exact⟨q.1,rfl,(hlp i q hi).2.1⟩
      .have hcells:∀(i:Nat) (q:List PV×List Value),l[i]?=some q->(jC (b6 P e==some true) q.1).cells=q.1:=by
        intro i q hq;have hp:=(hlp i q hq).2.1;have hag:(b6 P e==some true)=true\/∃c,q.1=[c]/\c.isCell=true:=by
         cases n with
         |zero=>cases hp
         |succ n=>
          unfold cE at hp
          cases hue:P.underlying e with
          |none=>rw[hue]at hp;cases hp
          |some d=>
           rw[hue]at hp;rw[wk hue]
           cases d<;>first
            |exact .inl rfl
            |exact hp.elim
            |(obtain⟨_,hp,_⟩:=hp;exact .inr ⟨_,hp,rfl⟩)
            |(obtain⟨_,hp⟩:=hp;exact .inr ⟨_,hp,rfl⟩)
        rcases hag with h2|⟨c,h2,h3⟩
        .exact uN (c:=.bool true) (.inl h2)
        .exact uN (.inr ⟨h2,h3⟩)
       have hget:∀i,i<len->∃q,l[i]?=some q:=λi hi=>⟨l[i]'(by omega),bA _⟩
       have hdiv:∀k,k<(l.map λq=>jC (b6 P e==some true) q.1).length*P.cellsOf e->k / P.cellsOf e<len/\k%P.cellsOf e<P.cellsOf e:=by
        intro k hk;have hpos:0<P.cellsOf e:=Nat.pos_of_ne_zero hne;simp only[dL,hl]at hk;exact⟨(Nat.div_lt_iff_lt_mul hpos).2 hk,tf _ hpos⟩
       refine .slice (λk=>(l.getD (k / P.cellsOf e) default).2.getD (k%P.cellsOf e) undef) (by simp[hl]) hlc (by simp) (λx hx=>?_) (λ_ hf=>hf) (λk hk=>?_) λi j x c hx hc=>?_
       .simp only[dN]at hx;obtain⟨q,hq,rfl⟩:=hx;obtain⟨i,hi⟩:=dz hq;rw[hcells i q hi];refine⟨(hlp i q hi).2.2.1,λc hc=>?_⟩;obtain⟨j,hj⟩:=dz hc;exact((hlp i q hi).2.2.2.2 j c hj).1
       .obtain⟨hk1,hk2⟩:=hdiv k hk;obtain⟨q,hq⟩:=hget _ hk1;obtain⟨h2,_,h4,h5⟩:=hlp _ q hq;obtain⟨_,h6,h7⟩:=World.cells?_some h2;have h8:=h7 _ hk2;rw[hadd,Nat.div_add_mod']at h8;rw[h8];have h9:l.getD (k / P.cellsOf e) default=q:=by simp[hq]
        rw[h9,cG];rw[bA (by omega)];rfl
       .simp only[cz,cd]at hx;obtain⟨q,hq,rfl⟩:=hx;rw[hcells i q hq]at hc;have hj:j<P.cellsOf e:=by
         have:=(ax.1 hc).1;rw[(hlp i q hq).2.2.1]at this;exact this
        have hpos:0<P.cellsOf e:=by omega
        have e1:(i*P.cellsOf e+j) / P.cellsOf e=i:=by
         rw[Dr,Nat.mul_add_div hpos,Nat.div_eq_of_lt hj];rfl
        have e2:(i*P.cellsOf e+j)%P.cellsOf e=j:=by
         rw[Dr,Nat.mul_add_mod,IQ hj]
        show RepP CX w ((l.getD ((i*P.cellsOf e+j) / P.cellsOf e) default).2.getD ((i*P.cellsOf e+j)%P.cellsOf e) undef) c;rw[e1,e2];have h9:l.getD i default=q:=by simp[hq]
        rw[h9]
        exact((hlp i q hq).2.2.2.2 j c hc).2
   |struct fs=>
    simp only[dD,kK]at hok;obtain⟨xs,n',rfl,_,hl,hlen,hf⟩:=DataW.trod_struct hu h;obtain⟨_,ps,hp,hr⟩:=xF (fuel:=n') ih fs.toList 0 (P.cellsOf t) cs hok.1 hl hok.2 λf hf'=>by
     obtain⟨i,hi⟩:=dz hf';have hi':fs[i]?=some f:=by simpa using hi
     have h2:=hf i f hi';have h3:i<xs.length:=by
      have:=(uT.1 hi').1;omega
     rw[bA h3]at h2;exact⟨_,h2⟩
    rw[oq]at hr
    exact⟨ps,hp,by rw[<-hr.1,hl],hr⟩
   |array m e=>
    simp only[dD,beq_iff_eq]at hok;obtain⟨xs,n',rfl,_,hl,hlen,hf⟩:=DataW.trod_array hu h;obtain⟨ps,hp,hlp,hr⟩:=FY (w:=w) (P:=P) (n:=n) (m:=m) (e:=e) m 0 cs (by omega) (by omega) λi hi=>by
     have h2:=hf i hi;have h3:i<xs.length:=by omega
     rw[bA h3]at h2;exact ih n' e _ _ hok.2 h2
    rw[IK,oq]at hr
    exact⟨ps,hp,by omega,hr⟩
   |_=>cases hok
theorem Nw{n base}{t}{v}{d}{ps}(hok:uM P n t=true)(hv:Value.okWide P w .any base t v)(h:DataW.Trod enc P w 0 sp held t v d ps):∃q,wE P n t q/\RepP CX w v q:=by
 obtain⟨fuel,h⟩:=h;obtain⟨qs,h1,h2,h3⟩:=NM n fuel t _ _ hok h;refine⟨_,⟨qs,rfl,h1⟩,?_⟩
 cases n with
 |zero=>cases hok
 |succ n=>
  unfold cE at h1;unfold Value.okWide at hv
  cases hu:P.underlying t with
  |none=>rw[hu]at h1;exact h1.elim
  |some d=>
   rw[hu]at h1 hv;rw[wk hu];have one:∀c,qs=[c]->(∀C,v≠.agg C)->RepP CX w v (jC false qs):=by
    intro c hq hv;subst hq;have h4:=(h3.2 0 c rfl).2;have h5:v.cells.toList=[v]:=by cases v<;>first|rfl|exact absurd rfl (hv _)
    rw[h5]at h4;exact h4
   have agg:∀C,v=.agg C->RepP CX w v (jC true qs):=by
    intro C hC;subst hC;have h5:jC true qs=.agg qs:=by cases qs with|nil=>rfl|cons a l=>cases l<;>rfl
    rw[h5];refine .agg (by have:=h3.1;simpa[Value.cells]using this) (λc hc=>?_) λi c hi=>?_
    .obtain⟨i,hi⟩:=dz hc;exact(h3.2 i c hi).1
    .have:=(h3.2 i c hi).2;simpa[Value.cells]using this
   cases d with
   |bool=>obtain⟨b,hq⟩:=h1;exact one _ hq (by rintro C rfl;simp[Cell.okWide,Cell.ok,hu]at hv)
   |int k=>obtain⟨m,hq,_⟩:=h1;exact one _ hq (by rintro C rfl;simp[Cell.okWide,Cell.ok,hu]at hv)
   |string=>obtain⟨s,hq,_⟩:=h1;exact one _ hq (by rintro C rfl;simp[Cell.okWide,Cell.ok,hu]at hv)
   |slice e=>obtain⟨xs,hq,_⟩:=h1;exact one _ hq (by rintro C rfl;simp[Cell.okWide,Cell.ok,hu]at hv)
   |struct fs=>obtain⟨C,hC,_⟩:=hv;exact agg C hC
   |array m e=>obtain⟨C,hC,_⟩:=hv;exact agg C hC
   |_=>exact h1.elim
theorem BR{n base}:∀(ts) (vs) (ds) (ps),(∀t,t∈ts->uM P n t=true)->(∀(j:Nat) t v,ts[j]?=some t->vs[j]?=some v->Value.okWide P w .any base t v) ->
  DataW.TrodAll enc P w 0 sp held ts vs ds ps->∃qs,D0 P n ts qs/\vs.length=qs.length/\∀(i) (c),qs[i]?=some c->RepP CX w (vs.getD i undef) c
 |[],vs,ds,ps,_,_,h=>by
  obtain⟨rfl,rfl,rfl⟩:=trodAll_nil h
  exact⟨[],rfl,rfl,by simp⟩
 |t::ts,vs,ds,ps,hok,hv,h=>by
  obtain⟨v,vs',d,ds',a,b,rfl,rfl,rfl,h1,h2⟩:=trodAll_cons h;obtain⟨q,hq,hr⟩:=Nw (hok t (by simp)) (hv 0 t v rfl rfl) h1;obtain⟨qs,hqs,hl,hrs⟩:=BR ts vs' ds' b (λt ht=>hok t (by simp[ht])) (λj t v hj hv'=>hv (j+1) t v (by simpa using hj) (by simpa using hv')) h2;refine⟨q::qs,⟨q,qs,rfl,hq,hqs⟩,by simp[hl],λi c hi=>?_⟩
  cases i with
  |zero=>cases hi;exact hr
  |succ i=>exact hrs i c (by simpa using hi)
theorem F1{W W'}(hl:laidOutB P=true)(hb:Below W.heap.size W W')(sp'):∀(ts) (vs) (ds) (ps),(∀t,t∈ts->P.readableRec t=true/\t<P.types.size) ->
  DataW.TrodAll enc P W 0 (λ_=>true) true ts vs ds ps->(∀x,x∈ps->x.block<W.heap.size)->(∀x,x∈ps->sp' x.block=true)->DataW.TrodAll enc P W' 0 sp' true ts vs ds ps
 |[],vs,ds,ps,_,h,_,_=>by
  obtain⟨rfl,rfl,rfl⟩:=trodAll_nil h
  exact rfl
 |t::ts,vs,ds,ps,hok,h,hlt,hsp=>by
  obtain⟨v,vs',d,ds',a,b,rfl,rfl,rfl,h1,h2⟩:=trodAll_cons h;refine⟨a,b,?_,F1 hl hb sp' ts vs' ds' b (λt ht=>hok t (by simp[ht])) h2 (λx hx=>hlt x (by simp[hx])) (λx hx=>hsp x (by simp[hx])),rfl⟩;exact WideElems.Trod_stays hl (hok t (by simp)).1 (hok t (by simp)).2 h1 (λx hx=>hb.same (hlt x (by simp[hx]))) (λx hx=>hsp x (by simp[hx]))
theorem Li{f}{s:ChangeSpec}{apart fresh handsOn again}{W W'}{args}{v}{ds gs}{before pa pv}
  (hW:DataW.Whole enc P f.params.toList s.vars apart W args.toList ds gs before)
  (hres:∀(b) (sp) (hd),DataW.TrodAll enc P W' b sp hd f.resultTypes.toList (v.resultList f.resultTypes.size) (s.fn H (ds++gs)).results [])
  (hargs:∀sp,(∀p∈before,sp p.block=true)->DataW.TrodAll enc P W' 0 sp true f.params.toList args.toList (s.fn H (ds++gs)).args pa)
  (hvars:∀sp,(∀p∈before,sp p.block=true)->DataW.TrodVars enc P W' sp s.vars (s.fn H (ds++gs)).vars pv)
  (hps:before=pa++pv) (hk:W.keptBut W' (·∈before)) (hfz:∀a,a.block<W.heap.size->W'.frozen? a=W.frozen? a)
  (hok:∀(j:Nat) (t) (r),f.resultTypes[j]?=some t->(v.resultList f.resultTypes.size)[j]?=some r->Value.okWide P W' .any 0 t r) :
  s.post enc P f apart fresh handsOn again W args v W':=by
 have hold:∀p∈before,(λb=>decide (b<W.heap.size)) p.block=true:=λp hp=>by simpa using hW.lt p hp
 have hlt:=hW.lt;refine⟨ds,gs,before,[],pa,pv,hW,hres _ _ _,hargs _ hold,hvars _ hold,World.keptBut_mono (λp hp=>⟨hp,?_⟩) hk,λ_=>?_⟩
 .rw[hps,b7]at hp;exact Or.inr hp
 .obtain⟨_,_,_,_,_,hz,hn⟩:=hW;refine⟨hok,_,_,([]++pa)++pv,⟨[]++pa,pv,trodAll_append (hargs _ (λ_ _=>rfl)) (hres _ _ _),hvars _ (λ_ _=>rfl),rfl,?_,?_⟩,?_⟩
  .intro b off hp;have hp':MemPlace.cell b off∈before:=by rw[hps];simpa using hp
   rw[hfz ⟨b,off,none⟩ (hlt _ hp')];exact hz b off hp'
  .intro ha;have:=hn ha;rw[hps]at this;simpa using this
  .intro p hp _;rw[hps];simpa using hp
theorem Ov{w w'}(h:Fr [] w w'):Below w.heap.size w w':=⟨h.os,h.tape,h.output,h.size,λk hk=>h.block k hk (by simp[Own])⟩
theorem EX{f}{fn}{s:ChangeSpec}{ts}{tb}{n base}(hts:fn.params.toList=ts)(hres:fn.resultTypes=#[tb])(hb:P.underlying tb=some .bool)(hl:laidOutB P=true)
  (hok:∀t,t∈ts->uM P n t=true/\P.readableRec t=true/\t<P.types.size) (hvars:s.vars=[]) (hs:∀(H) (ds),ds.length=ts.length->s.fn H ds={ results:=[.lit (.bool true)],args:=ds })
  (hlaw:∀qs,D0 P n ts qs->af P f qs (.bool true))
  {W} (hg:uQ P W) {args} {ds gs} {before} {apart fresh handsOn again} (hval:∀(j:Nat) t v,fn.params[j]?=some t->args[j]?=some v->Value.okWide P W .any base t v)
  (hW:DataW.Whole enc P fn.params.toList s.vars apart W args.toList ds gs before):Calls P f args W λe W'=>∃v,e=.returned v/\s.post enc P fn apart fresh handsOn again W args v W':=by
 have hW':=hW;obtain⟨p,q,hA,hV,rfl,hfz,hnd⟩:=hW;rw[hvars]at hV;obtain⟨rfl,rfl⟩:=trodVars_none hV;rw[hts]at hA;have hlen:ds.length=ts.length:=by
  clear hfz hnd hW' hval;generalize args.toList=vs at hA
  induction ts generalizing vs ds p with
  |nil=>obtain⟨rfl,rfl,rfl⟩:=trodAll_nil hA;rfl
  |cons t ts ih=>
   obtain⟨v,vs',d,ds',a,b,rfl,rfl,rfl,h1,h2⟩:=trodAll_cons hA;have:∀(ts:List TypeId) (vs:List Value) (ds:List (DataW H)) (p:List MemPlace),DataW.TrodAll enc P W 0 (λ_=>true) true ts vs ds p->ds.length=ts.length:=by
    intro ts
    induction ts with
    |nil=>intro vs ds p h;obtain⟨rfl,rfl,rfl⟩:=trodAll_nil h;rfl
    |cons t ts ih=>intro vs ds p h;obtain⟨v,vs',d,ds',a,b,rfl,rfl,rfl,h1,h2⟩:=trodAll_cons h;simp[ih _ _ _ h2]
   simp[this _ _ _ _ h2]
 obtain⟨qs,hqs,hlq,hrq⟩:=BR (n:=n) ts args.toList ds p (λt ht=>(hok t ht).1) (λj t v hj hv=>hval j t v (by rw[<-hts]at hj;simpa using hj) (by simpa using hv)) hA;obtain⟨_,hc⟩:=hlaw qs hqs CX W args (λb hb=>hb.elim) hg ⟨by simpa using hlq,λi c hi=>by simpa using hrq i c hi⟩;refine hc.mono λe W' he=>?_;obtain⟨v',rfl,hv,hfr⟩:=he;cases hv;have hbl:=Ov hfr;have hlt:∀x,x∈p->x.block<W.heap.size:=λx hx=>by
  have:=hW'.lt x (by simpa using hx);exact this
 refine⟨_,rfl,?_⟩;have hsd:=hs H ds hlen;refine Li (pa:=p) (pv:=[]) hW' (λb sp hd=>?_) (λsp hsp=>?_) (λsp _=>?_) (by simp) (hbl.frame _) (λa ha=>hbl.frozen ha) (ok_one hres rfl (okWide_bool_mk hb _))
 .rw[bw,hsd,hres];exact trodAll_cons_mk (shut_bool hb _) trodAll_mk0
 .rw[bw,hsd,hts];exact F1 hl hbl sp ts _ ds p (λt ht=>(hok t ht).2) hA hlt λx hx=>hsp x (by simpa using hx)
 .rw[bw,hsd,hvars];rfl
end
end Abs
end Go.Proofs.YtnjiadikeacfaaaGreatDoor
namespace Go.Proofs.YtnjiadikeacfaaaGreatDoor
namespace Abs
variable {P:Program}
def td (q v:PV):Prop:=ru q v\/∃sz xs,q=.slice sz xs true/\v=.slice sz xs false
theorem td.rep{q v}(h:td q v){M}{w}{u}(hr:RepP M w u q):RepP M w u v:=by
 rcases h with h|⟨sz,xs,rfl,rfl⟩
 .exact h.rep hr
 .cases hr with
  |slice f hlen hcap hfull hsz hM hc hr=>exact .slice f hlen hcap (by simp) hsz hM hc hr
  |empty hfull=>exact .empty (by simp)
theorem td.cell{q v}(h:td q v)(hq:q.isCell=true):v.isCell=true:=by
 rcases h with(rfl|⟨rfl,sz,rfl⟩)|⟨sz,xs,rfl,rfl⟩
 .exact hq
 .rfl
 .rfl
def AE:List PV->List PV->Prop
 |[],[]=>True
 |q::a,v::b=>td q v/\AE a b
 |_,_=>False
theorem AE.get:∀{a b},AE a b->a.length=b.length/\∀(i:Nat) (v),b[i]?=some v->∃q,a[i]?=some q/\td q v
 |[],[],_=>⟨rfl,by simp⟩
 |q::a,v::b,h=>by
  obtain⟨h1,h2⟩:=AE.get h.2;refine⟨by simp[h1],λi u hi=>?_⟩
  cases i with
  |zero=>cases hi;exact⟨q,rfl,h.1⟩
  |succ i=>exact h2 i u (by simpa using hi)
 |[],_::_,h=>h.elim
 |_::_,[],h=>h.elim
end Abs
end Go.Proofs.YtnjiadikeacfaaaGreatDoor
namespace Go.Proofs.YtnjiadikeacfaaaGreatDoor
namespace Abs
variable {P:Program}
def HD (P:Program) (t:TypeId):Option (List TypeId):=
 match P.underlying t with
 |some (.struct fs)=>some (fs.toList.map (·.type))
 |_=>none
def Tx (P:Program) (t:TypeId):Option IntKind:=
 match P.underlying t with
 |some (.int k)=>some k
 |_=>none
def PR (P:Program) (t:TypeId):Option (TypeId×Nat×Bool):=
 match P.underlying t with
 |some (.slice e)=>some (e,P.cellsOf e,b6 P e==some true)
 |_=>none
def LN (P:Program) (t:TypeId):Bool:=
 match P.underlying t with
 |some .string=>true
 |_=>false
def Kv (P:Program) (n:Nat):List TypeId->List PV->Prop
 |[],cs=>cs=[]
 |t::ts,cs=>∃a b,cs=a++b/\cE P n t a/\Kv P n ts b
theorem Lb{n}:∀{fs} {cs},uH (cE P n) fs cs->Kv P n (fs.map (·.type)) cs
 |[],_,h=>h
 |_::_,_,⟨a,b,h1,h2,h3⟩=>⟨a,b,h1,h2,Lb h3⟩
theorem dr{n}{t}{ts}{cs}(ht:HD P t=some ts)(h:cE P (n+1) t cs):Kv P n ts cs:=by
 unfold HD at ht;unfold cE at h;split at ht
 .rename_i fs hu;rw[hu]at h;cases ht;exact Lb h
 .cases ht
theorem La{n}{t}{k}{cs}(ht:Tx P t=some k)(h:cE P (n+1) t cs):∃m,cs=[.int k m]/\k.min<=m/\m<=k.max:=by
 unfold Tx at ht;unfold cE at h;split at ht
 .rename_i k' hu;rw[hu]at h;cases ht;obtain⟨m,h1,h2⟩:=h;exact⟨m,h1,by simpa[Lit.wf]using h2⟩
 .cases ht
theorem oP{n}{t}{cs}(ht:LN P t=true)(h:cE P (n+1) t cs):∃s,cs=[.str s]/\s.size<=maxLen:=by
 unfold LN at ht;unfold cE at h;split at ht
 .rename_i hu;rw[hu]at h;exact h
 .cases ht
theorem gJ{n}{t e}{z}{g}{cs}(ht:PR P t=some (e,z,g))(h:cE P (n+1) t cs) :
  ∃xs,cs=[.slice z xs false]/\xs.length<=maxLen/\∀x,x∈xs->∃es,x=jC g es/\cE P n e es:=by
 unfold PR at ht;unfold cE at h;split at ht
 .rename_i e' hu;rw[hu]at h;cases ht;exact h
 .cases ht
theorem gM{α:Type}(f:α->PV):∀{xs},(∀x,x∈xs->∃a,x=f a)->∃l:List α,xs=l.map f
 |[],_=>⟨[],rfl⟩
 |x::r,h=>by
  obtain⟨a,rfl⟩:=h x (by simp);obtain⟨l,rfl⟩:=gM f (xs:=r) λy hy=>h y (by simp[hy]);exact⟨a::l,rfl⟩
end Abs
end Go.Proofs.YtnjiadikeacfaaaGreatDoor
namespace Go.Proofs.YtnjiadikeacfaaaGreatDoor
namespace Abs
variable {P:Program} {H:Hints} {Q:Cont} {M0:Nat->Prop}
end Abs
end Go.Proofs.YtnjiadikeacfaaaGreatDoor
