/- CONTRACTS of functions and laws. No conditions but those in the heads. -/
import Derived.Test.YtgafommgcfhkkaaGreatDoorAbsFrzX
import Derived.ProofKit
import Derived.OpenShut
import Derived.Carry
set_option linter.all false
namespace Go.Proofs.YtgafommgcfhkkaaGreatDoor
namespace Abs
attribute [go_sem ↓] zaJ TB Y8 Y9 Y5 zaK Y7 WS WT WW Zc W0 TF Zd W3 TI GH Ot Lh JS Dv GL JV EQ G' Ha AU
attribute [go_sem] false_and zE gY lP Int.toNat_zero Int.lt_irrefl Ol Ov BO EP GJ yF t7 sb t8 exists_eq_left' true_or or_true false_or or_false List.getElem?_nil Int.cast_ofNat_Int decide_true decide_false wl0 wl1 wl2 wl3 wl4 wl5 wl6 wl7 wl8 wl9 za3 za2 za1 AV.plain CC List.all_cons ti Fe xZ exists_eq' exists_eq List.append_cancel_left_eq dQ cX gX Int.natCast_nonneg i8 Option.map_none BN jL zw vM oU oW vP Ds G7 Ad mn mQ tY vO xx sT JP fx qu oH ib aE mB bi bH yR sg oE WJ Re K4 Rd K2 Od Rf K3 Ts Og JB K7 Oh Tr Of JA K5 Tt Oi JC H8 Gr Gs Cx Gq KJ IW List.forall_mem_append List.forall_mem_map List.forall_mem_cons dP false_imp_iff implies_true not_false_eq_true ne_eq H0 TR W8 W9 T4 OR.skip.injEq W6 TJ TL je j9 Bt wn Qb Nr sO qe zT M4 LM un pN wO Zb Lg Lf PT CN PS sH Im Nj PY Nk Rq Dt GI JT EO Du Gk DU mO Dr G6 zx zaL s6 Za WX WY TD Ou GK JU PM PN Pf TA Tz Ro VX Qw KM Qx NJ Qy Ld Lc Lb s4 AEnd.ret.injEq AV.p.injEq PV.bool.injEq PV.int.injEq PV.agg.injEq PV.tuple.injEq PV.str.injEq List.cons.injEq W1 Xg Zf Oy Ll Ow Lj Li Lk JX JZ Ox JY td JO sS D4 lf wW nD p4 Kt H9 Xd W7 Xb W5 CR Xc Rt Rs Xa Xe TT Ru Xf W4 cr rL fX beq_true beq_false o0 Bool.and_true Bool.false_and Bool.and_false Bool.not_true uK dd Bool.or_true oZ oo iv Option.bind_none q8 cv bd Hint.isMut AAct.eval AAct.put Hk start Om fD AV.cells PV.cells bf bx jb ga pA rW oe vN qo iZ m6 AV.part AV.withCells jY uR iu bc bS gZ jh tZ List.size_toArray zai zah EL zV vt Ca Mg qX rM ip qW m7 List.set_cons_zero List.set_cons_succ sG iP lY sub List.take_succ_cons List.take_zero List.drop_succ_cons qy and_self and_true true_and
open Go.ChangeShapes Go.WideShapes Go.ChangeAt Go.RowKit
def xA (R:TypeId->List PV->Prop):List Field->List PV->Prop
 |[],cs=>cs=[]
 |f::fs,cs=>∃a b,cs=a++b/\R f.type a/\xA R fs b
def OB (R:List PV->Prop):Nat->List PV->Prop
 |0,cs=>cs=[]
 |n+1,cs=>∃a b,cs=a++b/\R a/\OB R n b
def lu (agg:Bool) (cs:List PV):PV:=
 match agg,cs with
 |false,[c]=>c
 |_,cs=>.agg cs
def dU (P:Program):Nat->TypeId->List PV->Prop
 |0,_,_=>False
 |n+1,t,cs=>
  match P.underlying t with
  |some .bool=>∃b,cs=[.bool b]
  |some (.int k)=>∃m,cs=[.int k m]/\(Lit.int k m).wf=true
  |some .string=>∃s:ByteArray,cs=[.str s]/\s.size<=maxLen
  |some (.slice e)=>∃xs,cs=[.slice (P.cellsOf e) xs false]/\xs.length<=maxLen/\∀x,x∈xs->∃es,x=lu (dp P e==some true) es/\dU P n e es
  |some (.struct fs)=>xA (dU P n) fs.toList cs
  |some (.array m e)=>OB (dU P n e) m cs
  |_=>False
def zJ (P:Program) (n:Nat) (t:TypeId) (v:PV):Prop:=∃cs,v=lu (dp P t==some true) cs/\dU P n t cs
def B5 (P:Program) (n:Nat):List TypeId->List PV->Prop
 |[],vs=>vs=[]
 |t::ts,vs=>∃v r,vs=v::r/\zJ P n t v/\B5 P n ts r
def xX (P:Program):List Field->Nat->Nat->Bool
 |[],o,n=>o==n
 |f::fs,o,n=>f.offset==o&&xX P fs (o+P.cellsOf f.type) n
def uu (P:Program):Nat->TypeId->Bool
 |0,_=>false
 |n+1,t=>
  match P.underlying t with
  |some .bool=>P.cellsOf t==1
  |some (.int _)=>P.cellsOf t==1
  |some .string=>P.cellsOf t==1
  |some (.slice e)=>P.cellsOf t==1&&P.cellsOf e != 0&&uu P n e
  |some (.struct fs)=>xX P fs.toList 0 (P.cellsOf t)&&fs.toList.all λf=>uu P n f.type
  |some (.array m e)=>m*P.cellsOf e==P.cellsOf t&&uu P n e
  |_=>false
def xN:Nat->Prop:=λ_=>False
def m9 (w:World) (cs:List Value) (ps:List PV):Prop:=
 cs.length=ps.length/\∀(i:Nat) (c:PV),ps[i]?=some c->c.isCell=true/\RepP xN w (cs.getD i undef) c
def m9.nil{w}:m9 w [] []:=⟨rfl,by simp⟩
def m9.append{w}{a b}{p q}(h:m9 w a p)(k:m9 w b q):m9 w (a++b) (p++q):=by
 grind[m9]
def m9.one{w}{v}{c}(e:c.isCell=true)(h:RepP xN w v c):m9 w [v] [c]:=by
 grind[m9]
def Au{α:Type}{p:Nat->α->Prop}:∀(n),(∀i,i<n->∃x,p i x)->∃l:List α,l.length=n/\∀i x,l[i]?=some x->p i x
 |0,_=>⟨[],rfl,by simp⟩
 |n+1,h=>by
  obtain⟨l,u,q⟩:=Au n λi hi=>h i (by omega);obtain⟨x,hx⟩:=h n (by omega);refine⟨l++[x],by simp[u],λi y hi=>?_⟩;grind
def xH{a}{cs}{c}(h:a=true\/(cs=[c]/\c.isCell=true)):(lu a cs).cells=cs:=by
 rcases h with rfl|⟨rfl,e⟩
 .rfl
 .cases a
  .show PV.cells c=[c]
   cases c<;>first|rfl|cases e
  .rfl
section
variable {H:Type} {enc:TypeId×Value->H} {P:Program} {w:World} {sp:Nat->Bool} {held:Bool}
def zbl:TypeDesc->Bool
 |.struct _=>true
 |.array _ _=>true
 |_=>false
def zv{t}{d}(h:P.underlying t=some d):(dp P t==some true)=zbl d:=by
 grind[dp,zbl]
def AC{fuel n}(z:∀(fuel) (t) (cs) (x),uu P n t=true->DataW.trod enc P w 0 sp held fuel t cs=some x->∃ps,dU P n t ps/\ps.length=P.cellsOf t/\m9 w cs ps) :
  ∀(l) (o i) (cs:List Value),xX P l o i=true->cs.length=i->(∀f,f∈l->uu P n f.type=true) ->
   (∀f,f∈l->∃x,DataW.trod enc P w 0 sp held fuel f.type ((cs.drop f.offset).take (P.cellsOf f.type))=some x)->o<=i/\∃ps,xA (dU P n) l ps/\m9 w (cs.drop o) ps
 |[],o,i,cs,j,C,_,_=>by
  have:o=i:=by simpa[xX]using j
  simp_all[xA,dU,m9]
 |f::l,o,i,cs,j,C,hok,A=>by
  simp only[xX,eI,beq_iff_eq]at j;obtain⟨G,j⟩:=j;obtain⟨I,y,E,u⟩:=AC z l _ i cs j C (λg q=>hok g (by simp[q])) λg q=>A g (by simp[q]);obtain⟨x,hx⟩:=A f (by simp);obtain⟨ps,F,D,v⟩:=z fuel f.type _ x (hok f (by simp)) hx;refine⟨by omega,ps++y,⟨ps,y,rfl,F,E⟩,?_⟩;grind[m9]
def JG{n m}{e}:∀(k o) (cs:List Value),o+k=m->cs.length=m*P.cellsOf e ->
   (∀i,i<m->∃ps,dU P n e ps/\ps.length=P.cellsOf e/\m9 w ((cs.drop (i*P.cellsOf e)).take (P.cellsOf e)) ps)->∃ps,OB (dU P n e) k ps/\ps.length=k*P.cellsOf e/\m9 w (cs.drop (o*P.cellsOf e)) ps
 |0,o,cs,D,z,_=>by
  simp_all[OB,dU,m9]
 |k+1,o,cs,D,z,y=>by
  obtain⟨v,A,q,j⟩:=JG k (o+1) cs (by omega) z y;obtain⟨ps,C,u,l⟩:=y o (by omega);refine⟨ps++v,⟨ps,v,rfl,C,A⟩,by grind,?_⟩;grind[m9]
def R5:∀(n fuel) (t) (cs) (x),uu P n t=true->DataW.trod enc P w 0 sp held fuel t cs=some x->∃ps,dU P n t ps/\ps.length=P.cellsOf t/\m9 w cs ps:=by
 intro n
 induction n with
 |zero=>simp[uu,dU,m9]
 |succ n ih=>
  intro fuel t cs x hok h;unfold uu at hok;unfold dU
  cases D:P.underlying t with
  |none=>grind
  |some d=>
   rw[D]at hok
   cases d with
   |bool=>
    obtain⟨b,rfl,_⟩:=DataW.trod_bool D h
    exact⟨[.bool b],⟨b,rfl⟩,by grind,.one rfl (.bool b)⟩
   |int k=>
    obtain⟨m,rfl,_,a3⟩:=DataW.trod_int D h
    exact⟨[.int k m],⟨m,rfl,a3⟩,by grind,.one rfl (.int k m)⟩
   |string=>
    obtain⟨s,rfl,_,hs⟩:=DataW.trod_string D h
    exact⟨[.str s],⟨s,rfl,hs⟩,by grind,.one rfl (.str s)⟩
   |slice e=>
    simp only[eI,beq_iff_eq,bne_iff_ne]at hok;obtain⟨⟨h1,a5⟩,a4⟩:=hok;rcases DataW.trod_slice D h with⟨rfl,_⟩|⟨a,len,cap,K,rest,N,rfl,rfl,_,_,a6,b2,b3,a0,_,_⟩
    .exact⟨[.slice (P.cellsOf e) [] false],⟨[],rfl,by simp,by simp⟩,by simp[h1],.one rfl (.empty (by simp))⟩
    .by_cases hz:len=0
     .subst hz;exact⟨[.slice (P.cellsOf e) [] false],⟨[],rfl,by simp,by simp⟩,by simp[h1],.one rfl (.empty (by simp))⟩
     .have a2:∀i,i<len->∃es:List PV×List Value,w.cells? 0 (a.add (i*P.cellsOf e)) (P.cellsOf e)=some es.2/\dU P n e es.1/\es.1.length=P.cellsOf e/\m9 w es.2 es.1:=by
       intro i hi;have u:=a0 i hi;have G:i<K.length:=by omega
       rw[bL G]at u
       cases E:w.cells? 0 (a.add (i*P.cellsOf e)) (P.cellsOf e) with
       |none=>grind
       |some U=>
        rw[E]at u;obtain⟨ps,h4,h5,h6⟩:=ih N e U _ a4 u;exact⟨(ps,U),rfl,h4,h5,h6⟩
      obtain⟨l,F,v⟩:=Au len a2;have J:a.spot=none:=by
       have h0:l[0]?=some l[0]:=bL (by omega);obtain⟨u,_,h4,h5⟩:=v 0 _ h0;obtain⟨_,h6,h7⟩:=World.cells?_some u;have S:=h7 0 (by omega);have R:(l[0].2)[0]?=some (l[0].2[0]'(by omega)):=bL (by omega);rw[R]at S;have:=World.cell?_spot S;simpa[Addr.add]using this
      obtain⟨V,off,b1⟩:=a;subst J;have a1:∀i j,(Addr.add ⟨V,off,none⟩ i).add j=⟨V,off+(i+j),none⟩:=by
       intro i j;unfold Addr.add;by_cases hi:i=0<;>by_cases M:j=0<;>simp[hi,M];omega
      refine⟨[.slice (P.cellsOf e) (l.map λq=>lu (dp P e==some true) q.1) false],⟨_,rfl,by simp[F];omega,λx hx=>?_⟩,by simp[h1],.one rfl ?_⟩
      .simp only[cA]at hx;obtain⟨q,C,rfl⟩:=hx;obtain⟨i,hi⟩:=fN C;grind
      .have A:∀(i:Nat) (q:List PV×List Value),l[i]?=some q->(lu (dp P e==some true) q.1).cells=q.1:=by
        intro i q C;have y:=(v i q C).2.1;have b0:(dp P e==some true)=true\/∃c,q.1=[c]/\c.isCell=true:=by
         cases n with
         |zero=>cases y
         |succ n=>
          unfold dU at y
          grind[dp,PV.isCell]
        rcases b0 with u|⟨c,u,G⟩
        .grind[PV.cells,lu,dp]
        .exact xH (.inr ⟨u,G⟩)
       have Y:∀i,i<len->∃q,l[i]?=some q:=λi hi=>⟨l[i]'(by omega),bL _⟩
       have Z:∀k,k<(l.map λq=>lu (dp P e==some true) q.1).length*P.cellsOf e->k / P.cellsOf e<len/\k%P.cellsOf e<P.cellsOf e:=by
        intro k hk;have z:0<P.cellsOf e:=Nat.pos_of_ne_zero a5;simp only[dQ,F]at hk;exact⟨(Nat.div_lt_iff_lt_mul z).2 hk,zG _ z⟩
       refine .slice (λk=>(l.getD (k / P.cellsOf e) default).2.getD (k%P.cellsOf e) undef) (by simp[F]) a6 (by simp) (λx hx=>?_) (λ_ O=>O) (λk hk=>?_) λi j x c hx E=>?_
       .simp only[cA]at hx;obtain⟨q,C,rfl⟩:=hx;obtain⟨i,hi⟩:=fN C;rw[A i q hi];refine⟨(v i q hi).2.2.1,λc E=>?_⟩;obtain⟨j,M⟩:=fN E;exact((v i q hi).2.2.2.2 j c M).1
       .obtain⟨a8,a7⟩:=Z k hk;obtain⟨q,C⟩:=Y _ a8;obtain⟨u,_,h4,h5⟩:=v _ q C;obtain⟨_,h6,h7⟩:=World.cells?_some u;have S:=h7 _ a7;rw[a1,Nat.div_add_mod']at S;grind
       .simp only[cX,bg]at hx;obtain⟨q,C,rfl⟩:=hx;rw[A i q C]at E;have M:j<P.cellsOf e:=by
         have:=(aC.1 E).1;rw[(v i q C).2.2.1]at this;exact this
        have z:0<P.cellsOf e:=by omega
        have e1:(i*P.cellsOf e+j) / P.cellsOf e=i:=by
         rw[BX,Nat.mul_add_div z,Nat.div_eq_of_lt M];rfl
        have e2:(i*P.cellsOf e+j)%P.cellsOf e=j:=by
         rw[BX,Nat.mul_add_mod,My M]
        show RepP xN w ((l.getD ((i*P.cellsOf e+j) / P.cellsOf e) default).2.getD ((i*P.cellsOf e+j)%P.cellsOf e) undef) c;rw[e1,e2];have R:l.getD i default=q:=by simp[C]
        rw[R]
        exact((v i q C).2.2.2.2 j c E).2
   |struct fs=>
    simp only[eI,kl]at hok;obtain⟨xs,N,rfl,_,F,X,O⟩:=DataW.trod_struct D h;obtain⟨_,ps,y,L⟩:=AC (fuel:=N) ih fs.toList 0 (P.cellsOf t) cs hok.1 F hok.2 λf a9=>by
     obtain⟨i,hi⟩:=fN a9;grind
    rw[qy]at L
    exact⟨ps,y,by rw[<-L.1,F],L⟩
   |array m e=>
    simp only[eI,beq_iff_eq]at hok;obtain⟨xs,N,rfl,_,F,X,O⟩:=DataW.trod_array D h;obtain⟨ps,y,v,L⟩:=JG (w:=w) (P:=P) (n:=n) (m:=m) (e:=e) m 0 cs (by omega) (by omega) λi hi=>by
     grind
    grind
   |_=>cases hok
def RQ{n base}{t}{v}{d}{ps}(hok:uu P n t=true)(j:Value.okWide P w .any base t v)(h:DataW.Trod enc P w 0 sp held t v d ps):∃q,zJ P n t q/\RepP xN w v q:=by
 obtain⟨fuel,h⟩:=h;obtain⟨z,u,J,E⟩:=R5 n fuel t _ _ hok h;refine⟨_,⟨z,rfl,u⟩,?_⟩
 cases n with
 |zero=>cases hok
 |succ n=>
  unfold dU at u;unfold Value.okWide at j
  cases A:P.underlying t with
  |none=>grind
  |some d=>
   rw[A]at u j;rw[zv A];have one:∀c,z=[c]->(∀C,v≠.agg C)->RepP xN w v (lu false z):=by
    intro c y j;subst y;have G:=(E.2 0 c rfl).2;have F:v.cells.toList=[v]:=by cases v<;>first|rfl|grind
    rw[F]at G;exact G
   have agg:∀C,v=.agg C->RepP xN w v (lu true z):=by
    intro C D;subst D;have F:lu true z=.agg z:=by cases z with|nil=>rfl|cons a l=>cases l<;>rfl
    rw[F];refine .agg (by have:=E.1;simpa[Value.cells]using this) (λc I=>?_) λi c hi=>?_
    .obtain⟨i,hi⟩:=fN I;exact(E.2 i c hi).1
    .have:=(E.2 i c hi).2;simpa[Value.cells]using this
   cases d with
   |bool=>obtain⟨b,y⟩:=u;exact one _ y (by rintro C rfl;simp[Cell.okWide,Cell.ok,A]at j)
   |int k=>obtain⟨m,y,_⟩:=u;exact one _ y (by rintro C rfl;simp[Cell.okWide,Cell.ok,A]at j)
   |string=>obtain⟨s,y,_⟩:=u;exact one _ y (by rintro C rfl;simp[Cell.okWide,Cell.ok,A]at j)
   |slice e=>obtain⟨xs,y,_⟩:=u;exact one _ y (by rintro C rfl;simp[Cell.okWide,Cell.ok,A]at j)
   |struct K=>grind[xN,lu,zbl]
   |array m e=>grind[xN,lu,zbl]
   |_=>exact u.elim
def xV{n base}:∀(ts) (e) (ds) (ps),(∀t,t∈ts->uu P n t=true)->(∀(j:Nat) t v,ts[j]?=some t->e[j]?=some v->Value.okWide P w .any base t v) ->
  DataW.TrodAll enc P w 0 sp held ts e ds ps->∃l,B5 P n ts l/\e.length=l.length/\∀(i) (c),l[i]?=some c->RepP xN w (e.getD i undef) c
 |[],e,ds,ps,_,_,h=>by
  obtain⟨rfl,rfl,rfl⟩:=trodAll_nil h
  simp[B5,xN]
 |t::ts,e,ds,ps,hok,D,h=>by
  obtain⟨v,u,d,C,a,b,rfl,rfl,rfl,L,K⟩:=trodAll_cons h;obtain⟨q,G,F⟩:=RQ (hok t (by simp)) (D 0 t v rfl rfl) L;obtain⟨l,A,I,z⟩:=xV ts u C b (λt E=>hok t (by simp[E])) (λj t v J y=>D (j+1) t v (by simpa using J) (by simpa using y)) K;refine⟨q::l,⟨q,l,rfl,G,A⟩,by simp[I],λi c hi=>?_⟩
  grind
def BM{W A}(y:laidOutB P=true)(z:Below W.heap.size W A)(e):∀(ts) (l) (ds) (ps),(∀t,t∈ts->P.readableRec t=true/\t<P.types.size) ->
  DataW.TrodAll enc P W 0 (λ_=>true) true ts l ds ps->(∀x,x∈ps->x.block<W.heap.size)->(∀x,x∈ps->e x.block=true)->DataW.TrodAll enc P A 0 e true ts l ds ps
 |[],l,ds,ps,_,h,_,_=>by
  obtain⟨rfl,rfl,rfl⟩:=trodAll_nil h
  exact rfl
 |t::ts,l,ds,ps,hok,h,j,i=>by
  obtain⟨v,q,d,u,a,b,rfl,rfl,rfl,E,D⟩:=trodAll_cons h;refine⟨a,b,?_,BM y z e ts q u b (λt C=>hok t (by simp[C])) D (λx hx=>j x (by simp[hx])) (λx hx=>i x (by simp[hx])),rfl⟩;exact WideElems.Trod_stays y (hok t (by simp)).1 (hok t (by simp)).2 E (λx hx=>z.same (j x (by simp[hx]))) (λx hx=>i x (by simp[hx]))
def Ff{f}{s:ChangeSpec}{q E u F}{W D}{args}{v}{ds G}{e pa pv}
  (J:DataW.Whole enc P f.params.toList s.vars q W args.toList ds G e)
  (A:∀(b) (sp) (R),DataW.TrodAll enc P D b sp R f.resultTypes.toList (v.resultList f.resultTypes.size) (s.fn H (ds++G)).results [])
  (l:∀sp,(∀p∈e,sp p.block=true)->DataW.TrodAll enc P D 0 sp true f.params.toList args.toList (s.fn H (ds++G)).args pa)
  (i:∀sp,(∀p∈e,sp p.block=true)->DataW.TrodVars enc P D sp s.vars (s.fn H (ds++G)).vars pv)
  (z:e=pa++pv) (O:W.keptBut D (·∈e)) (L:∀a,a.block<W.heap.size->D.frozen? a=W.frozen? a)
  (hok:∀(j:Nat) (t) (r),f.resultTypes[j]?=some t->(v.resultList f.resultTypes.size)[j]?=some r->Value.okWide P D .any 0 t r) :
  s.post enc P f q E u F W args v D:=by
 have C:∀p∈e,(λb=>decide (b<W.heap.size)) p.block=true:=λp y=>by simpa using J.lt p y
 have K:=J.lt;refine⟨ds,G,e,[],pa,pv,J,A _ _ _,l _ C,i _ C,World.keptBut_mono (λp y=>⟨y,?_⟩) O,λ_=>?_⟩
 .grind
 .obtain⟨_,_,_,_,_,M,N⟩:=J;refine⟨hok,_,_,([]++pa)++pv,⟨[]++pa,pv,trodAll_append (l _ (λ_ _=>rfl)) (A _ _ _),i _ (λ_ _=>rfl),rfl,?_,?_⟩,?_⟩
  .intro b off y;have I:MemPlace.cell b off∈e:=by rw[z];simpa using y
   rw[L ⟨b,off,none⟩ (K _ I)];exact M b off I
  .grind
  grind
def IM{w w'}(h:Fr [] w w'):Below w.heap.size w w':=⟨h.os,h.tape,h.output,h.size,λk e=>h.block k e (by simp[Own])⟩
def Ir{f}{fn}{s:ChangeSpec}{ts}{tb}{n base}(D:fn.params.toList=ts)(C:fn.resultTypes=#[tb])(R:P.underlying tb=some .bool)(hl:laidOutB P=true)
  (hok:∀t,t∈ts->uu P n t=true/\P.readableRec t=true/\t<P.types.size) (l:s.vars=[]) (hs:∀(H) (ds),ds.length=ts.length->s.fn H ds={ results:=[.lit (.bool true)],args:=ds })
  (N:∀O,B5 P n ts O->af P f O (.bool true))
  {W} (hg:vU P W) {args} {ds gs} {z} {u I y J} (A:∀(j:Nat) t v,fn.params[j]?=some t->args[j]?=some v->Value.okWide P W .any base t v)
  (hW:DataW.Whole enc P fn.params.toList s.vars u W args.toList ds gs z):Calls P f args W λe W'=>∃v,e=.returned v/\s.post enc P fn u I y J W args v W':=by
 have G:=hW;obtain⟨p,q,K,hV,rfl,a3,a0⟩:=hW;rw[l]at hV;obtain⟨rfl,rfl⟩:=trodVars_none hV;rw[D]at K;have M:ds.length=ts.length:=by
  clear a3 a0 G A;generalize args.toList=L at K
  induction ts generalizing L ds p with
  |nil=>obtain⟨rfl,rfl,rfl⟩:=trodAll_nil K;rfl
  |cons t ts ih=>
   obtain⟨v,V,d,a5,a,b,rfl,rfl,rfl,h1,U⟩:=trodAll_cons K;have:∀(ts:List TypeId) (L:List Value) (ds:List (DataW H)) (p:List MemPlace),DataW.TrodAll enc P W 0 (λ_=>true) true ts L ds p->ds.length=ts.length:=by
    intro ts
    induction ts with
    |nil=>intro L ds p h;obtain⟨rfl,rfl,rfl⟩:=trodAll_nil h;rfl
    |cons t ts ih=>intro L ds p h;obtain⟨v,V,d,a5,a,b,rfl,rfl,rfl,h1,U⟩:=trodAll_cons h;grind
   grind
 obtain⟨O,Z,a2,Y⟩:=xV (n:=n) ts args.toList ds p (λt T=>(hok t T).1) (λj t v hj S=>A j t v (by grind) (by simpa using S)) K;obtain⟨_,hc⟩:=N O Z xN W args (λb R=>R.elim) hg ⟨by omega,λi c hi=>by simp_all⟩;refine hc.mono λe W' he=>?_;obtain⟨v',rfl,S,a4⟩:=he;cases S;have F:=IM a4;have a1:∀x,x∈p->x.block<W.heap.size:=λx hx=>by
  have:=G.lt x (by grind);exact this
 refine⟨_,rfl,?_⟩;have E:=hs H ds M;refine Ff (pa:=p) (pv:=[]) G (λb sp hd=>?_) (λsp X=>?_) (λsp _=>?_) (by simp) (F.frame _) (λa ha=>F.frozen ha) (ok_one C rfl (okWide_bool_mk R _))
 .rw[bI,E,C];exact trodAll_cons_mk (shut_bool R _) trodAll_mk0
 .rw[bI,E,D];exact BM hl F sp ts _ ds p (λt T=>(hok t T).2) K a1 λx hx=>X x (by grind)
 .rw[bI,E,l];rfl
end
variable {P:Program}
def vS (q v:PV):Prop:=sb q v\/∃sz xs,q=.slice sz xs true/\v=.slice sz xs false
def vS.rep{q v}(h:vS q v){M}{w}{u}(l:RepP M w u q):RepP M w u v:=by
 rcases h with h|⟨sz,xs,rfl,rfl⟩
 .exact h.rep l
 .cases l with
  |slice f i j e y A z l=>exact .slice f i j (by simp) y A z l
  |empty e=>exact .empty (by simp)
def vS.cell{q v}(h:vS q v)(e:q.isCell=true):v.isCell=true:=by
 rcases h with(rfl|⟨rfl,sz,rfl⟩)|⟨sz,xs,rfl,rfl⟩
 .exact e
 .rfl
 .rfl
def Dz:List PV->List PV->Prop
 |[],[]=>True
 |q::a,v::b=>vS q v/\Dz a b
 |_,_=>False
def Dz.get:∀{a b},Dz a b->a.length=b.length/\∀(i:Nat) (v),b[i]?=some v->∃q,a[i]?=some q/\vS q v
 |[],[],_=>⟨rfl,by simp⟩
 |q::a,v::b,h=>by
  obtain⟨j,e⟩:=Dz.get h.2;refine⟨by simp[j],λi u hi=>?_⟩
  cases i with
  |zero=>cases hi;exact⟨q,rfl,h.1⟩
  |succ i=>grind
 |[],_::_,h=>h.elim
 |_::_,[],h=>h.elim
variable {P:Program}
def Ln (P:Program) (t:TypeId):Option (List TypeId):=
 match P.underlying t with
 |some (.struct fs)=>some (fs.toList.map (·.type))
 |_=>none
def X0 (P:Program) (t:TypeId):Option IntKind:=
 match P.underlying t with
 |some (.int k)=>some k
 |_=>none
def Ug (P:Program) (t:TypeId):Option (TypeId×Nat×Bool):=
 match P.underlying t with
 |some (.slice e)=>some (e,P.cellsOf e,dp P e==some true)
 |_=>none
def PZ (P:Program) (t:TypeId):Bool:=
 match P.underlying t with
 |some .string=>true
 |_=>false
def OC (P:Program) (n:Nat):List TypeId->List PV->Prop
 |[],cs=>cs=[]
 |t::ts,cs=>∃a b,cs=a++b/\dU P n t a/\OC P n ts b
def Pm{n}:∀{e} {cs},xA (dU P n) e cs->OC P n (e.map (·.type)) cs
 |[],_,h=>h
 |_::_,_,⟨a,b,l,j,i⟩=>⟨a,b,l,j,Pm i⟩
def fg{n}{t}{ts}{cs}(e:Ln P t=some ts)(h:dU P (n+1) t cs):OC P n ts cs:=by
 unfold Ln at e;unfold dU at h;split at e
 .rename_i j i;rw[i]at h;cases e;exact Pm h
 .cases e
def XH{n}{t}{k}{cs}(e:X0 P t=some k)(h:dU P (n+1) t cs):∃m,cs=[.int k m]/\k.min<=m/\m<=k.max:=by
 unfold X0 at e;unfold dU at h;split at e
 .rename_i q i;rw[i]at h;cases e;obtain⟨m,l,j⟩:=h;exact⟨m,l,by simpa[Lit.wf]using j⟩
 .cases e
def ov{n}{t}{cs}(e:PZ P t=true)(h:dU P (n+1) t cs):∃s,cs=[.str s]/\s.size<=maxLen:=by
 unfold PZ at e;unfold dU at h;grind
def ko{n}{t e}{z}{g}{cs}(i:Ug P t=some (e,z,g))(h:dU P (n+1) t cs) :
  ∃xs,cs=[.slice z xs false]/\xs.length<=maxLen/\∀x,x∈xs->∃es,x=lu g es/\dU P n e es:=by
 unfold Ug at i;grind[lu,dU]
def jP{α:Type}(f:α->PV):∀{xs},(∀x,x∈xs->∃a,x=f a)->∃l:List α,xs=l.map f
 |[],_=>⟨[],rfl⟩
 |x::r,h=>by
  obtain⟨a,rfl⟩:=h x (by simp);obtain⟨l,rfl⟩:=jP f (xs:=r) λy e=>h y (by simp[e]);exact⟨a::l,rfl⟩
variable {P:Program} {H:Hints} {Q:Cont} {M0:Nat->Prop}
variable {P:Program} {H:Hints} {Q:Cont} {M0:Nat->Prop}
def aQ (K:Nat->Bool) (h:Heap):Heap:=h.mapIdx λi o=>if K i=true then .dead else o
def cT (K:Nat->Bool) (m:List (Option Nat)):List (Option Nat):=m.mapIdx λi μ=>if K i=true then none else μ
def Mem.kill (K:Nat->Bool) (S:Mem):Mem:=⟨cT K S.m,aQ K S.h,S.w⟩
def nG(K)(h)(i):(aQ K h)[i]?=(h[i]?).map λo=>if K i=true then .dead else o:=by
 simp[aQ]
def yC(K)(m)(i):(cT K m)[i]?=(m[i]?).map λo=>if K i=true then none else o:=by
 simp[cT]
def l8{K}{h}{i}(e:K i=false):(aQ K h)[i]?=h[i]?:=by
 rw[nG,e];simp
def p6{K}{h}{i}{o}(j:K i=true)(e:h[i]?=some o):(aQ K h)[i]?=some .dead:=by
 rw[nG,j,e];rfl
def p5{K}{m}{i}(e:K i=false):(cT K m).getD i none=m.getD i none:=by
 grind[cT]
def yB{K}{m}{i b}(h:(cT K m)[i]?=some (some b)):m[i]?=some (some b)/\K i=false:=by
 rw[yC]at h
 grind
def jX{K}{m}{b}(h:Own (cT K m) b):∃i,m[i]?=some (some b)/\K i=false:=by
 obtain⟨i,hi⟩:=fN h;exact⟨i,yB hi⟩
def nx{m}{i b:Nat}(h:m[i]?=some (some b)):Own m b:=aB h
def ei.kill{S}{K}{id e}{X}(h:ei S id e X):ei (S.kill K) id e X:=by
 unfold ei at *
 have l:(S.kill K).h[id]?=(aQ K S.h)[id]?:=rfl;have j:(S.kill K).m.getD id none=(cT K S.m).getD id none:=rfl;rw[l,j]
 grind[aQ,cT]
section
variable {M1:Nat->Prop} {S:Mem} {K:Nat->Bool} (hM:∀b,Avoid M1 (cT K S.m) b->Avoid M0 S.m b)
include hM
def dw.kill{v}{a}(h:dw M0 S v a):dw M1 (S.kill K) v a:=by
 cases a with
 |p q=>exact RepP.less (show RepP (Avoid M0 S.m) S.w v q from h) hM
 |ptr id j i o=>exact⟨h.1,ei.kill h.2⟩
 |slice id j off len=>exact⟨h.1,ei.kill (S:=S) h.2⟩
 |ref k id=>
  refine⟨h.1,?_⟩;have u:(S.kill K).h[id]?=(aQ K S.h)[id]?:=rfl;have l:(S.kill K).m.getD id none=(cT K S.m).getD id none:=rfl;rw[u,l]
  cases e:K id with
  |true=>
   left;rcases h.2 with h|⟨⟨o,h,_⟩,_⟩
   .exact p6 e h
   .exact p6 e h
  |false=>
   rw[l8 e,p5 e]
   exact h.2
 |undef=>exact trivial
 |agg cs=>exact h.elim
 |func fn f c=>exact h.elim
 |tuple y=>exact h.elim
def cb.kill{v}{a}(h:cb M0 S v a):cb M1 (S.kill K) v a:=by
 cases a with
 |func fn f c=>
  obtain⟨F,C,rfl,y,u⟩:=h
  exact⟨F,C,rfl,y.imp λv c l j=>dw.kill hM j,u.imp λv c l j=>dw.kill hM j⟩
 |p q=>exact dw.kill (M0:=M0) (a:=.p q) hM h
 |ptr id e i o=>exact dw.kill (M0:=M0) (a:=.ptr id e i o) hM h
 |slice id e off len=>exact dw.kill (M0:=M0) (a:=.slice id e off len) hM h
 |ref k id=>exact dw.kill (M0:=M0) (a:=.ref k id) hM h
 |undef=>exact trivial
 |agg cs=>exact h.elim
 |tuple z=>exact h.elim
def eE.kill{v}{a}(h:eE M0 S v a):eE M1 (S.kill K) v a:=by
 cases a with
 |agg cs=>
  obtain⟨C,rfl,u,l⟩:=h
  exact⟨C,rfl,u,l.imp λv c z j=>cb.kill hM j⟩
 |p q=>exact cb.kill (M0:=M0) (a:=.p q) hM h
 |ptr id e i o=>exact cb.kill (M0:=M0) (a:=.ptr id e i o) hM h
 |slice id e off len=>exact cb.kill (M0:=M0) (a:=.slice id e off len) hM h
 |ref k id=>exact cb.kill (M0:=M0) (a:=.ref k id) hM h
 |func fn f c=>exact cb.kill (M0:=M0) (a:=.func fn f c) hM h
 |undef=>exact trivial
 |tuple y=>exact h.elim
def Rep.kill{v}{a}(h:Rep M0 S v a):Rep M1 (S.kill K) v a:=by
 cases a with
 |tuple cs=>
  obtain⟨C,rfl,l⟩:=h
  exact⟨C,rfl,l.imp λv c u j=>eE.kill hM j⟩
 |p q=>exact eE.kill (M0:=M0) (a:=.p q) hM h
 |ptr id e i o=>exact eE.kill (M0:=M0) (a:=.ptr id e i o) hM h
 |slice id e off len=>exact eE.kill (M0:=M0) (a:=.slice id e off len) hM h
 |ref k id=>exact eE.kill (M0:=M0) (a:=.ref k id) hM h
 |func fn f c=>exact eE.kill (M0:=M0) (a:=.func fn f c) hM h
 |agg cs=>exact eE.kill (M0:=M0) (a:=.agg cs) hM h
 |undef=>exact trivial
def HOk.kill(z:HOk P M0 S)(l:∀b,M1 b->b<S.w.heap.size/\¬Own (cT K S.m) b):HOk P M1 (S.kill K) where
 len:=by simp[Mem.kill,cT,aQ,z.len]
 lt:=λb h=>let ⟨i,hi,_⟩:=jX h;z.lt b (nx hi)
 m0:=l
 gl:=z.gl.fr (λ_ _ _=>rfl) λb R=>let ⟨i,hi,_⟩:=jX R;.inl (nx hi)
 inj:=λi j b hi M=>z.inj i j b (yB hi).1 (yB M).1
 obj:=λid o G=>by
  have U:(S.kill K).m.getD id none=(cT K S.m).getD id none:=rfl;have e:(aQ K S.h)[id]?=some o:=G
  cases E:K id with
  |true=>
   rw[nG,E]at e
   grind[ObjOk,Mem.kill]
  |false=>
   rw[l8 E]at e;rw[U,p5 E];have:=z.obj id o e
   cases o with
   |row sz xs=>
    rcases this with h|⟨b,T,C,l,u,q,D⟩
    .exact .inl h
    .refine .inr ⟨b,T,C,l,u,q,λi x hx=>?_⟩;obtain⟨cs,A,F,L⟩:=D i x hx
     exact⟨cs,A,F,λj c J=>⟨(L j c J).1,cb.kill hM (L j c J).2⟩⟩
   |loop n tmps ps assign body V pend=>
    obtain⟨b,r,l,u,q,D,A⟩:=this
    exact⟨b,r,l,u,q,λt=>Rep.kill hM (D t),A⟩
   |strIter s p=>exact this
   |mp es=>
    obtain⟨b,C,y,l,u,q⟩:=this
    exact⟨b,C,y,l,u,q.mono λv a=>cb.kill hM⟩
   |memo f=>
    obtain⟨N,es,O,b,C,y,l,u,q⟩:=this
    exact⟨N,es,O,b,C,y,l,u,q.mono λv a=>cb.kill hM⟩
   |dblock=>exact this
   |bld T Y x=>
    obtain⟨b,p,v,l,u,q,D,A,F⟩:=this
    exact⟨b,p,v,l,u,q,D,dw.kill hM A,F⟩
   |dead=>exact trivial
end
def s7(S:Mem)(K:Nat->Bool)(base:Nat):Ev base S (S.kill K) where
 fr:=Fr.refl _ _
 sub:=λb l=>let ⟨i,hi,_⟩:=jX (K:=K) l;.inl (nx hi)
 obj:=λid o _ j=>by
  cases e:K id with
  |true=>exact⟨.dead,p6 e j,.inl rfl⟩
  |false=>
   refine⟨o,(l8 e).trans j,?_⟩;have q:(S.kill K).m.getD id none=S.m.getD id none:=p5 e;rw[q];exact ObjEv.refl _ _
def qM{S}(i:HOk P M0 S)(K):HOk P M0 (S.kill K):=
 HOk.kill (M0:=M0) (M1:=M0) (λ_ e=>e.imp id λh=>let ⟨_,hi,_⟩:=jX h;nx hi) i
  (λb e=>⟨(i.m0 b e).1,λh=>(i.m0 b e).2 (let ⟨_,hi,_⟩:=jX h;nx hi)⟩)
def nK{S}(l:HOk P M0 S)(K){v}{a}{q}(z:Rep M0 S v a)(D:oH (aQ (λi=>!K i) S.h) a=some q):RepP (Avoid M0 (cT K S.m)) S.w v q:=by
 have hM:∀b,Avoid (Avoid M0 (cT K S.m)) (cT (λi=>!K i) S.m) b->Avoid M0 S.m b:=by
  rintro b ((e|e)|e)
  .exact .inl e
  .obtain⟨_,hi,_⟩:=jX e;exact .inr (nx hi)
  .obtain⟨_,hi,_⟩:=jX e;exact .inr (nx hi)
 have A:=HOk.kill hM l (λb e=>by
  rcases e with e|e
  .exact⟨(l.m0 b e).1,λh=>(l.m0 b e).2 (let ⟨_,hi,_⟩:=jX h;nx hi)⟩
  .obtain⟨i,hi,y⟩:=jX e;refine⟨l.lt b (nx hi),λh=>?_⟩;obtain⟨j,C,u⟩:=jX h;have:=l.inj i j b hi C;grind)
 exact rO (S:=S.kill λi=>!K i) A (Rep.kill hM z) D
def wZ{f}{args}{pargs}{v}{h}(K)(L:af P f pargs v)(M:ib (aQ (λi=>!K i) h) args=some pargs) :
  aw P f args h (λr h'=>r=.ret (.p v)/\h'=aQ K h):=by
 intro M0 m w l u j;obtain⟨G,J⟩:=vD M;have D:oX (Avoid M0 (cT K m)) w l pargs:=by
  refine⟨by rw[j.1,G],λi c hi=>?_⟩;obtain⟨a,C,A⟩:=J i c hi;exact nK (S:=⟨m,h,w⟩) u K (j.2 i a C) A
 obtain⟨C,A⟩:=L (Avoid M0 (cT K m)) w l (λb q=>by
  rcases q with q|q
  .exact(u.m0 b q).1
  .obtain⟨_,hi,_⟩:=jX q;exact u.lt b (nx hi)) u.gl.1 D
 refine⟨C,A.mono λe w' hh=>?_⟩;obtain⟨v',rfl,F,E⟩:=hh;obtain⟨I,y⟩:=rR (S:=Mem.kill K ⟨m,h,w⟩) (qM u K) E;have N:=s7 ⟨m,h,w⟩ K h.length;have z:(Mem.kill K ⟨m,h,w⟩).h.length=h.length:=by simp[Mem.kill,aQ]
 rw[z]at y;exact⟨.ret (.p v),_,cT K m,⟨rfl,rfl⟩,N.trans y,I,F⟩
def ut (id:Nat):AV->Prop
 |.p _=>True
 |.slice i _ _ _=>i=id
 |.ptr i _ _ _=>i=id
 |_=>False
def Bq(id)(h):aQ (λi=>i==id) h=h.set id .dead:=by
 apply pE;grind[aQ]
def Qn{id sz}{xs:List PV}{h}(j:h[id]?=some (.row sz (xs.map .p))){a}{q}(l:ut id a)(e:oH h a=some q):oH (aQ (λi=>!(i==id)) h) a=some q:=by
 have z:(aQ (λi=>!(i==id)) h)[id]?=some (.row sz (xs.map .p)):=by rw[l8 (by simp)];exact j
 have y:∀(n:Nat) (h:Heap),aE (bi n h) (xs.map .p)=some xs:=λn h=>by have:=yR n h (λx=>x) xs;simp_all
 cases a with
 |p v=>exact e
 |slice i u off len=>
  cases (show i=id from l);unfold oH bi at e |-;grind[mB,bi,aQ]
 |ptr i u off len=>
  cases (show i=id from l);unfold oH bi at e |-;grind[mB,bi,aQ]
 |_=>exact l.elim
def te{ops}{rest}{dst}{A}{f}{args}{pargs}{v}(C:af P f pargs v)(id sz)(xs:List PV)(y:A.h[id]?=some (.row sz (xs.map .p)))
  (u:∀a,a∈args->ut id a) (E:ib A.h args=some pargs) (h:@WO ⟨P,H,ops,rest,Q⟩ (A.put dst (.p v) (A.h.set id .dead))):@WF ⟨P,H,ops,rest,Q,dst⟩ A f args:=by
 have F:∀(l:List AV) (j:List PV),(∀a,a∈l->ut id a)->ib A.h l=some j->ib (aQ (λi=>!(i==id)) A.h) l=some j:=by
  intro l
  induction l with
  |nil=>intro j _ e;exact e
  |cons a l z=>
   intro j u e;unfold ib aE at e |-;split at e
   .rename_i q r I G;rw[Qn y (u a (by simp)) I];have:=z r (λb D=>u b (by simp[D])) G;unfold ib at this;grind
   .cases e
 refine cw (wZ (λi=>i==id) C (F _ _ u E)) ?_;rw[Bq];exact h
def Px(id):(∀a,a∈([]:List AV)->ut id a)=True:=by simp
def M5(id)(x)(l):(∀a,a∈x::l->ut id a)=(ut id x/\∀a,a∈l->ut id a):=by simp
def gR:PV->Bool
 |.bool _=>true
 |.int _ _=>true
 |.str _=>true
 |.agg cs=>flatL cs
 |.tuple cs=>flatL cs
 |.nilslice=>true
 |.nilptr=>true
 |.nilfunc=>true
 |.niliface=>true
 |.any=>true
 |.iface _ v=>gR v
 |_=>false
where flatL:List PV->Bool
 |[]=>true
 |c::l=>gR c&&flatL l
def Ef:∀(q),gR q=true->Flat q
 |.bool b,_=>.bool b
 |.int k n,_=>.int k n
 |.str s,_=>.str s
 |.agg cs,h=>by
  rw[gR]at h
  exact .agg (key cs h)
 |.nilslice,_=>.nilslice
 |.nilptr,_=>.nilptr
 |.nilfunc,_=>.nilfunc
 |.niliface,_=>.niliface
 |.any,_=>.any
 |.tuple cs,h=>by
  rw[gR]at h
  exact .tuple (key cs h)
 |.slice _ _ _,h=>by simp[gR]at h
 |.ptr _ _ _ _,h=>by simp[gR]at h
 |.func _ _ _,h=>by simp[gR]at h
 |.iface _ v,h=>.iface (Ef v (by grind[gR]))
where key:∀(cs:List PV),gR.flatL cs=true->∀(i:Nat) (c:PV),cs[i]?=some c->Flat c
 |[],_=>Flat.nil
 |c::l,h=>by
  rw[gR.flatL,eI]at h;exact Flat.cons (Ef c h.1) (key l h.2)
def iI:Nat->Heap->AV->Option PV
 |_,_,.p v=>if gR v=true then some v else none
 |0,_,_=>none
 |n+1,h,.slice id ver off len=>(mB (iI n h) ver h[id]?).map λq=>.slice q.1 ((q.2.take (off+len)).drop off) false
 |n+1,h,.agg cs=>(aE (iI n h) cs).map .agg
 |n+1,h,.tuple cs=>(aE (iI n h) cs).map .tuple
 |_,_,_=>none
def rQ(n)(h)(v):iI n h (.p v)=if gR v=true then some v else none:=by cases n<;>rfl
def xb:∀(n) (h) (a) (q),iI n h a=some q->bi n h a=some q:=by
 intro n
 induction n with
 |zero=>
  intro h a q e
  cases a with
  |p v=>rw[rQ]at e;grind[bi]
  |_=>cases e
 |succ n l=>
  intro h a q e
  cases a with
  |p v=>rw[rQ]at e;grind[bi]
  |slice id A off len=>
   unfold iI at e;unfold bi;simp only[bg]at e |-;obtain⟨r,j,i⟩:=e;obtain⟨xs,z,y,u⟩:=rP j;refine⟨r,?_,i⟩
   rw[z,mB,if_pos y,gV (l h) u];rfl
  |agg cs=>
   unfold iI at e;unfold bi;simp only[bg]at e |-;obtain⟨r,j,i⟩:=e
   exact⟨r,gV (l h) j,i⟩
  |tuple cs=>
   unfold iI at e;unfold bi;simp only[bg]at e |-;obtain⟨r,j,i⟩:=e
   exact⟨r,gV (l h) j,i⟩
  |_=>cases e
def NC{n}{h}{a}{q}{cs}(e:iI n h a=some q)(u:a.cells=some cs) :
  ∀(j:Nat) (c),q.cells[j]?=some c->∃x m,cs[j]?=some x/\m<=n/\iI m h x=some c:=by
 intro j c i
 cases a with
 |p v=>
  rw[rQ]at e;split at e
  .rename_i C;cases e;have F:cs=q.cells.map .p:=by
    cases q with
    |tuple l=>cases u
    |_=>cases u;rfl
   refine⟨.p c,n,by grind,ba _,?_⟩;rw[rQ];have:gR c=true:=by
    cases q with
    |agg l=>
     have E:∀(l:List PV),gR.flatL l=true->∀x,x∈l->gR x=true:=by
      intro l
      induction l with
      |nil=>simp
      |cons y l G=>
       grind[gR.flatL,gR]
     rw[gR]at C
     exact E l C c (aB i)
    |_=>
     have z:[_][j]?=some c:=i
     grind
   grind
  .cases e
 |slice id D off len=>
  cases u
  cases n with
  |zero=>cases e
  |succ n=>
   have I:q.cells=[q]:=Ar (pz (a:=.slice id D off len) rfl (xb _ _ _ _ e));grind
 |agg l=>
  cases u
  cases n with
  |zero=>cases e
  |succ n=>
   unfold iI at e;simp only[bg]at e;obtain⟨r,M,rfl⟩:=e;obtain⟨_,L⟩:=gx M;obtain⟨x,K,J⟩:=L j c i
   grind
 |tuple l=>cases u
 |undef=>grind[iI]
 |ptr _ _ _ _=>grind[iI]
 |func _ _ _=>grind[iI]
 |ref _ _=>grind[iI]
def VG{S}(hS:HOk P M0 S){M}(hM:∀b,Own S.m b->¬M b):∀(n) (v) (a) (q),Rep M0 S v a->iI n S.h a=some q->RepP M S.w v q:=by
 intro n
 induction n using Nat.strongRecOn with
 |_ n U=>
  intro v a q J e
  cases a with
  |p v'=>
   rw[rQ]at e;split at e
   .rename_i hf;cases e;exact(Ef _ hf).rep (show RepP (Avoid M0 S.m) S.w v q from J)
   .cases e
  |slice id a3 off len=>
   cases n with
   |zero=>cases e
   |succ n=>
    unfold iI at e;simp only[bg]at e;obtain⟨⟨sz,l⟩,O,rfl⟩:=e;obtain⟨xs,z,hv,A⟩:=rP O;dsimp only at z A |-;have y:len=0->(l.take (off+len)).drop off=[]:=by
     intro e;subst e;apply qx;simp
    rcases dM J.2 z hv with⟨G,_,_,a,cap,rfl⟩|⟨b,cap,T',n',hm,rfl,⟨O,N⟩,_,_⟩|⟨_,rfl,G⟩
    .rw[y G];exact .empty (by simp)
    .obtain⟨C,T,hb,a2,Z⟩:=gK hS z hm;obtain⟨X,Y⟩:=gx A;have u:∀(i:Nat) (q:PV),l[i]?=some q->(q.cells.length=sz/\∀c,c∈q.cells->c.isCell=true)/\∀(j:Nat) (c:PV),q.cells[j]?=some c->RepP M S.w (C.getD (i*sz+j) undef) c:=by
      intro i q hi;obtain⟨a,G,I⟩:=Y i q hi;obtain⟨cs,g1,g2,V⟩:=Z i a G;obtain⟨g4,g5⟩:=C2 (xb _ _ _ _ I) g1;have g6:=NC I g1;refine⟨⟨by omega,λc K=>?_⟩,λj c E=>?_⟩
      .obtain⟨j,E⟩:=fN K;obtain⟨x,m,k1,_,R⟩:=g5 j c E;exact pz (V j x k1).1 R
      .obtain⟨x,m,k1,k2,R⟩:=g6 j c E;exact U m (by omega) _ x c (qF (V j x k1).1 (V j x k1).2) R
     have a1:¬M b:=hM b (nx (cI hm))
     have:=wE (M:=M) (w:=S.w) (b:=b) (off:=0) (sz:=sz) (l:=off) (r:=off+len) (xs:=l) (λk=>C.getD k undef) (by omega) (by omega)
      (λx hx=>let ⟨i,hi⟩:=fN hx;(u i x hi).1) (λ_=>a1) (λk hk=>by rw[gZ];exact kP hb k (by grind)) (λi j x c hx E=>(u i x hx).2 j c E) (cap:=cap) (full:=false) (by omega) (by simp)
     grind
    .rw[y G];exact .empty (by simp)
  |agg cs=>
   cases n with
   |zero=>cases e
   |succ n=>
    obtain⟨C,rfl,K,O,N⟩:=J;have e0:=xb _ _ _ _ e;unfold iI at e;simp only[bg]at e;obtain⟨l,A,rfl⟩:=e;obtain⟨h3,L⟩:=gx A;refine .agg (by omega) (λc a0=>?_) λi c hi=>?_
    .obtain⟨i,hi⟩:=fN a0;obtain⟨a,D,F⟩:=L i c hi;exact pz (K a (aB D)) (xb _ _ _ _ F)
    .obtain⟨a,D,F⟩:=L i c hi
     exact U n (by omega) _ a c (qF (K a (aB D)) (N i a D)) F
  |tuple cs=>
   cases n with
   |zero=>cases e
   |succ n=>
    obtain⟨C,rfl,O,N⟩:=J;unfold iI at e;simp only[bg]at e;obtain⟨l,A,rfl⟩:=e;obtain⟨h3,L⟩:=gx A;refine .tuple (by omega) λi c hi=>?_;obtain⟨a,D,F⟩:=L i c hi
    exact U n (by omega) _ a c (qG (N i a D)) F
  |undef=>cases n<;>cases e
  |ptr _ _ _ _=>cases n<;>cases e
  |func _ _ _=>cases n<;>cases e
  |ref _ _=>cases n<;>cases e
def il (P:Program) (f:FuncId) (pargs:List PV) (v:PV):Prop:=
 ∀(M0:Nat->Prop) (w:World) (cargs:Array Value),(∀b,M0 b->b<w.heap.size)->vU P w->oX M0 w cargs pargs ->
  (∀w',(callFunc f cargs).run P w'=.ok (.enter f cargs) w') /\
  Calls P f cargs w λe w'=>∃v',e=.returned v'/\RepP (λb=>b<w.heap.size) w' v' v/\Fr [] w w'
def il.pure{f}{pargs}{v}(h:il P f pargs v):af P f pargs v:=by
 intro M0 w i hM q y;obtain⟨A,z⟩:=h M0 w i hM q y;refine⟨A,z.mono λe w' u=>?_⟩;obtain⟨v',rfl,l,j⟩:=u;exact⟨v',rfl,RepP.less l hM,j⟩
def G1 (h:Heap):AEnd->Option PV
 |.ret a=>iI 8 h a
 |_=>none
def HV(N:eV P){H}{f}{fn}{c}{pargs}{v}{rs}{n}(M:P.funcs[f]?=some fn)(u:fn.body=some c)(D:fn.results.toList=rs)(J:fn.ntmps=n)(hok:cu H fn=true)
  (A:pargs.length<=n) (hw:wp P H c (j7 P rs 0 (λ_ r h=>G1 h r=some v)) (start n .no (pargs.map .p) [])):il P f pargs v:=by
 intro M0 w l hM L G;have E:eD (Rep M0 ⟨[],[],w⟩) l (pargs.map .p):=by
  refine⟨by simpa using G.1,λi c F=>?_⟩;simp only[cX,bg]at F;obtain⟨q,I,rfl⟩:=F;exact aR ((G.2 i q I).mono (λ_ _ _=>rfl) (λb u=>by
   rcases u with u|u
   .exact .inl u
   .simp[Own]at u))
 have:=kW N (h:=[]) (R:=λr h=>G1 h r=some v) M u D J hok (by simpa using A) hw M0 [] w l (pu hM L) E;refine⟨this.1,this.2.mono λe w' h=>?_⟩;obtain⟨r,h',m',C,y,K,j⟩:=h;have z:∀b,Own m' b->¬b<w.heap.size:=λb u=>by
  rcases y.sub b u with h|h
  .simp[Own]at h
  grind
 cases e with
 |returned v'=>
  cases r with
  |panic v=>cases C
  |ret a=>exact⟨v',rfl,VG (S:=⟨m',h',w'⟩) K z 8 v' a v j C,y.fr⟩
 |panicked O=>
  cases r with
  |panic v=>cases C
  |ret a=>exact j.elim
 |outgrown=>exact j.elim
def FB{f}{args}{pargs}{v}{h}(J:il P f pargs v)(K:ib h args=some pargs):aw P f args h (λr h'=>r=.ret (.p v)/\h'=h):=by
 intro M0 m w l u j;obtain⟨F,I⟩:=vD K;have A:oX M0 w l pargs:=by
  refine⟨by rw[j.1,F],λi c hi=>?_⟩;obtain⟨a,z,y⟩:=I i c hi;exact rO (S:=⟨m,h,w⟩) u (j.2 i a z) y
 obtain⟨z,y⟩:=J M0 w l (λb q=>(u.m0 b q).1) u.gl.1 A;refine⟨z,y.mono λe w' hh=>?_⟩;obtain⟨v',rfl,E,C⟩:=hh;obtain⟨G,D⟩:=rR u C;refine⟨.ret (.p v),_,m,⟨rfl,rfl⟩,D,G,?_⟩;exact RepP.less E λb q=>by
  rcases q with q|q
  .exact(u.m0 b q).1
  .exact u.lt b q
def zy{ops}{rest}{dst}{A}{f}{args}{pargs}{v}(e:il P f pargs v)(i:ib A.h args=some pargs)
  (h:@WO ⟨P,H,ops,rest,Q⟩ (A.put dst (.p v) A.h)):@WF ⟨P,H,ops,rest,Q,dst⟩ A f args:=cw (FB e i) h
def Af{ops}{rest}{o}{e i}{A}{f}{args}{pargs}{v}(j:il P f pargs v)(l:ib i args=some pargs)
  (h:@WD ⟨P,H,ops,rest,Q⟩ e (A.put o.dst (.p v) A.h)):@JW ⟨P,H,ops,rest,Q,o⟩ e i A (.call f args):=
 ⟨.p v,λ_ e=>FB j (IJ e l),h⟩
def j6{α:Type}(n)(h)(f)(e:∀x,gR (f x)=true):∀l:List α,aE (iI n h) (l.map λx=>.p (f x))=some (l.map f)
 |[]=>rfl
 |x::r=>by rw[bf,aE,j6 n h f e r,rQ,if_pos (e x)];rfl
def tM{α:Type}(n)(h)(f)(e:∀x,gR (f x)=true)(m):∀l:List α,aE (iI n h) ((l.map λx=>.p (f x))++m)=(aE (iI n h) m).map (l.map f++·)
 |[]=>by simp
 |x::r=>by
  rw[bf,ga,aE,tM n h f e m r,rQ,if_pos (e x)];cases aE (iI n h) m<;>rfl
def Gw{α:Type}(n)(h)(f)(e:∀x,gR (f x)=true)(l:List α):aE (iI n h) ((l.map f).map .p)=some (l.map f):=by
 rw[g8];exact j6 n h f e l
def Gx{α:Type}(n)(h)(f)(e:∀x,gR (f x)=true)(m)(l:List α):aE (iI n h) ((l.map f).map .p++m)=(aE (iI n h) m).map (l.map f++·):=by
 rw[g8];exact tM n h f e m l
attribute [go_sem] Gw Gx gR gR.flatL iI rQ G1 j6 tM
def Fz{S}(I:HOk P M0 S){id:Nat}{o}(F:S.h[id]?=some o):bB S.h.length o:=by
 have:=I.obj id o F
 cases o with
 |row sz xs=>
  intro x hx;rcases this with⟨_,rfl⟩|⟨b,T,C,E,D,A,u⟩
  .cases hx
  .obtain⟨i,hi⟩:=fN hx;obtain⟨cs,e,J,z⟩:=u i x hi;have one:∀c,cs=[c]->gn S.h.length c:=λc y=>by
    subst y;exact gq (z 0 c rfl).2
   cases x with
   |p q=>exact trivial
   |agg l=>
    cases e;intro c y;obtain⟨j,G⟩:=fN y
    exact gq (z j c G).2
   |tuple l=>cases e
   |undef=>cases e
   |ptr _ _ _ _=>cases e;exact one _ rfl
   |slice _ _ _ _=>cases e;exact one _ rfl
   |ref _ _=>cases e;exact one _ rfl
   |func _ _ _=>cases e;exact one _ rfl
 |loop n tmps ps assign body K pend=>
  obtain⟨b,r,E,D,A,u,e⟩:=this
  exact λt=>E' (u t)
 |strIter s p=>exact trivial
 |mp es=>exact trivial
 |memo f=>exact trivial
 |dblock=>exact trivial
 |bld T L x=>
  obtain⟨b,p,v,E,D,A,u,e,J⟩:=this
  exact iO e
 |dead=>exact trivial
def Aj(Z:eV P){H}{f}{fn}{c}{args}{h}{v}{rs}{n}(Y:P.funcs[f]?=some fn)(u:fn.body=some c)(N:fn.results.toList=rs)(X:fn.ntmps=n)(hok:cu H fn=true)
  (J:args.length<=n) (hw:wp P H c (j7 P rs h.length (λ_ r h'=>∃t,h'=h++t/\sg (List.replicate h.length .dead++t) r=some v)) (start n .no args h)):aw P f args h (λr h'=>r=.ret (.p v)/\h'=h):=by
 intro M0 m w F V E;have:=kW Z (R:=λr h'=>∃t,h'=h++t/\sg (List.replicate h.length .dead++t) r=some v) Y u N X hok J hw M0 m w F V E;refine⟨this.1,this.2.mono λe w' hh=>?_⟩;obtain⟨r,h',m',⟨t,rfl,M⟩,C,U,j⟩:=hh
 cases e with
 |returned v'=>
  cases r with
  |panic v=>cases M
  |ret a=>
   have D:∀(id:Nat) (o:AObj),id<h.length->(h++t)[id]?=some o->bB h.length o:=λid o y L=>by
    rw[bJ y]at L;exact Fz (S:=⟨m,h,w⟩) V L
   have A:=Ed (S:=⟨m',h++t,w'⟩) U (l:=h.length) D;have K:Mem.cut ⟨m',h++t,w'⟩ h.length=⟨m'.take h.length,h,w'⟩:=by simp[Mem.cut]
   rw[K]at A;have e1:aQ (λi=>!decide (h.length<=i)) (h++t)=List.replicate h.length .dead++t:=by
    apply pE;intro i;rw[nG];by_cases hi:i<h.length
    .grind
    .grind
   have I:=nK (S:=⟨m',h++t,w'⟩) U (λi=>decide (h.length<=i)) (v:=v') (a:=a) (q:=v) j (by rw[e1];exact M);refine⟨.ret (.p v),h,m'.take h.length,⟨rfl,rfl⟩,⟨C.fr,λb u=>C.sub b (rb u),λid o y L=>?_⟩,A,?_⟩
   .have z:id<h.length:=y;obtain⟨T,h1,h2⟩:=C.obj id o y L;grind
   .exact RepP.less I λb u=>by
     rcases u with u|u
     .exact .inl u
     .obtain⟨i,hi⟩:=fN u;rw[om]at hi;split at hi
      .rename_i O;refine .inr (aB (i:=i) ?_);grind[cT]
      .cases hi
 |panicked ch=>
  cases r with
  |panic v=>cases M
  |ret a=>exact j.elim
 |outgrown=>exact j.elim
def HI(n)(t)(j):(List.replicate n AObj.dead++t)[n+j]?=t[j]?:=by grind
def Pi(n)(t):(List.replicate n AObj.dead++t)[n]?=t[0]?:=HI n t 0
attribute [go_sem] HI Pi
section
variable {α τ:Type}
def TC{x}{A}(live)(l)(F:l.length<1000000000)(Inv:List α->List α->τ->Prop)(M)(j)(v)(hi:Inv [] l v)
  (hh:A.h=j [] v) (E:∀p,p∈bP A.tmps live (M [] v)->A.tmps p.1=p.2)
  (u:∀t,Inv l [] t->@W ⟨P,H,x,fh (iA P (qE l Inv) (λs=>gw A live (jB M s) (jB j s)) (λs=>s.2.1.length) (l,[],t)) Q⟩
   {n:=A.n,bs:=A.bs,rc:=A.rc,tmps:=cM (bP A.tmps live (M l t)),h:=j l t,df:=A.df })
  (i:∀d_ y r t,l=d_++y::r->Inv d_ (y::r) t->l[d_.length]?=some y->((d_.length:Int)<(l.length:Int))->IntKind.i64.wrap ((d_.length:Int)+1)=(((d_++[y]).length:Nat):Int) ->
   @W ⟨P,H,x,fh (iA P (qE l Inv) (λs=>gw A live (jB M s) (jB j s)) (λs=>s.2.1.length) (d_,y::r,t)) Q⟩
    {n:=A.n,bs:=A.bs,rc:=A.rc,tmps:=cM (bP A.tmps live (M d_ t)),h:=j d_ t,df:=A.df }):@W ⟨P,H,.loop x,Q⟩ A:=by
 refine dY live (qE l Inv) (λs=>s.2.1.length) (jB M) (jB j) ([],l,v) ⟨rfl,hi⟩ hh E ?_
 rintro⟨d_,rest,t⟩ ⟨q,z⟩
 dsimp only at q z
 cases rest with
 |nil=>
  rw[bI]at q;subst q
  exact u t z
 |cons y r=>
  have C:d_.length<l.length:=by rw[q];simp
  have D:l[d_.length]?=some y:=by rw[q];simp
  refine i d_ y r t q z D (by omega) ?_;have e:((d_.length:Int)+1)=(((d_++[y]).length:Nat):Int):=by simp
  rw[e];exact IntWalk.i64_in _ ⟨by omega,by simp<;>omega⟩
def TE{l}{Inv:List α->List α->τ->Prop}{M}{j}{live}{d_ r}{y}{t}{A B}
  (D:l=d_++y::r) (i) (e:Inv (d_++[y]) r i) (hh:B.h=j (d_++[y]) i) (C:∀p,p∈bP A.tmps live (M (d_++[y]) i)->B.tmps p.1=p.2)
  (u:B.n=A.n:=by rfl) (z:B.bs=A.bs:=by rfl) (q:B.rc=A.rc:=by rfl) (v:B.df=A.df:=by rfl) :
  @WQ ⟨fh (iA P (qE l Inv) (λs=>gw A live (jB M s) (jB j s)) (λs=>s.2.1.length) (d_,y::r,t)) Q⟩ .normal B:=
 ⟨(d_++[y],r,i),⟨by simp[D],e⟩,by simp,wl u z q v hh C⟩
end
attribute [go_sem] ut Px M5
variable {P:Program}
inductive PL:PV->PV->Prop
 |refl (v:PV):PL v v
 |nil (sz:Nat):PL .nilslice (.slice sz [] false)
 |agg {a b:List PV} (hl:a.length=b.length) (hc:∀c,c∈b->c.isCell=true) (h:∀(i:Nat) (q c:PV),a[i]?=some q->b[i]?=some c->PL q c):PL (.agg a) (.agg b)
 |slice {sz:Nat} {xs ys:List PV} {full:Bool} (hl:xs.length=ys.length) (hc:∀y,y∈ys->y.cells.length=sz/\∀c,c∈y.cells->c.isCell=true) (h:∀(i:Nat) (q c:PV),xs[i]?=some q->ys[i]?=some c->PL q c) :
   PL (.slice sz xs full) (.slice sz ys false)
 |tuple {a b:List PV} (hl:a.length=b.length) (h:∀(i:Nat) (q c:PV),a[i]?=some q->b[i]?=some c->PL q c):PL (.tuple a) (.tuple b)
def PL.cells{q v}(h:PL q v):q.cells.length=v.cells.length/\∀(j:Nat) (c d),q.cells[j]?=some c->v.cells[j]?=some d->PL c d:=by
 cases h with
 |refl v=>exact⟨rfl,λj c d i e=>by rw[i]at e;cases e;exact .refl _⟩
 |nil sz=>exact⟨rfl,λj c d i e=>by cases j<;>cases i;cases e;exact .nil sz⟩
 |agg l u h=>exact⟨l,h⟩
 |slice l u h=>exact⟨rfl,λj c d i e=>by cases j<;>cases i;cases e;exact .slice l u h⟩
 |tuple l h=>exact⟨rfl,λj c d i e=>by cases j<;>cases i;cases e;exact .tuple l h⟩
def PL.single{q y}(h:PL q y)(e:∀l,q≠.agg l):y.cells=[y]:=by
 cases h with
 |refl v=>simp[PV.cells]
 |nil _=>rfl
 |agg _ _ _=>grind
 |slice _ _ _=>rfl
 |tuple _ _=>rfl
def PL.rep{M}{w}{q v}(h:PL q v):∀{u},RepP M w u q->RepP M w u v:=by
 induction h with
 |refl v=>simp
 |nil sz=>intro u z;cases z;exact .empty (by simp)
 |@agg a b O R h G=>
  intro u z
  cases z with
  |agg hn hs z=>
   refine .agg (by omega) R λi c hi=>?_;have e:i<a.length:=by have:=(aC.1 hi).1;omega
   exact G i _ c (bL e) hi (z i _ (bL e))
 |@tuple a b O h G=>
  intro u z
  cases z with
  |tuple hn z=>
   refine .tuple (by omega) λi c hi=>?_;have e:i<a.length:=by have:=(aC.1 hi).1;omega
   exact G i _ c (bL e) hi (z i _ (bL e))
 |@slice sz xs ys full O R h G=>
  intro u z
  cases z with
  |empty hf=>
   have:ys=[]:=pJ.1 O.symm;subst this
   exact .empty (by simp)
  |slice f a0 L Z V hm A D=>
   rw[O]at hm A;refine .slice f (by omega) L (by simp) R hm A λi j y c I K=>?_;have e:i<xs.length:=by have:=(aC.1 I).1;omega
   have hx:xs[i]?=some xs[i]:=bL e;have J:=h i _ y hx I;obtain⟨g1,g2⟩:=J.cells;have C:=V _ (G9 e);have X:=R y (aB I)
   cases E:xs[i] with
   |agg a=>
    rw[E]at J C hx;obtain⟨b,rfl⟩:∃b,y=.agg b:=by
     generalize N:PV.agg a=q at J
     cases J with
     |refl v=>grind
     |agg _ _ _=>simp
     |nil _=>cases N
     |slice _ _ _=>cases N
     |tuple _ _=>cases N
    have hv:RepP M w (.agg (Array.ofFn λk:Fin sz=>f (i*sz+k.val))) (.agg a):=by
     refine .agg (by have:=C.1;simp[PV.cells]at this;simp[this]) C.2 λk c hk=>?_;have F:k<sz:=by have:=(aC.1 hk).1;have:=C.1;simp[PV.cells]at this;omega
     have:=D i k (.agg a) c hx hk;simpa[F]using this
    have U:=G i _ _ hx I hv
    cases U with
    |agg hn hs Y=>
     have F:j<sz:=by have:=(aC.1 K).1;have:=X.1;omega
     have:=Y j c K
     simp_all
   |_=>
    have S:y.cells=[y]:=J.single λl=>by rw[E];simp
    have T:xs[i].cells=[xs[i]]:=by rw[E];rfl
    grind
def af.lessD{f}{args}{q v}(z:af P f args q)(h:PL q v):af P f args v:=by
 intro M0 w i hM u A;obtain⟨D,C⟩:=z M0 w i hM u A;refine⟨D,C.mono λe w' y=>?_⟩;obtain⟨v',rfl,l,j⟩:=y;exact⟨v',rfl,h.rep l,j⟩
def vT:List PV->List PV->Prop
 |[],[]=>True
 |q::a,c::b=>PL q c/\vT a b
 |_,_=>False
def vT.get:∀{a b},vT a b->a.length=b.length/\∀(i:Nat) (q c),a[i]?=some q->b[i]?=some c->PL q c
 |[],[],_=>⟨rfl,by simp⟩
 |q::a,c::b,h=>by
  obtain⟨l,j⟩:=vT.get h.2;refine⟨by simp[l],λi x y hx e=>?_⟩
  cases i with
  |zero=>cases hx;cases e;exact h.1
  |succ i=>grind
 |[],_::_,h=>h.elim
 |_::_,[],h=>h.elim
def gO (l:List PV):Bool:=l.all PV.isCell
def Yi (sz:Nat) (l:List PV):Bool:=l.all λy=>y.cells.length==sz&&y.cells.all PV.isCell
def PL.aggL{a b}(i:gO b=true)(h:vT a b):PL (.agg a) (.agg b):=.agg h.get.1 (λc e=>kl.1 i c e) h.get.2
def PL.sliceL{sz}{xs ys}{full}(e:Yi sz ys=true)(h:vT xs ys):PL (.slice sz xs full) (.slice sz ys false):=
 .slice h.get.1 (λy i=>by
  have:=kl.1 e y i;grind) h.get.2
def PL.tupleL{a b}(h:vT a b):PL (.tuple a) (.tuple b):=.tuple h.get.1 h.get.2
end Abs
end Go.Proofs.YtgafommgcfhkkaaGreatDoor
