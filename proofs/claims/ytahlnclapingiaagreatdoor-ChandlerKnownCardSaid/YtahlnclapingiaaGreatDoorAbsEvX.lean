/-
  THE REWRITING SET OF THE WALKS, as one set. No conditions.
  WHAT CAN BE READ AS DATA STANDS FOR AN IMMUTABLE VALUE; a law's statement out of a pure co
  LAWS: a result may be said with less: a list that is full is a list; also in the cells of 
-/
import Derived.Test.YtahlnclapingiaaGreatDoorAbsHead
import Derived.ProofKit
import Derived.OpenShut
import Derived.Carry
set_option linter.unusedSimpArgs false
set_option linter.unusedVariables false
namespace Go.Proofs.YtahlnclapingiaaGreatDoor
namespace Abs
attribute [go_sem ↓] zLg zB4 zG3 zG4 zG0 zLh zG2 zEO zER zEU zG7 zEY zB8 zG8 zE1 zB9 zsn zyb zvR zuC zqd zsr zuF zq6 List.getElem?_toArray List.getElem?_cons_zero List.getElem?_cons_succ
attribute [go_sem] false_and Option.getD_none Option.getD_some Int.le_refl Int.toNat_zero Int.lt_irrefl zx7 zyd zoU zq5 zsp zmU zlk zj9 zj8 exists_eq_left' true_or or_true false_or or_false List.getElem?_nil Int.cast_ofNat_Int decide_true decide_false wl0 wl1 wl2 wl3 wl4 wl5 wl6 wl7 wl8 wl9 zMI zMH zMG AV.plain zpr List.all_cons List.all_nil zrl zmq exists_eq' exists_eq List.append_cancel_left_eq List.length_map List.getElem?_map Int.toNat_natCast Int.natCast_nonneg Option.map_some Option.map_none zoT zd2 znk zlf zgZ zg2 zli zqa zsB znS zfy zfR zj5 zlh zmd zjq aEq zck eqK frz zi2 zaD zgO zbe zcp ztL zlX zhJ zEK zz4 zvF zz3 zvD zx0 zz5 zvE zBV zx3 zup zvI zx4 zBU zx2 zuo zvG zBW zx5 zuq ztg zsc zsd zpo zsb zvn ztU List.forall_mem_append List.forall_mem_map List.forall_mem_cons List.not_mem_nil false_imp_iff implies_true not_false_eq_true ne_eq H0 zCf zE8 zE9 zCn OR.skip.injEq zE6 zCa zCb zdP zen zoH zlu zzt zxx zjl zhT znz zxd zwm zkh zhq zlJ zG6 zvQ zvP zzj zpz zzi zlR ztt zxr zzk zxs zAf zqb zso zuD zq4 zqc zr5 zqq zfP zp9 zsA znl zLi zjy zG5 zEV zEW zB6 zyc zsq zuE zzd zze zyJ zB3 zB2 zAd zEa zzH zvo zzI zxK zzJ zvN zvM zvL zjv AEnd.ret.injEq AV.p.injEq PV.bool.injEq PV.int.injEq PV.agg.injEq PV.tuple.injEq PV.str.injEq List.cons.injEq zEZ zFg zG9 zyg zvV zye zvT zvS zvU zuG zuI zyf zuH zjA zuA zjp zqw ze3 zlQ zgc zhE zvd zth zFd zE7 zFb zE5 zpD zFc zAh zAg zFa zFe zCg zAi zFf zE2 za1 ziM zcx beq_true beq_false Bool.true_and Bool.and_true Bool.false_and Bool.and_false Bool.not_true Bool.not_false Bool.or_false Bool.or_true Bool.true_or Bool.false_or Option.bind_some Option.bind_none Option.isSome_some aOp zaz Hint.isMut AAct.eval AAct.put zsK zaK zx8 Bool.false_eq_true AV.cells PV.cells List.map_cons List.map_nil List.nil_append List.cons_append zhn ziQ zgD zlg zhY zdK zfV AV.part AV.withCells zej zky Option.some.injEq List.length_cons List.length_nil Nat.zero_add zdR zj6 List.size_toArray zKS zKR zq2 znG zkY zo5 aUn zin zkX zdd zim zfX List.set_cons_zero List.set_cons_succ zjf zdx zfm sub List.take_succ_cons List.take_zero List.drop_succ_cons List.drop_zero and_self and_true true_and
end Abs
end Go.Proofs.YtahlnclapingiaaGreatDoor
namespace Go.Proofs.YtahlnclapingiaaGreatDoor
namespace Abs
open Go.ChangeShapes Go.WideShapes Go.ChangeAt Go.RowKit
def zmf (R:TypeId→List PV→Prop):List Field→List PV→Prop
 |[],cs=>cs=[]
 |f::fs,cs=>∃ a b,cs=a++b∧R f.type a∧zmf R fs b
def zyi (R:List PV→Prop):Nat→List PV→Prop
 |0,cs=>cs=[]
 |n+1,cs=>∃ a b,cs=a++b∧R a∧zyi R n b
def ze9 (agg:Bool) (cs:List PV):PV :=
 match agg,cs with
 |false,[c]=>c
 |_,cs=>.agg cs
def zc6 (P:Program):Nat→TypeId→List PV→Prop
 |0,_,_=>False
 |n+1,t,cs =>
  match P.underlying t with
  |some .bool=>∃ b,cs=[.bool b]
  |some (.int k)=>∃ m,cs=[.int k m]∧(Lit.int k m).wf=true
  |some .string=>∃ s:ByteArray,cs=[.str s]∧s.size≤maxLen
  |some (.slice e)=>∃ xs,cs=[.slice (P.cellsOf e) xs false]∧xs.length≤maxLen∧∀ x,x∈xs→∃ es,x=ze9 (zbc P e==some true) es∧zc6 P n e es
  |some (.struct fs)=>zmf (zc6 P n) fs.toList cs
  |some (.array m e)=>zyi (zc6 P n e) m cs
  |_=>False
def zwV (P:Program) (n:Nat) (t:TypeId) (v:PV):Prop:=∃ cs,v=ze9 (zbc P t==some true) cs∧zc6 P n t cs
def zsI (P:Program) (n:Nat):List TypeId→List PV→Prop
 |[],vs=>vs=[]
 |t::ts,vs=>∃ v r,vs=v::r∧zwV P n t v∧zsI P n ts r
def zmo (P:Program):List Field→Nat→Nat→Bool
 |[],o,n=>o==n
 |f::fs,o,n=>f.offset==o&&zmo P fs (o+P.cellsOf f.type) n
def okT (P:Program):Nat→TypeId→Bool
 |0,_=>false
 |n+1,t =>
  match P.underlying t with
  |some .bool=>P.cellsOf t==1
  |some (.int _)=>P.cellsOf t==1
  |some .string=>P.cellsOf t==1
  |some (.slice e)=>P.cellsOf t==1&&P.cellsOf e != 0&&okT P n e
  |some (.struct fs)=>zmo P fs.toList 0 (P.cellsOf t)&&fs.toList.all fun f=>okT P n f.type
  |some (.array m e)=>m*P.cellsOf e==P.cellsOf t&&okT P n e
  |_=>false
def NoM:Nat→Prop:=fun _=>False
def zf0 (w:World) (cs:List Value) (ps:List PV):Prop :=
 cs.length=ps.length∧∀ (i:Nat) (c:PV),ps[i]?=some c→c.isCell=true∧RepP NoM w (cs.getD i undef) c
theorem zf0.nil {w:World}:zf0 w [] []:=⟨rfl,by simp⟩
theorem zf0.append {w:World} {a b:List Value} {p q:List PV} (h:zf0 w a p) (k:zf0 w b q):zf0 w (a++b) (p++q):=by
 refine ⟨by simp [h.1,k.1],fun i c hi=>?_⟩
 rcases Nat.lt_or_ge i p.length with hl | hl
 ·rw [List.getElem?_append_left hl] at hi
  have:=h.2 i c hi
  rw [List.getD_eq_getElem?_getD,List.getElem?_append_left (by rw [h.1];exact hl),←List.getD_eq_getElem?_getD]
  exact this
 ·rw [List.getElem?_append_right hl] at hi
  have:=k.2 _ c hi
  rw [List.getD_eq_getElem?_getD,List.getElem?_append_right (by rw [h.1];exact hl),h.1,←List.getD_eq_getElem?_getD]
  exact this
theorem zf0.one {w:World} {v:Value} {c:PV} (hc:c.isCell=true) (h:RepP NoM w v c):zf0 w [v] [c]:=by
 refine ⟨rfl,fun i c' hi=>?_⟩
 cases i with
 |zero=>cases hi;exact ⟨hc,h⟩
 |succ i=>simp at hi
theorem zn2 {α:Type} {p:Nat→α→Prop}:∀ (n:Nat),(∀ i,i<n→∃ x,p i x)→∃ l:List α,l.length=n∧∀ i x,l[i]?=some x→p i x
 |0,_=>⟨[],rfl,by simp⟩
 |n+1,h=>by
  obtain ⟨l,h1,h2⟩:=zn2 n fun i hi=>h i (by omega)
  obtain ⟨x,hx⟩:=h n (by omega)
  refine ⟨l++[x],by simp [h1],fun i y hi=>?_⟩
  rcases Nat.lt_or_ge i n with hl | hl
  ·rw [List.getElem?_append_left (by omega)] at hi
   exact h2 i y hi
  ·rw [List.getElem?_append_right (by omega)] at hi
   cases he:i-l.length with
   |succ k=>rw [he] at hi;simp at hi
   |zero =>
    rw [he] at hi
    have:i=n:=by omega
    subst this
    simp at hi
    subst hi
    exact hx
theorem zmk {a:Bool} {cs:List PV} {c:PV} (h:a=true∨(cs=[c]∧c.isCell=true)):(ze9 a cs).cells=cs:=by
 rcases h with rfl | ⟨rfl,hc⟩
 ·cases cs with
  |nil=>rfl
  |cons x l=>cases l<;>rfl
 ·cases a
  ·show PV.cells c=[c]
   cases c<;>first | rfl | cases hc
  ·rfl
section
variable {H:Type} {enc:TypeId×Value→H} {P:Program} {w:World} {sp:Nat→Bool} {held:Bool}
def zNy:TypeDesc→Bool
 |.struct _=>true
 |.array _ _=>true
 |_=>false
theorem znj {t:TypeId} {d:TypeDesc} (h:P.underlying t=some d):(zbc P t==some true)=zNy d:=by
 unfold zbc
 rw [h]
 cases d<;>rfl
theorem zn9 {fuel n:Nat} (ih:∀ (fuel:Nat) (t:TypeId) (cs:List Value) (x:DataW H×List MemPlace),okT P n t=true→DataW.trod enc P w 0 sp held fuel t cs=some x→∃ ps,zc6 P n t ps∧ps.length=P.cellsOf t∧zf0 w cs ps) :
  ∀ (fs:List Field) (o total:Nat) (cs:List Value),zmo P fs o total=true→cs.length=total→(∀ f,f∈fs→okT P n f.type=true) →
   (∀ f,f∈fs→∃ x,DataW.trod enc P w 0 sp held fuel f.type ((cs.drop f.offset).take (P.cellsOf f.type))=some x)→o≤total∧∃ ps,zmf (zc6 P n) fs ps∧zf0 w (cs.drop o) ps
 |[],o,total,cs,ht,hl,_,_=>by
  have:o=total:=by simpa [zmo] using ht
  subst this
  refine ⟨Nat.le_refl _,[],rfl,?_⟩
  rw [List.drop_of_length_le (by omega)]
  exact .nil
 |f::fs,o,total,cs,ht,hl,hok,hr=>by
  simp only [zmo,Bool.and_eq_true,beq_iff_eq] at ht
  obtain ⟨ho,ht⟩:=ht
  obtain ⟨hle,qs,hq,hrq⟩:=zn9 ih fs _ total cs ht hl (fun g hg=>hok g (by simp [hg])) fun g hg=>hr g (by simp [hg])
  obtain ⟨x,hx⟩:=hr f (by simp)
  obtain ⟨ps,hp,hlen,hrp⟩:=ih fuel f.type _ x (hok f (by simp)) hx
  refine ⟨by omega,ps++qs,⟨ps,qs,rfl,hp,hq⟩,?_⟩
  have e:cs.drop o=(cs.drop f.offset).take (P.cellsOf f.type)++cs.drop (o+P.cellsOf f.type):=by
   rw [ho,←List.drop_drop,List.take_append_drop]
  rw [e]
  exact hrp.append hrq
theorem zuv {n m:Nat} {e:TypeId}:∀ (k o:Nat) (cs:List Value),o+k=m→cs.length=m*P.cellsOf e →
   (∀ i,i<m→∃ ps,zc6 P n e ps∧ps.length=P.cellsOf e∧zf0 w ((cs.drop (i*P.cellsOf e)).take (P.cellsOf e)) ps)→∃ ps,zyi (zc6 P n e) k ps∧ps.length=k*P.cellsOf e∧zf0 w (cs.drop (o*P.cellsOf e)) ps
 |0,o,cs,hk,hl,_=>by
  refine ⟨[],rfl,by simp,?_⟩
  have:o=m:=by omega
  rw [this,List.drop_of_length_le (by omega)]
  exact .nil
 |k+1,o,cs,hk,hl,hr=>by
  obtain ⟨qs,hq,hlq,hrq⟩:=zuv k (o+1) cs (by omega) hl hr
  obtain ⟨ps,hp,hlp,hrp⟩:=hr o (by omega)
  refine ⟨ps++qs,⟨ps,qs,rfl,hp,hq⟩,by simp [hlp,hlq,Nat.add_mul];omega,?_⟩
  have e:cs.drop (o*P.cellsOf e)=(cs.drop (o*P.cellsOf e)).take (P.cellsOf e)++cs.drop ((o+1)*P.cellsOf e):=by
   rw [Nat.add_mul,Nat.one_mul,←List.drop_drop,List.take_append_drop]
  rw [e]
  exact hrp.append hrq
theorem zAI:∀ (n fuel:Nat) (t:TypeId) (cs:List Value) (x:DataW H×List MemPlace),okT P n t=true→DataW.trod enc P w 0 sp held fuel t cs=some x→∃ ps,zc6 P n t ps∧ps.length=P.cellsOf t∧zf0 w cs ps:=by
 intro n
 induction n with
 |zero=>intro fuel t cs x h;cases h
 |succ n ih =>
  intro fuel t cs x hok h
  unfold okT at hok
  unfold zc6
  cases hu:P.underlying t with
  |none=>rw [hu] at hok;cases hok
  |some d =>
   rw [hu] at hok
   cases d with
   |bool =>
    obtain ⟨b,rfl,_⟩:=DataW.trod_bool hu h
    exact ⟨[.bool b],⟨b,rfl⟩,by simp only [beq_iff_eq] at hok;exact hok.symm,.one rfl (.bool b)⟩
   |int k =>
    obtain ⟨m,rfl,_,hwf⟩:=DataW.trod_int hu h
    exact ⟨[.int k m],⟨m,rfl,hwf⟩,by simp only [beq_iff_eq] at hok;exact hok.symm,.one rfl (.int k m)⟩
   |string =>
    obtain ⟨s,rfl,_,hs⟩:=DataW.trod_string hu h
    exact ⟨[.str s],⟨s,rfl,hs⟩,by simp only [beq_iff_eq] at hok;exact hok.symm,.one rfl (.str s)⟩
   |slice e =>
    simp only [Bool.and_eq_true,beq_iff_eq,bne_iff_ne] at hok
    obtain ⟨⟨h1,hne⟩,hoe⟩:=hok
    rcases DataW.trod_slice hu h with ⟨rfl,_⟩ | ⟨a,len,cap,elems,rest,n',rfl,rfl,_,_,hlc,hcap,hel,hall,_,_⟩
    ·exact ⟨[.slice (P.cellsOf e) [] false],⟨[],rfl,by simp,by simp⟩,by simp [h1],.one rfl (.empty (by simp))⟩
    ·by_cases hz:len=0
     ·subst hz
      exact ⟨[.slice (P.cellsOf e) [] false],⟨[],rfl,by simp,by simp⟩,by simp [h1],.one rfl (.empty (by simp))⟩
     ·have key:∀ i,i<len→∃ es:List PV×List Value,w.cells? 0 (a.add (i*P.cellsOf e)) (P.cellsOf e)=some es.2∧zc6 P n e es.1∧es.1.length=P.cellsOf e∧zf0 w es.2 es.1:=by
       intro i hi
       have h2:=hall i hi
       have h3:i<elems.length:=by omega
       rw [List.getElem?_eq_getElem h3] at h2
       cases hc:w.cells? 0 (a.add (i*P.cellsOf e)) (P.cellsOf e) with
       |none=>rw [hc] at h2;cases h2
       |some cs' =>
        rw [hc] at h2
        obtain ⟨ps,h4,h5,h6⟩:=ih n' e cs' _ hoe h2
        exact ⟨(ps,cs'),rfl,h4,h5,h6⟩
      obtain ⟨l,hl,hlp⟩:=zn2 len key
      have hspot:a.spot=none:=by
       have h0:l[0]?=some l[0]:=List.getElem?_eq_getElem (by omega)
       obtain ⟨h2,_,h4,h5⟩:=hlp 0 _ h0
       obtain ⟨_,h6,h7⟩:=World.cells?_some h2
       have h8:=h7 0 (by omega)
       have h9:(l[0].2)[0]?=some (l[0].2[0]'(by omega)):=List.getElem?_eq_getElem (by omega)
       rw [h9] at h8
       have:=World.cell?_spot h8
       simpa [Addr.add] using this
      obtain ⟨blk,off,spot⟩:=a
      subst hspot
      have hadd:∀ i j,(Addr.add ⟨blk,off,none⟩ i).add j=⟨blk,off+(i+j),none⟩:=by
       intro i j
       unfold Addr.add
       by_cases hi:i=0<;>by_cases hj:j=0<;>simp [hi,hj]
       omega
      refine ⟨[.slice (P.cellsOf e) (l.map fun q=>ze9 (zbc P e==some true) q.1) false],⟨_,rfl,by simp [hl];omega,fun x hx=>?_⟩,by simp [h1],.one rfl ?_⟩
      ·simp only [List.mem_map] at hx
       obtain ⟨q,hq,rfl⟩:=hx
       obtain ⟨i,hi⟩:=List.getElem?_of_mem hq
       exact ⟨q.1,rfl,(hlp i q hi).2.1⟩
      ·have hcells:∀ (i:Nat) (q:List PV×List Value),l[i]?=some q→(ze9 (zbc P e==some true) q.1).cells=q.1:=by
        intro i q hq
        have hp:=(hlp i q hq).2.1
        have hag:(zbc P e==some true)=true∨∃ c,q.1=[c]∧c.isCell=true:=by
         cases n with
         |zero=>cases hp
         |succ n =>
          unfold zc6 at hp
          cases hue:P.underlying e with
          |none=>rw [hue] at hp;cases hp
          |some d =>
           rw [hue] at hp
           rw [znj hue]
           cases d<;>first
            |exact .inl rfl
            |exact hp.elim
            |(obtain ⟨_,hp,_⟩:=hp;exact .inr ⟨_,hp,rfl⟩)
            |(obtain ⟨_,hp⟩:=hp;exact .inr ⟨_,hp,rfl⟩)
        rcases hag with h2 | ⟨c,h2,h3⟩
        ·exact zmk (c:=.bool true) (.inl h2)
        ·exact zmk (.inr ⟨h2,h3⟩)
       have hget:∀ i,i<len→∃ q,l[i]?=some q:=fun i hi=>⟨l[i]'(by omega),List.getElem?_eq_getElem _⟩
       have hdiv:∀ k,k<(l.map fun q=>ze9 (zbc P e==some true) q.1).length*P.cellsOf e→k / P.cellsOf e<len∧k%P.cellsOf e<P.cellsOf e:=by
        intro k hk
        have hpos:0<P.cellsOf e:=Nat.pos_of_ne_zero hne
        simp only [List.length_map,hl] at hk
        exact ⟨(Nat.div_lt_iff_lt_mul hpos).2 hk,Nat.mod_lt _ hpos⟩
       refine .slice (fun k=>(l.getD (k / P.cellsOf e) default).2.getD (k%P.cellsOf e) undef) (by simp [hl]) hlc (by simp) (fun x hx=>?_) (fun _ hf=>hf) (fun k hk=>?_) fun i j x c hx hc=>?_
       ·simp only [List.mem_map] at hx
        obtain ⟨q,hq,rfl⟩:=hx
        obtain ⟨i,hi⟩:=List.getElem?_of_mem hq
        rw [hcells i q hi]
        refine ⟨(hlp i q hi).2.2.1,fun c hc=>?_⟩
        obtain ⟨j,hj⟩:=List.getElem?_of_mem hc
        exact ((hlp i q hi).2.2.2.2 j c hj).1
       ·obtain ⟨hk1,hk2⟩:=hdiv k hk
        obtain ⟨q,hq⟩:=hget _ hk1
        obtain ⟨h2,_,h4,h5⟩:=hlp _ q hq
        obtain ⟨_,h6,h7⟩:=World.cells?_some h2
        have h8:=h7 _ hk2
        rw [hadd,Nat.div_add_mod'] at h8
        rw [h8]
        have h9:l.getD (k / P.cellsOf e) default=q:=by simp [hq]
        rw [h9,List.getD_eq_getElem?_getD]
        rw [List.getElem?_eq_getElem (by omega)]
        rfl
       ·simp only [List.getElem?_map,Option.map_eq_some_iff] at hx
        obtain ⟨q,hq,rfl⟩:=hx
        rw [hcells i q hq] at hc
        have hj:j<P.cellsOf e:=by
         have:=(List.getElem?_eq_some_iff.1 hc).1
         rw [(hlp i q hq).2.2.1] at this
         exact this
        have hpos:0<P.cellsOf e:=by omega
        have e1:(i*P.cellsOf e+j) / P.cellsOf e=i:=by
         rw [Nat.mul_comm,Nat.mul_add_div hpos,Nat.div_eq_of_lt hj];rfl
        have e2:(i*P.cellsOf e+j)%P.cellsOf e=j:=by
         rw [Nat.mul_comm,Nat.mul_add_mod,Nat.mod_eq_of_lt hj]
        show RepP NoM w ((l.getD ((i*P.cellsOf e+j) / P.cellsOf e) default).2.getD ((i*P.cellsOf e+j)%P.cellsOf e) undef) c
        rw [e1,e2]
        have h9:l.getD i default=q:=by simp [hq]
        rw [h9]
        exact ((hlp i q hq).2.2.2.2 j c hc).2
   |struct fs =>
    simp only [Bool.and_eq_true,List.all_eq_true] at hok
    obtain ⟨xs,n',rfl,_,hl,hlen,hf⟩:=DataW.trod_struct hu h
    obtain ⟨_,ps,hp,hr⟩:=zn9 (fuel:=n') ih fs.toList 0 (P.cellsOf t) cs hok.1 hl hok.2 fun f hf'=>by
     obtain ⟨i,hi⟩:=List.getElem?_of_mem hf'
     have hi':fs[i]?=some f:=by simpa using hi
     have h2:=hf i f hi'
     have h3:i<xs.length:=by
      have:=(Array.getElem?_eq_some_iff.1 hi').1
      omega
     rw [List.getElem?_eq_getElem h3] at h2
     exact ⟨_,h2⟩
    rw [List.drop_zero] at hr
    exact ⟨ps,hp,by rw [←hr.1,hl],hr⟩
   |array m e =>
    simp only [Bool.and_eq_true,beq_iff_eq] at hok
    obtain ⟨xs,n',rfl,_,hl,hlen,hf⟩:=DataW.trod_array hu h
    obtain ⟨ps,hp,hlp,hr⟩:=zuv (w:=w) (P:=P) (n:=n) (m:=m) (e:=e) m 0 cs (by omega) (by omega) fun i hi=>by
     have h2:=hf i hi
     have h3:i<xs.length:=by omega
     rw [List.getElem?_eq_getElem h3] at h2
     exact ih n' e _ _ hok.2 h2
    rw [Nat.zero_mul,List.drop_zero] at hr
    exact ⟨ps,hp,by omega,hr⟩
   |_=>cases hok
theorem zAu {n base:Nat} {t:TypeId} {v:Value} {d:DataW H} {ps:List MemPlace} (hok:okT P n t=true) (hv:Value.okWide P w .any base t v) (h:DataW.Trod enc P w 0 sp held t v d ps):∃ q,zwV P n t q∧RepP NoM w v q:=by
 obtain ⟨fuel,h⟩:=h
 obtain ⟨qs,h1,h2,h3⟩:=zAI n fuel t _ _ hok h
 refine ⟨_,⟨qs,rfl,h1⟩,?_⟩
 cases n with
 |zero=>cases hok
 |succ n =>
  unfold zc6 at h1
  unfold Value.okWide at hv
  cases hu:P.underlying t with
  |none=>rw [hu] at h1;exact h1.elim
  |some d =>
   rw [hu] at h1 hv
   rw [znj hu]
   have one:∀ c,qs=[c]→(∀ C,v≠.agg C)→RepP NoM w v (ze9 false qs):=by
    intro c hq hv
    subst hq
    have h4:=(h3.2 0 c rfl).2
    have h5:v.cells.toList=[v]:=by cases v<;>first | rfl | exact absurd rfl (hv _)
    rw [h5] at h4
    exact h4
   have agg:∀ C,v=.agg C→RepP NoM w v (ze9 true qs):=by
    intro C hC
    subst hC
    have h5:ze9 true qs=.agg qs:=by cases qs with | nil=>rfl | cons a l=>cases l<;>rfl
    rw [h5]
    refine .agg (by have:=h3.1;simpa [Value.cells] using this) (fun c hc=>?_) fun i c hi=>?_
    ·obtain ⟨i,hi⟩:=List.getElem?_of_mem hc
     exact (h3.2 i c hi).1
    ·have:=(h3.2 i c hi).2
     simpa [Value.cells] using this
   cases d with
   |bool=>obtain ⟨b,hq⟩:=h1;exact one _ hq (by rintro C rfl;simp [Cell.okWide,Cell.ok,hu] at hv)
   |int k=>obtain ⟨m,hq,_⟩:=h1;exact one _ hq (by rintro C rfl;simp [Cell.okWide,Cell.ok,hu] at hv)
   |string=>obtain ⟨s,hq,_⟩:=h1;exact one _ hq (by rintro C rfl;simp [Cell.okWide,Cell.ok,hu] at hv)
   |slice e=>obtain ⟨xs,hq,_⟩:=h1;exact one _ hq (by rintro C rfl;simp [Cell.okWide,Cell.ok,hu] at hv)
   |struct fs=>obtain ⟨C,hC,_⟩:=hv;exact agg C hC
   |array m e=>obtain ⟨C,hC,_⟩:=hv;exact agg C hC
   |_=>exact h1.elim
theorem zq8 {n base:Nat}:∀ (ts:List TypeId) (vs:List Value) (ds:List (DataW H)) (ps:List MemPlace),(∀ t,t∈ts→okT P n t=true)→(∀ (j:Nat) t v,ts[j]?=some t→vs[j]?=some v→Value.okWide P w .any base t v) →
  DataW.TrodAll enc P w 0 sp held ts vs ds ps→∃ qs,zsI P n ts qs∧vs.length=qs.length∧∀ (i:Nat) (c:PV),qs[i]?=some c→RepP NoM w (vs.getD i undef) c
 |[],vs,ds,ps,_,_,h=>by
  obtain ⟨rfl,rfl,rfl⟩:=trodAll_nil h
  exact ⟨[],rfl,rfl,by simp⟩
 |t::ts,vs,ds,ps,hok,hv,h=>by
  obtain ⟨v,vs',d,ds',a,b,rfl,rfl,rfl,h1,h2⟩:=trodAll_cons h
  obtain ⟨q,hq,hr⟩:=zAu (hok t (by simp)) (hv 0 t v rfl rfl) h1
  obtain ⟨qs,hqs,hl,hrs⟩:=zq8 ts vs' ds' b (fun t ht=>hok t (by simp [ht])) (fun j t v hj hv'=>hv (j+1) t v (by simpa using hj) (by simpa using hv')) h2
  refine ⟨q::qs,⟨q,qs,rfl,hq,hqs⟩,by simp [hl],fun i c hi=>?_⟩
  cases i with
  |zero=>cases hi;exact hr
  |succ i=>exact hrs i c (by simpa using hi)
theorem zux {W W':World} (hl:laidOutB P=true) (hb:Below W.heap.size W W') (sp':Nat→Bool):∀ (ts:List TypeId) (vs:List Value) (ds:List (DataW H)) (ps:List MemPlace),(∀ t,t∈ts→P.readableRec t=true∧t<P.types.size) →
  DataW.TrodAll enc P W 0 (fun _=>true) true ts vs ds ps→(∀ x,x∈ps→x.block<W.heap.size)→(∀ x,x∈ps→sp' x.block=true)→DataW.TrodAll enc P W' 0 sp' true ts vs ds ps
 |[],vs,ds,ps,_,h,_,_=>by
  obtain ⟨rfl,rfl,rfl⟩:=trodAll_nil h
  exact rfl
 |t::ts,vs,ds,ps,hok,h,hlt,hsp=>by
  obtain ⟨v,vs',d,ds',a,b,rfl,rfl,rfl,h1,h2⟩:=trodAll_cons h
  refine ⟨a,b,?_,zux hl hb sp' ts vs' ds' b (fun t ht=>hok t (by simp [ht])) h2 (fun x hx=>hlt x (by simp [hx])) (fun x hx=>hsp x (by simp [hx])),rfl⟩
  exact WideElems.Trod_stays hl (hok t (by simp)).1 (hok t (by simp)).2 h1 (fun x hx=>hb.same (hlt x (by simp [hx]))) (fun x hx=>hsp x (by simp [hx]))
theorem zyX {f:Func} {s:ChangeSpec} {apart fresh handsOn again:Bool} {W W':World} {args:Array Value} {v:Value} {ds gs:List (DataW H)} {before pa pv:List MemPlace}
  (hW:DataW.Whole enc P f.params.toList s.vars apart W args.toList ds gs before)
  (hres:∀ (b:Nat) (sp:Nat→Bool) (hd:Bool),DataW.TrodAll enc P W' b sp hd f.resultTypes.toList (v.resultList f.resultTypes.size) (s.fn H (ds++gs)).results [])
  (hargs:∀ sp:Nat→Bool,(∀ p∈before,sp p.block=true)→DataW.TrodAll enc P W' 0 sp true f.params.toList args.toList (s.fn H (ds++gs)).args pa)
  (hvars:∀ sp:Nat→Bool,(∀ p∈before,sp p.block=true)→DataW.TrodVars enc P W' sp s.vars (s.fn H (ds++gs)).vars pv)
  (hps:before=pa++pv) (hk:W.keptBut W' (·∈before)) (hfz:∀ a:Addr,a.block<W.heap.size→W'.frozen? a=W.frozen? a)
  (hok:∀ (j:Nat) (t:TypeId) (r:Value),f.resultTypes[j]?=some t→(v.resultList f.resultTypes.size)[j]?=some r→Value.okWide P W' .any 0 t r) :
  s.post enc P f apart fresh handsOn again W args v W':=by
 have hold:∀ p∈before,(fun b=>decide (b<W.heap.size)) p.block=true:=fun p hp=>by simpa using hW.lt p hp
 have hlt:=hW.lt
 refine ⟨ds,gs,before,[],pa,pv,hW,hres _ _ _,hargs _ hold,hvars _ hold,World.keptBut_mono (fun p hp=>⟨hp,?_⟩) hk,fun _=>?_⟩
 ·rw [hps,List.mem_append] at hp
  exact Or.inr hp
 ·obtain ⟨_,_,_,_,_,hz,hn⟩:=hW
  refine ⟨hok,_,_,([]++pa)++pv,⟨[]++pa,pv,trodAll_append (hargs _ (fun _ _=>rfl)) (hres _ _ _),hvars _ (fun _ _=>rfl),rfl,?_,?_⟩,?_⟩
  ·intro b off hp
   have hp':MemPlace.cell b off∈before:=by rw [hps];simpa using hp
   rw [hfz ⟨b,off,none⟩ (hlt _ hp')]
   exact hz b off hp'
  ·intro ha
   have:=hn ha
   rw [hps] at this
   simpa using this
  ·intro p hp _
   rw [hps]
   simpa using hp
theorem zBg {w w':World} (h:Fr [] w w'):Below w.heap.size w w':=⟨h.os,h.tape,h.output,h.size,fun k hk=>h.block k hk (by simp [Own])⟩
theorem ztx {f:FuncId} {fn:Func} {s:ChangeSpec} {ts:List TypeId} {tb:TypeId} {n base:Nat} (hts:fn.params.toList=ts) (hres:fn.resultTypes=#[tb]) (hb:P.underlying tb=some .bool) (hl:laidOutB P=true)
  (hok:∀ t,t∈ts→okT P n t=true∧P.readableRec t=true∧t<P.types.size) (hvars:s.vars=[]) (hs:∀ (H:Type) (ds:List (DataW H)),ds.length=ts.length→s.fn H ds={ results:=[.lit (.bool true)],args:=ds })
  (hlaw:∀ qs,zsI P n ts qs→zae P f qs (.bool true))
  {W:World} (hg:GOk P W) {args:Array Value} {ds gs:List (DataW H)} {before:List MemPlace} {apart fresh handsOn again:Bool} (hval:∀ (j:Nat) t v,fn.params[j]?=some t→args[j]?=some v→Value.okWide P W .any base t v)
  (hW:DataW.Whole enc P fn.params.toList s.vars apart W args.toList ds gs before):Calls P f args W fun e W'=>∃ v,e=.returned v∧s.post enc P fn apart fresh handsOn again W args v W':=by
 have hW':=hW
 obtain ⟨p,q,hA,hV,rfl,hfz,hnd⟩:=hW
 rw [hvars] at hV
 obtain ⟨rfl,rfl⟩:=trodVars_none hV
 rw [hts] at hA
 have hlen:ds.length=ts.length:=by
  clear hfz hnd hW' hval
  generalize args.toList=vs at hA
  induction ts generalizing vs ds p with
  |nil=>obtain ⟨rfl,rfl,rfl⟩:=trodAll_nil hA;rfl
  |cons t ts ih =>
   obtain ⟨v,vs',d,ds',a,b,rfl,rfl,rfl,h1,h2⟩:=trodAll_cons hA
   have:∀ (ts:List TypeId) (vs:List Value) (ds:List (DataW H)) (p:List MemPlace),DataW.TrodAll enc P W 0 (fun _=>true) true ts vs ds p→ds.length=ts.length:=by
    intro ts
    induction ts with
    |nil=>intro vs ds p h;obtain ⟨rfl,rfl,rfl⟩:=trodAll_nil h;rfl
    |cons t ts ih=>intro vs ds p h;obtain ⟨v,vs',d,ds',a,b,rfl,rfl,rfl,h1,h2⟩:=trodAll_cons h;simp [ih _ _ _ h2]
   simp [this _ _ _ _ h2]
 obtain ⟨qs,hqs,hlq,hrq⟩:=zq8 (n:=n) ts args.toList ds p (fun t ht=>(hok t ht).1) (fun j t v hj hv=>hval j t v (by rw [←hts] at hj;simpa using hj) (by simpa using hv)) hA
 obtain ⟨_,hc⟩:=hlaw qs hqs NoM W args (fun b hb=>hb.elim) hg ⟨by simpa using hlq,fun i c hi=>by simpa using hrq i c hi⟩
 refine hc.mono fun e W' he=>?_
 obtain ⟨v',rfl,hv,hfr⟩:=he
 cases hv
 have hbl:=zBg hfr
 have hlt:∀ x,x∈p→x.block<W.heap.size:=fun x hx=>by
  have:=hW'.lt x (by simpa using hx)
  exact this
 refine ⟨_,rfl,?_⟩
 have hsd:=hs H ds hlen
 refine zyX (pa:=p) (pv:=[]) hW' (fun b sp hd=>?_) (fun sp hsp=>?_) (fun sp _=>?_) (by simp) (hbl.frame _) (fun a ha=>hbl.frozen ha) (ok_one hres rfl (okWide_bool_mk hb _))
 ·rw [List.append_nil,hsd,hres]
  exact trodAll_cons_mk (shut_bool hb _) trodAll_mk0
 ·rw [List.append_nil,hsd,hts]
  exact zux hl hbl sp ts _ ds p (fun t ht=>(hok t ht).2) hA hlt fun x hx=>hsp x (by simpa using hx)
 ·rw [List.append_nil,hsd,hvars]
  rfl
end
end Abs
end Go.Proofs.YtahlnclapingiaaGreatDoor
namespace Go.Proofs.YtahlnclapingiaaGreatDoor
namespace Abs
variable {P:Program}
def zll (q v:PV):Prop:=zj9 q v∨∃ sz xs,q=.slice sz xs true∧v=.slice sz xs false
theorem zll.rep {q v:PV} (h:zll q v) {M:Nat→Prop} {w:World} {u:Value} (hr:RepP M w u q):RepP M w u v:=by
 rcases h with h | ⟨sz,xs,rfl,rfl⟩
 ·exact h.rep hr
 ·cases hr with
  |slice f hlen hcap hfull hsz hM hc hr=>exact .slice f hlen hcap (by simp) hsz hM hc hr
  |empty hfull=>exact .empty (by simp)
theorem zll.cell {q v:PV} (h:zll q v) (hq:q.isCell=true):v.isCell=true:=by
 rcases h with (rfl | ⟨rfl,sz,rfl⟩) | ⟨sz,xs,rfl,rfl⟩
 ·exact hq
 ·rfl
 ·rfl
def zqf:List PV→List PV→Prop
 |[],[]=>True
 |q::a,v::b=>zll q v∧zqf a b
 |_,_=>False
theorem zqf.get:∀ {a b:List PV},zqf a b→a.length=b.length∧∀ (i:Nat) (v:PV),b[i]?=some v→∃ q,a[i]?=some q∧zll q v
 |[],[],_=>⟨rfl,by simp⟩
 |q::a,v::b,h=>by
  obtain ⟨h1,h2⟩:=zqf.get h.2
  refine ⟨by simp [h1],fun i u hi=>?_⟩
  cases i with
  |zero=>cases hi;exact ⟨q,rfl,h.1⟩
  |succ i=>exact h2 i u (by simpa using hi)
 |[],_::_,h=>h.elim
 |_::_,[],h=>h.elim
end Abs
end Go.Proofs.YtahlnclapingiaaGreatDoor
namespace Go.Proofs.YtahlnclapingiaaGreatDoor
namespace Abs
variable {P:Program}
def zvZ (P:Program) (t:TypeId):Option (List TypeId) :=
 match P.underlying t with
 |some (.struct fs)=>some (fs.toList.map (·.type))
 |_=>none
def zFZ (P:Program) (t:TypeId):Option IntKind :=
 match P.underlying t with
 |some (.int k)=>some k
 |_=>none
def zCI (P:Program) (t:TypeId):Option (TypeId×Nat×Bool) :=
 match P.underlying t with
 |some (.slice e)=>some (e,P.cellsOf e,zbc P e==some true)
 |_=>none
def zzl (P:Program) (t:TypeId):Bool :=
 match P.underlying t with
 |some .string=>true
 |_=>false
def zyj (P:Program) (n:Nat):List TypeId→List PV→Prop
 |[],cs=>cs=[]
 |t::ts,cs=>∃ a b,cs=a++b∧zc6 P n t a∧zyj P n ts b
theorem zyQ {n:Nat}:∀ {fs:List Field} {cs:List PV},zmf (zc6 P n) fs cs→zyj P n (fs.map (·.type)) cs
 |[],_,h=>h
 |_::_,_,⟨a,b,h1,h2,h3⟩=>⟨a,b,h1,h2,zyQ h3⟩
theorem zki {n:Nat} {t:TypeId} {ts:List TypeId} {cs:List PV} (ht:zvZ P t=some ts) (h:zc6 P (n+1) t cs):zyj P n ts cs:=by
 unfold zvZ at ht
 unfold zc6 at h
 split at ht
 ·rename_i fs hu
  rw [hu] at h
  cases ht
  exact zyQ h
 ·cases ht
theorem zFz {n:Nat} {t:TypeId} {k:IntKind} {cs:List PV} (ht:zFZ P t=some k) (h:zc6 P (n+1) t cs):∃ m,cs=[.int k m]∧k.min≤m∧m≤k.max:=by
 unfold zFZ at ht
 unfold zc6 at h
 split at ht
 ·rename_i k' hu
  rw [hu] at h
  cases ht
  obtain ⟨m,h1,h2⟩:=h
  exact ⟨m,h1,by simpa [Lit.wf] using h2⟩
 ·cases ht
theorem zyP {n:Nat} {t:TypeId} {cs:List PV} (ht:zzl P t=true) (h:zc6 P (n+1) t cs):∃ s:ByteArray,cs=[.str s]∧s.size≤maxLen:=by
 unfold zzl at ht
 unfold zc6 at h
 split at ht
 ·rename_i hu
  rw [hu] at h
  exact h
 ·cases ht
theorem zv4 {n:Nat} {t e:TypeId} {z:Nat} {g:Bool} {cs:List PV} (ht:zCI P t=some (e,z,g)) (h:zc6 P (n+1) t cs) :
  ∃ xs,cs=[.slice z xs false]∧xs.length≤maxLen∧∀ x,x∈xs→∃ es,x=ze9 g es∧zc6 P n e es:=by
 unfold zCI at ht
 unfold zc6 at h
 split at ht
 ·rename_i e' hu
  rw [hu] at h
  cases ht
  exact h
 ·cases ht
theorem zqx {α:Type} (f:α→PV):∀ {xs:List PV},(∀ x,x∈xs→∃ a,x=f a)→∃ l:List α,xs=l.map f
 |[],_=>⟨[],rfl⟩
 |x::r,h=>by
  obtain ⟨a,rfl⟩:=h x (by simp)
  obtain ⟨l,rfl⟩:=zqx f (xs:=r) fun y hy=>h y (by simp [hy])
  exact ⟨a::l,rfl⟩
end Abs
end Go.Proofs.YtahlnclapingiaaGreatDoor
namespace Go.Proofs.YtahlnclapingiaaGreatDoor
namespace Abs
variable {P:Program} {H:Hints} {Q:Cont} {M0:Nat→Prop}
end Abs
end Go.Proofs.YtahlnclapingiaaGreatDoor
