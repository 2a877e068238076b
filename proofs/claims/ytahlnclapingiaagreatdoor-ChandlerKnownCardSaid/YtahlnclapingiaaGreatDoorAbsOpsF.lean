/-
  LAWS: every operation of the abstract machine and the model's.
-/
import Derived.Test.YtahlnclapingiaaGreatDoorAbsPut
import Derived.Laws.BytesArg
set_option linter.unusedSimpArgs false
set_option linter.unusedVariables false
namespace Go.Proofs.YtahlnclapingiaaGreatDoor
namespace Abs
variable {P:Program} {M0:Nat→Prop} {S:Mem}
def zmg (P:Program) (M0:Nat→Prop) (S:Mem) (s:Sem Next):OR→Prop
 |.val v h=>∃ (S':Mem) (v':Value),S'.h=h∧s.run P S.w=.ok (.value v') S'.w∧Ev S.h.length S S'∧HOk P M0 S'∧Rep M0 S' v' v
 |.skip h=>∃ S':Mem,S'.h=h∧s.run P S.w=.ok .skip S'.w∧Ev S.h.length S S'∧HOk P M0 S'
 |.call f args=>∃ cargs:Array Value,s.run P S.w=(callFunc f cargs).run P S.w∧zbW (Rep M0 S) cargs args
 |.panic v=>∃ v':Value,s.run P S.w=.halt (.panic v') S.w∧RepP (Avoid M0 S.m) S.w v' v
 |.yld l args=>∃ (b:Nat) (cargs:Array Value),s.run P S.w=(Instr.yield b cargs).run P S.w∧zbW (Rep M0 S) cargs args∧(S.h[l]?=some .dead∨S.m.getD l none=some b)
 |.dfr (.fn g args)=>∃ (fv:Fn) (cap dargs cargs:Array Value),s.run P S.w=.ok (.defer { target:=.fn fv cap,args:=dargs }) S.w ∧
   (∀ w,(invoke (.fn fv cap) dargs).run P w=(callFunc g cargs).run P w)∧zbW (Rep M0 S) cargs args
 |.dfr _=>False
 |.recover=>s.run P S.w=.ok .recover S.w
 |.stuck=>True
theorem zaw.op {s:Sem Value} {r:OR} (h:zaw P M0 S s r):zmg P M0 S (do let v←s;Pure.pure (Next.value v)) r:=by
 cases r with
 |val v hh =>
  obtain ⟨S',v',h1,h2,h3⟩:=h
  exact ⟨S',v',h1,by simp [h2],h3⟩
 |skip _=>exact h.elim
 |call _ _=>exact h.elim
 |panic _=>exact h.elim
 |yld _ _=>exact h.elim
 |dfr _=>exact h.elim
 |recover=>exact h.elim
 |stuck=>exact trivial
theorem zqe.op {s:Sem Unit} {r:OR} (h:zqe P M0 S s r):zmg P M0 S (do s;Pure.pure Next.skip) r:=by
 cases r with
 |skip hh =>
  obtain ⟨S',h1,h2,h3⟩:=h
  exact ⟨S',h1,by simp [h2],h3⟩
 |val _ _=>exact h.elim
 |call _ _=>exact h.elim
 |panic _=>exact h.elim
 |yld _ _=>exact h.elim
 |dfr _=>exact h.elim
 |recover=>exact h.elim
 |stuck=>exact trivial
theorem zu2 {op:BinOp} {T:TypeId} {x y:Operand} {a b:Value} (w:World) (h1:(∀ C D,¬ (a=.agg C∧b=.agg D))∨P.eqGuardType P.depth T=false)
  (h2:¬ (a=.nilIface∧b=.nilIface)∨(zfX x||zfX y)=true):(eqGuard op T x y a b).run P w=.ok () w:=by
 by_cases ha:∃ C D,a=.agg C∧b=.agg D
 ·obtain ⟨C,D,rfl,rfl⟩:=ha
  rcases h1 with h1 | h1
  ·exact absurd ⟨rfl,rfl⟩ (h1 C D)
  ·exact run_eqGuard_agg w op T x y C D h1
 ·by_cases hn:a=.nilIface∧b=.nilIface
  ·obtain ⟨rfl,rfl⟩:=hn
   rcases h2 with h2 | h2
   ·exact absurd ⟨rfl,rfl⟩ h2
   ·cases op<;>first
     |rfl
     |(cases x<;>cases y<;>first | rfl | exact absurd h2 (by simp [zfX]))
  ·exact znV w (fun C D h=>ha ⟨C,D,h⟩) hn
theorem zGU (hS:HOk P M0 S) {op:BinOp} {T:TypeId} {xo yo:Operand} {x y:AV} {a b:Value} (hx:Rep M0 S a x) (hy:Rep M0 S b y) :
  zaw P M0 S (do eqGuard op T xo yo a b;binOp op T a b) (zq2 P op T (zfX xo||zfX yo) x y S.h):=by
 have guardOk:((∀ C D,¬ (a=.agg C∧b=.agg D))∨P.eqGuardType P.depth T=false)→(¬ (a=.nilIface∧b=.nilIface)∨(zfX xo||zfX yo)=true) →
   ∀ r:OR,zaw P M0 S (binOp op T a b) r→zaw P M0 S (do eqGuard op T xo yo a b;binOp op T a b) r:=by
  intro h1 h2 r hr
  have hg:=zu2 (op:=op) (T:=T) (x:=xo) (y:=yo) (P:=P) S.w h1 h2
  cases r with
  |val v h =>
   obtain ⟨S',v',g1,g2,g3⟩:=hr
   exact ⟨S',v',g1,by simp [hg,g2],g3⟩
  |stuck=>exact trivial
  |_=>exact hr.elim
 unfold zq2
 split
 ·rename_i k i k' j
  have:=zec hx;subst this
  have:=zec hy;subst this
  split
  ·exact guardOk (.inl (by simp)) (.inl (by simp)) _ (zkR hS fun q hq=>zvj hq _ _)
  ·rename_i hsh
   split
   ·rename_i hk
    subst hk
    exact guardOk (.inl (by simp)) (.inl (by simp)) _ (zkR hS fun q hq=>zzp (by simpa using hsh) hq _ _)
   ·exact trivial
 ·rename_i s t
  have h1:RepP (Avoid M0 S.m) S.w a (.str s):=hx
  have h2:RepP (Avoid M0 S.m) S.w b (.str t):=hy
  cases h1;cases h2
  exact guardOk (.inl (by simp)) (.inl (by simp)) _ (zkR hS fun q hq=>zyB hq _ _)
 ·split
  ·cases he:aEq P T (zfX xo||zfX yo) x y with
   |none=>exact trivial
   |some t =>
    obtain ⟨⟨g1,g2⟩,g3,g4⟩:=zCK hx hy he
    exact guardOk g3 g4 _ (zkR hS fun q hq=>by cases hq;exact ⟨_,g1,.bool _⟩)
  ·cases he:aEq P T (zfX xo||zfX yo) x y with
   |none=>exact trivial
   |some t =>
    obtain ⟨⟨g1,g2⟩,g3,g4⟩:=zCK hx hy he
    exact guardOk g3 g4 _ (zkR hS fun q hq=>by cases hq;exact ⟨_,g2,.bool _⟩)
  ·exact trivial
theorem zHA (hS:HOk P M0 S) {op:UnOp} {x:AV} {a:Value} (hx:Rep M0 S a x):zaw P M0 S (Op.unary op a) (aUn op x S.h):=by
 unfold aUn
 split
 ·have:=zik hx;subst this
  exact zaw.pure hS (v':=.bool _) rfl (zas (.bool _))
 ·have:=zec hx;subst this
  exact zaw.pure hS (v':=.int _ _) (by simp [Op.unary,Op.intArith]) (zas (.int _ _))
 ·exact trivial
theorem zry:∀ {l:List PV} {ns:List Int},zkX l=some ns→ns.length=l.length∧∀ (i:Nat) (n:Int),ns[i]?=some n→l[i]?=some (.int .u8 n)
 |[],ns,h=>by cases h;exact ⟨rfl,by simp⟩
 |x::r,ns,h=>by
  unfold zkX at h
  split at h
  ·rename_i he;cases he
  ·rename_i n r' he
   cases he
   simp only [Option.map_eq_some_iff] at h
   obtain ⟨ms,hm,rfl⟩:=h
   obtain ⟨h1,h2⟩:=zry hm
   refine ⟨by simp [h1],fun i m hi=>?_⟩
   cases i with
   |zero=>cases hi;rfl
   |succ i=>exact h2 i m (by simpa using hi)
  ·cases h
theorem zxJ (hS:HOk P M0 S) {src dst:TypeId} {x:AV} {a:Value} (hx:Rep M0 S a x):zaw P M0 S (convert src dst a) (zin P src dst x S.h):=by
 unfold zin
 split
 ·rename_i k' n
  have:=zec hx;subst this
  split
  ·rename_i k hk
   unfold zcd at hk
   split at hk
   ·rename_i d k2 h1 h2
    cases hk
    refine zaw.pure hS (v':=.int k (k.wrap n)) ?_ (zas (.int _ _))
    simp [convert,run_underlying h1,run_underlying h2,Conv.intToInt]
   ·cases hk
  ·exact trivial
 ·rename_i s
  split
  ·rename_i hc
   have h1:RepP (Avoid M0 S.m) S.w a (.str s):=hx
   cases h1
   refine zaw.pure hS (v':=.string s) ?_ (zas (.str _))
   simp [convert,run_underlying (zcW hc.1),run_underlying (zcW hc.2)]
  ·exact trivial
 ·rename_i y ys full
  split
  ·rename_i hc
   split
   ·rename_i ns hns
    obtain ⟨e,hs,he⟩:∃ e,P.underlying src=some (.slice e)∧P.underlying e=some (.int .u8):=by
     have h1:=hc.1
     unfold zoI at h1
     cases hq:zaM P src with
     |none=>rw [hq] at h1;cases h1
     |some e =>
      rw [hq] at h1
      refine ⟨e,zbh hq,?_⟩
      dsimp only at h1
      split at h1
      ·assumption
      ·cases h1
    have h1:RepP (Avoid M0 S.m) S.w a (.slice 1 (y::ys) full):=hx
    obtain ⟨hlen,hat⟩:=zry hns
    cases h1 with
    |slice f hln hcap hfull hsz hM hcell hr =>
     rename_i b off len cap
     refine zaw.pure hS (v':=.string (strOfNums ns)) (run_convert_bytes_arg S.w src e hs he b off len cap ns (by rw [hln,hlen]) (fun i hi=>?_) dst (zcW hc.2)) (zas (.str _))
     have hi2:i<ns.length:=by rw [hlen,←hln];exact hi
     have hq:=hat i _ (List.getElem?_eq_getElem hi2)
     have h2:=hr i 0 _ _ hq rfl
     rw [hcell i (by rw [Nat.mul_one,←hln];exact hi)]
     rw [Nat.mul_one,Nat.add_zero] at h2
     generalize f i=z at h2
     cases h2
     simp [List.getD_eq_getElem?_getD,List.getElem?_eq_getElem hi2]
   ·exact trivial
  ·exact trivial
 ·exact trivial
theorem zxF (hS:HOk P M0 S) {x:AV} {a:Value} {i:Nat} (hx:Rep M0 S a x):zaw P M0 S (Instr.extract a i) (zim x i S.h):=by
 unfold zim
 split
 ·rename_i vs
  split
  ·rename_i v hv
   have h1:RepP (Avoid M0 S.m) S.w a (.tuple vs):=hx
   cases h1 with
   |@tuple C _ hn hr =>
    have hi:=(List.getElem?_eq_some_iff.1 hv).1
    refine zaw.pure hS (v':=C.getD i undef) ?_ (zas (hr i v hv))
    simp [Instr.extract,show i<C.size by omega]
  ·exact trivial
 ·rename_i vs
  split
  ·rename_i v hv
   obtain ⟨C,rfl,hn,hr⟩:=hx
   have hi:=(List.getElem?_eq_some_iff.1 hv).1
   refine zaw.pure hS (v':=C.getD i undef) ?_ (zh4 (hr i v hv))
   simp [Instr.extract,show i<C.size by omega]
  ·exact trivial
 ·exact trivial
theorem zjL {ρ:Operand→Value} {e:Operand→AV} (he:∀ x,Rep M0 S (ρ x) (e x)) (xs:Array Operand):zbW (Rep M0 S) (xs.map ρ) (xs.toList.map e):=by
 refine ⟨by simp,fun i c hi=>?_⟩
 simp only [List.getElem?_map,Option.map_eq_some_iff] at hi
 obtain ⟨x,hx,rfl⟩:=hi
 have hil:=(List.getElem?_eq_some_iff.1 hx).1
 have:(xs.map ρ).getD i undef=ρ x:=by
  apply getD_some
  rw [Array.getElem?_map]
  rw [Array.getElem?_toList] at hx
  simp [hx]
 rw [this]
 exact he x
theorem zmj {v:Value} {a:AV} (h:a.plain=true) (hr:Rep M0 S v a):zbr M0 S v a:=by
 cases a<;>first | exact hr | (simp [AV.plain] at h)
theorem zvi (hS:HOk P M0 S) {fn:Fn} {F C:Array Value} {first cap:List AV} (h1:zbW (Rep M0 S) F first) (h2:zbW (Rep M0 S) C cap) (p1:first.all AV.plain=true) (p2:cap.all AV.plain=true) :
  zaw P M0 S (Instr.makeFunc fn F C) (.val (zpr fn first cap) S.h):=by
 refine zaw.pure hS (v':=.func fn F C) rfl ?_
 rw [List.all_eq_true] at p1 p2
 unfold zpr
 split
 ·rename_i a b ha hb
  have e1:=zeF ha
  have e2:=zeF hb
  subst e1;subst e2
  exact zas (.func (by simpa using h1.1) (by simpa using h2.1) (fun i c hi=>h1.2 i (.p c) (by simp [hi])) (fun i c hi=>h2.2 i (.p c) (by simp [hi])))
 ·exact ⟨F,C,rfl,h1.imp fun v c hc hr=>zmj (p1 c hc) hr,h2.imp fun v c hc hr=>zmj (p2 c hc) hr⟩
theorem zcn {R:Value→AV→Prop} {A B:Array Value} {a b:List AV} (h:zbW R A a) (k:zbW R B b):zbW R (A++B) (a++b):=by
 refine ⟨by simp [h.1,k.1],fun i c hi=>?_⟩
 rcases Nat.lt_or_ge i a.length with hl | hl
 ·rw [List.getElem?_append_left hl] at hi
  have:(A++B).getD i undef=A.getD i undef:=by
   have:=h.1
   simp [Array.getD_eq_getD_getElem?,Array.getElem?_append,show i<A.size by omega]
  rw [this]
  exact h.2 i c hi
 ·rw [List.getElem?_append_right hl] at hi
  have:(A++B).getD i undef=B.getD (i-a.length) undef:=by
   have:=h.1
   simp [Array.getD_eq_getD_getElem?,Array.getElem?_append,this,show ¬ i<a.length by omega]
  rw [this]
  exact k.2 _ c hi
theorem zhg {C:Array Value} {l:List PV} (hn:C.size=l.length) (h:∀ (i:Nat) (c:PV),l[i]?=some c→RepP (Avoid M0 S.m) S.w (C.getD i undef) c):zbW (Rep M0 S) C (l.map .p):=by
 refine ⟨by simpa using hn,fun i c hi=>?_⟩
 simp only [List.getElem?_map,Option.map_eq_some_iff] at hi
 obtain ⟨q,hq,rfl⟩:=hi
 exact zas (h i q hq)
theorem zf7 {v:Value} {a:AV} (h:zbr M0 S v a):Rep M0 S v a:=by
 cases a<;>first | exact h | exact False.elim h
theorem zzm {f:AV} {vf:Value} {args:List AV} {C:Array Value} (hf:Rep M0 S vf f) (ha:zbW (Rep M0 S) C args) :
  zmg P M0 S (do let d←Deferred.ofValue vf C;invoke d.target d.args) (zdd f args):=by
 unfold zdd
 split
 ·rename_i g first cap
  have h1:RepP (Avoid M0 S.m) S.w vf (.func (.func g) first cap):=hf
  cases h1 with
  |@func _ F K _ _ hf hc h1 h2 =>
   refine ⟨F++C++K,?_,zcn (zcn (zhg hf h1) ha) (zhg hc h2)⟩
   simp [Deferred.ofValue,invoke]
 ·rename_i g first cap
  obtain ⟨F,K,rfl,h1,h2⟩:=hf
  refine ⟨F++C++K,?_,zcn (zcn (h1.imp fun v c _ hr=>zf7 hr) ha) (h2.imp fun v c _ hr=>zf7 hr)⟩
  simp [Deferred.ofValue,invoke]
 ·rename_i l
  have h1:zbr M0 S vf (.ref .yl l):=hf
  rcases h1.2 with hd | ⟨_,b,hb,rfl⟩
  ·obtain ⟨⟨b,rfl⟩,_⟩:=h1
   exact ⟨b,C,by simp [Deferred.ofValue,invoke,zmF],ha,.inl hd⟩
  ·exact ⟨b,C,by simp [Deferred.ofValue,invoke,zmF],ha,.inr hb⟩
 ·exact trivial
theorem zBr {f:AV} {vf:Value} {args:List AV} {C:Array Value} (hf:Rep M0 S vf f) (ha:zbW (Rep M0 S) C args) :
  zmg P M0 S (do let d←Deferred.ofValue vf C;Pure.pure (Next.defer d)) (znl f args):=by
 unfold znl zdd
 split
 ·rename_i g l hg
  split at hg
  ·rename_i g' first cap
   cases hg
   have h1:RepP (Avoid M0 S.m) S.w vf (.func (.func g) first cap):=hf
   cases h1 with
   |@func _ F K _ _ hf hc h1 h2 =>
    refine ⟨.func g,K,F++C,F++C++K,by simp [Deferred.ofValue],fun w=>by simp [invoke],zcn (zcn (zhg hf h1) ha) (zhg hc h2)⟩
  ·rename_i g' first cap
   cases hg
   obtain ⟨F,K,rfl,h1,h2⟩:=hf
   exact ⟨.func g,K,F++C,F++C++K,by simp [Deferred.ofValue],fun w=>by simp [invoke],zcn (zcn (h1.imp fun v c _ hr=>zf7 hr) ha) (h2.imp fun v c _ hr=>zf7 hr)⟩
  ·cases hg
  ·cases hg
 ·exact trivial
theorem zsD {z:Array Value} {n sz:Nat} (hz:z.size=sz) {i j:Nat} (hi:i<n) (hj:j<sz):(Builtin.zeroCells z n).getD (i*sz+j) undef=z.getD j undef:=by
 subst hz
 have h1:i*z.size+j<n*z.size:=zel hi hj
 have h2:(i*z.size+j)%z.size=j:=by rw [Nat.mul_comm,Nat.mul_add_mod,Nat.mod_eq_of_lt hj]
 simp [Builtin.zeroCells,h1,h2,hj,getElem!_pos]
theorem zBv (hS:HOk P M0 S) {T:TypeId} {x:AV} {v:Value} {ty:TypeId} (hx:Rep M0 S v x):zaw P M0 S (Builtin.clear_ #[T] ty #[v]) (zqa P T x S.h):=by
 unfold zqa
 split
 ·rename_i e id ver off len he
  split
  ·rename_i sz xs sz' z hid hsz hz
   split
   ·rename_i hc
    obtain ⟨rfl,hv,hle,hzl,hz0,hzc⟩:=hc
    have hu:=zbh he
    obtain ⟨vz,hvz,hcz⟩:=zfh hz S.w
    have hrep:Rep M0 S vz (.p z):=zdz hcz
    obtain ⟨cs,hcs⟩:=Option.isSome_iff_exists.1 hzc
    obtain ⟨hnz,hrz⟩:=zeD hrep hcs
    have hcl:cs.length=sz':=by
     cases z with
     |tuple l=>simp [AV.cells] at hcs
     |_=>(simp [AV.cells] at hcs;subst hcs;simpa using hzl)
    have hDs:(Builtin.zeroCells vz.cells len).size=(List.replicate len (AV.p z)).length*sz':=by simp [Builtin.zeroCells,hnz,hcl]
    have hDel:zbS M0 S sz' (Builtin.zeroCells vz.cells len) (List.replicate len (AV.p z)):=by
     intro i y hi
     have hil:i<len:=by have:=(List.getElem?_eq_some_iff.1 hi).1;simpa using this
     rw [List.getElem?_replicate,if_pos hil] at hi
     cases hi
     refine ⟨cs,hcs,hcl,fun j c hc=>?_⟩
     have hjl:=(List.getElem?_eq_some_iff.1 hc).1
     rw [zsD (by rw [hnz,hcl]) hil (by omega)]
     exact hrz j c hc
    have hunit:Rep M0 S (.tuple #[]) (.p (.tuple [])):=zas (.tuple rfl fun i c hi=>by simp at hi)
    have none0:len=0→(∃ a cap,v=.slice a 0 cap)→zaw P M0 S (Builtin.clear_ #[T] ty #[v]) (.val (.p (.tuple [])) (S.h.set id (.row sz' (xs.take off++List.replicate len (AV.p z)++xs.drop (off+len))))):=by
     rintro rfl ⟨a,cap,rfl⟩
     refine ⟨S,.tuple #[],?_,?_,Ev.refl _ _,hS,hunit⟩
     ·simp only [List.replicate_zero,List.append_nil,Nat.add_zero,List.take_append_drop]
      exact (zeX hid).symm
     ·cases a<;>simp [Builtin.clear_,run_underlying hu]
    rcases zbz hx.2 hid hv with ⟨h1,h2,h3,ad,cap,rfl⟩ | ⟨b,cap,T',n,hm,rfl,hcap,hsh,hfit,hreach⟩ | ⟨hmn,rfl,h0⟩
    ·exact none0 h1 ⟨_,_,rfl⟩
    ·rcases Nat.eq_zero_or_pos len with h0 | h0
     ·exact none0 h0 ⟨_,_,by rw [h0]⟩
     ·obtain ⟨C,T2,hb2,hsize2,hel2⟩:=zcV hS hid hm
      have hlr:(List.replicate len (AV.p z)).length=len:=by simp
      have hnew:(xs.take off++List.replicate len (AV.p z)++xs.drop (off+len)).length=xs.length:=by simp;omega
      have hfit2:off*sz'+(Builtin.zeroCells vz.cells len).size≤C.size:=by
       rw [hDs,hlr,←Nat.add_mul]
       exact Nat.le_trans (Nat.mul_le_mul_right sz' (by omega)) hsize2
      have hone:=ziP hlr (by rw [hDs,hlr]) hDel
      have hst:=zeC (P:=P) b T2 (Builtin.zeroCells vz.cells len).toList (off*sz') 0 C S.w hb2 (by simpa using hfit2) hone
      have hov:(ovr C (off*sz') (Builtin.zeroCells vz.cells len).toList).size=C.size:=zeg _ _ _
      have en:=Ev.set S.h.length hid hm hb2 hov (xs':=xs.take off++List.replicate len (AV.p z)++xs.drop (off+len)) (by omega)
      have hover:=zl2 hel2 hsize2 hDs hDel (p:=off) (by rw [hlr];omega)
      rw [hlr] at hover
      refine ⟨S.set id (.row sz' (xs.take off++List.replicate len (AV.p z)++xs.drop (off+len))) b (ovr C (off*sz') (Builtin.zeroCells vz.cells len).toList),.tuple #[],rfl,?_,en,
       HOk.set hS hid hm hb2 hov (by omega) (by rw [hov,hnew];exact hsize2) hover,zas (.tuple rfl fun i c hi=>by simp at hi)⟩
      obtain ⟨m,rfl⟩:∃ m,len=m+1:=⟨len-1,by omega⟩
      simp only [Nat.add_zero] at hst
      simp [Builtin.clear_,run_underlying hu,hvz,hst,Mem.set]
    ·exact none0 h0 ⟨_,_,rfl⟩
   ·exact trivial
  ·exact trivial
 ·exact trivial
theorem zzG (hS:HOk P M0 S) {sz len:Nat} {y:AV} {v:Value} {ys:List AV} (hy:Rep M0 S v y) (h:znS S.h sz len y=some ys) :
  ∃ (D:Array Value) (m:Nat),(Builtin.lenOf v).run P S.w=.ok m S.w∧Nat.min m len=ys.length∧(Builtin.firstCells sz ys.length v).run P S.w=.ok D S.w∧D.size=ys.length*sz∧zbS M0 S sz D ys:=by
 unfold znS at h
 split at h
 ·rename_i id ver off n
  split at h
  ·rename_i sz' xs hid
   split at h
   ·rename_i hc
    obtain ⟨rfl,hv,hle⟩:=hc
    cases h
    have hmn:Nat.min n len≤n:=Nat.min_le_left _ _
    have hsl:=zo4 off (Nat.min n len) xs (by omega)
    rcases zbz hy.2 hid hv with ⟨rfl,hv0,hoff,ad,cap,rfl⟩ | ⟨b,cap,T',n',hm,rfl,hcap,hsh,hroom,hreach⟩ | ⟨hmn',rfl,rfl⟩
    ·have e0:Nat.min 0 len=0:=Nat.zero_min _
     rw [e0] at hsl ⊢
     refine ⟨#[],0,rfl,by rw [hsl,e0],?_,by simp [hsl],fun i x hx=>by simp [sub] at hx⟩
     rw [hsl]
     cases ad with
     |none=>rfl
     |some a=>simp [Builtin.firstCells,loadCells,loadCellsFrom]
    ·obtain ⟨C,T,hb,hsize,hel⟩:=zcV hS hid hm
     have hmul:(off+n)*sz'≤C.size:=Nat.le_trans (Nat.mul_le_mul_right sz' (by omega)) hsize
     have hmul2:Nat.min n len*sz'≤n*sz':=Nat.mul_le_mul_right sz' hmn
     rw [Nat.add_mul] at hmul
     refine ⟨((List.range (Nat.min n len*sz')).map fun k=>C.getD (off*sz'+k) undef).toArray,n,rfl,by rw [hsl],?_,by simp [hsl],fun i x hx=>?_⟩
     ·have:=run_loadCells (P:=P) S.w ⟨b,off*sz',none⟩ (Nat.min n len*sz') (fun k=>C.getD (off*sz'+k) undef) (fun j hj=>by
       rw [zcT]
       exact zeR hb _ (by omega))
      simpa [Builtin.firstCells,hsl] using this
     ·have hil:=(List.getElem?_eq_some_iff.1 hx).1
      rw [hsl] at hil
      have hx':xs[off+i]?=some x:=by
       unfold sub at hx
       rw [List.getElem?_take,if_pos hil,List.getElem?_drop] at hx
       exact hx
      obtain ⟨cs,h1,h2,h3⟩:=hel _ x hx'
      refine ⟨cs,h1,h2,fun j c hc=>?_⟩
      have hjl:=(List.getElem?_eq_some_iff.1 hc).1
      rw [zd9 _ _ _ (zel hil (by omega))]
      have:=h3 j c hc
      rwa [Nat.add_mul,Nat.add_assoc] at this
    ·have e0:Nat.min 0 len=0:=Nat.zero_min _
     rw [e0] at hsl ⊢
     exact ⟨#[],0,rfl,by rw [hsl,e0],by rw [hsl];rfl,by simp [hsl],fun i x hx=>by simp [sub] at hx⟩
   ·cases h
  ·cases h
 ·rename_i sz' xs full
  split at h
  ·rename_i ys' he
   split at h
   ·rename_i hl
    cases h
    obtain ⟨D,h1,h2,h3,h4⟩:=zgz hS hy he
    exact ⟨D,ys.length,h1,Nat.min_eq_left hl,h2 S.w rfl,h3,h4⟩
   ·cases h
  ·cases h
 ·cases h
theorem zD9 (hS:HOk P M0 S) {T:TypeId} {ts:Array TypeId} (hT:ts[0]?=some T) {x y:AV} {v u:Value} {ty:TypeId} (hx:Rep M0 S v x) (hy:Rep M0 S u y):zaw P M0 S (Builtin.copy_ ts ty #[v,u]) (zsB P T x y S.h):=by
 unfold zsB
 split
 ·rename_i e id ver off len he
  split
  ·rename_i sz xs sz' hid hsz
   split
   ·rename_i hc
    obtain ⟨rfl,hv,hle⟩:=hc
    split
    ·rename_i ys hys
     obtain ⟨D,m,h1,h2,h3,h4,h5⟩:=zzG hS hy hys
     have hu:=zbh he
     have hyl:ys.length≤len:=by rw [←h2];exact Nat.min_le_right _ _
     have hint:Rep M0 S (goInt (ys.length:Int)) (.p (.int .i64 (ys.length:Int))):=zas (.int _ _)
     have none0:ys.length=0→(∃ a cap,v=.slice a len cap)→zaw P M0 S (Builtin.copy_ ts ty #[v,u]) (.val (.p (.int .i64 (ys.length:Int))) (S.h.set id (.row sz' (xs.take off++ys++xs.drop (off+ys.length))))):=by
      rintro h0 ⟨a,cap,rfl⟩
      have hy0:ys=[]:=List.eq_nil_of_length_eq_zero h0
      subst hy0
      have hD0:D=#[]:=Array.eq_empty_of_size_eq_zero (by simpa using h4)
      subst hD0
      refine ⟨S,goInt (([]:List AV).length:Int),?_,?_,Ev.refl _ _,hS,hint⟩
      ·simp only [List.length_nil,List.append_nil,Nat.add_zero,List.take_append_drop]
       exact (zeX hid).symm
      ·simp only [List.length_nil] at h2 h3 ⊢
       unfold Builtin.copy_
       cases a<;>simp [hT,run_underlying hu,zaW hsz,h1,h2,h3,storeCells]
     rcases zbz hx.2 hid hv with ⟨e1,e2,e3,ad,cap,rfl⟩ | ⟨b,cap,T',n,hm,rfl,hcap,hsh,hfit,hreach⟩ | ⟨hmn,rfl,h0⟩
     ·exact none0 (by omega) ⟨_,_,by rw [e1]⟩
     ·rcases Nat.eq_zero_or_pos ys.length with h0 | h0
      ·exact none0 h0 ⟨_,_,rfl⟩
      ·obtain ⟨C,T2,hb2,hsize2,hel2⟩:=zcV hS hid hm
       have hnew:(xs.take off++ys++xs.drop (off+ys.length)).length=xs.length:=by simp;omega
       have hfit2:off*sz'+D.size≤C.size:=by
        rw [h4,←Nat.add_mul]
        exact Nat.le_trans (Nat.mul_le_mul_right sz' (by omega)) hsize2
       have hone:=ziP rfl h4 h5
       have hst:=zeC (P:=P) b T2 D.toList (off*sz') 0 C S.w hb2 (by simpa using hfit2) hone
       have hov:(ovr C (off*sz') D.toList).size=C.size:=zeg _ _ _
       have en:=Ev.set S.h.length hid hm hb2 hov (xs':=xs.take off++ys++xs.drop (off+ys.length)) (by omega)
       have hover:=zl2 hel2 hsize2 h4 h5 (p:=off) (by omega)
       refine ⟨S.set id (.row sz' (xs.take off++ys++xs.drop (off+ys.length))) b (ovr C (off*sz') D.toList),goInt (ys.length:Int),rfl,?_,en,
        HOk.set hS hid hm hb2 hov (by omega) (by rw [hov,hnew];exact hsize2) hover,zas (.int _ _)⟩
       simp only [Nat.add_zero] at hst
       unfold Builtin.copy_
       simp [hT,run_underlying hu,zaW hsz,h1,h2,h3,hst,Mem.set]
     ·exact none0 (by omega) ⟨_,_,by rw [h0]⟩
    ·exact trivial
   ·exact trivial
  ·exact trivial
 ·exact trivial
theorem zxW (hS:HOk P M0 S) {b:Builtin} {ts:Array TypeId} {ty:TypeId} {cs:Array Bool} {C:Array Value} {args:List AV} (ha:zbW (Rep M0 S) C args) :
  zmg P M0 S (builtin b ts ty cs C) (zj6 P b ts args S.h):=by
 have one:∀ x,args=[x]→∃ v,C=#[v]∧Rep M0 S v x:=by
  intro x hx
  subst hx
  have hn:=ha.1
  have:C=#[C.getD 0 undef]:=by
   apply Array.ext
   ·simpa using hn
   ·intro i h1 h2
    have:i=0:=by simp at h2;omega
    subst this
    simp [h1]
  exact ⟨C.getD 0 undef,this,ha.2 0 x rfl⟩
 have two:∀ x y,args=[x,y]→∃ u v,C=#[u,v]∧Rep M0 S u x∧Rep M0 S v y:=by
  intro x y hx
  subst hx
  have hn:=ha.1
  have:C=#[C.getD 0 undef,C.getD 1 undef]:=by
   apply Array.ext
   ·simpa using hn
   ·intro i h1 h2
    have:i=0∨i=1:=by simp at h2;omega
    rcases this with rfl | rfl<;>simp [h1]
  exact ⟨_,_,this,ha.2 0 x rfl,ha.2 1 y rfl⟩
 unfold zj6
 split
 ·rename_i x
  obtain ⟨v,rfl,hv⟩:=one _ rfl
  split
  ·rename_i hts
   have:ts=#[ts.getD 0 0]:=by
    apply Array.ext
    ·simpa using hts
    ·intro i h1 h2
     have:i=0:=by simp at h2;omega
     subst this
     simp [h1]
   have h:=(zFT (P:=P) (T:=ts.getD 0 0) (ty:=ty) hS hv).op
   rw [←this] at h
   exact h
  ·exact trivial
 ·rename_i x y
  obtain ⟨u,v,rfl,hu,hv⟩:=two _ _ rfl
  split
  ·rename_i hts
   have:ts=#[ts.getD 0 0,ts.getD 1 0]:=by
    apply Array.ext
    ·simpa using hts
    ·intro i h1 h2
     have:i=0∨i=1:=by simp at h2;omega
     rcases this with rfl | rfl<;>simp [h1]
   have h:=(zrY (P:=P) (T:=ts.getD 0 0) (U:=ts.getD 1 0) (ty:=ty) hS hu hv).op
   rw [←this] at h
   exact h
  ·exact trivial
 ·rename_i j a k b
  obtain ⟨u,v,rfl,hu,hv⟩:=two _ _ rfl
  have:=zec hu;subst this
  have:=zec hv;subst this
  refine ⟨S,_,rfl,?_,Ev.refl _ _,hS,zas (.int _ _)⟩
  simp [builtin,Builtin.min_,Builtin.min2]
 ·rename_i j a k b
  obtain ⟨u,v,rfl,hu,hv⟩:=two _ _ rfl
  have:=zec hu;subst this
  have:=zec hv;subst this
  refine ⟨S,_,rfl,?_,Ev.refl _ _,hS,zas (.int _ _)⟩
  simp [builtin,Builtin.max_,Builtin.max2]
 ·show (builtin .recover ts ty cs C).run P S.w=.ok .recover S.w
  simp [builtin]
 ·rename_i x
  obtain ⟨v,rfl,hv⟩:=one _ rfl
  split
  ·rename_i hts
   have:ts=#[ts.getD 0 0]:=by
    apply Array.ext
    ·simpa using hts
    ·intro i h1 h2
     have:i=0:=by simp at h2;omega
     subst this
     simp [h1]
   have h:=(zBv (P:=P) (T:=ts.getD 0 0) (ty:=ty) hS hv).op
   rw [←this] at h
   exact h
  ·exact trivial
 ·rename_i x y
  obtain ⟨u,v,rfl,hu,hv⟩:=two _ _ rfl
  split
  ·rename_i hts
   exact (zD9 (P:=P) (T:=ts.getD 0 0) (ts:=ts) (ty:=ty) hS (by simp [Array.getD_eq_getD_getElem?,hts]) hu hv).op
  ·exact trivial
 ·exact trivial
theorem zHG (hS:HOk P M0 S) {mu:Nat→Bool} {o:Oper} {ρ:Operand→Value} {e:Operand→AV} (he:∀ x,Rep M0 S (ρ x) (e x)):zmg P M0 S (execOp ρ o) (aOp P mu o e S.h):=by
 have pure1:∀ (v:AV) (v':Value) (s:Sem Next),s.run P S.w=.ok (.value v') S.w→Rep M0 S v' v→zmg P M0 S s (.val v S.h) :=
  fun v v' s h1 h2=>⟨S,v',rfl,h1,Ev.refl _ _,hS,h2⟩
 unfold aOp
 split
 ·rename_i x hop;unfold execOp;rw [hop];exact pure1 _ _ _ rfl (he x)
 ·rename_i x hop;unfold execOp;rw [hop];exact pure1 _ _ _ rfl (he x)
 ·rename_i c a b hop
  unfold execOp
  rw [hop]
  dsimp only
  split
  ·rename_i t ht
   have:=he c
   rw [ht] at this
   have hb:=zik this
   refine pure1 _ (if t then ρ a else ρ b) _ ?_ (by cases t<;>simp<;>exact he _)
   simp only [hb]
   cases t<;>simp [asBool]
  ·exact trivial
 ·rename_i T hop
  unfold execOp
  rw [hop]
  dsimp only
  split
  ·split
   ·rename_i hz _
    exact (zvK hS hz).op
   ·exact trivial
  ·split
   ·rename_i z hz
    split
    ·rename_i hc
     exact (zB0 hS hz hc).op
    ·exact trivial
   ·exact trivial
 ·rename_i T x hop
  unfold execOp
  rw [hop]
  dsimp only
  split
  ·rename_i cs hcs
   exact (zrq hS (he x) hcs).op
  ·exact trivial
 ·rename_i T ps hop
  unfold execOp
  rw [hop]
  dsimp only
  refine (zBO hS (by simp) fun i p q h1 h2=>?_).op
  simp only [List.getElem?_map,Option.map_eq_some_iff,Array.toList_map] at h1 h2
  obtain ⟨r,h3,rfl⟩:=h1
  obtain ⟨r',h4,rfl⟩:=h2
  rw [h3] at h4
  cases h4
  exact ⟨rfl,he _⟩
 ·rename_i T n ps hop
  unfold execOp
  rw [hop]
  dsimp only
  refine (zsl hS (by simp) fun i p q h1 h2=>?_).op
  simp only [List.getElem?_map,Option.map_eq_some_iff,Array.toList_map] at h1 h2
  obtain ⟨r,h3,rfl⟩:=h1
  obtain ⟨r',h4,rfl⟩:=h2
  rw [h3] at h4
  cases h4
  exact ⟨rfl,he _⟩
 ·rename_i T a hop;unfold execOp;rw [hop];exact (zDD hS (he a)).op
 ·rename_i T a x hop;unfold execOp;rw [hop];exact (zAy hS (he a) (he x)).op
 ·rename_i x hop
  split
  ·rename_i sz xs i o' hx
   have h:=he x
   rw [hx] at h
   have h1:RepP (Avoid M0 S.m) S.w (ρ x) (.ptr sz xs i o'):=h
   generalize hv:ρ x=v at h1
   cases h1 with
   |ptr f hat hs hM hc hr=>exact pure1 _ _ _ (by unfold execOp;rw [hop];simp only [hv];rfl) (zas (.ptr f hat hs hM hc hr))
  ·rename_i id ver i o' hx
   split
   ·rename_i sz hl
    obtain ⟨xs,hid,hv⟩:=zge hl
    have h:=he x
    rw [hx] at h
    obtain ⟨b,hm,hvx⟩:=zbz h.2 hid hv
    exact pure1 _ _ _ (by unfold execOp;rw [hop];simp only [hvx];rfl) (zlN hid hv hm)
   ·exact trivial
  ·exact trivial
 ·rename_i op T x y yT hop;unfold execOp;rw [hop];exact (zGU hS (he x) (he y)).op
 ·rename_i op T x hop;unfold execOp;rw [hop];exact (zHA hS (he x)).op
 ·rename_i src dst x hop;unfold execOp;rw [hop];exact (zxJ hS (he x)).op
 ·rename_i T x hop
  unfold execOp
  rw [hop]
  dsimp only
  split
  ·rename_i hT
   split
   ·rename_i v hv
    have h:=he x
    rw [hv] at h
    refine pure1 _ (.iface T (ρ x)) _ ?_ (zas (.iface h))
    unfold zdn at hT
    split at hT
    ·cases hT
    ·rename_i d hd hu
     unfold Instr.makeInterface
     simp only [Sem.run_bind,run_underlying hu,Result.andThen_ok]
     cases d<;>first | rfl | exact absurd rfl (hd _)
    ·cases hT
   ·exact trivial
  ·exact trivial
 ·rename_i fn first cap hop
  unfold execOp
  rw [hop]
  dsimp only
  split
  ·rename_i hc
   exact (zvi hS (zjL he first) (zjL he cap) hc.1 hc.2).op
  ·exact trivial
 ·rename_i T l c hop;unfold execOp;rw [hop];exact (zts hS (he l) (he c)).op
 ·rename_i T x lo hi mx hop
  unfold execOp
  rw [hop]
  dsimp only
  have key:∀ (z:Option Operand) (a:AV) (v:Value),z.map e=some a→z.map ρ=some v→Rep M0 S v a:=by
   intro z a v h1 h2
   cases z with
   |none=>cases h1
   |some z=>cases h1;cases h2;exact he z
  exact (zAD hS (he x) (by cases lo<;>rfl) (by cases hi<;>rfl) (by cases mx<;>rfl) (key lo) (key hi) (key mx)).op
 ·rename_i T x f hop;unfold execOp;rw [hop];exact (ztP hS (he x)).op
 ·rename_i T x f hop;unfold execOp;rw [hop];exact (zBk hS (he x)).op
 ·rename_i T x i hop;unfold execOp;rw [hop];exact (ztG hS (he x) (he i)).op
 ·rename_i T x i hop;unfold execOp;rw [hop];exact (zA7 hS (he x) (he i)).op
 ·rename_i t i hop;unfold execOp;rw [hop];exact (zxF hS (he t)).op
 ·rename_i c hop
  unfold execOp
  rw [hop]
  dsimp only
  split
  ·rename_i f hc
   have:=zzm (P:=P) (he f) (zjL he c.args)
   simp only [resolve,hc]
   exact this
  ·rename_i b hc
   have:=zxW (P:=P) (b:=b) (ts:=c.argTypes) (ty:=o.type) (cs:=c.args.map fun | .const _=>true | _=>false) hS (zjL he c.args)
   simp only [resolve,hc]
   exact this
  ·exact trivial
 ·rename_i c hop
  unfold execOp
  rw [hop]
  dsimp only
  split
  ·rename_i f hc
   have:=zBr (P:=P) (he f) (zjL he c.args)
   simp only [resolve,hc]
   exact this
  ·exact trivial
 ·rename_i x hop
  unfold execOp
  rw [hop]
  dsimp only
  split
  ·rename_i t v hv
   have h:=he x
   rw [hv] at h
   have h1:RepP (Avoid M0 S.m) S.w (ρ x) (.iface t v):=h
   generalize hvx:ρ x=vx at h1
   cases h1 with
   |iface h2=>exact ⟨_,by simp [hvx,Instr.panic],.iface h2⟩
  ·exact trivial
 ·rename_i x T A ok hop;unfold execOp;rw [hop];exact (zr4 hS (he x)).op
 ·rename_i T x hop;unfold execOp;rw [hop];exact (zAO hS (he x)).op
 ·rename_i i b hop;unfold execOp;rw [hop];exact (zDx hS (he i)).op
 ·rename_i T r hop
  unfold execOp
  rw [hop]
  cases r with
  |none=>exact (zxk hS).op
  |some _=>exact trivial
 ·rename_i T x k ok hop;unfold execOp;rw [hop];exact (zzb hS (he x) (he k)).op
 ·rename_i T m k v hop;unfold execOp;rw [hop];exact (ztr hS (he m) (he k) (he v)).op
 ·exact trivial
end Abs
end Go.Proofs.YtahlnclapingiaaGreatDoor
