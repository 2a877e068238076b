/-
  CONTRACTS: chandler: read. No conditions but those in the theorems' heads.
-/
import Derived.Test.YtahlnclapingiaaGreatDoorChRepX
set_option linter.unusedSimpArgs false
set_option linter.unusedVariables false
namespace Go.Proofs.YtahlnclapingiaaGreatDoor
namespace Abs
namespace Ch
set_option maxRecDepth 4000
def D3:Heap:=[.row 1 [.p (.str .empty)],.row 1 [.p (.bool false)],.row 1 [.p (.int .i64 0)]]
def D10 (s:ChShop) (b:ChBooks) (ex:List PV):Heap:=B7 s b ex++D3
attribute [go_sem] D3 D10
def zme (s:ChShop) (b:ChBooks) (ex:List PV) (line:List UInt8) (r:AEnd) (h':Heap):Prop :=
 match say line with
 |.error e=>r=.panic (zdq e)∧∃ t,t.take 3=D3∧h'=H7 s b ex t
 |.ok c=>∃ F first caps t,t.take 3=D3∧r=.ret (.agg [.p (.bool c.written),.func (.func F) first caps])∧h'=H7 s b ex t∧(∀ o,o∈h'→zaI h'.length o)∧(∀ a,a∈first++caps→below h'.length a)∧zap Tryz.prog F (first++caps) h' (ze4 s b ex t (act s b c))
theorem zaL {s:ChShop} {b:ChBooks} {ex:List PV} {line:List UInt8} {e:Int} (h:say line=.error e) {h':Heap} (t:Heap) (hh:h'=B7 s b ex++t) (h3:t.take 3=D3:=by rfl):zme s b ex line (.panic (zdq e)) h':=by
 unfold zme
 rw [h]
 exact ⟨rfl,t,h3,hh⟩
theorem zw0 (c:UInt8):∀ (l:List UInt8),∀ w,w∈zaC c l→w.length≤l.length:=by
 intro l
 induction l with
 |nil=>intro w hw;simp [zaC] at hw;subst hw;exact Nat.le_refl _
 |cons x r ih =>
  intro w hw
  rw [zaC] at hw
  split at hw
  ·rcases List.mem_cons.1 hw with rfl | hw
   ·exact Nat.zero_le _
   ·exact Nat.le_succ_of_le (ih w hw)
  ·split at hw
   ·rename_i h
    exact absurd h (zrd _ _)
   ·rename_i a t h
    rw [h] at ih
    rcases List.mem_cons.1 hw with rfl | hw
    ·have:=ih a (by simp)
     simp only [List.length_cons];omega
    ·exact Nat.le_succ_of_le (ih w (by simp [hw]))
def zaG (o:Option Cmd):Except Int Cmd:=match o with | some c=>.ok c | none=>.error 6
theorem zyE {line:List UInt8} {v:List UInt8} {ws:List (List UInt8)} (h1:¬ 400<line.length) (h2:¬ line.take 5=zfW) (hsp:zaC 32 line=v::ws):say line=zaG (zdg v ws):=by
 unfold say
 rw [if_neg h1,if_neg h2,hsp]
 rfl
theorem zjI (ws:List (List UInt8)):zdg zqz ws=(match ws with | n::k::g::r=>(match zbF n,zbF k,zc5 g,zcD r with | some n,some k,some g,some r=>some (.lot n k g r) | _,_,_,_=>none) | _=>none):=by unfold zdg;rw [if_pos rfl];rfl
theorem zgq (ws:List (List UInt8)):zdg zkW ws=(match ws with | [n,c,l,g]=>(match zbF n,zbF c,zbF l,zc5 g with | some n,some c,some l,some g=>some (.batch n c l g) | _,_,_,_=>none) | _=>none):=by
 unfold zdg;rw [if_neg (by decide),if_pos rfl];rfl
theorem zmB (ws:List (List UInt8)):zdg znE ws=(match ws with | [n]=>(zbF n).map .drop | _=>none):=by
 unfold zdg;rw [if_neg (by decide),if_neg (by decide),if_pos rfl];rfl
theorem zmA (ws:List (List UInt8)):zdg znC ws=(match ws with | [n]=>(zbF n).map .plan | _=>none):=by
 unfold zdg;rw [if_neg (by decide),if_neg (by decide),if_neg (by decide),if_pos rfl];rfl
theorem zmz (ws:List (List UInt8)):zdg znB ws=(match ws with | [n]=>(zbF n).map .pour | _=>none):=by
 unfold zdg;rw [if_neg (by decide),if_neg (by decide),if_neg (by decide),if_neg (by decide),if_pos rfl];rfl
theorem zjH (ws:List (List UInt8)):zdg zib ws=(match ws with | [n]=>(zbF n).map .promise | _=>none):=by
 unfold zdg;rw [if_neg (by decide),if_neg (by decide),if_neg (by decide),if_neg (by decide),if_neg (by decide),if_pos rfl];rfl
theorem zlw (ws:List (List UInt8)):zdg zqA ws=(match ws with | [n,g]=>(match zbF n,zc5 g with | some n,some g=>some (.box n g) | _,_=>none) | _=>none):=by
 unfold zdg;rw [if_neg (by decide),if_neg (by decide),if_neg (by decide),if_neg (by decide),if_neg (by decide),if_neg (by decide),if_pos rfl];rfl
theorem zrf (ws:List (List UInt8)):zdg znD ws=(match ws with | []=>some .look | _=>none):=by
 unfold zdg;rw [if_neg (by decide),if_neg (by decide),if_neg (by decide),if_neg (by decide),if_neg (by decide),if_neg (by decide),if_neg (by decide),if_pos rfl];rfl
theorem zf4 (ws:List (List UInt8)):zdg znA ws=(match ws with | [n,a,b,c,d]=>(match zbF n,zc5 a,zc5 b,zc5 c,zc5 d with | some n,some a,some b,some c,some d=>some (.wick n a b c d) | _,_,_,_,_=>none) | _=>none):=by
 unfold zdg;rw [if_neg (by decide),if_neg (by decide),if_neg (by decide),if_neg (by decide),if_neg (by decide),if_neg (by decide),if_neg (by decide),if_neg (by decide),if_pos rfl];rfl
theorem zhu (ws:List (List UInt8)):zdg zkV ws=(match ws with | [a,b,c]=>(match zc5 a,zc5 b,zc5 c with | some a,some b,some c=>some (.blend a b c) | _,_,_=>none) | _=>none):=by
 unfold zdg;rw [if_neg (by decide),if_neg (by decide),if_neg (by decide),if_neg (by decide),if_neg (by decide),if_neg (by decide),if_neg (by decide),if_neg (by decide),if_neg (by decide),if_pos rfl];rfl
theorem zpd (ws:List (List UInt8)):zdg zkU ws=(match ws with | []=>some .stock | _=>none):=by
 unfold zdg;rw [if_neg (by decide),if_neg (by decide),if_neg (by decide),if_neg (by decide),if_neg (by decide),if_neg (by decide),if_neg (by decide),if_neg (by decide),if_neg (by decide),if_neg (by decide),if_pos rfl];rfl
theorem zDk {v:List UInt8} {ws:List (List UInt8)} (c0:(v==zqz)=false) (c1:(v==zkW)=false) (c2:(v==znE)=false) (c3:(v==znC)=false) (c4:(v==znB)=false) (c5:(v==zib)=false) (c6:(v==zqA)=false) (c7:(v==znD)=false)
  (c8:(v==znA)=false) (c9:(v==zkV)=false) (c10:(v==zkU)=false):zdg v ws=none:=by
 rw [beq_eq_false_iff_ne] at c0 c1 c2 c3 c4 c5 c6 c7 c8 c9 c10
 unfold zdg
 rw [if_neg c0,if_neg c1,if_neg c2,if_neg c3,if_neg c4,if_neg c5,if_neg c6,if_neg c7,if_neg c8,if_neg c9,if_neg c10]
theorem zzf (v:List UInt8):(bs v==({ data:=#[108,111,116] }:ByteArray))=(v==zqz):=zbZ v zqz
theorem ztA (v:List UInt8):(bs v==({ data:=#[98,97,116,99,104] }:ByteArray))=(v==zkW):=zbZ v zkW
theorem zwi (v:List UInt8):(bs v==({ data:=#[100,114,111,112] }:ByteArray))=(v==znE):=zbZ v znE
theorem zwg (v:List UInt8):(bs v==({ data:=#[112,108,97,110] }:ByteArray))=(v==znC):=zbZ v znC
theorem zwf (v:List UInt8):(bs v==({ data:=#[112,111,117,114] }:ByteArray))=(v==znB):=zbZ v znB
theorem zpy (v:List UInt8):(bs v==({ data:=#[112,114,111,109,105,115,101] }:ByteArray))=(v==zib):=zbZ v zib
theorem zzg (v:List UInt8):(bs v==({ data:=#[98,111,120] }:ByteArray))=(v==zqA):=zbZ v zqA
theorem zwh (v:List UInt8):(bs v==({ data:=#[108,111,111,107] }:ByteArray))=(v==znD):=zbZ v znD
theorem zwe (v:List UInt8):(bs v==({ data:=#[119,105,99,107] }:ByteArray))=(v==znA):=zbZ v znA
theorem ztz (v:List UInt8):(bs v==({ data:=#[98,108,101,110,100] }:ByteArray))=(v==zkV):=zbZ v zkV
theorem zty (v:List UInt8):(bs v==({ data:=#[115,116,111,99,107] }:ByteArray))=(v==zkU):=zbZ v zkU
theorem kF:zaZ Tryz.prog 77=.func:=by kernel_rfl
def zsv (v:Int):AV:=.p (zay v)
theorem zEH (n:Nat) (x:Int):below n (zsv x)=True:=eq_true trivial
attribute [go_sem] zEH
theorem zFU (v:List UInt8):(bs v==({ data:=#[120] }:ByteArray))=(v==kX):=zbZ v kX
theorem keepS (n:Nat) (a:AObj) (h:Heap):zdm (n+1) (a::h)=.dead::zdm n h:=by
 unfold zdm
 rw [List.mapIdx_cons]
 congr 1
 ·apply List.ext_getElem?
  intro i
  simp
theorem zKH (a:AObj) (h:Heap):zdm 0 (a::h)=a::h.map fun _=>.dead:=by
 unfold zdm
 rw [List.mapIdx_cons]
 congr 1
 apply List.ext_getElem?
 intro i
 simp
theorem zFW (a0 a1 a2 a3 a4 a5 a6 a7 a8 a9 a10 a11 a12 a13:AObj) (h:Heap):zdm 13 (a0::a1::a2::a3::a4::a5::a6::a7::a8::a9::a10::a11::a12::a13::h)=.dead::.dead::.dead::.dead::.dead::.dead::.dead::.dead::.dead::.dead::.dead::.dead::.dead::a13::h.map fun _=>.dead:=by
 rw [keepS,keepS,keepS,keepS,keepS,keepS,keepS,keepS,keepS,keepS,keepS,keepS,keepS,zKH]
def zyl:Hints:=zcy [(66,.app 64),(67,.low),(68,.low),(1015066,.sto),(5000001,.app 7)]
theorem zFK:zaf zyl Tryz.f54=true:=by kernel_rfl
theorem zdV {s:ChShop} {b:ChBooks} {ex:List PV} {line:List UInt8} {c:Cmd} (h:say line=.ok c) {F:FuncId} {first caps:List AV} {h':Heap} (t:Heap) (hh:h'=H7 s b ex t) (ho:∀ o,o∈h'→zaI h'.length o) (ha:∀ a,a∈first++caps→below h'.length a)
  (hc:zap Tryz.prog F (first++caps) (H7 s b ex t) (ze4 s b ex t (act s b c))) (h3:t.take 3=D3:=by rfl):zme s b ex line (.ret (.agg [.p (.bool c.written),.func (.func F) first caps])) h':=by
 unfold zme
 rw [h]
 subst hh
 exact ⟨F,first,caps,t,h3,rfl,rfl,ho,ha,hc⟩
set_option maxHeartbeats 4000000 in
theorem zKL (s:ChShop) (b:ChBooks) (ex:List PV) (n:Nat) (hs:SOk s) (hb:BkOk s b n) (line:List UInt8):zap Tryz.prog 54 [.ptr 2 1 0 0,.p (.str (bs line))] (D10 s b ex) (zme s b ex line):=by
 refine zan zad (fn:=Tryz.f54) (n:=167) (rs:=[.cell 4 126]) (by kernel_rfl) rfl rfl rfl zFK (Nat.le_of_ble_eq_true rfl) ?_
 simp only [go_sem,simprocAttr]
 refine zak (fun h1=>?_) (fun h1=>?_)
 rotate_left
 ·have h1':400<line.length:=by rw [zao] at h1;simp at h1;omega
  simp only [go_sem,simprocAttr]
  exact zaL (e:=3) (by rw [say,if_pos h1']) _ rfl
 have h1':¬ 400<line.length:=by rw [zao] at h1;simp at h1;omega
 simp only [go_sem,simprocAttr]
 have hl9:line.length<1000000000:=by omega
 refine zab (zxU line zfW hl9 (by decide)) rfl ?_
 by_cases h2:line.take 5=zfW
 ·have e1:decide (line.take zfW.length=zfW)=true:=decide_eq_true h2
  have e2:(if line.take zfW.length=zfW then line.drop zfW.length else line)=line.drop 5:=if_pos h2
  simp only [e1,e2,go_sem,simprocAttr]
  refine zdV (c:=.test (line.drop 5)) (by rw [say,if_neg h1',if_pos h2]) _ rfl ?_ ?_ (zKY s b ex _ n hs hb 10 12 _ rfl rfl)
  ·simp only [go_sem,simprocAttr]
  ·simp only [go_sem,simprocAttr]
 have e1:decide (line.take zfW.length=zfW)=false:=decide_eq_false h2
 have e2:(if line.take zfW.length=zfW then line.drop zfW.length else line)=line:=if_neg h2
 have hww:=zw0 32 line
 simp only [e1,e2,go_sem,simprocAttr]
 refine zab (zrM line 32 hl9) rfl ?_
 cases hsp:zaC 32 line with
 |nil=>exact absurd hsp (zrd _ _)
 |cons v ws =>
 rw [hsp] at hww
 have hsay:=zyE h1' h2 hsp
 have hwl:∀ w,w∈ws→w.length≤1000000:=fun w hw=>by have:=hww w (by simp [hw]);omega
 simp only [zaE,go_sem,simprocAttr]
 refine zbk (zpI v ws 13 _ rfl) ?_
 simp only [go_sem,simprocAttr]
 cases c0:v==zqz
 rotate_left
 ·have hv:=eq_of_beq c0
  subst hv
  simp only [zzf,c0,go_sem,simprocAttr]
  refine zfd ws 13 14 rfl rfl (fun w1 r1 e1 n1=>?_) (fun hf o=>?_)
  rotate_left
  ·simp only [go_sem,simprocAttr]
   exact zaL (e:=6) (by rw [hsay,zjI];rcases ws with _ | ⟨x1,_ | ⟨x2,_ | ⟨x3,_ | ⟨x4,_ | ⟨x5,_⟩⟩⟩⟩⟩<;>simp_all [zaG]) _ rfl
  subst e1
  simp only [za3,zaE,go_sem,simprocAttr]
  refine zfd r1 13 14 rfl rfl (fun w2 r2 e2 n2=>?_) (fun hf o=>?_)
  rotate_left
  ·simp only [go_sem,simprocAttr]
   exact zaL (e:=6) (by rw [hsay,zjI];rcases r1 with _ | ⟨x1,_ | ⟨x2,_ | ⟨x3,_ | ⟨x4,_⟩⟩⟩⟩<;>simp_all [zaG]) _ rfl
  subst e2
  simp only [za3,zaE,go_sem,simprocAttr]
  refine zdM r2 13 14 (fun w hw=>hwl w (by simp [hw])) rfl rfl (fun w3 r3 z3 e3 n3=>?_) (fun hf o=>?_)
  rotate_left
  ·simp only [go_sem,simprocAttr]
   exact zaL (e:=6) (by rw [hsay,zjI];rcases r2 with _ | ⟨x1,_ | ⟨x2,_ | ⟨x3,_⟩⟩⟩<;>simp_all [zaG]) _ rfl
  subst e3
  simp only [za3,zaE,go_sem,simprocAttr]
  have hr3:r3.length≤400:=by
   have h:=zkf 32 line
   rw [hsp] at h
   simp at h;omega
  refine zq3 [2,4,7,10,11,12,13,14,15] 19 1 (show 10≤19 by decide) (show 10≤20 by decide) rfl ?_ ?_ rfl ?_
  ·simp only [go_sem,simprocAttr]
  ·simp only [go_sem,simprocAttr]
  simp only [go_sem,simprocAttr]
  refine zfc [2,4,7,10,11,12,13,14,15] (σ:=List (List UInt8)×List Int) (fun q=>zcD r3=(zcD q.1).map (q.2++·)∧(∀ w,w∈q.1→w.length≤1000000)∧q.2.length+q.1.length=r3.length) (fun q=>q.1.length) (fun q=>[])
   (fun q=>D10 s b ex++[.row 1 [.ptr 2 1 0 0],.row 2 [.p (.agg [.bool false,.nilfunc])],.row 1 [.p (.str (bs line))],za3 q.1,zeA 13,.row 2 [.p (.agg [.bool false,.nilfunc])],.row 1 [.p (.str (bs w1))],.row 1 [.p (.str (bs w2))],.row 1 [.p (.int .i64 z3)],.row 1 [.slice 20 q.2.length 0 q.2.length],.row 1 (q.2.map zsv)])
   (r3,[]) ⟨?_,fun w hw=>hwl w (by simp [hw]),by simp⟩ ?_ ?_
  ·show zcD r3=(zcD r3).map ([]++·)
   cases zcD r3<;>rfl
  ·simp only [za3,zeA,zaE,go_sem,simprocAttr]
  rintro ⟨q,rs⟩ ⟨i1,i2,i3⟩
  dsimp only at i1 i2 i3
  cases q with
  |nil =>
   have hc:say line=.ok (.lot w1 w2 z3 rs):=by
    rw [hsay,zjI]
    have:zcD r3=some rs:=by rw [i1];simp [zcD]
    simp only [n1,n2,n3,this]
    rfl
   simp only [za3,zeA,zaE,kF,go_sem,simprocAttr]
   refine zak (fun _=>?_) (fun h=>by cases h)
   simp only [go_sem,simprocAttr]
   refine zdV hc _ rfl ?_ ?_ (zNw s b ex _ n hs hb 10 16 17 18 19 20 _ _ _ rs (by simp at i3;omega) rfl rfl rfl rfl rfl (by decide) rfl)
   ·simp only [go_sem,simprocAttr]
   ·simp only [go_sem,simprocAttr]
  |cons w r =>
   have hn0:decide ((0:Int)<((r.length+1:Nat):Int))=true:=decide_eq_true (by omega)
   have hn1:(0:Int)<((r.length+1:Nat):Int):=by omega
   have hn2:(1:Int)≤((r.length+1:Nat):Int):=by omega
   have htk:List.take (r.length+1) (PV.str (bs w)::r.map fun x=>PV.str (bs x))=PV.str (bs w)::r.map fun x=>PV.str (bs x):=List.take_of_length_le (by simp)
   have hrm:rs.length+1≤zar:=by simp at i3;simp only [zar];omega
   cases hx:w==kX
   rotate_left
   ·have hwx:=eq_of_beq hx
    simp only [za3,zeA,zaE,hn0,hn1,hn2,htk,hrm,zFU,hx,zyl,zal,zFW,go_sem,simprocAttr]
    refine And.intro (.inr ⟨20,_,rfl,rfl⟩) ?_
    refine zb5 (r,rs++[-1]) ⟨?_,fun w hw=>i2 w (by simp [hw]),by simp at i3 ⊢;omega⟩ (by dsimp only [List.length_cons];omega) ?_
    ·show zcD r3=(zcD r).map ((rs++[-1])++·)
     rw [i1,zcD,if_pos hwx]
     cases zcD r<;>simp
    ·simp only [za3,zeA,zaE,List.length_append,List.length_singleton,List.map_append,List.map_cons,List.map_nil,zsv,go_sem,simprocAttr]
   simp only [za3,zeA,zaE,hn0,hn1,hn2,htk,hrm,zFU,hx,go_sem,simprocAttr]
   refine zdM (w::r) 13 14 i2 rfl rfl (fun w' r' z' e' n'=>?_) (fun hf o=>?_)
   rotate_left
   ·simp only [go_sem,simprocAttr]
    exact zaL (e:=6) (by
     rw [hsay,zjI]
     have hnw:=hf w r rfl
     have:zcD r3=none:=by rw [i1,zcD,if_neg (by simpa using hx),hnw];rfl
     simp only [n1,n2,n3,this]
     rfl) _ rfl
   cases e'
   simp only [hrm,zyl,zal,go_sem,simprocAttr]
   refine zb5 (r,rs++[z']) ⟨?_,fun w hw=>i2 w (by simp [hw]),by simp at i3 ⊢;omega⟩ (by dsimp only [List.length_cons];omega) ?_
   ·show zcD r3=(zcD r).map ((rs++[z'])++·)
    rw [i1,zcD,if_neg (by simpa using hx),n']
    cases zcD r<;>simp
   ·simp only [za3,zeA,zaE,List.length_append,List.length_singleton,List.map_append,List.map_cons,List.map_nil,zsv,go_sem,simprocAttr]
 simp only [zzf,c0,go_sem,simprocAttr]
 cases c1:v==zkW
 rotate_left
 ·have hv:=eq_of_beq c1
  subst hv
  simp only [ztA,c1,go_sem,simprocAttr]
  refine zfd ws 13 14 rfl rfl (fun w1 r1 e1 n1=>?_) (fun hf o=>?_)
  rotate_left
  ·simp only [go_sem,simprocAttr]
   exact zaL (e:=6) (by rw [hsay,zgq];rcases ws with _ | ⟨x1,_ | ⟨x2,_ | ⟨x3,_ | ⟨x4,_ | ⟨x5,_⟩⟩⟩⟩⟩<;>simp_all [zaG]) _ rfl
  subst e1
  simp only [za3,zaE,go_sem,simprocAttr]
  refine zfd r1 13 14 rfl rfl (fun w2 r2 e2 n2=>?_) (fun hf o=>?_)
  rotate_left
  ·simp only [go_sem,simprocAttr]
   exact zaL (e:=6) (by rw [hsay,zgq];rcases r1 with _ | ⟨x1,_ | ⟨x2,_ | ⟨x3,_ | ⟨x4,_⟩⟩⟩⟩<;>simp_all [zaG]) _ rfl
  subst e2
  simp only [za3,zaE,go_sem,simprocAttr]
  refine zfd r2 13 14 rfl rfl (fun w3 r3 e3 n3=>?_) (fun hf o=>?_)
  rotate_left
  ·simp only [go_sem,simprocAttr]
   exact zaL (e:=6) (by rw [hsay,zgq];rcases r2 with _ | ⟨x1,_ | ⟨x2,_ | ⟨x3,_⟩⟩⟩<;>simp_all [zaG]) _ rfl
  subst e3
  simp only [za3,zaE,go_sem,simprocAttr]
  refine zdM r3 13 14 (fun w hw=>hwl w (by simp [hw])) rfl rfl (fun w4 r4 z4 e4 n4=>?_) (fun hf o=>?_)
  rotate_left
  ·simp only [go_sem,simprocAttr]
   exact zaL (e:=6) (by rw [hsay,zgq];rcases r3 with _ | ⟨x1,_ | ⟨x2,_⟩⟩<;>simp_all [zaG]) _ rfl
  subst e4
  simp only [za3,zaE,go_sem,simprocAttr]
  cases r4 with
  |cons y q =>
   have hq:(((q.length+1:Nat):Int)==0)=false:=by rw [beq_eq_false_iff_ne];omega
   simp only [hq,kF,za3,zaE,go_sem,simprocAttr]
   refine zak (fun h=>by cases h) (fun _=>?_)
   simp only [go_sem,simprocAttr]
   exact zaL (e:=6) (by rw [hsay,zgq];simp_all [zaG]) _ rfl
  |nil =>
   simp only [kF,za3,zaE,go_sem,simprocAttr]
   refine zak (fun _=>?_) (fun h=>by cases h)
   simp only [go_sem,simprocAttr]
   have hc:say line=.ok (.batch w1 w2 w3 z4):=by rw [hsay,zgq];simp_all [zaG]
   refine zdV hc _ rfl ?_ ?_ (zGt s b ex _ n hs hb 10 16 17 18 19 _ _ _ _ rfl rfl rfl rfl rfl)
   ·simp only [go_sem,simprocAttr]
   ·simp only [go_sem,simprocAttr]
 simp only [ztA,c1,go_sem,simprocAttr]
 cases c2:v==znE
 rotate_left
 ·have hv:=eq_of_beq c2
  subst hv
  simp only [zwi,c2,go_sem,simprocAttr]
  refine zfd ws 13 14 rfl rfl (fun w1 r1 e1 n1=>?_) (fun hf o=>?_)
  rotate_left
  ·simp only [go_sem,simprocAttr]
   exact zaL (e:=6) (by rw [hsay,zmB];rcases ws with _ | ⟨x1,_ | ⟨x2,_⟩⟩<;>simp_all [zaG]) _ rfl
  subst e1
  simp only [za3,zaE,go_sem,simprocAttr]
  cases r1 with
  |cons y q =>
   have hq:(((q.length+1:Nat):Int)==0)=false:=by rw [beq_eq_false_iff_ne];omega
   simp only [hq,kF,za3,zaE,go_sem,simprocAttr]
   refine zak (fun h=>by cases h) (fun _=>?_)
   simp only [go_sem,simprocAttr]
   exact zaL (e:=6) (by rw [hsay,zmB];simp_all [zaG]) _ rfl
  |nil =>
   simp only [kF,za3,zaE,go_sem,simprocAttr]
   refine zak (fun _=>?_) (fun h=>by cases h)
   simp only [go_sem,simprocAttr]
   have hc:say line=.ok (.drop w1):=by rw [hsay,zmB];simp_all [zaG]
   refine zdV hc _ rfl ?_ ?_ (zGp s b ex _ n hs hb 10 16 _ rfl rfl)
   ·simp only [go_sem,simprocAttr]
   ·simp only [go_sem,simprocAttr]
 simp only [zwi,c2,go_sem,simprocAttr]
 cases c3:v==znC
 rotate_left
 ·have hv:=eq_of_beq c3
  subst hv
  simp only [zwg,c3,go_sem,simprocAttr]
  refine zfd ws 13 14 rfl rfl (fun w1 r1 e1 n1=>?_) (fun hf o=>?_)
  rotate_left
  ·simp only [go_sem,simprocAttr]
   exact zaL (e:=6) (by rw [hsay,zmA];rcases ws with _ | ⟨x1,_ | ⟨x2,_⟩⟩<;>simp_all [zaG]) _ rfl
  subst e1
  simp only [za3,zaE,go_sem,simprocAttr]
  cases r1 with
  |cons y q =>
   have hq:(((q.length+1:Nat):Int)==0)=false:=by rw [beq_eq_false_iff_ne];omega
   simp only [hq,kF,za3,zaE,go_sem,simprocAttr]
   refine zak (fun h=>by cases h) (fun _=>?_)
   simp only [go_sem,simprocAttr]
   exact zaL (e:=6) (by rw [hsay,zmA];simp_all [zaG]) _ rfl
  |nil =>
   simp only [kF,za3,zaE,go_sem,simprocAttr]
   refine zak (fun _=>?_) (fun h=>by cases h)
   simp only [go_sem,simprocAttr]
   have hc:say line=.ok (.plan w1):=by rw [hsay,zmA];simp_all [zaG]
   refine zdV hc _ rfl ?_ ?_ (zGo s b ex _ n hs hb 10 16 _ rfl rfl)
   ·simp only [go_sem,simprocAttr]
   ·simp only [go_sem,simprocAttr]
 simp only [zwg,c3,go_sem,simprocAttr]
 cases c4:v==znB
 rotate_left
 ·have hv:=eq_of_beq c4
  subst hv
  simp only [zwf,c4,go_sem,simprocAttr]
  refine zfd ws 13 14 rfl rfl (fun w1 r1 e1 n1=>?_) (fun hf o=>?_)
  rotate_left
  ·simp only [go_sem,simprocAttr]
   exact zaL (e:=6) (by rw [hsay,zmz];rcases ws with _ | ⟨x1,_ | ⟨x2,_⟩⟩<;>simp_all [zaG]) _ rfl
  subst e1
  simp only [za3,zaE,go_sem,simprocAttr]
  cases r1 with
  |cons y q =>
   have hq:(((q.length+1:Nat):Int)==0)=false:=by rw [beq_eq_false_iff_ne];omega
   simp only [hq,kF,za3,zaE,go_sem,simprocAttr]
   refine zak (fun h=>by cases h) (fun _=>?_)
   simp only [go_sem,simprocAttr]
   exact zaL (e:=6) (by rw [hsay,zmz];simp_all [zaG]) _ rfl
  |nil =>
   simp only [kF,za3,zaE,go_sem,simprocAttr]
   refine zak (fun _=>?_) (fun h=>by cases h)
   simp only [go_sem,simprocAttr]
   have hc:say line=.ok (.pour w1):=by rw [hsay,zmz];simp_all [zaG]
   refine zdV hc _ rfl ?_ ?_ (zGn s b ex _ n hs hb 10 16 _ rfl rfl)
   ·simp only [go_sem,simprocAttr]
   ·simp only [go_sem,simprocAttr]
 simp only [zwf,c4,go_sem,simprocAttr]
 cases c5:v==zib
 rotate_left
 ·have hv:=eq_of_beq c5
  subst hv
  simp only [zpy,c5,go_sem,simprocAttr]
  refine zfd ws 13 14 rfl rfl (fun w1 r1 e1 n1=>?_) (fun hf o=>?_)
  rotate_left
  ·simp only [go_sem,simprocAttr]
   exact zaL (e:=6) (by rw [hsay,zjH];rcases ws with _ | ⟨x1,_ | ⟨x2,_⟩⟩<;>simp_all [zaG]) _ rfl
  subst e1
  simp only [za3,zaE,go_sem,simprocAttr]
  cases r1 with
  |cons y q =>
   have hq:(((q.length+1:Nat):Int)==0)=false:=by rw [beq_eq_false_iff_ne];omega
   simp only [hq,kF,za3,zaE,go_sem,simprocAttr]
   refine zak (fun h=>by cases h) (fun _=>?_)
   simp only [go_sem,simprocAttr]
   exact zaL (e:=6) (by rw [hsay,zjH];simp_all [zaG]) _ rfl
  |nil =>
   simp only [kF,za3,zaE,go_sem,simprocAttr]
   refine zak (fun _=>?_) (fun h=>by cases h)
   simp only [go_sem,simprocAttr]
   have hc:say line=.ok (.promise w1):=by rw [hsay,zjH];simp_all [zaG]
   refine zdV hc _ rfl ?_ ?_ (zBt s b ex _ n hs hb 10 16 _ rfl rfl)
   ·simp only [go_sem,simprocAttr]
   ·simp only [go_sem,simprocAttr]
 simp only [zpy,c5,go_sem,simprocAttr]
 cases c6:v==zqA
 rotate_left
 ·have hv:=eq_of_beq c6
  subst hv
  simp only [zzg,c6,go_sem,simprocAttr]
  refine zfd ws 13 14 rfl rfl (fun w1 r1 e1 n1=>?_) (fun hf o=>?_)
  rotate_left
  ·simp only [go_sem,simprocAttr]
   exact zaL (e:=6) (by rw [hsay,zlw];rcases ws with _ | ⟨x1,_ | ⟨x2,_ | ⟨x3,_⟩⟩⟩<;>simp_all [zaG]) _ rfl
  subst e1
  simp only [za3,zaE,go_sem,simprocAttr]
  refine zdM r1 13 14 (fun w hw=>hwl w (by simp [hw])) rfl rfl (fun w2 r2 z2 e2 n2=>?_) (fun hf o=>?_)
  rotate_left
  ·simp only [go_sem,simprocAttr]
   exact zaL (e:=6) (by rw [hsay,zlw];rcases r1 with _ | ⟨x1,_ | ⟨x2,_⟩⟩<;>simp_all [zaG]) _ rfl
  subst e2
  simp only [za3,zaE,go_sem,simprocAttr]
  cases r2 with
  |cons y q =>
   have hq:(((q.length+1:Nat):Int)==0)=false:=by rw [beq_eq_false_iff_ne];omega
   simp only [hq,kF,za3,zaE,go_sem,simprocAttr]
   refine zak (fun h=>by cases h) (fun _=>?_)
   simp only [go_sem,simprocAttr]
   exact zaL (e:=6) (by rw [hsay,zlw];simp_all [zaG]) _ rfl
  |nil =>
   simp only [kF,za3,zaE,go_sem,simprocAttr]
   refine zak (fun _=>?_) (fun h=>by cases h)
   simp only [go_sem,simprocAttr]
   have hc:say line=.ok (.box w1 z2):=by rw [hsay,zlw];simp_all [zaG]
   refine zdV hc _ rfl ?_ ?_ (zNx s b ex _ n hs hb 10 16 17 _ _ rfl rfl rfl)
   ·simp only [go_sem,simprocAttr]
   ·simp only [go_sem,simprocAttr]
 simp only [zzg,c6,go_sem,simprocAttr]
 cases c7:v==znD
 rotate_left
 ·have hv:=eq_of_beq c7
  subst hv
  simp only [zwh,c7,go_sem,simprocAttr]
  cases ws with
  |cons y q =>
   have hq:(((q.length+1:Nat):Int)==0)=false:=by rw [beq_eq_false_iff_ne];omega
   simp only [hq,kF,za3,zaE,go_sem,simprocAttr]
   refine zak (fun h=>by cases h) (fun _=>?_)
   simp only [go_sem,simprocAttr]
   exact zaL (e:=6) (by rw [hsay,zrf];simp_all [zaG]) _ rfl
  |nil =>
   simp only [kF,za3,zaE,go_sem,simprocAttr]
   refine zak (fun _=>?_) (fun h=>by cases h)
   simp only [go_sem,simprocAttr]
   have hc:say line=.ok (.look):=by rw [hsay,zrf];simp_all [zaG]
   refine zdV hc _ rfl ?_ ?_ (zff (zxB s b ex n hb) (by simp only [go_sem,simprocAttr]) _)
   ·simp only [go_sem,simprocAttr]
   ·simp only [go_sem,simprocAttr]
 simp only [zwh,c7,go_sem,simprocAttr]
 cases c8:v==znA
 rotate_left
 ·have hv:=eq_of_beq c8
  subst hv
  simp only [zwe,c8,go_sem,simprocAttr]
  refine zfd ws 13 14 rfl rfl (fun w1 r1 e1 n1=>?_) (fun hf o=>?_)
  rotate_left
  ·simp only [go_sem,simprocAttr]
   exact zaL (e:=6) (by rw [hsay,zf4];rcases ws with _ | ⟨x1,_ | ⟨x2,_ | ⟨x3,_ | ⟨x4,_ | ⟨x5,_ | ⟨x6,_⟩⟩⟩⟩⟩⟩<;>simp_all [zaG]) _ rfl
  subst e1
  simp only [za3,zaE,go_sem,simprocAttr]
  refine zdM r1 13 14 (fun w hw=>hwl w (by simp [hw])) rfl rfl (fun w2 r2 z2 e2 n2=>?_) (fun hf o=>?_)
  rotate_left
  ·simp only [go_sem,simprocAttr]
   exact zaL (e:=6) (by rw [hsay,zf4];rcases r1 with _ | ⟨x1,_ | ⟨x2,_ | ⟨x3,_ | ⟨x4,_ | ⟨x5,_⟩⟩⟩⟩⟩<;>simp_all [zaG]) _ rfl
  subst e2
  simp only [za3,zaE,go_sem,simprocAttr]
  refine zdM r2 13 14 (fun w hw=>hwl w (by simp [hw])) rfl rfl (fun w3 r3 z3 e3 n3=>?_) (fun hf o=>?_)
  rotate_left
  ·simp only [go_sem,simprocAttr]
   exact zaL (e:=6) (by rw [hsay,zf4];rcases r2 with _ | ⟨x1,_ | ⟨x2,_ | ⟨x3,_ | ⟨x4,_⟩⟩⟩⟩<;>simp_all [zaG]) _ rfl
  subst e3
  simp only [za3,zaE,go_sem,simprocAttr]
  refine zdM r3 13 14 (fun w hw=>hwl w (by simp [hw])) rfl rfl (fun w4 r4 z4 e4 n4=>?_) (fun hf o=>?_)
  rotate_left
  ·simp only [go_sem,simprocAttr]
   exact zaL (e:=6) (by rw [hsay,zf4];rcases r3 with _ | ⟨x1,_ | ⟨x2,_ | ⟨x3,_⟩⟩⟩<;>simp_all [zaG]) _ rfl
  subst e4
  simp only [za3,zaE,go_sem,simprocAttr]
  refine zdM r4 13 14 (fun w hw=>hwl w (by simp [hw])) rfl rfl (fun w5 r5 z5 e5 n5=>?_) (fun hf o=>?_)
  rotate_left
  ·simp only [go_sem,simprocAttr]
   exact zaL (e:=6) (by rw [hsay,zf4];rcases r4 with _ | ⟨x1,_ | ⟨x2,_⟩⟩<;>simp_all [zaG]) _ rfl
  subst e5
  simp only [za3,zaE,go_sem,simprocAttr]
  cases r5 with
  |cons y q =>
   have hq:(((q.length+1:Nat):Int)==0)=false:=by rw [beq_eq_false_iff_ne];omega
   simp only [hq,kF,za3,zaE,go_sem,simprocAttr]
   refine zak (fun h=>by cases h) (fun _=>?_)
   simp only [go_sem,simprocAttr]
   exact zaL (e:=6) (by rw [hsay,zf4];simp_all [zaG]) _ rfl
  |nil =>
   simp only [kF,za3,zaE,go_sem,simprocAttr]
   refine zak (fun _=>?_) (fun h=>by cases h)
   simp only [go_sem,simprocAttr]
   have hc:say line=.ok (.wick w1 z2 z3 z4 z5):=by rw [hsay,zf4];simp_all [zaG]
   refine zdV hc _ rfl ?_ ?_ (zKX s b ex _ n hs hb 10 16 17 _ _ _ _ _ rfl rfl rfl)
   ·simp only [go_sem,simprocAttr]
   ·simp only [go_sem,simprocAttr]
 simp only [zwe,c8,go_sem,simprocAttr]
 cases c9:v==zkV
 rotate_left
 ·have hv:=eq_of_beq c9
  subst hv
  simp only [ztz,c9,go_sem,simprocAttr]
  refine zdM ws 13 14 (fun w hw=>hwl w (by simp [hw])) rfl rfl (fun w1 r1 z1 e1 n1=>?_) (fun hf o=>?_)
  rotate_left
  ·simp only [go_sem,simprocAttr]
   exact zaL (e:=6) (by rw [hsay,zhu];rcases ws with _ | ⟨x1,_ | ⟨x2,_ | ⟨x3,_ | ⟨x4,_⟩⟩⟩⟩<;>simp_all [zaG]) _ rfl
  subst e1
  simp only [za3,zaE,go_sem,simprocAttr]
  refine zdM r1 13 14 (fun w hw=>hwl w (by simp [hw])) rfl rfl (fun w2 r2 z2 e2 n2=>?_) (fun hf o=>?_)
  rotate_left
  ·simp only [go_sem,simprocAttr]
   exact zaL (e:=6) (by rw [hsay,zhu];rcases r1 with _ | ⟨x1,_ | ⟨x2,_ | ⟨x3,_⟩⟩⟩<;>simp_all [zaG]) _ rfl
  subst e2
  simp only [za3,zaE,go_sem,simprocAttr]
  refine zdM r2 13 14 (fun w hw=>hwl w (by simp [hw])) rfl rfl (fun w3 r3 z3 e3 n3=>?_) (fun hf o=>?_)
  rotate_left
  ·simp only [go_sem,simprocAttr]
   exact zaL (e:=6) (by rw [hsay,zhu];rcases r2 with _ | ⟨x1,_ | ⟨x2,_⟩⟩<;>simp_all [zaG]) _ rfl
  subst e3
  simp only [za3,zaE,go_sem,simprocAttr]
  cases r3 with
  |cons y q =>
   have hq:(((q.length+1:Nat):Int)==0)=false:=by rw [beq_eq_false_iff_ne];omega
   simp only [hq,kF,za3,zaE,go_sem,simprocAttr]
   refine zak (fun h=>by cases h) (fun _=>?_)
   simp only [go_sem,simprocAttr]
   exact zaL (e:=6) (by rw [hsay,zhu];simp_all [zaG]) _ rfl
  |nil =>
   simp only [kF,za3,zaE,go_sem,simprocAttr]
   refine zak (fun _=>?_) (fun h=>by cases h)
   simp only [go_sem,simprocAttr]
   have hc:say line=.ok (.blend z1 z2 z3):=by rw [hsay,zhu];simp_all [zaG]
   refine zdV hc _ rfl ?_ ?_ (zGs s b ex _ n hs hb 10 16 _ _ _ rfl rfl)
   ·simp only [go_sem,simprocAttr]
   ·simp only [go_sem,simprocAttr]
 simp only [ztz,c9,go_sem,simprocAttr]
 cases c10:v==zkU
 rotate_left
 ·have hv:=eq_of_beq c10
  subst hv
  simp only [zty,c10,go_sem,simprocAttr]
  cases ws with
  |cons y q =>
   have hq:(((q.length+1:Nat):Int)==0)=false:=by rw [beq_eq_false_iff_ne];omega
   simp only [hq,kF,za3,zaE,go_sem,simprocAttr]
   refine zak (fun h=>by cases h) (fun _=>?_)
   simp only [go_sem,simprocAttr]
   exact zaL (e:=6) (by rw [hsay,zpd];simp_all [zaG]) _ rfl
  |nil =>
   simp only [kF,za3,zaE,go_sem,simprocAttr]
   refine zak (fun _=>?_) (fun h=>by cases h)
   simp only [go_sem,simprocAttr]
   have hc:say line=.ok (.stock):=by rw [hsay,zpd];simp_all [zaG]
   refine zdV hc _ rfl ?_ ?_ (zff (zF1 s b ex n hs hb) (by simp only [go_sem,simprocAttr]) _)
   ·simp only [go_sem,simprocAttr]
   ·simp only [go_sem,simprocAttr]
 simp only [zty,c10,kF,go_sem,simprocAttr]
 refine zak (fun h=>by cases h) (fun _=>?_)
 simp only [go_sem,simprocAttr]
 exact zaL (e:=6) (by rw [hsay,zDk c0 c1 c2 c3 c4 c5 c6 c7 c8 c9 c10];rfl) _ rfl
end Ch
end Abs
end Go.Proofs.YtahlnclapingiaaGreatDoor
