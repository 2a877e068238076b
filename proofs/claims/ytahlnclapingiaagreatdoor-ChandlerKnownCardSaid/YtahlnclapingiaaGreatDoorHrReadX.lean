/-
  CONTRACTS: Read: what is read out of a text, and that it ends in ErrForm otherwise. No con
  CONTRACTS: the reference's number, Read, Equal. No conditions but those in the theorems' h
-/
import Derived.Test.YtahlnclapingiaaGreatDoorHrUseX
set_option linter.unusedSimpArgs false
set_option linter.unusedVariables false
namespace Go.Proofs.YtahlnclapingiaaGreatDoor
namespace Abs
set_option maxRecDepth 4000
def zbN (p:List UInt8):Option HrMark :=
 match (zav 32 p).2 with
 |none=>none
 |some b=>match zeZ (zav 32 p).1 with
  |none=>none
  |some m=>match zeZ b with
   |none=>none
   |some w=>some ⟨m,w⟩
def zci:List HrMark→List (List UInt8)→Option (List HrMark)
 |acc,[]=>some acc
 |acc,p::r=>match zbN p with
  |none=>none
  |some m=>zci (acc++[m]) r
def ziB (all:List UInt8):List (List UInt8):=zaC 32 (zav 10 all).1
def zlA (all:List UInt8):List UInt8:=zir 10 ((zav 10 all).2.getD [])
def zjw (l:List HrKind) (nm:ByteArray):Int:=zam (fun k=>k.name==nm) l 0
def zhy (s:HrShop) (all:List UInt8):Option HrTest :=
 match ziB all with
 |[_,w1,w2]=>match zeZ w2 with
  |none=>none
  |some e=>(zci [] (zaC 10 (zlA all))).map fun ms=>⟨zjw s.kinds (bs w1),e,ms⟩
 |_=>none
def zbH:HrTest:=⟨0,0,[]⟩
def zhO (s:HrShop) (all:List UInt8) (t:HrTest):Bool:=(za6 s.kinds.length t==0)&&(ze1 s t==all)
def zaB (s:HrShop) (all:List UInt8):HrTest×Int :=
 if zba s []=0 then
  if 300<all.length then (zbH,3)
  else match zhy s all with
   |none=>(zbH,6)
   |some t=>if zhO s all t=true then (t,0) else (zbH,6)
 else (zbH,zba s [])
theorem ziX:∀ (a:List (List UInt8)) (acc:List HrMark) (b:List (List UInt8)),zci acc (a++b)=(zci acc a).bind fun ms=>zci ms b
 |[],_,_=>rfl
 |p::r,acc,b=>by
  rw [List.cons_append,zci,zci]
  cases zbN p with
  |none=>rfl
  |some m=>exact ziX r _ b
theorem zjb:∀ (a:List (List UInt8)) (acc ms:List HrMark),zci acc a=some ms→ms.length=acc.length+a.length
 |[],_,_,h=>by cases h;rfl
 |p::r,acc,ms,h=>by
  rw [zci] at h
  cases hm:zbN p with
  |none=>rw [hm] at h;cases h
  |some m =>
   rw [hm] at h
   have:=zjb r _ _ h
   simp at this ⊢;omega
theorem zrc (c:UInt8):∀ (l p:List UInt8),p∈zaC c l→p.length≤l.length:=by
 intro l
 generalize hn:l.length=n
 induction n using Nat.strongRecOn generalizing l with
 |ind n ih =>
  intro p hp
  cases hc:(zav c l).2 with
  |none =>
   rw [zgI hc,List.mem_singleton] at hp
   subst hp;omega
  |some r =>
   rw [zgH hc,List.mem_cons] at hp
   have hr:=zl5 c l r hc
   rcases hp with rfl | hp
   ·rcases zgu c l with ⟨h,_⟩ | ⟨_,_,_,h⟩
    ·rw [h] at hc;cases hc
    ·have:=congrArg List.length h;simp at this;omega
   ·have:=ih r.length (by omega) r rfl p hp
    omega
theorem zyu (c:UInt8) (l:List UInt8):(zir c l).length≤l.length:=by
 unfold zir
 split
 ·simp
 ·exact Nat.le_refl _
theorem zjZ (c:UInt8) (l:List UInt8):((zav c l).2.getD []).length≤l.length:=by
 cases hc:(zav c l).2 with
 |none=>simp
 |some r=>have:=zl5 c l r hc;simp;omega
theorem zi4 (c:UInt8) (l:List UInt8):(zav c l).1.length≤l.length:=by
 rcases zgu c l with ⟨_,h,_⟩ | ⟨r,_,_,h⟩
 ·rw [h];exact Nat.le_refl _
 ·have:=congrArg List.length h;simp at this;omega
def zgX:PV:=.agg [.int .i64 0,.int .i64 0,.nilslice]
theorem zGq {i j:Nat} {a b c:PV} {e0:Int} {h:Heap} (hi:h[i]?=some (.row 3 [.p (.agg [a,b,c])])) (hj:h[j]?=some (.row 1 [.p (.int .i64 e0)])) (hij:i≠j) :
  zfA Tryz.prog 275 [.ptr i 1 0 0,.ptr j 1 0 0] (.pan zdS) h
  (fun r u h'=>r=.ret (.p (.tuple []))∧u=.recd zdS∧h'=(h.set i (.row 3 [.p zgX])).set j (.row 1 [.p (.int .i64 6)])):=by
 refine zdy zad (fn:=Tryz.f275) (n:=9) (rs:=[]) (by kernel_rfl) rfl rfl rfl zxf (Nat.le_of_ble_eq_true rfl) ?_
 have hil:=(List.getElem?_eq_some_iff.1 hi).1
 have gd:∀ x,(h.set i x)[i]?=some x:=fun x=>List.getElem?_set_self hil
 have gj:∀ x,(h.set i x)[j]?=some (.row 1 [.p (.int .i64 e0)]):=fun x=>by rw [List.getElem?_set_ne hij];exact hj
 simp only [zh5,zeI,hi,hj,zdS,gd,gj,zCl,zal,zgX,List.append_nil,go_sem,simprocAttr]
theorem zkA {rs:List ResultVar} {R:AEnd→Heap→Prop} {T:Nat→AV} {i j:Nat} {a b c:PV} {e0:Int} {h:Heap} (hi:h[i]?=some (.row 3 [.p (.agg [a,b,c])])) (hj:h[j]?=some (.row 1 [.p (.int .i64 e0)])) (hij:i≠j)
  (k:zbd Tryz.prog rs R T [] .ret ((h.set i (.row 3 [.p zgX])).set j (.row 1 [.p (.int .i64 6)]))) :
  zbd Tryz.prog rs R T [.fn 275 [.ptr i 1 0 0,.ptr j 1 0 0]] (.pan zdS) h:=by
 rw [zfr]
 refine (zGq hi hj hij).mono fun r u h' hr=>?_
 obtain ⟨rfl,rfl,rfl⟩:=hr
 exact k
theorem zGr {i j:Nat} {a b:PV} {q n:Nat} {e0:Int} {h:Heap} (hi:h[i]?=some (.row 3 [.agg [.p a,.p b,.slice q n 0 n]])) (hj:h[j]?=some (.row 1 [.p (.int .i64 e0)])) (hij:i≠j) :
  zfA Tryz.prog 275 [.ptr i 1 0 0,.ptr j 1 0 0] (.pan zdS) h
  (fun r u h'=>r=.ret (.p (.tuple []))∧u=.recd zdS∧h'=(h.set i (.row 3 [.p zgX])).set j (.row 1 [.p (.int .i64 6)])):=by
 refine zdy zad (fn:=Tryz.f275) (n:=9) (rs:=[]) (by kernel_rfl) rfl rfl rfl zxf (Nat.le_of_ble_eq_true rfl) ?_
 have hil:=(List.getElem?_eq_some_iff.1 hi).1
 have gd:∀ x,(h.set i x)[i]?=some x:=fun x=>List.getElem?_set_self hil
 have gj:∀ x,(h.set i x)[j]?=some (.row 1 [.p (.int .i64 e0)]):=fun x=>by rw [List.getElem?_set_ne hij];exact hj
 simp only [zh5,zeI,hi,hj,zdS,gd,gj,zCl,zal,zgX,List.append_nil,go_sem,simprocAttr]
theorem zkB {rs:List ResultVar} {R:AEnd→Heap→Prop} {T:Nat→AV} {i j:Nat} {a b:PV} {q n:Nat} {e0:Int} {h:Heap} (hi:h[i]?=some (.row 3 [.agg [.p a,.p b,.slice q n 0 n]])) (hj:h[j]?=some (.row 1 [.p (.int .i64 e0)])) (hij:i≠j)
  (k:zbd Tryz.prog rs R T [] .ret ((h.set i (.row 3 [.p zgX])).set j (.row 1 [.p (.int .i64 6)]))) :
  zbd Tryz.prog rs R T [.fn 275 [.ptr i 1 0 0,.ptr j 1 0 0]] (.pan zdS) h:=by
 rw [zfr]
 refine (zGr hi hj hij).mono fun r u h' hr=>?_
 obtain ⟨rfl,rfl,rfl⟩:=hr
 exact k
theorem zDX {i j:Nat} {h:Heap}:zfA Tryz.prog 275 [.ptr i 1 0 0,.ptr j 1 0 0] .ret h (fun r u h'=>r=.ret (.p (.tuple []))∧u=.ret∧h'=h):=by
 refine zdy zad (fn:=Tryz.f275) (n:=9) (rs:=[]) (by kernel_rfl) rfl rfl rfl zxf (Nat.le_of_ble_eq_true rfl) ?_
 simp only [zh5,zeI,go_sem,simprocAttr]
theorem ztw {rs:List ResultVar} {R:AEnd→Heap→Prop} {T:Nat→AV} {i j:Nat} {h:Heap} (k:zbd Tryz.prog rs R T [] .ret h):zbd Tryz.prog rs R T [.fn 275 [.ptr i 1 0 0,.ptr j 1 0 0]] .ret h:=by
 rw [zfr]
 refine zDX.mono fun r u h' hr=>?_
 obtain ⟨rfl,rfl,rfl⟩:=hr
 exact k
theorem zK7 (k:HrKind) (w0 w1 w2:List UInt8):zae Tryz.prog 278 [k.pv,.ptr 1 [zaE [w0,w1,w2]] 0 0] (.bool (k.name==bs w1)):=by
 refine zaa zad (fn:=Tryz.f278) (n:=10) (rs:=[.tmp 3]) (by kernel_rfl) rfl rfl rfl zI8 (Nat.le_of_ble_eq_true rfl) ?_
 simp only [zaE,List.map_cons,go_sem,simprocAttr]
def zbK (t:HrTest):PV:=.agg [.int .i64 t.kind,.int .i64 t.error,match t.marks with | []=>.nilslice | m::ms=>.slice 2 ((m::ms).map HrMark.pv) false]
def zon (k e:Int) (ms:List HrMark):AObj:=match ms with | []=>.row 3 [.p (.agg [.int .i64 k,.int .i64 e,.nilslice])] | m::r=>.row 3 [.agg [.p (.int .i64 k),.p (.int .i64 e),.slice 9 (m::r).length 0 (m::r).length]]
def zlL (ms:List HrMark):Heap:=match ms with | []=>[] | m::r=>[.row 2 ((m::r).map zcu)]
def zfE (s:HrShop) (ws:List (List UInt8)) (k e:Int) (d o:AObj) (x:List UInt8) (ms:List HrMark):Heap :=
 [.row 3 [.p s.pv],zon k e ms,.row 1 [.p (.int .i64 0)],.row 1 [.p (zaE ws)],.row 1 [.p (.str (bs x))],.row 1 [.p (.str (bs [10]))],.row 1 [.p (.int .i64 0)],d,o]++zlL ms
set_option maxHeartbeats 4000000 in
theorem zwF (s:HrShop) (all:List UInt8):zae Tryz.prog 194 [s.pv,.str (bs all)] (.tuple [zbK (zaB s all).1,.int .i64 (zaB s all).2]):=by
 refine zbT zad (fn:=Tryz.f194) (n:=82) (rs:=[.cell 4 111,.cell 5 43]) (by kernel_rfl) rfl rfl rfl zJR (Nat.le_of_ble_eq_true rfl) ?_
 simp only [go_sem,simprocAttr]
 refine zab (zae.argless (args':=[s.pv,.nilslice]) (zii s [] false (by simp)) ⟨.inl rfl,.inr ⟨rfl,3,rfl⟩,trivial⟩) rfl ?_
 simp only [go_sem,simprocAttr]
 have hop:zba s []=(hrCheck s).2.2:=by
  unfold zba
  split
  ·rename_i h;rw [h];rfl
  ·rfl
 cases h0:(zba s [] != 0)
 rotate_left
 ·have h0':¬ zba s []=0:=by simpa using h0
  have hsp:zaB s all=(zbH,zba s []):=by rw [zaB,if_neg h0']
  rw [hsp]
  simp only [zkN,zal,zbK,zbH,go_sem,simprocAttr]
 have h0':zba s []=0:=by simpa using h0
 have hck:(hrCheck s).2.2=0:=by rw [←hop,h0']
 have hkk:=zg0 hck
 have hsz:((bs all).size:Int)=(all.length:Int):=by rw [zao]
 simp only [hsz,go_sem,simprocAttr]
 cases h3:decide ((300:Int)<(all.length:Int))
 rotate_left
 ·have h3':300<all.length:=by simp at h3;omega
  have hsp:zaB s all=(zbH,3):=by rw [zaB,if_pos h0',if_pos h3']
  rw [hsp]
  simp only [zkN,zal,zbK,zbH,h0',go_sem,simprocAttr]
 have h3':¬ 300<all.length:=by simp at h3;omega
 have hsp:zaB s all=(match zhy s all with | none=>(zbH,6) | some t=>if zhO s all t=true then (t,0) else (zbH,6)):=by rw [zaB,if_pos h0',if_neg h3']
 rw [hsp]
 have c10:(⟨#[10]⟩:ByteArray)=bs [10]:=rfl
 have c32:(⟨#[32]⟩:ByteArray)=bs [32]:=rfl
 simp only [c10,c32,h0',go_sem,simprocAttr]
 refine zab (zk8 all 10 (by omega)) rfl ?_
 simp only [c10,c32,go_sem,simprocAttr]
 have hcl:=zi4 10 all
 refine zab (zrM (zav 10 all).1 32 (by omega)) rfl ?_
 have hws:zaC 32 (zav 10 all).1=ziB all:=rfl
 rw [hws]
 simp only [zaE,go_sem,simprocAttr]
 refine zio (fun hb=>?_) (fun hb=>?_)
 rotate_left
 ·have hpn:zhy s all=none:=by
   unfold zhy
   split
   ·rename_i w0 w1 w2 hw;rw [hw] at hb;cases hb
   ·rfl
  rw [hpn]
  simp only [go_sem,simprocAttr]
  refine zkA rfl rfl (by decide) ?_
  simp only [zgX,zbK,zbH,go_sem,simprocAttr]
 obtain ⟨w0,w1,w2,hw⟩:∃ w0 w1 w2,ziB all=[w0,w1,w2]:=by
  have hl0:((ziB all).length:Int)=3:=by simpa using hb
  have hl:(ziB all).length=3:=by omega
  match h:ziB all,hl with
  |[a,b,c],_=>exact ⟨a,b,c,rfl⟩
 have hpar:zhy s all=(match zeZ w2 with | none=>none | some e=>(zci [] (zaC 10 (zlA all))).map fun ms=>⟨zjw s.kinds (bs w1),e,ms⟩):=by
  rw [zhy,hw]
 rw [hpar,hw]
 simp only [List.map_cons,List.map_nil,go_sem,simprocAttr]
 refine zaO (ziy (fv:=.func (.func 278) [] [.ptr 1 [zaE [w0,w1,w2]] 0 0]) s.kinds (fun k=>k.name==bs w1) false 4 rfl (by omega) fun k _=>⟨_,_,_,rfl,zK7 k w0 w1 w2⟩) ?_ (.int _ _) ?_
 ·simp only [zaE,List.map_cons,List.map_nil,go_sem,simprocAttr]
 have hix:zam (fun k=>k.name==bs w1) s.kinds 0=zjw s.kinds (bs w1):=rfl
 rw [hix]
 have hwl:w2.length≤all.length:=Nat.le_trans (zrc 32 (zav 10 all).1 w2 (by rw [hws,hw];simp)) hcl
 simp only [go_sem,simprocAttr]
 cases hnu:zeZ w2 with
 |none =>
  refine zbf (zhN (by omega) hnu _) (fun v h hr=>by cases hr.1) (fun v h hr=>?_)
  obtain ⟨hr,rfl⟩:=hr
  cases hr
  simp only [go_sem,simprocAttr]
  refine zkA rfl rfl (by decide) ?_
  simp only [zgX,zbK,zbH,go_sem,simprocAttr]
 |some e =>
  refine zab (zla (by omega) hnu) rfl ?_
  simp only [c10,go_sem,simprocAttr]
  refine zab (zvs ((zav 10 all).2.getD []) 10 (by have:=zjZ 10 all;omega)) rfl ?_
  have hrs:zir 10 ((zav 10 all).2.getD [])=zlA all:=rfl
  rw [hrs]
  have hrl:(zlA all).length≤300:=by
   have h1:=zjZ 10 all
   have h2:=zyu 10 ((zav 10 all).2.getD [])
   rw [hrs] at h2
   omega
  generalize zjw s.kinds (bs w1)=kd
  generalize zlA all=rest at hrl
  simp only [c10,go_sem,simprocAttr]
  refine zbk (zzu rest 10 _) ?_
  simp only [go_sem,simprocAttr]
  have hT1:∀ x ms o,(zfE s [w0,w1,w2] kd e .dblock o x ms)[8]?=some o:=fun x ms o=>by cases ms<;>rfl
  refine zuB (f:=369) (args:=[.ref .yl 8,.ptr 5 1 0 0,.ptr 4 1 0 0,.ptr 6 1 0 0])
   (R:=fun r h=>(r=.ret (.p (.tuple []))∧∃ x ms o,zci [] (zaC 10 rest)=some ms∧h=zfE s [w0,w1,w2] kd e .dblock o x ms)∨∃ v,r=.panic v∧v=zdS∧zci [] (zaC 10 rest)=none∧∃ x ms o,h=zfE s [w0,w1,w2] kd e .dblock o x ms)
   rfl (by simp only [go_sem,simprocAttr]) zad (by kernel_rfl) (by kernel_rfl) (by kernel_rfl) (fun oR oB oD hround=>?_) (fun v h hr=>?_)
  rotate_left
  ·rcases hr with ⟨hr,_⟩ | ⟨v',hr,rfl,hnone,x,ms,o,rfl⟩
   ·cases hr
   cases hr
   rw [hnone]
   cases ms with
   |nil =>
    simp only [zfE,zon,zlL,zaX,go_sem,simprocAttr]
    refine zkA rfl rfl (by decide) ?_
    simp only [zgX,zbK,zbH,go_sem,simprocAttr]
   |cons m ms =>
    simp only [zfE,zon,zlL,zaX,go_sem,simprocAttr]
    refine zkB rfl rfl (by decide) ?_
    simp only [zgX,zbK,zbH,go_sem,simprocAttr]
  refine (zF2 rest 10 (by omega) 8 4 5 6 _ (fun done x h=>∃ ms,zci [] done=some ms∧h=zfE s [w0,w1,w2] kd e .dblock oR x ms) (fun done x h=>∃ ms,zci [] done=some ms∧h=zfE s [w0,w1,w2] kd e .dblock oR x ms)
   (fun v h=>v=zdS∧zci [] (zaC 10 rest)=none∧∃ x ms o,h=zfE s [w0,w1,w2] kd e .dblock o x ms) ?_ ?_ ?_ ?_ ?_).mono ?_
  ·rintro done x h ⟨ms,_,rfl⟩
   cases ms<;>exact ⟨rfl,rfl,rfl⟩
  ·rintro done x h ⟨ms,_,rfl⟩
   cases ms<;>exact ⟨rfl,rfl,rfl⟩
  ·rintro done x h hsp ⟨ms,hms,rfl⟩
   have hpl:(zav 10 x).1.length≤300:=by
    have:=zrc 10 rest (zav 10 x).1 (by rw [hsp,List.mem_append,zgp];exact .inr (by simp))
    omega
   obtain ⟨more,hmore⟩:∃ more,zaC 10 x=(zav 10 x).1::more:=⟨_,zgp 10 x⟩
   rw [hmore] at hsp
   generalize (zav 10 x).1=p at hpl hmore hsp
   have hrows:zci [] (zaC 10 rest)=(match zbN p with | none=>none | some m=>zci (ms++[m]) more):=by
    rw [hsp,ziX,hms,Option.bind_some,zci]
   have hnext:∀ m,zbN p=some m→zci [] (done++[p])=some (ms++[m]):=fun m hm=>by
    rw [ziX,hms,Option.bind_some,zci,hm];rfl
   have hc1:=zi4 32 p
   have hc2:=zjZ 32 p
   refine hround _ _ _ rfl (hT1 _ _ _) ?_
   clear hround
   have hml:ms.length≤301:=by
    have h1:=zjb _ _ _ hms
    have h2:=zkf 10 rest
    have h3:=congrArg List.length hsp
    simp at h1 h3
    omega
   cases ms with
   |nil =>
    have hrm:(1:Nat)≤zar:=by simp [zar]
    simp only [zfE,zon,zlL,c32,go_sem,simprocAttr]
    refine zab (zk8 p 32 (by omega)) rfl ?_
    simp only [go_sem,simprocAttr]
    refine zio (fun hb=>?_) (fun hb=>?_)
    rotate_left
    ·have hmr:zbN p=none:=by
      unfold zbN
      cases hq:(zav 32 p).2 with
      |none=>rfl
      |some b=>rw [hq] at hb;cases hb
     rw [hmr] at hrows
     simp only [go_sem,simprocAttr]
     exact ⟨rfl,_,rfl,rfl,hrows,x,[],oB,rfl⟩
    obtain ⟨b,hb'⟩:=Option.isSome_iff_exists.1 hb
    rw [hb',Option.getD_some] at hc2 ⊢
    simp only [zkN,zal,go_sem,simprocAttr]
    cases hn1:zeZ (zav 32 p).1 with
    |none =>
     have hmr:zbN p=none:=by simp only [zbN,hb',hn1]
     rw [hmr] at hrows
     refine zku (zhN (by omega) hn1 _) fun T=>?_
     simp only [go_sem,simprocAttr]
     exact ⟨rfl,_,rfl,rfl,hrows,x,[],oB,rfl⟩
    |some a =>
     refine ziq (zla (by omega) hn1) rfl ?_
     simp only [zkN,zal,go_sem,simprocAttr]
     cases hn2:zeZ b with
     |none =>
      have hmr:zbN p=none:=by simp only [zbN,hb',hn1,hn2]
      rw [hmr] at hrows
      refine zku (zhN (by omega) hn2 _) fun T=>?_
      simp only [go_sem,simprocAttr]
      exact ⟨rfl,_,rfl,rfl,hrows,x,[],oB,rfl⟩
     |some w =>
      have hmr:zbN p=some ⟨a,w⟩:=by simp only [zbN,hb',hn1,hn2]
      have hnx:=hnext _ hmr
      refine ziq (zla (by omega) hn2) rfl ?_
      simp only [zkN,zal,hrm,List.length_append,List.length_singleton,go_sem,simprocAttr]
      exact ⟨rfl,.inl ⟨_,hnx,rfl⟩⟩
   |cons m0 ms =>
    simp only [List.length_cons] at hml
    have hrm:ms.length+1+1≤zar:=by simp [zar];omega
    simp only [zfE,zon,zlL,c32,go_sem,simprocAttr]
    refine zab (zk8 p 32 (by omega)) rfl ?_
    simp only [go_sem,simprocAttr]
    refine zio (fun hb=>?_) (fun hb=>?_)
    rotate_left
    ·have hmr:zbN p=none:=by
      unfold zbN
      cases hq:(zav 32 p).2 with
      |none=>rfl
      |some b=>rw [hq] at hb;cases hb
     rw [hmr] at hrows
     simp only [go_sem,simprocAttr]
     exact ⟨rfl,_,rfl,rfl,hrows,x,m0::ms,oB,rfl⟩
    obtain ⟨b,hb'⟩:=Option.isSome_iff_exists.1 hb
    rw [hb',Option.getD_some] at hc2 ⊢
    simp only [zkN,zal,go_sem,simprocAttr]
    cases hn1:zeZ (zav 32 p).1 with
    |none =>
     have hmr:zbN p=none:=by simp only [zbN,hb',hn1]
     rw [hmr] at hrows
     refine zku (zhN (by omega) hn1 _) fun T=>?_
     simp only [go_sem,simprocAttr]
     exact ⟨rfl,_,rfl,rfl,hrows,x,m0::ms,oB,rfl⟩
    |some a =>
     refine ziq (zla (by omega) hn1) rfl ?_
     simp only [zkN,zal,go_sem,simprocAttr]
     cases hn2:zeZ b with
     |none =>
      have hmr:zbN p=none:=by simp only [zbN,hb',hn1,hn2]
      rw [hmr] at hrows
      refine zku (zhN (by omega) hn2 _) fun T=>?_
      simp only [go_sem,simprocAttr]
      exact ⟨rfl,_,rfl,rfl,hrows,x,m0::ms,oB,rfl⟩
     |some w =>
      have hmr:zbN p=some ⟨a,w⟩:=by simp only [zbN,hb',hn1,hn2]
      have hnx:=hnext _ hmr
      refine ziq (zla (by omega) hn2) rfl ?_
      simp only [zkN,zal,hrm,List.length_append,List.length_singleton,go_sem,simprocAttr]
      refine ⟨rfl,.inl ⟨_,hnx,?_⟩⟩
      simp [zfE,zon,zlL,HrMark.pv,zcu,HrShop.pv]
  ·rintro done x y h ⟨ms,hms,rfl⟩ hc
   refine ⟨ms,hms,?_⟩
   cases ms<;>rfl
  ·exact ⟨[],rfl,rfl⟩
  ·rintro r h (⟨rfl,x,hx,ms,hms,rfl⟩ | ⟨v,rfl,rfl,hnone,hh⟩)
   rotate_left
   ·exact ⟨.inr ⟨_,rfl,rfl,hnone,hh⟩,fun v hv=>by cases hv⟩
   refine ⟨.inl ⟨rfl,x,ms,oR,hms,rfl⟩,fun v hv=>.inl ⟨hT1 _ _ _,?_⟩⟩
   rw [hms]
   clear hround
   have hml:ms.length≤301:=by
    have h1:=zjb _ _ _ hms
    have h2:=zkf 10 rest
    simp at h1
    omega
   have hne:ms≠[]:=by
    rintro rfl
    have h1:=zjb _ _ _ hms
    have h2:=zhr 10 rest
    simp at h1;omega
   cases ms with
   |nil=>exact absurd rfl hne
   |cons m0 ms =>
   have hfz:∀ n h,zaD (zbe n h) (ms.map zcu)=some (ms.map HrMark.pv):=fun n h=>zbV (zcp n h) HrMark.pv ms
   have htk:List.take (ms.length+1) (.agg [.int .i64 m0.minute,.int .i64 m0.weight]::List.map HrMark.pv ms)=.agg [.int .i64 m0.minute,.int .i64 m0.weight]::List.map HrMark.pv ms:=List.take_of_length_le (by simp)
   simp only [zfE,zon,zlL,zkN,zal,go_sem,simprocAttr]
   refine zaO (zrO s ⟨kd,e,m0::ms⟩ (by omega)) ?_ (.int _ _) ?_
   ·simp only [hfz,htk,go_sem,simprocAttr]
   simp only [go_sem,simprocAttr]
   cases hte:(za6 s.kinds.length ⟨kd,e,m0::ms⟩==0)
   ·have hg:zhO s all ⟨kd,e,m0::ms⟩=false:=by rw [zhO,hte];rfl
    simp only [go_sem,simprocAttr]
    refine zio (fun hb=>by cases hb) (fun _=>?_)
    simp only [zaX,go_sem,simprocAttr]
    refine zkB rfl rfl (by decide) ?_
    simp only [zgX,zbK,zbH,hg,go_sem,simprocAttr]
   have hte':za6 s.kinds.length ⟨kd,e,m0::ms⟩=0:=by simpa using hte
   simp only [go_sem,simprocAttr]
   refine zaO (zK4 s ⟨kd,e,m0::ms⟩ hck hte') ?_ (.str _) ?_
   ·simp only [hfz,htk,go_sem,simprocAttr]
   simp only [zbZ,go_sem,simprocAttr]
   have hg:zhO s all ⟨kd,e,m0::ms⟩=(ze1 s ⟨kd,e,m0::ms⟩==all):=by rw [zhO,hte];rfl
   refine zio (fun hb=>?_) (fun hb=>?_)
   ·rw [hb] at hg
    simp only [zaX,go_sem,simprocAttr]
    refine ztw ?_
    simp only [hfz,htk,zbK,hg,go_sem,simprocAttr]
   ·rw [hb] at hg
    simp only [zaX,go_sem,simprocAttr]
    refine zkB rfl rfl (by decide) ?_
    simp only [zgX,zbK,zbH,hg,go_sem,simprocAttr]
end Abs
end Go.Proofs.YtahlnclapingiaaGreatDoor
namespace Go.Proofs.YtahlnclapingiaaGreatDoor
namespace Abs
set_option maxRecDepth 4000
def zti (l:List UInt8):Int:=if gIn (l.length:Int) 1 8=true then (match Lib.decFrom 0 l with | some n=>(n:Int) | none=>-1) else -1
def eqT (a b:HrTest):Bool:=(a.kind==b.kind)&&(a.error==b.error)&&decide (a.marks=b.marks)
theorem zDR (a b:HrTest):eqT a b=true↔a=b:=by
 cases a;cases b
 simp [eqT,and_assoc]
theorem zDC (x y:HrMark):((x.minute==y.minute)&&(x.weight==y.weight))=decide (x=y):=by
 cases x;cases y
 rw [Bool.eq_iff_iff];simp
theorem zGL (a b:HrTest) (ha:a.marks.length<1000000000):zae Tryz.prog 37 [a.pv,b.pv] (.bool (eqT a b)):=by
 refine zaa zad (fn:=Tryz.f37) (n:=45) (rs:=[.tmp 4]) (by kernel_rfl) rfl rfl rfl zNd (Nat.le_of_ble_eq_true rfl) ?_
 simp only [go_sem,simprocAttr]
 cases h1:(a.kind != b.kind)
 rotate_left
 ·have h1':(a.kind==b.kind)=false:=by simpa [bne] using h1
  simp only [eqT,h1',go_sem,simprocAttr]
 have h1':(a.kind==b.kind)=true:=by simpa [bne] using h1
 simp only [go_sem,simprocAttr]
 cases h2:(a.error != b.error)
 rotate_left
 ·have h2':(a.error==b.error)=false:=by simpa [bne] using h2
  simp only [eqT,h1',h2',go_sem,simprocAttr]
 have h2':(a.error==b.error)=true:=by simpa [bne] using h2
 simp only [go_sem,simprocAttr]
 cases h3:((a.marks.length:Int) != (b.marks.length:Int))
 rotate_left
 ·have h3':¬ a.marks=b.marks:=by
   intro h;rw [h] at h3;simp at h3
  simp only [eqT,h1',h2',h3',decide_false,go_sem,simprocAttr]
 have h3':a.marks.length=b.marks.length:=by
  have:((a.marks.length:Int))=(b.marks.length:Int):=by simpa using h3
  omega
 have hsp:eqT a b=decide (a.marks=b.marks):=by rw [eqT,h1',h2'];rfl
 rw [hsp]
 simp only [go_sem,simprocAttr]
 refine zfc [2,3] (σ:=List HrMark×List HrMark×List HrMark) (fun q=>a.marks=q.1++q.2.1∧b.marks=q.1++q.2.2) (fun q=>q.2.1.length)
  (fun q=>[(5,.p (.int .i64 q.1.length))]) (fun _=>[.row 3 [.p a.pv],.row 3 [.p b.pv]]) ([],a.marks,b.marks) ⟨rfl,rfl⟩ ?_ ?_
 ·simp only [go_sem,simprocAttr]
 rintro ⟨done,ra,rb⟩ ⟨e1,e2⟩
 dsimp only at e1 e2
 have hl1:=congrArg List.length e1
 have hl2:=congrArg List.length e2
 simp only [List.length_append] at hl1 hl2
 cases ra with
 |nil =>
  have hrb:rb=[]:=by
   have:rb.length=0:=by simp at hl1;omega
   exact List.length_eq_zero_iff.1 this
  have hlt:¬ ((done.length:Int)<(a.marks.length:Int)):=by rw [e1];simp
  have he:a.marks=b.marks:=by rw [e1,e2,hrb]
  have hltb:¬ ((done.length:Int)<(b.marks.length:Int)):=by rw [e2,hrb];simp
  rw [show decide (a.marks=b.marks)=true by simpa using he]
  simp only [hlt,hltb,decide_false,go_sem,simprocAttr]
 |cons x ra =>
  cases rb with
  |nil=>simp at hl1 hl2;omega
  |cons y rb =>
   obtain ⟨hx,hlt⟩:=zeb e1
   obtain ⟨hy,hlt2⟩:=zeb e2
   have hnx:IntKind.i64.wrap ((done.length:Int)+1)=(((done++[x]).length:Nat):Int):=za9 (by omega) (by simp [zar];omega) (by simp)
   simp only [hlt,decide_true,hx,hy,hlt2,zDC,go_sem,simprocAttr]
   cases h4:decide (x=y)
   ·have h4':¬ x=y:=by simpa using h4
    have he:¬ a.marks=b.marks:=by
     rw [e1,e2];intro h
     have:=List.append_cancel_left h
     exact h4' (List.cons.inj this).1
    rw [show decide (a.marks=b.marks)=false by simpa using he]
    simp only [go_sem,simprocAttr]
   ·have h4':x=y:=by simpa using h4
    subst h4'
    simp only [go_sem,simprocAttr]
    refine zb5 (done++[x],ra,rb) ⟨by rw [e1];simp,by rw [e2];simp⟩ (Nat.lt_succ_self _) ?_
    simp only [hnx,go_sem,simprocAttr]
theorem zae.arglessD {P:Program} {f:FuncId} {args args':List PV} {v:PV} (hc:zae P f args v) (h:PLs args' args):zae P f args' v:=by
 intro M0 w cargs hM hg ha
 obtain ⟨h1,h2⟩:=h.get
 refine hc M0 w cargs hM hg ⟨by rw [ha.1,h1],fun i c hi=>?_⟩
 obtain ⟨q,hq⟩:∃ q,args'[i]?=some q:=⟨_,List.getElem?_eq_getElem (by rw [h1];exact (List.getElem?_eq_some_iff.1 hi).1)⟩
 exact (h2 i q c hq hi).rep (ha.2 i q hq)
theorem zDw (k e:Int):PL (.agg [.int .i64 k,.int .i64 e,.nilslice]) (HrTest.pv ⟨k,e,[]⟩):=.aggL rfl ⟨.refl _,.refl _,.nil 2,trivial⟩
def zhk (nm:ByteArray):List HrKind→Nat→Int→Int
 |[],_,acc=>acc
 |k::r,i,acc=>zhk nm r (i+1) (if k.name==nm then (i:Int) else acc)
def zo7 (s:HrShop) (first:Bool) (t:HrTest) (p:List UInt8):HrTest :=
 match first,zaC 32 p with
 |true,[_,w1,w2]=>⟨zhk (bs w1) s.kinds 0 t.kind,zti w2,t.marks⟩
 |false,[w0,w1]=>⟨t.kind,t.error,t.marks++[⟨zti w0,zti w1⟩]⟩
 |_,_=>t
def znt (s:HrShop):Bool→HrTest→List (List UInt8)→HrTest
 |_,t,[]=>t
 |_,t,[_]=>t
 |f,t,p::q::r=>znt s false (zo7 s f t p) (q::r)
def zmI (s:HrShop) (all:List UInt8):HrTest:=znt s true ⟨-1,0,[]⟩ (zaC 10 all)
def znI (s:HrShop) (all:List UInt8):HrTest×Int :=
 if (hrCheck s).2.2=0 then
  if 300<all.length then (zbH,3) else if zhO s all (zmI s all)=true then (zmI s all,0) else (zbH,6)
 else (zbH,(hrCheck s).2.2)
end Abs
end Go.Proofs.YtahlnclapingiaaGreatDoor
