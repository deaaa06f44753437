/- Parts of the proof. -/
import Derived.Test.YtnponcjnahicnaaGreatProg
import Derived.Test.YtnponcjnahicnaaGreatDataToOwnB
import Derived.Test.YtnponcjnahicnaaGreatHdToKp
set_option linter.unusedSimpArgs false
set_option linter.unusedVariables false
open Go.Proofs.Tryz(prog)
open List(all_append all_cons all_eq_true any_append any_cons getElem?_cons_succ getElem?_cons_zero getElem?_eq_getElem getElem?_map length_map mem_of_getElem? take_add_one take_length take_of_length_le take_succ_cons)
namespace Go.Proofs.P16
open Go.RowKit Go.Ink
attribute [local go_sem] Oper.semAt_some
def qgd (c:Int):Bool:=decide (48<=c)&&decide (c<=57)
def qdc (c:Int):Bool:=decide (97<=c)&&decide (c<=122)
def qcw (c:Int):Bool:=decide (65<=c)&&decide (c<=90)
def qbq (c:Int):Bool:=qdc c ||qcw c ||qgd c ||decide (c=95)
set_option maxRecDepth 100000 in
theorem qvv (c:Int)(w:World):Calls prog 124 #[.int .u8 c] w fun e w'=>e=.returned (.bool (qbq c))/\w'=w:=by
 go_enter Tryz.func124,Tryz.ntmps124
 go_wp2
 all_goals go_ret
 all_goals (refine⟨congrArg (fun b=>Ending.returned (Value.bool b)) ?_,rfl⟩;rw [Bool.eq_iff_iff];simp only [qbq,qdc,qcw,qgd,Bool.or_eq_true,Bool.and_eq_true,decide_eq_true_eq,beq_iff_eq];(try simp only [true_iff,false_iff,iff_true,iff_false,Bool.false_eq_true]);omega)
def qds (s:ByteArray):List Int:=s.data.toList.map fun c=>(c.toNat:Int)
theorem qm4 (s:ByteArray):(qds s).length=s.size:=by rw [qds,length_map,Array.length_toList];rfl
theorem qjx (s:ByteArray){k:Nat}(h:k<s.size):(qds s)[k]?=some ((s[k].toNat:Nat):Int):=by
 have h1:k<s.data.toList.length:=by rw [Array.length_toList];exact h
 simp only [qds,getElem?_map,getElem?_eq_getElem h1,Option.map_some]
 rfl
theorem qt0 {α:Type}(p:α->Bool)(l:List α){k:Nat}{c:α}(h:l[k]?=some c):(l.take (k+1)).all p=((l.take k).all p&&p c):=by
 rw [take_add_one,h,all_append];simp
theorem qw5 {α:Type}(p:α->Bool)(l:List α){k:Nat}{c:α}(h:l[k]?=some c)(hc:p c=false):l.all p=false:=by
 cases h1:l.all p with
 |false=>rfl
 |true=>rw [all_eq_true.1 h1 c (mem_of_getElem? h)] at hc;cases hc
def qb8 (s:ByteArray):Bool:=(qds s).all qbq&&(decide (1<=s.size)&&decide (s.size<=64))
theorem qhx {a b:ByteArray}(h:a=b):(a.toList==b.toList)=true:=by simp [h]
theorem qf9 {a b:ByteArray}(h:a≠b):(a.toList==b.toList)=false:=by
 rw [←beq_toListBytes];exact beq_eq_false_iff_ne.2 h
theorem qlp (a b:ByteArray):(a=b)=((a.toList==b.toList)=true):=by
 rw [←beq_toListBytes,beq_iff_eq]
def qir:ByteArray:=⟨#[105,110,112,117,116]⟩
def qhq:ByteArray:=⟨#[111,117,116,112,117,116]⟩
def qm5:ByteArray:=⟨#[110,111,116]⟩
def qf0 (s:ByteArray):Int:=(qds s).headD 0
def qgj (s:ByteArray):Bool:=decide (s=qir) ||decide (s=qhq) ||decide (s=qm5)
def qe2 (s:ByteArray):Bool:=qb8 s&&qdc (qf0 s)&&!qgj s
def qjy (s:ByteArray):Bool:=qb8 s&&qcw (qf0 s)
def qis (s:ByteArray):Bool:=decide (s.size<=1024)
def qgw (s:ByteArray):Int:=
 if qb8 s then
  if qgd (qf0 s) then (if (qds s).all (fun c=>decide (c<=57)) then 3 else 0)
  else if qcw (qf0 s) then 2
  else if qf0 s=95 then 0
  else if s=qir then 5 else if s=qhq then 6 else if s=qm5 then 7 else 1
 else 0
theorem qjz {s:ByteArray}(h:qb8 s=true):qbq (qf0 s)=true:=by
 unfold qb8 at h;rw [Bool.and_eq_true,Bool.and_eq_true,decide_eq_true_eq,decide_eq_true_eq]at h;have hl:=qm4 s;unfold qf0;cases hb:qds s with
 |nil=>rw [hb] at hl;simp at hl;omega
 |cons c r=>rw [hb] at h;simp only [all_cons,Bool.and_eq_true] at h;exact h.1.1
theorem qyf (s:ByteArray):decide (qgw s=1)=qe2 s:=by
 unfold qgw qe2 qgj;cases hw:qb8 s with
 |false=>simp
 |true=>
  have h1:=qjz hw;simp only [if_true,Bool.true_and];generalize qf0 s=c at h1;simp only [qbq,qdc,qcw,qgd,Bool.or_eq_true,Bool.and_eq_true,decide_eq_true_eq]at h1⊢;by_cases e1:s=qir
  ·rw [if_pos e1];simp only [e1,decide_true,Bool.true_or,Bool.not_true,Bool.and_false];repeat' split
   all_goals simp
  ·by_cases e2:s=qhq
   ·rw [if_neg e1,if_pos e2];simp only [e2,decide_true,Bool.true_or,Bool.or_true,Bool.not_true,Bool.and_false];repeat' split
    all_goals simp
   ·by_cases e3:s=qm5
    ·rw [if_neg e1,if_neg e2,if_pos e3];simp only [e3,decide_true,Bool.true_or,Bool.or_true,Bool.not_true,Bool.and_false];repeat' split
     all_goals simp
    ·rw [if_neg e1,if_neg e2,if_neg e3];simp only [e1,e2,e3,decide_false,Bool.or_self,Bool.not_false,Bool.and_true];rw [Bool.eq_iff_iff];simp only [Bool.and_eq_true,decide_eq_true_eq]
     repeat' split
     all_goals omega
theorem q0v (s:ByteArray):decide (qgw s=2)=qjy s:=by
 unfold qgw qjy;cases hw:qb8 s with
 |false=>simp
 |true=>
  have h1:=qjz hw;simp only [if_true,Bool.true_and];generalize qf0 s=c at h1;simp only [qbq,qdc,qcw,qgd,Bool.or_eq_true,Bool.and_eq_true,decide_eq_true_eq]at h1⊢;rw [Bool.eq_iff_iff];simp only [Bool.and_eq_true,decide_eq_true_eq]
  repeat' split
  all_goals omega
set_option maxRecDepth 100000 in
set_option maxHeartbeats 2000000 in
theorem qps (s:ByteArray)(w:World):Calls prog 90 #[.string s] w fun e w'=>e=.returned (.int .i64 (qgw s))/\w'=w:=by
 by_cases hw:1<=s.size/\s.size<=64
 ·obtain⟨h1,h2⟩:=hw;have g1: ¬(s.size:Int)<1:=by omega
  have g2: ¬64<(s.size:Int):=by omega
  go_enter Tryz.func90,Tryz.ntmps90
  go_wp2_with fail
  go_loopw [16,3] (fun i dg wr=> ∃k:Nat,k<=s.size/\i=.int .i64 (k:Int)/\dg=.bool (((qds s).take k).all fun c=>decide (c<=57))/\wr=w/\((qds s).take k).all qbq=true) (fun i _ _=>s.size-(intOf i).toNat)
  case atStart=>exact⟨0,by omega,rfl,rfl,rfl,rfl⟩
  case round=>
   obtain⟨k,hk,rfl,rfl,hw1,hall⟩:=hrel;have hw1:=hw1.symm;subst hw1;by_cases hlt:k<s.size
   ·have hlt1:(k:Int)<s.size:=by omega
    have hk0:(0:Int)<=k:=by omega
    have hat:=qjx s hlt;have hst:=qt0 qbq (qds s) hat;have hst2:=qt0 (fun c=>decide (c<=57)) (qds s) hat;rw [hall,Bool.true_and]at hst;obtain⟨dg,hdg⟩: ∃b,(((qds s).take k).all fun c=>decide (c<=57))=b:=⟨_,rfl⟩;rw [hdg]at hst2;rw [hdg];have hcl:=qvv ((s[k].toNat:Nat):Int) w;cases hc:qbq ((s[k].toNat:Nat):Int) with
    |false=>
     rw [hc]at hcl;have hno:=qw5 qbq _ hat hc;have hE:qgw s=0:=by unfold qgw qb8;rw [hno];rfl
     refine hd9 ?_ hat hst hst2 hcl hc hno hall hdg hE;clear hat hst hst2 hcl hc hno hall hdg hE;intro Xhat Xhst Xhst2 Xhcl Xhc Xhno Xhall Xhdg XhE;go_wp2_with fail;refine Xhcl.o.mono ?_;rintro e w1 ⟨rfl,hw1⟩;have hw1:=hw1.symm;subst hw1;go_wp2_with fail;go_ret;exact⟨by rw [XhE.o];rfl,rfl⟩
    |true=>
     rw [hc]at hcl hst;refine hd7 ?_ hat hst hst2 hcl hc hall hdg;clear hat hst hst2 hcl hc hall hdg;intro Xhat Xhst Xhst2 Xhcl Xhc Xhall Xhdg;cases dg
     all_goals go_wp2_with fail
     all_goals refine Xhcl.o.mono ?_
     all_goals (rintro e w1 ⟨rfl,hw1⟩;have hw1:=hw1.symm;subst hw1)
     all_goals go_wp2_with fail
     all_goals go_roundw
     all_goals (first |exact⟨k+1,by omega,by go_num,by rw [Xhst2.o];rfl,by trivial,Xhst.o⟩ |(simp [intOf];omega))
   ·obtain rfl:k=s.size:=by omega
    rw [take_of_length_le (by rw [qm4];omega)]at hall⊢;have hW:qb8 s=true:=by unfold qb8;rw [hall,decide_eq_true h1,decide_eq_true h2];rfl
    have h0:0<s.size:=by omega
    have hat:=qjx s h0;have hhd:qf0 s=((s[0].toNat:Nat):Int):=by
     unfold qf0;cases hb:qds s with
     |nil=>rw [hb] at hat;simp at hat
     |cons c r=>rw [hb] at hat;simpa using hat
    obtain⟨c0,hc0⟩: ∃c:Int,((s[0].toNat:Nat):Int)=c:=⟨_,rfl⟩;obtain⟨dg,hdg⟩: ∃b,((qds s).all fun c=>decide (c<=57))=b:=⟨_,rfl⟩;have hwc:=qjz hW;have hrg:48<=c0/\c0<=122:=by
     rw [hhd,hc0]at hwc;simp only [qbq,qdc,qcw,qgd,Bool.or_eq_true,Bool.and_eq_true,decide_eq_true_eq]at hwc;omega
    have hwr:wrap32 ((s[0].toNat:Nat):Int)=c0:=by rw [hc0];exact IntWalk.wrap32_in (by omega) (by omega)
    obtain⟨i1,hi1⟩: ∃b,(s.toList== [105,110,112,117,116])=b:=⟨_,rfl⟩;obtain⟨i2,hi2⟩: ∃b,(s.toList== [111,117,116,112,117,116])=b:=⟨_,rfl⟩;obtain⟨i3,hi3⟩: ∃b,(s.toList== [110,111,116])=b:=⟨_,rfl⟩;have j1:(s=qir)=(i1=true):=by
     rw [←hi1];have e:qir.toList= [105,110,112,117,116]:=by kernel_rfl
     rw [←e];exact qlp s qir
    have j2:(s=qhq)=(i2=true):=by
     rw [←hi2];have e:qhq.toList= [111,117,116,112,117,116]:=by kernel_rfl
     rw [←e];exact qlp s qhq
    have j3:(s=qm5)=(i3=true):=by
     rw [←hi3];have e:qm5.toList= [110,111,116]:=by kernel_rfl
     rw [←e];exact qlp s qm5
    have hK:qgw s=(if 48<=c0/\c0<=57 then (if dg=true then 3 else 0) else if 65<=c0/\c0<=90 then 2 else if c0=95 then 0 else if i1=true then 5 else if i2=true then 6 else if i3=true then 7 else 1):=by
     unfold qgw;rw [hW,hhd,hc0,hdg];simp only [if_true,j1,j2,j3,qgd,qcw,Bool.and_eq_true,decide_eq_true_eq]
    clear hwc j1 j2 j3;rw [hdg];have hsz:(0:Int)<s.size:=by omega
    clear hW hat hhd hall hdg hlt hk hc0;refine hd2 ?_ hK hrg;clear hK hrg;intro XhK Xhrg;go_wp2_with fail
    all_goals go_ret
    all_goals (refine⟨?_,rfl⟩;rw [XhK.o];refine congrArg (fun z=>Ending.returned (Value.int .i64 z)) ?_;(try simp only [beq_iff_eq,beq_eq_false_iff_ne] at*);repeat' split)
    all_goals (first |rfl |omega |(simp_all;done) |(simp_all;omega))
 ·have hE:qgw s=0:=by
   unfold qgw qb8;rw [if_neg];intro h;rw [Bool.and_eq_true,Bool.and_eq_true,decide_eq_true_eq,decide_eq_true_eq]at h;exact hw h.2
  refine hd1 ?_ hE;clear hE;intro XhE;rcases Nat.lt_or_ge s.size 1 with h1 |h1
  ·have g1:(s.size:Int)<1:=by omega
   clear hw h1
   go_enter Tryz.func90,Tryz.ntmps90
   go_wp2_with fail;go_ret;exact⟨by rw [XhE.o];rfl,rfl⟩
  ·have g1: ¬(s.size:Int)<1:=by omega
   have g2:64<(s.size:Int):=by omega
   clear hw h1
   go_enter Tryz.func90,Tryz.ntmps90
   go_wp2_with fail;go_ret;exact⟨by rw [XhE.o];rfl,rfl⟩
set_option maxRecDepth 100000 in
theorem qn6 (s:ByteArray)(w:World):Calls prog 51 #[.string s] w fun e w'=>e=.returned (.bool (qe2 s))/\w'=w:=by
 have hk:=qps s w;have hE:=qyf s;obtain⟨k,hkd⟩:=ex (qgw s);rw [hkd]at hk hE;refine hd3 ?_ hk hE hkd;clear hk hE hkd;intro Xhk XhE Xhkd
 go_enter Tryz.func51,Tryz.ntmps51
 go_wp2_with fail;refine Xhk.o.mono ?_;rintro e w1 ⟨rfl,hw1⟩;have hw1:=hw1.symm;subst hw1;go_wp2_with fail;go_ret;exact⟨by rw [←XhE.o];rfl,rfl⟩
set_option maxRecDepth 100000 in
theorem qyg (s:ByteArray)(w:World):Calls prog 195 #[.string s] w fun e w'=>e=.returned (.bool (qjy s))/\w'=w:=by
 have hk:=qps s w;have hE:=q0v s;obtain⟨k,hkd⟩:=ex (qgw s);rw [hkd]at hk hE;refine hd3 ?_ hk hE hkd;clear hk hE hkd;intro Xhk XhE Xhkd
 go_enter Tryz.func195,Tryz.ntmps195
 go_wp2_with fail;refine Xhk.o.mono ?_;rintro e w1 ⟨rfl,hw1⟩;have hw1:=hw1.symm;subst hw1;go_wp2_with fail;go_ret;exact⟨by rw [←XhE.o];rfl,rfl⟩
theorem qrs (s:ByteArray):decide ((s.size:Int)<=1024)=qis s:=by unfold qis;rw [decide_eq_decide];omega
set_option maxRecDepth 100000 in
theorem qt1 (s:ByteArray)(w:World):Calls prog 196 #[.string s] w fun e w'=>e=.returned (.bool (qis s))/\w'=w:=by
 rw [←qrs]
 go_enter Tryz.func196,Tryz.ntmps196
 go_wp2_with fail;go_ret;exact⟨rfl,rfl⟩
def qb4 {α:Type}(p:α->Bool):List α->Int
 | []=> -1
 |x::r=>if p x then 0 else (if qb4 p r<0 then-1 else qb4 p r+1)
theorem qf1 {α:Type}(p:α->Bool): ∀(l:List α),l.any p=false->qb4 p l= -1
 | [],_=>rfl
 |x::r,h=>by
  simp only [any_cons,Bool.or_eq_false_iff]at h;have ih:=qf1 p r h.2;simp [qb4,h.1,ih]
theorem qf2 {α:Type}(p:α->Bool): ∀(l:List α) (k:Nat) (x:α),l[k]?=some x->(l.take k).any p=false->p x=true->qb4 p l=(k:Int)
 | [],k,x,h,_,_=>by simp at h
 |y::r,0,x,h,_,hp=>by
  simp only [getElem?_cons_zero,Option.some.injEq]at h;subst h;simp [qb4,hp]
 |y::r,k+1,x,h,hn,hp=>by
  simp only [getElem?_cons_succ]at h;simp only [take_succ_cons,any_cons,Bool.or_eq_false_iff]at hn;have ih:=qf2 p r k x h hn.2 hp;simp only [qb4,hn.1,ih];have h2: ¬((k:Int)<0):=by omega
  simp [h2]
theorem qfp {α:Type}(p:α->Bool): ∀(l:List α),decide (0<=qb4 p l)=l.any p
 | []=>rfl
 |x::r=>by
  have ih:=qfp p r;have e:qb4 p (x::r)=if p x=true then 0 else (if qb4 p r<0 then-1 else qb4 p r+1):=rfl
  rw [e,any_cons,←ih];by_cases hp:p x=true
  ·rw [if_pos hp,hp];rfl
  ·rw [if_neg hp,Bool.not_eq_true]at*;rw [hp,Bool.false_or,decide_eq_decide];split<;>omega
theorem qyh {α:Type}(p:α->Bool)(l:List α):(decide (qb4 p l≥0))=l.any p:=qfp p l
theorem qj0 {α:Type}(p:α->Bool)(l:List α){k:Nat}{c:α}(h:l[k]?=some c):(l.take (k+1)).any p=((l.take k).any p ||p c):=by
 rw [take_add_one,h,any_append];simp
set_option maxRecDepth 100000 in
theorem qt2 {gf:Nat}{bs lb:Array Value}(eg: ∀args w,(callFunc gf args).run prog w=.ok (.enter gf args) w)(p:TermD->Bool)(n0:Nat)(v:Value)(xs:List (TermD))(w:World)(hx:qaj n0 w v xs)(hn:n0<=w.heap.size)
  (hf: ∀x,x∈xs-> ∀W,Keep (fun b=>b<w.heap.size) w W->Calls prog gf (bs.push (.agg #[.bool x.var,.string x.text])++lb) W fun e w'=>e=.returned (.bool (p x))/\Keep (fun b=>b<W.heap.size) W w'):
  Calls prog 141 #[v,.func (.func gf) bs lb] w fun e w'=>e=.returned (.int .i64 (qb4 p xs))/\Keep (fun b=>b<w.heap.size) w w':=by
 obtain⟨a,cap,rfl,hlen,hcap,hel⟩:=id hx;refine hd2 ?_ hel hf;clear hel hf;intro Xhel Xhf
 go_enter Tryz.func141,Tryz.ntmps141
 go_wp2_with fail
 go_loopw [8] (fun i wr=> ∃k:Nat,k<=xs.length/\i=.int .i64 (k:Int)/\Keep (fun b=>b<w.heap.size) w wr/\(xs.take k).any p=false) (fun i _=>xs.length-(intOf i).toNat)
 case atStart=>exact⟨0,by omega,rfl,Keep.refl _ _,rfl⟩
 case round=>
  obtain⟨k,hk,rfl,hK,hany⟩:=hrel;have hsz:=hK.size;by_cases hlt:k<xs.length
  ·have hlt1:(k:Int)<xs.length:=by omega
   have hk0:(0:Int)<=k:=by omega
   obtain⟨x,hx1⟩: ∃x,xs[k]?=some x:=⟨_,getElem?_eq_getElem hlt⟩;obtain⟨b,o,rfl,hb,q0,q1⟩:=Xhel.o k x hx1;have h0:=hK.cell (q0) (show b<w.heap.size by omega);have h1:=hK.cell (q1) (show b<w.heap.size by omega)
   try simp only [Nat.mul_one,Nat.add_zero] at h0 h1
   have hbw:b<wr.heap.size:=by omega
   have hst:=qj0 p xs hx1;rw [hany,Bool.false_or]at hst;have hc:=Xhf.o x (mem_of_getElem? hx1) wr hK;obtain⟨px,hpx⟩: ∃b,p x=b:=⟨_,rfl⟩;have hfi:=qf2 p xs k x hx1 hany;rw [hpx]at hst hc hfi
   skip
   clear hx1 q0 q1;refine hd6 ?_ hK hany hst hpx hc hfi;clear hK hany hst hpx hc hfi;intro XhK Xhany Xhst Xhpx Xhc Xhfi;go_wp2_with fail;refine Xhc.o.mono ?_;rintro e W1 ⟨rfl,k1⟩;have hK1:=XhK.o.trans (k1.mono fun b hb _=>by omega);clear k1;refine hd1 ?_ hK1;clear hK1;intro XhK1;cases px
   ·go_wp2_with fail;go_roundw
    case rel=>exact⟨k+1,by omega,by go_num,XhK1.o,Xhst.o⟩
    case measure=>simp [intOf];omega
   ·go_wp2_with fail;go_ret;exact⟨by rw [Xhfi.o (by trivial)];rfl,XhK1.o⟩
  ·obtain rfl:k=xs.length:=by omega
   rw [take_length]at hany;have hfi:=qf1 p xs hany;refine hd2 ?_ hK hfi;clear hK hfi;intro XhK Xhfi;go_wp2_with fail;go_ret;exact⟨by rw [Xhfi.o];rfl,XhK.o⟩
set_option maxRecDepth 100000 in
theorem qhy {gf:Nat}{bs lb:Array Value}(eg: ∀args w,(callFunc gf args).run prog w=.ok (.enter gf args) w)(p:TermD->Bool)(n0:Nat)(v:Value)(xs:List (TermD))(w:World)(hx:qaj n0 w v xs)(hn:n0<=w.heap.size)
  (hf: ∀x,x∈xs-> ∀W,Keep (fun b=>b<w.heap.size) w W->Calls prog gf (bs.push (.agg #[.bool x.var,.string x.text])++lb) W fun e w'=>e=.returned (.bool (p x))/\Keep (fun b=>b<W.heap.size) W w'):
  Calls prog 109 #[v,.func (.func gf) bs lb] w fun e w'=>e=.returned (.bool (xs.any p))/\Keep (fun b=>b<w.heap.size) w w':=by
 have hi:=qt2 eg p n0 v xs w hx hn hf;have hE:=qfp p xs;obtain⟨i,hfi⟩:=ex (qb4 p xs);rw [hfi]at hi hE;obtain⟨a,cap,rfl,hlen,hcap,hel⟩:=id hx;clear hel eg;refine hd4 ?_ hi hf hE hfi;clear hi hf hE hfi;intro Xhi Xhf XhE Xhfi
 go_enter Tryz.func109,Tryz.ntmps109
 go_wp2_with fail;refine Xhi.o.mono ?_;rintro e W1 ⟨rfl,k1⟩;refine hd1 ?_ k1;clear k1;intro Xk1;go_wp2_with fail;go_ret;exact⟨by rw [←XhE.o];rfl,Xk1.o⟩
theorem qit {n:Nat}{w w':World}{v:Value}{ss:List Int}(h:qap n w v ss)(hK:Keep (fun k=>k<n) w w'):qap n w' v ss:=h.mono fun _ _ _ hb h=>hK.cell h hb
theorem qbr {n:Nat}{w w':World}{v:Value}{ss:List ByteArray}(h:qae n w v ss)(hK:Keep (fun k=>k<n) w w'):qae n w' v ss:=h.mono fun _ _ _ hb h=>hK.cell h hb
def qfb (L:LitD)(sa:Value):Value:=.agg #[.int .i64 L.kind,.string L.atom.pred,sa,.bool L.left.var,.string L.left.text,.bool L.right.var,.string L.right.text]
structure qai where
 pred:ByteArray
 rows:Int
 dist:List Int
 deriving DecidableEq,Inhabited
def qlq (s:qai)(sv:Value):Value:=.agg #[.string s.pred,.int .i64 s.rows,sv]
def q45 (n:Nat)(w:World)(b o:Nat)(s:qai):Prop:= ∃sv,CellsE w b o [.string s.pred,.int .i64 s.rows,sv]/\qap n w sv s.dist
abbrev SizesIn (n:Nat)(w:World)(v:Value)(ss:List qai):Prop:=SliceIn n w 3 (q45 n) v ss
theorem SizesIn.keep {n:Nat}{w w':World}{v:Value}{ss:List qai}(h:SizesIn n w v ss)(hK:Keep (fun k=>k<n) w w'):SizesIn n w' v ss:=
 h.mono fun b o s hb ⟨sv,h1,h2⟩=>⟨sv,fun j v hj=>hK.cell (h1 j v hj) hb,qit h2 hK⟩
set_option maxRecDepth 100000 in
theorem qvw {gf:Nat}{bs lb:Array Value}(eg: ∀args w,(callFunc gf args).run prog w=.ok (.enter gf args) w)(p:LitD->Bool)(n0:Nat)(v:Value)(xs:List (LitD))(w:World)(hx:qf3 n0 w v xs)(hn:n0<=w.heap.size)
  (hf: ∀x,x∈xs-> ∀W,Keep (fun b=>b<w.heap.size) w W-> ∀sa,qaj n0 W sa x.atom.args->Calls prog gf (bs.push (qfb x sa)++lb) W fun e w'=>e=.returned (.bool (p x))/\Keep (fun b=>b<W.heap.size) W w'):
  Calls prog 112 #[v,.func (.func gf) bs lb] w fun e w'=>e=.returned (.int .i64 (qb4 p xs))/\Keep (fun b=>b<w.heap.size) w w':=by
 obtain⟨a,cap,rfl,hlen,hcap,hel⟩:=id hx;refine hd2 ?_ hel hf;clear hel hf;intro Xhel Xhf
 go_enter Tryz.func112,Tryz.ntmps112
 go_wp2_with fail
 go_loopw [8] (fun i wr=> ∃k:Nat,k<=xs.length/\i=.int .i64 (k:Int)/\Keep (fun b=>b<w.heap.size) w wr/\(xs.take k).any p=false) (fun i _=>xs.length-(intOf i).toNat)
 case atStart=>exact⟨0,by omega,rfl,Keep.refl _ _,rfl⟩
 case round=>
  obtain⟨k,hk,rfl,hK,hany⟩:=hrel;have hsz:=hK.size;by_cases hlt:k<xs.length
  ·have hlt1:(k:Int)<xs.length:=by omega
   have hk0:(0:Int)<=k:=by omega
   obtain⟨x,hx1⟩: ∃x,xs[k]?=some x:=⟨_,getElem?_eq_getElem hlt⟩;obtain⟨b,o,rfl,hb,sa,qc,qt⟩:=Xhel.o k x hx1;have h0:=hK.cell (qc 0 _ rfl) (show b<w.heap.size by omega);have h1:=hK.cell (qc 1 _ rfl) (show b<w.heap.size by omega);have h2:=hK.cell (qc 2 _ rfl) (show b<w.heap.size by omega);have h3:=hK.cell (qc 3 _ rfl) (show b<w.heap.size by omega);have h4:=hK.cell (qc 4 _ rfl) (show b<w.heap.size by omega);have h5:=hK.cell (qc 5 _ rfl) (show b<w.heap.size by omega);have h6:=hK.cell (qc 6 _ rfl) (show b<w.heap.size by omega)
   try simp only [Nat.mul_one,Nat.add_zero] at h0 h1 h2 h3 h4 h5 h6
   have hbw:b<wr.heap.size:=by omega
   have hst:=qj0 p xs hx1;rw [hany,Bool.false_or]at hst;have hc:=Xhf.o x (mem_of_getElem? hx1) wr hK sa (qas qt (hK.mono fun b _ h=>by omega));obtain⟨px,hpx⟩: ∃b,p x=b:=⟨_,rfl⟩;have hfi:=qf2 p xs k x hx1 hany;rw [hpx]at hst hc hfi;unfold qfb at hc;clear hx1 qc qt;refine hd6 ?_ hK hany hst hpx hc hfi;clear hK hany hst hpx hc hfi;intro XhK Xhany Xhst Xhpx Xhc Xhfi;go_wp2_with fail;refine Xhc.o.mono ?_;rintro e W1 ⟨rfl,k1⟩;have hK1:=XhK.o.trans (k1.mono fun b hb _=>by omega);clear k1;refine hd1 ?_ hK1;clear hK1;intro XhK1;cases px
   ·go_wp2_with fail;go_roundw
    case rel=>exact⟨k+1,by omega,by go_num,XhK1.o,Xhst.o⟩
    case measure=>simp [intOf];omega
   ·go_wp2_with fail;go_ret;exact⟨by rw [Xhfi.o (by trivial)];rfl,XhK1.o⟩
  ·obtain rfl:k=xs.length:=by omega
   rw [take_length]at hany;have hfi:=qf1 p xs hany;refine hd2 ?_ hK hfi;clear hK hfi;intro XhK Xhfi;go_wp2_with fail;go_ret;exact⟨by rw [Xhfi.o];rfl,XhK.o⟩
set_option maxRecDepth 100000 in
theorem qkv {gf:Nat}{bs lb:Array Value}(eg: ∀args w,(callFunc gf args).run prog w=.ok (.enter gf args) w)(p:LitD->Bool)(n0:Nat)(v:Value)(xs:List (LitD))(w:World)(hx:qf3 n0 w v xs)(hn:n0<=w.heap.size)
  (hf: ∀x,x∈xs-> ∀W,Keep (fun b=>b<w.heap.size) w W-> ∀sa,qaj n0 W sa x.atom.args->Calls prog gf (bs.push (qfb x sa)++lb) W fun e w'=>e=.returned (.bool (p x))/\Keep (fun b=>b<W.heap.size) W w'):
  Calls prog 75 #[v,.func (.func gf) bs lb] w fun e w'=>e=.returned (.bool (xs.any p))/\Keep (fun b=>b<w.heap.size) w w':=by
 have hi:=qvw eg p n0 v xs w hx hn hf;have hE:=qfp p xs;obtain⟨i,hfi⟩:=ex (qb4 p xs);rw [hfi]at hi hE;obtain⟨a,cap,rfl,hlen,hcap,hel⟩:=id hx;clear hel eg;refine hd4 ?_ hi hf hE hfi;clear hi hf hE hfi;intro Xhi Xhf XhE Xhfi
 go_enter Tryz.func75,Tryz.ntmps75
 go_wp2_with fail;refine Xhi.o.mono ?_;rintro e W1 ⟨rfl,k1⟩;refine hd1 ?_ k1;clear k1;intro Xk1;go_wp2_with fail;go_ret;exact⟨by rw [←XhE.o];rfl,Xk1.o⟩
set_option maxRecDepth 100000 in
theorem qm6 {gf:Nat}{bs lb:Array Value}(eg: ∀args w,(callFunc gf args).run prog w=.ok (.enter gf args) w)(p:qai->Bool)(n0:Nat)(v:Value)(xs:List (qai))(w:World)(hx:SizesIn n0 w v xs)(hn:n0<=w.heap.size)
  (hf: ∀x,x∈xs-> ∀W,Keep (fun b=>b<w.heap.size) w W-> ∀sv,qap n0 W sv x.dist->Calls prog gf (bs.push (qlq x sv)++lb) W fun e w'=>e=.returned (.bool (p x))/\Keep (fun b=>b<W.heap.size) W w'):
  Calls prog 174 #[v,.func (.func gf) bs lb] w fun e w'=>e=.returned (.int .i64 (qb4 p xs))/\Keep (fun b=>b<w.heap.size) w w':=by
 obtain⟨a,cap,rfl,hlen,hcap,hel⟩:=id hx;refine hd2 ?_ hel hf;clear hel hf;intro Xhel Xhf
 go_enter Tryz.func174,Tryz.ntmps174
 go_wp2_with fail
 go_loopw [8] (fun i wr=> ∃k:Nat,k<=xs.length/\i=.int .i64 (k:Int)/\Keep (fun b=>b<w.heap.size) w wr/\(xs.take k).any p=false) (fun i _=>xs.length-(intOf i).toNat)
 case atStart=>exact⟨0,by omega,rfl,Keep.refl _ _,rfl⟩
 case round=>
  obtain⟨k,hk,rfl,hK,hany⟩:=hrel;have hsz:=hK.size;by_cases hlt:k<xs.length
  ·have hlt1:(k:Int)<xs.length:=by omega
   have hk0:(0:Int)<=k:=by omega
   obtain⟨x,hx1⟩: ∃x,xs[k]?=some x:=⟨_,getElem?_eq_getElem hlt⟩;obtain⟨b,o,rfl,hb,sv,qc,qt⟩:=Xhel.o k x hx1;have h0:=hK.cell (qc 0 _ rfl) (show b<w.heap.size by omega);have h1:=hK.cell (qc 1 _ rfl) (show b<w.heap.size by omega);have h2:=hK.cell (qc 2 _ rfl) (show b<w.heap.size by omega)
   try simp only [Nat.mul_one,Nat.add_zero] at h0 h1 h2
   have hbw:b<wr.heap.size:=by omega
   have hst:=qj0 p xs hx1;rw [hany,Bool.false_or]at hst;have hc:=Xhf.o x (mem_of_getElem? hx1) wr hK sv (qit qt (hK.mono fun b _ h=>by omega));obtain⟨px,hpx⟩: ∃b,p x=b:=⟨_,rfl⟩;have hfi:=qf2 p xs k x hx1 hany;rw [hpx]at hst hc hfi;unfold qlq at hc;clear hx1 qc qt;refine hd6 ?_ hK hany hst hpx hc hfi;clear hK hany hst hpx hc hfi;intro XhK Xhany Xhst Xhpx Xhc Xhfi;go_wp2_with fail;refine Xhc.o.mono ?_;rintro e W1 ⟨rfl,k1⟩;have hK1:=XhK.o.trans (k1.mono fun b hb _=>by omega);clear k1;refine hd1 ?_ hK1;clear hK1;intro XhK1;cases px
   ·go_wp2_with fail;go_roundw
    case rel=>exact⟨k+1,by omega,by go_num,XhK1.o,Xhst.o⟩
    case measure=>simp [intOf];omega
   ·go_wp2_with fail;go_ret;exact⟨by rw [Xhfi.o (by trivial)];rfl,XhK1.o⟩
  ·obtain rfl:k=xs.length:=by omega
   rw [take_length]at hany;have hfi:=qf1 p xs hany;refine hd2 ?_ hK hfi;clear hK hfi;intro XhK Xhfi;go_wp2_with fail;go_ret;exact⟨by rw [Xhfi.o];rfl,XhK.o⟩
set_option maxRecDepth 100000 in
theorem qt3 {gf:Nat}{bs lb:Array Value}(eg: ∀args w,(callFunc gf args).run prog w=.ok (.enter gf args) w)(p:qai->Bool)(n0:Nat)(v:Value)(xs:List (qai))(w:World)(hx:SizesIn n0 w v xs)(hn:n0<=w.heap.size)
  (hf: ∀x,x∈xs-> ∀W,Keep (fun b=>b<w.heap.size) w W-> ∀sv,qap n0 W sv x.dist->Calls prog gf (bs.push (qlq x sv)++lb) W fun e w'=>e=.returned (.bool (p x))/\Keep (fun b=>b<W.heap.size) W w'):
  Calls prog 187 #[v,.func (.func gf) bs lb] w fun e w'=>e=.returned (.bool (xs.any p))/\Keep (fun b=>b<w.heap.size) w w':=by
 have hi:=qm6 eg p n0 v xs w hx hn hf;have hE:=qfp p xs;obtain⟨i,hfi⟩:=ex (qb4 p xs);rw [hfi]at hi hE;obtain⟨a,cap,rfl,hlen,hcap,hel⟩:=id hx;clear hel eg;refine hd4 ?_ hi hf hE hfi;clear hi hf hE hfi;intro Xhi Xhf XhE Xhfi
 go_enter Tryz.func187,Tryz.ntmps187
 go_wp2_with fail;refine Xhi.o.mono ?_;rintro e W1 ⟨rfl,k1⟩;refine hd1 ?_ k1;clear k1;intro Xk1;go_wp2_with fail;go_ret;exact⟨by rw [←XhE.o];rfl,Xk1.o⟩
set_option maxRecDepth 100000 in
theorem qvx {gf:Nat}{bs lb:Array Value}(eg: ∀args w,(callFunc gf args).run prog w=.ok (.enter gf args) w)(p:Int->Bool)(n0:Nat)(v:Value)(xs:List (Int))(w:World)(hx:qap n0 w v xs)(hn:n0<=w.heap.size)
  (hf: ∀x,x∈xs-> ∀W,Keep (fun b=>b<w.heap.size) w W->Calls prog gf (bs.push (.int .i64 x)++lb) W fun e w'=>e=.returned (.bool (p x))/\Keep (fun b=>b<W.heap.size) W w'):
  Calls prog 194 #[v,.func (.func gf) bs lb] w fun e w'=>e=.returned (.int .i64 (qb4 p xs))/\Keep (fun b=>b<w.heap.size) w w':=by
 obtain⟨a,cap,rfl,hlen,hcap,hel⟩:=id hx;refine hd2 ?_ hel hf;clear hel hf;intro Xhel Xhf
 go_enter Tryz.func194,Tryz.ntmps194
 go_wp2_with fail
 go_loopw [8] (fun i wr=> ∃k:Nat,k<=xs.length/\i=.int .i64 (k:Int)/\Keep (fun b=>b<w.heap.size) w wr/\(xs.take k).any p=false) (fun i _=>xs.length-(intOf i).toNat)
 case atStart=>exact⟨0,by omega,rfl,Keep.refl _ _,rfl⟩
 case round=>
  obtain⟨k,hk,rfl,hK,hany⟩:=hrel;have hsz:=hK.size;by_cases hlt:k<xs.length
  ·have hlt1:(k:Int)<xs.length:=by omega
   have hk0:(0:Int)<=k:=by omega
   obtain⟨x,hx1⟩: ∃x,xs[k]?=some x:=⟨_,getElem?_eq_getElem hlt⟩;obtain⟨b,o,rfl,hb,q0⟩:=Xhel.o k x hx1;have h0:=hK.cell (q0) (show b<w.heap.size by omega)
   try simp only [Nat.mul_one,Nat.add_zero] at h0
   have hbw:b<wr.heap.size:=by omega
   have hst:=qj0 p xs hx1;rw [hany,Bool.false_or]at hst;have hc:=Xhf.o x (mem_of_getElem? hx1) wr hK;obtain⟨px,hpx⟩: ∃b,p x=b:=⟨_,rfl⟩;have hfi:=qf2 p xs k x hx1 hany;rw [hpx]at hst hc hfi
   skip
   clear hx1 q0;refine hd6 ?_ hK hany hst hpx hc hfi;clear hK hany hst hpx hc hfi;intro XhK Xhany Xhst Xhpx Xhc Xhfi;go_wp2_with fail;refine Xhc.o.mono ?_;rintro e W1 ⟨rfl,k1⟩;have hK1:=XhK.o.trans (k1.mono fun b hb _=>by omega);clear k1;refine hd1 ?_ hK1;clear hK1;intro XhK1;cases px
   ·go_wp2_with fail;go_roundw
    case rel=>exact⟨k+1,by omega,by go_num,XhK1.o,Xhst.o⟩
    case measure=>simp [intOf];omega
   ·go_wp2_with fail;go_ret;exact⟨by rw [Xhfi.o (by trivial)];rfl,XhK1.o⟩
  ·obtain rfl:k=xs.length:=by omega
   rw [take_length]at hany;have hfi:=qf1 p xs hany;refine hd2 ?_ hK hfi;clear hK hfi;intro XhK Xhfi;go_wp2_with fail;go_ret;exact⟨by rw [Xhfi.o];rfl,XhK.o⟩
set_option maxRecDepth 100000 in
theorem qvy {gf:Nat}{bs lb:Array Value}(eg: ∀args w,(callFunc gf args).run prog w=.ok (.enter gf args) w)(p:Int->Bool)(n0:Nat)(v:Value)(xs:List (Int))(w:World)(hx:qap n0 w v xs)(hn:n0<=w.heap.size)
  (hf: ∀x,x∈xs-> ∀W,Keep (fun b=>b<w.heap.size) w W->Calls prog gf (bs.push (.int .i64 x)++lb) W fun e w'=>e=.returned (.bool (p x))/\Keep (fun b=>b<W.heap.size) W w'):
  Calls prog 189 #[v,.func (.func gf) bs lb] w fun e w'=>e=.returned (.bool (xs.any p))/\Keep (fun b=>b<w.heap.size) w w':=by
 have hi:=qvx eg p n0 v xs w hx hn hf;have hE:=qfp p xs;obtain⟨i,hfi⟩:=ex (qb4 p xs);rw [hfi]at hi hE;obtain⟨a,cap,rfl,hlen,hcap,hel⟩:=id hx;clear hel eg;refine hd4 ?_ hi hf hE hfi;clear hi hf hE hfi;intro Xhi Xhf XhE Xhfi
 go_enter Tryz.func189,Tryz.ntmps189
 go_wp2_with fail;refine Xhi.o.mono ?_;rintro e W1 ⟨rfl,k1⟩;refine hd1 ?_ k1;clear k1;intro Xk1;go_wp2_with fail;go_ret;exact⟨by rw [←XhE.o];rfl,Xk1.o⟩
end Go.Proofs.P16
