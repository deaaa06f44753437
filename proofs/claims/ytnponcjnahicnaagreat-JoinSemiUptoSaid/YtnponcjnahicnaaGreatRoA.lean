/- Parts of the proof. -/
import Derived.Test.YtnponcjnahicnaaGreatProg
import Derived.Test.YtnponcjnahicnaaGreatPnDToPnJ
import Derived.Laws.RangeAny
import Derived.Lib.OthersKept
import Derived.Test.YtnponcjnahicnaaGreatHdToKp
set_option linter.unusedSimpArgs false
set_option linter.unusedVariables false
open Go.Proofs.Tryz(prog)
open List(all_eq_true mem_iff_getElem?)
namespace Go.Proofs
open Go.RowKit Go.Ink P16
attribute [local go_sem] Oper.semAt_some
def okR (low:Bool)(k:Nat)(c:Int):Bool:=if k=0 then (if low=true then qdc c else qcw c) else qbq c
def qeg (s:ByteArray)(low:Bool):Bool:=qb8 s&&(if low=true then qdc (qf0 s) else qcw (qf0 s))
theorem qux {s:ByteArray}{c:Int}(h:(qds s)[0]?=some c):qf0 s=c:=by
 unfold qf0;cases hb:qds s with
 |nil=>rw [hb] at h;cases h
 |cons x xs=>rw [hb] at h;cases h;rfl
theorem q4n {c:Int}(h:qdc c=true):qbq c=true:=by unfold qbq;rw [h];rfl
theorem q4o {c:Int}(h:qcw c=true):qbq c=true:=by unfold qbq;rw [h];simp
theorem q16 {s:ByteArray}{low:Bool}{k:Nat}{c:Int}(h:(qds s)[k]?=some c)(hb:okR low k c=false):qeg s low=false:=by
 unfold qeg;unfold okR at hb;by_cases hk:k=0
 ·subst hk;rw [if_pos rfl]at hb;rw [qux h,hb,Bool.and_false]
 ·rw [if_neg hk]at hb;unfold qb8;rw [qw5 _ _ h hb]
  rfl
theorem qy6 {s:ByteArray}{low:Bool}(h0:0<s.size)(h64:s.size<=64)(h: ∀(k:Nat) (c:Int),(qds s)[k]?=some c->okR low k c=true):qeg s low=true:=by
 unfold qeg qb8;have hh:=h 0 _ (qjx s h0);unfold okR at hh;rw [if_pos rfl]at hh;rw [qux (qjx s h0),hh,decide_eq_true (show 1<=s.size from h0),decide_eq_true h64,Bool.and_true,Bool.and_true,Bool.and_true,all_eq_true];intro c hc;obtain⟨k,hk⟩:=mem_iff_getElem?.1 hc;have:=h k c hk;unfold okR at this;split at this
 ·split at this
  ·exact q4n this
  ·exact q4o this
 ·exact this
theorem quy {low:Bool}{k:Nat}{c:Int}(h:128<=c):okR low k c=false:=by
 have h1:qdc c=false:=by unfold qdc;rw [decide_eq_false (show ¬c<=122 by omega),Bool.and_false]
 have h2:qcw c=false:=by unfold qcw;rw [decide_eq_false (show ¬c<=90 by omega),Bool.and_false]
 have h3:qgd c=false:=by unfold qgd;rw [decide_eq_false (show ¬c<=57 by omega),Bool.and_false]
 unfold okR qbq;rw [h1,h2,h3,decide_eq_false (show ¬c=95 by omega)];split<;>simp
theorem q17 (s:ByteArray)(low:Bool)(k:Nat)(hk:k<s.size):okR low k ((Utf8.decode s k).1:Int)=okR low k ((s[k].toNat:Nat):Int)/\(okR low k ((Utf8.decode s k).1:Int)=true->(Utf8.decode s k).2=1):=by
 by_cases h:(s[k]'hk).toNat<128
 ·rw [decode_ascii s k hk h];exact⟨rfl,fun _=>rfl⟩
 ·have h1:=(decode_high s k hk (by omega)).1;have e1:=quy (low:=low) (k:=k) (c:=((Utf8.decode s k).1:Int)) (by omega);rw [e1,quy (by omega)];exact⟨rfl,fun h=>(by cases h)⟩
theorem qy7 {s:ByteArray}(h:s.toList.isEmpty=true):s=⟨#[]⟩:=by
 by_cases he:s=⟨#[]⟩
 ·exact he
 ·have h2:=(show(s.toList==(⟨#[]⟩:ByteArray).toList)=false from by rw [←beq_toListBytes];simpa using he);cases e:s.toList with
  |nil=>rw [e,show(⟨#[]⟩:ByteArray).toList= [] from by first |rfl |simp] at h2;simp at h2
  |cons x xs=>rw [e] at h;cases h
set_option maxRecDepth 100000 in
set_option maxHeartbeats 4000000 in
theorem qmf (s:ByteArray)(low:Bool)(w:World):Calls prog 140 #[.string s,.bool low] w fun e w'=>e=.returned (.bool (qeg s low))/\Keep (fun _=>True) w w':=by
 by_cases h0:s.size=0
 ·have hs:s=⟨#[]⟩:=by
   obtain⟨⟨l⟩⟩:=s;have:l.length=0:=h0;cases l with
   |nil=>rfl
   |cons x xs=>cases this
  have hE:qeg s low=false:=by unfold qeg qb8;rw [decide_eq_false (show ¬1<=s.size by omega),Bool.false_and,Bool.and_false,Bool.false_and]
  rw [hE];subst hs;clear hE h0
  go_enter Tryz.func140,Tryz.ntmps140
  go_wp2;go_ret;exact⟨rfl,Keep.refl _ _⟩
 have hne:s.toList.isEmpty=false:=by
  cases h:s.toList.isEmpty with
  |false=>rfl
  |true=>have:=qy7 h;subst this;exact absurd rfl h0
 rcases Nat.lt_or_ge 64 s.size with h64 |h64
 ·have hE:qeg s low=false:=by
   unfold qeg qb8;rw [decide_eq_false (show ¬s.size<=64 by omega),Bool.and_false,Bool.and_false,Bool.false_and]
  have h64i:(64:Int)<s.size:=by omega
  rw [hE];clear hE h64
  go_enter Tryz.func140,Tryz.ntmps140
  go_wp2;go_ret;exact⟨rfl,Keep.refl _ _⟩
 have h64i: ¬((64:Int)<s.size):=by omega
 obtain⟨N,hN⟩:=ex (w.heap.size);refine hd1 ?_ hN;clear hN;intro XhN
 go_enter Tryz.func140,Tryz.ntmps140
 go_wp2;rw [XhN.o]
 go_loopw [] (fun wr=> ∃k:Nat,k<=s.size/\wr.heap[N]?=some (.stringIter s k)/\Keep (fun b=>b<N) w wr/\ ∀(j:Nat) (c:Int),j<k->(qds s)[j]?=some c->okR low j c=true) (fun wr=>s.size-wr.iterPos N)
 case atStart=>exact⟨0,by omega,by rw [←XhN.o];exact World.iter_heap w s 0,kAl,fun j c hj=>by omega⟩
 case round=>
  obtain⟨k,hk,hit,hK,hall⟩:=hrel;have hpos:wr.iterPos N=k:=by simp [World.iterPos,hit]
  by_cases hlt:k<s.size
  ·have hnx: ∀ty,(Instr.next (.pointer (some ⟨N,0,none⟩)) true ty).run prog wr=_:=fun ty=>Lib.run_next_any_at wr N s k ty hit hlt;have hit2:=Lib.iterAt_heap wr N s k (k+(Utf8.decode s k).2) hit;have hK2:Keep (fun b=>b<N) w (wr.iterAt N s (k+(Utf8.decode s k).2)):=hK.trans ⟨rfl,rfl,rfl,by rw [Lib.iterAt_size];exact Nat.le_refl _,fun i _ hi=>Lib.iterAt_other wr N i s _ (by omega)⟩;obtain⟨W1,hW1⟩: ∃W1,W1=wr.iterAt N s (k+(Utf8.decode s k).2):=⟨_,rfl⟩;obtain⟨hq1,hq2⟩:=q17 s low k hlt;have hcl:=decode_le s k;have hbyte:=qjx s hlt;obtain⟨wd,hwd⟩:=ex ((Utf8.decode s k).2);obtain⟨c,hc⟩:=ex ((Utf8.decode s k).1);rw [←hW1]at hnx hit2 hK2;rw [hc]at hnx hq1 hq2 hcl;rw [hwd]at hq2 hit2;have hgood:okR low k (c:Int)=true-> ∃k':Nat,k'<=s.size/\W1.heap[N]?=some (.stringIter s k')/\Keep (fun b=>b<N) w W1/\(∀(j:Nat) (c:Int),j<k'->(qds s)[j]?=some c->okR low j c=true)/\W1.iterPos N=k+1:=fun h=>by
    have e:=hq2 h;subst e;refine⟨k+1,by omega,hit2,hK2,fun j c' hj hb=>?_,by simp [World.iterPos,hit2]⟩;by_cases hjk:j<k
    ·exact hall j c' hjk hb
    ·obtain rfl:j=k:=by omega
     rw [hbyte]at hb;cases hb;rw [←hq1];exact h
   have hbad:okR low k (c:Int)=false->qeg s low=false:=fun h=>q16 hbyte (by rw [←hq1];exact h);clear hit hit2 hK hall hq1 hq2 hbyte hwd hW1 hc;refine hd3 ?_ hgood hbad hK2;clear hgood hbad hK2;intro Xhgood Xhbad XhK2;have hint:(c<48)∨(48<=c/\c<=57)∨(58<=c/\c<=64)∨(65<=c/\c<=90)∨(91<=c/\c<=94)∨(c=95)∨(c=96)∨(97<=c/\c<=122)∨(122<c):=by omega
   rcases hint with h |h |h |h |h |h |h |h |h
   ·have f0: ¬(97:Int)<=(c:Int):=by omega
    have f1:(c:Int)<=122:=by omega
    have f2: ¬(65:Int)<=(c:Int):=by omega
    have f3:(c:Int)<=90:=by omega
    have f4: ¬(48:Int)<=(c:Int):=by omega
    have f5:(c:Int)<=57:=by omega
    have f6: ¬(c:Int)=95:=by omega
    have o1:qdc (c:Int)=false:=by unfold qdc;simp;omega
    have o2:qcw (c:Int)=false:=by unfold qcw;simp;omega
    have o3:qbq (c:Int)=false:=by unfold qbq;rw [o1,o2];unfold qgd;simp;omega
    by_cases hk0:k=0
    ·subst hk0;cases low with
     |true=>
      have hE:=Xhbad.o (by unfold okR;rw [if_pos rfl,if_pos rfl];exact o1);clear o1 o2 o3;refine hd1 ?_ hE;clear hE;intro XhE;go_wp2;go_ret;exact⟨by rw [XhE.o];rfl,XhK2.o.mono fun b hb _=>by have:=XhN.o;omega⟩
     |false=>
      have hE:=Xhbad.o (by unfold okR;rw [if_pos rfl,if_neg (by decide)];exact o2);clear o1 o2 o3;refine hd1 ?_ hE;clear hE;intro XhE;go_wp2;go_ret;exact⟨by rw [XhE.o];rfl,XhK2.o.mono fun b hb _=>by have:=XhN.o;omega⟩
    ·have hki: ¬((k:Int)=0):=by omega
     have hkp:(0:Int)<k:=by omega
     have hE:=Xhbad.o (by unfold okR;rw [if_neg hk0];exact o3);clear o1 o2 o3;refine hd1 ?_ hE;clear hE;intro XhE;go_wp2;go_ret;exact⟨by rw [XhE.o];rfl,XhK2.o.mono fun b hb _=>by have:=XhN.o;omega⟩
   ·have f0: ¬(97:Int)<=(c:Int):=by omega
    have f1:(c:Int)<=122:=by omega
    have f2: ¬(65:Int)<=(c:Int):=by omega
    have f3:(c:Int)<=90:=by omega
    have f4:(48:Int)<=(c:Int):=by omega
    have f5:(c:Int)<=57:=by omega
    have f6: ¬(c:Int)=95:=by omega
    have o1:qdc (c:Int)=false:=by unfold qdc;simp;omega
    have o2:qcw (c:Int)=false:=by unfold qcw;simp;omega
    have o3:qbq (c:Int)=true:=by unfold qbq;rw [o1,o2];unfold qgd;simp;omega
    by_cases hk0:k=0
    ·subst hk0;cases low with
     |true=>
      have hE:=Xhbad.o (by unfold okR;rw [if_pos rfl,if_pos rfl];exact o1);clear o1 o2 o3;refine hd1 ?_ hE;clear hE;intro XhE;go_wp2;go_ret;exact⟨by rw [XhE.o];rfl,XhK2.o.mono fun b hb _=>by have:=XhN.o;omega⟩
     |false=>
      have hE:=Xhbad.o (by unfold okR;rw [if_pos rfl,if_neg (by decide)];exact o2);clear o1 o2 o3;refine hd1 ?_ hE;clear hE;intro XhE;go_wp2;go_ret;exact⟨by rw [XhE.o];rfl,XhK2.o.mono fun b hb _=>by have:=XhN.o;omega⟩
    ·have hki: ¬((k:Int)=0):=by omega
     have hkp:(0:Int)<k:=by omega
     obtain⟨k',g1,g2,g3,g4,g5⟩:=Xhgood.o (by unfold okR;rw [if_neg hk0];exact o3);clear o1 o2 o3;refine hd4 ?_ g2 g3 g4 g5;clear g2 g3 g4 g5;intro Xg2 Xg3 Xg4 Xg5;go_wp2;go_roundw
     case rel=>exact⟨k',g1,Xg2.o,Xg3.o,Xg4.o⟩
     case measure=>rw [Xg5.o,hpos];omega
   ·have f0: ¬(97:Int)<=(c:Int):=by omega
    have f1:(c:Int)<=122:=by omega
    have f2: ¬(65:Int)<=(c:Int):=by omega
    have f3:(c:Int)<=90:=by omega
    have f4:(48:Int)<=(c:Int):=by omega
    have f5: ¬(c:Int)<=57:=by omega
    have f6: ¬(c:Int)=95:=by omega
    have o1:qdc (c:Int)=false:=by unfold qdc;simp;omega
    have o2:qcw (c:Int)=false:=by unfold qcw;simp;omega
    have o3:qbq (c:Int)=false:=by unfold qbq;rw [o1,o2];unfold qgd;simp;omega
    by_cases hk0:k=0
    ·subst hk0;cases low with
     |true=>
      have hE:=Xhbad.o (by unfold okR;rw [if_pos rfl,if_pos rfl];exact o1);clear o1 o2 o3;refine hd1 ?_ hE;clear hE;intro XhE;go_wp2;go_ret;exact⟨by rw [XhE.o];rfl,XhK2.o.mono fun b hb _=>by have:=XhN.o;omega⟩
     |false=>
      have hE:=Xhbad.o (by unfold okR;rw [if_pos rfl,if_neg (by decide)];exact o2);clear o1 o2 o3;refine hd1 ?_ hE;clear hE;intro XhE;go_wp2;go_ret;exact⟨by rw [XhE.o];rfl,XhK2.o.mono fun b hb _=>by have:=XhN.o;omega⟩
    ·have hki: ¬((k:Int)=0):=by omega
     have hkp:(0:Int)<k:=by omega
     have hE:=Xhbad.o (by unfold okR;rw [if_neg hk0];exact o3);clear o1 o2 o3;refine hd1 ?_ hE;clear hE;intro XhE;go_wp2;go_ret;exact⟨by rw [XhE.o];rfl,XhK2.o.mono fun b hb _=>by have:=XhN.o;omega⟩
   ·have f0: ¬(97:Int)<=(c:Int):=by omega
    have f1:(c:Int)<=122:=by omega
    have f2:(65:Int)<=(c:Int):=by omega
    have f3:(c:Int)<=90:=by omega
    have f4:(48:Int)<=(c:Int):=by omega
    have f5: ¬(c:Int)<=57:=by omega
    have f6: ¬(c:Int)=95:=by omega
    have o1:qdc (c:Int)=false:=by unfold qdc;simp;omega
    have o2:qcw (c:Int)=true:=by unfold qcw;rw [decide_eq_true f2,decide_eq_true f3];rfl
    have o3:qbq (c:Int)=true:=by unfold qbq;rw [o1,o2];unfold qgd;simp
    by_cases hk0:k=0
    ·subst hk0;cases low with
     |true=>
      have hE:=Xhbad.o (by unfold okR;rw [if_pos rfl,if_pos rfl];exact o1);clear o1 o2 o3;refine hd1 ?_ hE;clear hE;intro XhE;go_wp2;go_ret;exact⟨by rw [XhE.o];rfl,XhK2.o.mono fun b hb _=>by have:=XhN.o;omega⟩
     |false=>
      obtain⟨k',g1,g2,g3,g4,g5⟩:=Xhgood.o (by unfold okR;rw [if_pos rfl,if_neg (by decide)];exact o2);clear o1 o2 o3;refine hd4 ?_ g2 g3 g4 g5;clear g2 g3 g4 g5;intro Xg2 Xg3 Xg4 Xg5;go_wp2;go_roundw
      case rel=>exact⟨k',g1,Xg2.o,Xg3.o,Xg4.o⟩
      case measure=>rw [Xg5.o,hpos];omega
    ·have hki: ¬((k:Int)=0):=by omega
     have hkp:(0:Int)<k:=by omega
     obtain⟨k',g1,g2,g3,g4,g5⟩:=Xhgood.o (by unfold okR;rw [if_neg hk0];exact o3);clear o1 o2 o3;refine hd4 ?_ g2 g3 g4 g5;clear g2 g3 g4 g5;intro Xg2 Xg3 Xg4 Xg5;go_wp2;go_roundw
     case rel=>exact⟨k',g1,Xg2.o,Xg3.o,Xg4.o⟩
     case measure=>rw [Xg5.o,hpos];omega
   ·have f0: ¬(97:Int)<=(c:Int):=by omega
    have f1:(c:Int)<=122:=by omega
    have f2:(65:Int)<=(c:Int):=by omega
    have f3: ¬(c:Int)<=90:=by omega
    have f4:(48:Int)<=(c:Int):=by omega
    have f5: ¬(c:Int)<=57:=by omega
    have f6: ¬(c:Int)=95:=by omega
    have o1:qdc (c:Int)=false:=by unfold qdc;simp;omega
    have o2:qcw (c:Int)=false:=by unfold qcw;simp;omega
    have o3:qbq (c:Int)=false:=by unfold qbq;rw [o1,o2];unfold qgd;simp;omega
    by_cases hk0:k=0
    ·subst hk0;cases low with
     |true=>
      have hE:=Xhbad.o (by unfold okR;rw [if_pos rfl,if_pos rfl];exact o1);clear o1 o2 o3;refine hd1 ?_ hE;clear hE;intro XhE;go_wp2;go_ret;exact⟨by rw [XhE.o];rfl,XhK2.o.mono fun b hb _=>by have:=XhN.o;omega⟩
     |false=>
      have hE:=Xhbad.o (by unfold okR;rw [if_pos rfl,if_neg (by decide)];exact o2);clear o1 o2 o3;refine hd1 ?_ hE;clear hE;intro XhE;go_wp2;go_ret;exact⟨by rw [XhE.o];rfl,XhK2.o.mono fun b hb _=>by have:=XhN.o;omega⟩
    ·have hki: ¬((k:Int)=0):=by omega
     have hkp:(0:Int)<k:=by omega
     have hE:=Xhbad.o (by unfold okR;rw [if_neg hk0];exact o3);clear o1 o2 o3;refine hd1 ?_ hE;clear hE;intro XhE;go_wp2;go_ret;exact⟨by rw [XhE.o];rfl,XhK2.o.mono fun b hb _=>by have:=XhN.o;omega⟩
   ·have f0: ¬(97:Int)<=(c:Int):=by omega
    have f1:(c:Int)<=122:=by omega
    have f2:(65:Int)<=(c:Int):=by omega
    have f3: ¬(c:Int)<=90:=by omega
    have f4:(48:Int)<=(c:Int):=by omega
    have f5: ¬(c:Int)<=57:=by omega
    have f6:(c:Int)=95:=by omega
    have o1:qdc (c:Int)=false:=by unfold qdc;simp;omega
    have o2:qcw (c:Int)=false:=by unfold qcw;simp;omega
    have o3:qbq (c:Int)=true:=by unfold qbq;rw [o1,o2];unfold qgd;simp;omega
    obtain rfl:c=95:=by omega
    by_cases hk0:k=0
    ·subst hk0;cases low with
     |true=>
      have hE:=Xhbad.o (by unfold okR;rw [if_pos rfl,if_pos rfl];exact o1);clear o1 o2 o3;refine hd1 ?_ hE;clear hE;intro XhE;go_wp2;go_ret;exact⟨by rw [XhE.o];rfl,XhK2.o.mono fun b hb _=>by have:=XhN.o;omega⟩
     |false=>
      have hE:=Xhbad.o (by unfold okR;rw [if_pos rfl,if_neg (by decide)];exact o2);clear o1 o2 o3;refine hd1 ?_ hE;clear hE;intro XhE;go_wp2;go_ret;exact⟨by rw [XhE.o];rfl,XhK2.o.mono fun b hb _=>by have:=XhN.o;omega⟩
    ·have hki: ¬((k:Int)=0):=by omega
     have hkp:(0:Int)<k:=by omega
     obtain⟨k',g1,g2,g3,g4,g5⟩:=Xhgood.o (by unfold okR;rw [if_neg hk0];exact o3);clear o1 o2 o3;refine hd4 ?_ g2 g3 g4 g5;clear g2 g3 g4 g5;intro Xg2 Xg3 Xg4 Xg5;go_wp2;go_roundw
     case rel=>exact⟨k',g1,Xg2.o,Xg3.o,Xg4.o⟩
     case measure=>rw [Xg5.o,hpos];omega
   ·have f0: ¬(97:Int)<=(c:Int):=by omega
    have f1:(c:Int)<=122:=by omega
    have f2:(65:Int)<=(c:Int):=by omega
    have f3: ¬(c:Int)<=90:=by omega
    have f4:(48:Int)<=(c:Int):=by omega
    have f5: ¬(c:Int)<=57:=by omega
    have f6: ¬(c:Int)=95:=by omega
    have o1:qdc (c:Int)=false:=by unfold qdc;simp;omega
    have o2:qcw (c:Int)=false:=by unfold qcw;simp;omega
    have o3:qbq (c:Int)=false:=by unfold qbq;rw [o1,o2];unfold qgd;simp;omega
    by_cases hk0:k=0
    ·subst hk0;cases low with
     |true=>
      have hE:=Xhbad.o (by unfold okR;rw [if_pos rfl,if_pos rfl];exact o1);clear o1 o2 o3;refine hd1 ?_ hE;clear hE;intro XhE;go_wp2;go_ret;exact⟨by rw [XhE.o];rfl,XhK2.o.mono fun b hb _=>by have:=XhN.o;omega⟩
     |false=>
      have hE:=Xhbad.o (by unfold okR;rw [if_pos rfl,if_neg (by decide)];exact o2);clear o1 o2 o3;refine hd1 ?_ hE;clear hE;intro XhE;go_wp2;go_ret;exact⟨by rw [XhE.o];rfl,XhK2.o.mono fun b hb _=>by have:=XhN.o;omega⟩
    ·have hki: ¬((k:Int)=0):=by omega
     have hkp:(0:Int)<k:=by omega
     have hE:=Xhbad.o (by unfold okR;rw [if_neg hk0];exact o3);clear o1 o2 o3;refine hd1 ?_ hE;clear hE;intro XhE;go_wp2;go_ret;exact⟨by rw [XhE.o];rfl,XhK2.o.mono fun b hb _=>by have:=XhN.o;omega⟩
   ·have f0:(97:Int)<=(c:Int):=by omega
    have f1:(c:Int)<=122:=by omega
    have f2:(65:Int)<=(c:Int):=by omega
    have f3: ¬(c:Int)<=90:=by omega
    have f4:(48:Int)<=(c:Int):=by omega
    have f5: ¬(c:Int)<=57:=by omega
    have f6: ¬(c:Int)=95:=by omega
    have o1:qdc (c:Int)=true:=by unfold qdc;rw [decide_eq_true f0,decide_eq_true f1];rfl
    have o2:qcw (c:Int)=false:=by unfold qcw;simp;omega
    have o3:qbq (c:Int)=true:=by unfold qbq;rw [o1,o2];unfold qgd;simp
    by_cases hk0:k=0
    ·subst hk0;cases low with
     |true=>
      obtain⟨k',g1,g2,g3,g4,g5⟩:=Xhgood.o (by unfold okR;rw [if_pos rfl,if_pos rfl];exact o1);clear o1 o2 o3;refine hd4 ?_ g2 g3 g4 g5;clear g2 g3 g4 g5;intro Xg2 Xg3 Xg4 Xg5;go_wp2;go_roundw
      case rel=>exact⟨k',g1,Xg2.o,Xg3.o,Xg4.o⟩
      case measure=>rw [Xg5.o,hpos];omega
     |false=>
      have hE:=Xhbad.o (by unfold okR;rw [if_pos rfl,if_neg (by decide)];exact o2);clear o1 o2 o3;refine hd1 ?_ hE;clear hE;intro XhE;go_wp2;go_ret;exact⟨by rw [XhE.o];rfl,XhK2.o.mono fun b hb _=>by have:=XhN.o;omega⟩
    ·have hki: ¬((k:Int)=0):=by omega
     have hkp:(0:Int)<k:=by omega
     obtain⟨k',g1,g2,g3,g4,g5⟩:=Xhgood.o (by unfold okR;rw [if_neg hk0];exact o3);clear o1 o2 o3;refine hd4 ?_ g2 g3 g4 g5;clear g2 g3 g4 g5;intro Xg2 Xg3 Xg4 Xg5;go_wp2;go_roundw
     case rel=>exact⟨k',g1,Xg2.o,Xg3.o,Xg4.o⟩
     case measure=>rw [Xg5.o,hpos];omega
   ·have f0:(97:Int)<=(c:Int):=by omega
    have f1: ¬(c:Int)<=122:=by omega
    have f2:(65:Int)<=(c:Int):=by omega
    have f3: ¬(c:Int)<=90:=by omega
    have f4:(48:Int)<=(c:Int):=by omega
    have f5: ¬(c:Int)<=57:=by omega
    have f6: ¬(c:Int)=95:=by omega
    have o1:qdc (c:Int)=false:=by unfold qdc;simp;omega
    have o2:qcw (c:Int)=false:=by unfold qcw;simp;omega
    have o3:qbq (c:Int)=false:=by unfold qbq;rw [o1,o2];unfold qgd;simp;omega
    by_cases hk0:k=0
    ·subst hk0;cases low with
     |true=>
      have hE:=Xhbad.o (by unfold okR;rw [if_pos rfl,if_pos rfl];exact o1);clear o1 o2 o3;refine hd1 ?_ hE;clear hE;intro XhE;go_wp2;go_ret;exact⟨by rw [XhE.o];rfl,XhK2.o.mono fun b hb _=>by have:=XhN.o;omega⟩
     |false=>
      have hE:=Xhbad.o (by unfold okR;rw [if_pos rfl,if_neg (by decide)];exact o2);clear o1 o2 o3;refine hd1 ?_ hE;clear hE;intro XhE;go_wp2;go_ret;exact⟨by rw [XhE.o];rfl,XhK2.o.mono fun b hb _=>by have:=XhN.o;omega⟩
    ·have hki: ¬((k:Int)=0):=by omega
     have hkp:(0:Int)<k:=by omega
     have hE:=Xhbad.o (by unfold okR;rw [if_neg hk0];exact o3);clear o1 o2 o3;refine hd1 ?_ hE;clear hE;intro XhE;go_wp2;go_ret;exact⟨by rw [XhE.o];rfl,XhK2.o.mono fun b hb _=>by have:=XhN.o;omega⟩
  ·obtain rfl:k=s.size:=by omega
   have hend: ∀ty,(Instr.next (.pointer (some ⟨N,0,none⟩)) true ty).run prog wr=_:=fun ty=>Lib.run_next_end_at wr N s s.size ty hit hlt;have hE:qeg s low=true:=qy6 (by omega) h64 (fun j c hb=>hall j c (by have:=(List.getElem?_eq_some_iff.1 hb).1;rw [qm4] at this;exact this) hb);clear hall hit hlt hpos;refine hd2 ?_ hE hK;clear hE hK;intro XhE XhK;go_wp2;go_ret;exact⟨by rw [XhE.o];rfl,XhK.o.mono fun b hb _=>by have:=XhN.o;omega⟩
end Go.Proofs
