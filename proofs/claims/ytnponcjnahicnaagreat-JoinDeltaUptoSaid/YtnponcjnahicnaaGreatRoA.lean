/- Parts of the proof. -/
import Derived.Test.YtnponcjnahicnaaGreatPnBToPnD
import Derived.Lib.OthersKept
set_option linter.unusedSimpArgs false
set_option linter.unusedVariables false
set_option maxRecDepth 100000
set_option maxHeartbeats 4000000
open Go.Proofs.Tryz(prog)
namespace Go.Proofs
open Go.RowKit Go.Ink P16
attribute [local go_sem] Oper.semAt_some
def okR (low:Bool)(k:Nat)(c:Int):Bool:=if k=0 then (if low=true then qcy c else qct c) else qa7 c
def qcw (s:ByteArray)(low:Bool):Bool:=qb0 s&&(if low=true then qcy (qe6 s) else qct (qe6 s))
theorem qvv {s:ByteArray}{c:Int}(h:(qcv s)[0]?=some c):qe6 s=c:=by
 unfold qe6;cases b:qcv s with
 |nil=>rw [b] at h;cases h
 |cons x xs=>rw [b] at h;cases h;rfl
theorem qvw {c:Int}(h:qcy c=true):qa7 c=true:=by unfold qa7;rw [h];rfl
theorem qvx {c:Int}(h:qct c=true):qa7 c=true:=by unfold qa7;rw [h];simp
theorem q3p {s:ByteArray}{low:Bool}{k:Nat}{c:Int}(h:(qcv s)[k]?=some c)(b:okR low k c=false):qcw s low=false:=by
 unfold qcw;unfold okR at b;by_cases d:k=0
 ·subst d;rw [zI rfl]at b;rw [qvv h,b,yP]
 ·rw [zF d]at b;unfold qb0;rw [qjy _ _ h b]
  rfl
theorem q0l {s:ByteArray}{low:Bool}(e:0<s.size)(b:s.size<=64)(h: ∀(k:Nat) (c:Int),(qcv s)[k]?=some c->okR low k c=true):qcw s low=true:=by
 unfold qcw qb0;have d:=h 0 _ (qgg s e);unfold okR at d;rw [zI rfl]at d;rw [qvv (qgg s e),d,zS (show 1<=s.size from e),zS b,xM,xM,xM,yM];intro c g;obtain⟨k,l⟩:=zy.1 g;have:=h k c l;unfold okR at this;split at this
 ·split at this
  ·exact qvw this
  ·exact qvx this
 ·exact this
theorem qvy {low:Bool}{k:Nat}{c:Int}(h:128<=c):okR low k c=false:=by
 have b:qcy c=false:=by unfold qcy;rw [zM (show ¬c<=122 from wC),yP]
 have d:qct c=false:=by unfold qct;rw [zM (show ¬c<=90 from wC),yP]
 have e:qfs c=false:=by unfold qfs;rw [zM (show ¬c<=57 from wC),yP]
 unfold okR qa7;rw [b,d,e,zM (show ¬c=95 from wC)];split<;>simp
theorem q3q (s:ByteArray)(low:Bool)(k:Nat)(b:k<s.size):okR low k ((Utf8.decode s k).1:Int)=okR low k ((s[k].toNat:Nat):Int)/\(okR low k ((Utf8.decode s k).1:Int)=true->(Utf8.decode s k).2=1):=by
 by_cases h:(s[k]'b).toNat<128
 ·rw [decode_ascii s k b h];exact⟨rfl,fun _=>rfl⟩
 ·have e:=(decode_high s k b wC).1;have d:=qvy (low:=low) (k:=k) (c:=((Utf8.decode s k).1:Int)) wC;rw [d,qvy wC];exact⟨rfl,fun h=>(by cases h)⟩
theorem q0m {s:ByteArray}(h:s.toList.isEmpty=true):s=⟨#[]⟩:=by
 by_cases b:s=⟨#[]⟩
 ·exact b
 ·have c:=(show(s.toList==(⟨#[]⟩:ByteArray).toList)=false from by rw [←beq_toListBytes];simpa using b);cases e:s.toList with
  |nil=>rw [e,show(⟨#[]⟩:ByteArray).toList= [] from by first |rfl |simp] at c;simp at c
  |cons x xs=>rw [e] at h;cases h
theorem qmr (s:ByteArray)(low:Bool)(w:World):Calls prog 140 #[.string s,.bool low] w fun e w'=>e=.returned (.bool (qcw s low))/\wG w w':=by
 by_cases h0:s.size=0
 ·have hs:s=⟨#[]⟩:=by
   obtain⟨⟨l⟩⟩:=s;have:l.length=0:=h0;cases l with
   |nil=>rfl
   |cons x xs=>cases this
  have m:qcw s low=false:=by unfold qcw qb0;rw [zM (show ¬1<=s.size from wC),y8,yP,y8]
  rw [m];subst hs;clear m h0
  go_enter Tryz.func140,Tryz.ntmps140
  go_wp2;go_ret;exact⟨rfl,Keep.refl _ _⟩
 have aP:s.toList.isEmpty=false:=by
  cases h:s.toList.isEmpty with
  |false=>rfl
  |true=>have:=q0m h;subst this;exact absurd rfl h0
 rcases y7 64 s.size with h64 |h64
 ·have m:qcw s low=false:=by
   unfold qcw qb0;rw [zM (show ¬s.size<=64 from wC),yP,yP,y8]
  have aB:(64:Int)<s.size:=wC
  rw [m];clear m h64
  go_enter Tryz.func140,Tryz.ntmps140
  go_wp2;go_ret;exact⟨rfl,Keep.refl _ _⟩
 have aB: ¬((64:Int)<s.size):=wC
 obtain⟨N,hN⟩:=ex (w.heap.size);refine hd1 ?_ hN;clear hN;intro r
 go_enter Tryz.func140,Tryz.ntmps140
 go_wp2;rw [r.o]
 go_loopw [] (fun wr=> ∃k:Nat,k<=s.size/\wr.heap[N]?=some (.stringIter s k)/\Keep (fun b=>b<N) w wr/\ ∀(j:Nat) (c:Int),j<k->(qcv s)[j]?=some c->okR low j c=true) (fun wr=>s.size-wr.iterPos N)
 case atStart=>exact⟨0,wC,by rw [←r.o];exact World.iter_heap w s 0,kAl,fun j c hj=>wC⟩
 case round=>
  obtain⟨k,hk,aj,hK,ai⟩:=hrel;have v:wr.iterPos N=k:=by simp [World.iterPos,aj]
  by_cases ak:k<s.size
  ·have aD: ∀ty,(Instr.next (.pointer (some ⟨N,0,none⟩)) true ty).run prog wr=_:=fun ty=>Lib.run_next_any_at wr N s k ty aj ak;have X:=Lib.iterAt_heap wr N s k (k+(Utf8.decode s k).2) aj;have au:Keep (fun b=>b<N) w (wr.iterAt N s (k+(Utf8.decode s k).2)):=hK.trans ⟨rfl,rfl,rfl,by rw [Lib.iterAt_size];exact zG _,fun i _ hi=>Lib.iterAt_other wr N i s _ wC⟩;obtain⟨W1,aF⟩: ∃W1,W1=wr.iterAt N s (k+(Utf8.decode s k).2):=⟨_,rfl⟩;obtain⟨an,ao⟩:=q3q s low k ak;have aH:=decode_le s k;have ag:=qgg s ak;obtain⟨wd,aE⟩:=ex ((Utf8.decode s k).2);obtain⟨c,hc⟩:=ex ((Utf8.decode s k).1);rw [←aF]at aD X au;rw [hc]at aD an ao aH;rw [aE]at ao X;have am:okR low k (c:Int)=true-> ∃k':Nat,k'<=s.size/\W1.heap[N]?=some (.stringIter s k')/\Keep (fun b=>b<N) w W1/\(∀(j:Nat) (c:Int),j<k'->(qcv s)[j]?=some c->okR low j c=true)/\W1.iterPos N=k+1:=fun h=>by
    have e:=ao h;subst e;refine⟨k+1,wC,X,au,fun j c' hj u=>?_,by simp [World.iterPos,X]⟩;by_cases aJ:j<k
    ·exact ai j c' aJ u
    ·obtain rfl:j=k:=by omega
     rw [ag]at u;cases u;rw [←an];exact h
   have az:okR low k (c:Int)=false->qcw s low=false:=fun h=>q3p ag (by rw [←an];exact h);clear aj X hK ai an ao ag aE aF hc;refine hd3 ?_ am az au;clear am az au;intro t g p;have aC:(c<48)∨(48<=c/\c<=57)∨(58<=c/\c<=64)∨(65<=c/\c<=90)∨(91<=c/\c<=94)∨(c=95)∨(c=96)∨(97<=c/\c<=122)∨(122<c):=wC
   rcases aC with h |h |h |h |h |h |h |h |h
   ·have f0: ¬(97:Int)<=(c:Int):=by omega
    have f1:(c:Int)<=122:=wC
    have f2: ¬(65:Int)<=(c:Int):=wC
    have f3:(c:Int)<=90:=wC
    have f4: ¬(48:Int)<=(c:Int):=wC
    have f5:(c:Int)<=57:=wC
    have f6: ¬(c:Int)=95:=wC
    have o1:qcy (c:Int)=false:=by unfold qcy;simp;omega
    have o2:qct (c:Int)=false:=by unfold qct;simp;omega
    have o3:qa7 (c:Int)=false:=by unfold qa7;rw [o1,o2];unfold qfs;simp;omega
    by_cases q:k=0
    ·subst q;cases low with
     |true=>
      have m:=g.o (by unfold okR;rw [zI rfl,zI rfl];exact o1);clear o1 o2 o3;refine hd1 ?_ m;clear m;intro d;go_wp2;go_ret;exact⟨by rw [d.o];rfl,p.o.mono fun b u _=>by have:=r.o;omega⟩
     |false=>
      have m:=g.o (by unfold okR;rw [zI rfl,zF wF];exact o2);clear o1 o2 o3;refine hd1 ?_ m;clear m;intro d;go_wp2;go_ret;exact⟨by rw [d.o];rfl,p.o.mono fun b u _=>by have:=r.o;omega⟩
    ·have ad: ¬((k:Int)=0):=by omega
     have Y:(0:Int)<k:=wC
     have m:=g.o (by unfold okR;rw [zF q];exact o3);clear o1 o2 o3;refine hd1 ?_ m;clear m;intro d;go_wp2;go_ret;exact⟨by rw [d.o];rfl,p.o.mono fun b u _=>by have:=r.o;omega⟩
   ·have f0: ¬(97:Int)<=(c:Int):=by omega
    have f1:(c:Int)<=122:=wC
    have f2: ¬(65:Int)<=(c:Int):=wC
    have f3:(c:Int)<=90:=wC
    have f4:(48:Int)<=(c:Int):=wC
    have f5:(c:Int)<=57:=wC
    have f6: ¬(c:Int)=95:=wC
    have o1:qcy (c:Int)=false:=by unfold qcy;simp;omega
    have o2:qct (c:Int)=false:=by unfold qct;simp;omega
    have o3:qa7 (c:Int)=true:=by unfold qa7;rw [o1,o2];unfold qfs;simp;omega
    by_cases q:k=0
    ·subst q;cases low with
     |true=>
      have m:=g.o (by unfold okR;rw [zI rfl,zI rfl];exact o1);clear o1 o2 o3;refine hd1 ?_ m;clear m;intro d;go_wp2;go_ret;exact⟨by rw [d.o];rfl,p.o.mono fun b u _=>by have:=r.o;omega⟩
     |false=>
      have m:=g.o (by unfold okR;rw [zI rfl,zF wF];exact o2);clear o1 o2 o3;refine hd1 ?_ m;clear m;intro d;go_wp2;go_ret;exact⟨by rw [d.o];rfl,p.o.mono fun b u _=>by have:=r.o;omega⟩
    ·have ad: ¬((k:Int)=0):=by omega
     have Y:(0:Int)<k:=wC
     obtain⟨k',g1,g2,g3,g4,g5⟩:=t.o (by unfold okR;rw [zF q];exact o3);clear o1 o2 o3;refine hd4 ?_ g2 g3 g4 g5;clear g2 g3 g4 g5;intro z U R y;go_wp2;go_roundw
     case rel=>exact⟨k',g1,z.o,U.o,R.o⟩
     case measure=>rw [y.o,v];omega
   ·have f0: ¬(97:Int)<=(c:Int):=by omega
    have f1:(c:Int)<=122:=wC
    have f2: ¬(65:Int)<=(c:Int):=wC
    have f3:(c:Int)<=90:=wC
    have f4:(48:Int)<=(c:Int):=wC
    have f5: ¬(c:Int)<=57:=wC
    have f6: ¬(c:Int)=95:=wC
    have o1:qcy (c:Int)=false:=by unfold qcy;simp;omega
    have o2:qct (c:Int)=false:=by unfold qct;simp;omega
    have o3:qa7 (c:Int)=false:=by unfold qa7;rw [o1,o2];unfold qfs;simp;omega
    by_cases q:k=0
    ·subst q;cases low with
     |true=>
      have m:=g.o (by unfold okR;rw [zI rfl,zI rfl];exact o1);clear o1 o2 o3;refine hd1 ?_ m;clear m;intro d;go_wp2;go_ret;exact⟨by rw [d.o];rfl,p.o.mono fun b u _=>by have:=r.o;omega⟩
     |false=>
      have m:=g.o (by unfold okR;rw [zI rfl,zF wF];exact o2);clear o1 o2 o3;refine hd1 ?_ m;clear m;intro d;go_wp2;go_ret;exact⟨by rw [d.o];rfl,p.o.mono fun b u _=>by have:=r.o;omega⟩
    ·have ad: ¬((k:Int)=0):=by omega
     have Y:(0:Int)<k:=wC
     have m:=g.o (by unfold okR;rw [zF q];exact o3);clear o1 o2 o3;refine hd1 ?_ m;clear m;intro d;go_wp2;go_ret;exact⟨by rw [d.o];rfl,p.o.mono fun b u _=>by have:=r.o;omega⟩
   ·have f0: ¬(97:Int)<=(c:Int):=by omega
    have f1:(c:Int)<=122:=wC
    have f2:(65:Int)<=(c:Int):=wC
    have f3:(c:Int)<=90:=wC
    have f4:(48:Int)<=(c:Int):=wC
    have f5: ¬(c:Int)<=57:=wC
    have f6: ¬(c:Int)=95:=wC
    have o1:qcy (c:Int)=false:=by unfold qcy;simp;omega
    have o2:qct (c:Int)=true:=by unfold qct;rw [zS f2,zS f3];rfl
    have o3:qa7 (c:Int)=true:=by unfold qa7;rw [o1,o2];unfold qfs;simp
    by_cases q:k=0
    ·subst q;cases low with
     |true=>
      have m:=g.o (by unfold okR;rw [zI rfl,zI rfl];exact o1);clear o1 o2 o3;refine hd1 ?_ m;clear m;intro d;go_wp2;go_ret;exact⟨by rw [d.o];rfl,p.o.mono fun b u _=>by have:=r.o;omega⟩
     |false=>
      obtain⟨k',g1,g2,g3,g4,g5⟩:=t.o (by unfold okR;rw [zI rfl,zF wF];exact o2);clear o1 o2 o3;refine hd4 ?_ g2 g3 g4 g5;clear g2 g3 g4 g5;intro z U R y;go_wp2;go_roundw
      case rel=>exact⟨k',g1,z.o,U.o,R.o⟩
      case measure=>rw [y.o,v];omega
    ·have ad: ¬((k:Int)=0):=by omega
     have Y:(0:Int)<k:=wC
     obtain⟨k',g1,g2,g3,g4,g5⟩:=t.o (by unfold okR;rw [zF q];exact o3);clear o1 o2 o3;refine hd4 ?_ g2 g3 g4 g5;clear g2 g3 g4 g5;intro z U R y;go_wp2;go_roundw
     case rel=>exact⟨k',g1,z.o,U.o,R.o⟩
     case measure=>rw [y.o,v];omega
   ·have f0: ¬(97:Int)<=(c:Int):=by omega
    have f1:(c:Int)<=122:=wC
    have f2:(65:Int)<=(c:Int):=wC
    have f3: ¬(c:Int)<=90:=wC
    have f4:(48:Int)<=(c:Int):=wC
    have f5: ¬(c:Int)<=57:=wC
    have f6: ¬(c:Int)=95:=wC
    have o1:qcy (c:Int)=false:=by unfold qcy;simp;omega
    have o2:qct (c:Int)=false:=by unfold qct;simp;omega
    have o3:qa7 (c:Int)=false:=by unfold qa7;rw [o1,o2];unfold qfs;simp;omega
    by_cases q:k=0
    ·subst q;cases low with
     |true=>
      have m:=g.o (by unfold okR;rw [zI rfl,zI rfl];exact o1);clear o1 o2 o3;refine hd1 ?_ m;clear m;intro d;go_wp2;go_ret;exact⟨by rw [d.o];rfl,p.o.mono fun b u _=>by have:=r.o;omega⟩
     |false=>
      have m:=g.o (by unfold okR;rw [zI rfl,zF wF];exact o2);clear o1 o2 o3;refine hd1 ?_ m;clear m;intro d;go_wp2;go_ret;exact⟨by rw [d.o];rfl,p.o.mono fun b u _=>by have:=r.o;omega⟩
    ·have ad: ¬((k:Int)=0):=by omega
     have Y:(0:Int)<k:=wC
     have m:=g.o (by unfold okR;rw [zF q];exact o3);clear o1 o2 o3;refine hd1 ?_ m;clear m;intro d;go_wp2;go_ret;exact⟨by rw [d.o];rfl,p.o.mono fun b u _=>by have:=r.o;omega⟩
   ·have f0: ¬(97:Int)<=(c:Int):=by omega
    have f1:(c:Int)<=122:=wC
    have f2:(65:Int)<=(c:Int):=wC
    have f3: ¬(c:Int)<=90:=wC
    have f4:(48:Int)<=(c:Int):=wC
    have f5: ¬(c:Int)<=57:=wC
    have f6:(c:Int)=95:=wC
    have o1:qcy (c:Int)=false:=by unfold qcy;simp;omega
    have o2:qct (c:Int)=false:=by unfold qct;simp;omega
    have o3:qa7 (c:Int)=true:=by unfold qa7;rw [o1,o2];unfold qfs;simp;omega
    obtain rfl:c=95:=wC
    by_cases q:k=0
    ·subst q;cases low with
     |true=>
      have m:=g.o (by unfold okR;rw [zI rfl,zI rfl];exact o1);clear o1 o2 o3;refine hd1 ?_ m;clear m;intro d;go_wp2;go_ret;exact⟨by rw [d.o];rfl,p.o.mono fun b u _=>by have:=r.o;omega⟩
     |false=>
      have m:=g.o (by unfold okR;rw [zI rfl,zF wF];exact o2);clear o1 o2 o3;refine hd1 ?_ m;clear m;intro d;go_wp2;go_ret;exact⟨by rw [d.o];rfl,p.o.mono fun b u _=>by have:=r.o;omega⟩
    ·have ad: ¬((k:Int)=0):=by omega
     have Y:(0:Int)<k:=wC
     obtain⟨k',g1,g2,g3,g4,g5⟩:=t.o (by unfold okR;rw [zF q];exact o3);clear o1 o2 o3;refine hd4 ?_ g2 g3 g4 g5;clear g2 g3 g4 g5;intro z U R y;go_wp2;go_roundw
     case rel=>exact⟨k',g1,z.o,U.o,R.o⟩
     case measure=>rw [y.o,v];omega
   ·have f0: ¬(97:Int)<=(c:Int):=by omega
    have f1:(c:Int)<=122:=wC
    have f2:(65:Int)<=(c:Int):=wC
    have f3: ¬(c:Int)<=90:=wC
    have f4:(48:Int)<=(c:Int):=wC
    have f5: ¬(c:Int)<=57:=wC
    have f6: ¬(c:Int)=95:=wC
    have o1:qcy (c:Int)=false:=by unfold qcy;simp;omega
    have o2:qct (c:Int)=false:=by unfold qct;simp;omega
    have o3:qa7 (c:Int)=false:=by unfold qa7;rw [o1,o2];unfold qfs;simp;omega
    by_cases q:k=0
    ·subst q;cases low with
     |true=>
      have m:=g.o (by unfold okR;rw [zI rfl,zI rfl];exact o1);clear o1 o2 o3;refine hd1 ?_ m;clear m;intro d;go_wp2;go_ret;exact⟨by rw [d.o];rfl,p.o.mono fun b u _=>by have:=r.o;omega⟩
     |false=>
      have m:=g.o (by unfold okR;rw [zI rfl,zF wF];exact o2);clear o1 o2 o3;refine hd1 ?_ m;clear m;intro d;go_wp2;go_ret;exact⟨by rw [d.o];rfl,p.o.mono fun b u _=>by have:=r.o;omega⟩
    ·have ad: ¬((k:Int)=0):=by omega
     have Y:(0:Int)<k:=wC
     have m:=g.o (by unfold okR;rw [zF q];exact o3);clear o1 o2 o3;refine hd1 ?_ m;clear m;intro d;go_wp2;go_ret;exact⟨by rw [d.o];rfl,p.o.mono fun b u _=>by have:=r.o;omega⟩
   ·have f0:(97:Int)<=(c:Int):=by omega
    have f1:(c:Int)<=122:=wC
    have f2:(65:Int)<=(c:Int):=wC
    have f3: ¬(c:Int)<=90:=wC
    have f4:(48:Int)<=(c:Int):=wC
    have f5: ¬(c:Int)<=57:=wC
    have f6: ¬(c:Int)=95:=wC
    have o1:qcy (c:Int)=true:=by unfold qcy;rw [zS f0,zS f1];rfl
    have o2:qct (c:Int)=false:=by unfold qct;simp;omega
    have o3:qa7 (c:Int)=true:=by unfold qa7;rw [o1,o2];unfold qfs;simp
    by_cases q:k=0
    ·subst q;cases low with
     |true=>
      obtain⟨k',g1,g2,g3,g4,g5⟩:=t.o (by unfold okR;rw [zI rfl,zI rfl];exact o1);clear o1 o2 o3;refine hd4 ?_ g2 g3 g4 g5;clear g2 g3 g4 g5;intro z U R y;go_wp2;go_roundw
      case rel=>exact⟨k',g1,z.o,U.o,R.o⟩
      case measure=>rw [y.o,v];omega
     |false=>
      have m:=g.o (by unfold okR;rw [zI rfl,zF wF];exact o2);clear o1 o2 o3;refine hd1 ?_ m;clear m;intro d;go_wp2;go_ret;exact⟨by rw [d.o];rfl,p.o.mono fun b u _=>by have:=r.o;omega⟩
    ·have ad: ¬((k:Int)=0):=by omega
     have Y:(0:Int)<k:=wC
     obtain⟨k',g1,g2,g3,g4,g5⟩:=t.o (by unfold okR;rw [zF q];exact o3);clear o1 o2 o3;refine hd4 ?_ g2 g3 g4 g5;clear g2 g3 g4 g5;intro z U R y;go_wp2;go_roundw
     case rel=>exact⟨k',g1,z.o,U.o,R.o⟩
     case measure=>rw [y.o,v];omega
   ·have f0:(97:Int)<=(c:Int):=by omega
    have f1: ¬(c:Int)<=122:=wC
    have f2:(65:Int)<=(c:Int):=wC
    have f3: ¬(c:Int)<=90:=wC
    have f4:(48:Int)<=(c:Int):=wC
    have f5: ¬(c:Int)<=57:=wC
    have f6: ¬(c:Int)=95:=wC
    have o1:qcy (c:Int)=false:=by unfold qcy;simp;omega
    have o2:qct (c:Int)=false:=by unfold qct;simp;omega
    have o3:qa7 (c:Int)=false:=by unfold qa7;rw [o1,o2];unfold qfs;simp;omega
    by_cases q:k=0
    ·subst q;cases low with
     |true=>
      have m:=g.o (by unfold okR;rw [zI rfl,zI rfl];exact o1);clear o1 o2 o3;refine hd1 ?_ m;clear m;intro d;go_wp2;go_ret;exact⟨by rw [d.o];rfl,p.o.mono fun b u _=>by have:=r.o;omega⟩
     |false=>
      have m:=g.o (by unfold okR;rw [zI rfl,zF wF];exact o2);clear o1 o2 o3;refine hd1 ?_ m;clear m;intro d;go_wp2;go_ret;exact⟨by rw [d.o];rfl,p.o.mono fun b u _=>by have:=r.o;omega⟩
    ·have ad: ¬((k:Int)=0):=by omega
     have Y:(0:Int)<k:=wC
     have m:=g.o (by unfold okR;rw [zF q];exact o3);clear o1 o2 o3;refine hd1 ?_ m;clear m;intro d;go_wp2;go_ret;exact⟨by rw [d.o];rfl,p.o.mono fun b u _=>by have:=r.o;omega⟩
  ·obtain rfl:k=s.size:=by omega
   have aK: ∀ty,(Instr.next (.pointer (some ⟨N,0,none⟩)) true ty).run prog wr=_:=fun ty=>Lib.run_next_end_at wr N s s.size ty aj ak;have m:qcw s low=true:=q0l wC h64 (fun j c u=>ai j c (by have:=(zA.1 u).1;rw [qjd] at this;exact this) u);clear ai aj ak v;refine hd2 ?_ m hK;clear m hK;intro d aI;go_wp2;go_ret;exact⟨by rw [d.o];rfl,aI.o.mono fun b u _=>by have:=r.o;omega⟩
end Go.Proofs
