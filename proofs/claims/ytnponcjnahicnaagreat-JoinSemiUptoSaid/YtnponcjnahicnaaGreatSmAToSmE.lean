/- Parts of the proof. -/
import Derived.Test.YtnponcjnahicnaaGreatProg
import Derived.Test.YtnponcjnahicnaaGreatKtBToLwD
import Derived.Test.YtnponcjnahicnaaGreatHdToKp
import Derived.Test.YtnponcjnahicnaaGreatLwHToSmC
set_option linter.unusedSimpArgs false
set_option linter.unusedVariables false
open Go.Proofs.Tryz(prog)
open List(all_cons all_eq_true all_nil any_append any_eq_true append_nil drop_eq_getElem_cons drop_length flatMap_append flatMap_cons flatMap_nil getElem?_eq_getElem getElem?_map length_map mem_flatMap pairwise_iff_getElem range_succ take_add_one take_length)
namespace Go.Proofs
open Go.RowKit Go.Ink Go.Flt R4 P16
attribute [local go_sem] Oper.semAt_some
def qkx (a:qad)(bs:List qad):Bool:=bs.any fun b=>decide (a.vals=b.vals)&&decide (a.head=b.head)
def qei (ms bs:List qad):Bool:=ms.all fun a=>qkx a bs
theorem q2b {a:qad}{bs:List qad}{k:Nat}{b:qad}(hb:bs[k]?=some b):qkx a (bs.take (k+1))=(qkx a (bs.take k) ||(decide (a.vals=b.vals)&&decide (a.head=b.head))):=by
 unfold qkx;rw [take_add_one,hb,any_append];simp
theorem qwh {ms bs:List qad}{k:Nat}{a:qad}(ha:ms[k]?=some a):qei (ms.drop k) bs=(qkx a bs&&qei (ms.drop (k+1)) bs):=by
 obtain⟨h1,e1⟩:=List.getElem?_eq_some_iff.1 ha;rw [drop_eq_getElem_cons h1,e1];rfl
theorem qu0 {a:qad}{bs:List qad}:qkx a bs=decide (a∈bs):=by
 rw [Bool.eq_iff_iff,decide_eq_true_eq];unfold qkx;rw [any_eq_true];constructor
 ·rintro⟨b,hb,h⟩;rw [Bool.and_eq_true,decide_eq_true_eq,decide_eq_true_eq]at h;obtain⟨h1,v1⟩:=a;obtain⟨h2,v2⟩:=b;obtain⟨rfl,rfl⟩:=h;exact hb
 ·intro h;exact⟨a,h,by simp⟩
set_option maxRecDepth 100000 in
set_option maxHeartbeats 12000000 in
theorem qja {n:Nat}{w:World}{va vb:Value}{ms bs:List qad}(ha:MatchesIn n w va ms)(hb:MatchesIn n w vb bs)(hn:n<=w.heap.size):
  Calls prog 35 #[va,vb] w fun e w'=>e=.returned (.bool (qei ms bs))/\ ∃m,w'=w.drewN m:=by
 obtain⟨aa,ca,rfl,hla,hca,hea⟩:=id ha;obtain⟨ab,cb,rfl,hlb,hcb,heb⟩:=id hb;refine hd4 ?_ ha hb hea heb;clear ha hb hea heb;intro Xha Xhb Xhea Xheb
 go_enter Tryz.func35,Tryz.ntmps35
 go_wp2_with fail
 go_loopw [5] (fun ix wr=> ∃k:Nat,k<=ms.length/\ix=.int .i64 (k:Int)/\(∃m,wr=w.drewN m)/\qei ms bs=qei (ms.drop k) bs) (fun i _=>ms.length-(intOf i).toNat)
 case atStart=>exact⟨0,by omega,rfl,⟨0,rfl⟩,rfl⟩
 case round=>
  obtain⟨k,hk,rfl,hM,hall⟩:=hrel;have hK:Keep (fun _=>True) w wr:=by obtain⟨m,rfl⟩:=hM;exact Keep.drewN' _ _ _
  have hk0:(0:Int)<=k:=by omega
  by_cases hlt:k<ms.length
  ·have hlt1:(k:Int)<ms.length:=by omega
   obtain⟨a,hak⟩: ∃a,ms[k]?=some a:=⟨_,getElem?_eq_getElem hlt⟩;obtain⟨b,o,rfl,hbn,xh,xv,hcl,hxh,hxv⟩:=Xhea.o k a hak;rw [qwh hak]at hall;obtain⟨ah,ch,rfl,-,-,-⟩:=id hxh;obtain⟨av,cv,rfl,-,-,-⟩:=id hxv;have c0:=hcl 0 _ rfl;have c1:=hcl 1 _ rfl;simp only [Nat.add_zero]at c0 c1;obtain⟨W1,hW1⟩: ∃W1,W1=wr:=⟨_,rfl⟩;rw [←hW1]at hK hM⊢;clear hak hcl hW1;refine hd7 ?_ hK hM hall hxh hxv c0 c1;clear hK hM hall hxh hxv c0 c1;intro XhK XhM Xhall Xhxh Xhxv Xc0 Xc1;go_wp2_with fail
   go_loopw [6,7] (fun vf ix wr=> ∃j:Nat,j<=bs.length/\ix=.int .i64 (j:Int)/\(∃m,wr=w.drewN m)/\vf=.bool (qkx a (bs.take j))) (fun _ i _=>bs.length-(intOf i).toNat)
   case atStart=>exact⟨0,by omega,rfl,XhM.o,rfl⟩
   case round=>
    obtain⟨j,hj,rfl,hQ,rfl⟩:=hrel;have hJ:Keep (fun _=>True) w wr:=by obtain⟨m,rfl⟩:=hQ;exact Keep.drewN' _ _ _
    have hj0:(0:Int)<=j:=by omega
    have hs:=hJ.size;by_cases hjt:j<bs.length
    ·have hjt1:(j:Int)<bs.length:=by omega
     obtain⟨y,hyk⟩: ∃y,bs[j]?=some y:=⟨_,getElem?_eq_getElem hjt⟩;obtain⟨b2,o2,rfl,hb2,yh,yv,hcl2,hyh,hyv⟩:=Xheb.o j y hyk;have hsn:=q2b (a:=a) hyk;obtain⟨ah2,ch2,rfl,-,-,-⟩:=id hyh;obtain⟨av2,cv2,rfl,-,-,-⟩:=id hyv;have f0:=hJ.cell Xc0.o trivial;have f1:=hJ.cell Xc1.o trivial;have f2:=hJ.cell (hcl2 0 _ rfl) trivial;have f3:=hJ.cell (hcl2 1 _ rfl) trivial;simp only [Nat.add_zero]at f2 f3;have hbw:b<wr.heap.size:=by omega
     have hbw2:b2<wr.heap.size:=by omega
     cases hfd:qkx a (bs.take j) with
     |true=>
      rw [hfd,Bool.true_or]at hsn;clear hyk hcl2 hyh hyv hfd;refine hd3 ?_ hJ hQ hsn;clear hJ hQ hsn;intro XhJ XhQ Xhsn;go_wp2_with fail
      go_quiet (fail)
      go_wp2_with fail;go_roundw
      case rel=>exact⟨j+1,by omega,by go_num,(by obtain⟨m,h⟩:=XhQ.o;rw [h,World.drewN_drewN];exact⟨_,rfl⟩),by rw [Xhsn.o]⟩
      case measure=>simp [intOf];omega
     |false=>
      rw [hfd,Bool.false_or]at hsn;have hcallv: ∀m,Calls prog 39 #[.slice av a.vals.length cv,.slice av2 y.vals.length cv2] (wr.drewN m) fun e w'=>e=.returned (.bool (decide (a.vals=y.vals)))/\ ∃m',w'=(wr.drewN m).drewN m':=fun m=>
       qev n _ _ a.vals y.vals _ (qbr Xhxv.o ((hJ.trans (Keep.drewN' _ _ _)).mono fun _ _ _=>trivial)) (qbr hyv ((hJ.trans (Keep.drewN' _ _ _)).mono fun _ _ _=>trivial)) (by simp;omega)
      have hcallh: ∀m,Calls prog 39 #[.slice ah a.head.length ch,.slice ah2 y.head.length ch2] (wr.drewN m) fun e w'=>e=.returned (.bool (decide (a.head=y.head)))/\ ∃m',w'=(wr.drewN m).drewN m':=fun m=>
       qev n _ _ a.head y.head _ (qbr Xhxh.o ((hJ.trans (Keep.drewN' _ _ _)).mono fun _ _ _=>trivial)) (qbr hyh ((hJ.trans (Keep.drewN' _ _ _)).mono fun _ _ _=>trivial)) (by simp;omega)
      obtain⟨c,hc⟩:=ex (decide (a.head=y.head));obtain⟨d,hd⟩:=ex (decide (a.vals=y.vals));simp only [hc,hd]at hsn hcallv hcallh;clear hyk hcl2 hyh hyv hfd hc hd;cases d with
      |false=>
       rw [Bool.false_and]at hsn;refine hd5 ?_ hJ hQ hsn hcallv hcallh;clear hJ hQ hsn hcallv hcallh;intro XhJ XhQ Xhsn Xhcallv Xhcallh;go_wp2_with fail
       go_quiet ((go_at_call 39;first |with_reducible exact Calls.quiet_of (Xhcallv.o _) |with_reducible exact Calls.quiet_of (Xhcallh.o _) |exact Calls.quiet_of (Xhcallh.o _)))
       go_wp2_with fail;go_roundw
       case rel=>exact⟨j+1,by omega,by go_num,(by obtain⟨m,h⟩:=XhQ.o;rw [h,World.drewN_drewN];exact⟨_,rfl⟩),by rw [Xhsn.o]⟩
       case measure=>simp [intOf];omega
      |true=>
       rw [Bool.true_and]at hsn;refine hd5 ?_ hJ hQ hsn hcallv hcallh;clear hJ hQ hsn hcallv hcallh;intro XhJ XhQ Xhsn Xhcallv Xhcallh;go_wp2_with fail
       go_quiet ((go_at_call 39;first |with_reducible exact Calls.quiet_of (Xhcallv.o _) |with_reducible exact Calls.quiet_of (Xhcallh.o _) |exact Calls.quiet_of (Xhcallh.o _)))
       go_wp2_with fail;go_roundw
       case rel=>exact⟨j+1,by omega,by go_num,(by obtain⟨m,h⟩:=XhQ.o;rw [h,World.drewN_drewN];exact⟨_,rfl⟩),by rw [Xhsn.o]⟩
       case measure=>simp [intOf];omega
    ·obtain rfl:j=bs.length:=by omega
     rw [take_length];cases hfd:qkx a bs with
     |true=>
      have hall2:qei ms bs=qei (ms.drop (k+1)) bs:=by rw [Xhall.o,hfd];rfl
      clear hjt hfd;refine hd3 ?_ hJ hQ hall2;clear hJ hQ hall2;intro XhJ XhQ Xhall2;go_wp2_with fail;go_roundw
      case rel=>exact⟨k+1,by omega,by go_num,XhQ.o,Xhall2.o⟩
      case measure=>simp [intOf];omega
     |false=>
      have hall2:qei ms bs=false:=by rw [Xhall.o,hfd];rfl
      clear hjt hfd;refine hd3 ?_ hJ hQ hall2;clear hJ hQ hall2;intro XhJ XhQ Xhall2;go_wp2_with fail;go_ret;exact⟨by rw [Xhall2.o];try rfl,XhQ.o⟩
  ·obtain rfl:k=ms.length:=by omega
   have hall2:qei ms bs=true:=by rw [hall,drop_length];rfl
   clear hlt hall;refine hd3 ?_ hK hM hall2;clear hK hM hall2;intro XhK XhM Xhall2;go_wp2_with fail;go_ret;exact⟨by rw [Xhall2.o];try rfl,XhM.o⟩
def q2c (l:List qad):Prop:= ∀i a b,l[i]?=some a->l[i+1]?=some b->a.vals≠b.vals
theorem qu1 {l:List qad}(h:(l.map (·.vals)).Nodup):q2c l:=fun i a b ha hb e=>by
 have h1:(l.map (·.vals))[i]?=some a.vals:=by rw [getElem?_map,ha];rfl
 have h2:(l.map (·.vals))[i+1]?=some b.vals:=by rw [getElem?_map,hb];rfl
 obtain⟨l1,e1⟩:=List.getElem?_eq_some_iff.1 h1;obtain⟨l2,e2⟩:=List.getElem?_eq_some_iff.1 h2;have:=(pairwise_iff_getElem.1 h) i (i+1) l1 l2 (by omega);exact this (by rw [e1,e2,e])
set_option maxRecDepth 100000 in
set_option maxHeartbeats 1000000 in
theorem qu2 {n:Nat}{w:World}{va:Value}{ms:List qad}(ha:MatchesIn n w va ms)(hn:n<=w.heap.size)(hap:q2c ms):
  Calls prog 34 #[va] w fun e w'=>e=.returned (.bool false)/\Keep (fun _=>True) w w':=by
 obtain⟨aa,ca,rfl,hla,hca,hea⟩:=id ha;refine hd3 ?_ ha hea hap;clear ha hea hap;intro Xha Xhea Xhap
 go_enter Tryz.func34,Tryz.ntmps34
 go_wp2_with fail
 go_loopw [3] (fun ix wr=> ∃k:Nat,1<=k/\k<=ms.length+1/\ix=.int .i64 (k:Int)/\Keep (fun _=>True) w wr) (fun i _=>ms.length+1-(intOf i).toNat)
 case atStart=>exact⟨1,by omega,by omega,rfl,Keep.refl _ _⟩
 case round=>
  obtain⟨k,hk1,hk,rfl,hK⟩:=hrel;by_cases hlt:k<ms.length
  ·have hlt1:(k:Int)<ms.length:=by omega
   obtain⟨j,rfl⟩: ∃j,k=j+1:=⟨k-1,by omega⟩;obtain⟨a,hak⟩: ∃a,ms[j]?=some a:=⟨_,getElem?_eq_getElem (by omega)⟩;obtain⟨y,hyk⟩: ∃y,ms[j+1]?=some y:=⟨_,getElem?_eq_getElem hlt⟩;obtain⟨b,o,hab,hbn,xh,xv,hcl,hxh,hxv⟩:=Xhea.o j a hak;subst hab;obtain⟨b2,o2,hab2,hb2,yh,yv,hcl2,hyh,hyv⟩:=Xhea.o (j+1) y hyk;cases hab2;obtain⟨av,cv,rfl,-,-,-⟩:=id hxv;obtain⟨av2,cv2,rfl,-,-,-⟩:=id hyv;have hs:=hK.size;have f1:=hK.cell (hcl 1 _ rfl) trivial;have f3:=hK.cell (hcl2 1 _ rfl) trivial;have hbw:b<wr.heap.size:=by omega
   have hne:decide (a.vals=y.vals)=false:=decide_eq_false (Xhap.o j a y hak hyk);have hcallv: ∀m,Calls prog 39 #[.slice av a.vals.length cv,.slice av2 y.vals.length cv2] (wr.drewN m) fun e w'=>e=.returned (.bool false)/\ ∃m',w'=(wr.drewN m).drewN m':=fun m=>by
    have:=qev n _ _ a.vals y.vals (wr.drewN m) (qbr hxv ((hK.trans (Keep.drewN' _ _ _)).mono fun _ _ _=>trivial)) (qbr hyv ((hK.trans (Keep.drewN' _ _ _)).mono fun _ _ _=>trivial)) (by simp;omega);rw [hne]at this;exact this
   have e1:((j+1:Nat):Int)-1=(j:Int):=by omega
   have e0:(0:Int)<=((j+1:Nat):Int):=by omega
   have e2:(0:Int)<=(j:Int):=by omega
   have e3:(j:Int)<ms.length:=by omega
   clear hak hyk hcl hcl2 hxh hxv hyh hyv hne;refine hd2 ?_ hK hcallv;clear hK hcallv;intro XhK Xhcallv;go_wp2_with fail
   go_quiet ((go_at_call 39;exact Calls.quiet_of (Xhcallv.o _)))
   go_wp2_with fail;go_roundw
   case rel=>exact⟨j+1+1,by omega,by omega,by go_num,XhK.o.trans (Keep.drewN' _ _ _)⟩
   case measure=>simp [intOf];omega
  ·have hlt1: ¬(k:Int)<ms.length:=by omega
   refine hd1 ?_ hK;clear hK;intro XhK;go_wp2_with fail;go_ret;exact⟨rfl,XhK.o⟩
end Go.Proofs
namespace Go.Proofs
open Go.RowKit Go.Ink Go.Flt R4 P16
theorem q2d {A:Type}(k:Nat)(so sd sa:A)(m:Nat):dF k so sd sa m=so∨dF k so sd sa m=sd∨dF k so sd sa m=sa:=by
 unfold dF;split
 ·exact .inl rfl
 ·split
  ·exact .inr (.inl rfl)
  ·exact .inr (.inr rfl)
theorem q2e {r:RuleD}{O F A B l:List ql}(nO:O.Nodup)(nF:F.Nodup)(nA:A.Nodup)(hO: ∀f,f∈O->f∈l)(hF: ∀f,f∈F->f∈l)(hA: ∀f,f∈A->f∈l)(hv:qgh r l=false)(rk:Nat->Nat)(k:Nat):(qcv (qem r.body O F A B rk k) r).length<=20000:=by
 unfold qcv;rw [qgp,length_map];obtain⟨-,h2,h3⟩:=qi5 hv;refine qks (fun i=>?_) (fun i t s ht hs=>?_) h3
 ·refine qhu ?_ _ _;show(dF k O F A (rk i)).Nodup;rcases q2d k O F A (rk i) with h |h |h<;>rw [h]<;>assumption
 ·have hm:(⟨(r.body.getD i default).atom.pred,t⟩:ql)∈dF k O F A (rk i):=(qay.1 ht).1;refine((qjq (fs:=l) (l:= [])).2 h2).2 (⟨(r.body.getD i default).atom.pred,t⟩:ql) s ?_ hs;rcases q2d k O F A (rk i) with h |h |h
  ·rw [h]at hm;exact hO _ hm
  ·rw [h]at hm;exact hF _ hm
  ·rw [h]at hm;exact hA _ hm
theorem q2f (r:RuleD)(O F A B:List ql)(rk:Nat->Nat)(k:Nat):qgi r O F A B rk (k+1)=qgi r O F A B rk k++qcv (qem r.body O F A B rk k) r:=by
 unfold qgi;rw [range_succ,flatMap_append,flatMap_cons,flatMap_nil,append_nil]
theorem qy9 {r:RuleD}(hr:qcr r){O F A B:List ql}{rk:Nat->Nat}{k:Nat}: ∀m,m∈qgi r O F A B rk k->m.head.length<=1073741824/\m.vals.length<=1073741824:=fun m hm=>by
 unfold qgi at hm;obtain⟨j,-,hj⟩:=mem_flatMap.1 hm;exact qmy hr m hj
theorem GStep.stay {n0:Nat}{g γ:Gh}{w X Y:World}{C:Nat->Prop}(h:GStep n0 g w γ X)(hK:Keep C X Y)(hC: ∀b,b<w.heap.size->C b)(hi:GInv γ Y):GStep n0 g w γ Y:=
 ⟨⟨hK.os.trans h.keep.os,hK.tape.trans h.keep.tape,hK.output.trans h.keep.output,Nat.le_trans h.keep.size hK.size,fun k hk hf=>(hK.block k (Nat.lt_of_lt_of_le hk h.keep.size) (hC k hk)).trans (h.keep.block k hk hf)⟩,h.more,h.new,h.held,hi⟩
theorem q7g {P:Nat->Prop}(w:World):TdAt P w (.slice none 0 0) []:=(qwz w).td
theorem qqe {ms bs:List qad}(h: ∀a,a∈ms->a∈bs):qei ms bs=true:=by
 unfold qei;rw [all_eq_true];intro a ha;rw [qu0];exact decide_eq_true (h a ha)
theorem qqf (a:qad)(bs:List qad):qei [a] bs=decide (a∈bs):=by
 unfold qei;rw [all_cons,all_nil,Bool.and_true,qu0]
theorem q6i {n:Nat}{w:World}{b o L c:Nat}{ms:List qad}{i:Nat}{m:qad}(h:MatchesIn n w (.slice (some ⟨b,o,none⟩) L c) ms)(hi:ms[i]?=some m):MatchesIn n w (.slice (some ⟨b,o+i*2,none⟩) 1 (c-i)) [m]:=by
 obtain⟨a,c',hv,hl,hc,he⟩:=h;injection hv with e1 e2 e3
 subst e1;subst e3;have hil:=(List.getElem?_eq_some_iff.1 hi).1;refine⟨_,c-i,rfl,by simp,⟨by simp;omega,by omega⟩,fun k x hk=>?_⟩;have hk0:k=0:=by
  have:=(List.getElem?_eq_some_iff.1 hk).1;simp at this;exact this
 subst hk0;cases hk;obtain⟨b',o',e1,hb,hx⟩:=he i m hi;cases e1;exact⟨b,o+i*2,rfl,hb,by simpa using hx⟩
end Go.Proofs
