/- Parts of the proof. -/
import Derived.Test.YtnponcjnahicnaaGreatWkGToWkL
set_option linter.unusedSimpArgs false
set_option linter.unusedVariables false
set_option maxRecDepth 100000
set_option maxHeartbeats 4000000
open Go.Proofs.Tryz(prog)
namespace Go.Proofs
open Go.RowKit Go.Ink R4
attribute [local go_sem] Oper.semAt_some
theorem qwn {n0 n1:Nat}{W0:World}{c:WkC}{LJ:qbd}{U:Nat->Prop}{nU:Nat}{Vw:World->Prop}{all:List Asg}{Jp Jx:Nat->Gh->World->Prop}(hE:qeb n0 n1 W0 c LJ U nU Vw all Jp Jx){i:Nat}(hi:i<c.steps.length)(fx: ∀q,c.steps[i]?=some q->(c.r.body.getD q default).kind=1)(ih:qhc n1 c LJ U Vw all Jp Jx (i+1)):qhc n1 c LJ U Vw all Jp Jx i:=by
 intro k0 g W a vals kn hA;obtain⟨q,hq⟩: ∃q,c.steps[i]?=some q:=⟨_,zB hi⟩;have hB:=hA.held;have hg:=hA.inv;have kG:=(hE.hV W hA.v).2;obtain⟨L,k,sb,sc,ab,oa,cb,tb,ot,ct,cy,dd,hL,hk,dT,k4,jt,bR⟩:=qn9 hE hB hq;obtain⟨sp,ez⟩:=ex ((k.store.map fun S=>(⟨S,0,none⟩:Addr)));rw [ez]at bR;have ky:q<c.r.body.length:=(zA.1 hL).1;have fC:c.r.body.getD q default=L:=by rw [zJ,hL];rfl
 have fQ:=fx q hq;rw [fC]at fQ;obtain⟨kd,bq⟩:=ex (L.kind);rw [bq]at fQ bR;subst fQ;have hH:SameW c U g W0 W:=SameW.of hg (fun _ _ h _=>h) (hE.hV W hA.v).1;have fk: ∀X,wG W X->SameW c U g W0 X:=fun X hX=>hH.keep hX (fun _ _ _ _=>wH) (fun _ _=>wH) (fun b hb=>by have:=hE.hU b hb;omega);have cw: ∀X,wG W X->qgt c vals kn i q L k sb sc ab oa cb tb ot ct cy dd nU sp 1 X:=fun X hX=>bR X (fk X hX);have dG:c.steps.drop i=q::c.steps.drop (i+1):=by rw [zt hi,(zA.1 hq).2]
 have hw:=cw W (Keep.refl _ _);have b1:=hw.1;have gz:=zQ _ _ b1;simp only at gz;have kX: ¬((i:Int)=(c.steps.length:Int)):=wC
 have kQ:(0:Int)<=i:=wC
 have kK:(i:Int)<c.steps.length:=wC
 have kL:i<1073741824:=by have:=hE.sfew;omega
 have k3:(0:Int)<=q:=wC
 have kP:(q:Int)<c.looks.length:=by rw [hE.looks];omega
 have kZ:(q:Int)<c.r.body.length:=wC
 have ed:((i+1:Nat):Int)=(i:Int)+1:=wC
 clear hH hw;have iv:qq L=L.atom.args:=by unfold qq;rw [zF (by rw [bq];omega)]
 obtain⟨ts,eB⟩:=ex (L.atom.args);have a5:qq L=ts:=by rw [iv,eB]
 obtain⟨qp,qa,qn,-⟩:=hA.look q L k hL hk;obtain⟨S,f,q1,q2,q3,q4,q5⟩:=qn bq;have gp:sp=some ⟨S,0,none⟩:=by rw [←ez,q1];rfl
 subst gp;have cU: ∀t,t∈ts->qex c.vars t:=fun t ht=>hE.vin L t dT (by rw [a5];exact ht);have cQ: ∀t,t∈ts->t.text.size<=1073741824:=fun t ht=>hE.small L t dT (by rw [a5];exact ht);have hO:=hE.preds L dT;have hI:ts.length<=1073741824:=by rw [←a5];exact jt
 have gx:k.arity=ts.length:=by rw [qa,eB]
 have h0:vals.length<=1073741824:=by rw [hA.asg.lv];exact hE.few
 have gZ:kn.length<=1073741824:=by rw [hA.asg.lk];exact hE.few
 have dA: ∀X,qgt c vals kn i q L k sb sc ab oa cb tb ot ct cy dd nU (some ⟨S,0,none⟩) 1 X-> ∀(j:Nat) (t:TermD),ts[j]?=some t-> ∃zb zo,cy=some ⟨zb,zo,none⟩/\zb<nU/\X.cell? ⟨zb,zo+j*2,none⟩=some (.int .i64 (qa2 c.vars t).place)/\X.cell? ⟨zb,zo+j*2+1,none⟩=some (.string (qa2 c.vars t).text):=fun X hX j t hj=>by
  obtain⟨x1,x2,x3,x4,x5,x6,x7,x8,x9,fs,fH,fK,fi,fq,fJ,eg,ea,fL,k2,ld,fG,-,-,jB⟩:=hX;injection fG with fG _ _
  obtain⟨b3,o3,jN,hR,r1,r2⟩:=jB j (qa2 c.vars t) (by unfold qda;rw [a5,zP,hj];rfl);exact⟨b3,o3,by rw [fG];exact jN,hR,r1,r2⟩
 have cV: ∀t:TermD,t.var=false->qa2 c.vars t=⟨-1,t.text⟩:=fun t h=>by unfold qa2;rw [zF (by rw [h];simp)]
 have eI: ∀t:TermD,t∈ts->t.var=true-> ∃p,qa2 c.vars t=⟨(p:Nat),⟨#[]⟩⟩/\c.vars[p]?=some t.text/\p<c.vars.length:=fun t ht h=>⟨c.vars.idxOf t.text,by unfold qa2;rw [zI h],qwh (cU t ht h),yb (cU t ht h)⟩;have dH:=hB.vals hg;have gn:=hg.hold _ _ hB.knr;have eJ:(qq L).length=ts.length:=by rw [a5]
 have gX: ¬U c.K:=fun h=>by have:=(hA.u _ h).2;rw [hB.knr] at this;cases this
 have hN: ¬U c.V:=fun h=>by have:=(hA.u _ h).2;rw [hB.row] at this;cases this
 clear iv;unfold WkC.bound;refine qb5 ?_ ez hA hB hg hE bR fk cw ed hL hk dT fC hq dG a5;clear ez hA hB hg hE bR fk cw ed hL hk dT fC hq dG a5;intro j5 bO jE hQ R d9 kh al es kR kB j9 eh la bK iZ;refine qb5 ?_ eB qp qa qn q1 q2 q3 q4 q5 cU cQ hO hI gx h0 gZ;clear eB qp qa qn q1 q2 q3 q4 q5 cU cQ hO hI gx h0 gZ;intro d1 i1 k9 kO kW ju jj jf gO aN d7 gU aT cX jY jW;refine hd8 ?_ dA cV eI dH gn eJ gX hN;clear dA cV eI dH gn eJ gX hN;intro cM co ei cR fa bx b0 fd;refine qbr Tryz.func88 rfl ?_;simp only [Tryz.ntmps88,qd0,Nat.reduceAdd,Nat.reduceSub];gi_wp2;refine xe.2 ?_;refine wp_scope_straight ?_;refine(xe (n:=0)).1 ?_;gi_wp2;have ha:=al.o W.drew kDr;clear b1 gz;refine hd1 ?_ ha;clear ha;intro eN;refine qae ?_;refine qw rfl (fun X=>qgt c vals kn i q L k sb sc ab oa cb tb ot ct cy dd nU (some ⟨S,0,none⟩) 1 X) [] ?_;refine qy [0,1,2,3,4,5,6,7,8,9,10,11,12,13,14,15,16] ?_
 iterate 17
  refine tkR (v:=?_) rfl eN.o ?_ ?_;rotate_left
  ·rintro Wq ⟨x1,x2,x3,x4,x5,x6,x7,x8,x9,fs,fH,fK,fi,fq,fJ,eg,ea,fL,iF⟩;go_simp
   try with_reducible rfl
  try simp only [qz]
 refine qm ?_;refine hoR 17 rfl fun K ai=>?_;gi_wp2;refine ai.o _ _ (fun _=>al.o _ (kDr.trans kAl)) ?_;refine hoR 18 rfl fun K bQ=>?_;gi_wp2;obtain⟨Nb,eu⟩:=ex (W.heap.size);obtain⟨W1,dp⟩:=ex ((W.alloc (.cells #[.pointer (some ⟨S,0,none⟩),.string k.pred,.int .i64 (k.arity:Int),.int .i64 (k.upto:Int)] 161)).drew);have k1:wG W W1:=by rw [←dp];exact kAl.trans kDr
 have im:W1.heap[Nb]?=some (.cells #[.pointer (some ⟨S,0,none⟩),.string k.pred,.int .i64 (k.arity:Int),.int .i64 (k.upto:Int)] 161 (0,0)):=by rw [←dp,←eu];exact qh _ _
 have gT:=al.o W1 k1;have iC:=al.o W1.drew (k1.trans kDr);rw [dp,eu];refine hd6 ?_ k1 im gT iC dp eu;clear k1 im gT iC dp eu;intro ii eH dS eX ie gG;refine bQ.o _ _ (fun _=>dS.o) ?_;refine qy [19] ?_
 iterate 1
  refine tkR (v:=?_) rfl dS.o ?_ ?_;rotate_left
  ·rintro Wq ⟨x1,x2,x3,x4,x5,x6,x7,x8,x9,fs,fH,fK,fi,fq,fJ,eg,ea,fL,iF⟩;go_simp
   try with_reducible rfl
  try simp only [qz]
 refine qm ?_;refine ql wD (qo ?_);clear ai bQ;gi_wp2;refine qae ?_;refine qw rfl (fun X=>qgt c vals kn i q L k sb sc ab oa cb tb ot ct cy dd nU (some ⟨S,0,none⟩) 1 X) [] ?_;refine qy [0,1,2,3,4,5,6,7,8,9,10,11] ?_
 iterate 12
  refine tkR (v:=?_) rfl eX.o ?_ ?_;rotate_left
  ·rintro Wq ⟨x1,x2,x3,x4,x5,x6,x7,x8,x9,fs,fH,fK,fi,fq,fJ,eg,ea,fL,iF⟩;go_simp
   try with_reducible rfl
  try simp only [qz]
 refine qm ?_;refine ql wD (qo ?_);have fN:wG W W1.drew:=ii.o.trans kDr;have dX:W1.drew.heap[Nb]?=some (.cells #[.pointer (some ⟨S,0,none⟩),.string k.pred,.int .i64 (k.arity:Int),.int .i64 (k.upto:Int)] 161 (0,0)):=eH.o;obtain⟨W2,gk⟩:=ex (W1.drew);rw [gk]at fN dX⊢;clear ii eH dS eX eN ie gk gG;refine Ink.hd2 ?_ fN dX;clear fN dX;intro bN dZ;gi_wp2;have z2:W.heap.size<=W2.heap.size:=bN.o.size;gi_loopw [16,17,121] (fun eg ea i' wr=> ∃j:Nat,j<=(qq L).length/\i'=.int .i64 (j:Int)/\Keep (fun b=>b<W2.heap.size) W2 wr/\wr.ownsRow W2.heap.size 3 1 eg (qar a (ts.take j) 0).length (((qar a (ts.take j) 0).map fun p=>(p.1:Int)).map (.int .i64))/\wr.ownsRow W2.heap.size 9 1 ea (qar a (ts.take j) 0).length (((qar a (ts.take j) 0).map (·.2)).map .string)) (fun _ _ i _=>(qq L).length-(intOf i).toNat)
 case atStart=>exact⟨0,wC,rfl,Keep.refl _ _,zj _ _ _ _,zj _ _ _ _⟩
 case round=>
  obtain⟨j,hj,rfl,hK,ak,az⟩:=hrel;have kY:=hK.size;by_cases dv:j<(qq L).length
  ·have ia:(j:Int)<(qq L).length:=by omega
   have jR:(0:Int)<=j:=wC
   obtain⟨t,ht⟩: ∃t,ts[j]?=some t:=⟨_,zB (by rw [←bx.o];exact dv)⟩;have ao:=zH ht;have bF:wG W wr:=bN.o.trans (hK.mono fun b hb _=>hb);have bb:=al.o wr bF;obtain⟨zb,zo,dm,i7,s1,s2⟩:=cM.o wr bb j t ht;subst dm;have jr:zb<wr.heap.size:=by have:=bF.size;omega
   have aW:=qzc a ts ht;cases hv:t.var with
   |false=>
    have hs:=co.o t hv;have hy:qaa a t=some t.text:=by unfold qaa;rw [zF (by rw [hv];simp)]
    rw [hs]at s1 s2;simp only at s1 s2;rw [hy]at aW;simp only at aW;obtain⟨a6,c6,rfl⟩:=qj ak;obtain⟨a7,c7,rfl⟩:=qj az;obtain⟨Wa,a1⟩:=ex (wr.alloc (.cells #[.int .i64 (-1),.string t.text] 93));have ka:wG wr Wa:=by rw [←a1];exact kAl
    have za:Wa.heap.size=wr.heap.size+1:=by rw [←a1];simp
    have na:Wa.heap[wr.heap.size]?=some (.cells #[.int .i64 (-1),.string t.text] 93 (0,0)):=by rw [←a1];exact qh _ _
    have er:(qar a (ts.take j) 0).length<=1073741824:=by
     have h1:=qnb a (ts.take j) 0;have h2:(ts.take j).length<=ts.length:=by rw [yC];omega
     have h3:=aT.o;omega
    obtain⟨v',W5,cs,dK,k5,g5,ec,fP,cn,dU⟩:=qc8 (P:=prog) qlo 86 (qf ak ka (fun _ _=>wH)) [.int .i64 (j:Int)] rfl (by simp [Value.oneCell']) wC wC;subst fP;rw [za,←a1]at cs;have ch:=qf (qf az ka (fun _ _=>wH)) k5 (fun b hb e=>qc9 (qf az ka (fun _ _=>wH)) (qf ak ka (fun _ _=>wH)) wF hb e.symm);have cD:Keep (fun b=>b<W2.heap.size) wr W5:=ka.mt.trans (k5.mono fun b _ (hb:b<W2.heap.size) e=>by have:=(zE ak b e.symm).1;omega);have bz:W5.heap[wr.heap.size]?=some (.cells #[.int .i64 (-1),.string t.text] 93 (0,0)):=k5.heap na (fun e=>by have:=(zE ak _ e.symm).2;omega);have m0:=qb bz 0 _ rfl;have m1:=qb bz 1 _ rfl;have lm:=qe bz;have aG:wG W W5:=bN.o.trans (hK.trans cD |>.mono fun b hb _=>hb);have fV:=(al.o W5 aG).2.2.2.2.2.2.2.2.2.2.2.2.2.1;have fv:=zQ _ _ fV;simp only [zD]at m0 m1 fv;have ay:=qhj R.o bO.o.asg (aN.o t ao) hy (cR.o.keep aG trivial wH);rw [hs]at ay;simp only at ay;clear ka na k5 ak az a1 bb ht ao bz;refine qdz ?_ cs dK ch cD aG ay aW hK cn dU;clear cs dK ch cD aG ay aW hK cn dU;intro du dN cC b2 fj aZ aS dc fu gQ
    gi_wp2_with (gi_at_builtin;refine qck (v:=.slice a6 (qar a (ts.take j) 0).length c6) (u:=.slice (some ⟨wr.heap.size+1,0,none⟩) 1 1) (v':=.slice (some ⟨g5,0,none⟩) ((qar a (ts.take j) 0).length+1) ec) (w':=W5) rfl (.tmp 136) (.tmp 138) 86 rfl rfl rfl du.o ?_)
    refine⟨wH,rfl,(zU.2 aZ.o).mono ?_⟩;rintro e W6 ⟨rfl,k6⟩;have aK:=qf cC.o k6 (fun _ _=>wH);have a8:=qf dN.o k6 (fun _ _=>wH);obtain⟨v',W7,bP,cj,k7,g7,br,dq,b5,c2⟩:=qc8 (P:=prog) qel 46 aK [.string t.text] rfl (by simp [Value.oneCell']) wC (by have:=b2.o.size;have:=k6.size;omega);subst dq;have b4:=qf a8 k7 (fun b hb e=>qc9 a8 aK wF hb e.symm);have dw:Keep (fun b=>b<W2.heap.size) wr W7:=(b2.o.trans k6.mt).trans (k7.mono fun b _ (hb:b<W2.heap.size) e=>by have:=(zE aK b e.symm).1;omega);clear k6 k7 aK a8 b5;refine hd5 ?_ bP cj b4 dw c2;clear bP cj b4 dw c2;intro bV dk cA d6 gD
    gi_wp2_with (gi_at_builtin;refine qck (v:=.slice a7 (qar a (ts.take j) 0).length c7) (u:=.slice (some ⟨W6.heap.size,0,none⟩) 1 1) (v':=.slice (some ⟨g7,0,none⟩) ((qar a (ts.take j) 0).length+1) br) (w':=W7) rfl (.tmp 140) (.tmp 144) 46 rfl rfl rfl bV.o ?_)
    go_roundw
    case rel=>
     refine⟨j+1,wC,by go_num,dc.o.trans d6.o,?_,?_⟩
     ·rw [aS.o,zR,zn,zn];exact cA.o
     ·rw [aS.o,zR,zn,zn];exact dk.o
    case measure=>simp [intOf];omega
   |true=>
    obtain⟨p,hs,hp,eL⟩:=ei.o t ao hv;rw [hs]at s1 s2;simp only at s1 s2;have iY:(0:Int)<=p:=wC
    have hr: ¬((p:Int)<0):=wC
    have jw:(p:Int)<kn.length:=by rw [bO.o.asg.lk];omega
    have fR:=bb.2.2.2.2.2.2.2.2.2.2.2.2.2.2.2.2.2.1;have fp:=zQ _ _ fR;simp only at fp;have bj:kn[p]?=some (qaa a t).isSome:=by
     have:=qyv bO.o.asg (aN.o t ao) hv;unfold qa2 at hs;rw [zI hv]at hs;injection hs with h1 _
     have h2:c.vars.idxOf t.text=p:=wC
     rw [h2]at this;exact this
    have cF:=bF.heap fa.o trivial;have af:wr.cell? ⟨c.K,p,none⟩=some (.bool (qaa a t).isSome):=by
     have:=qb cF p (.bool (qaa a t).isSome) (by simp [zP,bj])
     simpa using this
    have lK:=qe cF;clear cF bj;cases hy:qaa a t with
    |some y=>
     rw [hy]at af;simp only [Option.isSome_some]at af;rw [hy]at aW;simp only at aW;obtain⟨a6,c6,rfl⟩:=qj ak;obtain⟨a7,c7,rfl⟩:=qj az;obtain⟨Wa,a1⟩:=ex (wr.alloc (.cells #[.int .i64 (p:Int),.string ⟨#[]⟩] 93));have ka:wG wr Wa:=by rw [←a1];exact kAl
     have za:Wa.heap.size=wr.heap.size+1:=by rw [←a1];simp
     have na:Wa.heap[wr.heap.size]?=some (.cells #[.int .i64 (p:Int),.string ⟨#[]⟩] 93 (0,0)):=by rw [←a1];exact qh _ _
     have er:(qar a (ts.take j) 0).length<=1073741824:=by
      have h1:=qnb a (ts.take j) 0;have h2:(ts.take j).length<=ts.length:=by rw [yC];omega
      have h3:=aT.o;omega
     obtain⟨v',W5,cs,dK,k5,g5,ec,fP,cn,dU⟩:=qc8 (P:=prog) qlo 86 (qf ak ka (fun _ _=>wH)) [.int .i64 (j:Int)] rfl (by simp [Value.oneCell']) wC wC;subst fP;rw [za,←a1]at cs;have ch:=qf (qf az ka (fun _ _=>wH)) k5 (fun b hb e=>qc9 (qf az ka (fun _ _=>wH)) (qf ak ka (fun _ _=>wH)) wF hb e.symm);have cD:Keep (fun b=>b<W2.heap.size) wr W5:=ka.mt.trans (k5.mono fun b _ (hb:b<W2.heap.size) e=>by have:=(zE ak b e.symm).1;omega);have bz:W5.heap[wr.heap.size]?=some (.cells #[.int .i64 (p:Int),.string ⟨#[]⟩] 93 (0,0)):=k5.heap na (fun e=>by have:=(zE ak _ e.symm).2;omega);have m0:=qb bz 0 _ rfl;have m1:=qb bz 1 _ rfl;have lm:=qe bz;have aG:wG W W5:=bN.o.trans (hK.trans cD |>.mono fun b hb _=>hb);have fV:=(al.o W5 aG).2.2.2.2.2.2.2.2.2.2.2.2.2.1;have fv:=zQ _ _ fV;simp only [zD]at m0 m1 fv;have ay:=qhj R.o bO.o.asg (aN.o t ao) hy (cR.o.keep aG trivial wH);rw [hs]at ay;simp only at ay;clear ka na k5 ak az a1 bb ht ao bz;refine qdz ?_ cs dK ch cD aG ay aW hK cn dU;clear cs dK ch cD aG ay aW hK cn dU;intro du dN cC b2 fj aZ aS dc fu gQ
     gi_wp2_with (gi_at_builtin;refine qck (v:=.slice a6 (qar a (ts.take j) 0).length c6) (u:=.slice (some ⟨wr.heap.size+1,0,none⟩) 1 1) (v':=.slice (some ⟨g5,0,none⟩) ((qar a (ts.take j) 0).length+1) ec) (w':=W5) rfl (.tmp 136) (.tmp 138) 86 rfl rfl rfl du.o ?_)
     refine⟨wH,rfl,(zU.2 aZ.o).mono ?_⟩;rintro e W6 ⟨rfl,k6⟩;have aK:=qf cC.o k6 (fun _ _=>wH);have a8:=qf dN.o k6 (fun _ _=>wH);obtain⟨v',W7,bP,cj,k7,g7,br,dq,b5,c2⟩:=qc8 (P:=prog) qel 46 aK [.string y] rfl (by simp [Value.oneCell']) wC (by have:=b2.o.size;have:=k6.size;omega);subst dq;have b4:=qf a8 k7 (fun b hb e=>qc9 a8 aK wF hb e.symm);have dw:Keep (fun b=>b<W2.heap.size) wr W7:=(b2.o.trans k6.mt).trans (k7.mono fun b _ (hb:b<W2.heap.size) e=>by have:=(zE aK b e.symm).1;omega);clear k6 k7 aK a8 b5;refine hd5 ?_ bP cj b4 dw c2;clear bP cj b4 dw c2;intro bV dk cA d6 gD
     gi_wp2_with (gi_at_builtin;refine qck (v:=.slice a7 (qar a (ts.take j) 0).length c7) (u:=.slice (some ⟨W6.heap.size,0,none⟩) 1 1) (v':=.slice (some ⟨g7,0,none⟩) ((qar a (ts.take j) 0).length+1) br) (w':=W7) rfl (.tmp 140) (.tmp 144) 46 rfl rfl rfl bV.o ?_)
     go_roundw
     case rel=>
      refine⟨j+1,wC,by go_num,dc.o.trans d6.o,?_,?_⟩
      ·rw [aS.o,zR,zn,zn];exact cA.o
      ·rw [aS.o,zR,zn,zn];exact dk.o
     case measure=>simp [intOf];omega
    |none=>
     rw [hy]at af aW;simp only [Option.isSome_none,yQ]at af aW;obtain⟨a6,c6,rfl⟩:=qj ak;obtain⟨a7,c7,rfl⟩:=qj az;clear bb ht ao;have hZ:(wr.alloc (.cells #[.int .i64 (p:Int),.string ⟨#[]⟩] 93)).heap.size=wr.heap.size+1:=wE
     refine hd6 ?_ aW hK ak az bF hZ;clear aW hK ak az bF hZ;intro aS dc gj gJ cN kg;gi_wp2;go_roundw
     case rel=>
      have kl:wG wr (wr.alloc (.cells #[.int .i64 (p:Int),.string ⟨#[]⟩] 93)):=kAl;refine⟨j+1,wC,by go_num,dc.o.trans kl.mt,?_,?_⟩
      ·rw [aS.o];exact qf gj.o kl (fun _ _=>wH)
      ·rw [aS.o];exact qf gJ.o kl (fun _ _=>wH)
     case measure=>simp [intOf];omega
  ·obtain rfl:j=(qq L).length:=by omega
   have ej:ts.take (qq L).length=ts:=by rw [bx.o,zi]
   rw [ej]at ak az;have bF:wG W wr:=bN.o.trans (hK.mono fun b hb _=>hb);have db:=hK.heap dZ.o (qe dZ.o);have gE:=qb db 0 _ rfl;have g8:=qb db 1 _ rfl;have iH:=qb db 2 _ rfl;have hY:=qb db 3 _ rfl;have i9:=qe db;simp only [zD]at gE g8 iH hY;obtain⟨a6,c6,rfl⟩:=qj ak;obtain⟨a7,c7,rfl⟩:=qj az;have er:(qar a ts 0).length<=1073741824:=by
    have h1:=qnb a ts 0;have h3:=aT.o;omega
   have iA:qat wr.heap.size wr (.slice a6 (qar a ts 0).length c6) (qjp a ts):=qen ak (by unfold qjp;rw [zL];exact er);have iq:qac wr.heap.size wr (.slice a7 (qar a ts 0).length c7) (qph a ts):=qbq az (by unfold qph;rw [zL];exact er);have eA:=qxt (n0:=n0) (hQ.o.keep bF.mt) ju.o k.pred k.arity (by rw [i1.o];exact gU.o) (by rw [cX.o];exact aT.o) wr.heap.size _ _ _ _ k.upto iA iq (zG _) (fun s hs=>by
    obtain⟨t,ht,hy⟩:=q6i hs;exact q03 bO.o.asg (d7.o t ht) hy) jj.o jf.o (by rw [cX.o];exact q6e a ts) (by unfold qph qjp;rw [zL,zL])
   have hh:qjt f k.pred k.arity (qjp a ts) (qph a ts) k.upto=(LJ.pos q).filter (qj3 a ts):=by
    rw [←gO.o,cX.o];exact q6d
   rw [hh]at eA;unfold qem at eA;clear hh iA iq db ak az ej hj dv;refine Ink.hd3 ?_ eA bF hK;clear eA bF hK;intro il cN dc;gi_wp2;refine wpIn_label ?_;gi_wp2;refine⟨wH,rfl,(zU.2 il.o).mono ?_⟩;rintro e Wm ⟨g',v,rfl,cx,eU,cW,cz⟩;obtain⟨gm,gv,cK,cS,d0⟩:=q6h R.o bO.o cN.o cx eU cW;obtain⟨rows,au⟩:=ex ((LJ.pos q).filter (qj3 a ts));rw [au]at cz;have kV:c.V<W.heap.size:=qe (hQ.o.hold _ _ jE.o.row);have kN:c.K<W.heap.size:=qe fa.o;have eV:W.heap.size<=Wm.heap.size:=zW cN.o.size cx.keep.size;have hP:RowsHeld c gm Wm v rows:=by
    obtain⟨us,h1,h2,h3,h4⟩:=cz;have hz:=cN.o.size;exact⟨us,h1,h2,fun b hb=>⟨d0 b (by have:=(h3 b hb).2;omega) (h3 b hb).1 (zE h2 b hb).2,by have:=(h3 b hb).2;exact⟨wC,wC⟩⟩,fun k u t hu ht=>⟨(h4 k u t hu ht).1,fun b hb=>⟨d0 b (by have:=((h4 k u t hu ht).2 b hb).2;omega) ((h4 k u t hu ht).2 b hb).1 (zE (h4 k u t hu ht).1 b hb).2,by have:=((h4 k u t hu ht).2 b hb).2;exact⟨wC,wC⟩⟩⟩⟩
   obtain⟨av,cv,rfl,fM,gC⟩:=hP.get (U:=U) (W0:=W0);simp only [maxLen]at fM;have iz: ∀(j:Nat) (t:List ByteArray),rows[j]?=some t->t.length=ts.length:=fun j t hj=>by
    have:=zH hj;rw [←au,yX,←gO.o]at this;rw [(qco.1 (xm this.1)).2,cX.o]
   have ix: ∀(j:Nat) (t:List ByteArray) (s:ByteArray),rows[j]?=some t->s∈t->s.size<=1073741824:=fun j t s hj hs=>by
    have:=zH hj;rw [←au,yX]at this;exact R.o.texts q t s this.1 hs
   have dt:qbl LJ c.r.body (c.steps.drop i) a=rows.flatMap (qho LJ c.r.body ts (c.steps.drop (i+1)) a):=by
    rw [bK.o,qyy eh.o bq,d1.o,au]
   obtain⟨rf,fy⟩:=ex (qho LJ c.r.body ts (c.steps.drop (i+1)) a);rw [fy]at dt;have dY: ∀aU X,StepEnd c U Vw all Jp Jx k0 (rows.flatMap rf).length gm Wm a kn aU X->StepEnd c U Vw all Jp Jx k0 (qbl LJ c.r.body (c.steps.drop i) a).length g W a kn aU X:=fun aU X h=>by
    rw [dt];exact h.base cK cS eV
   have cP: ∀m X,StepEnd c U Vw all Jp Jx k0 m gm Wm a kn false X->StepEnd c U Vw all Jp Jx k0 (qbl LJ c.r.body (c.steps.drop i) a).length g W a kn false X:=fun m X h=>by
    obtain⟨g',a2,h1,h2,h3,h4,h5,h6,h7,h8,h9⟩:=h.base cK cS eV;exact⟨g',a2,h1,h2,h3,h4,h5,h6,h7,h8,by rcases h9 with ⟨h,-⟩ |h;cases h;exact .inr h⟩
   have iV:gm.held Nb=some (.cells #[.pointer (some ⟨S,0,none⟩),.string k.pred,.int .i64 (k.arity:Int),.int .i64 (k.upto:Int)] 161 (0,0))∨True:=.inr trivial;clear cz hP d0 cx eU cW iV gE g8 iH hY i9 dt;refine qdz ?_ gv cK cS gC iz ix fy dY cP au;clear gv cK cS gC iz ix fy dY cP au;intro dD dW jP g0 io iy cl eE dL d4;gi_wp2;gi_loopw [157] (fun i' X=> ∃j:Nat,j<=rows.length/\i'=.int .i64 (j:Int)/\StepEnd c U Vw all Jp Jx k0 ((rows.take j).flatMap rf).length gm Wm a kn true X) (fun i _=>rows.length-(intOf i).toNat)
   case atStart=>exact⟨0,wC,rfl,StepEnd.none R.o dD.o (Keep.refl _ _)⟩
   case round=>
    obtain⟨j,hj,rfl,dJ⟩:=hrel;obtain⟨Xj,jS⟩: ∃Xj,Xj=wr:=⟨_,rfl⟩;subst jS;by_cases dv:j<rows.length
    ·have ia:(j:Int)<rows.length:=by omega
     have jR:(0:Int)<=j:=wC
     obtain⟨t,ht⟩: ∃t,rows[j]?=some t:=⟨_,zB dv⟩;have dB:=io.o j t ht;have eP:=iy.o j t;obtain⟨gb,ua,uc,jz,hJ,ib⟩:=g0.o j t ht;subst jz;have gW:=dJ.same R.o;obtain⟨g2,jn,e1,e2,e3,e4,e5,e6,e7,e8,e9⟩:=dJ;obtain⟨m,hm⟩:=ex (((rows.take j).flatMap rf).length);rw [hm]at e9;have fB:Jp (k0+m) g2 Xj:=by
      rcases e9 with ⟨-,h⟩ |⟨h,-⟩
      ·exact h
      ·cases h
     have i0:=hJ Xj gW;have jv:=zQ _ _ i0;simp only at jv;have gP:c.V<Xj.heap.size:=wC
     have d8:c.K<Xj.heap.size:=wC
     have ke:nU<=Xj.heap.size:=(R.o.hV Xj e2).2;have el: ∀b,U b->b<Xj.heap.size:=fun b hb=>by have:=R.o.hU b hb;omega
     have ft: ∀g3 X z bH,MidAt n0 c Vw g2 Xj g3 X z bH->SameW c U gm W0 X:=fun g3 X z bH hX=>SameW.of hX.step.inv (fun b o hb hn=>(hX.held b hn).trans (e6 b o hb hn)) (R.o.hV X hX.v).1;have gB: ∀g3 X z bH,MidAt n0 c Vw g2 Xj g3 X z bH->qgt c vals kn i q L k sb sc ab oa cb tb ot ct cy dd nU (some ⟨S,0,none⟩) 1 X:=fun g3 X z bH hX=>d9.o X ((ft g3 X z bH hX).sub dW.o);have iE: ∀g6 Z ba,MidAt n0 c Vw g2 Xj g6 Z ba kn->qcs c.vars ba kn a->rf t= []->StepEnd c U Vw all Jp Jx k0 ((rows.take (j+1)).flatMap rf).length gm Wm a kn true Z:=fun g6 Z ba h1 h2 h3=>by
      rw [qtc rf rows j t ht,h3,yQ,hm];exact qwm R.o e4 e3 el e6 e7 (.inl ⟨rfl,fB⟩) h1 h2
     have gY:RowIn n0 c Vw a kn ts t g2 Xj 0 (.slice none 0 0) Xj:=RowIn.start e1 e5 e2 e8;have hon: ∀x X,RowIn n0 c Vw a kn ts t g2 Xj ts.length x X-> ∃gh a2 ac l,StepAt n1 c LJ U Vw all Jp (i+1) (k0+m) gh X ac a2 (qbv kn l true)/\(∀b,b<Xj.heap.size->c.nv b->gh.held b=g2.held b)/\(∀S f,gm.st S=some f-> ∃d,gh.st S=some (f++d))/\(∀p,p∈l->kn[p]?=some false)/\l.length<=ts.length/\
       X.ownsRow Xj.heap.size 3 1 x l.length (l.map fun p:Nat=>Value.int .i64 (p:Int))/\(∀b,x.ownBlock=some b->gh.held b=X.heap[b]?/\c.nv b)/\rf t=qbl LJ c.r.body (c.steps.drop (i+1)) ac/\ExtA a ac:=fun x X h=>by
      have:=h.on R.o (m:=m) dD.o bK.o eh.o bq d1.o e1 e3 el e4 e7 fB (fun ac jC r b hb=>?_) dB.symm gP d8
      ·rw [cl.o]at this;exact this
      ·have h1:(rf t)[r]?=some b:=by
        rw [←cl.o];unfold qho;rw [jC];exact hb
       have h2:=q04 rf ht h1;rw [hm]at h2;have h3:=dD.o.told (m+r) b (by
        rw [bK.o,qyy eh.o bq,d1.o,d4.o,cl.o];exact h2)
       rw [←xI]at h3;exact h3
     have eQ: ∀(aU:Bool) (gh:Gh) (ac:Asg) (bH:List Bool) (X8 Z:World) (g6:Gh) (ba:List ByteArray) (mm:List Asg),(∀b,b<Xj.heap.size->c.nv b->gh.held b=g2.held b)->(∀S f,gm.st S=some f-> ∃d,gh.st S=some (f++d))->Xj.heap.size<=X8.heap.size->rf t=mm->ExtA a ac->
       ∀(g5:Gh) (Y:World) (ah:List ByteArray),GInv g5 Y->Vw Y->(∀b,U b->g5.free b)->X8.heap.size<=Y.heap.size->(∀b o,gh.held b=some o->c.nv b->g5.held b=some o)->(∀S f,gh.st S=some f-> ∃d,g5.st S=some (f++d))->qcs c.vars ah bH ac->((aU=true/\Jp (k0+m+mm.length) g5 Y)∨(aU=false/\ ∃k,k<all.length/\Jx k g5 Y))->
       MidAt n0 c Vw g5 Y g6 Z ah kn->StepEnd c U Vw all Jp Jx k0 ((rows.take (j+1)).flatMap rf).length gm Wm a kn aU Z:=fun aU gh ac bH X8 Z g6 ba mm h1 h2 hz dl gI g5 Y ah p1 p2 p3 p4 p5 p6 p7 p8 hM=>by
      rw [qtc rf rows j t ht,zR,hm,dl];refine qwm R.o wC p3 (fun b hb=>by have:=el b hb;omega) (fun b o hb hn=>p5 b o ((h1 b (qe (e1.hold b o (e6 b o hb hn))) hn).trans (e6 b o hb hn)) hn) (fun S f hS=>?_) (by rw [←xI];exact p8) hM (qp0 e8 p7 gI);obtain⟨d,hd⟩:=h2 S f hS;obtain⟨d2,hd2⟩:=p6 S _ hd;exact⟨d++d2,by rw [hd2,yu]⟩
     clear hJ gW e9 fB;refine qb5 ?_ iE eQ hon gB ft ib el gY dB eP e1 e2 e3 e5 e6 e7;clear iE eQ hon gB ft ib el gY dB eP e1 e2 e3 e5 e6 e7;intro fc fW iI bn d3 gs iw iu fr fo ir k8 kx kp hl kF;refine Ink.hd3 ?_ e8 ht hm;clear e8 ht hm;intro ig jg kw;gi_wp2;gi_loopw [22,163] (fun jM i' X=> ∃cc:Nat,cc<=(qq L).length/\i'=.int .i64 (cc:Int)/\RowIn n0 c Vw a kn ts t g2 Xj cc jM X) (fun _ i _=>(qq L).length-(intOf i).toNat)
     case atStart=>exact⟨0,wC,rfl,iu.o⟩
     case round=>
      obtain⟨cc,iX,rfl,eb⟩:=hrel;by_cases gu:cc<(qq L).length
      ·have jX:(cc:Int)<(qq L).length:=by omega
       have kE:(0:Int)<=cc:=wC
       have fg:cc<ts.length:=by rw [←bx.o];exact gu
       obtain⟨tt,bD⟩: ∃tt,ts[cc]?=some tt:=⟨_,zB fg⟩;have jQ:cc<t.length:=by rw [fr.o];exact fg
       have j7:(cc:Int)<t.length:=wC
       obtain⟨y0,bG⟩: ∃y0,t[cc]?=some y0:=⟨_,zB jQ⟩;obtain⟨ub,i2,aR⟩:=gs.o cc y0 bG;subst i2;have ao:=zH bD;obtain⟨g3,z,ac,l,hM,bt,ax,bg,cu,aI⟩:=eb;have bb:=bn.o g3 wr z _ hM;obtain⟨zb,zo,dm,i7,s1,s2⟩:=cM.o wr bb cc tt bD;subst dm;have jr:zb<wr.heap.size:=by have:=hM.step.keep.size;omega
       obtain⟨bk,cB,rfl⟩:=qj aI;cases hv:tt.var with
       |false=>
        have hs:=co.o tt hv;have hy:qaa ac tt=some tt.text:=by unfold qaa;rw [zF (by rw [hv];simp)]
        rw [hs]at s1 s2;simp only at s1 s2;have ay: ∀X,MidAt n0 c Vw g2 Xj g3 X z (qbv kn l true)->Calls prog 86 #[.agg #[.int .i64 (-1),.string tt.text],qi c.Bv] X fun e w'=>e=.returned (.string tt.text)/\wG X w':=fun X hX=>by
         have:=qhj R.o ax (aN.o tt ao) hy (hX.wk.vals hX.step.inv);rw [hs]at this;exact this
        obtain⟨Nx,aV⟩:=ex (wr.heap.size);obtain⟨Wb,aF⟩:=ex (wr.alloc (.cells #[.int .i64 (-1),.string tt.text] 93));have kb:wG wr Wb:=by rw [←aF];exact kAl
        have aM:Wb.heap[Nx]?=some (.cells #[.int .i64 (-1),.string tt.text] 93 (0,0)):=by rw [←aF,←aV];exact qh _ _
        have aj:=(hM.own R.o kb).own R.o kDr;have am:=(Keep.drew (fun _=>True) _).heap aM trivial;have cJ: ∀X,MidAt n0 c Vw g2 Xj g3 X z (qbv kn l true)->X.heap[Nx]?=some (.cells #[.int .i64 (-1),.string tt.text] 93 (0,0))->(X.cell? ⟨c.Bt,0,none⟩=some (.func (.func 86) #[] #[qi c.Bv])/\X.cell? ⟨Nx,0,none⟩=some (.int .i64 (-1))/\X.cell? ⟨Nx,1,none⟩=some (.string tt.text)/\X.cell? ⟨ub,cc,none⟩=some (.string y0)):=fun X hX hx=>by
         have x0:=qb hx 0 _ rfl;have x1:=qb hx 1 _ rfl;simp only [zD]at x0 x1;exact⟨(bn.o g3 X z _ hX).2.2.2.2.2.2.2.2.2.2.2.2.2.1,x0,x1,aR X (d3.o g3 X z _ hX)⟩
        have cm:=cJ _ aj am;have lx:Nx<Wb.heap.size:=qe aM;clear bb;refine qb5 ?_ ay cJ cm aj kb aM am aF aV hM bt ax bg cu aI hy;clear ay cJ cm aj kb aM am aF aV hM bt ax bg cu aI hy;intro aZ ds bS bs eF he cE ck ce fU aB a4 aq bm bc cZ;refine hd6 ?_ hs bD bG aR ao lx;clear hs bD bG aR ao lx;intro gR bu bo fT eM jF;gi_wp2;rw [ck.o,ce.o];refine qae ?_;refine qw rfl (fun X=>(X.cell? ⟨c.Bt,0,none⟩=some (.func (.func 86) #[] #[qi c.Bv])/\X.cell? ⟨Nx,0,none⟩=some (.int .i64 (-1))/\X.cell? ⟨Nx,1,none⟩=some (.string tt.text)/\X.cell? ⟨ub,cc,none⟩=some (.string y0))) [] ?_;refine qy [0,1,3,4,5,6] ?_
        iterate 6
         refine tkR (v:=?_) rfl bS.o ?_ ?_;rotate_left
         ·rintro Wq ⟨y1,y2,y3,y4⟩;go_simp
          try with_reducible rfl
         try simp only [qz]
        refine qm ?_;refine hoR 2 rfl fun K ai=>?_;gi_wp2;refine⟨wH,rfl,(zU.2 (aZ.o _ bs.o)).mono ?_⟩;rintro e W6 ⟨rfl,k6⟩;have cI:=bs.o.own R.o k6;have dr:wG wr W6:=(eF.o.trans kDr).trans k6;have dQ:=ds.o W6 cI (k6.heap cE.o wH);clear k6;refine Ink.hd3 ?_ cI dQ dr;clear cI dQ dr;intro dx aX b6;gi_wp2;refine ai.o _ _ (fun _=>aX.o) ?_;by_cases aL:tt.text=y0
        ·have a3:=qdv aL;have aQ:RowIn n0 c Vw a kn ts t g2 Xj (cc+1) (.slice bk l.length cB) W6:=RowIn.same R.o fU.o aB.o a4.o aq.o bm.o bc.o bu.o (by rw [bo.o,aL]) cZ.o b6.o;clear aL;refine hd1 ?_ aQ;clear aQ;intro a9;refine qy [7] ?_
         iterate 1
          refine tkR (v:=?_) rfl aX.o ?_ ?_;rotate_left
          ·rintro Wq ⟨y1,y2,y3,y4⟩;go_simp
           try simp only [a3]
           try with_reducible rfl
          try simp only [qz]
         refine qm ?_;refine ql wD (qo ?_);clear ai;gi_wp2;go_roundw
         case rel=>exact⟨cc+1,wC,by go_num,a9.o⟩
         case measure=>simp [intOf];omega
        ·have a3:=qc1 aL;have aY:qbg a ts t=none:=(qky bu.o bo.o aB.o).2.2 _ cZ.o aL;have b8:rf t= []:=by rw [←cl.o];unfold qho;rw [aY]
         have bl:=qf bc.o b6.o (fun _ _=>wH);have dl:l.length<=1073741824:=by have:=bm.o;have:=aT.o;omega
         clear aL aY;refine Ink.hd2 ?_ b8 bl;clear b8 bl;intro cG dR;refine qy [7] ?_
         iterate 1
          refine tkR (v:=?_) rfl aX.o ?_ ?_;rotate_left
          ·rintro Wq ⟨y1,y2,y3,y4⟩;go_simp
           try simp only [a3]
           try with_reducible rfl
          try simp only [qz]
         refine qm ?_;refine ql wD (qo ?_);clear ai;gi_wp2;gi_loopw [188] (fun i' X=> ∃q':Nat,q'<=l.length/\i'=.int .i64 (q':Int)/\ClearIn n0 c Vw z (qbv kn l true) l Xj.heap.size g2 Xj q' (.slice bk l.length cB) X) (fun i _=>l.length-(intOf i).toNat)
         case atStart=>exact⟨0,wC,rfl,g3,dx.o,dR.o⟩
         case round=>
          obtain⟨q',gw,rfl,hC⟩:=hrel;by_cases dj:q'<l.length
          ·have ff:(q':Int)<l.length:=by omega
           have e0:(0:Int)<=q':=wC
           obtain⟨p',aE⟩: ∃p',l[q']?=some p':=⟨_,zB dj⟩;have ca:p'<kn.length:=(zA.1 (aq.o p' (zH aE))).1;have fh:(p':Int)<kn.length:=wC
           have eW:(0:Int)<=p':=wC
           have ar:=hC.next R.o b0.o aE d8;obtain⟨g4,aa,a0⟩:=hC;obtain⟨bW,cf⟩: ∃bW,bk=some ⟨bW,0,none⟩:=by
            rcases a0.2 with e |⟨gb',cap,cur,e1',_⟩
            ·have:=e.2;omega
            ·injection e1' with e1' _ _;exact⟨_,e1'⟩
           subst cf;have dC:=qcp a0 q' _ (qp3 aE);have dP:=zQ _ _ dC;have cq:=(bn.o g4 wr z _ aa).2.2.2.2.2.2.2.2.2.2.2.2.2.2.2.2.2.1;have cp:=zQ _ _ cq;have ag:=aa.step.inv.hold _ _ aa.wk.knr;have gL:=qe ag;have eK:=qg ag p';obtain⟨bv,cd⟩: ∃bv,(qbv (qbv kn l true) (l.take q') false)[p']?=some bv:=⟨_,zB (by rw [qhb,qhb];exact ca)⟩;have b9:=qb ag p' (.bool bv) (by simp [zP,cd]);simp only [zD]at b9;clear ag cd;simp only at dP cp;clear aa a0 aE;refine hd1 ?_ ar;clear ar;intro aD;gi_wp2;go_roundw
           case rel=>exact⟨q'+1,wC,by go_num,aD.o⟩
           case measure=>simp [intOf];omega
          ·obtain rfl:q'=l.length:=by omega
           obtain⟨g4,aa,-⟩:=hC;rw [zi,qml aq.o]at aa;have bi:=fc.o g4 wr z aa (qp0 ig.o a4.o (qfk aB.o).1) cG.o;clear aa;refine hd1 ?_ bi;clear bi;intro ci;gi_wp2;go_roundw
           case rel=>exact⟨j+1,wC,by go_num,ci.o⟩
           case measure=>simp [intOf];omega
       |true=>
        obtain⟨p,hs,hp,eL⟩:=ei.o tt ao hv;rw [hs]at s1 s2;simp only at s1 s2;have iY:(0:Int)<=p:=wC
        have hr: ¬((p:Int)<0):=wC
        have jw:(p:Int)<kn.length:=by rw [bO.o.asg.lk];omega
        have fR:=bb.2.2.2.2.2.2.2.2.2.2.2.2.2.2.2.2.2.1;have fp:=zQ _ _ fR;simp only at fp;have bj:(qbv kn l true)[p]?=some (qaa ac tt).isSome:=by
         have:=qyv ax (aN.o tt ao) hv;unfold qa2 at hs;rw [zI hv]at hs;injection hs with h1 _
         have h2:c.vars.idxOf tt.text=p:=wC
         rw [h2]at this;exact this
        have cF:=hM.step.inv.hold _ _ hM.wk.knr;have af:wr.cell? ⟨c.K,p,none⟩=some (.bool (qaa ac tt).isSome):=by
         have:=qb cF p (.bool (qaa ac tt).isSome) (by simp [zP,bj])
         simpa using this
        have lK:=qe cF;clear cF;cases hy:qaa ac tt with
        |some y=>
         rw [hy]at af;simp only [Option.isSome_some]at af;clear bj;have ay: ∀X,MidAt n0 c Vw g2 Xj g3 X z (qbv kn l true)->Calls prog 86 #[.agg #[.int .i64 (p:Int),.string ⟨#[]⟩],qi c.Bv] X fun e w'=>e=.returned (.string y)/\wG X w':=fun X hX=>by
          have:=qhj R.o ax (aN.o tt ao) hy (hX.wk.vals hX.step.inv);rw [hs]at this;exact this
         obtain⟨Nx,aV⟩:=ex (wr.heap.size);obtain⟨Wb,aF⟩:=ex (wr.alloc (.cells #[.int .i64 (p:Int),.string ⟨#[]⟩] 93));have kb:wG wr Wb:=by rw [←aF];exact kAl
         have aM:Wb.heap[Nx]?=some (.cells #[.int .i64 (p:Int),.string ⟨#[]⟩] 93 (0,0)):=by rw [←aF,←aV];exact qh _ _
         have aj:=(hM.own R.o kb).own R.o kDr;have am:=(Keep.drew (fun _=>True) _).heap aM trivial;have cJ: ∀X,MidAt n0 c Vw g2 Xj g3 X z (qbv kn l true)->X.heap[Nx]?=some (.cells #[.int .i64 (p:Int),.string ⟨#[]⟩] 93 (0,0))->(X.cell? ⟨c.Bt,0,none⟩=some (.func (.func 86) #[] #[qi c.Bv])/\X.cell? ⟨Nx,0,none⟩=some (.int .i64 (p:Int))/\X.cell? ⟨Nx,1,none⟩=some (.string ⟨#[]⟩)/\X.cell? ⟨ub,cc,none⟩=some (.string y0)):=fun X hX hx=>by
          have x0:=qb hx 0 _ rfl;have x1:=qb hx 1 _ rfl;simp only [zD]at x0 x1;exact⟨(bn.o g3 X z _ hX).2.2.2.2.2.2.2.2.2.2.2.2.2.1,x0,x1,aR X (d3.o g3 X z _ hX)⟩
         have cm:=cJ _ aj am;have lx:Nx<Wb.heap.size:=qe aM;clear bb;refine qb5 ?_ ay cJ cm aj kb aM am aF aV hM bt ax bg cu aI hy;clear ay cJ cm aj kb aM am aF aV hM bt ax bg cu aI hy;intro aZ ds bS bs eF he cE ck ce fU aB a4 aq bm bc cZ;refine hd6 ?_ hs bD bG aR ao lx;clear hs bD bG aR ao lx;intro gR bu bo fT eM jF;gi_wp2;rw [ck.o,ce.o];refine qae ?_;refine qw rfl (fun X=>(X.cell? ⟨c.Bt,0,none⟩=some (.func (.func 86) #[] #[qi c.Bv])/\X.cell? ⟨Nx,0,none⟩=some (.int .i64 (p:Int))/\X.cell? ⟨Nx,1,none⟩=some (.string ⟨#[]⟩)/\X.cell? ⟨ub,cc,none⟩=some (.string y0))) [] ?_;refine qy [0,1,3,4,5,6] ?_
         iterate 6
          refine tkR (v:=?_) rfl bS.o ?_ ?_;rotate_left
          ·rintro Wq ⟨y1,y2,y3,y4⟩;go_simp
           try with_reducible rfl
          try simp only [qz]
         refine qm ?_;refine hoR 2 rfl fun K ai=>?_;gi_wp2;refine⟨wH,rfl,(zU.2 (aZ.o _ bs.o)).mono ?_⟩;rintro e W6 ⟨rfl,k6⟩;have cI:=bs.o.own R.o k6;have dr:wG wr W6:=(eF.o.trans kDr).trans k6;have dQ:=ds.o W6 cI (k6.heap cE.o wH);clear k6;refine Ink.hd3 ?_ cI dQ dr;clear cI dQ dr;intro dx aX b6;gi_wp2;refine ai.o _ _ (fun _=>aX.o) ?_;by_cases aL:y=y0
         ·have a3:=qdv aL;have aQ:RowIn n0 c Vw a kn ts t g2 Xj (cc+1) (.slice bk l.length cB) W6:=RowIn.same R.o fU.o aB.o a4.o aq.o bm.o bc.o bu.o (by rw [bo.o,aL]) cZ.o b6.o;clear aL;refine hd1 ?_ aQ;clear aQ;intro a9;refine qy [7] ?_
          iterate 1
           refine tkR (v:=?_) rfl aX.o ?_ ?_;rotate_left
           ·rintro Wq ⟨y1,y2,y3,y4⟩;go_simp
            try simp only [a3]
            try with_reducible rfl
           try simp only [qz]
          refine qm ?_;refine ql wD (qo ?_);clear ai;gi_wp2;go_roundw
          case rel=>exact⟨cc+1,wC,by go_num,a9.o⟩
          case measure=>simp [intOf];omega
         ·have a3:=qc1 aL;have aY:qbg a ts t=none:=(qky bu.o bo.o aB.o).2.2 _ cZ.o aL;have b8:rf t= []:=by rw [←cl.o];unfold qho;rw [aY]
          have bl:=qf bc.o b6.o (fun _ _=>wH);have dl:l.length<=1073741824:=by have:=bm.o;have:=aT.o;omega
          clear aL aY;refine Ink.hd2 ?_ b8 bl;clear b8 bl;intro cG dR;refine qy [7] ?_
          iterate 1
           refine tkR (v:=?_) rfl aX.o ?_ ?_;rotate_left
           ·rintro Wq ⟨y1,y2,y3,y4⟩;go_simp
            try simp only [a3]
            try with_reducible rfl
           try simp only [qz]
          refine qm ?_;refine ql wD (qo ?_);clear ai;gi_wp2;gi_loopw [188] (fun i' X=> ∃q':Nat,q'<=l.length/\i'=.int .i64 (q':Int)/\ClearIn n0 c Vw z (qbv kn l true) l Xj.heap.size g2 Xj q' (.slice bk l.length cB) X) (fun i _=>l.length-(intOf i).toNat)
          case atStart=>exact⟨0,wC,rfl,g3,dx.o,dR.o⟩
          case round=>
           obtain⟨q',gw,rfl,hC⟩:=hrel;by_cases dj:q'<l.length
           ·have ff:(q':Int)<l.length:=by omega
            have e0:(0:Int)<=q':=wC
            obtain⟨p',aE⟩: ∃p',l[q']?=some p':=⟨_,zB dj⟩;have ca:p'<kn.length:=(zA.1 (aq.o p' (zH aE))).1;have fh:(p':Int)<kn.length:=wC
            have eW:(0:Int)<=p':=wC
            have ar:=hC.next R.o b0.o aE d8;obtain⟨g4,aa,a0⟩:=hC;obtain⟨bW,cf⟩: ∃bW,bk=some ⟨bW,0,none⟩:=by
             rcases a0.2 with e |⟨gb',cap,cur,e1',_⟩
             ·have:=e.2;omega
             ·injection e1' with e1' _ _;exact⟨_,e1'⟩
            subst cf;have dC:=qcp a0 q' _ (qp3 aE);have dP:=zQ _ _ dC;have cq:=(bn.o g4 wr z _ aa).2.2.2.2.2.2.2.2.2.2.2.2.2.2.2.2.2.1;have cp:=zQ _ _ cq;have ag:=aa.step.inv.hold _ _ aa.wk.knr;have gL:=qe ag;have eK:=qg ag p';obtain⟨bv,cd⟩: ∃bv,(qbv (qbv kn l true) (l.take q') false)[p']?=some bv:=⟨_,zB (by rw [qhb,qhb];exact ca)⟩;have b9:=qb ag p' (.bool bv) (by simp [zP,cd]);simp only [zD]at b9;clear ag cd;simp only at dP cp;clear aa a0 aE;refine hd1 ?_ ar;clear ar;intro aD;gi_wp2;go_roundw
            case rel=>exact⟨q'+1,wC,by go_num,aD.o⟩
            case measure=>simp [intOf];omega
           ·obtain rfl:q'=l.length:=by omega
            obtain⟨g4,aa,-⟩:=hC;rw [zi,qml aq.o]at aa;have bi:=fc.o g4 wr z aa (qp0 ig.o a4.o (qfk aB.o).1) cG.o;clear aa;refine hd1 ?_ bi;clear bi;intro ci;gi_wp2;go_roundw
            case rel=>exact⟨j+1,wC,by go_num,ci.o⟩
            case measure=>simp [intOf];omega
        |none=>
         rw [hy]at bj af;simp only [Option.isSome_none]at bj af;have kH:(p:Int)<vals.length:=by rw [bO.o.asg.lv];omega
         obtain⟨Nx,aV⟩:=ex (wr.heap.size);obtain⟨Wb,aF⟩:=ex (wr.alloc (.cells #[.int .i64 (p:Int),.string ⟨#[]⟩] 93));have kb:wG wr Wb:=by rw [←aF];exact kAl
         have aM:Wb.heap[Nx]?=some (.cells #[.int .i64 (p:Int),.string ⟨#[]⟩] 93 (0,0)):=by rw [←aF,←aV];exact qh _ _
         have aj:=(hM.own R.o kb).own R.o kDr;have am:=(Keep.drew (fun _=>True) _).heap aM trivial;obtain⟨Wd,eC⟩:=ex (Wb.drew);have kd:wG Wb Wd:=by rw [←eC];exact kDr
         rw [eC]at aj am;have dM: ∀g4 X aA cr,MidAt n0 c Vw g2 Xj g4 X aA cr->X.heap[Nx]?=some (.cells #[.int .i64 (p:Int),.string ⟨#[]⟩] 93 (0,0))->(X.cell? ⟨c.Bk,0,none⟩=some (.slice (some ⟨c.K,0,none⟩) kn.length kn.length)/\X.cell? ⟨Nx,0,none⟩=some (.int .i64 (p:Int))/\X.cell? ⟨c.Bv,0,none⟩=some (.slice (some ⟨c.V,0,none⟩) vals.length vals.length)/\X.cell? ⟨ub,cc,none⟩=some (.string y0)):=fun g4 X aA cr hX hx=>by
          have x0:=qb hx 0 _ rfl;simp only [zD]at x0;have g1:=bn.o g4 X aA cr hX;exact⟨g1.2.2.2.2.2.2.2.2.2.2.2.2.2.2.2.2.2.1,x0,g1.2.2.2.2.2.2.2.2.2.2.2.2.2.2.2.2.1,aR X (d3.o g4 X aA cr hX)⟩
         have cm:=dM _ _ _ _ aj am;obtain⟨gK,dn⟩:=aj.setK R.o b0.o p true;obtain⟨gV,hG⟩:=dn.setV R.o fd.o p y0;have dV:=aj.step.inv.hold _ _ aj.wk.knr;have dz:=dn.step.inv.hold _ _ dn.wk.row;have kr:=qg dV p;have kv:=qg dz p;have jI:=qb dV p (.bool false) (by simp [zP,bj]);obtain⟨ov,hD⟩: ∃ov,z[p]?=some ov:=⟨_,zB (by rw [ax.lv];exact eL)⟩;have i8:=qb dz p (.string ov) (by simp [zP,hD]);simp only [zD]at jI i8;clear dV dz hD;have kC:Xj.heap.size<=Nx:=by rw [←aV];exact hM.step.keep.size
         have dI:=(Keep.setCell (C:=fun b=>b≠c.K) Wd ⟨c.K,p,none⟩ (.bool true) wE).heap am wC;have b7:=(Keep.setCell (C:=fun b=>b≠c.V) (Wd.setCell ⟨c.K,p,none⟩ (.bool true)) ⟨c.V,p,none⟩ (.string y0) wE).heap dI wC;have gH:=dM _ _ _ _ dn dI;have iB:=dM _ _ _ _ hG b7;have lx:Nx<Wb.heap.size:=qe aM;have ko:c.V<Wd.heap.size:=qe (aj.step.inv.hold _ _ aj.wk.row);have lg:c.K<Wd.heap.size:=qe (aj.step.inv.hold _ _ aj.wk.knr);have bl:=qf (qf ((qf (qf aI kb (fun _ _=>wH)) kd (fun _ _=>wH))) (Keep.setCell (C:=fun b=>b≠c.K) Wd ⟨c.K,p,none⟩ (.bool true) wE) (fun b hb=>by have:=(zE aI b hb).1;omega)) (Keep.setCell (C:=fun b=>b≠c.V) (Wd.setCell ⟨c.K,p,none⟩ (.bool true)) ⟨c.V,p,none⟩ (.string y0) wE) (fun b hb=>by have:=(zE aI b hb).1;omega);obtain⟨W6,d5⟩:=ex ((Wd.setCell ⟨c.K,p,none⟩ (.bool true)).setCell ⟨c.V,p,none⟩ (.string y0));rw [d5]at bl b7;have jl:=qb b7 0 _ rfl;have ln:=qe b7;simp only [zD]at jl;have dl:l.length<=1073741824:=by have:=aT.o;omega
         obtain⟨v',W7,bP,cj,k7,g7,br,dq,b5,c2⟩:=qc8 (P:=prog) qlo 86 bl [.int .i64 (p:Int)] rfl (by simp [Value.oneCell']) wC (by have:=hM.step.keep.size;have:=kb.size;have:=kd.size;rw [←d5];simp;omega);subst dq;have aQ:RowIn n0 c Vw a kn ts t g2 Xj (cc+1) (.slice (some ⟨g7,0,none⟩) (l.length+1) br) W7:=by
          refine RowIn.bind R.o b0.o fd.o (tt:=tt) (y:=y0) (p:=p) aj bt ax bg cu ir.o gP d8 iw.o bD bG hy hp bj (fo.o y0 jg.o (zH bG)) ?_ cj;rw [d5];exact k7.mono fun b _ (hb:b<Xj.heap.size) e=>by have:=(zE bl b e.symm).1;omega
         clear bb bj aR aM am dI b7 dn hG hM bt ax aI cj bl k7 b5;refine qb5 ?_ dM cm gH iB aj kb kd eC aF aV bg cu hy hs bD bG;clear dM cm gH iB aj kb kd eC aF aV bg cu hy hs bD bG;intro j2 bS fe ip bs eF ku hF ck ce aq bm cZ gR bu bo;refine hd5 ?_ ao d5 bP aQ hp;clear ao d5 bP aQ hp;intro eM gr bV a9 ks;gi_wp2;rw [ck.o,ce.o];refine qae ?_;refine qw rfl (fun X=>(X.cell? ⟨c.Bk,0,none⟩=some (.slice (some ⟨c.K,0,none⟩) kn.length kn.length)/\X.cell? ⟨Nx,0,none⟩=some (.int .i64 (p:Int))/\X.cell? ⟨c.Bv,0,none⟩=some (.slice (some ⟨c.V,0,none⟩) vals.length vals.length)/\X.cell? ⟨ub,cc,none⟩=some (.string y0))) [] ?_;rw [hF.o];refine qy [0,1,2,3,4,5,6,7,8,9,10] ?_
         iterate 11
          refine tkR (v:=?_) rfl bS.o ?_ ?_;rotate_left
          ·rintro Wq ⟨y1,y2,y3,y4⟩;go_simp
           try with_reducible rfl
          try simp only [qz]
         refine qm ?_;refine hoR 11 rfl fun K ai=>?_;gi_wp2;refine ai.o _ _ (fun _=>fe.o) ?_;refine qy [12] ?_
         iterate 1
          refine tkR (v:=?_) rfl fe.o ?_ ?_;rotate_left
          ·rintro Wq ⟨y1,y2,y3,y4⟩;go_simp
           try with_reducible rfl
          try simp only [qz]
         refine qm ?_;refine hoR 13 rfl fun K bQ=>?_;gi_wp2;refine bQ.o _ _ (fun _=>ip.o) ?_;refine ql wD (qo ?_);clear ai bQ;rw [gr.o]
         gi_wp2_with (gi_at_builtin;refine qck (v:=.slice bk l.length cB) (u:=.slice (some ⟨W6.heap.size,0,none⟩) 1 1) (v':=.slice (some ⟨g7,0,none⟩) (l.length+1) br) (w':=W7) rfl (.tmp 208) (.tmp 211) 86 rfl rfl rfl bV.o ?_)
         go_roundw
         case rel=>exact⟨cc+1,wC,by go_num,a9.o⟩
         case measure=>simp [intOf];omega
      ·obtain rfl:cc=(qq L).length:=by omega
       rw [bx.o]at eb;have jJ:Xj.heap.size<=wr.heap.size:=by
        obtain⟨_,_,_,_,hM,_⟩:=eb;exact hM.step.keep.size
       obtain⟨gh,a2,ac,l,c4,o1,o2,bg,o4,o5,o6,o7,o8⟩:=iI.o _ _ eb;obtain⟨bk,cB,rfl⟩:=qj o5;have dl:l.length<=1073741824:=by have:=aT.o;omega
       have hc:=ih (k0+m) gh wr ac a2 _ c4;rw [es.o]at hc;have jO:=qb (c4.inv.hold _ _ c4.held.p.1) 0 _ rfl;have lf:=qe (c4.inv.hold _ _ c4.held.p.1);simp only [zD]at jO;clear eb gu iX c4;refine hd8 ?_ hc o1 o2 o5 o6 o7 o8 bg;clear hc o1 o2 o5 o6 o7 o8 bg;intro jK iD jm gN i5 i3 iU aq;gi_wp2;refine⟨wH,rfl,(zU.2 jK.o).mono ?_⟩;rintro e W8 ⟨aU,rfl,cL⟩;obtain⟨g5,ah,p1,p2,p3,p4,p5,p6,p7,p8,p9⟩:=cL;have gq:=qp2 gN.o (w':=W8) (fun b hb=>by
        have h:=i5.o b hb;obtain⟨o,ho⟩: ∃o,wr.heap[b]?=some o:=⟨_,xT (zE gN.o b hb).2⟩;rw [ho];exact p1.hold b o (p6 b o (h.1.trans ho) h.2))
       have eT: ∀g4 X aA cr,MidAt n0 c Vw g5 W8 g4 X aA cr->qgt c vals kn i q L k sb sc ab oa cb tb ot ct cy dd nU (some ⟨S,0,none⟩) 1 X:=fun g4 X aA cr hX=>d9.o X ((SameW.of (c:=c) (U:=U) (g:=gm) (W0:=W0) hX.step.inv (fun b o hb hn=>(hX.held b hn).trans (p6 b o ((iD.o b (qe (ir.o.hold b o (hl.o b o hb hn))) hn).trans (hl.o b o hb hn)) hn)) (R.o.hV X hX.v).1).sub dW.o);have eR: ∀Z g6,MidAt n0 c Vw g5 W8 g6 Z ah kn->StepEnd c U Vw all Jp Jx k0 ((rows.take (j+1)).flatMap rf).length gm Wm a kn aU Z:=fun Z g6 hM=>fW.o aU gh ac _ wr Z g6 ah _ iD.o jm.o jJ i3.o iU.o g5 W8 ah p1 p2 p3 p4 p6 p7 p8 p9 hM;have gl:MidAt n0 c Vw g5 W8 g5 W8 ah (qbv kn l true):=MidAt.refl p1 p5 p2;clear p1 p2 p3 p5 p6 p7 p8 p9;refine Ink.hd4 ?_ gq eT eR gl;clear gq eT eR gl;intro ij fn fE ik;gi_wp2;gi_loopw [220] (fun i' X=> ∃q':Nat,q'<=l.length/\i'=.int .i64 (q':Int)/\ClearIn n0 c Vw ah (qbv kn l true) l Xj.heap.size g5 W8 q' (.slice bk l.length cB) X) (fun i _=>l.length-(intOf i).toNat)
       case atStart=>exact⟨0,wC,rfl,g5,ik.o,ij.o⟩
       case round=>
        obtain⟨q',gw,rfl,hC⟩:=hrel;by_cases dj:q'<l.length
        ·have ff:(q':Int)<l.length:=by omega
         have e0:(0:Int)<=q':=wC
         obtain⟨p',aE⟩: ∃p',l[q']?=some p':=⟨_,zB dj⟩;have ca:p'<kn.length:=(zA.1 (aq.o p' (zH aE))).1;have fh:(p':Int)<kn.length:=wC
         have eW:(0:Int)<=p':=wC
         have ar:=hC.next R.o b0.o aE d8;obtain⟨g4,aa,a0⟩:=hC;obtain⟨bW,cf⟩: ∃bW,bk=some ⟨bW,0,none⟩:=by
          rcases a0.2 with e |⟨gb',cap,cur,e1',_⟩
          ·have:=e.2;omega
          ·injection e1' with e1' _ _;exact⟨_,e1'⟩
         subst cf;have dC:=qcp a0 q' _ (qp3 aE);have dP:=zQ _ _ dC;have cq:=(fn.o g4 wr ah _ aa).2.2.2.2.2.2.2.2.2.2.2.2.2.2.2.2.2.1;have cp:=zQ _ _ cq;have ag:=aa.step.inv.hold _ _ aa.wk.knr;have gL:=qe ag;have eK:=qg ag p';obtain⟨bv,cd⟩: ∃bv,(qbv (qbv kn l true) (l.take q') false)[p']?=some bv:=⟨_,zB (by rw [qhb,qhb];exact ca)⟩;have b9:=qb ag p' (.bool bv) (by simp [zP,cd]);simp only [zD]at b9;clear ag cd;simp only at dP cp;clear aa a0 aE;refine hd1 ?_ ar;clear ar;intro aD;gi_wp2;go_roundw
         case rel=>exact⟨q'+1,wC,by go_num,aD.o⟩
         case measure=>simp [intOf];omega
        ·obtain rfl:q'=l.length:=by omega
         obtain⟨g4,aa,-⟩:=hC;rw [zi,qml aq.o]at aa;have bi:=fE.o wr g4 aa;clear aa;cases aU with
         |true=>
          refine hd1 ?_ bi;clear bi;intro ci;gi_wp2;go_roundw
          case rel=>exact⟨j+1,wC,by go_num,ci.o⟩
          case measure=>simp [intOf];omega
         |false=>
          have iG:=dL.o _ wr bi;clear bi;refine hd1 ?_ iG;clear iG;intro gA;gi_wp2;rw [Exit.noGoto_ret];go_ret;exact⟨_,rfl,gA.o⟩
    ·obtain rfl:j=rows.length:=by omega
     rw [zi]at dJ;have cL:=eE.o true Xj dJ;clear dJ dv hj;refine hd1 ?_ cL;clear cL;intro fm;gi_wp2;rw [Exit.noGoto_ret];go_ret;exact⟨_,rfl,fm.o⟩
end Go.Proofs
