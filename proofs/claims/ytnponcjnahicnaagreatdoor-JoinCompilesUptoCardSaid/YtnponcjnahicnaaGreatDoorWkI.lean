/- Parts of the proof. -/
import Derived.Test.YtnponcjnahicnaaGreatDoorWkGToWkL
set_option linter.unusedSimpArgs false
set_option linter.unusedVariables false
set_option maxRecDepth 100000
set_option maxHeartbeats 4000000
open Go.Proofs.Tryz(prog)
namespace Go.Proofs
open Go.RowKit Go.Ink R4
attribute [local go_sem] Oper.semAt_some
theorem qt6 {n0 n1:Nat}{W0:World}{c:WkC}{LJ:qa6}{U:Nat->Prop}{nU:Nat}{Vw:World->Prop}{all:List Asg}{Jp Jx:Nat->Gh->World->Prop}(hE:qdk n0 n1 W0 c LJ U nU Vw all Jp Jx){i:Nat}(hi:i<c.steps.length)(fA: ∀q,c.steps[i]?=some q->(c.r.body.getD q default).kind=1)(ih:qgg n1 c LJ U Vw all Jp Jx (i+1)):qgg n1 c LJ U Vw all Jp Jx i:=by
 intro k0 g W a vals kn hA;obtain⟨q,hq⟩: ∃q,c.steps[i]?=some q:=⟨_,zB hi⟩;have hB:=hA.held;have hg:=hA.inv;have kI:=(hE.hV W hA.v).2;obtain⟨L,k,sb,sc,ab,oa,cb,tb,ot,ct,cL,dg,hL,hk,dM,kB,jh,cn⟩:=qmt hE hB hq;obtain⟨sp,ez⟩:=ex ((k.store.map fun S=>(⟨S,0,none⟩:Addr)));rw [ez]at cn;have kH:q<c.r.body.length:=(zA.1 hL).1;have fu:c.r.body.getD q default=L:=by rw [zJ,hL];rfl
 have fz:=fA q hq;rw [fu]at fz;obtain⟨kd,bz⟩:=ex (L.kind);rw [bz]at fz cn;subst fz;have h0:SameW c U g W0 W:=SameW.of hg (fun _ _ h _=>h) (hE.hV W hA.v).1;have fD: ∀X,wD W X->SameW c U g W0 X:=fun X hX=>h0.keep hX (fun _ _ _ _=>wE) (fun _ _=>wE) (fun b hb=>by have:=hE.hU b hb;omega);have cD: ∀X,wD W X->qfw c vals kn i q L k sb sc ab oa cb tb ot ct cL dg nU sp 1 X:=fun X hX=>cn X (fD X hX);have dY:c.steps.drop i=q::c.steps.drop (i+1):=by rw [zr hi,(zA.1 hq).2]
 have gL:=cD W (Keep.refl _ _);have b1:=gL.1;have io:=zQ _ _ b1;simp only at io;have kJ: ¬((i:Int)=(c.steps.length:Int)):=xz
 have kE:(0:Int)<=i:=xz
 have kF:(i:Int)<c.steps.length:=xz
 have kG:i<1073741824:=by have:=hE.sfew;omega
 have kL:(0:Int)<=q:=xz
 have kM:(q:Int)<c.looks.length:=by rw [hE.looks];omega
 have kN:(q:Int)<c.r.body.length:=xz
 have dW:((i+1:Nat):Int)=(i:Int)+1:=xz
 clear h0 gL;have gH:ql L=L.atom.args:=by unfold ql;rw [zF (by rw [bz];omega)]
 obtain⟨ts,eA⟩:=ex (L.atom.args);have a2:ql L=ts:=by rw [gH,eA]
 obtain⟨qp,qa,qn,-⟩:=hA.look q L k hL hk;obtain⟨S,f,q1,q2,q3,q4,q5⟩:=qn bz;have ie:sp=some ⟨S,0,none⟩:=by rw [←ez,q1];rfl
 subst ie;have cZ: ∀t,t∈ts->qeo c.vars t:=fun t ht=>hE.vin L t dM (by rw [a2];exact ht);have cY: ∀t,t∈ts->t.text.size<=1073741824:=fun t ht=>hE.small L t dM (by rw [a2];exact ht);have hH:=hE.preds L dM;have ij:ts.length<=1073741824:=by rw [←a2];exact jh
 have ii:k.arity=ts.length:=by rw [qa,eA]
 have hr:vals.length<=1073741824:=by rw [hA.asg.lv];exact hE.few
 have hh:kn.length<=1073741824:=by rw [hA.asg.lk];exact hE.few
 have d9: ∀X,qfw c vals kn i q L k sb sc ab oa cb tb ot ct cL dg nU (some ⟨S,0,none⟩) 1 X-> ∀(j:Nat) (t:TermD),ts[j]?=some t-> ∃zb zo,cL=some ⟨zb,zo,none⟩/\zb<nU/\X.cell? ⟨zb,zo+j*2,none⟩=some (.int .i64 (qat c.vars t).place)/\X.cell? ⟨zb,zo+j*2+1,none⟩=some (.string (qat c.vars t).text):=fun X hX j t hj=>by
  obtain⟨x1,x2,x3,x4,x5,x6,x7,x8,x9,k2,k3,k4,k8,k9,la,iw,ix,lb,kY,kZ,fE,-,-,jd⟩:=hX;injection fE with fE _ _
  obtain⟨b3,o3,i8,gY,r1,r2⟩:=jd j (qat c.vars t) (by unfold qck;rw [a2,zP,hj];rfl);exact⟨b3,o3,by rw [fE];exact i8,gY,r1,r2⟩
 have cT: ∀t:TermD,t.var=false->qat c.vars t=⟨-1,t.text⟩:=fun t h=>by unfold qat;rw [zF (by rw [h];simp)]
 have fc: ∀t:TermD,t∈ts->t.var=true-> ∃p,qat c.vars t=⟨(p:Nat),⟨#[]⟩⟩/\c.vars[p]?=some t.text/\p<c.vars.length:=fun t ht h=>⟨c.vars.idxOf t.text,by unfold qat;rw [zI h],qt2 (cZ t ht h),y9 (cZ t ht h)⟩;have ed:=hB.vals hg;have hf:=hg.hold _ _ hB.knr;have eV:(ql L).length=ts.length:=by rw [a2]
 have gS: ¬U c.K:=fun h=>by have:=(hA.u _ h).2;rw [hB.knr] at this;cases this
 have gT: ¬U c.V:=fun h=>by have:=(hA.u _ h).2;rw [hB.row] at this;cases this
 clear gH;unfold WkC.bound;refine qde ?_ ez hA hB hg hE cn fD cD dW hL hk dM fu hq dY a2;clear ez hA hB hg hE cn fD cD dW hL hk dM fu hq dY a2;intro jN bO iM gg R dy jM ak eo kc ke jH dn kh bD iN;refine qde ?_ eA qp qa qn q1 q2 q3 q4 q5 cZ cY hH ij ii hr hh;clear eA qp qa qn q1 q2 q3 q4 q5 cZ cY hH ij ii hr hh;intro dC iZ kk km kj iW iX iY gD aL dB gr aR cP jK jJ;refine hd8 ?_ d9 cT fc ed hf eV gS gT;clear d9 cT fc ed hf eV gS gT;intro cO bW dD cQ eN bF bU eL;refine qbl Tryz.func122 rfl ?_;simp only [Tryz.ntmps122,qdm,Nat.reduceAdd,Nat.reduceSub];gi_wp2;refine xc.2 ?_;refine wp_scope_straight ?_;refine(xc (n:=0)).1 ?_;gi_wp2;have gM:=ak.o W.drew kDr;clear b1 io;refine hd1 ?_ gM;clear gM;intro eI;refine qag ?_;refine qw rfl (fun X=>qfw c vals kn i q L k sb sc ab oa cb tb ot ct cL dg nU (some ⟨S,0,none⟩) 1 X) [] ?_;refine qab [0,1,2,3,4,5,6,7,8,9,10,11,12,13,14,15,16] ?_
 iterate 17
  refine tkB rfl eI.o ?_
  try simp only [qac]
 refine qk ?_;refine hoR 17 rfl fun K ai=>?_;gi_wp2;refine ai.o _ _ (fun _=>ak.o _ (kDr.trans kAl)) ?_;refine hoR 18 rfl fun K bP=>?_;gi_wp2;obtain⟨Nb,es⟩:=ex (W.heap.size);obtain⟨W1,dT⟩:=ex ((W.alloc (.cells #[.pointer (some ⟨S,0,none⟩),.string k.pred,.int .i64 (k.arity:Int),.int .i64 (k.upto:Int)] 192)).drew);have k1:wD W W1:=by rw [←dT];exact kAl.trans kDr
 have iv:W1.heap[Nb]?=some (.cells #[.pointer (some ⟨S,0,none⟩),.string k.pred,.int .i64 (k.arity:Int),.int .i64 (k.upto:Int)] 192 (0,0)):=by rw [←dT,←es];exact qh _ _
 have gN:=ak.o W1 k1;have gO:=ak.o W1.drew (k1.trans kDr);rw [dT,es];refine hd6 ?_ k1 iv gN gO dT es;clear k1 iv gN gO dT es;intro gz eP dq eJ ga f7;refine bP.o _ _ (fun _=>dq.o) ?_;refine qab [19] ?_
 iterate 1
  refine tkB rfl dq.o ?_
  try simp only [qac]
 refine qk ?_;refine qx wA (qai ?_);clear ai bP;gi_wp2;refine qag ?_;refine qw rfl (fun X=>qfw c vals kn i q L k sb sc ab oa cb tb ot ct cL dg nU (some ⟨S,0,none⟩) 1 X) [] ?_;refine qab [0,1,2,3,4,5,6,7,8,9,10,11] ?_
 iterate 12
  refine tkB rfl eJ.o ?_
  try simp only [qac]
 refine qk ?_;refine qx wA (qai ?_);have fH:wD W W1.drew:=gz.o.trans kDr;have ei:W1.drew.heap[Nb]?=some (.cells #[.pointer (some ⟨S,0,none⟩),.string k.pred,.int .i64 (k.arity:Int),.int .i64 (k.upto:Int)] 192 (0,0)):=eP.o;obtain⟨W2,gW⟩:=ex (W1.drew);rw [gW]at fH ei⊢;clear gz eP dq eJ eI ga gW f7;refine Ink.hd2 ?_ fH ei;clear fH ei;intro b5 dF;gi_wp2;have z2:W.heap.size<=W2.heap.size:=b5.o.size;gi_loopw [16,17,121] (fun iw ix i' wr=> ∃j:Nat,j<=(ql L).length/\i'=.int .i64 (j:Int)/\Keep (fun b=>b<W2.heap.size) W2 wr/\wr.ownsRow W2.heap.size 3 1 iw (qam a (ts.take j) 0).length (((qam a (ts.take j) 0).map fun p=>(p.1:Int)).map (.int .i64))/\wr.ownsRow W2.heap.size 9 1 ix (qam a (ts.take j) 0).length (((qam a (ts.take j) 0).map (·.2)).map .string)) (fun _ _ i _=>(ql L).length-(intOf i).toNat)
 case atStart=>exact⟨0,xz,rfl,Keep.refl _ _,zj _ _ _ _,zj _ _ _ _⟩
 case round=>
  obtain⟨j,hj,rfl,hK,al,az⟩:=hrel;have kP:=hK.size;by_cases d5:j<(ql L).length
  ·have hl:(j:Int)<(ql L).length:=by omega
   have jf:(0:Int)<=j:=xz
   obtain⟨t,ht⟩: ∃t,ts[j]?=some t:=⟨_,zB (by rw [←bF.o];exact d5)⟩;have ap:=zH ht;have bI:wD W wr:=b5.o.trans (hK.mono fun b hb _=>hb);have a3:=ak.o wr bI;obtain⟨zb,zo,ee,jm,s1,s2⟩:=cO.o wr a3 j t ht;subst ee;have jn:zb<wr.heap.size:=by have:=bI.size;omega
   have aW:=qwx a ts ht;cases hv:t.var with
   |false=>
    have hs:=bW.o t hv;have hy:qaf a t=some t.text:=by unfold qaf;rw [zF (by rw [hv];simp)]
    rw [hs]at s1 s2;simp only at s1 s2;rw [hy]at aW;simp only at aW;obtain⟨a6,c6,rfl⟩:=qi al;obtain⟨a7,c7,rfl⟩:=qi az;obtain⟨Wa,a4⟩:=ex (wr.alloc (.cells #[.int .i64 (-1),.string t.text] 132));have ka:wD wr Wa:=by rw [←a4];exact kAl
    have za:Wa.heap.size=wr.heap.size+1:=by rw [←a4];simp
    have na:Wa.heap[wr.heap.size]?=some (.cells #[.int .i64 (-1),.string t.text] 132 (0,0)):=by rw [←a4];exact qh _ _
    have ey:(qam a (ts.take j) 0).length<=1073741824:=by
     have h1:=qmb a (ts.take j) 0;have h2:(ts.take j).length<=ts.length:=by rw [yB];omega
     have h3:=aR.o;omega
    obtain⟨v',W5,cF,d7,k5,g5,dH,fF,cg,dZ⟩:=qdd (P:=prog) qkl 125 (qf al ka (fun _ _=>wE)) [.int .i64 (j:Int)] rfl (by simp [Value.oneCell']) xz xz;subst fF;rw [za,←a4]at cF;have cj:=qf (qf az ka (fun _ _=>wE)) k5 (fun b hb e=>qdg (qf az ka (fun _ _=>wE)) (qf al ka (fun _ _=>wE)) wC hb e.symm);have cI:Keep (fun b=>b<W2.heap.size) wr W5:=ka.mt.trans (k5.mono fun b _ (hb:b<W2.heap.size) e=>by have:=(zE al b e.symm).1;omega);have bM:W5.heap[wr.heap.size]?=some (.cells #[.int .i64 (-1),.string t.text] 132 (0,0)):=k5.heap na (fun e=>by have:=(zE al _ e.symm).2;omega);have m0:=qb bM 0 _ rfl;have m1:=qb bM 1 _ rfl;have lm:=qe bM;have aE:wD W W5:=b5.o.trans (hK.trans cI |>.mono fun b hb _=>hb);have fx:=(ak.o W5 aE).2.2.2.2.2.2.2.2.2.2.2.2.2.1;have fJ:=zQ _ _ fx;simp only [zD]at m0 m1 fJ;have aA:=qgt R.o bO.o.asg (aL.o t ap) hy (cQ.o.keep aE trivial wE);rw [hs]at aA;simp only at aA;clear ka na k5 al az a4 a3 ht ap bM;refine qc9 ?_ cF d7 cj cI aE aA aW hK cg dZ;clear cF d7 cj cI aE aA aW hK cg dZ;intro dz dv cu b6 fi a1 aQ c3 fo gi
    gi_wp2_with (gi_at_builtin;refine qby (v:=.slice a6 (qam a (ts.take j) 0).length c6) (u:=.slice (some ⟨wr.heap.size+1,0,none⟩) 1 1) (v':=.slice (some ⟨g5,0,none⟩) ((qam a (ts.take j) 0).length+1) dH) (w':=W5) rfl (.tmp 136) (.tmp 138) 125 rfl rfl rfl dz.o ?_)
    refine⟨wE,rfl,(zU.2 a1.o).mono ?_⟩;rintro e W6 ⟨rfl,k6⟩;have aH:=qf cu.o k6 (fun _ _=>wE);have a9:=qf dv.o k6 (fun _ _=>wE);obtain⟨v',W7,co,cl,k7,g7,bt,ec,ch,db⟩:=qdd (P:=prog) qgm 60 aH [.string t.text] rfl (by simp [Value.oneCell']) xz (by have:=b6.o.size;have:=k6.size;omega);subst ec;have ck:=qf a9 k7 (fun b hb e=>qdg a9 aH wC hb e.symm);have eg:Keep (fun b=>b<W2.heap.size) wr W7:=(b6.o.trans k6.mt).trans (k7.mono fun b _ (hb:b<W2.heap.size) e=>by have:=(zE aH b e.symm).1;omega);clear k6 k7 aH a9 ch;refine hd5 ?_ co cl ck eg db;clear co cl ck eg db;intro b2 dx cw dE gj
    gi_wp2_with (gi_at_builtin;refine qby (v:=.slice a7 (qam a (ts.take j) 0).length c7) (u:=.slice (some ⟨W6.heap.size,0,none⟩) 1 1) (v':=.slice (some ⟨g7,0,none⟩) ((qam a (ts.take j) 0).length+1) bt) (w':=W7) rfl (.tmp 140) (.tmp 144) 60 rfl rfl rfl b2.o ?_)
    go_roundw
    case rel=>
     refine⟨j+1,xz,by go_num,c3.o.trans dE.o,?_,?_⟩
     ·rw [aQ.o,zR,zm,zm];exact cw.o
     ·rw [aQ.o,zR,zm,zm];exact dx.o
    case measure=>simp [intOf];omega
   |true=>
    obtain⟨p,hs,hp,e0⟩:=dD.o t ap hv;rw [hs]at s1 s2;simp only at s1 s2;have jj:(0:Int)<=p:=xz
    have hI: ¬((p:Int)<0):=xz
    have jk:(p:Int)<kn.length:=by rw [bO.o.asg.lk];omega
    have fw:=a3.2.2.2.2.2.2.2.2.2.2.2.2.2.2.2.2.2.1;have fI:=zQ _ _ fw;simp only at fI;have bi:kn[p]?=some (qaf a t).isSome:=by
     have:=qv3 bO.o.asg (aL.o t ap) hv;unfold qat at hs;rw [zI hv]at hs;injection hs with h1 _
     have h2:c.vars.idxOf t.text=p:=xz
     rw [h2]at this;exact this
    have cC:=bI.heap eN.o trivial;have af:wr.cell? ⟨c.K,p,none⟩=some (.bool (qaf a t).isSome):=by
     have:=qb cC p (.bool (qaf a t).isSome) (by simp [zP,bi])
     simpa using this
    have lK:=qe cC;clear cC bi;cases hy:qaf a t with
    |some y=>
     rw [hy]at af;simp only [Option.isSome_some]at af;rw [hy]at aW;simp only at aW;obtain⟨a6,c6,rfl⟩:=qi al;obtain⟨a7,c7,rfl⟩:=qi az;obtain⟨Wa,a4⟩:=ex (wr.alloc (.cells #[.int .i64 (p:Int),.string ⟨#[]⟩] 132));have ka:wD wr Wa:=by rw [←a4];exact kAl
     have za:Wa.heap.size=wr.heap.size+1:=by rw [←a4];simp
     have na:Wa.heap[wr.heap.size]?=some (.cells #[.int .i64 (p:Int),.string ⟨#[]⟩] 132 (0,0)):=by rw [←a4];exact qh _ _
     have ey:(qam a (ts.take j) 0).length<=1073741824:=by
      have h1:=qmb a (ts.take j) 0;have h2:(ts.take j).length<=ts.length:=by rw [yB];omega
      have h3:=aR.o;omega
     obtain⟨v',W5,cF,d7,k5,g5,dH,fF,cg,dZ⟩:=qdd (P:=prog) qkl 125 (qf al ka (fun _ _=>wE)) [.int .i64 (j:Int)] rfl (by simp [Value.oneCell']) xz xz;subst fF;rw [za,←a4]at cF;have cj:=qf (qf az ka (fun _ _=>wE)) k5 (fun b hb e=>qdg (qf az ka (fun _ _=>wE)) (qf al ka (fun _ _=>wE)) wC hb e.symm);have cI:Keep (fun b=>b<W2.heap.size) wr W5:=ka.mt.trans (k5.mono fun b _ (hb:b<W2.heap.size) e=>by have:=(zE al b e.symm).1;omega);have bM:W5.heap[wr.heap.size]?=some (.cells #[.int .i64 (p:Int),.string ⟨#[]⟩] 132 (0,0)):=k5.heap na (fun e=>by have:=(zE al _ e.symm).2;omega);have m0:=qb bM 0 _ rfl;have m1:=qb bM 1 _ rfl;have lm:=qe bM;have aE:wD W W5:=b5.o.trans (hK.trans cI |>.mono fun b hb _=>hb);have fx:=(ak.o W5 aE).2.2.2.2.2.2.2.2.2.2.2.2.2.1;have fJ:=zQ _ _ fx;simp only [zD]at m0 m1 fJ;have aA:=qgt R.o bO.o.asg (aL.o t ap) hy (cQ.o.keep aE trivial wE);rw [hs]at aA;simp only at aA;clear ka na k5 al az a4 a3 ht ap bM;refine qc9 ?_ cF d7 cj cI aE aA aW hK cg dZ;clear cF d7 cj cI aE aA aW hK cg dZ;intro dz dv cu b6 fi a1 aQ c3 fo gi
     gi_wp2_with (gi_at_builtin;refine qby (v:=.slice a6 (qam a (ts.take j) 0).length c6) (u:=.slice (some ⟨wr.heap.size+1,0,none⟩) 1 1) (v':=.slice (some ⟨g5,0,none⟩) ((qam a (ts.take j) 0).length+1) dH) (w':=W5) rfl (.tmp 136) (.tmp 138) 125 rfl rfl rfl dz.o ?_)
     refine⟨wE,rfl,(zU.2 a1.o).mono ?_⟩;rintro e W6 ⟨rfl,k6⟩;have aH:=qf cu.o k6 (fun _ _=>wE);have a9:=qf dv.o k6 (fun _ _=>wE);obtain⟨v',W7,co,cl,k7,g7,bt,ec,ch,db⟩:=qdd (P:=prog) qgm 60 aH [.string y] rfl (by simp [Value.oneCell']) xz (by have:=b6.o.size;have:=k6.size;omega);subst ec;have ck:=qf a9 k7 (fun b hb e=>qdg a9 aH wC hb e.symm);have eg:Keep (fun b=>b<W2.heap.size) wr W7:=(b6.o.trans k6.mt).trans (k7.mono fun b _ (hb:b<W2.heap.size) e=>by have:=(zE aH b e.symm).1;omega);clear k6 k7 aH a9 ch;refine hd5 ?_ co cl ck eg db;clear co cl ck eg db;intro b2 dx cw dE gj
     gi_wp2_with (gi_at_builtin;refine qby (v:=.slice a7 (qam a (ts.take j) 0).length c7) (u:=.slice (some ⟨W6.heap.size,0,none⟩) 1 1) (v':=.slice (some ⟨g7,0,none⟩) ((qam a (ts.take j) 0).length+1) bt) (w':=W7) rfl (.tmp 140) (.tmp 144) 60 rfl rfl rfl b2.o ?_)
     go_roundw
     case rel=>
      refine⟨j+1,xz,by go_num,c3.o.trans dE.o,?_,?_⟩
      ·rw [aQ.o,zR,zm,zm];exact cw.o
      ·rw [aQ.o,zR,zm,zm];exact dx.o
     case measure=>simp [intOf];omega
    |none=>
     rw [hy]at af aW;simp only [Option.isSome_none,yO]at af aW;obtain⟨a6,c6,rfl⟩:=qi al;obtain⟨a7,c7,rfl⟩:=qi az;clear a3 ht ap;have ib:(wr.alloc (.cells #[.int .i64 (p:Int),.string ⟨#[]⟩] 132)).heap.size=wr.heap.size+1:=wB
     refine hd6 ?_ aW hK al az bI ib;clear aW hK al az bI ib;intro aQ c3 gl gn cN jL;gi_wp2;go_roundw
     case rel=>
      have kl:wD wr (wr.alloc (.cells #[.int .i64 (p:Int),.string ⟨#[]⟩] 132)):=kAl;refine⟨j+1,xz,by go_num,c3.o.trans kl.mt,?_,?_⟩
      ·rw [aQ.o];exact qf gl.o kl (fun _ _=>wE)
      ·rw [aQ.o];exact qf gn.o kl (fun _ _=>wE)
     case measure=>simp [intOf];omega
  ·obtain rfl:j=(ql L).length:=by omega
   have ej:ts.take (ql L).length=ts:=by rw [bF.o,zi]
   rw [ej]at al az;have bI:wD W wr:=b5.o.trans (hK.mono fun b hb _=>hb);have df:=hK.heap dF.o (qe dF.o);have ip:=qb df 0 _ rfl;have iq:=qb df 1 _ rfl;have ir:=qb df 2 _ rfl;have iu:=qb df 3 _ rfl;have jq:=qe df;simp only [zD]at ip iq ir iu;obtain⟨a6,c6,rfl⟩:=qi al;obtain⟨a7,c7,rfl⟩:=qi az;have ey:(qam a ts 0).length<=1073741824:=by
    have h1:=qmb a ts 0;have h3:=aR.o;omega
   have he:qan wr.heap.size wr (.slice a6 (qam a ts 0).length c6) (qip a ts):=qd5 al (by unfold qip;rw [zL];exact ey);have ia:qal wr.heap.size wr (.slice a7 (qam a ts 0).length c7) (qnt a ts):=qcc az (by unfold qnt;rw [zL];exact ey);have ew:=qvb (n0:=n0) (gg.o.keep bI.mt) iW.o k.pred k.arity (by rw [iZ.o];exact gr.o) (by rw [cP.o];exact aR.o) wr.heap.size _ _ _ _ k.upto he ia (zG _) (fun s hs=>by
    obtain⟨t,ht,hy⟩:=q26 hs;exact qx4 bO.o.asg (dB.o t ht) hy) iX.o iY.o (by rw [cP.o];exact q20 a ts) (by unfold qnt qip;rw [zL,zL])
   have hZ:qit f k.pred k.arity (qip a ts) (qnt a ts) k.upto=(LJ.pos q).filter (qi6 a ts):=by
    rw [←gD.o,cP.o];exact q2z
   rw [hZ]at ew;unfold qdu at ew;clear hZ he ia df al az ej hj d5;refine Ink.hd3 ?_ ew bI hK;clear ew bI hK;intro gk cN c3;gi_wp2;refine wpIn_label ?_;gi_wp2;refine⟨wE,rfl,(zU.2 gk.o).mono ?_⟩;rintro e Wm ⟨g',v,rfl,cH,fa,cX,cG⟩;obtain⟨gm,gF,cV,cW,d0⟩:=q25 R.o bO.o cN.o cH fa cX;obtain⟨rows,aw⟩:=ex ((LJ.pos q).filter (qi6 a ts));rw [aw]at cG;have kA:c.V<W.heap.size:=qe (gg.o.hold _ _ iM.o.row);have kx:c.K<W.heap.size:=qe eN.o;have fd:W.heap.size<=Wm.heap.size:=zW cN.o.size cH.keep.size;have hQ:RowsHeld c gm Wm v rows:=by
    obtain⟨us,h1,h2,h3,h4⟩:=cG;have hz:=cN.o.size;exact⟨us,h1,h2,fun b hb=>⟨d0 b (by have:=(h3 b hb).2;omega) (h3 b hb).1 (zE h2 b hb).2,by have:=(h3 b hb).2;exact⟨xz,xz⟩⟩,fun k u t hu ht=>⟨(h4 k u t hu ht).1,fun b hb=>⟨d0 b (by have:=((h4 k u t hu ht).2 b hb).2;omega) ((h4 k u t hu ht).2 b hb).1 (zE (h4 k u t hu ht).1 b hb).2,by have:=((h4 k u t hu ht).2 b hb).2;exact⟨xz,xz⟩⟩⟩⟩
   obtain⟨av,cv,rfl,fC,hP⟩:=hQ.get (U:=U) (W0:=W0);simp only [maxLen]at fC;have hW: ∀(j:Nat) (t:List ByteArray),rows[j]?=some t->t.length=ts.length:=fun j t hj=>by
    have:=zH hj;rw [←aw,yU,←gD.o]at this;rw [(qc2.1 (xj this.1)).2,cP.o]
   have hY: ∀(j:Nat) (t:List ByteArray) (s:ByteArray),rows[j]?=some t->s∈t->s.size<=1073741824:=fun j t s hj hs=>by
    have:=zH hj;rw [←aw,yU]at this;exact R.o.texts q t s this.1 hs
   have d8:qbe LJ c.r.body (c.steps.drop i) a=rows.flatMap (qg0 LJ c.r.body ts (c.steps.drop (i+1)) a):=by
    rw [bD.o,qv6 dn.o bz,dC.o,aw]
   obtain⟨rf,fB⟩:=ex (qg0 LJ c.r.body ts (c.steps.drop (i+1)) a);rw [fB]at d8;have dV: ∀aU X,StepEnd c U Vw all Jp Jx k0 (rows.flatMap rf).length gm Wm a kn aU X->StepEnd c U Vw all Jp Jx k0 (qbe LJ c.r.body (c.steps.drop i) a).length g W a kn aU X:=fun aU X h=>by
    rw [d8];exact h.base cV cW fd
   have cS: ∀m X,StepEnd c U Vw all Jp Jx k0 m gm Wm a kn false X->StepEnd c U Vw all Jp Jx k0 (qbe LJ c.r.body (c.steps.drop i) a).length g W a kn false X:=fun m X h=>by
    obtain⟨g',bb,h1,h2,h3,h4,h5,h6,h7,h8,h9⟩:=h.base cV cW fd;exact⟨g',bb,h1,h2,h3,h4,h5,h6,h7,h8,by rcases h9 with ⟨h,-⟩ |h;cases h;exact .inr h⟩
   have ji:gm.held Nb=some (.cells #[.pointer (some ⟨S,0,none⟩),.string k.pred,.int .i64 (k.arity:Int),.int .i64 (k.upto:Int)] 192 (0,0))∨True:=.inr trivial;clear cG hQ d0 cH fa cX ji ip iq ir iu jq d8;refine qc9 ?_ gF cV cW hP hW hY fB dV cS aw;clear gF cV cW hP hW hY fB dV cS aw;intro dm du iP gu gv gw b4 en dt dA;gi_wp2;gi_loopw [157] (fun i' X=> ∃j:Nat,j<=rows.length/\i'=.int .i64 (j:Int)/\StepEnd c U Vw all Jp Jx k0 ((rows.take j).flatMap rf).length gm Wm a kn true X) (fun i _=>rows.length-(intOf i).toNat)
   case atStart=>exact⟨0,xz,rfl,StepEnd.none R.o dm.o (Keep.refl _ _)⟩
   case round=>
    obtain⟨j,hj,rfl,dQ⟩:=hrel;obtain⟨Xj,i5⟩: ∃Xj,Xj=wr:=⟨_,rfl⟩;subst i5;by_cases d5:j<rows.length
    ·have hl:(j:Int)<rows.length:=by omega
     have jf:(0:Int)<=j:=xz
     obtain⟨t,ht⟩: ∃t,rows[j]?=some t:=⟨_,zB d5⟩;have ea:=gv.o j t ht;have fb:=gw.o j t;obtain⟨gb,ua,uc,i7,hR,hO⟩:=gu.o j t ht;subst i7;have gX:=dQ.same R.o;obtain⟨g2,jA,e1,e2,e3,e4,e5,e6,e7,e8,e9⟩:=dQ;obtain⟨m,hm⟩:=ex (((rows.take j).flatMap rf).length);rw [hm]at e9;have fy:Jp (k0+m) g2 Xj:=by
      rcases e9 with ⟨-,h⟩ |⟨h,-⟩
      ·exact h
      ·cases h
     have je:=hR Xj gX;have jr:=zQ _ _ je;simp only at jr;have gU:c.V<Xj.heap.size:=xz
     have dL:c.K<Xj.heap.size:=xz
     have jU:nU<=Xj.heap.size:=(R.o.hV Xj e2).2;have dS: ∀b,U b->b<Xj.heap.size:=fun b hb=>by have:=R.o.hU b hb;omega
     have fv: ∀g3 X z bL,MidAt n0 c Vw g2 Xj g3 X z bL->SameW c U gm W0 X:=fun g3 X z bL hX=>SameW.of hX.step.inv (fun b o hb hn=>(hX.held b hn).trans (e6 b o hb hn)) (R.o.hV X hX.v).1;have gP: ∀g3 X z bL,MidAt n0 c Vw g2 Xj g3 X z bL->qfw c vals kn i q L k sb sc ab oa cb tb ot ct cL dg nU (some ⟨S,0,none⟩) 1 X:=fun g3 X z bL hX=>dy.o X ((fv g3 X z bL hX).sub du.o);have ha: ∀g6 Z bc,MidAt n0 c Vw g2 Xj g6 Z bc kn->qdj c.vars bc kn a->rf t= []->StepEnd c U Vw all Jp Jx k0 ((rows.take (j+1)).flatMap rf).length gm Wm a kn true Z:=fun g6 Z bc h1 h2 h3=>by
      rw [qq6 rf rows j t ht,h3,yO,hm];exact qt5 R.o e4 e3 dS e6 e7 (.inl ⟨rfl,fy⟩) h1 h2
     have ig:RowIn n0 c Vw a kn ts t g2 Xj 0 (.slice none 0 0) Xj:=RowIn.start e1 e5 e2 e8;have hD: ∀x X,RowIn n0 c Vw a kn ts t g2 Xj ts.length x X-> ∃gh bb ac l,StepAt n1 c LJ U Vw all Jp (i+1) (k0+m) gh X ac bb (qbf kn l true)/\(∀b,b<Xj.heap.size->c.nv b->gh.held b=g2.held b)/\(∀S f,gm.st S=some f-> ∃d,gh.st S=some (f++d))/\(∀p,p∈l->kn[p]?=some false)/\l.length<=ts.length/\
       X.ownsRow Xj.heap.size 3 1 x l.length (l.map fun p:Nat=>Value.int .i64 (p:Int))/\(∀b,x.ownBlock=some b->gh.held b=X.heap[b]?/\c.nv b)/\rf t=qbe LJ c.r.body (c.steps.drop (i+1)) ac/\ExtA a ac:=fun x X h=>by
      have:=h.on R.o (m:=m) dm.o bD.o dn.o bz dC.o e1 e3 dS e4 e7 fy (fun ac i6 r b hb=>?_) ea.symm gU dL
      ·rw [b4.o]at this;exact this
      ·have h1:(rf t)[r]?=some b:=by
        rw [←b4.o];unfold qg0;rw [i6];exact hb
       have h2:=qx5 rf ht h1;rw [hm]at h2;have h3:=dm.o.told (m+r) b (by
        rw [bD.o,qv6 dn.o bz,dC.o,dA.o,b4.o];exact h2)
       rw [←xF]at h3;exact h3
     have eU: ∀(aU:Bool) (gh:Gh) (ac:Asg) (bL:List Bool) (X8 Z:World) (g6:Gh) (bc:List ByteArray) (mm:List Asg),(∀b,b<Xj.heap.size->c.nv b->gh.held b=g2.held b)->(∀S f,gm.st S=some f-> ∃d,gh.st S=some (f++d))->Xj.heap.size<=X8.heap.size->rf t=mm->ExtA a ac->
       ∀(g5:Gh) (Y:World) (ah:List ByteArray),GInv g5 Y->Vw Y->(∀b,U b->g5.free b)->X8.heap.size<=Y.heap.size->(∀b o,gh.held b=some o->c.nv b->g5.held b=some o)->(∀S f,gh.st S=some f-> ∃d,g5.st S=some (f++d))->qdj c.vars ah bL ac->((aU=true/\Jp (k0+m+mm.length) g5 Y)∨(aU=false/\ ∃k,k<all.length/\Jx k g5 Y))->
       MidAt n0 c Vw g5 Y g6 Z ah kn->StepEnd c U Vw all Jp Jx k0 ((rows.take (j+1)).flatMap rf).length gm Wm a kn aU Z:=fun aU gh ac bL X8 Z g6 bc mm h1 h2 hz d6 g8 g5 Y ah p1 p2 p3 p4 p5 p6 p7 p8 hM=>by
      rw [qq6 rf rows j t ht,zR,hm,d6];refine qt5 R.o xz p3 (fun b hb=>by have:=dS b hb;omega) (fun b o hb hn=>p5 b o ((h1 b (qe (e1.hold b o (e6 b o hb hn))) hn).trans (e6 b o hb hn)) hn) (fun S f hS=>?_) (by rw [←xF];exact p8) hM (qn7 e8 p7 g8);obtain⟨d,hd⟩:=h2 S f hS;obtain⟨d2,g0⟩:=p6 S _ hd;exact⟨d++d2,by rw [g0,yq]⟩
     clear hR gX e9 fy;refine qde ?_ ha eU hD gP fv hO dS ig ea fb e1 e2 e3 e5 e6 e7;clear ha eU hD gP fv hO dS ig ea fb e1 e2 e3 e5 e6 e7;intro eM fn gq bo ds gs f9 gy fq fr f3 j6 j7 j8 f4 j9;refine Ink.hd3 ?_ e8 ht hm;clear e8 ht hm;intro f5 iQ kf;gi_wp2;gi_loopw [22,163] (fun jB i' X=> ∃cc:Nat,cc<=(ql L).length/\i'=.int .i64 (cc:Int)/\RowIn n0 c Vw a kn ts t g2 Xj cc jB X) (fun _ i _=>(ql L).length-(intOf i).toNat)
     case atStart=>exact⟨0,xz,rfl,gy.o⟩
     case round=>
      obtain⟨cc,jb,rfl,dO⟩:=hrel;by_cases gZ:cc<(ql L).length
      ·have jS:(cc:Int)<(ql L).length:=by omega
       have kC:(0:Int)<=cc:=xz
       have eR:cc<ts.length:=by rw [←bF.o];exact gZ
       obtain⟨tt,bJ⟩: ∃tt,ts[cc]?=some tt:=⟨_,zB eR⟩;have jc:cc<t.length:=by rw [fq.o];exact eR
       have jT:(cc:Int)<t.length:=xz
       obtain⟨y0,bK⟩: ∃y0,t[cc]?=some y0:=⟨_,zB jc⟩;obtain⟨ub,jl,aS⟩:=gs.o cc y0 bK;subst jl;have ap:=zH bJ;obtain⟨g3,z,ac,l,hM,bx,ax,bj,cE,aG⟩:=dO;have a3:=bo.o g3 wr z _ hM;obtain⟨zb,zo,ee,jm,s1,s2⟩:=cO.o wr a3 cc tt bJ;subst ee;have jn:zb<wr.heap.size:=by have:=hM.step.keep.size;omega
       obtain⟨bh,cz,rfl⟩:=qi aG;cases hv:tt.var with
       |false=>
        have hs:=bW.o tt hv;have hy:qaf ac tt=some tt.text:=by unfold qaf;rw [zF (by rw [hv];simp)]
        rw [hs]at s1 s2;simp only at s1 s2;have aA: ∀X,MidAt n0 c Vw g2 Xj g3 X z (qbf kn l true)->Calls prog 120 #[.agg #[.int .i64 (-1),.string tt.text],qj c.Bv] X fun e w'=>e=.returned (.string tt.text)/\wD X w':=fun X hX=>by
         have:=qgt R.o ax (aL.o tt ap) hy (hX.wk.vals hX.step.inv);rw [hs]at this;exact this
        obtain⟨Nx,aV⟩:=ex (wr.heap.size);obtain⟨Wb,aF⟩:=ex (wr.alloc (.cells #[.int .i64 (-1),.string tt.text] 132));have kb:wD wr Wb:=by rw [←aF];exact kAl
        have aP:Wb.heap[Nx]?=some (.cells #[.int .i64 (-1),.string tt.text] 132 (0,0)):=by rw [←aF,←aV];exact qh _ _
        have aj:=(hM.own R.o kb).own R.o kDr;have am:=(Keep.drew (fun _=>True) _).heap aP trivial;have cB: ∀X,MidAt n0 c Vw g2 Xj g3 X z (qbf kn l true)->X.heap[Nx]?=some (.cells #[.int .i64 (-1),.string tt.text] 132 (0,0))->(X.cell? ⟨c.Bt,0,none⟩=some (.func (.func 120) #[] #[qj c.Bv])/\X.cell? ⟨Nx,0,none⟩=some (.int .i64 (-1))/\X.cell? ⟨Nx,1,none⟩=some (.string tt.text)/\X.cell? ⟨ub,cc,none⟩=some (.string y0)):=fun X hX hx=>by
         have x0:=qb hx 0 _ rfl;have x1:=qb hx 1 _ rfl;simp only [zD]at x0 x1;exact⟨(bo.o g3 X z _ hX).2.2.2.2.2.2.2.2.2.2.2.2.2.1,x0,x1,aS X (ds.o g3 X z _ hX)⟩
        have ca:=cB _ aj am;have lx:Nx<Wb.heap.size:=qe aP;clear a3;refine qde ?_ aA cB ca aj kb aP am aF aV hM bx ax bj cE aG hy;clear aA cB ca aj kb aP am aF aV hM bx ax bj cE aG hy;intro a1 dr bS bn ep gA cy bV bR fj ay aY aq bp aZ c4;refine hd6 ?_ hs bJ bK aS ap lx;clear hs bJ bK aS ap lx;intro gx bq br fp eO iR;gi_wp2;rw [bV.o,bR.o];refine qag ?_;refine qw rfl (fun X=>(X.cell? ⟨c.Bt,0,none⟩=some (.func (.func 120) #[] #[qj c.Bv])/\X.cell? ⟨Nx,0,none⟩=some (.int .i64 (-1))/\X.cell? ⟨Nx,1,none⟩=some (.string tt.text)/\X.cell? ⟨ub,cc,none⟩=some (.string y0))) [] ?_;refine qab [0,1,3,4,5,6] ?_
        iterate 6
         refine tkB rfl bS.o ?_
         try simp only [qac]
        refine qk ?_;refine hoR 2 rfl fun K ai=>?_;gi_wp2;refine⟨wE,rfl,(zU.2 (a1.o _ bn.o)).mono ?_⟩;rintro e W6 ⟨rfl,k6⟩;have cA:=bn.o.own R.o k6;have dK:wD wr W6:=(ep.o.trans kDr).trans k6;have dR:=dr.o W6 cA (k6.heap cy.o wE);clear k6;refine Ink.hd3 ?_ cA dR dK;clear cA dR dK;intro dp aX bQ;gi_wp2;refine ai.o _ _ (fun _=>aX.o) ?_;by_cases aO:tt.text=y0
        ·have ba:=qgh aO;have aT:RowIn n0 c Vw a kn ts t g2 Xj (cc+1) (.slice bh l.length cz) W6:=RowIn.same R.o fj.o ay.o aY.o aq.o bp.o aZ.o bq.o (by rw [br.o,aO]) c4.o bQ.o;clear aO;refine hd1 ?_ aT;clear aT;intro a0;refine qab [7] ?_
         iterate 1
          refine tkR (v:=?_) rfl aX.o ?_ ?_;rotate_left
          ·rintro Wq ⟨y1,y2,y3,y4⟩;go_simp
           try simp only [ba]
           try with_reducible rfl
          try simp only [qac]
         refine qk ?_;refine qx wA (qai ?_);clear ai;gi_wp2;go_roundw
         case rel=>exact⟨cc+1,xz,by go_num,a0.o⟩
         case measure=>simp [intOf];omega
        ·have ba:=qep aO;have a5:qb6 a ts t=none:=(qjx bq.o br.o ay.o).2.2 _ c4.o aO;have cp:rf t= []:=by rw [←b4.o];unfold qg0;rw [a5]
         have bl:=qf aZ.o bQ.o (fun _ _=>wE);have d6:l.length<=1073741824:=by have:=bp.o;have:=aR.o;omega
         clear aO a5;refine Ink.hd2 ?_ cp bl;clear cp bl;intro cx dw;refine qab [7] ?_
         iterate 1
          refine tkR (v:=?_) rfl aX.o ?_ ?_;rotate_left
          ·rintro Wq ⟨y1,y2,y3,y4⟩;go_simp
           try simp only [ba]
           try with_reducible rfl
          try simp only [qac]
         refine qk ?_;refine qx wA (qai ?_);clear ai;gi_wp2;gi_loopw [188] (fun i' X=> ∃q':Nat,q'<=l.length/\i'=.int .i64 (q':Int)/\ClearIn n0 c Vw z (qbf kn l true) l Xj.heap.size g2 Xj q' (.slice bh l.length cz) X) (fun i _=>l.length-(intOf i).toNat)
         case atStart=>exact⟨0,xz,rfl,g3,dp.o,dw.o⟩
         case round=>
          obtain⟨q',hN,rfl,hC⟩:=hrel;by_cases d4:q'<l.length
          ·have eX:(q':Int)<l.length:=by omega
           have eW:(0:Int)<=q':=xz
           obtain⟨p',aI⟩: ∃p',l[q']?=some p':=⟨_,zB d4⟩;have cm:p'<kn.length:=(zA.1 (aq.o p' (zH aI))).1;have eZ:(p':Int)<kn.length:=xz
           have eY:(0:Int)<=p':=xz
           have ar:=hC.next R.o bU.o aI dL;obtain⟨g4,aa,a8⟩:=hC;obtain⟨b8,cd⟩: ∃b8,bh=some ⟨b8,0,none⟩:=by
            rcases a8.2 with e |⟨gb',cap,cur,e1',_⟩
            ·have:=e.2;omega
            ·injection e1' with e1' _ _;exact⟨_,e1'⟩
           subst cd;have dX:=qau a8 q' _ (qoa aI);have eh:=zQ _ _ dX;have ce:=(bo.o g4 wr z _ aa).2.2.2.2.2.2.2.2.2.2.2.2.2.2.2.2.2.1;have cq:=zQ _ _ ce;have ag:=aa.step.inv.hold _ _ aa.wk.knr;have im:=qe ag;have eT:=qg ag p';obtain⟨bv,cf⟩: ∃bv,(qbf (qbf kn l true) (l.take q') false)[p']?=some bv:=⟨_,zB (by rw [qgf,qgf];exact cm)⟩;have ci:=qb ag p' (.bool bv) (by simp [zP,cf]);simp only [zD]at ci;clear ag cf;simp only at eh cq;clear aa a8 aI;refine hd1 ?_ ar;clear ar;intro aD;gi_wp2;go_roundw
           case rel=>exact⟨q'+1,xz,by go_num,aD.o⟩
           case measure=>simp [intOf];omega
          ·obtain rfl:q'=l.length:=by omega
           obtain⟨g4,aa,-⟩:=hC;rw [zi,qld aq.o]at aa;have bk:=eM.o g4 wr z aa (qn7 f5.o aY.o (qe7 ay.o).1) cx.o;clear aa;refine hd1 ?_ bk;clear bk;intro b0;gi_wp2;go_roundw
           case rel=>exact⟨j+1,xz,by go_num,b0.o⟩
           case measure=>simp [intOf];omega
       |true=>
        obtain⟨p,hs,hp,e0⟩:=dD.o tt ap hv;rw [hs]at s1 s2;simp only at s1 s2;have jj:(0:Int)<=p:=xz
        have hI: ¬((p:Int)<0):=xz
        have jk:(p:Int)<kn.length:=by rw [bO.o.asg.lk];omega
        have fw:=a3.2.2.2.2.2.2.2.2.2.2.2.2.2.2.2.2.2.1;have fI:=zQ _ _ fw;simp only at fI;have bi:(qbf kn l true)[p]?=some (qaf ac tt).isSome:=by
         have:=qv3 ax (aL.o tt ap) hv;unfold qat at hs;rw [zI hv]at hs;injection hs with h1 _
         have h2:c.vars.idxOf tt.text=p:=xz
         rw [h2]at this;exact this
        have cC:=hM.step.inv.hold _ _ hM.wk.knr;have af:wr.cell? ⟨c.K,p,none⟩=some (.bool (qaf ac tt).isSome):=by
         have:=qb cC p (.bool (qaf ac tt).isSome) (by simp [zP,bi])
         simpa using this
        have lK:=qe cC;clear cC;cases hy:qaf ac tt with
        |some y=>
         rw [hy]at af;simp only [Option.isSome_some]at af;clear bi;have aA: ∀X,MidAt n0 c Vw g2 Xj g3 X z (qbf kn l true)->Calls prog 120 #[.agg #[.int .i64 (p:Int),.string ⟨#[]⟩],qj c.Bv] X fun e w'=>e=.returned (.string y)/\wD X w':=fun X hX=>by
          have:=qgt R.o ax (aL.o tt ap) hy (hX.wk.vals hX.step.inv);rw [hs]at this;exact this
         obtain⟨Nx,aV⟩:=ex (wr.heap.size);obtain⟨Wb,aF⟩:=ex (wr.alloc (.cells #[.int .i64 (p:Int),.string ⟨#[]⟩] 132));have kb:wD wr Wb:=by rw [←aF];exact kAl
         have aP:Wb.heap[Nx]?=some (.cells #[.int .i64 (p:Int),.string ⟨#[]⟩] 132 (0,0)):=by rw [←aF,←aV];exact qh _ _
         have aj:=(hM.own R.o kb).own R.o kDr;have am:=(Keep.drew (fun _=>True) _).heap aP trivial;have cB: ∀X,MidAt n0 c Vw g2 Xj g3 X z (qbf kn l true)->X.heap[Nx]?=some (.cells #[.int .i64 (p:Int),.string ⟨#[]⟩] 132 (0,0))->(X.cell? ⟨c.Bt,0,none⟩=some (.func (.func 120) #[] #[qj c.Bv])/\X.cell? ⟨Nx,0,none⟩=some (.int .i64 (p:Int))/\X.cell? ⟨Nx,1,none⟩=some (.string ⟨#[]⟩)/\X.cell? ⟨ub,cc,none⟩=some (.string y0)):=fun X hX hx=>by
          have x0:=qb hx 0 _ rfl;have x1:=qb hx 1 _ rfl;simp only [zD]at x0 x1;exact⟨(bo.o g3 X z _ hX).2.2.2.2.2.2.2.2.2.2.2.2.2.1,x0,x1,aS X (ds.o g3 X z _ hX)⟩
         have ca:=cB _ aj am;have lx:Nx<Wb.heap.size:=qe aP;clear a3;refine qde ?_ aA cB ca aj kb aP am aF aV hM bx ax bj cE aG hy;clear aA cB ca aj kb aP am aF aV hM bx ax bj cE aG hy;intro a1 dr bS bn ep gA cy bV bR fj ay aY aq bp aZ c4;refine hd6 ?_ hs bJ bK aS ap lx;clear hs bJ bK aS ap lx;intro gx bq br fp eO iR;gi_wp2;rw [bV.o,bR.o];refine qag ?_;refine qw rfl (fun X=>(X.cell? ⟨c.Bt,0,none⟩=some (.func (.func 120) #[] #[qj c.Bv])/\X.cell? ⟨Nx,0,none⟩=some (.int .i64 (p:Int))/\X.cell? ⟨Nx,1,none⟩=some (.string ⟨#[]⟩)/\X.cell? ⟨ub,cc,none⟩=some (.string y0))) [] ?_;refine qab [0,1,3,4,5,6] ?_
         iterate 6
          refine tkB rfl bS.o ?_
          try simp only [qac]
         refine qk ?_;refine hoR 2 rfl fun K ai=>?_;gi_wp2;refine⟨wE,rfl,(zU.2 (a1.o _ bn.o)).mono ?_⟩;rintro e W6 ⟨rfl,k6⟩;have cA:=bn.o.own R.o k6;have dK:wD wr W6:=(ep.o.trans kDr).trans k6;have dR:=dr.o W6 cA (k6.heap cy.o wE);clear k6;refine Ink.hd3 ?_ cA dR dK;clear cA dR dK;intro dp aX bQ;gi_wp2;refine ai.o _ _ (fun _=>aX.o) ?_;by_cases aO:y=y0
         ·have ba:=qgh aO;have aT:RowIn n0 c Vw a kn ts t g2 Xj (cc+1) (.slice bh l.length cz) W6:=RowIn.same R.o fj.o ay.o aY.o aq.o bp.o aZ.o bq.o (by rw [br.o,aO]) c4.o bQ.o;clear aO;refine hd1 ?_ aT;clear aT;intro a0;refine qab [7] ?_
          iterate 1
           refine tkR (v:=?_) rfl aX.o ?_ ?_;rotate_left
           ·rintro Wq ⟨y1,y2,y3,y4⟩;go_simp
            try simp only [ba]
            try with_reducible rfl
           try simp only [qac]
          refine qk ?_;refine qx wA (qai ?_);clear ai;gi_wp2;go_roundw
          case rel=>exact⟨cc+1,xz,by go_num,a0.o⟩
          case measure=>simp [intOf];omega
         ·have ba:=qep aO;have a5:qb6 a ts t=none:=(qjx bq.o br.o ay.o).2.2 _ c4.o aO;have cp:rf t= []:=by rw [←b4.o];unfold qg0;rw [a5]
          have bl:=qf aZ.o bQ.o (fun _ _=>wE);have d6:l.length<=1073741824:=by have:=bp.o;have:=aR.o;omega
          clear aO a5;refine Ink.hd2 ?_ cp bl;clear cp bl;intro cx dw;refine qab [7] ?_
          iterate 1
           refine tkR (v:=?_) rfl aX.o ?_ ?_;rotate_left
           ·rintro Wq ⟨y1,y2,y3,y4⟩;go_simp
            try simp only [ba]
            try with_reducible rfl
           try simp only [qac]
          refine qk ?_;refine qx wA (qai ?_);clear ai;gi_wp2;gi_loopw [188] (fun i' X=> ∃q':Nat,q'<=l.length/\i'=.int .i64 (q':Int)/\ClearIn n0 c Vw z (qbf kn l true) l Xj.heap.size g2 Xj q' (.slice bh l.length cz) X) (fun i _=>l.length-(intOf i).toNat)
          case atStart=>exact⟨0,xz,rfl,g3,dp.o,dw.o⟩
          case round=>
           obtain⟨q',hN,rfl,hC⟩:=hrel;by_cases d4:q'<l.length
           ·have eX:(q':Int)<l.length:=by omega
            have eW:(0:Int)<=q':=xz
            obtain⟨p',aI⟩: ∃p',l[q']?=some p':=⟨_,zB d4⟩;have cm:p'<kn.length:=(zA.1 (aq.o p' (zH aI))).1;have eZ:(p':Int)<kn.length:=xz
            have eY:(0:Int)<=p':=xz
            have ar:=hC.next R.o bU.o aI dL;obtain⟨g4,aa,a8⟩:=hC;obtain⟨b8,cd⟩: ∃b8,bh=some ⟨b8,0,none⟩:=by
             rcases a8.2 with e |⟨gb',cap,cur,e1',_⟩
             ·have:=e.2;omega
             ·injection e1' with e1' _ _;exact⟨_,e1'⟩
            subst cd;have dX:=qau a8 q' _ (qoa aI);have eh:=zQ _ _ dX;have ce:=(bo.o g4 wr z _ aa).2.2.2.2.2.2.2.2.2.2.2.2.2.2.2.2.2.1;have cq:=zQ _ _ ce;have ag:=aa.step.inv.hold _ _ aa.wk.knr;have im:=qe ag;have eT:=qg ag p';obtain⟨bv,cf⟩: ∃bv,(qbf (qbf kn l true) (l.take q') false)[p']?=some bv:=⟨_,zB (by rw [qgf,qgf];exact cm)⟩;have ci:=qb ag p' (.bool bv) (by simp [zP,cf]);simp only [zD]at ci;clear ag cf;simp only at eh cq;clear aa a8 aI;refine hd1 ?_ ar;clear ar;intro aD;gi_wp2;go_roundw
            case rel=>exact⟨q'+1,xz,by go_num,aD.o⟩
            case measure=>simp [intOf];omega
           ·obtain rfl:q'=l.length:=by omega
            obtain⟨g4,aa,-⟩:=hC;rw [zi,qld aq.o]at aa;have bk:=eM.o g4 wr z aa (qn7 f5.o aY.o (qe7 ay.o).1) cx.o;clear aa;refine hd1 ?_ bk;clear bk;intro b0;gi_wp2;go_roundw
            case rel=>exact⟨j+1,xz,by go_num,b0.o⟩
            case measure=>simp [intOf];omega
        |none=>
         rw [hy]at bi af;simp only [Option.isSome_none]at bi af;have kK:(p:Int)<vals.length:=by rw [bO.o.asg.lv];omega
         obtain⟨Nx,aV⟩:=ex (wr.heap.size);obtain⟨Wb,aF⟩:=ex (wr.alloc (.cells #[.int .i64 (p:Int),.string ⟨#[]⟩] 132));have kb:wD wr Wb:=by rw [←aF];exact kAl
         have aP:Wb.heap[Nx]?=some (.cells #[.int .i64 (p:Int),.string ⟨#[]⟩] 132 (0,0)):=by rw [←aF,←aV];exact qh _ _
         have aj:=(hM.own R.o kb).own R.o kDr;have am:=(Keep.drew (fun _=>True) _).heap aP trivial;obtain⟨Wd,et⟩:=ex (Wb.drew);have kd:wD Wb Wd:=by rw [←et];exact kDr
         rw [et]at aj am;have dP: ∀g4 X aB cJ,MidAt n0 c Vw g2 Xj g4 X aB cJ->X.heap[Nx]?=some (.cells #[.int .i64 (p:Int),.string ⟨#[]⟩] 132 (0,0))->(X.cell? ⟨c.Bk,0,none⟩=some (.slice (some ⟨c.K,0,none⟩) kn.length kn.length)/\X.cell? ⟨Nx,0,none⟩=some (.int .i64 (p:Int))/\X.cell? ⟨c.Bv,0,none⟩=some (.slice (some ⟨c.V,0,none⟩) vals.length vals.length)/\X.cell? ⟨ub,cc,none⟩=some (.string y0)):=fun g4 X aB cJ hX hx=>by
          have x0:=qb hx 0 _ rfl;simp only [zD]at x0;have hG:=bo.o g4 X aB cJ hX;exact⟨hG.2.2.2.2.2.2.2.2.2.2.2.2.2.2.2.2.2.1,x0,hG.2.2.2.2.2.2.2.2.2.2.2.2.2.2.2.2.1,aS X (ds.o g4 X aB cJ hX)⟩
         have ca:=dP _ _ _ _ aj am;obtain⟨gK,dN⟩:=aj.setK R.o bU.o p true;obtain⟨gV,gJ⟩:=dN.setV R.o eL.o p y0;have d1:=aj.step.inv.hold _ _ aj.wk.knr;have d3:=dN.step.inv.hold _ _ dN.wk.row;have kq:=qg d1 p;have kr:=qg d3 p;have i1:=qb d1 p (.bool false) (by simp [zP,bi]);obtain⟨ov,hF⟩: ∃ov,z[p]?=some ov:=⟨_,zB (by rw [ax.lv];exact e0)⟩;have i2:=qb d3 p (.string ov) (by simp [zP,hF]);simp only [zD]at i1 i2;clear d1 d3 hF;have ky:Xj.heap.size<=Nx:=by rw [←aV];exact hM.step.keep.size
         have el:=(Keep.setCell (C:=fun b=>b≠c.K) Wd ⟨c.K,p,none⟩ (.bool true) wB).heap am xz;have cr:=(Keep.setCell (C:=fun b=>b≠c.V) (Wd.setCell ⟨c.K,p,none⟩ (.bool true)) ⟨c.V,p,none⟩ (.string y0) wB).heap el xz;have gQ:=dP _ _ _ _ dN el;have gR:=dP _ _ _ _ gJ cr;have lx:Nx<Wb.heap.size:=qe aP;have kT:c.V<Wd.heap.size:=qe (aj.step.inv.hold _ _ aj.wk.row);have kS:c.K<Wd.heap.size:=qe (aj.step.inv.hold _ _ aj.wk.knr);have bl:=qf (qf ((qf (qf aG kb (fun _ _=>wE)) kd (fun _ _=>wE))) (Keep.setCell (C:=fun b=>b≠c.K) Wd ⟨c.K,p,none⟩ (.bool true) wB) (fun b hb=>by have:=(zE aG b hb).1;omega)) (Keep.setCell (C:=fun b=>b≠c.V) (Wd.setCell ⟨c.K,p,none⟩ (.bool true)) ⟨c.V,p,none⟩ (.string y0) wB) (fun b hb=>by have:=(zE aG b hb).1;omega);obtain⟨W6,dU⟩:=ex ((Wd.setCell ⟨c.K,p,none⟩ (.bool true)).setCell ⟨c.V,p,none⟩ (.string y0));rw [dU]at bl cr;have ju:=qb cr 0 _ rfl;have ln:=qe cr;simp only [zD]at ju;have d6:l.length<=1073741824:=by have:=aR.o;omega
         obtain⟨v',W7,co,cl,k7,g7,bt,ec,ch,db⟩:=qdd (P:=prog) qkl 125 bl [.int .i64 (p:Int)] rfl (by simp [Value.oneCell']) xz (by have:=hM.step.keep.size;have:=kb.size;have:=kd.size;rw [←dU];simp;omega);subst ec;have aT:RowIn n0 c Vw a kn ts t g2 Xj (cc+1) (.slice (some ⟨g7,0,none⟩) (l.length+1) bt) W7:=by
          refine RowIn.bind R.o bU.o eL.o (tt:=tt) (y:=y0) (p:=p) aj bx ax bj cE f3.o gU dL f9.o bJ bK hy hp bi (fr.o y0 iQ.o (zH bK)) ?_ cl;rw [dU];exact k7.mono fun b _ (hb:b<Xj.heap.size) e=>by have:=(zE bl b e.symm).1;omega
         clear a3 bi aS aP am el cr dN gJ hM bx ax aG cl bl k7 ch;refine qde ?_ dP ca gQ gR aj kb kd et aF aV bj cE hy hs bJ bK;clear dP ca gQ gR aj kb kd et aF aV bj cE hy hs bJ bK;intro jI bS eK f8 bn ep ki gd bV bR aq bp c4 gx bq br;refine hd5 ?_ ap dU co aT hp;clear ap dU co aT hp;intro eO gc b2 a0 kg;gi_wp2;rw [bV.o,bR.o];refine qag ?_;refine qw rfl (fun X=>(X.cell? ⟨c.Bk,0,none⟩=some (.slice (some ⟨c.K,0,none⟩) kn.length kn.length)/\X.cell? ⟨Nx,0,none⟩=some (.int .i64 (p:Int))/\X.cell? ⟨c.Bv,0,none⟩=some (.slice (some ⟨c.V,0,none⟩) vals.length vals.length)/\X.cell? ⟨ub,cc,none⟩=some (.string y0))) [] ?_;rw [gd.o];refine qab [0,1,2,3,4,5,6,7,8,9,10] ?_
         iterate 11
          refine tkB rfl bS.o ?_
          try simp only [qac]
         refine qk ?_;refine hoR 11 rfl fun K ai=>?_;gi_wp2;refine ai.o _ _ (fun _=>eK.o) ?_;refine qab [12] ?_
         iterate 1
          refine tkB rfl eK.o ?_
          try simp only [qac]
         refine qk ?_;refine hoR 13 rfl fun K bP=>?_;gi_wp2;refine bP.o _ _ (fun _=>f8.o) ?_;refine qx wA (qai ?_);clear ai bP;rw [gc.o]
         gi_wp2_with (gi_at_builtin;refine qby (v:=.slice bh l.length cz) (u:=.slice (some ⟨W6.heap.size,0,none⟩) 1 1) (v':=.slice (some ⟨g7,0,none⟩) (l.length+1) bt) (w':=W7) rfl (.tmp 208) (.tmp 211) 125 rfl rfl rfl b2.o ?_)
         go_roundw
         case rel=>exact⟨cc+1,xz,by go_num,a0.o⟩
         case measure=>simp [intOf];omega
      ·obtain rfl:cc=(ql L).length:=by omega
       rw [bF.o]at dO;have jo:Xj.heap.size<=wr.heap.size:=by
        obtain⟨_,_,_,_,hM,_⟩:=dO;exact hM.step.keep.size
       obtain⟨gh,bb,ac,l,c9,o1,o2,bj,o4,o5,o6,o7,o8⟩:=gq.o _ _ dO;obtain⟨bh,cz,rfl⟩:=qi o5;have d6:l.length<=1073741824:=by have:=aR.o;omega
       have hc:=ih (k0+m) gh wr ac bb _ c9;rw [eo.o]at hc;have i9:=qb (c9.inv.hold _ _ c9.held.p.1) 0 _ rfl;have kU:=qe (c9.inv.hold _ _ c9.held.p.1);simp only [zD]at i9;clear dO gZ jb c9;refine hd8 ?_ hc o1 o2 o5 o6 o7 o8 bj;clear hc o1 o2 o5 o6 o7 o8 bj;intro iO gB iS gC iT iU iV aq;gi_wp2;refine⟨wE,rfl,(zU.2 iO.o).mono ?_⟩;rintro e W8 ⟨aU,rfl,cU⟩;obtain⟨g5,ah,p1,p2,p3,p4,p5,p6,p7,p8,p9⟩:=cU;have hw:=qn9 gC.o (w':=W8) (fun b hb=>by
        have h:=iT.o b hb;obtain⟨o,ho⟩: ∃o,wr.heap[b]?=some o:=⟨_,xQ (zE gC.o b hb).2⟩;rw [ho];exact p1.hold b o (p6 b o (h.1.trans ho) h.2))
       have eQ: ∀g4 X aB cJ,MidAt n0 c Vw g5 W8 g4 X aB cJ->qfw c vals kn i q L k sb sc ab oa cb tb ot ct cL dg nU (some ⟨S,0,none⟩) 1 X:=fun g4 X aB cJ hX=>dy.o X ((SameW.of (c:=c) (U:=U) (g:=gm) (W0:=W0) hX.step.inv (fun b o hb hn=>(hX.held b hn).trans (p6 b o ((gB.o b (qe (f3.o.hold b o (f4.o b o hb hn))) hn).trans (f4.o b o hb hn)) hn)) (R.o.hV X hX.v).1).sub du.o);have eS: ∀Z g6,MidAt n0 c Vw g5 W8 g6 Z ah kn->StepEnd c U Vw all Jp Jx k0 ((rows.take (j+1)).flatMap rf).length gm Wm a kn aU Z:=fun Z g6 hM=>fn.o aU gh ac _ wr Z g6 ah _ gB.o iS.o jo iU.o iV.o g5 W8 ah p1 p2 p3 p4 p6 p7 p8 p9 hM;have gI:MidAt n0 c Vw g5 W8 g5 W8 ah (qbf kn l true):=MidAt.refl p1 p5 p2;clear p1 p2 p3 p5 p6 p7 p8 p9;refine Ink.hd4 ?_ hw eQ eS gI;clear hw eQ eS gI;intro gp fk fm f6;gi_wp2;gi_loopw [220] (fun i' X=> ∃q':Nat,q'<=l.length/\i'=.int .i64 (q':Int)/\ClearIn n0 c Vw ah (qbf kn l true) l Xj.heap.size g5 W8 q' (.slice bh l.length cz) X) (fun i _=>l.length-(intOf i).toNat)
       case atStart=>exact⟨0,xz,rfl,g5,f6.o,gp.o⟩
       case round=>
        obtain⟨q',hN,rfl,hC⟩:=hrel;by_cases d4:q'<l.length
        ·have eX:(q':Int)<l.length:=by omega
         have eW:(0:Int)<=q':=xz
         obtain⟨p',aI⟩: ∃p',l[q']?=some p':=⟨_,zB d4⟩;have cm:p'<kn.length:=(zA.1 (aq.o p' (zH aI))).1;have eZ:(p':Int)<kn.length:=xz
         have eY:(0:Int)<=p':=xz
         have ar:=hC.next R.o bU.o aI dL;obtain⟨g4,aa,a8⟩:=hC;obtain⟨b8,cd⟩: ∃b8,bh=some ⟨b8,0,none⟩:=by
          rcases a8.2 with e |⟨gb',cap,cur,e1',_⟩
          ·have:=e.2;omega
          ·injection e1' with e1' _ _;exact⟨_,e1'⟩
         subst cd;have dX:=qau a8 q' _ (qoa aI);have eh:=zQ _ _ dX;have ce:=(fk.o g4 wr ah _ aa).2.2.2.2.2.2.2.2.2.2.2.2.2.2.2.2.2.1;have cq:=zQ _ _ ce;have ag:=aa.step.inv.hold _ _ aa.wk.knr;have im:=qe ag;have eT:=qg ag p';obtain⟨bv,cf⟩: ∃bv,(qbf (qbf kn l true) (l.take q') false)[p']?=some bv:=⟨_,zB (by rw [qgf,qgf];exact cm)⟩;have ci:=qb ag p' (.bool bv) (by simp [zP,cf]);simp only [zD]at ci;clear ag cf;simp only at eh cq;clear aa a8 aI;refine hd1 ?_ ar;clear ar;intro aD;gi_wp2;go_roundw
         case rel=>exact⟨q'+1,xz,by go_num,aD.o⟩
         case measure=>simp [intOf];omega
        ·obtain rfl:q'=l.length:=by omega
         obtain⟨g4,aa,-⟩:=hC;rw [zi,qld aq.o]at aa;have bk:=fm.o wr g4 aa;clear aa;cases aU with
         |true=>
          refine hd1 ?_ bk;clear bk;intro b0;gi_wp2;go_roundw
          case rel=>exact⟨j+1,xz,by go_num,b0.o⟩
          case measure=>simp [intOf];omega
         |false=>
          have g1:=dt.o _ wr bk;clear bk;refine hd1 ?_ g1;clear g1;intro gf;gi_wp2;rw [Exit.noGoto_ret];go_ret;exact⟨_,rfl,gf.o⟩
    ·obtain rfl:j=rows.length:=by omega
     rw [zi]at dQ;have cU:=en.o true Xj dQ;clear dQ d5 hj;refine hd1 ?_ cU;clear cU;intro fl;gi_wp2;rw [Exit.noGoto_ret];go_ret;exact⟨_,rfl,fl.o⟩
end Go.Proofs
