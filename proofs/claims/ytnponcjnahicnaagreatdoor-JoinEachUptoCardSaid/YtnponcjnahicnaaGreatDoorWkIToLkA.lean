/- Parts of the proof. -/
import Derived.Test.YtnponcjnahicnaaGreatDoorWkGToWkL
set_option linter.unusedSimpArgs false
set_option linter.unusedVariables false
set_option maxRecDepth 100000
set_option maxHeartbeats 4000000
open Go.Proofs.Tryz(prog)
open List(all_append getElem_append_left getElem_append_right getElem_toArray length_cons length_nil set_append)
namespace Go.Proofs
open Go.RowKit Go.Ink R4
attribute [local go_sem] Oper.semAt_some
theorem qwl {n0 n1:Nat}{W0:World}{c:WkC}{LJ:qa7}{U:Nat->Prop}{nU:Nat}{Vw:World->Prop}{all:List Asg}{Jp Jx:Nat->Gh->World->Prop}(hE:qd4 n0 n1 W0 c LJ U nU Vw all Jp Jx){i:Nat}(hi:i<c.steps.length)(fx: ∀q,c.steps[i]?=some q->(c.r.body.getD q default).kind=1)(ih:qg8 n1 c LJ U Vw all Jp Jx (i+1)):qg8 n1 c LJ U Vw all Jp Jx i:=by
 intro k0 g W a vals kn hA;obtain⟨q,hq⟩: ∃q,c.steps[i]?=some q:=⟨_,zB hi⟩;have hB:=hA.held;have hg:=hA.inv;have kC:=(hE.hV W hA.v).2;obtain⟨L,k,sb,sc,ab,oa,cb,tb,ot,ct,cJ,de,hL,hk,dJ,kw,jc,cl⟩:=qoa hE hB hq;obtain⟨sp,eu⟩:=ex ((k.store.map fun S=>(⟨S,0,none⟩:Addr)));rw [eu]at cl;have kB:q<c.r.body.length:=(zA.1 hL).1;have fr:c.r.body.getD q default=L:=by rw [zJ,hL];rfl
 have fw:=fx q hq;rw [fr]at fw;obtain⟨kd,bw⟩:=ex (L.kind);rw [bw]at fw cl;subst fw;have hQ:SameW c U g W0 W:=SameW.of hg (fun _ _ h _=>h) (hE.hV W hA.v).1;have fA: ∀X,wE W X->SameW c U g W0 X:=fun X hX=>hQ.keep hX (fun _ _ _ _=>wF) (fun _ _=>wF) (fun b hb=>by have:=hE.hU b hb;omega);have cB: ∀X,wE W X->qgt c vals kn i q L k sb sc ab oa cb tb ot ct cJ de nU sp 1 X:=fun X hX=>cl X (fA X hX);have dV:c.steps.drop i=q::c.steps.drop (i+1):=by rw [zt hi,(zA.1 hq).2]
 have gG:=cB W (Keep.refl _ _);have b1:=gG.1;have ii:=zQ _ _ b1;simp only at ii;have kD: ¬((i:Int)=(c.steps.length:Int)):=wA
 have ky:(0:Int)<=i:=wA
 have kz:(i:Int)<c.steps.length:=wA
 have kA:i<1073741824:=by have:=hE.sfew;omega
 have kF:(0:Int)<=q:=wA
 have kG:(q:Int)<c.looks.length:=by rw [hE.looks];omega
 have kH:(q:Int)<c.r.body.length:=wA
 have dT:((i+1:Nat):Int)=(i:Int)+1:=wA
 clear hQ gG;have gD:qm L=L.atom.args:=by unfold qm;rw [zF (by rw [bw];omega)]
 obtain⟨ts,ew⟩:=ex (L.atom.args);have a2:qm L=ts:=by rw [gD,ew]
 obtain⟨qp,qa,qn,-⟩:=hA.look q L k hL hk;obtain⟨S,f,q1,q2,q3,q4,q5⟩:=qn bw;have hY:sp=some ⟨S,0,none⟩:=by rw [←eu,q1];rfl
 subst hY;have cX: ∀t,t∈ts->qeq c.vars t:=fun t ht=>hE.vin L t dJ (by rw [a2];exact ht);have cW: ∀t,t∈ts->t.text.size<=1073741824:=fun t ht=>hE.small L t dJ (by rw [a2];exact ht);have hr:=hE.preds L dJ;have ia:ts.length<=1073741824:=by rw [←a2];exact jc
 have h0:k.arity=ts.length:=by rw [qa,ew]
 have he:vals.length<=1073741824:=by rw [hA.asg.lv];exact hE.few
 have g9:kn.length<=1073741824:=by rw [hA.asg.lk];exact hE.few
 have d6: ∀X,qgt c vals kn i q L k sb sc ab oa cb tb ot ct cJ de nU (some ⟨S,0,none⟩) 1 X-> ∀(j:Nat) (t:TermD),ts[j]?=some t-> ∃zb zo,cJ=some ⟨zb,zo,none⟩/\zb<nU/\X.cell? ⟨zb,zo+j*2,none⟩=some (.int .i64 (qa3 c.vars t).place)/\X.cell? ⟨zb,zo+j*2+1,none⟩=some (.string (qa3 c.vars t).text):=fun X hX j t hj=>by
  obtain⟨x1,x2,x3,x4,x5,x6,x7,x8,x9,kU,kV,kW,kX,kY,kZ,iq,ir,k2,kS,kT,fB,-,-,i8⟩:=hX;injection fB with fB _ _
  obtain⟨b3,o3,i3,gT,r1,r2⟩:=i8 j (qa3 c.vars t) (by unfold qc5;rw [a2,zP,hj];rfl);exact⟨b3,o3,by rw [fB];exact i3,gT,r1,r2⟩
 have cR: ∀t:TermD,t.var=false->qa3 c.vars t=⟨-1,t.text⟩:=fun t h=>by unfold qa3;rw [zF (by rw [h];simp)]
 have e0: ∀t:TermD,t∈ts->t.var=true-> ∃p,qa3 c.vars t=⟨(p:Nat),⟨#[]⟩⟩/\c.vars[p]?=some t.text/\p<c.vars.length:=fun t ht h=>⟨c.vars.idxOf t.text,by unfold qa3;rw [zI h],qwf (cX t ht h),y9 (cX t ht h)⟩;have ea:=hB.vals hg;have g8:=hg.hold _ _ hB.knr;have eS:(qm L).length=ts.length:=by rw [a2]
 have gO: ¬U c.K:=fun h=>by have:=(hA.u _ h).2;rw [hB.knr] at this;cases this
 have gP: ¬U c.V:=fun h=>by have:=(hA.u _ h).2;rw [hB.row] at this;cases this
 clear gD;unfold WkC.bound;refine qby ?_ eu hA hB hg hE cl fA cB dT hL hk dJ fr hq dV a2;clear eu hA hB hg hE cl fA cB dT hL hk dJ fr hq dV a2;intro jI bM iI ga R dw jH ak el j5 j6 jC dl j9 bx iJ;refine qby ?_ ew qp qa qn q1 q2 q3 q4 q5 cX cW hr ia h0 he g9;clear ew qp qa qn q1 q2 q3 q4 q5 cX cW hr ia h0 he g9;intro dA iV kf kg ke iS iT iU gz aL dz gl aR cN jF jE;refine hd8 ?_ d6 cR e0 ea g8 eS gO gP;clear d6 cR e0 ea g8 eS gO gP;intro cM bU dB cO eK bz bR eI;refine qbr Tryz.func122 rfl ?_;simp only [Tryz.ntmps122,qdy,Nat.reduceAdd,Nat.reduceSub];gi_wp2;refine xc.2 ?_;refine wp_scope_straight ?_;refine(xc (n:=0)).1 ?_;gi_wp2;have gH:=ak.o W.drew kDr;clear b1 ii;refine hd1 ?_ gH;clear gH;intro eF;refine qag ?_;refine qw rfl (fun X=>qgt c vals kn i q L k sb sc ab oa cb tb ot ct cJ de nU (some ⟨S,0,none⟩) 1 X) [] ?_;refine qq [0,1,2,3,4,5,6,7,8,9,10,11,12,13,14,15,16] ?_
 iterate 17
  refine tkB rfl eF.o ?_
  try simp only [qr]
 refine ql ?_;refine hoR 17 rfl fun K ai=>?_;gi_wp2;refine ai.o _ _ (fun _=>ak.o _ (kDr.trans kAl)) ?_;refine hoR 18 rfl fun K bN=>?_;gi_wp2;obtain⟨Nb,eo⟩:=ex (W.heap.size);obtain⟨W1,dQ⟩:=ex ((W.alloc (.cells #[.pointer (some ⟨S,0,none⟩),.string k.pred,.int .i64 (k.arity:Int),.int .i64 (k.upto:Int)] 192)).drew);have k1:wE W W1:=by rw [←dQ];exact kAl.trans kDr
 have ip:W1.heap[Nb]?=some (.cells #[.pointer (some ⟨S,0,none⟩),.string k.pred,.int .i64 (k.arity:Int),.int .i64 (k.upto:Int)] 192 (0,0)):=by rw [←dQ,←eo];exact qh _ _
 have gI:=ak.o W1 k1;have gJ:=ak.o W1.drew (k1.trans kDr);rw [dQ,eo];refine hd6 ?_ k1 ip gI gJ dQ eo;clear k1 ip gI gJ dQ eo;intro gv eM dn eG f6 f3;refine bN.o _ _ (fun _=>dn.o) ?_;refine qq [19] ?_
 iterate 1
  refine tkB rfl dn.o ?_
  try simp only [qr]
 refine ql ?_;refine qz wB (qah ?_);clear ai bN;gi_wp2;refine qag ?_;refine qw rfl (fun X=>qgt c vals kn i q L k sb sc ab oa cb tb ot ct cJ de nU (some ⟨S,0,none⟩) 1 X) [] ?_;refine qq [0,1,2,3,4,5,6,7,8,9,10,11] ?_
 iterate 12
  refine tkB rfl eG.o ?_
  try simp only [qr]
 refine ql ?_;refine qz wB (qah ?_);have fE:wE W W1.drew:=gv.o.trans kDr;have ef:W1.drew.heap[Nb]?=some (.cells #[.pointer (some ⟨S,0,none⟩),.string k.pred,.int .i64 (k.arity:Int),.int .i64 (k.upto:Int)] 192 (0,0)):=eM.o;obtain⟨W2,gR⟩:=ex (W1.drew);rw [gR]at fE ef⊢;clear gv eM dn eG eF f6 gR f3;refine hd2 ?_ fE ef;clear fE ef;intro b2 dD;gi_wp2;have z2:W.heap.size<=W2.heap.size:=b2.o.size;gi_loopw [16,17,121] (fun iq ir i' wr=> ∃j:Nat,j<=(qm L).length/\i'=.int .i64 (j:Int)/\Keep (fun b=>b<W2.heap.size) W2 wr/\wr.ownsRow W2.heap.size 3 1 iq (qav a (ts.take j) 0).length (((qav a (ts.take j) 0).map fun p=>(p.1:Int)).map (.int .i64))/\wr.ownsRow W2.heap.size 9 1 ir (qav a (ts.take j) 0).length (((qav a (ts.take j) 0).map (·.2)).map .string)) (fun _ _ i _=>(qm L).length-(intOf i).toNat)
 case atStart=>exact⟨0,wA,rfl,Keep.refl _ _,zj _ _ _ _,zj _ _ _ _⟩
 case round=>
  obtain⟨j,hj,rfl,hK,al,az⟩:=hrel;have kJ:=hK.size;by_cases d1:j<(qm L).length
  ·have ha:(j:Int)<(qm L).length:=by omega
   have ja:(0:Int)<=j:=wA
   obtain⟨t,ht⟩: ∃t,ts[j]?=some t:=⟨_,zB (by rw [←bz.o];exact d1)⟩;have ap:=zH ht;have bG:wE W wr:=b2.o.trans (hK.mono fun b hb _=>hb);have a3:=ak.o wr bG;obtain⟨zb,zo,eb,jh,s1,s2⟩:=cM.o wr a3 j t ht;subst eb;have ji:zb<wr.heap.size:=by have:=bG.size;omega
   have aW:=qzy a ts ht;cases hv:t.var with
   |false=>
    have hs:=bU.o t hv;have hy:qab a t=some t.text:=by unfold qab;rw [zF (by rw [hv];simp)]
    rw [hs]at s1 s2;simp only at s1 s2;rw [hy]at aW;simp only at aW;obtain⟨a6,c6,rfl⟩:=qi al;obtain⟨a7,c7,rfl⟩:=qi az;obtain⟨Wa,a4⟩:=ex (wr.alloc (.cells #[.int .i64 (-1),.string t.text] 132));have ka:wE wr Wa:=by rw [←a4];exact kAl
    have za:Wa.heap.size=wr.heap.size+1:=by rw [←a4];simp
    have na:Wa.heap[wr.heap.size]?=some (.cells #[.int .i64 (-1),.string t.text] 132 (0,0)):=by rw [←a4];exact qh _ _
    have et:(qav a (ts.take j) 0).length<=1073741824:=by
     have h1:=qnj a (ts.take j) 0;have h2:(ts.take j).length<=ts.length:=by rw [yC];omega
     have h3:=aR.o;omega
    obtain⟨v',W5,cD,d4,k5,g5,dF,fC,ce,dW⟩:=qc3 (P:=prog) qlr 125 (qf al ka (fun _ _=>wF)) [.int .i64 (j:Int)] rfl (by simp [Value.oneCell']) wA wA;subst fC;rw [za,←a4]at cD;have ch:=qf (qf az ka (fun _ _=>wF)) k5 (fun b hb e=>qc4 (qf az ka (fun _ _=>wF)) (qf al ka (fun _ _=>wF)) wD hb e.symm);have cG:Keep (fun b=>b<W2.heap.size) wr W5:=ka.mt.trans (k5.mono fun b _ (hb:b<W2.heap.size) e=>by have:=(zE al b e.symm).1;omega);have bK:W5.heap[wr.heap.size]?=some (.cells #[.int .i64 (-1),.string t.text] 132 (0,0)):=k5.heap na (fun e=>by have:=(zE al _ e.symm).2;omega);have m0:=qb bK 0 _ rfl;have m1:=qb bK 1 _ rfl;have lm:=qe bK;have aE:wE W W5:=b2.o.trans (hK.trans cG |>.mono fun b hb _=>hb);have fu:=(ak.o W5 aE).2.2.2.2.2.2.2.2.2.2.2.2.2.1;have fG:=zQ _ _ fu;simp only [zD]at m0 m1 fG;have aA:=qhl R.o bM.o.asg (aL.o t ap) hy (cO.o.keep aE trivial wF);rw [hs]at aA;simp only at aA;clear ka na k5 al az a4 a3 ht ap bK;refine qdx ?_ cD d4 ch cG aE aA aW hK ce dW;clear cD d4 ch cG aE aA aW hK ce dW;intro dx dt cr b4 ff a1 aQ c1 fl gc
    gi_wp2_with (gi_at_builtin;refine qcd (v:=.slice a6 (qav a (ts.take j) 0).length c6) (u:=.slice (some ⟨wr.heap.size+1,0,none⟩) 1 1) (v':=.slice (some ⟨g5,0,none⟩) ((qav a (ts.take j) 0).length+1) dF) (w':=W5) rfl (.tmp 136) (.tmp 138) 125 rfl rfl rfl dx.o ?_)
    refine⟨wF,rfl,(zU.2 a1.o).mono ?_⟩;rintro e W6 ⟨rfl,k6⟩;have aH:=qf cr.o k6 (fun _ _=>wF);have a9:=qf dt.o k6 (fun _ _=>wF);obtain⟨v',W7,cm,cj,k7,g7,br,d9,cf,c9⟩:=qc3 (P:=prog) qef 60 aH [.string t.text] rfl (by simp [Value.oneCell']) wA (by have:=b4.o.size;have:=k6.size;omega);subst d9;have ci:=qf a9 k7 (fun b hb e=>qc4 a9 aH wD hb e.symm);have ed:Keep (fun b=>b<W2.heap.size) wr W7:=(b4.o.trans k6.mt).trans (k7.mono fun b _ (hb:b<W2.heap.size) e=>by have:=(zE aH b e.symm).1;omega);clear k6 k7 aH a9 cf;refine hd5 ?_ cm cj ci ed c9;clear cm cj ci ed c9;intro bW dv cs dC gd
    gi_wp2_with (gi_at_builtin;refine qcd (v:=.slice a7 (qav a (ts.take j) 0).length c7) (u:=.slice (some ⟨W6.heap.size,0,none⟩) 1 1) (v':=.slice (some ⟨g7,0,none⟩) ((qav a (ts.take j) 0).length+1) br) (w':=W7) rfl (.tmp 140) (.tmp 144) 60 rfl rfl rfl bW.o ?_)
    go_roundw
    case rel=>
     refine⟨j+1,wA,by go_num,c1.o.trans dC.o,?_,?_⟩
     ·rw [aQ.o,zR,zn,zn];exact cs.o
     ·rw [aQ.o,zR,zn,zn];exact dv.o
    case measure=>simp [intOf];omega
   |true=>
    obtain⟨p,hs,hp,eX⟩:=dB.o t ap hv;rw [hs]at s1 s2;simp only at s1 s2;have je:(0:Int)<=p:=wA
    have hw: ¬((p:Int)<0):=wA
    have jf:(p:Int)<kn.length:=by rw [bM.o.asg.lk];omega
    have ft:=a3.2.2.2.2.2.2.2.2.2.2.2.2.2.2.2.2.2.1;have fF:=zQ _ _ ft;simp only at fF;have bh:kn[p]?=some (qab a t).isSome:=by
     have:=qyy bM.o.asg (aL.o t ap) hv;unfold qa3 at hs;rw [zI hv]at hs;injection hs with h1 _
     have h2:c.vars.idxOf t.text=p:=wA
     rw [h2]at this;exact this
    have cA:=bG.heap eK.o trivial;have af:wr.cell? ⟨c.K,p,none⟩=some (.bool (qab a t).isSome):=by
     have:=qb cA p (.bool (qab a t).isSome) (by simp [zP,bh])
     simpa using this
    have lK:=qe cA;clear cA bh;cases hy:qab a t with
    |some y=>
     rw [hy]at af;simp only [Option.isSome_some]at af;rw [hy]at aW;simp only at aW;obtain⟨a6,c6,rfl⟩:=qi al;obtain⟨a7,c7,rfl⟩:=qi az;obtain⟨Wa,a4⟩:=ex (wr.alloc (.cells #[.int .i64 (p:Int),.string ⟨#[]⟩] 132));have ka:wE wr Wa:=by rw [←a4];exact kAl
     have za:Wa.heap.size=wr.heap.size+1:=by rw [←a4];simp
     have na:Wa.heap[wr.heap.size]?=some (.cells #[.int .i64 (p:Int),.string ⟨#[]⟩] 132 (0,0)):=by rw [←a4];exact qh _ _
     have et:(qav a (ts.take j) 0).length<=1073741824:=by
      have h1:=qnj a (ts.take j) 0;have h2:(ts.take j).length<=ts.length:=by rw [yC];omega
      have h3:=aR.o;omega
     obtain⟨v',W5,cD,d4,k5,g5,dF,fC,ce,dW⟩:=qc3 (P:=prog) qlr 125 (qf al ka (fun _ _=>wF)) [.int .i64 (j:Int)] rfl (by simp [Value.oneCell']) wA wA;subst fC;rw [za,←a4]at cD;have ch:=qf (qf az ka (fun _ _=>wF)) k5 (fun b hb e=>qc4 (qf az ka (fun _ _=>wF)) (qf al ka (fun _ _=>wF)) wD hb e.symm);have cG:Keep (fun b=>b<W2.heap.size) wr W5:=ka.mt.trans (k5.mono fun b _ (hb:b<W2.heap.size) e=>by have:=(zE al b e.symm).1;omega);have bK:W5.heap[wr.heap.size]?=some (.cells #[.int .i64 (p:Int),.string ⟨#[]⟩] 132 (0,0)):=k5.heap na (fun e=>by have:=(zE al _ e.symm).2;omega);have m0:=qb bK 0 _ rfl;have m1:=qb bK 1 _ rfl;have lm:=qe bK;have aE:wE W W5:=b2.o.trans (hK.trans cG |>.mono fun b hb _=>hb);have fu:=(ak.o W5 aE).2.2.2.2.2.2.2.2.2.2.2.2.2.1;have fG:=zQ _ _ fu;simp only [zD]at m0 m1 fG;have aA:=qhl R.o bM.o.asg (aL.o t ap) hy (cO.o.keep aE trivial wF);rw [hs]at aA;simp only at aA;clear ka na k5 al az a4 a3 ht ap bK;refine qdx ?_ cD d4 ch cG aE aA aW hK ce dW;clear cD d4 ch cG aE aA aW hK ce dW;intro dx dt cr b4 ff a1 aQ c1 fl gc
     gi_wp2_with (gi_at_builtin;refine qcd (v:=.slice a6 (qav a (ts.take j) 0).length c6) (u:=.slice (some ⟨wr.heap.size+1,0,none⟩) 1 1) (v':=.slice (some ⟨g5,0,none⟩) ((qav a (ts.take j) 0).length+1) dF) (w':=W5) rfl (.tmp 136) (.tmp 138) 125 rfl rfl rfl dx.o ?_)
     refine⟨wF,rfl,(zU.2 a1.o).mono ?_⟩;rintro e W6 ⟨rfl,k6⟩;have aH:=qf cr.o k6 (fun _ _=>wF);have a9:=qf dt.o k6 (fun _ _=>wF);obtain⟨v',W7,cm,cj,k7,g7,br,d9,cf,c9⟩:=qc3 (P:=prog) qef 60 aH [.string y] rfl (by simp [Value.oneCell']) wA (by have:=b4.o.size;have:=k6.size;omega);subst d9;have ci:=qf a9 k7 (fun b hb e=>qc4 a9 aH wD hb e.symm);have ed:Keep (fun b=>b<W2.heap.size) wr W7:=(b4.o.trans k6.mt).trans (k7.mono fun b _ (hb:b<W2.heap.size) e=>by have:=(zE aH b e.symm).1;omega);clear k6 k7 aH a9 cf;refine hd5 ?_ cm cj ci ed c9;clear cm cj ci ed c9;intro bW dv cs dC gd
     gi_wp2_with (gi_at_builtin;refine qcd (v:=.slice a7 (qav a (ts.take j) 0).length c7) (u:=.slice (some ⟨W6.heap.size,0,none⟩) 1 1) (v':=.slice (some ⟨g7,0,none⟩) ((qav a (ts.take j) 0).length+1) br) (w':=W7) rfl (.tmp 140) (.tmp 144) 60 rfl rfl rfl bW.o ?_)
     go_roundw
     case rel=>
      refine⟨j+1,wA,by go_num,c1.o.trans dC.o,?_,?_⟩
      ·rw [aQ.o,zR,zn,zn];exact cs.o
      ·rw [aQ.o,zR,zn,zn];exact dv.o
     case measure=>simp [intOf];omega
    |none=>
     rw [hy]at af aW;simp only [Option.isSome_none,yP]at af aW;obtain⟨a6,c6,rfl⟩:=qi al;obtain⟨a7,c7,rfl⟩:=qi az;clear a3 ht ap;have hW:(wr.alloc (.cells #[.int .i64 (p:Int),.string ⟨#[]⟩] 132)).heap.size=wr.heap.size+1:=wC
     refine hd6 ?_ aW hK al az bG hW;clear aW hK al az bG hW;intro aQ c1 gg gi cL jG;gi_wp2;go_roundw
     case rel=>
      have kl:wE wr (wr.alloc (.cells #[.int .i64 (p:Int),.string ⟨#[]⟩] 132)):=kAl;refine⟨j+1,wA,by go_num,c1.o.trans kl.mt,?_,?_⟩
      ·rw [aQ.o];exact qf gg.o kl (fun _ _=>wF)
      ·rw [aQ.o];exact qf gi.o kl (fun _ _=>wF)
     case measure=>simp [intOf];omega
  ·obtain rfl:j=(qm L).length:=by omega
   have ej:ts.take (qm L).length=ts:=by rw [bz.o,zi]
   rw [ej]at al az;have bG:wE W wr:=b2.o.trans (hK.mono fun b hb _=>hb);have dd:=hK.heap dD.o (qe dD.o);have ij:=qb dd 0 _ rfl;have ik:=qb dd 1 _ rfl;have il:=qb dd 2 _ rfl;have im:=qb dd 3 _ rfl;have jl:=qe dd;simp only [zD]at ij ik il im;obtain⟨a6,c6,rfl⟩:=qi al;obtain⟨a7,c7,rfl⟩:=qi az;have et:(qav a ts 0).length<=1073741824:=by
    have h1:=qnj a ts 0;have h3:=aR.o;omega
   have g1:qay wr.heap.size wr (.slice a6 (qav a ts 0).length c6) (qjm a ts):=qfk al (by unfold qjm;rw [zL];exact et);have hR:qaf wr.heap.size wr (.slice a7 (qav a ts 0).length c7) (qpb a ts):=qbj az (by unfold qpb;rw [zL];exact et);have es:=qxt (n0:=n0) (ga.o.keep bG.mt) iS.o k.pred k.arity (by rw [iV.o];exact gl.o) (by rw [cN.o];exact aR.o) wr.heap.size _ _ _ _ k.upto g1 hR (zG _) (fun s hs=>by
    obtain⟨t,ht,hy⟩:=q67 hs;exact q1b bM.o.asg (dz.o t ht) hy) iT.o iU.o (by rw [cN.o];exact q63 a ts) (by unfold qpb qjm;rw [zL,zL])
   have hP:qjq f k.pred k.arity (qjm a ts) (qpb a ts) k.upto=(LJ.pos q).filter (qj3 a ts):=by
    rw [←gz.o,cN.o];exact q62
   rw [hP]at es;unfold qeg at es;clear hP g1 hR dd al az ej hj d1;refine hd3 ?_ es bG hK;clear es bG hK;intro gf cL c1;gi_wp2;refine wpIn_label ?_;gi_wp2;refine⟨wF,rfl,(zU.2 gf.o).mono ?_⟩;rintro e Wm ⟨g',v,rfl,cF,eY,cV,cE⟩;obtain⟨gm,gB,cT,cU,dX⟩:=q66 R.o bM.o cL.o cF eY cV;obtain⟨rows,aw⟩:=ex ((LJ.pos q).filter (qj3 a ts));rw [aw]at cE;have kv:c.V<W.heap.size:=qe (ga.o.hold _ _ iI.o.row);have ks:c.K<W.heap.size:=qe eK.o;have fa:W.heap.size<=Wm.heap.size:=zW cL.o.size cF.keep.size;have hI:RowsHeld c gm Wm v rows:=by
    obtain⟨us,h1,h2,h3,h4⟩:=cE;have hz:=cL.o.size;exact⟨us,h1,h2,fun b hb=>⟨dX b (by have:=(h3 b hb).2;omega) (h3 b hb).1 (zE h2 b hb).2,by have:=(h3 b hb).2;exact⟨wA,wA⟩⟩,fun k u t hu ht=>⟨(h4 k u t hu ht).1,fun b hb=>⟨dX b (by have:=((h4 k u t hu ht).2 b hb).2;omega) ((h4 k u t hu ht).2 b hb).1 (zE (h4 k u t hu ht).1 b hb).2,by have:=((h4 k u t hu ht).2 b hb).2;exact⟨wA,wA⟩⟩⟩⟩
   obtain⟨av,cv,rfl,fz,hH⟩:=hI.get (U:=U) (W0:=W0);simp only [maxLen]at fz;have hN: ∀(j:Nat) (t:List ByteArray),rows[j]?=some t->t.length=ts.length:=fun j t hj=>by
    have:=zH hj;rw [←aw,yV,←gz.o]at this;rw [(qcr.1 (xj this.1)).2,cN.o]
   have hO: ∀(j:Nat) (t:List ByteArray) (s:ByteArray),rows[j]?=some t->s∈t->s.size<=1073741824:=fun j t s hj hs=>by
    have:=zH hj;rw [←aw,yV]at this;exact R.o.texts q t s this.1 hs
   have d5:qbe LJ c.r.body (c.steps.drop i) a=rows.flatMap (qhr LJ c.r.body ts (c.steps.drop (i+1)) a):=by
    rw [bx.o,qy1 dl.o bw,dA.o,aw]
   obtain⟨rf,fy⟩:=ex (qhr LJ c.r.body ts (c.steps.drop (i+1)) a);rw [fy]at d5;have dS: ∀aU X,StepEnd c U Vw all Jp Jx k0 (rows.flatMap rf).length gm Wm a kn aU X->StepEnd c U Vw all Jp Jx k0 (qbe LJ c.r.body (c.steps.drop i) a).length g W a kn aU X:=fun aU X h=>by
    rw [d5];exact h.base cT cU fa
   have cQ: ∀m X,StepEnd c U Vw all Jp Jx k0 m gm Wm a kn false X->StepEnd c U Vw all Jp Jx k0 (qbe LJ c.r.body (c.steps.drop i) a).length g W a kn false X:=fun m X h=>by
    obtain⟨g',bb,h1,h2,h3,h4,h5,h6,h7,h8,h9⟩:=h.base cT cU fa;exact⟨g',bb,h1,h2,h3,h4,h5,h6,h7,h8,by rcases h9 with ⟨h,-⟩ |h;cases h;exact .inr h⟩
   have jd:gm.held Nb=some (.cells #[.pointer (some ⟨S,0,none⟩),.string k.pred,.int .i64 (k.arity:Int),.int .i64 (k.upto:Int)] 192 (0,0))∨True:=.inr trivial;clear cE hI dX cF eY cV jd ij ik il im jl d5;refine qdx ?_ gB cT cU hH hN hO fy dS cQ aw;clear gB cT cU hH hN hO fy dS cQ aw;intro dk ds iL gp gq gr b0 ei dr dy;gi_wp2;gi_loopw [157] (fun i' X=> ∃j:Nat,j<=rows.length/\i'=.int .i64 (j:Int)/\StepEnd c U Vw all Jp Jx k0 ((rows.take j).flatMap rf).length gm Wm a kn true X) (fun i _=>rows.length-(intOf i).toNat)
   case atStart=>exact⟨0,wA,rfl,StepEnd.none R.o dk.o (Keep.refl _ _)⟩
   case round=>
    obtain⟨j,hj,rfl,dN⟩:=hrel;obtain⟨Xj,i0⟩: ∃Xj,Xj=wr:=⟨_,rfl⟩;subst i0;by_cases d1:j<rows.length
    ·have ha:(j:Int)<rows.length:=by omega
     have ja:(0:Int)<=j:=wA
     obtain⟨t,ht⟩: ∃t,rows[j]?=some t:=⟨_,zB d1⟩;have d7:=gq.o j t ht;have eZ:=gr.o j t;obtain⟨gb,ua,uc,i2,hJ,hG⟩:=gp.o j t ht;subst i2;have gS:=dN.same R.o;obtain⟨g2,jv,e1,e2,e3,e4,e5,e6,e7,e8,e9⟩:=dN;obtain⟨m,hm⟩:=ex (((rows.take j).flatMap rf).length);rw [hm]at e9;have fv:Jp (k0+m) g2 Xj:=by
      rcases e9 with ⟨-,h⟩ |⟨h,-⟩
      ·exact h
      ·cases h
     have i9:=hJ Xj gS;have jm:=zQ _ _ i9;simp only at jm;have gQ:c.V<Xj.heap.size:=wA
     have dI:c.K<Xj.heap.size:=wA
     have jP:nU<=Xj.heap.size:=(R.o.hV Xj e2).2;have dP: ∀b,U b->b<Xj.heap.size:=fun b hb=>by have:=R.o.hU b hb;omega
     have fs: ∀g3 X z bJ,MidAt n0 c Vw g2 Xj g3 X z bJ->SameW c U gm W0 X:=fun g3 X z bJ hX=>SameW.of hX.step.inv (fun b o hb hn=>(hX.held b hn).trans (e6 b o hb hn)) (R.o.hV X hX.v).1;have gL: ∀g3 X z bJ,MidAt n0 c Vw g2 Xj g3 X z bJ->qgt c vals kn i q L k sb sc ab oa cb tb ot ct cJ de nU (some ⟨S,0,none⟩) 1 X:=fun g3 X z bJ hX=>dw.o X ((fs g3 X z bJ hX).sub ds.o);have g0: ∀g6 Z bc,MidAt n0 c Vw g2 Xj g6 Z bc kn->qck c.vars bc kn a->rf t= []->StepEnd c U Vw all Jp Jx k0 ((rows.take (j+1)).flatMap rf).length gm Wm a kn true Z:=fun g6 Z bc h1 h2 h3=>by
      rw [qs7 rf rows j t ht,h3,yP,hm];exact qwk R.o e4 e3 dP e6 e7 (.inl ⟨rfl,fv⟩) h1 h2
     have hZ:RowIn n0 c Vw a kn ts t g2 Xj 0 (.slice none 0 0) Xj:=RowIn.start e1 e5 e2 e8;have hon: ∀x X,RowIn n0 c Vw a kn ts t g2 Xj ts.length x X-> ∃gh bb ac l,StepAt n1 c LJ U Vw all Jp (i+1) (k0+m) gh X ac bb (qbq kn l true)/\(∀b,b<Xj.heap.size->c.nv b->gh.held b=g2.held b)/\(∀S f,gm.st S=some f-> ∃d,gh.st S=some (f++d))/\(∀p,p∈l->kn[p]?=some false)/\l.length<=ts.length/\
       X.ownsRow Xj.heap.size 3 1 x l.length (l.map fun p:Nat=>Value.int .i64 (p:Int))/\(∀b,x.ownBlock=some b->gh.held b=X.heap[b]?/\c.nv b)/\rf t=qbe LJ c.r.body (c.steps.drop (i+1)) ac/\ExtA a ac:=fun x X h=>by
      have:=h.on R.o (m:=m) dk.o bx.o dl.o bw dA.o e1 e3 dP e4 e7 fv (fun ac i1 r b hb=>?_) d7.symm gQ dI
      ·rw [b0.o]at this;exact this
      ·have h1:(rf t)[r]?=some b:=by
        rw [←b0.o];unfold qhr;rw [i1];exact hb
       have h2:=q1c rf ht h1;rw [hm]at h2;have h3:=dk.o.told (m+r) b (by
        rw [bx.o,qy1 dl.o bw,dA.o,dy.o,b0.o];exact h2)
       rw [←xG]at h3;exact h3
     have eR: ∀(aU:Bool) (gh:Gh) (ac:Asg) (bJ:List Bool) (X8 Z:World) (g6:Gh) (bc:List ByteArray) (mm:List Asg),(∀b,b<Xj.heap.size->c.nv b->gh.held b=g2.held b)->(∀S f,gm.st S=some f-> ∃d,gh.st S=some (f++d))->Xj.heap.size<=X8.heap.size->rf t=mm->ExtA a ac->
       ∀(g5:Gh) (Y:World) (ah:List ByteArray),GInv g5 Y->Vw Y->(∀b,U b->g5.free b)->X8.heap.size<=Y.heap.size->(∀b o,gh.held b=some o->c.nv b->g5.held b=some o)->(∀S f,gh.st S=some f-> ∃d,g5.st S=some (f++d))->qck c.vars ah bJ ac->((aU=true/\Jp (k0+m+mm.length) g5 Y)∨(aU=false/\ ∃k,k<all.length/\Jx k g5 Y))->
       MidAt n0 c Vw g5 Y g6 Z ah kn->StepEnd c U Vw all Jp Jx k0 ((rows.take (j+1)).flatMap rf).length gm Wm a kn aU Z:=fun aU gh ac bJ X8 Z g6 bc mm h1 h2 hz d3 gY g5 Y ah p1 p2 p3 p4 p5 p6 p7 p8 hM=>by
      rw [qs7 rf rows j t ht,zR,hm,d3];refine qwk R.o wA p3 (fun b hb=>by have:=dP b hb;omega) (fun b o hb hn=>p5 b o ((h1 b (qe (e1.hold b o (e6 b o hb hn))) hn).trans (e6 b o hb hn)) hn) (fun S f hS=>?_) (by rw [←xG];exact p8) hM (qpv e8 p7 gY);obtain⟨d,hd⟩:=h2 S f hS;obtain⟨d2,gW⟩:=p6 S _ hd;exact⟨d++d2,by rw [gW,yr]⟩
     clear hJ gS e9 fv;refine qby ?_ g0 eR hon gL fs hG dP hZ d7 eZ e1 e2 e3 e5 e6 e7;clear g0 eR hon gL fs hG dP hZ d7 eZ e1 e2 e3 e5 e6 e7;intro eJ fk gk bn dq gn f5 gu fn fo fZ j1 j2 j3 f0 j4;refine hd3 ?_ e8 ht hm;clear e8 ht hm;intro f1 iM j7;gi_wp2;gi_loopw [22,163] (fun jw i' X=> ∃cc:Nat,cc<=(qm L).length/\i'=.int .i64 (cc:Int)/\RowIn n0 c Vw a kn ts t g2 Xj cc jw X) (fun _ i _=>(qm L).length-(intOf i).toNat)
     case atStart=>exact⟨0,wA,rfl,gu.o⟩
     case round=>
      obtain⟨cc,i6,rfl,dL⟩:=hrel;by_cases gU:cc<(qm L).length
      ·have jN:(cc:Int)<(qm L).length:=by omega
       have kx:(0:Int)<=cc:=wA
       have eO:cc<ts.length:=by rw [←bz.o];exact gU
       obtain⟨tt,bH⟩: ∃tt,ts[cc]?=some tt:=⟨_,zB eO⟩;have i7:cc<t.length:=by rw [fn.o];exact eO
       have jO:(cc:Int)<t.length:=wA
       obtain⟨y0,bI⟩: ∃y0,t[cc]?=some y0:=⟨_,zB i7⟩;obtain⟨ub,jg,aS⟩:=gn.o cc y0 bI;subst jg;have ap:=zH bH;obtain⟨g3,z,ac,l,hM,bu,ax,bi,cC,aG⟩:=dL;have a3:=bn.o g3 wr z _ hM;obtain⟨zb,zo,eb,jh,s1,s2⟩:=cM.o wr a3 cc tt bH;subst eb;have ji:zb<wr.heap.size:=by have:=hM.step.keep.size;omega
       obtain⟨bg,cx,rfl⟩:=qi aG;cases hv:tt.var with
       |false=>
        have hs:=bU.o tt hv;have hy:qab ac tt=some tt.text:=by unfold qab;rw [zF (by rw [hv];simp)]
        rw [hs]at s1 s2;simp only at s1 s2;have aA: ∀X,MidAt n0 c Vw g2 Xj g3 X z (qbq kn l true)->Calls prog 120 #[.agg #[.int .i64 (-1),.string tt.text],qk c.Bv] X fun e w'=>e=.returned (.string tt.text)/\wE X w':=fun X hX=>by
         have:=qhl R.o ax (aL.o tt ap) hy (hX.wk.vals hX.step.inv);rw [hs]at this;exact this
        obtain⟨Nx,aV⟩:=ex (wr.heap.size);obtain⟨Wb,aF⟩:=ex (wr.alloc (.cells #[.int .i64 (-1),.string tt.text] 132));have kb:wE wr Wb:=by rw [←aF];exact kAl
        have aP:Wb.heap[Nx]?=some (.cells #[.int .i64 (-1),.string tt.text] 132 (0,0)):=by rw [←aF,←aV];exact qh _ _
        have aj:=(hM.own R.o kb).own R.o kDr;have am:=(Keep.drew (fun _=>True) _).heap aP trivial;have cz: ∀X,MidAt n0 c Vw g2 Xj g3 X z (qbq kn l true)->X.heap[Nx]?=some (.cells #[.int .i64 (-1),.string tt.text] 132 (0,0))->(X.cell? ⟨c.Bt,0,none⟩=some (.func (.func 120) #[] #[qk c.Bv])/\X.cell? ⟨Nx,0,none⟩=some (.int .i64 (-1))/\X.cell? ⟨Nx,1,none⟩=some (.string tt.text)/\X.cell? ⟨ub,cc,none⟩=some (.string y0)):=fun X hX hx=>by
         have x0:=qb hx 0 _ rfl;have x1:=qb hx 1 _ rfl;simp only [zD]at x0 x1;exact⟨(bn.o g3 X z _ hX).2.2.2.2.2.2.2.2.2.2.2.2.2.1,x0,x1,aS X (dq.o g3 X z _ hX)⟩
        have b8:=cz _ aj am;have lx:Nx<Wb.heap.size:=qe aP;clear a3;refine qby ?_ aA cz b8 aj kb aP am aF aV hM bu ax bi cC aG hy;clear aA cz b8 aj kb aP am aF aV hM bu ax bi cC aG hy;intro a1 dp bQ bm em gw cw bS bP fg ay aY aq bo aZ c2;refine hd6 ?_ hs bH bI aS ap lx;clear hs bH bI aS ap lx;intro gs bp bq fm eL iN;gi_wp2;rw [bS.o,bP.o];refine qag ?_;refine qw rfl (fun X=>(X.cell? ⟨c.Bt,0,none⟩=some (.func (.func 120) #[] #[qk c.Bv])/\X.cell? ⟨Nx,0,none⟩=some (.int .i64 (-1))/\X.cell? ⟨Nx,1,none⟩=some (.string tt.text)/\X.cell? ⟨ub,cc,none⟩=some (.string y0))) [] ?_;refine qq [0,1,3,4,5,6] ?_
        iterate 6
         refine tkB rfl bQ.o ?_
         try simp only [qr]
        refine ql ?_;refine hoR 2 rfl fun K ai=>?_;gi_wp2;refine⟨wF,rfl,(zU.2 (a1.o _ bm.o)).mono ?_⟩;rintro e W6 ⟨rfl,k6⟩;have cy:=bm.o.own R.o k6;have dH:wE wr W6:=(em.o.trans kDr).trans k6;have dO:=dp.o W6 cy (k6.heap cw.o wF);clear k6;refine hd3 ?_ cy dO dH;clear cy dO dH;intro dm aX bO;gi_wp2;refine ai.o _ _ (fun _=>aX.o) ?_;by_cases aO:tt.text=y0
        ·have ba:=qdn aO;have aT:RowIn n0 c Vw a kn ts t g2 Xj (cc+1) (.slice bg l.length cx) W6:=RowIn.same R.o fg.o ay.o aY.o aq.o bo.o aZ.o bp.o (by rw [bq.o,aO]) c2.o bO.o;clear aO;refine hd1 ?_ aT;clear aT;intro a0;refine qq [7] ?_
         iterate 1
          refine tkR (v:=?_) rfl aX.o ?_ ?_;rotate_left
          ·rintro Wq ⟨y1,y2,y3,y4⟩;go_simp
           try simp only [ba]
           try with_reducible rfl
          try simp only [qr]
         refine ql ?_;refine qz wB (qah ?_);clear ai;gi_wp2;go_roundw
         case rel=>exact⟨cc+1,wA,by go_num,a0.o⟩
         case measure=>simp [intOf];omega
        ·have ba:=qcv aO;have a5:qbb a ts t=none:=(qkx bp.o bq.o ay.o).2.2 _ c2.o aO;have cn:rf t= []:=by rw [←b0.o];unfold qhr;rw [a5]
         have bk:=qf aZ.o bO.o (fun _ _=>wF);have d3:l.length<=1073741824:=by have:=bo.o;have:=aR.o;omega
         clear aO a5;refine hd2 ?_ cn bk;clear cn bk;intro cu du;refine qq [7] ?_
         iterate 1
          refine tkR (v:=?_) rfl aX.o ?_ ?_;rotate_left
          ·rintro Wq ⟨y1,y2,y3,y4⟩;go_simp
           try simp only [ba]
           try with_reducible rfl
          try simp only [qr]
         refine ql ?_;refine qz wB (qah ?_);clear ai;gi_wp2;gi_loopw [188] (fun i' X=> ∃q':Nat,q'<=l.length/\i'=.int .i64 (q':Int)/\ClearIn n0 c Vw z (qbq kn l true) l Xj.heap.size g2 Xj q' (.slice bg l.length cx) X) (fun i _=>l.length-(intOf i).toNat)
         case atStart=>exact⟨0,wA,rfl,g3,dm.o,du.o⟩
         case round=>
          obtain⟨q',hF,rfl,hC⟩:=hrel;by_cases d0:q'<l.length
          ·have eU:(q':Int)<l.length:=by omega
           have eT:(0:Int)<=q':=wA
           obtain⟨p',aI⟩: ∃p',l[q']?=some p':=⟨_,zB d0⟩;have ck:p'<kn.length:=(zA.1 (aq.o p' (zH aI))).1;have eW:(p':Int)<kn.length:=wA
           have eV:(0:Int)<=p':=wA
           have ar:=hC.next R.o bR.o aI dI;obtain⟨g4,aa,a8⟩:=hC;obtain⟨b6,b9⟩: ∃b6,bg=some ⟨b6,0,none⟩:=by
            rcases a8.2 with e |⟨gb',cap,cur,e1',_⟩
            ·have:=e.2;omega
            ·injection e1' with e1' _ _;exact⟨_,e1'⟩
           subst b9;have dU:=qbd a8 q' _ (qpy aI);have ee:=zQ _ _ dU;have ca:=(bn.o g4 wr z _ aa).2.2.2.2.2.2.2.2.2.2.2.2.2.2.2.2.2.1;have co:=zQ _ _ ca;have ag:=aa.step.inv.hold _ _ aa.wk.knr;have ig:=qe ag;have eQ:=qg ag p';obtain⟨bv,cd⟩: ∃bv,(qbq (qbq kn l true) (l.take q') false)[p']?=some bv:=⟨_,zB (by rw [qg7,qg7];exact ck)⟩;have cg:=qb ag p' (.bool bv) (by simp [zP,cd]);simp only [zD]at cg;clear ag cd;simp only at ee co;clear aa a8 aI;refine hd1 ?_ ar;clear ar;intro aD;gi_wp2;go_roundw
           case rel=>exact⟨q'+1,wA,by go_num,aD.o⟩
           case measure=>simp [intOf];omega
          ·obtain rfl:q'=l.length:=by omega
           obtain⟨g4,aa,-⟩:=hC;rw [zi,qmk aq.o]at aa;have bj:=eJ.o g4 wr z aa (qpv f1.o aY.o (qfh ay.o).1) cu.o;clear aa;refine hd1 ?_ bj;clear bj;intro bV;gi_wp2;go_roundw
           case rel=>exact⟨j+1,wA,by go_num,bV.o⟩
           case measure=>simp [intOf];omega
       |true=>
        obtain⟨p,hs,hp,eX⟩:=dB.o tt ap hv;rw [hs]at s1 s2;simp only at s1 s2;have je:(0:Int)<=p:=wA
        have hw: ¬((p:Int)<0):=wA
        have jf:(p:Int)<kn.length:=by rw [bM.o.asg.lk];omega
        have ft:=a3.2.2.2.2.2.2.2.2.2.2.2.2.2.2.2.2.2.1;have fF:=zQ _ _ ft;simp only at fF;have bh:(qbq kn l true)[p]?=some (qab ac tt).isSome:=by
         have:=qyy ax (aL.o tt ap) hv;unfold qa3 at hs;rw [zI hv]at hs;injection hs with h1 _
         have h2:c.vars.idxOf tt.text=p:=wA
         rw [h2]at this;exact this
        have cA:=hM.step.inv.hold _ _ hM.wk.knr;have af:wr.cell? ⟨c.K,p,none⟩=some (.bool (qab ac tt).isSome):=by
         have:=qb cA p (.bool (qab ac tt).isSome) (by simp [zP,bh])
         simpa using this
        have lK:=qe cA;clear cA;cases hy:qab ac tt with
        |some y=>
         rw [hy]at af;simp only [Option.isSome_some]at af;clear bh;have aA: ∀X,MidAt n0 c Vw g2 Xj g3 X z (qbq kn l true)->Calls prog 120 #[.agg #[.int .i64 (p:Int),.string ⟨#[]⟩],qk c.Bv] X fun e w'=>e=.returned (.string y)/\wE X w':=fun X hX=>by
          have:=qhl R.o ax (aL.o tt ap) hy (hX.wk.vals hX.step.inv);rw [hs]at this;exact this
         obtain⟨Nx,aV⟩:=ex (wr.heap.size);obtain⟨Wb,aF⟩:=ex (wr.alloc (.cells #[.int .i64 (p:Int),.string ⟨#[]⟩] 132));have kb:wE wr Wb:=by rw [←aF];exact kAl
         have aP:Wb.heap[Nx]?=some (.cells #[.int .i64 (p:Int),.string ⟨#[]⟩] 132 (0,0)):=by rw [←aF,←aV];exact qh _ _
         have aj:=(hM.own R.o kb).own R.o kDr;have am:=(Keep.drew (fun _=>True) _).heap aP trivial;have cz: ∀X,MidAt n0 c Vw g2 Xj g3 X z (qbq kn l true)->X.heap[Nx]?=some (.cells #[.int .i64 (p:Int),.string ⟨#[]⟩] 132 (0,0))->(X.cell? ⟨c.Bt,0,none⟩=some (.func (.func 120) #[] #[qk c.Bv])/\X.cell? ⟨Nx,0,none⟩=some (.int .i64 (p:Int))/\X.cell? ⟨Nx,1,none⟩=some (.string ⟨#[]⟩)/\X.cell? ⟨ub,cc,none⟩=some (.string y0)):=fun X hX hx=>by
          have x0:=qb hx 0 _ rfl;have x1:=qb hx 1 _ rfl;simp only [zD]at x0 x1;exact⟨(bn.o g3 X z _ hX).2.2.2.2.2.2.2.2.2.2.2.2.2.1,x0,x1,aS X (dq.o g3 X z _ hX)⟩
         have b8:=cz _ aj am;have lx:Nx<Wb.heap.size:=qe aP;clear a3;refine qby ?_ aA cz b8 aj kb aP am aF aV hM bu ax bi cC aG hy;clear aA cz b8 aj kb aP am aF aV hM bu ax bi cC aG hy;intro a1 dp bQ bm em gw cw bS bP fg ay aY aq bo aZ c2;refine hd6 ?_ hs bH bI aS ap lx;clear hs bH bI aS ap lx;intro gs bp bq fm eL iN;gi_wp2;rw [bS.o,bP.o];refine qag ?_;refine qw rfl (fun X=>(X.cell? ⟨c.Bt,0,none⟩=some (.func (.func 120) #[] #[qk c.Bv])/\X.cell? ⟨Nx,0,none⟩=some (.int .i64 (p:Int))/\X.cell? ⟨Nx,1,none⟩=some (.string ⟨#[]⟩)/\X.cell? ⟨ub,cc,none⟩=some (.string y0))) [] ?_;refine qq [0,1,3,4,5,6] ?_
         iterate 6
          refine tkB rfl bQ.o ?_
          try simp only [qr]
         refine ql ?_;refine hoR 2 rfl fun K ai=>?_;gi_wp2;refine⟨wF,rfl,(zU.2 (a1.o _ bm.o)).mono ?_⟩;rintro e W6 ⟨rfl,k6⟩;have cy:=bm.o.own R.o k6;have dH:wE wr W6:=(em.o.trans kDr).trans k6;have dO:=dp.o W6 cy (k6.heap cw.o wF);clear k6;refine hd3 ?_ cy dO dH;clear cy dO dH;intro dm aX bO;gi_wp2;refine ai.o _ _ (fun _=>aX.o) ?_;by_cases aO:y=y0
         ·have ba:=qdn aO;have aT:RowIn n0 c Vw a kn ts t g2 Xj (cc+1) (.slice bg l.length cx) W6:=RowIn.same R.o fg.o ay.o aY.o aq.o bo.o aZ.o bp.o (by rw [bq.o,aO]) c2.o bO.o;clear aO;refine hd1 ?_ aT;clear aT;intro a0;refine qq [7] ?_
          iterate 1
           refine tkR (v:=?_) rfl aX.o ?_ ?_;rotate_left
           ·rintro Wq ⟨y1,y2,y3,y4⟩;go_simp
            try simp only [ba]
            try with_reducible rfl
           try simp only [qr]
          refine ql ?_;refine qz wB (qah ?_);clear ai;gi_wp2;go_roundw
          case rel=>exact⟨cc+1,wA,by go_num,a0.o⟩
          case measure=>simp [intOf];omega
         ·have ba:=qcv aO;have a5:qbb a ts t=none:=(qkx bp.o bq.o ay.o).2.2 _ c2.o aO;have cn:rf t= []:=by rw [←b0.o];unfold qhr;rw [a5]
          have bk:=qf aZ.o bO.o (fun _ _=>wF);have d3:l.length<=1073741824:=by have:=bo.o;have:=aR.o;omega
          clear aO a5;refine hd2 ?_ cn bk;clear cn bk;intro cu du;refine qq [7] ?_
          iterate 1
           refine tkR (v:=?_) rfl aX.o ?_ ?_;rotate_left
           ·rintro Wq ⟨y1,y2,y3,y4⟩;go_simp
            try simp only [ba]
            try with_reducible rfl
           try simp only [qr]
          refine ql ?_;refine qz wB (qah ?_);clear ai;gi_wp2;gi_loopw [188] (fun i' X=> ∃q':Nat,q'<=l.length/\i'=.int .i64 (q':Int)/\ClearIn n0 c Vw z (qbq kn l true) l Xj.heap.size g2 Xj q' (.slice bg l.length cx) X) (fun i _=>l.length-(intOf i).toNat)
          case atStart=>exact⟨0,wA,rfl,g3,dm.o,du.o⟩
          case round=>
           obtain⟨q',hF,rfl,hC⟩:=hrel;by_cases d0:q'<l.length
           ·have eU:(q':Int)<l.length:=by omega
            have eT:(0:Int)<=q':=wA
            obtain⟨p',aI⟩: ∃p',l[q']?=some p':=⟨_,zB d0⟩;have ck:p'<kn.length:=(zA.1 (aq.o p' (zH aI))).1;have eW:(p':Int)<kn.length:=wA
            have eV:(0:Int)<=p':=wA
            have ar:=hC.next R.o bR.o aI dI;obtain⟨g4,aa,a8⟩:=hC;obtain⟨b6,b9⟩: ∃b6,bg=some ⟨b6,0,none⟩:=by
             rcases a8.2 with e |⟨gb',cap,cur,e1',_⟩
             ·have:=e.2;omega
             ·injection e1' with e1' _ _;exact⟨_,e1'⟩
            subst b9;have dU:=qbd a8 q' _ (qpy aI);have ee:=zQ _ _ dU;have ca:=(bn.o g4 wr z _ aa).2.2.2.2.2.2.2.2.2.2.2.2.2.2.2.2.2.1;have co:=zQ _ _ ca;have ag:=aa.step.inv.hold _ _ aa.wk.knr;have ig:=qe ag;have eQ:=qg ag p';obtain⟨bv,cd⟩: ∃bv,(qbq (qbq kn l true) (l.take q') false)[p']?=some bv:=⟨_,zB (by rw [qg7,qg7];exact ck)⟩;have cg:=qb ag p' (.bool bv) (by simp [zP,cd]);simp only [zD]at cg;clear ag cd;simp only at ee co;clear aa a8 aI;refine hd1 ?_ ar;clear ar;intro aD;gi_wp2;go_roundw
            case rel=>exact⟨q'+1,wA,by go_num,aD.o⟩
            case measure=>simp [intOf];omega
           ·obtain rfl:q'=l.length:=by omega
            obtain⟨g4,aa,-⟩:=hC;rw [zi,qmk aq.o]at aa;have bj:=eJ.o g4 wr z aa (qpv f1.o aY.o (qfh ay.o).1) cu.o;clear aa;refine hd1 ?_ bj;clear bj;intro bV;gi_wp2;go_roundw
            case rel=>exact⟨j+1,wA,by go_num,bV.o⟩
            case measure=>simp [intOf];omega
        |none=>
         rw [hy]at bh af;simp only [Option.isSome_none]at bh af;have kE:(p:Int)<vals.length:=by rw [bM.o.asg.lv];omega
         obtain⟨Nx,aV⟩:=ex (wr.heap.size);obtain⟨Wb,aF⟩:=ex (wr.alloc (.cells #[.int .i64 (p:Int),.string ⟨#[]⟩] 132));have kb:wE wr Wb:=by rw [←aF];exact kAl
         have aP:Wb.heap[Nx]?=some (.cells #[.int .i64 (p:Int),.string ⟨#[]⟩] 132 (0,0)):=by rw [←aF,←aV];exact qh _ _
         have aj:=(hM.own R.o kb).own R.o kDr;have am:=(Keep.drew (fun _=>True) _).heap aP trivial;obtain⟨Wd,ep⟩:=ex (Wb.drew);have kd:wE Wb Wd:=by rw [←ep];exact kDr
         rw [ep]at aj am;have dM: ∀g4 X aB cH,MidAt n0 c Vw g2 Xj g4 X aB cH->X.heap[Nx]?=some (.cells #[.int .i64 (p:Int),.string ⟨#[]⟩] 132 (0,0))->(X.cell? ⟨c.Bk,0,none⟩=some (.slice (some ⟨c.K,0,none⟩) kn.length kn.length)/\X.cell? ⟨Nx,0,none⟩=some (.int .i64 (p:Int))/\X.cell? ⟨c.Bv,0,none⟩=some (.slice (some ⟨c.V,0,none⟩) vals.length vals.length)/\X.cell? ⟨ub,cc,none⟩=some (.string y0)):=fun g4 X aB cH hX hx=>by
          have x0:=qb hx 0 _ rfl;simp only [zD]at x0;have hl:=bn.o g4 X aB cH hX;exact⟨hl.2.2.2.2.2.2.2.2.2.2.2.2.2.2.2.2.2.1,x0,hl.2.2.2.2.2.2.2.2.2.2.2.2.2.2.2.2.1,aS X (dq.o g4 X aB cH hX)⟩
         have b8:=dM _ _ _ _ aj am;obtain⟨gK,dK⟩:=aj.setK R.o bR.o p true;obtain⟨gV,gF⟩:=dK.setV R.o eI.o p y0;have dY:=aj.step.inv.hold _ _ aj.wk.knr;have dZ:=dK.step.inv.hold _ _ dK.wk.row;have kj:=qg dY p;have kk:=qg dZ p;have iW:=qb dY p (.bool false) (by simp [zP,bh]);obtain⟨ov,hh⟩: ∃ov,z[p]?=some ov:=⟨_,zB (by rw [ax.lv];exact eX)⟩;have iX:=qb dZ p (.string ov) (by simp [zP,hh]);simp only [zD]at iW iX;clear dY dZ hh;have kt:Xj.heap.size<=Nx:=by rw [←aV];exact hM.step.keep.size
         have eg:=(Keep.setCell (C:=fun b=>b≠c.K) Wd ⟨c.K,p,none⟩ (.bool true) wC).heap am wA;have cp:=(Keep.setCell (C:=fun b=>b≠c.V) (Wd.setCell ⟨c.K,p,none⟩ (.bool true)) ⟨c.V,p,none⟩ (.string y0) wC).heap eg wA;have gM:=dM _ _ _ _ dK eg;have gN:=dM _ _ _ _ gF cp;have lx:Nx<Wb.heap.size:=qe aP;have kN:c.V<Wd.heap.size:=qe (aj.step.inv.hold _ _ aj.wk.row);have kM:c.K<Wd.heap.size:=qe (aj.step.inv.hold _ _ aj.wk.knr);have bk:=qf (qf ((qf (qf aG kb (fun _ _=>wF)) kd (fun _ _=>wF))) (Keep.setCell (C:=fun b=>b≠c.K) Wd ⟨c.K,p,none⟩ (.bool true) wC) (fun b hb=>by have:=(zE aG b hb).1;omega)) (Keep.setCell (C:=fun b=>b≠c.V) (Wd.setCell ⟨c.K,p,none⟩ (.bool true)) ⟨c.V,p,none⟩ (.string y0) wC) (fun b hb=>by have:=(zE aG b hb).1;omega);obtain⟨W6,dR⟩:=ex ((Wd.setCell ⟨c.K,p,none⟩ (.bool true)).setCell ⟨c.V,p,none⟩ (.string y0));rw [dR]at bk cp;have jp:=qb cp 0 _ rfl;have ln:=qe cp;simp only [zD]at jp;have d3:l.length<=1073741824:=by have:=aR.o;omega
         obtain⟨v',W7,cm,cj,k7,g7,br,d9,cf,c9⟩:=qc3 (P:=prog) qlr 125 bk [.int .i64 (p:Int)] rfl (by simp [Value.oneCell']) wA (by have:=hM.step.keep.size;have:=kb.size;have:=kd.size;rw [←dR];simp;omega);subst d9;have aT:RowIn n0 c Vw a kn ts t g2 Xj (cc+1) (.slice (some ⟨g7,0,none⟩) (l.length+1) br) W7:=by
          refine RowIn.bind R.o bR.o eI.o (tt:=tt) (y:=y0) (p:=p) aj bu ax bi cC fZ.o gQ dI f5.o bH bI hy hp bh (fo.o y0 iM.o (zH bI)) ?_ cj;rw [dR];exact k7.mono fun b _ (hb:b<Xj.heap.size) e=>by have:=(zE bk b e.symm).1;omega
         clear a3 bh aS aP am eg cp dK gF hM bu ax aG cj bk k7 cf;refine qby ?_ dM b8 gM gN aj kb kd ep aF aV bi cC hy hs bH bI;clear dM b8 gM gN aj kb kd ep aF aV bi cC hy hs bH bI;intro jD bQ eH f4 bm em kc f8 bS bP aq bo c2 gs bp bq;refine hd5 ?_ ap dR cm aT hp;clear ap dR cm aT hp;intro eL f7 bW a0 j8;gi_wp2;rw [bS.o,bP.o];refine qag ?_;refine qw rfl (fun X=>(X.cell? ⟨c.Bk,0,none⟩=some (.slice (some ⟨c.K,0,none⟩) kn.length kn.length)/\X.cell? ⟨Nx,0,none⟩=some (.int .i64 (p:Int))/\X.cell? ⟨c.Bv,0,none⟩=some (.slice (some ⟨c.V,0,none⟩) vals.length vals.length)/\X.cell? ⟨ub,cc,none⟩=some (.string y0))) [] ?_;rw [f8.o];refine qq [0,1,2,3,4,5,6,7,8,9,10] ?_
         iterate 11
          refine tkB rfl bQ.o ?_
          try simp only [qr]
         refine ql ?_;refine hoR 11 rfl fun K ai=>?_;gi_wp2;refine ai.o _ _ (fun _=>eH.o) ?_;refine qq [12] ?_
         iterate 1
          refine tkB rfl eH.o ?_
          try simp only [qr]
         refine ql ?_;refine hoR 13 rfl fun K bN=>?_;gi_wp2;refine bN.o _ _ (fun _=>f4.o) ?_;refine qz wB (qah ?_);clear ai bN;rw [f7.o]
         gi_wp2_with (gi_at_builtin;refine qcd (v:=.slice bg l.length cx) (u:=.slice (some ⟨W6.heap.size,0,none⟩) 1 1) (v':=.slice (some ⟨g7,0,none⟩) (l.length+1) br) (w':=W7) rfl (.tmp 208) (.tmp 211) 125 rfl rfl rfl bW.o ?_)
         go_roundw
         case rel=>exact⟨cc+1,wA,by go_num,a0.o⟩
         case measure=>simp [intOf];omega
      ·obtain rfl:cc=(qm L).length:=by omega
       rw [bz.o]at dL;have jj:Xj.heap.size<=wr.heap.size:=by
        obtain⟨_,_,_,_,hM,_⟩:=dL;exact hM.step.keep.size
       obtain⟨gh,bb,ac,l,c5,o1,o2,bi,o4,o5,o6,o7,o8⟩:=gk.o _ _ dL;obtain⟨bg,cx,rfl⟩:=qi o5;have d3:l.length<=1073741824:=by have:=aR.o;omega
       have hc:=ih (k0+m) gh wr ac bb _ c5;rw [el.o]at hc;have i4:=qb (c5.inv.hold _ _ c5.held.p.1) 0 _ rfl;have kO:=qe (c5.inv.hold _ _ c5.held.p.1);simp only [zD]at i4;clear dL gU i6 c5;refine hd8 ?_ hc o1 o2 o5 o6 o7 o8 bi;clear hc o1 o2 o5 o6 o7 o8 bi;intro iK gx iO gy iP iQ iR aq;gi_wp2;refine⟨wF,rfl,(zU.2 iK.o).mono ?_⟩;rintro e W8 ⟨aU,rfl,cS⟩;obtain⟨g5,ah,p1,p2,p3,p4,p5,p6,p7,p8,p9⟩:=cS;have hf:=qpx gy.o (w':=W8) (fun b hb=>by
        have h:=iP.o b hb;obtain⟨o,ho⟩: ∃o,wr.heap[b]?=some o:=⟨_,xR (zE gy.o b hb).2⟩;rw [ho];exact p1.hold b o (p6 b o (h.1.trans ho) h.2))
       have eN: ∀g4 X aB cH,MidAt n0 c Vw g5 W8 g4 X aB cH->qgt c vals kn i q L k sb sc ab oa cb tb ot ct cJ de nU (some ⟨S,0,none⟩) 1 X:=fun g4 X aB cH hX=>dw.o X ((SameW.of (c:=c) (U:=U) (g:=gm) (W0:=W0) hX.step.inv (fun b o hb hn=>(hX.held b hn).trans (p6 b o ((gx.o b (qe (fZ.o.hold b o (f0.o b o hb hn))) hn).trans (f0.o b o hb hn)) hn)) (R.o.hV X hX.v).1).sub ds.o);have eP: ∀Z g6,MidAt n0 c Vw g5 W8 g6 Z ah kn->StepEnd c U Vw all Jp Jx k0 ((rows.take (j+1)).flatMap rf).length gm Wm a kn aU Z:=fun Z g6 hM=>fk.o aU gh ac _ wr Z g6 ah _ gx.o iO.o jj iQ.o iR.o g5 W8 ah p1 p2 p3 p4 p6 p7 p8 p9 hM;have gE:MidAt n0 c Vw g5 W8 g5 W8 ah (qbq kn l true):=MidAt.refl p1 p5 p2;clear p1 p2 p3 p5 p6 p7 p8 p9;refine hd4 ?_ hf eN eP gE;clear hf eN eP gE;intro gj fh fj f2;gi_wp2;gi_loopw [220] (fun i' X=> ∃q':Nat,q'<=l.length/\i'=.int .i64 (q':Int)/\ClearIn n0 c Vw ah (qbq kn l true) l Xj.heap.size g5 W8 q' (.slice bg l.length cx) X) (fun i _=>l.length-(intOf i).toNat)
       case atStart=>exact⟨0,wA,rfl,g5,f2.o,gj.o⟩
       case round=>
        obtain⟨q',hF,rfl,hC⟩:=hrel;by_cases d0:q'<l.length
        ·have eU:(q':Int)<l.length:=by omega
         have eT:(0:Int)<=q':=wA
         obtain⟨p',aI⟩: ∃p',l[q']?=some p':=⟨_,zB d0⟩;have ck:p'<kn.length:=(zA.1 (aq.o p' (zH aI))).1;have eW:(p':Int)<kn.length:=wA
         have eV:(0:Int)<=p':=wA
         have ar:=hC.next R.o bR.o aI dI;obtain⟨g4,aa,a8⟩:=hC;obtain⟨b6,b9⟩: ∃b6,bg=some ⟨b6,0,none⟩:=by
          rcases a8.2 with e |⟨gb',cap,cur,e1',_⟩
          ·have:=e.2;omega
          ·injection e1' with e1' _ _;exact⟨_,e1'⟩
         subst b9;have dU:=qbd a8 q' _ (qpy aI);have ee:=zQ _ _ dU;have ca:=(fh.o g4 wr ah _ aa).2.2.2.2.2.2.2.2.2.2.2.2.2.2.2.2.2.1;have co:=zQ _ _ ca;have ag:=aa.step.inv.hold _ _ aa.wk.knr;have ig:=qe ag;have eQ:=qg ag p';obtain⟨bv,cd⟩: ∃bv,(qbq (qbq kn l true) (l.take q') false)[p']?=some bv:=⟨_,zB (by rw [qg7,qg7];exact ck)⟩;have cg:=qb ag p' (.bool bv) (by simp [zP,cd]);simp only [zD]at cg;clear ag cd;simp only at ee co;clear aa a8 aI;refine hd1 ?_ ar;clear ar;intro aD;gi_wp2;go_roundw
         case rel=>exact⟨q'+1,wA,by go_num,aD.o⟩
         case measure=>simp [intOf];omega
        ·obtain rfl:q'=l.length:=by omega
         obtain⟨g4,aa,-⟩:=hC;rw [zi,qmk aq.o]at aa;have bj:=fj.o wr g4 aa;clear aa;cases aU with
         |true=>
          refine hd1 ?_ bj;clear bj;intro bV;gi_wp2;go_roundw
          case rel=>exact⟨j+1,wA,by go_num,bV.o⟩
          case measure=>simp [intOf];omega
         |false=>
          have gX:=dr.o _ wr bj;clear bj;refine hd1 ?_ gX;clear gX;intro f9;gi_wp2;rw [Exit.noGoto_ret];go_ret;exact⟨_,rfl,f9.o⟩
    ·obtain rfl:j=rows.length:=by omega
     rw [zi]at dN;have cS:=ei.o true Xj dN;clear dN d1 hj;refine hd1 ?_ cS;clear cS;intro fi;gi_wp2;rw [Exit.noGoto_ret];go_ret;exact⟨_,rfl,fi.o⟩
end Go.Proofs
namespace Go.Proofs
open Go.RowKit Go.Ink R4
theorem q4r {n0 n1:Nat}{W0:World}{c:WkC}{t:qa7}{U:Nat->Prop}{z:Nat}{u:World->Prop}{all:List Asg}{p s:Nat->Gh->World->Prop}(g:qd4 n0 n1 W0 c t U z u all p s): ∀(d i:Nat),i+d=c.steps.length->qg8 n1 c t U u all p s i:=by
 intro d
 induction d with
 |zero=>
  intro i hi;obtain rfl:i=c.steps.length:=wA
  exact q4q g
 |succ d l=>
  intro i hi;have e:i<c.steps.length:=wA
  have l:=l (i+1) wA;obtain⟨q,y⟩: ∃q,c.steps[i]?=some q:=⟨_,zB e⟩;have x:=g.kinds q (g.steps q (zH y));unfold qbg at x;have b: ∀k,(c.r.body.getD q default).kind=k-> ∀m,c.steps[i]?=some m->(c.r.body.getD m default).kind=k:=fun k h m v=>by
   rw [y]at v;cases v;exact h
  rcases x with h |h |h
  ·exact qwl g e (b _ h) l
  ·exact qwj g e (b _ h) l
  ·exact q1a g e (b _ h) l
end Go.Proofs
namespace Go.Proofs
open Go.RowKit Go.Ink R4
attribute [local go_sem] Oper.semAt_some
def qc7 (body:List LitD)(i:Nat):Nat:=((body.take i).filter fun L=>L.kind==1).length
def qft (g:Gh)(s:Option Nat)(p:ByteArray)(n:Nat):Nat:=match s with
 |none=>0
 |some S=>match g.st S with
  |some f=>(qv f p n).length
  |none=>0
def qlt (stA:Nat->Option Nat)(stN:Option Nat)(body:List LitD)(i:Nat):Option Nat:=if (body.getD i default).kind=1 then stA (qc7 body i) else if (body.getD i default).kind=2 then stN else none
def qfi (g:Gh)(stA:Nat->Option Nat)(stN:Option Nat)(body:List LitD)(i:Nat):LookD:=⟨qlt stA stN body i,(body.getD i default).atom.pred,(body.getD i default).atom.args.length,qft g (qlt stA stN body i) (body.getD i default).atom.pred (body.getD i default).atom.args.length⟩
def qfz (g:Gh)(stA:Nat->Option Nat)(stN:Option Nat)(body:List LitD):List LookD:=(List.range body.length).map (qfi g stA stN body)
def okJ (g:Gh)(stA:Nat->Option Nat)(stN:Option Nat)(body:List LitD)(i:Nat):Bool:=(List.range i).all fun j=>!(decide ((body.getD j default).kind=1)) ||decide (0<(qfi g stA stN body j).upto)
theorem qs9 {body:List LitD}{i:Nat}{L:LitD}(h:body[i]?=some L):qc7 body (i+1)=qc7 body i+if L.kind=1 then 1 else 0:=by
 unfold qc7;rw [zh,h,yT,zR];by_cases b:L.kind=1
 ·simp [b]
 ·simp [b]
theorem q80 (body:List LitD)(i:Nat):qc7 body i<=i:=by
 unfold qc7;exact zW (yd _ _) (by rw [yC];omega)
theorem q1d {g:Gh}{stA:Nat->Option Nat}{stN:Option Nat}{body:List LitD}{i:Nat}(h:i<body.length):(qfz g stA stN body).take (i+1)=(qfz g stA stN body).take i++ [qfi g stA stN body i]:=by
 rw [zh];unfold qfz;rw [zP,xr h]
 rfl
theorem qky (g:Gh)(stA:Nat->Option Nat)(stN:Option Nat)(body:List LitD):(qfz g stA stN body).length=body.length:=by unfold qfz;simp
theorem q81 (g:Gh)(stA:Nat->Option Nat)(stN:Option Nat)(body:List LitD)(i:Nat):okJ g stA stN body (i+1)=(okJ g stA stN body i&&(!(decide ((body.getD i default).kind=1)) ||decide (0<(qfi g stA stN body i).upto))):=by
 unfold okJ;rw [xx,all_append];simp
def qdw:Nat->List Value
 |0=> []
 |n+1=> [.pointer none,.string ⟨#[]⟩,.int .i64 0,.int .i64 0]++qdw n
theorem q1e (n:Nat):(qdw n).length=n*4:=by
 induction n with
 |zero=>rfl
 |succ n ih=>rw [qdw,zR,ih];simp;omega
theorem qx0 (n:Nat):madeCells #[.pointer none,.string ⟨#[]⟩,.int .i64 0,.int .i64 0] (n*4)=(qdw n).toArray:=by
 apply Array.ext
 ·simp [madeCells,q1e]
 ·intro i e g;have d: ∀(n i:Nat) (h:i<(qdw n).length),(qdw n)[i]=([.pointer none,.string ⟨#[]⟩,.int .i64 0,.int .i64 0]:List Value)[i%4]'(Nat.mod_lt _ wD):=by
   intro n
   induction n with
   |zero=>intro i h;simp [qdw] at h
   |succ n ih=>
    intro i h;simp only [qdw];by_cases hi:i<4
    ·rw [getElem_append_left (by simpa using hi)];simp only [Nat.mod_eq_of_lt hi]
    ·rw [getElem_append_right (by simpa using hi)];simp only [length_cons,length_nil];rw [ih]
     congr 1
     omega
  simp only [getElem_toArray];rw [d];have c:i%4<4:=Nat.mod_lt _ wD;have b: ∀(l:List Value) (k:Nat) (h:k<l.length),l[k]?.getD default=l[k]:=fun l k h=>by rw [zB h];rfl
  simp [madeCells];exact b _ _ c
theorem q4s:(prog.info? 192).map (fun i=>(i.zero,i.size,i.bytes))=some (some (.agg #[.pointer none,.string ⟨#[]⟩,.int .i64 0,.int .i64 0]),4,40):=wB
theorem qtl (n:Nat)(h:n<=1073741824)(u:World):(Instr.makeSlice 184 (.int .i64 (n:Int)) (.int .i64 (n:Int))).run prog u=
  .ok (.slice (some ⟨u.heap.size,0,none⟩) n n) (u.alloc (.cells (qdw n).toArray 192)):=by
 obtain⟨i0,hi,b,c,d⟩:=info_parts q4s;have h:=run_make (P:=prog) u 184 192 i0 (.agg #[.pointer none,.string ⟨#[]⟩,.int .i64 0,.int .i64 0]) Tryz.underlying184 hi b .i64 .i64 (n:Int) (n:Int) wA (Int.le_refl _) (by rw [d];omega) wA;rw [←qx0]
 simpa [c,Value.cells]using h
theorem q4t (A C:List Value)(e b c d y:Value):(A++ [e,b,c,d]++C).set A.length y=A++ [y,b,c,d]++C:=by simp [set_append]
theorem q4u (A C:List Value)(b e c d y:Value):(A++ [b,e,c,d]++C).set (A.length+1) y=A++ [b,y,c,d]++C:=by simp [set_append]
theorem q4v (A C:List Value)(b c e d y:Value):(A++ [b,c,e,d]++C).set (A.length+2) y=A++ [b,c,y,d]++C:=by simp [set_append]
theorem q4w (A C:List Value)(b c d e y:Value):(A++ [b,c,d,e]++C).set (A.length+3) y=A++ [b,c,d,y]++C:=by simp [set_append]
theorem q82 (A C:List Value)(b c d e:Value)(j:Nat)(g:j<4):(A++ [b,c,d,e]++C)[A.length+j]?=([b,c,d,e]:List Value)[j]?:=by
 rw [yr,yH wA,show A.length+j-A.length=j from wA,yR (by simpa using g)]
def LookAt (w:World)(b:Nat)(ks:List LookD)(k:LookD)(m:Nat):Prop:=w.heap[b]?=some (.cells (ks.flatMap LookD.cells++k.cells++qdw m).toArray 192 (0,0))
theorem qhs (ks:List LookD):(ks.flatMap LookD.cells).length=ks.length*4:=by
 induction ks with
 |nil=>rfl
 |cons k ks ih=>rw [yF,zR,ih];simp [LookD.cells];omega
theorem LookAt.cells {w:World}{b:Nat}{ks:List LookD}{k:LookD}{m i:Nat}(h:LookAt w b ks k m)(hi:ks.length=i):w.cell? ⟨b,i*4,none⟩=some (qa1 k.store)/\w.cell? ⟨b,i*4+1,none⟩=some (.string k.pred)/\w.cell? ⟨b,i*4+2,none⟩=some (.int .i64 (k.arity:Int))/\w.cell? ⟨b,i*4+3,none⟩=some (.int .i64 (k.upto:Int)):=by
 have hA:(ks.flatMap LookD.cells).length=i*4:=by rw [qhs,hi]
 have q: ∀j v,j<4->k.cells[j]?=some v->w.cell? ⟨b,i*4+j,none⟩=some v:=fun j v c d=>by
  have:=qb h (i*4+j) v (by rw [←hA];exact(q82 _ _ _ _ _ _ j c).trans d)
  simpa using this
 exact⟨q 0 _ wD rfl,q 1 _ wD rfl,q 2 _ wD rfl,q 3 _ wD rfl⟩
theorem LookAt.keep {w w':World}{b:Nat}{ks:List LookD}{k:LookD}{m:Nat}{C:Nat->Prop}(h:LookAt w b ks k m)(hK:Keep C w w')(c:C b):LookAt w' b ks k m:=hK.heap h c
theorem LookAt.set0 {w:World}{b:Nat}{ks:List LookD}{k:LookD}{m i:Nat}(h:LookAt w b ks k m)(hi:ks.length=i)(s:Option Nat):LookAt (w.setCell ⟨b,i*4,none⟩ (qa1 s)) b ks {k with store:=s} m:=by
 have hA:(ks.flatMap LookD.cells).length=i*4:=by rw [qhs,hi]
 have:=qaj (i*4) (qa1 s) h;rw [yK,←hA]at this;unfold LookD.cells at this;rw [q4t]at this;rw [←hA];exact this
theorem LookAt.set1 {w:World}{b:Nat}{ks:List LookD}{k:LookD}{m i:Nat}(h:LookAt w b ks k m)(hi:ks.length=i)(s:ByteArray):LookAt (w.setCell ⟨b,i*4+1,none⟩ (.string s)) b ks {k with pred:=s} m:=by
 have hA:(ks.flatMap LookD.cells).length=i*4:=by rw [qhs,hi]
 have:=qaj (i*4+1) (.string s) h;rw [yK,←hA]at this;unfold LookD.cells at this;rw [q4u]at this;rw [←hA];exact this
theorem LookAt.set2 {w:World}{b:Nat}{ks:List LookD}{k:LookD}{m i:Nat}(h:LookAt w b ks k m)(hi:ks.length=i)(s:Nat):LookAt (w.setCell ⟨b,i*4+2,none⟩ (.int .i64 (s:Int))) b ks {k with arity:=s} m:=by
 have hA:(ks.flatMap LookD.cells).length=i*4:=by rw [qhs,hi]
 have:=qaj (i*4+2) (.int .i64 (s:Int)) h;rw [yK,←hA]at this;unfold LookD.cells at this;rw [q4v]at this;rw [←hA];exact this
theorem LookAt.set3 {w:World}{b:Nat}{ks:List LookD}{k:LookD}{m i:Nat}(h:LookAt w b ks k m)(hi:ks.length=i)(s:Nat):LookAt (w.setCell ⟨b,i*4+3,none⟩ (.int .i64 (s:Int))) b ks {k with upto:=s} m:=by
 have hA:(ks.flatMap LookD.cells).length=i*4:=by rw [qhs,hi]
 have:=qaj (i*4+3) (.int .i64 (s:Int)) h;rw [yK,←hA]at this;unfold LookD.cells at this;rw [q4w]at this;rw [←hA];exact this
end Go.Proofs
