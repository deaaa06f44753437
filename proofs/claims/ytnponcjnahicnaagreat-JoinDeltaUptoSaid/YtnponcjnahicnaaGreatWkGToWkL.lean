/- Parts of the proof. -/
import Derived.Test.YtnponcjnahicnaaGreatWkEToWkF
set_option linter.unusedSimpArgs false
set_option linter.unusedVariables false
set_option maxRecDepth 100000
set_option maxHeartbeats 4000000
open Go.Proofs.Tryz(prog)
open List(length_cons length_nil map_map)
namespace Go.Proofs
open Go.RowKit Go.Ink R4
attribute [local go_sem] Oper.semAt_some
theorem qwl {n0 n1:Nat}{W0:World}{c:WkC}{LJ:qbd}{U:Nat->Prop}{nU:Nat}{Vw:World->Prop}{all:List Asg}{Jp Jx:Nat->Gh->World->Prop}(hE:qeb n0 n1 W0 c LJ U nU Vw all Jp Jx){i:Nat}(hi:i<c.steps.length)(bI: ∀q,c.steps[i]?=some q->(c.r.body.getD q default).kind=2)(ih:qhc n1 c LJ U Vw all Jp Jx (i+1)):qhc n1 c LJ U Vw all Jp Jx i:=by
 intro k0 g W a vals kn hA;obtain⟨q,hq⟩: ∃q,c.steps[i]?=some q:=⟨_,zB hi⟩;have hB:=hA.held;have hg:=hA.inv;have dj:=(hE.hV W hA.v).2;obtain⟨L,k,sb,sc,ab,oa,cb,tb,ot,ct,al,ap,hL,hk,aH,da,cm,ae⟩:=qn9 hE hB hq;obtain⟨sp,ak⟩:=ex ((k.store.map fun S=>(⟨S,0,none⟩:Addr)));rw [ak]at ae;have dp:q<c.r.body.length:=(zA.1 hL).1;have aA:c.r.body.getD q default=L:=by rw [zJ,hL];rfl
 have bw:=bI q hq;rw [aA]at bw;obtain⟨kd,u⟩:=ex (L.kind);rw [u]at bw ae;subst bw;have cf:SameW c U g W0 W:=SameW.of hg (fun _ _ h _=>h) (hE.hV W hA.v).1;have bo: ∀X,wG W X->SameW c U g W0 X:=fun X hX=>cf.keep hX (fun _ _ _ _=>wH) (fun _ _=>wH) (fun b hb=>by have:=hE.hU b hb;omega);have Y: ∀X,wG W X->qgt c vals kn i q L k sb sc ab oa cb tb ot ct al ap nU sp 2 X:=fun X hX=>ae X (bo X hX);have ai:c.steps.drop i=q::c.steps.drop (i+1):=by rw [zt hi,(zA.1 hq).2]
 have cF:=Y W (Keep.refl _ _);have b1:=cF.1;have cs:=zQ _ _ b1;simp only at cs;have dk: ¬((i:Int)=(c.steps.length:Int)):=wC
 have df:(0:Int)<=i:=wC
 have dm:(i:Int)<c.steps.length:=wC
 have dn:i<1073741824:=by have:=hE.sfew;omega
 have dr:(0:Int)<=q:=wC
 have dc:(q:Int)<c.looks.length:=by rw [hE.looks];omega
 have dl:(q:Int)<c.r.body.length:=wC
 have aS:((i+1:Nat):Int)=(i:Int)+1:=wC
 clear cf cF;have aL:qq L=L.atom.args:=by unfold qq;rw [zF (by rw [u];omega)]
 have an: ∀t,t∈L.atom.args-> ∃y,qaa a t=some y:=fun t ht=>by
  have:=hA.way;rw [ai]at this;have:=this.2.1;rw [aA]at this;have:=this u t ht;unfold qaa;by_cases hv:t.var=true
  ·rw [zI hv];exact this hv
  ·rw [zF hv];exact⟨_,rfl⟩
 have ar:(qda c.vars L).map (qer vals)=L.atom.args.map (qaz a):=by
  unfold qda;rw [aL,map_map];refine xC fun t ht=>?_;obtain⟨y,hy⟩:=an t ht;unfold qaz;rw [hy,Function.comp,qn8 hA.asg (hE.vin L t aH (by rw [aL];exact ht)) hy]
  rfl
 have bd:(qda c.vars L).length=(qq L).length:=by unfold qda;rw [zL]
 have ah:(qq L).length=L.atom.args.length:=by rw [aL]
 have bz:vals.length<=1073741824:=by rw [hA.asg.lv];exact hE.few
 have a8: ∀X,wG W X->Calls prog 87 #[.slice al (qq L).length ap,qi c.Bt] X fun e w'=> ∃vo,e=.returned vo/\w'.ownsRow X.heap.size 9 1 vo L.atom.args.length ((L.atom.args.map (qaz a)).map .string)/\wG X w':=fun X hX=>by
  obtain⟨x1,x2,x3,x4,x5,x6,x7,x8,x9,az,aC,aF,ax,aI,aE,aG,aD,aw,am⟩:=Y X hX;have:=qo8 (hX.heap (hg.hold _ _ hB.t.1) wH) ((hB.vals hg).keep hX trivial wH) bz nU (.slice al (qq L).length ap) (qda c.vars L) am (by have:=hX.size;omega) (fun s hs=>by
   unfold qda at hs;obtain⟨t,ht,rfl⟩:=yL.1 hs;exact qpz (hE.vin L t aH ht) hA.asg.lv)
  rw [ar,bd,ah]at this;rw [ah];exact this
 obtain⟨qp,qa,-,qn⟩:=hA.look q L k hL hk;have qn:=qn u;have cx: ∀s,s∈L.atom.args.map (qaz a)->s.size<=1073741824:=fun s hs=>by
  obtain⟨t,ht,rfl⟩:=yL.1 hs;obtain⟨y,hy⟩:=an t ht;unfold qaz;rw [hy];unfold qaa at hy;by_cases hv:t.var=true
  ·rw [zI hv]at hy;exact hA.asg.small _ _ hy
  ·rw [zF hv]at hy;cases hy;exact hE.small L t aH (by rw [aL];exact ht)
 have bv:=hE.preds L aH;obtain⟨pl,ag⟩: ∃pl:Option Nat,(∀X vo,wG W X->qac X.heap.size X vo (L.atom.args.map (qaz a))->Calls prog 70 #[.pointer sp,.agg #[.string k.pred,.int .i64 (k.arity:Int)],vo] X fun e w'=>e=.returned (qle pl)/\wG X w')/\(L.atom.args.map (qaz a)∈LJ.neg q↔ ∃j,pl=some j/\j<k.upto)/\(∀j,pl=some j->j<1073741824):=by
  rcases qn with ⟨q1,q2⟩ |⟨S,f,q1,q2,q3,q4⟩
  ·refine⟨none,fun X vo hX aM=>?_,?_,fun j h=>by cases h⟩
   ·have:=qxr (k.pred,k.arity) vo X;rw [q1]at ak;rw [←ak];exact this
   ·rw [q2];constructor
    ·intro h;cases h
    ·rintro⟨j,h,_⟩;cases h
  ·refine⟨qfl (qv f k.pred k.arity) (L.atom.args.map (qaz a)),fun X vo hX aM=>?_,?_,fun j h=>?_⟩
   ·have:=qxs ((hg.keep hX.mt).store S f q2) k.pred k.arity (by rw [qp];exact bv) (by rw [qa,←ah];exact cm) X.heap.size vo _ aM (zG _) cx;rw [q1]at ak;rw [←ak];exact this
   ·rw [←q4,q01]
   ·have h1:=(zA.1 (qo7 h)).1;have h2:=qj2 f k.pred k.arity;obtain⟨T,M,MX,vx,xs,rl,hP⟩:=hg.store S f q2;have:=hP.few;omega
 have cv:q8 c.r.body [q]= []:=by rw [qdm,aA,zI (.inr u)]
 have ba:qbl LJ c.r.body (q::c.steps.drop (i+1)) a=if (∃j,pl=some j/\j<k.upto) then [] else qbl LJ c.r.body (c.steps.drop (i+1)) a:=by
  rw [show qbl LJ c.r.body (q::c.steps.drop (i+1)) a=if (c.r.body.getD q default).kind=3 then (if qaa a (c.r.body.getD q default).left=qaa a (c.r.body.getD q default).right then []else qbl LJ c.r.body (c.steps.drop (i+1)) a) else if (c.r.body.getD q default).kind=2 then (if (c.r.body.getD q default).atom.args.map (qaz a)∈LJ.neg q then []else qbl LJ c.r.body (c.steps.drop (i+1)) a) else _ from rfl,aA,zF (by rw [u];omega),zI u];by_cases h: ∃j,pl=some j/\j<k.upto
  ·rw [zI h,zI (ag.2.1.2 h)]
  ·rw [zF h,zF (fun e=>h (ag.2.1.1 e))]
 have bb:=ag.1;have bc:=ag.2.2;have bg:(L.atom.args.map (qaz a)).length=L.atom.args.length:=zL _;clear ag qn an ar qp qa aL cx bd;unfold WkC.bound;refine qb5 ?_ ak hA hB hg hE ae bo Y aS hL hk aH aA hq ai a8;clear ak hA hB hg hE ae bo Y aS hL hk aH aA hq ai a8;intro c1 bi dd di bl aR ch d av dg db c0 c2 de l bx;refine hd8 ?_ bb bc ba cv bg ah bv bz;clear bb bc ba cv bg ah bv bz;intro bh cO aj a9 aQ bm cW cR;refine qbr Tryz.func88 rfl ?_;simp only [Tryz.ntmps88,qd0,Nat.reduceAdd,Nat.reduceSub];gi_wp2;refine xe.2 ?_;refine wp_scope_straight ?_;refine(xe (n:=0)).1 ?_;gi_wp2;have cz:=d.o W.drew kDr;clear b1 cs;refine hd1 ?_ cz;clear cz;intro a6;refine qae ?_;refine qw rfl (fun X=>qgt c vals kn i q L k sb sc ab oa cb tb ot ct al ap nU sp 2 X) [] ?_;refine qy [0,1,2,3,4,5,6,7,8,9,10,11,12,13,14,15,16] ?_
 iterate 17
  refine tkR (v:=?_) rfl a6.o ?_ ?_;rotate_left
  ·rintro Wq ⟨x1,x2,x3,x4,x5,x6,x7,x8,x9,az,aC,aF,ax,aI,aE,aG,aD,aw,am⟩;go_simp
   try with_reducible rfl
  try simp only [qz]
 refine qm ?_;refine hoR 17 rfl fun K z=>?_;gi_wp2;refine z.o _ _ (fun _=>d.o _ (kDr.trans kAl)) ?_;refine hoR 18 rfl fun K p=>?_;gi_wp2;obtain⟨Nb,a1⟩:=ex (W.heap.size);obtain⟨W1,aN⟩:=ex ((W.alloc (.cells #[.pointer sp,.string k.pred,.int .i64 (k.arity:Int),.int .i64 (k.upto:Int)] 161)).drew);have k1:wG W W1:=by rw [←aN];exact kAl.trans kDr
 have cc:W1.heap[Nb]?=some (.cells #[.pointer sp,.string k.pred,.int .i64 (k.arity:Int),.int .i64 (k.upto:Int)] 161 (0,0)):=by rw [←aN,←a1];exact qh _ _
 have ci:=d.o W1 k1;have cw:=d.o W1.drew (k1.trans kDr);rw [aN,a1];refine hd6 ?_ k1 cc ci cw aN a1;clear k1 cc ci cw aN a1;intro b4 a5 aT a4 cC cE;refine p.o _ _ (fun _=>aT.o) ?_;refine qy [19] ?_
 iterate 1
  refine tkR (v:=?_) rfl aT.o ?_ ?_;rotate_left
  ·rintro Wq ⟨x1,x2,x3,x4,x5,x6,x7,x8,x9,az,aC,aF,ax,aI,aE,aG,aD,aw,am⟩;go_simp
   try with_reducible rfl
  try simp only [qz]
 refine qm ?_;refine ql wD (qo ?_);clear z p;gi_wp2;refine qae ?_;refine qw rfl (fun X=>qgt c vals kn i q L k sb sc ab oa cb tb ot ct al ap nU sp 2 X) [] ?_;refine qy [0,1,2,3,4,5,6,7,8,9,10,11] ?_
 iterate 12
  refine tkR (v:=?_) rfl a4.o ?_ ?_;rotate_left
  ·rintro Wq ⟨x1,x2,x3,x4,x5,x6,x7,x8,x9,az,aC,aF,ax,aI,aE,aG,aD,aw,am⟩;go_simp
   try with_reducible rfl
  try simp only [qz]
 refine qm ?_;refine ql wD (qo ?_);have bq:wG W W1.drew:=b4.o.trans kDr;have aJ:W1.drew.heap[Nb]?=some (.cells #[.pointer sp,.string k.pred,.int .i64 (k.arity:Int),.int .i64 (k.upto:Int)] 161 (0,0)):=a5.o;obtain⟨W2,b8⟩:=ex (W1.drew);rw [b8]at bq aJ⊢;clear b4 a5 aT a4 a6 cC b8 cE;refine hd2 ?_ bq aJ;clear bq aJ;intro aq bk;gi_wp2;have bD: ∀X,wG W2 X->(qgt c vals kn i q L k sb sc ab oa cb tb ot ct al ap nU sp 2 X/\X.cell? ⟨Nb,0,none⟩=some (.pointer sp)/\X.cell? ⟨Nb,1,none⟩=some (.string k.pred)/\X.cell? ⟨Nb,2,none⟩=some (.int .i64 (k.arity:Int))/\X.cell? ⟨Nb,3,none⟩=some (.int .i64 (k.upto:Int))):=fun X hX=>by
  have hb:=hX.heap bk.o trivial;have e0:=qb hb 0 _ rfl;have e1:=qb hb 1 _ rfl;have e2:=qb hb 2 _ rfl;have e3:=qb hb 3 _ rfl;simp only [zD]at e0 e1 e2 e3;exact⟨d.o X (aq.o.trans hX),e0,e1,e2,e3⟩
 have cu:=bD W2.drew kDr;refine hd2 ?_ bD cu;clear bD cu;intro a3 cg;refine qae ?_;refine qw rfl (fun X=>(qgt c vals kn i q L k sb sc ab oa cb tb ot ct al ap nU sp 2 X/\X.cell? ⟨Nb,0,none⟩=some (.pointer sp)/\X.cell? ⟨Nb,1,none⟩=some (.string k.pred)/\X.cell? ⟨Nb,2,none⟩=some (.int .i64 (k.arity:Int))/\X.cell? ⟨Nb,3,none⟩=some (.int .i64 (k.upto:Int)))) [] ?_;refine qy [0,1,2,3,4,5] ?_
 iterate 6
  refine tkR (v:=?_) rfl cg.o ?_ ?_;rotate_left
  ·rintro Wq ⟨⟨x1,x2,x3,x4,x5,x6,x7,x8,x9,az,aC,aF,ax,aI,aE,aG,aD,aw,am⟩,s1,s2,s3,s4⟩;go_simp
   try with_reducible rfl
  try simp only [qz]
 refine qm ?_;refine hoR 6 rfl fun K z=>?_;gi_wp2;refine⟨wH,rfl,(zU.2 (bx.o _ (aq.o.trans kDr))).mono ?_⟩;rintro e W3 ⟨vo,rfl,o3,k3⟩;have a2:wG W2 W3:=kDr.trans k3;have ck:=a3.o W3 a2;obtain⟨ao,co,rfl⟩:=qj o3;have aM:qac W3.heap.size W3 (.slice ao L.atom.args.length co) (L.atom.args.map (qaz a)):=by
  have b7:=o3;rw [←aQ.o]at b7⊢;exact qbq b7 (by rw [aQ.o,←bm.o];exact cm)
 have cq:=bh.o W3 _ (aq.o.trans a2) aM;clear k3 o3 aM;refine hd3 ?_ a2 ck cq;clear a2 ck cq;intro a7 cl ca;gi_wp2;refine z.o _ _ (fun _=>cl.o) ?_;refine hoR 7 rfl fun K p=>?_;gi_wp2;refine⟨wH,rfl,(zU.2 ca.o).mono ?_⟩;rintro e W4 ⟨rfl,k4⟩;have br:wG W W4:=(aq.o.trans a7.o).trans k4;have cd:=a3.o W4 (a7.o.trans k4);clear k4;have bf:SameW c U g W0 W4:=ch.o W4 br;refine hd3 ?_ cd br bf;clear cd br bf;intro ad af aO;clear qn;obtain⟨-,-,-,-,u3⟩:=ad.o;have cK:=zQ _ _ u3;simp only at cK;cases pl with
 |none=>
  unfold qle;gi_wp2;refine p.o _ _ (fun _=>ad.o) ?_;refine qy [8,9,10,11,12] ?_
  iterate 5
   refine tkR (v:=?_) rfl ad.o ?_ ?_;rotate_left
   ·rintro Wq ⟨⟨x1,x2,x3,x4,x5,x6,x7,x8,x9,az,aC,aF,ax,aI,aE,aG,aD,aw,am⟩,s1,s2,s3,s4⟩;go_simp
    try with_reducible rfl
   try simp only [qz]
  refine qm ?_;refine ql wD (qo ?_);clear z p;have R:=aj.o;rw [zF (fun h=>by obtain⟨j,h1,_⟩:=h;cases h1)]at R;have hc:=ih k0 g W4 a vals kn ((bi.o.own bl.o af.o).skip l.o a9.o R);rw [av.o]at hc;have bG:=(aR.o W4 aO.o).2.2.2.2.2.2.2.2.2.2.2.2.2.2.2.1;have bF:=zQ _ _ bG;simp only at bF;refine hd2 ?_ R hc;clear R hc;intro aU bu;gi_wp2;refine⟨wH,rfl,(zU.2 bu.o).mono ?_⟩;rintro e W5 ⟨bn,rfl,m⟩;have x:StepEnd c U Vw all Jp Jx k0 (qbl LJ c.r.body (c.steps.drop i) a).length g W a kn bn W5:=by
   rw [l.o,aU.o];exact m.from af.o.size
  clear m;refine hd1 ?_ x;clear x;intro aa;gi_wp2;rw [Exit.noGoto_ret];go_ret;exact⟨_,rfl,aa.o⟩
 |some j=>
  unfold qle;gi_wp2;refine p.o _ _ (fun _=>ad.o) ?_;refine qy [8,9,10,11,12] ?_
  iterate 5
   refine tkR (v:=?_) rfl ad.o ?_ ?_;rotate_left
   ·rintro Wq ⟨⟨x1,x2,x3,x4,x5,x6,x7,x8,x9,az,aC,aF,ax,aI,aE,aG,aD,aw,am⟩,s1,s2,s3,s4⟩;go_simp
    try with_reducible rfl
   try simp only [qz]
  refine qm ?_;refine ql wD (qo ?_);clear z p;have dq:(0:Int)<=j:=wC
  by_cases aZ:j<k.upto
  ·have cM:(j:Int)<k.upto:=by omega
   have m:StepEnd c U Vw all Jp Jx k0 (qbl LJ c.r.body (c.steps.drop i) a).length g W a kn true W4:=by
    rw [l.o,aj.o,zI ⟨j,rfl,aZ⟩];exact StepEnd.none bl.o bi.o af.o
   clear aZ;refine hd1 ?_ m;clear m;intro bt;gi_wp2;refine⟨fun _ h=>(by cases h),?_⟩;rename_i aK r1 r2 r3 r4;refine aK _ _ ?_;clear aK r4;gi_wp2;rw [Exit.noGoto_ret];go_ret;exact⟨_,rfl,bt.o⟩
  have cM: ¬((j:Int)<k.upto):=wC
  have R:=aj.o;rw [zF (fun h=>by obtain⟨j',h1,h2⟩:=h;cases h1;exact aZ h2)]at R;clear aZ;have hc:=ih k0 g W4 a vals kn ((bi.o.own bl.o af.o).skip l.o a9.o R);rw [av.o]at hc;have bG:=(aR.o W4 aO.o).2.2.2.2.2.2.2.2.2.2.2.2.2.2.2.1;have bF:=zQ _ _ bG;simp only at bF;refine hd2 ?_ R hc;clear R hc;intro aU bu;gi_wp2;refine⟨wH,rfl,(zU.2 bu.o).mono ?_⟩;rintro e W5 ⟨bn,rfl,m⟩;have x:StepEnd c U Vw all Jp Jx k0 (qbl LJ c.r.body (c.steps.drop i) a).length g W a kn bn W5:=by
   rw [l.o,aU.o];exact m.from af.o.size
  clear m;refine hd1 ?_ x;clear x;intro aa;gi_wp2;rw [Exit.noGoto_ret];go_ret;exact⟨_,rfl,aa.o⟩
end Go.Proofs
namespace Go.Proofs
open Go.RowKit Go.Ink R4
theorem MidAt.loose {n0 n1:Nat}{W0:World}{c:WkC}{u:qbd}{U:Nat->Prop}{x:Nat}{m:World->Prop}{all:List Asg}{q y:Nat->Gh->World->Prop}(z:qeb n0 n1 W0 c u U x m all q y){g0 g:Gh}{d X Y:World}{vals:List ByteArray}{p:List Bool}(h:MidAt n0 c m g0 d g X vals p)(s: ∀b,U b->b<d.heap.size)(hK:Keep (fun b=>b<d.heap.size∨ ¬g.free b) X Y):MidAt n0 c m g0 d g Y vals p:=by
 refine⟨⟨?_,h.step.more,h.step.new,h.step.held,h.step.inv.keep (hK.mono fun b _ e=>.inr e)⟩,h.st,h.tag,h.held,h.wk,z.hVk X Y _ h.v hK (fun b e=>.inl (s b e))⟩;have r:Keep (fun b=>g0.free b/\b<d.heap.size) d X:=h.step.keep.mono fun b _ l=>l.1;have t:Keep (fun b=>g0.free b/\b<d.heap.size) X Y:=hK.mono fun b _ l=>.inl l.2;exact(r.trans t).mono fun b e l=>⟨l,e⟩
theorem MidAt.fresh {n0:Nat}{c:WkC}{m:World->Prop}{g0 g:Gh}{d X:World}{vals:List ByteArray}{p:List Bool}(h:MidAt n0 c m g0 d g X vals p)(l:GInv g0 d)(r:c.V<d.heap.size)(hK:c.K<d.heap.size){b:Nat}(q:d.heap.size<=b):g.free b:=by
 refine⟨?_,?_⟩
 ·rw [h.tag];cases e:g0.tag b with
  |none=>rfl
  |some T=>have:=l.lt b T e;omega
 ·rw [h.held b ⟨wC,wC⟩];cases e:g0.held b with
  |none=>rfl
  |some T=>have:=qe (l.hold b T e);omega
theorem qp3 {b:List Nat}{q p:Nat}(h:b[q]?=some p):(b.map fun p:Nat=>Value.int .i64 (p:Int))[q]?=some (.int .i64 (p:Int)):=by rw [zP,h];rfl
theorem SameW.sub {c:WkC}{U:Nat->Prop}{g d:Gh}{W0 X:World}(h:SameW c U d W0 X)(m: ∀b o,g.held b=some o->d.held b=some o):SameW c U g W0 X:=⟨fun b o l e=>h.1 b o (m b o l) e,h.2⟩
theorem q6i {a:Asg}: ∀{ts:List TermD} {k:Nat} {s:ByteArray},s∈(qar a ts k).map (·.2)-> ∃t,t∈ts/\qaa a t=some s:=by
 intro ts
 induction ts with
 |nil=>intro k s h;cases h
 |cons t ts ih=>
  intro k s h;unfold qar at h;split at h
  ·rename_i y hy;rw [yZ]at h;rcases zw.1 h with rfl |h
   ·exact⟨t,yJ ..,hy⟩
   ·obtain⟨u,b,c⟩:=ih h;exact⟨u,yD _ b,c⟩
  ·obtain⟨u,b,c⟩:=ih h;exact⟨u,yD _ b,c⟩
theorem q03 {c:WkC}{vals:List ByteArray}{d:List Bool}{a:Asg}(h:qcs c.vars vals d a){t:TermD}(e:t.text.size<=1073741824){s:ByteArray}(b:qaa a t=some s):s.size<=1073741824:=by
 unfold qaa at b;split at b
 ·exact h.small _ _ b
 ·cases b;exact e
theorem q04 {α β:Type}(f:α->List β){l:List α}{j:Nat}{x:α}(h:l[j]?=some x){r:Nat}{b:β}(c:(f x)[r]?=some b):(l.flatMap f)[((l.take j).flatMap f).length+r]?=some b:=by
 obtain⟨g,d⟩:=zA.1 h;have e:l.flatMap f=(l.take j).flatMap f++(f x++(l.drop (j+1)).flatMap f):=by
  conv=>lhs;rw [←yy j l,zt g,d]
  rw [yG,yF]
 rw [e,yH wC,Nat.add_sub_cancel_left,yS (zA.1 c).1];exact c
theorem q79 {w:World}{base:Nat}{e:TypeId}{sz n:Nat}{v:Value}{xs:List Value}(h:w.ownsRow base e sz v n xs):n<=maxLen:=by
 rcases h.2 with e |⟨gb,cap,cur,e1,e2,e3,e4,e5,e6⟩
 ·rw [e.2];exact yc _
 ·exact zW e4 e5
def RowsHeld (c:WkC)(gm:Gh)(Wm:World)(v:Value)(tss:List (List ByteArray)):Prop:=
 ∃us:List Value,us.length=tss.length/\Wm.ownsRow 0 46 1 v us.length us/\(∀b,v.ownBlock=some b->gm.held b=Wm.heap[b]?/\c.nv b)/\
  ∀(k:Nat) (u:Value) (t:List ByteArray),us[k]?=some u->tss[k]?=some t->Wm.ownsRow 0 9 1 u t.length (t.map .string)/\ ∀b,u.ownBlock=some b->gm.held b=Wm.heap[b]?/\c.nv b
theorem qtd {c:WkC}{U:Nat->Prop}{e:Gh}{W0 d X:World}(l:SameW c U e W0 X){b:Nat}(h:e.held b=d.heap[b]?/\c.nv b)(g:b<d.heap.size):X.heap[b]?=d.heap[b]?:=by
 obtain⟨o,ho⟩: ∃o,d.heap[b]?=some o:=⟨_,xT g⟩;rw [ho];exact l.1 b o (h.1.trans ho) h.2
theorem RowsHeld.get {c:WkC}{U:Nat->Prop}{s:Gh}{W0 Wm:World}{v:Value}{d:List (List ByteArray)}(h:RowsHeld c s Wm v d): ∃av cv,v=.slice av d.length cv/\d.length<=maxLen/\ ∀(j:Nat) (t:List ByteArray),d[j]?=some t-> ∃gb ua uc,av=some ⟨gb,0,none⟩/\(∀X,SameW c U s W0 X->X.cell? ⟨gb,j,none⟩=some (.slice ua t.length uc))/\
  ∀(cc:Nat) (y:ByteArray),t[cc]?=some y-> ∃ub,ua=some ⟨ub,0,none⟩/\ ∀X,SameW c U s W0 X->X.cell? ⟨ub,cc,none⟩=some (.string y):=by
 obtain⟨z,r,m,h3,h4⟩:=h;obtain⟨av,cv,rfl⟩:=qj m;refine⟨av,cv,by rw [r],by rw [←r];exact q79 m,fun j t x=>?_⟩;have g:j<z.length:=by rw [r];exact(zA.1 x).1
 obtain⟨u,Y⟩: ∃u,z[j]?=some u:=⟨_,zB g⟩;obtain⟨p,h6⟩:=h4 j u t Y x;obtain⟨ua,uc,rfl⟩:=qj p;rcases m.2 with e |⟨gb,cap,cur,e1,e2,e3,e4⟩
 ·rw [e.2]at g;cases g
 injection e1 with e1 _ _
 subst e1;refine⟨gb,ua,uc,rfl,fun X q=>qcp (qp2 m fun b l=>qtd q (h3 b l) (zE m b l).2) j _ Y,fun cc y R=>?_⟩;rcases p.2 with e |⟨ub,cap,cur,e1,e2,e3,e4⟩
 ·have:=(zA.1 R).1;have e5:=e.2;omega
 injection e1 with e1 _ _
 subst e1;refine⟨ub,rfl,fun X q=>qcp (qp2 p fun b l=>qtd q (h6 b l) (zE p b l).2) cc _ (by rw [zP,R];rfl)⟩
def RowIn (n0:Nat)(c:WkC)(Vw:World->Prop)(a:Asg)(kn:List Bool)(ts:List TermD)(t:List ByteArray)(g0:Gh)(X0:World)(cc:Nat)(x:Value)(X:World):Prop:=
 ∃g vals' ac mine,MidAt n0 c Vw g0 X0 g X vals' (qbv kn mine true)/\qbg a (ts.take cc) (t.take cc)=some ac/\qcs c.vars vals' (qbv kn mine true) ac/\(∀p,p∈mine->kn[p]?=some false)/\mine.length<=cc/\X.ownsRow X0.heap.size 3 1 x mine.length (mine.map fun p:Nat=>Value.int .i64 (p:Int))
theorem RowIn.start {n0:Nat}{c:WkC}{e:World->Prop}{a:Asg}{d:List Bool}{ts:List TermD}{t:List ByteArray}{g0:Gh}{b:World}{vals:List ByteArray}(l:GInv g0 b)(m:WkHeld c g0 vals d)(q:e b)(h:qcs c.vars vals d a):RowIn n0 c e a d ts t g0 b 0 (.slice none 0 0) b:=
 ⟨g0,vals,a,[],MidAt.refl l m q,rfl,h,fun p g=>(by cases g),zG _,zj _ _ _ _⟩
def ClearIn (n0:Nat)(c:WkC)(Vw:World->Prop)(vals:List ByteArray)(kn':List Bool)(mine:List Nat)(B:Nat)(g0:Gh)(X0:World)(q:Nat)(x:Value)(X:World):Prop:=
 ∃g,MidAt n0 c Vw g0 X0 g X vals (qbv kn' (mine.take q) false)/\X.ownsRow B 3 1 x mine.length (mine.map fun p:Nat=>Value.int .i64 (p:Int))
theorem ClearIn.next {n0 n1:Nat}{W0:World}{c:WkC}{LJ:qbd}{U:Nat->Prop}{R:Nat}{m:World->Prop}{all:List Asg}{y Y:Nat->Gh->World->Prop}(hE:qeb n0 n1 W0 c LJ U R m all y Y)(l: ¬U c.K){vals:List ByteArray}{e:List Bool}{d:List Nat}{B:Nat}{g0:Gh}{s X:World}{q p:Nat}{x:Value}(h:ClearIn n0 c m vals e d B g0 s q x X)(u:d[q]?=some p)(hB:c.K<B):
  ClearIn n0 c m vals e d B g0 s (q+1) x (X.setCell ⟨c.K,p,none⟩ (.bool false)):=by
 obtain⟨g,z,r⟩:=h;obtain⟨v,h3⟩:=z.setK hE l p false;refine⟨v,?_,qf r (Keep.setCell (C:=fun b=>b≠c.K) _ _ _ wE) (fun b t=>by have:=(zE r b t).1;omega)⟩;rw [zh,u,Option.toList_some,qrk];exact h3
theorem qwm {n0 n1:Nat}{W0:World}{c:WkC}{LJ:qbd}{U:Nat->Prop}{nU:Nat}{x:World->Prop}{all:List Asg}{s u:Nat->Gh->World->Prop}(hE:qeb n0 n1 W0 c LJ U nU x all s u){X m:Nat}{t q g6:Gh}{R Y Z:World}{a:Asg}{y:List Bool}{p:Bool}{g:List ByteArray}
  (hz:R.heap.size<=Y.heap.size) (hu: ∀b,U b->q.free b) (z: ∀b,U b->b<Y.heap.size) (hh: ∀b o,t.held b=some o->c.nv b->q.held b=some o) (hs: ∀S f,t.st S=some f-> ∃d,q.st S=some (f++d)) (hj:(p=true/\s (X+m) q Y)∨(p=false/\ ∃k,k<all.length/\u k q Y))
  (l:MidAt n0 c x q Y g6 Z g y) (ha:qcs c.vars g y a):StepEnd c U x all s u X m t R a y p Z:=by
 refine⟨g6,g,l.step.inv,l.v,fun b r=>l.free hu z b r,zW hz l.step.keep.size,l.wk,fun b o r hn=>(l.held b hn).trans (hh b o r hn),fun S f hS=>by rw [l.st];exact hs S f hS,ha,?_⟩;rcases hj with ⟨e,h⟩ |⟨e,k,hk,h⟩
 ·exact .inl ⟨e,hE.hJ _ _ _ _ _ h ⟨l.step,l.st⟩⟩
 ·exact .inr ⟨e,k,hk,hE.hJx _ _ _ _ _ h ⟨l.step,l.st⟩⟩
theorem RowIn.same {n0 n1:Nat}{W0:World}{c:WkC}{LJ:qbd}{U:Nat->Prop}{R:Nat}{q:World->Prop}{all:List Asg}{s Jx:Nat->Gh->World->Prop}(hE:qeb n0 n1 W0 c LJ U R q all s Jx){a l:Asg}{h:List Bool}{ts:List TermD}{t:List ByteArray}{g0 g:Gh}{m X Y:World}{e:Nat}{x:Value}{d:List ByteArray}{b:List Nat}
  (u:MidAt n0 c q g0 m g X d (qbv h b true)) (v:qbg a (ts.take e) (t.take e)=some l) (h3:qcs c.vars d (qbv h b true) l) (h4: ∀p,p∈b->h[p]?=some false) (h5:b.length<=e) (h6:X.ownsRow m.heap.size 3 1 x b.length (b.map fun p:Nat=>Value.int .i64 (p:Int)))
  {tt:TermD} {y:ByteArray} (r:ts[e]?=some tt) (hx:t[e]?=some y) (z:qaa l tt=some y) (hK:wG X Y):RowIn n0 c q a h ts t g0 m (e+1) x Y:=
 ⟨g,d,l,b,u.own hE hK,(qky r hx v).1 y z rfl,h3,h4,wC,qf h6 hK (fun _ _=>wH)⟩
theorem RowIn.bind {n0 n1:Nat}{W0:World}{c:WkC}{LJ:qbd}{U:Nat->Prop}{nU:Nat}{Vw:World->Prop}{all:List Asg}{Jp Jx:Nat->Gh->World->Prop}(x:qeb n0 n1 W0 c LJ U nU Vw all Jp Jx)(ab: ¬U c.K)(ae: ¬U c.V){a z:Asg}{q:List Bool}{ts:List TermD}{t:List ByteArray}{g0 g:Gh}{m X Y:World}{u:Nat}{x':Value}{h:List ByteArray}{d:List Nat}
  (h1:MidAt n0 c Vw g0 m g X h (qbv q d true)) (h2:qbg a (ts.take u) (t.take u)=some z) (h3:qcs c.vars h (qbv q d true) z) (h4: ∀p,p∈d->q[p]?=some false) (h5:d.length<=u)
  (aa:GInv g0 m) (hV:c.V<m.heap.size) (R:c.K<m.heap.size) (ag: ∀b,U b->b<m.heap.size)
  {tt:TermD} {y:ByteArray} {p:Nat} (ht:ts[u]?=some tt) (hx:t[u]?=some y) (hy:qaa z tt=none) (hp:c.vars[p]?=some tt.text) (l:(qbv q d true)[p]?=some false) (hs:y.size<=1073741824)
  (hK:Keep (fun b=>b<m.heap.size) ((X.setCell ⟨c.K,p,none⟩ (.bool true)).setCell ⟨c.V,p,none⟩ (.string y)) Y)
  (h6:Y.ownsRow m.heap.size 3 1 x' (d.length+1) ((d.map fun p:Nat=>Value.int .i64 (p:Int))++ [.int .i64 (p:Int)])):RowIn n0 c Vw a q ts t g0 m (u+1) x' Y:=by
 obtain⟨g1,q1⟩:=h1.setK x ab p true;obtain⟨g2,q2⟩:=q1.setV x ae p y;have q3:=q2.loose (Y:=Y) x ag (hK.mono fun b _ v=>by
  rcases v with v |v
  ·exact v
  ·exact Nat.lt_of_not_le fun af=>v (q2.fresh aa hV R af))
 have e:qbv q (d++ [p]) true=(qbv q d true).set p true:=qrk _ _ _ _;refine⟨g2,_,qfv z tt.text y,d++ [p],by rw [e];exact q3,(qky ht hx h2).2.1 hy,by rw [e];exact qwi x.nodup h3 hp y hs,fun r s=>?_,by rw [zR];simp only [length_cons,length_nil];omega,by rw [zR,zn];exact h6⟩;rcases zr.1 s with s |s
 ·exact h4 r s
 ·rw [zm]at s;subst s;rw [qp1]at l;split at l
  ·cases l
  ·exact l
theorem RowIn.on {n0 n1:Nat}{W0:World}{c:WkC}{R:qbd}{U:Nat->Prop}{nU:Nat}{Vw:World->Prop}{all:List Asg}{Jp Jx:Nat->Gh->World->Prop}(hE:qeb n0 n1 W0 c R U nU Vw all Jp Jx){i k0 m q:Nat}{a:Asg}{kn:List Bool}{ts:List TermD}{t:List ByteArray}{g0 gm:Gh}{s X Wm:World}{x:Value}{L:LitD}{vals:List ByteArray}
  (hA:StepAt n1 c R U Vw all Jp i k0 gm Wm a vals kn) (y:c.steps.drop i=q::c.steps.drop (i+1)) (ar:c.r.body.getD q default=L) (hk:L.kind=1) (aq:L.atom.args=ts)
  (ap:GInv g0 s) (av: ∀b,U b->g0.free b) (ad: ∀b,U b->b<s.heap.size) (hz:Wm.heap.size<=s.heap.size) (hs: ∀S f,gm.st S=some f-> ∃d,g0.st S=some (f++d)) (hj:Jp (k0+m) g0 s)
  (u: ∀ac,qbg a ts t=some ac-> ∀(r:Nat) (b:Asg),(qbl R c.r.body (c.steps.drop (i+1)) ac)[r]?=some b->all[k0+m+r]?=some b)
  (aa:ts.length=t.length) (hV:c.V<s.heap.size) (aE:c.K<s.heap.size) (h:RowIn n0 c Vw a kn ts t g0 s ts.length x X):
  ∃gh vals' ac mine,StepAt n1 c R U Vw all Jp (i+1) (k0+m) gh X ac vals' (qbv kn mine true)/\(∀b,b<s.heap.size->c.nv b->gh.held b=g0.held b)/\(∀S f,gm.st S=some f-> ∃d,gh.st S=some (f++d))/\(∀p,p∈mine->kn[p]?=some false)/\mine.length<=ts.length/\
   X.ownsRow s.heap.size 3 1 x mine.length (mine.map fun p:Nat=>Value.int .i64 (p:Int))/\(∀b,x.ownBlock=some b->gh.held b=X.heap[b]?/\c.nv b)/\qho R c.r.body ts (c.steps.drop (i+1)) a t=qbl R c.r.body (c.steps.drop (i+1)) ac/\ExtA a ac:=by
 obtain⟨g,vals',ac,mine,h1,h2,h3,h4,h5,h6⟩:=h;rw [zi,aa,zi]at h2;obtain⟨ag,l,-⟩:=qfk h2;have hn:n0<=s.heap.size:=zW hE.n01 (zW hA.n hz);obtain⟨g',p1,p2,p3,p4,p5,p6,p7⟩:=h1.hold ap hn;have hw:=hA.way;have hf:=hA.full;rw [y]at hw hf;have hw:=hw.2.2;have ab:q8 c.r.body [q]=qaj ts:=by rw [qdm,ar,zF wC,aq]
 rw [ab]at hw;have e:q8 c.r.body (q::c.steps.drop (i+1))=q8 c.r.body [q]++q8 c.r.body (c.steps.drop (i+1)):=by unfold q8;simp
 rw [e,ab]at hf;have hd:(fun x=> ∃v,ac x=some v)=fun x=>(∃v,a x=some v)∨x∈qaj ts:=wB fun x=>propext (l x);have Y: ∀S f,gm.st S=some f-> ∃d,g'.st S=some (f++d):=fun S f hS=>by rw [p2];exact hs S f hS
 refine⟨g',vals',ac,mine,⟨p1.inv,h1.v,fun b z=>p7 b (ad b z) (h1.free av ad b z),p4,hA.look.more Y,h3,by rw [hd];exact hw,fun x hx=>?_,fun r b hr=>u ac h2 r b hr,hE.hJ _ _ _ _ _ hj ⟨p1,p2⟩,zW hA.n (zW hz p1.keep.size)⟩,fun b z hn=>p3 b hn z,Y,h4,h5,h6,fun b z=>?_,?_,ag⟩
 ·rcases hf x hx with h |h
  ·exact .inl ((l x).2 (.inl h))
  ·rcases zr.1 h with h |h
   ·exact .inl ((l x).2 (.inr h))
   ·exact .inr h
 ·have hl:=zE h6 b z;have af:c.nv b:=⟨wC,wC⟩;obtain⟨o,ho⟩: ∃o,X.heap[b]?=some o:=⟨_,xT hl.2⟩;exact⟨by rw [ho];exact p5 b o hl.1 af ho,af⟩
 ·unfold qho;rw [h2]
end Go.Proofs
