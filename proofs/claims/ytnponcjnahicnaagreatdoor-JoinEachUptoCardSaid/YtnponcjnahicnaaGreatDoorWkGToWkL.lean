/- Parts of the proof. -/
import Derived.Test.YtnponcjnahicnaaGreatDoorWkBToWkF
set_option linter.unusedSimpArgs false
set_option linter.unusedVariables false
set_option maxRecDepth 100000
set_option maxHeartbeats 4000000
open Go.Proofs.Tryz(prog)
open List(length_cons length_nil map_map)
namespace Go.Proofs
open Go.RowKit Go.Ink R4
attribute [local go_sem] Oper.semAt_some
theorem qwj {n0 n1:Nat}{W0:World}{c:WkC}{LJ:qa7}{U:Nat->Prop}{nU:Nat}{Vw:World->Prop}{all:List Asg}{Jp Jx:Nat->Gh->World->Prop}(hE:qd4 n0 n1 W0 c LJ U nU Vw all Jp Jx){i:Nat}(hi:i<c.steps.length)(bn: ∀q,c.steps[i]?=some q->(c.r.body.getD q default).kind=2)(ih:qg8 n1 c LJ U Vw all Jp Jx (i+1)):qg8 n1 c LJ U Vw all Jp Jx i:=by
 intro k0 g W a vals kn hA;obtain⟨q,hq⟩: ∃q,c.steps[i]?=some q:=⟨_,zB hi⟩;have hB:=hA.held;have hg:=hA.inv;have dm:=(hE.hV W hA.v).2;obtain⟨L,k,sb,sc,ab,oa,cb,tb,ot,ct,am,an,hL,hk,ay,dg,ch,ah⟩:=qoa hE hB hq;obtain⟨sp,al⟩:=ex ((k.store.map fun S=>(⟨S,0,none⟩:Addr)));rw [al]at ah;have dl:q<c.r.body.length:=(zA.1 hL).1;have ax:c.r.body.getD q default=L:=by rw [zJ,hL];rfl
 have bm:=bn q hq;rw [ax]at bm;obtain⟨kd,x⟩:=ex (L.kind);rw [x]at bm ah;subst bm;have ck:SameW c U g W0 W:=SameW.of hg (fun _ _ h _=>h) (hE.hV W hA.v).1;have bq: ∀X,wE W X->SameW c U g W0 X:=fun X hX=>ck.keep hX (fun _ _ _ _=>wF) (fun _ _=>wF) (fun b hb=>by have:=hE.hU b hb;omega);have Y: ∀X,wE W X->qgt c vals kn i q L k sb sc ab oa cb tb ot ct am an nU sp 2 X:=fun X hX=>ah X (bq X hX);have aj:c.steps.drop i=q::c.steps.drop (i+1):=by rw [zt hi,(zA.1 hq).2]
 have b7:=Y W (Keep.refl _ _);have b1:=b7.1;have cn:=zQ _ _ b1;simp only at cn;have dn: ¬((i:Int)=(c.steps.length:Int)):=wA
 have dh:(0:Int)<=i:=wA
 have di:(i:Int)<c.steps.length:=wA
 have dj:i<1073741824:=by have:=hE.sfew;omega
 have dp:(0:Int)<=q:=wA
 have dq:(q:Int)<c.looks.length:=by rw [hE.looks];omega
 have dr:(q:Int)<c.r.body.length:=wA
 have aG:((i+1:Nat):Int)=(i:Int)+1:=wA
 clear ck b7;have aE:qm L=L.atom.args:=by unfold qm;rw [zF (by rw [x];omega)]
 have ak: ∀t,t∈L.atom.args-> ∃y,qab a t=some y:=fun t ht=>by
  have:=hA.way;rw [aj]at this;have:=this.2.1;rw [ax]at this;have:=this x t ht;unfold qab;by_cases hv:t.var=true
  ·rw [zI hv];exact this hv
  ·rw [zF hv];exact⟨_,rfl⟩
 have au:(qc5 c.vars L).map (qej vals)=L.atom.args.map (qa2 a):=by
  unfold qc5;rw [aE,map_map];refine xA fun t ht=>?_;obtain⟨y,hy⟩:=ak t ht;unfold qa2;rw [hy,Function.comp,qn9 hA.asg (hE.vin L t ay (by rw [aE];exact ht)) hy]
  rfl
 have a2:(qc5 c.vars L).length=(qm L).length:=by unfold qc5;rw [zL]
 have af:(qm L).length=L.atom.args.length:=by rw [aE]
 have bo:vals.length<=1073741824:=by rw [hA.asg.lv];exact hE.few
 have a7: ∀X,wE W X->Calls prog 121 #[.slice am (qm L).length an,qk c.Bt] X fun e w'=> ∃vo,e=.returned vo/\w'.ownsRow X.heap.size 9 1 vo L.atom.args.length ((L.atom.args.map (qa2 a)).map .string)/\wE X w':=fun X hX=>by
  obtain⟨x1,x2,x3,x4,x5,x6,x7,x8,x9,bw,bx,bz,bD,bF,bG,bH,bI,bJ,aU⟩:=Y X hX;have:=qo4 (hX.heap (hg.hold _ _ hB.t.1) wF) ((hB.vals hg).keep hX trivial wF) bo nU (.slice am (qm L).length an) (qc5 c.vars L) aU (by have:=hX.size;omega) (fun s hs=>by
   unfold qc5 at hs;obtain⟨t,ht,rfl⟩:=yL.1 hs;exact qpu (hE.vin L t ay ht) hA.asg.lv)
  rw [au,a2,af]at this;rw [af];exact this
 obtain⟨qp,qa,-,qn⟩:=hA.look q L k hL hk;have qn:=qn x;have cl: ∀s,s∈L.atom.args.map (qa2 a)->s.size<=1073741824:=fun s hs=>by
  obtain⟨t,ht,rfl⟩:=yL.1 hs;obtain⟨y,hy⟩:=ak t ht;unfold qa2;rw [hy];unfold qab at hy;by_cases hv:t.var=true
  ·rw [zI hv]at hy;exact hA.asg.small _ _ hy
  ·rw [zF hv]at hy;cases hy;exact hE.small L t ay (by rw [aE];exact ht)
 have bp:=hE.preds L ay;obtain⟨pl,ag⟩: ∃pl:Option Nat,(∀X vo,wE W X->qaf X.heap.size X vo (L.atom.args.map (qa2 a))->Calls prog 95 #[.pointer sp,.agg #[.string k.pred,.int .i64 (k.arity:Int)],vo] X fun e w'=>e=.returned (qld pl)/\wE X w')/\(L.atom.args.map (qa2 a)∈LJ.neg q↔ ∃j,pl=some j/\j<k.upto)/\(∀j,pl=some j->j<1073741824):=by
  rcases qn with ⟨q1,q2⟩ |⟨S,f,q1,q2,q3,q4⟩
  ·refine⟨none,fun X vo hX aH=>?_,?_,fun j h=>by cases h⟩
   ·have:=qxr (k.pred,k.arity) vo X;rw [q1]at al;rw [←al];exact this
   ·rw [q2];constructor
    ·intro h;cases h
    ·rintro⟨j,h,_⟩;cases h
  ·refine⟨qfg (qv f k.pred k.arity) (L.atom.args.map (qa2 a)),fun X vo hX aH=>?_,?_,fun j h=>?_⟩
   ·have:=qxs ((hg.keep hX.mt).store S f q2) k.pred k.arity (by rw [qp];exact bp) (by rw [qa,←af];exact ch) X.heap.size vo _ aH (zG _) cl;rw [q1]at al;rw [←al];exact this
   ·rw [←q4,q09]
   ·have h1:=(zA.1 (qo3 h)).1;have h2:=ql4 f k.pred k.arity;obtain⟨T,M,MX,vx,xs,rl,hP⟩:=hg.store S f q2;have:=hP.few;omega
 have ci:q8 c.r.body [q]= []:=by rw [qdg,ax,zI (.inr x)]
 have a5:qbe LJ c.r.body (q::c.steps.drop (i+1)) a=if (∃j,pl=some j/\j<k.upto) then [] else qbe LJ c.r.body (c.steps.drop (i+1)) a:=by
  rw [show qbe LJ c.r.body (q::c.steps.drop (i+1)) a=if (c.r.body.getD q default).kind=3 then (if qab a (c.r.body.getD q default).left=qab a (c.r.body.getD q default).right then []else qbe LJ c.r.body (c.steps.drop (i+1)) a) else if (c.r.body.getD q default).kind=2 then (if (c.r.body.getD q default).atom.args.map (qa2 a)∈LJ.neg q then []else qbe LJ c.r.body (c.steps.drop (i+1)) a) else _ from rfl,ax,zF (by rw [x];omega),zI x];by_cases h: ∃j,pl=some j/\j<k.upto
  ·rw [zI h,zI (ag.2.1.2 h)]
  ·rw [zF h,zF (fun e=>h (ag.2.1.1 e))]
 have a3:=ag.1;have a4:=ag.2.2;have a1:(L.atom.args.map (qa2 a)).length=L.atom.args.length:=zL _;clear ag qn ak au qp qa aE cl a2;unfold WkC.bound;refine qby ?_ al hA hB hg hE ah bq Y aG hL hk ay ax hq aj a7;clear al hA hB hg hE ah bq Y aG hL hk ay ax hq aj a7;intro cV a8 da dc a9 aB bW l ap db dd cS cR de d bf;refine hd8 ?_ a3 a4 a5 ci a1 af bp bo;clear a3 a4 a5 ci a1 af bp bo;intro bd cC ai aY aA bc cU cT;refine qbr Tryz.func122 rfl ?_;simp only [Tryz.ntmps122,qdy,Nat.reduceAdd,Nat.reduceSub];gi_wp2;refine xc.2 ?_;refine wp_scope_straight ?_;refine(xc (n:=0)).1 ?_;gi_wp2;have b8:=l.o W.drew kDr;clear b1 cn;refine hd1 ?_ b8;clear b8;intro aV;refine qag ?_;refine qw rfl (fun X=>qgt c vals kn i q L k sb sc ab oa cb tb ot ct am an nU sp 2 X) [] ?_;refine qq [0,1,2,3,4,5,6,7,8,9,10,11,12,13,14,15,16] ?_
 iterate 17
  refine tkB rfl aV.o ?_
  try simp only [qr]
 refine ql ?_;refine hoR 17 rfl fun K z=>?_;gi_wp2;refine z.o _ _ (fun _=>l.o _ (kDr.trans kAl)) ?_;refine hoR 18 rfl fun K p=>?_;gi_wp2;obtain⟨Nb,aP⟩:=ex (W.heap.size);obtain⟨W1,aF⟩:=ex ((W.alloc (.cells #[.pointer sp,.string k.pred,.int .i64 (k.arity:Int),.int .i64 (k.upto:Int)] 192)).drew);have k1:wE W W1:=by rw [←aF];exact kAl.trans kDr
 have cp:W1.heap[Nb]?=some (.cells #[.pointer sp,.string k.pred,.int .i64 (k.arity:Int),.int .i64 (k.upto:Int)] 192 (0,0)):=by rw [←aF,←aP];exact qh _ _
 have b9:=l.o W1 k1;have ca:=l.o W1.drew (k1.trans kDr);rw [aF,aP];refine hd6 ?_ k1 cp b9 ca aF aP;clear k1 cp b9 ca aF aP;intro b0 a0 az aW bU bQ;refine p.o _ _ (fun _=>az.o) ?_;refine qq [19] ?_
 iterate 1
  refine tkB rfl az.o ?_
  try simp only [qr]
 refine ql ?_;refine qz wB (qah ?_);clear z p;gi_wp2;refine qag ?_;refine qw rfl (fun X=>qgt c vals kn i q L k sb sc ab oa cb tb ot ct am an nU sp 2 X) [] ?_;refine qq [0,1,2,3,4,5,6,7,8,9,10,11] ?_
 iterate 12
  refine tkB rfl aW.o ?_
  try simp only [qr]
 refine ql ?_;refine qz wB (qah ?_);have br:wE W W1.drew:=b0.o.trans kDr;have aI:W1.drew.heap[Nb]?=some (.cells #[.pointer sp,.string k.pred,.int .i64 (k.arity:Int),.int .i64 (k.upto:Int)] 192 (0,0)):=a0.o;obtain⟨W2,cf⟩:=ex (W1.drew);rw [cf]at br aI⊢;clear b0 a0 az aW aV bU cf bQ;refine hd2 ?_ br aI;clear br aI;intro aq bg;gi_wp2;have bi: ∀X,wE W2 X->(qgt c vals kn i q L k sb sc ab oa cb tb ot ct am an nU sp 2 X/\X.cell? ⟨Nb,0,none⟩=some (.pointer sp)/\X.cell? ⟨Nb,1,none⟩=some (.string k.pred)/\X.cell? ⟨Nb,2,none⟩=some (.int .i64 (k.arity:Int))/\X.cell? ⟨Nb,3,none⟩=some (.int .i64 (k.upto:Int))):=fun X hX=>by
  have hb:=hX.heap bg.o trivial;have e0:=qb hb 0 _ rfl;have e1:=qb hb 1 _ rfl;have e2:=qb hb 2 _ rfl;have e3:=qb hb 3 _ rfl;simp only [zD]at e0 e1 e2 e3;exact⟨l.o X (aq.o.trans hX),e0,e1,e2,e3⟩
 have cc:=bi W2.drew kDr;refine hd2 ?_ bi cc;clear bi cc;intro aX bR;refine qag ?_;refine qw rfl (fun X=>(qgt c vals kn i q L k sb sc ab oa cb tb ot ct am an nU sp 2 X/\X.cell? ⟨Nb,0,none⟩=some (.pointer sp)/\X.cell? ⟨Nb,1,none⟩=some (.string k.pred)/\X.cell? ⟨Nb,2,none⟩=some (.int .i64 (k.arity:Int))/\X.cell? ⟨Nb,3,none⟩=some (.int .i64 (k.upto:Int)))) [] ?_;refine qq [0,1,2,3,4,5] ?_
 iterate 6
  refine tkR (v:=?_) rfl bR.o ?_ ?_;rotate_left
  ·rintro Wq ⟨⟨x1,x2,x3,x4,x5,x6,x7,x8,x9,bw,bx,bz,bD,bF,bG,bH,bI,bJ,aU⟩,s1,s2,s3,s4⟩;go_simp
   try with_reducible rfl
  try simp only [qr]
 refine ql ?_;refine hoR 6 rfl fun K z=>?_;gi_wp2;refine⟨wF,rfl,(zU.2 (bf.o _ (aq.o.trans kDr))).mono ?_⟩;rintro e W3 ⟨vo,rfl,o3,k3⟩;have aT:wE W2 W3:=kDr.trans k3;have cd:=aX.o W3 aT;obtain⟨ao,co,rfl⟩:=qi o3;have aH:qaf W3.heap.size W3 (.slice ao L.atom.args.length co) (L.atom.args.map (qa2 a)):=by
  have cq:=o3;rw [←aA.o]at cq⊢;exact qbj cq (by rw [aA.o,←bc.o];exact ch)
 have cg:=bd.o W3 _ (aq.o.trans aT) aH;clear k3 o3 aH;refine hd3 ?_ aT cd cg;clear aT cd cg;intro aZ bS bV;gi_wp2;refine z.o _ _ (fun _=>bS.o) ?_;refine hoR 7 rfl fun K p=>?_;gi_wp2;refine⟨wF,rfl,(zU.2 bV.o).mono ?_⟩;rintro e W4 ⟨rfl,k4⟩;have bs:wE W W4:=(aq.o.trans aZ.o).trans k4;have ce:=aX.o W4 (aZ.o.trans k4);clear k4;have a6:SameW c U g W0 W4:=bW.o W4 bs;refine hd3 ?_ ce bs a6;clear ce bs a6;intro ad ae aD;clear qn;obtain⟨-,-,-,-,u3⟩:=ad.o;have cG:=zQ _ _ u3;simp only at cG;cases pl with
 |none=>
  unfold qld;gi_wp2;refine p.o _ _ (fun _=>ad.o) ?_;refine qq [8,9,10,11,12] ?_
  iterate 5
   refine tkR (v:=?_) rfl ad.o ?_ ?_;rotate_left
   ·rintro Wq ⟨⟨x1,x2,x3,x4,x5,x6,x7,x8,x9,bw,bx,bz,bD,bF,bG,bH,bI,bJ,aU⟩,s1,s2,s3,s4⟩;go_simp
    try with_reducible rfl
   try simp only [qr]
  refine ql ?_;refine qz wB (qah ?_);clear z p;have aa:=ai.o;rw [zF (fun h=>by obtain⟨j,h1,_⟩:=h;cases h1)]at aa;have hc:=ih k0 g W4 a vals kn ((a8.o.own a9.o ae.o).skip d.o aY.o aa);rw [ap.o]at hc;have bj:=(aB.o W4 aD.o).2.2.2.2.2.2.2.2.2.2.2.2.2.2.2.1;have bt:=zQ _ _ bj;simp only at bt;refine hd2 ?_ aa hc;clear aa hc;intro aC ba;gi_wp2;refine⟨wF,rfl,(zU.2 ba.o).mono ?_⟩;rintro e W5 ⟨bh,rfl,m⟩;have u:StepEnd c U Vw all Jp Jx k0 (qbe LJ c.r.body (c.steps.drop i) a).length g W a kn bh W5:=by
   rw [d.o,aC.o];exact m.from ae.o.size
  clear m;refine hd1 ?_ u;clear u;intro R;gi_wp2;rw [Exit.noGoto_ret];go_ret;exact⟨_,rfl,R.o⟩
 |some j=>
  unfold qld;gi_wp2;refine p.o _ _ (fun _=>ad.o) ?_;refine qq [8,9,10,11,12] ?_
  iterate 5
   refine tkR (v:=?_) rfl ad.o ?_ ?_;rotate_left
   ·rintro Wq ⟨⟨x1,x2,x3,x4,x5,x6,x7,x8,x9,bw,bx,bz,bD,bF,bG,bH,bI,bJ,aU⟩,s1,s2,s3,s4⟩;go_simp
    try with_reducible rfl
   try simp only [qr]
  refine ql ?_;refine qz wB (qah ?_);clear z p;have dk:(0:Int)<=j:=wA
  by_cases aQ:j<k.upto
  ·have cD:(j:Int)<k.upto:=by omega
   have m:StepEnd c U Vw all Jp Jx k0 (qbe LJ c.r.body (c.steps.drop i) a).length g W a kn true W4:=by
    rw [d.o,ai.o,zI ⟨j,rfl,aQ⟩];exact StepEnd.none a9.o a8.o ae.o
   clear aQ;refine hd1 ?_ m;clear m;intro bb;gi_wp2;refine⟨fun _ h=>(by cases h),?_⟩;rename_i aK r1 r2 r3 r4;refine aK _ _ ?_;clear aK r4;gi_wp2;rw [Exit.noGoto_ret];go_ret;exact⟨_,rfl,bb.o⟩
  have cD: ¬((j:Int)<k.upto):=wA
  have aa:=ai.o;rw [zF (fun h=>by obtain⟨j',h1,h2⟩:=h;cases h1;exact aQ h2)]at aa;clear aQ;have hc:=ih k0 g W4 a vals kn ((a8.o.own a9.o ae.o).skip d.o aY.o aa);rw [ap.o]at hc;have bj:=(aB.o W4 aD.o).2.2.2.2.2.2.2.2.2.2.2.2.2.2.2.1;have bt:=zQ _ _ bj;simp only at bt;refine hd2 ?_ aa hc;clear aa hc;intro aC ba;gi_wp2;refine⟨wF,rfl,(zU.2 ba.o).mono ?_⟩;rintro e W5 ⟨bh,rfl,m⟩;have u:StepEnd c U Vw all Jp Jx k0 (qbe LJ c.r.body (c.steps.drop i) a).length g W a kn bh W5:=by
   rw [d.o,aC.o];exact m.from ae.o.size
  clear m;refine hd1 ?_ u;clear u;intro R;gi_wp2;rw [Exit.noGoto_ret];go_ret;exact⟨_,rfl,R.o⟩
end Go.Proofs
namespace Go.Proofs
open Go.RowKit Go.Ink R4
theorem MidAt.loose {n0 n1:Nat}{W0:World}{c:WkC}{u:qa7}{U:Nat->Prop}{nU:Nat}{p:World->Prop}{all:List Asg}{s t:Nat->Gh->World->Prop}(z:qd4 n0 n1 W0 c u U nU p all s t){m g:Gh}{d X Y:World}{vals:List ByteArray}{q:List Bool}(h:MidAt n0 c p m d g X vals q)(R: ∀b,U b->b<d.heap.size)(hK:Keep (fun b=>b<d.heap.size∨ ¬g.free b) X Y):MidAt n0 c p m d g Y vals q:=by
 refine⟨⟨?_,h.step.more,h.step.new,h.step.held,h.step.inv.keep (hK.mono fun b _ e=>.inr e)⟩,h.st,h.tag,h.held,h.wk,z.hVk X Y _ h.v hK (fun b e=>.inl (R b e))⟩;have x:Keep (fun b=>m.free b/\b<d.heap.size) d X:=h.step.keep.mono fun b _ l=>l.1;have y:Keep (fun b=>m.free b/\b<d.heap.size) X Y:=hK.mono fun b _ l=>.inl l.2;exact(x.trans y).mono fun b e l=>⟨l,e⟩
theorem MidAt.fresh {n0:Nat}{c:WkC}{p:World->Prop}{m g:Gh}{d X:World}{vals:List ByteArray}{q:List Bool}(h:MidAt n0 c p m d g X vals q)(l:GInv m d)(s:c.V<d.heap.size)(hK:c.K<d.heap.size){b:Nat}(t:d.heap.size<=b):g.free b:=by
 refine⟨?_,?_⟩
 ·rw [h.tag];cases e:m.tag b with
  |none=>rfl
  |some T=>have:=l.lt b T e;omega
 ·rw [h.held b ⟨wA,wA⟩];cases e:m.held b with
  |none=>rfl
  |some T=>have:=qe (l.hold b T e);omega
theorem qpy {b:List Nat}{q p:Nat}(h:b[q]?=some p):(b.map fun p:Nat=>Value.int .i64 (p:Int))[q]?=some (.int .i64 (p:Int)):=by rw [zP,h];rfl
theorem SameW.sub {c:WkC}{U:Nat->Prop}{g d:Gh}{W0 X:World}(h:SameW c U d W0 X)(m: ∀b o,g.held b=some o->d.held b=some o):SameW c U g W0 X:=⟨fun b o e l=>h.1 b o (m b o e) l,h.2⟩
theorem q67 {a:Asg}: ∀{ts:List TermD} {k:Nat} {s:ByteArray},s∈(qav a ts k).map (·.2)-> ∃t,t∈ts/\qab a t=some s:=by
 intro ts
 induction ts with
 |nil=>intro k s h;cases h
 |cons t ts ih=>
  intro k s h;unfold qav at h;split at h
  ·rename_i y hy;rw [yX]at h;rcases zw.1 h with rfl |h
   ·exact⟨t,yJ ..,hy⟩
   ·obtain⟨u,b,c⟩:=ih h;exact⟨u,yD _ b,c⟩
  ·obtain⟨u,b,c⟩:=ih h;exact⟨u,yD _ b,c⟩
theorem q1b {c:WkC}{vals:List ByteArray}{e:List Bool}{a:Asg}(h:qck c.vars vals e a){t:TermD}(d:t.text.size<=1073741824){s:ByteArray}(b:qab a t=some s):s.size<=1073741824:=by
 unfold qab at b;split at b
 ·exact h.small _ _ b
 ·cases b;exact d
theorem q1c {α β:Type}(f:α->List β){l:List α}{j:Nat}{x:α}(h:l[j]?=some x){r:Nat}{b:β}(c:(f x)[r]?=some b):(l.flatMap f)[((l.take j).flatMap f).length+r]?=some b:=by
 obtain⟨d,g⟩:=zA.1 h;have e:l.flatMap f=(l.take j).flatMap f++(f x++(l.drop (j+1)).flatMap f):=by
  conv=>lhs;rw [←yw j l,zt d,g]
  rw [yG,yF]
 rw [e,yH wA,Nat.add_sub_cancel_left,yR (zA.1 c).1];exact c
theorem q8z {w:World}{base:Nat}{e:TypeId}{sz n:Nat}{v:Value}{xs:List Value}(h:w.ownsRow base e sz v n xs):n<=maxLen:=by
 rcases h.2 with e |⟨gb,cap,cur,e1,e2,e3,e4,e5,e6⟩
 ·rw [e.2];exact ya _
 ·exact zW e4 e5
def RowsHeld (c:WkC)(gm:Gh)(Wm:World)(v:Value)(tss:List (List ByteArray)):Prop:=
 ∃us:List Value,us.length=tss.length/\Wm.ownsRow 0 60 1 v us.length us/\(∀b,v.ownBlock=some b->gm.held b=Wm.heap[b]?/\c.nv b)/\
  ∀(k:Nat) (u:Value) (t:List ByteArray),us[k]?=some u->tss[k]?=some t->Wm.ownsRow 0 9 1 u t.length (t.map .string)/\ ∀b,u.ownBlock=some b->gm.held b=Wm.heap[b]?/\c.nv b
theorem qs8 {c:WkC}{U:Nat->Prop}{e:Gh}{W0 d X:World}(g:SameW c U e W0 X){b:Nat}(h:e.held b=d.heap[b]?/\c.nv b)(l:b<d.heap.size):X.heap[b]?=d.heap[b]?:=by
 obtain⟨o,ho⟩: ∃o,d.heap[b]?=some o:=⟨_,xR l⟩;rw [ho];exact g.1 b o (h.1.trans ho) h.2
theorem RowsHeld.get {c:WkC}{U:Nat->Prop}{q:Gh}{W0 Wm:World}{v:Value}{d:List (List ByteArray)}(h:RowsHeld c q Wm v d): ∃av cv,v=.slice av d.length cv/\d.length<=maxLen/\ ∀(j:Nat) (t:List ByteArray),d[j]?=some t-> ∃gb ua uc,av=some ⟨gb,0,none⟩/\(∀X,SameW c U q W0 X->X.cell? ⟨gb,j,none⟩=some (.slice ua t.length uc))/\
  ∀(cc:Nat) (y:ByteArray),t[cc]?=some y-> ∃ub,ua=some ⟨ub,0,none⟩/\ ∀X,SameW c U q W0 X->X.cell? ⟨ub,cc,none⟩=some (.string y):=by
 obtain⟨us,s,l,h3,h4⟩:=h;obtain⟨av,cv,rfl⟩:=qi l;refine⟨av,cv,by rw [s],by rw [←s];exact q8z l,fun j t z=>?_⟩;have g:j<us.length:=by rw [s];exact(zA.1 z).1
 obtain⟨u,R⟩: ∃u,us[j]?=some u:=⟨_,zB g⟩;obtain⟨p,h6⟩:=h4 j u t R z;obtain⟨ua,uc,rfl⟩:=qi p;rcases l.2 with e |⟨gb,cap,cur,e1,e2,e3,e4⟩
 ·rw [e.2]at g;cases g
 injection e1 with e1 _ _
 subst e1;refine⟨gb,ua,uc,rfl,fun X x=>qbd (qpx l fun b m=>qs8 x (h3 b m) (zE l b m).2) j _ R,fun cc y Y=>?_⟩;rcases p.2 with e |⟨ub,cap,cur,e1,e2,e3,e4⟩
 ·have:=(zA.1 Y).1;have e5:=e.2;omega
 injection e1 with e1 _ _
 subst e1;refine⟨ub,rfl,fun X x=>qbd (qpx p fun b m=>qs8 x (h6 b m) (zE p b m).2) cc _ (by rw [zP,Y];rfl)⟩
def RowIn (n0:Nat)(c:WkC)(Vw:World->Prop)(a:Asg)(kn:List Bool)(ts:List TermD)(t:List ByteArray)(g0:Gh)(X0:World)(cc:Nat)(x:Value)(X:World):Prop:=
 ∃g vals' ac mine,MidAt n0 c Vw g0 X0 g X vals' (qbq kn mine true)/\qbb a (ts.take cc) (t.take cc)=some ac/\qck c.vars vals' (qbq kn mine true) ac/\(∀p,p∈mine->kn[p]?=some false)/\mine.length<=cc/\X.ownsRow X0.heap.size 3 1 x mine.length (mine.map fun p:Nat=>Value.int .i64 (p:Int))
theorem RowIn.start {n0:Nat}{c:WkC}{g:World->Prop}{a:Asg}{e:List Bool}{ts:List TermD}{t:List ByteArray}{d:Gh}{b:World}{vals:List ByteArray}(l:GInv d b)(s:WkHeld c d vals e)(q:g b)(h:qck c.vars vals e a):RowIn n0 c g a e ts t d b 0 (.slice none 0 0) b:=
 ⟨d,vals,a,[],MidAt.refl l s q,rfl,h,fun p m=>(by cases m),zG _,zj _ _ _ _⟩
def ClearIn (n0:Nat)(c:WkC)(Vw:World->Prop)(vals:List ByteArray)(kn':List Bool)(mine:List Nat)(B:Nat)(g0:Gh)(X0:World)(q:Nat)(x:Value)(X:World):Prop:=
 ∃g,MidAt n0 c Vw g0 X0 g X vals (qbq kn' (mine.take q) false)/\X.ownsRow B 3 1 x mine.length (mine.map fun p:Nat=>Value.int .i64 (p:Int))
theorem ClearIn.next {n0 n1:Nat}{W0:World}{c:WkC}{z:qa7}{U:Nat->Prop}{nU:Nat}{l:World->Prop}{all:List Asg}{v y:Nat->Gh->World->Prop}(hE:qd4 n0 n1 W0 c z U nU l all v y)(m: ¬U c.K){vals:List ByteArray}{e:List Bool}{d:List Nat}{B:Nat}{t:Gh}{s X:World}{q p:Nat}{x:Value}(h:ClearIn n0 c l vals e d B t s q x X)(hq:d[q]?=some p)(hB:c.K<B):
  ClearIn n0 c l vals e d B t s (q+1) x (X.setCell ⟨c.K,p,none⟩ (.bool false)):=by
 obtain⟨g,Y,u⟩:=h;obtain⟨R,h3⟩:=Y.setK hE m p false;refine⟨R,?_,qf u (Keep.setCell (C:=fun b=>b≠c.K) _ _ _ wC) (fun b hb=>by have:=(zE u b hb).1;omega)⟩;rw [zh,hq,Option.toList_some,qrg];exact h3
theorem qwk {n0 n1:Nat}{W0:World}{c:WkC}{LJ:qa7}{U:Nat->Prop}{nU:Nat}{u:World->Prop}{all:List Asg}{s t:Nat->Gh->World->Prop}(hE:qd4 n0 n1 W0 c LJ U nU u all s t){k0 m:Nat}{x q g6:Gh}{Wm Y Z:World}{a:Asg}{R:List Bool}{p:Bool}{g:List ByteArray}
  (hz:Wm.heap.size<=Y.heap.size) (hu: ∀b,U b->q.free b) (y: ∀b,U b->b<Y.heap.size) (hh: ∀b o,x.held b=some o->c.nv b->q.held b=some o) (hs: ∀S f,x.st S=some f-> ∃d,q.st S=some (f++d)) (hj:(p=true/\s (k0+m) q Y)∨(p=false/\ ∃k,k<all.length/\t k q Y))
  (l:MidAt n0 c u q Y g6 Z g R) (ha:qck c.vars g R a):StepEnd c U u all s t k0 m x Wm a R p Z:=by
 refine⟨g6,g,l.step.inv,l.v,fun b z=>l.free hu y b z,zW hz l.step.keep.size,l.wk,fun b o z hn=>(l.held b hn).trans (hh b o z hn),fun S f hS=>by rw [l.st];exact hs S f hS,ha,?_⟩;rcases hj with ⟨e,h⟩ |⟨e,k,hk,h⟩
 ·exact .inl ⟨e,hE.hJ _ _ _ _ _ h ⟨l.step,l.st⟩⟩
 ·exact .inr ⟨e,k,hk,hE.hJx _ _ _ _ _ h ⟨l.step,l.st⟩⟩
theorem RowIn.same {n0 n1:Nat}{W0:World}{c:WkC}{z:qa7}{U:Nat->Prop}{nU:Nat}{m:World->Prop}{all:List Asg}{u v:Nat->Gh->World->Prop}(hE:qd4 n0 n1 W0 c z U nU m all u v){a h:Asg}{l:List Bool}{ts:List TermD}{t:List ByteArray}{s g:Gh}{q X Y:World}{e:Nat}{x:Value}{d:List ByteArray}{b:List Nat}
  (R:MidAt n0 c m s q g X d (qbq l b true)) (h2:qbb a (ts.take e) (t.take e)=some h) (h3:qck c.vars d (qbq l b true) h) (h4: ∀p,p∈b->l[p]?=some false) (h5:b.length<=e) (h6:X.ownsRow q.heap.size 3 1 x b.length (b.map fun p:Nat=>Value.int .i64 (p:Int)))
  {tt:TermD} {y:ByteArray} (ht:ts[e]?=some tt) (hx:t[e]?=some y) (hy:qab h tt=some y) (hK:wE X Y):RowIn n0 c m a l ts t s q (e+1) x Y:=
 ⟨g,d,h,b,R.own hE hK,(qkx ht hx h2).1 y hy rfl,h3,h4,wA,qf h6 hK (fun _ _=>wF)⟩
theorem RowIn.bind {n0 n1:Nat}{W0:World}{c:WkC}{LJ:qa7}{U:Nat->Prop}{nU:Nat}{R:World->Prop}{all:List Asg}{Jp Jx:Nat->Gh->World->Prop}(z:qd4 n0 n1 W0 c LJ U nU R all Jp Jx)(ad: ¬U c.K)(ae: ¬U c.V){a x:Asg}{q:List Bool}{ts:List TermD}{t:List ByteArray}{g0 g:Gh}{m X Y:World}{s:Nat}{x':Value}{h:List ByteArray}{d:List Nat}
  (h1:MidAt n0 c R g0 m g X h (qbq q d true)) (h2:qbb a (ts.take s) (t.take s)=some x) (h3:qck c.vars h (qbq q d true) x) (h4: ∀p,p∈d->q[p]?=some false) (h5:d.length<=s)
  (ag:GInv g0 m) (hV:c.V<m.heap.size) (ab:c.K<m.heap.size) (af: ∀b,U b->b<m.heap.size)
  {tt:TermD} {y:ByteArray} {p:Nat} (ht:ts[s]?=some tt) (hx:t[s]?=some y) (hy:qab x tt=none) (hp:c.vars[p]?=some tt.text) (l:(qbq q d true)[p]?=some false) (hs:y.size<=1073741824)
  (hK:Keep (fun b=>b<m.heap.size) ((X.setCell ⟨c.K,p,none⟩ (.bool true)).setCell ⟨c.V,p,none⟩ (.string y)) Y)
  (h6:Y.ownsRow m.heap.size 3 1 x' (d.length+1) ((d.map fun p:Nat=>Value.int .i64 (p:Int))++ [.int .i64 (p:Int)])):RowIn n0 c R a q ts t g0 m (s+1) x' Y:=by
 obtain⟨g1,q1⟩:=h1.setK z ad p true;obtain⟨g2,q2⟩:=q1.setV z ae p y;have q3:=q2.loose (Y:=Y) z af (hK.mono fun b _ v=>by
  rcases v with v |v
  ·exact v
  ·exact Nat.lt_of_not_le fun ah=>v (q2.fresh ag hV ab ah))
 have e:qbq q (d++ [p]) true=(qbq q d true).set p true:=qrg _ _ _ _;refine⟨g2,_,qfs x tt.text y,d++ [p],by rw [e];exact q3,(qkx ht hx h2).2.1 hy,by rw [e];exact qwg z.nodup h3 hp y hs,fun r u=>?_,by rw [zR];simp only [length_cons,length_nil];omega,by rw [zR,zn];exact h6⟩;rcases zr.1 u with u |u
 ·exact h4 r u
 ·rw [zm]at u;subst u;rw [qpw]at l;split at l
  ·cases l
  ·exact l
theorem RowIn.on {n0 n1:Nat}{W0:World}{c:WkC}{z:qa7}{U:Nat->Prop}{nU:Nat}{Vw:World->Prop}{all:List Asg}{Jp Jx:Nat->Gh->World->Prop}(hE:qd4 n0 n1 W0 c z U nU Vw all Jp Jx){i k0 m q:Nat}{a:Asg}{kn:List Bool}{ts:List TermD}{t:List ByteArray}{R gm:Gh}{s X Wm:World}{x:Value}{L:LitD}{vals:List ByteArray}
  (hA:StepAt n1 c z U Vw all Jp i k0 gm Wm a vals kn) (u:c.steps.drop i=q::c.steps.drop (i+1)) (ap:c.r.body.getD q default=L) (hk:L.kind=1) (av:L.atom.args=ts)
  (ar:GInv R s) (aw: ∀b,U b->R.free b) (aa: ∀b,U b->b<s.heap.size) (hz:Wm.heap.size<=s.heap.size) (hs: ∀S f,gm.st S=some f-> ∃d,R.st S=some (f++d)) (hj:Jp (k0+m) R s)
  (y: ∀ac,qbb a ts t=some ac-> ∀(r:Nat) (b:Asg),(qbe z c.r.body (c.steps.drop (i+1)) ac)[r]?=some b->all[k0+m+r]?=some b)
  (ad:ts.length=t.length) (hV:c.V<s.heap.size) (aH:c.K<s.heap.size) (h:RowIn n0 c Vw a kn ts t R s ts.length x X):
  ∃gh vals' ac mine,StepAt n1 c z U Vw all Jp (i+1) (k0+m) gh X ac vals' (qbq kn mine true)/\(∀b,b<s.heap.size->c.nv b->gh.held b=R.held b)/\(∀S f,gm.st S=some f-> ∃d,gh.st S=some (f++d))/\(∀p,p∈mine->kn[p]?=some false)/\mine.length<=ts.length/\
   X.ownsRow s.heap.size 3 1 x mine.length (mine.map fun p:Nat=>Value.int .i64 (p:Int))/\(∀b,x.ownBlock=some b->gh.held b=X.heap[b]?/\c.nv b)/\qhr z c.r.body ts (c.steps.drop (i+1)) a t=qbe z c.r.body (c.steps.drop (i+1)) ac/\ExtA a ac:=by
 obtain⟨g,vals',ac,mine,h1,h2,h3,h4,h5,h6⟩:=h;rw [zi,ad,zi]at h2;obtain⟨ab,l,-⟩:=qfh h2;have hn:n0<=s.heap.size:=zW hE.n01 (zW hA.n hz);obtain⟨g',p1,p2,p3,p4,p5,p6,p7⟩:=h1.hold ar hn;have hw:=hA.way;have hf:=hA.full;rw [u]at hw hf;have hw:=hw.2.2;have af:q8 c.r.body [q]=qal ts:=by rw [qdg,ap,zF wA,av]
 rw [af]at hw;have e:q8 c.r.body (q::c.steps.drop (i+1))=q8 c.r.body [q]++q8 c.r.body (c.steps.drop (i+1)):=by unfold q8;simp
 rw [e,af]at hf;have hd:(fun x=> ∃v,ac x=some v)=fun x=>(∃v,a x=some v)∨x∈qal ts:=xz fun x=>propext (l x);have ag: ∀S f,gm.st S=some f-> ∃d,g'.st S=some (f++d):=fun S f hS=>by rw [p2];exact hs S f hS
 refine⟨g',vals',ac,mine,⟨p1.inv,h1.v,fun b Y=>p7 b (aa b Y) (h1.free aw aa b Y),p4,hA.look.more ag,h3,by rw [hd];exact hw,fun x hx=>?_,fun r b hr=>y ac h2 r b hr,hE.hJ _ _ _ _ _ hj ⟨p1,p2⟩,zW hA.n (zW hz p1.keep.size)⟩,fun b Y hn=>p3 b hn Y,ag,h4,h5,h6,fun b Y=>?_,?_,ab⟩
 ·rcases hf x hx with h |h
  ·exact .inl ((l x).2 (.inl h))
  ·rcases zr.1 h with h |h
   ·exact .inl ((l x).2 (.inr h))
   ·exact .inr h
 ·have hl:=zE h6 b Y;have ae:c.nv b:=⟨wA,wA⟩;obtain⟨o,ho⟩: ∃o,X.heap[b]?=some o:=⟨_,xR hl.2⟩;exact⟨by rw [ho];exact p5 b o hl.1 ae ho,ae⟩
 ·unfold qhr;rw [h2]
end Go.Proofs
