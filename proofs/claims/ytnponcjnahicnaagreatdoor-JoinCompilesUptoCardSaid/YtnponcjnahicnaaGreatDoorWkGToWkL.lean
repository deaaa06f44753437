/- Parts of the proof. -/
import Derived.Test.YtnponcjnahicnaaGreatDoorWkEToWkF
set_option linter.unusedSimpArgs false
set_option linter.unusedVariables false
set_option maxRecDepth 100000
set_option maxHeartbeats 4000000
open Go.Proofs.Tryz(prog)
open List(length_cons length_nil map_map)
namespace Go.Proofs
open Go.RowKit Go.Ink R4
attribute [local go_sem] Oper.semAt_some
theorem qt4 {n0 n1:Nat}{W0:World}{c:WkC}{LJ:qa6}{U:Nat->Prop}{nU:Nat}{Vw:World->Prop}{all:List Asg}{Jp Jx:Nat->Gh->World->Prop}(hE:qdk n0 n1 W0 c LJ U nU Vw all Jp Jx){i:Nat}(hi:i<c.steps.length)(bp: ∀q,c.steps[i]?=some q->(c.r.body.getD q default).kind=2)(ih:qgg n1 c LJ U Vw all Jp Jx (i+1)):qgg n1 c LJ U Vw all Jp Jx i:=by
 intro k0 g W a vals kn hA;obtain⟨q,hq⟩: ∃q,c.steps[i]?=some q:=⟨_,zB hi⟩;have hB:=hA.held;have hg:=hA.inv;have dr:=(hE.hV W hA.v).2;obtain⟨L,k,sb,sc,ab,oa,cb,tb,ot,ct,am,an,hL,hk,ay,dk,ck,ah⟩:=qmt hE hB hq;obtain⟨sp,al⟩:=ex ((k.store.map fun S=>(⟨S,0,none⟩:Addr)));rw [al]at ah;have dq:q<c.r.body.length:=(zA.1 hL).1;have ax:c.r.body.getD q default=L:=by rw [zJ,hL];rfl
 have bo:=bp q hq;rw [ax]at bo;obtain⟨kd,x⟩:=ex (L.kind);rw [x]at bo ah;subst bo;have cn:SameW c U g W0 W:=SameW.of hg (fun _ _ h _=>h) (hE.hV W hA.v).1;have bt: ∀X,wD W X->SameW c U g W0 X:=fun X hX=>cn.keep hX (fun _ _ _ _=>wE) (fun _ _=>wE) (fun b hb=>by have:=hE.hU b hb;omega);have Y: ∀X,wD W X->qfw c vals kn i q L k sb sc ab oa cb tb ot ct am an nU sp 2 X:=fun X hX=>ah X (bt X hX);have aj:c.steps.drop i=q::c.steps.drop (i+1):=by rw [zr hi,(zA.1 hq).2]
 have ca:=Y W (Keep.refl _ _);have b1:=ca.1;have cr:=zQ _ _ b1;simp only at cr;have ds: ¬((i:Int)=(c.steps.length:Int)):=xz
 have dl:(0:Int)<=i:=xz
 have dm:(i:Int)<c.steps.length:=xz
 have dn:i<1073741824:=by have:=hE.sfew;omega
 have dt:(0:Int)<=q:=xz
 have du:(q:Int)<c.looks.length:=by rw [hE.looks];omega
 have dv:(q:Int)<c.r.body.length:=xz
 have aH:((i+1:Nat):Int)=(i:Int)+1:=xz
 clear cn ca;have aF:ql L=L.atom.args:=by unfold ql;rw [zF (by rw [x];omega)]
 have ak: ∀t,t∈L.atom.args-> ∃y,qaf a t=some y:=fun t ht=>by
  have:=hA.way;rw [aj]at this;have:=this.2.1;rw [ax]at this;have:=this x t ht;unfold qaf;by_cases hv:t.var=true
  ·rw [zI hv];exact this hv
  ·rw [zF hv];exact⟨_,rfl⟩
 have au:(qck c.vars L).map (qdx vals)=L.atom.args.map (qcu a):=by
  unfold qck;rw [aF,map_map];refine yz fun t ht=>?_;obtain⟨y,hy⟩:=ak t ht;unfold qcu;rw [hy,Function.comp,qms hA.asg (hE.vin L t ay (by rw [aF];exact ht)) hy]
  rfl
 have a3:(qck c.vars L).length=(ql L).length:=by unfold qck;rw [zL]
 have af:(ql L).length=L.atom.args.length:=by rw [aF]
 have bq:vals.length<=1073741824:=by rw [hA.asg.lv];exact hE.few
 have a8: ∀X,wD W X->Calls prog 121 #[.slice am (ql L).length an,qj c.Bt] X fun e w'=> ∃vo,e=.returned vo/\w'.ownsRow X.heap.size 9 1 vo L.atom.args.length ((L.atom.args.map (qcu a)).map .string)/\wD X w':=fun X hX=>by
  obtain⟨x1,x2,x3,x4,x5,x6,x7,x8,x9,bD,bF,bG,bH,bI,bJ,bK,bL,bM,aV⟩:=Y X hX;have:=qnk (hX.heap (hg.hold _ _ hB.t.1) wE) ((hB.vals hg).keep hX trivial wE) bq nU (.slice am (ql L).length an) (qck c.vars L) aV (by have:=hX.size;omega) (fun s hs=>by
   unfold qck at hs;obtain⟨t,ht,rfl⟩:=yK.1 hs;exact qn6 (hE.vin L t ay ht) hA.asg.lv)
  rw [au,a3,af]at this;rw [af];exact this
 obtain⟨qp,qa,-,qn⟩:=hA.look q L k hL hk;have qn:=qn x;have cp: ∀s,s∈L.atom.args.map (qcu a)->s.size<=1073741824:=fun s hs=>by
  obtain⟨t,ht,rfl⟩:=yK.1 hs;obtain⟨y,hy⟩:=ak t ht;unfold qcu;rw [hy];unfold qaf at hy;by_cases hv:t.var=true
  ·rw [zI hv]at hy;exact hA.asg.small _ _ hy
  ·rw [zF hv]at hy;cases hy;exact hE.small L t ay (by rw [aF];exact ht)
 have br:=hE.preds L ay;obtain⟨pl,ag⟩: ∃pl:Option Nat,(∀X vo,wD W X->qal X.heap.size X vo (L.atom.args.map (qcu a))->Calls prog 95 #[.pointer sp,.agg #[.string k.pred,.int .i64 (k.arity:Int)],vo] X fun e w'=>e=.returned (qkb pl)/\wD X w')/\(L.atom.args.map (qcu a)∈LJ.neg q↔ ∃j,pl=some j/\j<k.upto)/\(∀j,pl=some j->j<1073741824):=by
  rcases qn with ⟨q1,q2⟩ |⟨S,f,q1,q2,q3,q4⟩
  ·refine⟨none,fun X vo hX aI=>?_,?_,fun j h=>by cases h⟩
   ·have:=qu9 (k.pred,k.arity) vo X;rw [q1]at al;rw [←al];exact this
   ·rw [q2];constructor
    ·intro h;cases h
    ·rintro⟨j,h,_⟩;cases h
  ·refine⟨qen (qo f k.pred k.arity) (L.atom.args.map (qcu a)),fun X vo hX aI=>?_,?_,fun j h=>?_⟩
   ·have:=qva ((hg.keep hX.mt).store S f q2) k.pred k.arity (by rw [qp];exact br) (by rw [qa,←af];exact ck) X.heap.size vo _ aI (zG _) cp;rw [q1]at al;rw [←al];exact this
   ·rw [←q4,qx2]
   ·have h1:=(zA.1 (qnj h)).1;have h2:=qky f k.pred k.arity;obtain⟨T,M,MX,vx,xs,rl,hP⟩:=hg.store S f q2;have:=hP.few;omega
 have cl:qaa c.r.body [q]= []:=by rw [qcx,ax,zI (.inr x)]
 have a6:qbe LJ c.r.body (q::c.steps.drop (i+1)) a=if (∃j,pl=some j/\j<k.upto) then [] else qbe LJ c.r.body (c.steps.drop (i+1)) a:=by
  rw [show qbe LJ c.r.body (q::c.steps.drop (i+1)) a=if (c.r.body.getD q default).kind=3 then (if qaf a (c.r.body.getD q default).left=qaf a (c.r.body.getD q default).right then []else qbe LJ c.r.body (c.steps.drop (i+1)) a) else if (c.r.body.getD q default).kind=2 then (if (c.r.body.getD q default).atom.args.map (qcu a)∈LJ.neg q then []else qbe LJ c.r.body (c.steps.drop (i+1)) a) else _ from rfl,ax,zF (by rw [x];omega),zI x];by_cases h: ∃j,pl=some j/\j<k.upto
  ·rw [zI h,zI (ag.2.1.2 h)]
  ·rw [zF h,zF (fun e=>h (ag.2.1.1 e))]
 have a4:=ag.1;have a5:=ag.2.2;have a2:(L.atom.args.map (qcu a)).length=L.atom.args.length:=zL _;clear ag qn ak au qp qa aF cp a3;unfold WkC.bound;refine qde ?_ al hA hB hg hE ah bt Y aH hL hk ay ax hq aj a8;clear al hA hB hg hE ah bt Y aH hL hk ay ax hq aj a8;intro cZ a9 de dg ba aC b3 l ap df dh cW cV di d bh;refine hd8 ?_ a4 a5 a6 cl a2 af br bq;clear a4 a5 a6 cl a2 af br bq;intro bg cG ai aZ aB bf cY cX;refine qbl Tryz.func122 rfl ?_;simp only [Tryz.ntmps122,qdm,Nat.reduceAdd,Nat.reduceSub];gi_wp2;refine xc.2 ?_;refine wp_scope_straight ?_;refine(xc (n:=0)).1 ?_;gi_wp2;have cc:=l.o W.drew kDr;clear b1 cr;refine hd1 ?_ cc;clear cc;intro aW;refine qag ?_;refine qw rfl (fun X=>qfw c vals kn i q L k sb sc ab oa cb tb ot ct am an nU sp 2 X) [] ?_;refine qab [0,1,2,3,4,5,6,7,8,9,10,11,12,13,14,15,16] ?_
 iterate 17
  refine tkB rfl aW.o ?_
  try simp only [qac]
 refine qk ?_;refine hoR 17 rfl fun K z=>?_;gi_wp2;refine z.o _ _ (fun _=>l.o _ (kDr.trans kAl)) ?_;refine hoR 18 rfl fun K p=>?_;gi_wp2;obtain⟨Nb,aQ⟩:=ex (W.heap.size);obtain⟨W1,aG⟩:=ex ((W.alloc (.cells #[.pointer sp,.string k.pred,.int .i64 (k.arity:Int),.int .i64 (k.upto:Int)] 192)).drew);have k1:wD W W1:=by rw [←aG];exact kAl.trans kDr
 have cs:W1.heap[Nb]?=some (.cells #[.pointer sp,.string k.pred,.int .i64 (k.arity:Int),.int .i64 (k.upto:Int)] 192 (0,0)):=by rw [←aG,←aQ];exact qh _ _
 have cd:=l.o W1 k1;have ce:=l.o W1.drew (k1.trans kDr);rw [aG,aQ];refine hd6 ?_ k1 cs cd ce aG aQ;clear k1 cs cd ce aG aQ;intro b4 a1 aA aX b0 bU;refine p.o _ _ (fun _=>aA.o) ?_;refine qab [19] ?_
 iterate 1
  refine tkB rfl aA.o ?_
  try simp only [qac]
 refine qk ?_;refine qx wA (qai ?_);clear z p;gi_wp2;refine qag ?_;refine qw rfl (fun X=>qfw c vals kn i q L k sb sc ab oa cb tb ot ct am an nU sp 2 X) [] ?_;refine qab [0,1,2,3,4,5,6,7,8,9,10,11] ?_
 iterate 12
  refine tkB rfl aX.o ?_
  try simp only [qac]
 refine qk ?_;refine qx wA (qai ?_);have bu:wD W W1.drew:=b4.o.trans kDr;have aJ:W1.drew.heap[Nb]?=some (.cells #[.pointer sp,.string k.pred,.int .i64 (k.arity:Int),.int .i64 (k.upto:Int)] 192 (0,0)):=a1.o;obtain⟨W2,ci⟩:=ex (W1.drew);rw [ci]at bu aJ⊢;clear b4 a1 aA aX aW b0 ci bU;refine hd2 ?_ bu aJ;clear bu aJ;intro aq bi;gi_wp2;have bk: ∀X,wD W2 X->(qfw c vals kn i q L k sb sc ab oa cb tb ot ct am an nU sp 2 X/\X.cell? ⟨Nb,0,none⟩=some (.pointer sp)/\X.cell? ⟨Nb,1,none⟩=some (.string k.pred)/\X.cell? ⟨Nb,2,none⟩=some (.int .i64 (k.arity:Int))/\X.cell? ⟨Nb,3,none⟩=some (.int .i64 (k.upto:Int))):=fun X hX=>by
  have hb:=hX.heap bi.o trivial;have e0:=qb hb 0 _ rfl;have e1:=qb hb 1 _ rfl;have e2:=qb hb 2 _ rfl;have e3:=qb hb 3 _ rfl;simp only [zD]at e0 e1 e2 e3;exact⟨l.o X (aq.o.trans hX),e0,e1,e2,e3⟩
 have cf:=bk W2.drew kDr;refine hd2 ?_ bk cf;clear bk cf;intro aY bV;refine qag ?_;refine qw rfl (fun X=>(qfw c vals kn i q L k sb sc ab oa cb tb ot ct am an nU sp 2 X/\X.cell? ⟨Nb,0,none⟩=some (.pointer sp)/\X.cell? ⟨Nb,1,none⟩=some (.string k.pred)/\X.cell? ⟨Nb,2,none⟩=some (.int .i64 (k.arity:Int))/\X.cell? ⟨Nb,3,none⟩=some (.int .i64 (k.upto:Int)))) [] ?_;refine qab [0,1,2,3,4,5] ?_
 iterate 6
  refine tkR (v:=?_) rfl bV.o ?_ ?_;rotate_left
  ·rintro Wq ⟨⟨x1,x2,x3,x4,x5,x6,x7,x8,x9,bD,bF,bG,bH,bI,bJ,bK,bL,bM,aV⟩,s1,s2,s3,s4⟩;go_simp
   try with_reducible rfl
  try simp only [qac]
 refine qk ?_;refine hoR 6 rfl fun K z=>?_;gi_wp2;refine⟨wE,rfl,(zU.2 (bh.o _ (aq.o.trans kDr))).mono ?_⟩;rintro e W3 ⟨vo,rfl,o3,k3⟩;have aU:wD W2 W3:=kDr.trans k3;have cg:=aY.o W3 aU;obtain⟨ao,co,rfl⟩:=qi o3;have aI:qal W3.heap.size W3 (.slice ao L.atom.args.length co) (L.atom.args.map (qcu a)):=by
  have cu:=o3;rw [←aB.o]at cu⊢;exact qcc cu (by rw [aB.o,←bf.o];exact ck)
 have cj:=bg.o W3 _ (aq.o.trans aU) aI;clear k3 o3 aI;refine hd3 ?_ aU cg cj;clear aU cg cj;intro a0 bW b2;gi_wp2;refine z.o _ _ (fun _=>bW.o) ?_;refine hoR 7 rfl fun K p=>?_;gi_wp2;refine⟨wE,rfl,(zU.2 b2.o).mono ?_⟩;rintro e W4 ⟨rfl,k4⟩;have bv:wD W W4:=(aq.o.trans a0.o).trans k4;have ch:=aY.o W4 (a0.o.trans k4);clear k4;have a7:SameW c U g W0 W4:=b3.o W4 bv;refine hd3 ?_ ch bv a7;clear ch bv a7;intro ad ae aE;clear qn;obtain⟨-,-,-,-,u3⟩:=ad.o;have cK:=zQ _ _ u3;simp only at cK;cases pl with
 |none=>
  unfold qkb;gi_wp2;refine p.o _ _ (fun _=>ad.o) ?_;refine qab [8,9,10,11,12] ?_
  iterate 5
   refine tkR (v:=?_) rfl ad.o ?_ ?_;rotate_left
   ·rintro Wq ⟨⟨x1,x2,x3,x4,x5,x6,x7,x8,x9,bD,bF,bG,bH,bI,bJ,bK,bL,bM,aV⟩,s1,s2,s3,s4⟩;go_simp
    try with_reducible rfl
   try simp only [qac]
  refine qk ?_;refine qx wA (qai ?_);clear z p;have aa:=ai.o;rw [zF (fun h=>by obtain⟨j,h1,_⟩:=h;cases h1)]at aa;have hc:=ih k0 g W4 a vals kn ((a9.o.own ba.o ae.o).skip d.o aZ.o aa);rw [ap.o]at hc;have bl:=(aC.o W4 aE.o).2.2.2.2.2.2.2.2.2.2.2.2.2.2.2.1;have bw:=zQ _ _ bl;simp only at bw;refine hd2 ?_ aa hc;clear aa hc;intro aD bb;gi_wp2;refine⟨wE,rfl,(zU.2 bb.o).mono ?_⟩;rintro e W5 ⟨bj,rfl,m⟩;have u:StepEnd c U Vw all Jp Jx k0 (qbe LJ c.r.body (c.steps.drop i) a).length g W a kn bj W5:=by
   rw [d.o,aD.o];exact m.from ae.o.size
  clear m;refine hd1 ?_ u;clear u;intro R;gi_wp2;rw [Exit.noGoto_ret];go_ret;exact⟨_,rfl,R.o⟩
 |some j=>
  unfold qkb;gi_wp2;refine p.o _ _ (fun _=>ad.o) ?_;refine qab [8,9,10,11,12] ?_
  iterate 5
   refine tkR (v:=?_) rfl ad.o ?_ ?_;rotate_left
   ·rintro Wq ⟨⟨x1,x2,x3,x4,x5,x6,x7,x8,x9,bD,bF,bG,bH,bI,bJ,bK,bL,bM,aV⟩,s1,s2,s3,s4⟩;go_simp
    try with_reducible rfl
   try simp only [qac]
  refine qk ?_;refine qx wA (qai ?_);clear z p;have dp:(0:Int)<=j:=xz
  by_cases aR:j<k.upto
  ·have cH:(j:Int)<k.upto:=by omega
   have m:StepEnd c U Vw all Jp Jx k0 (qbe LJ c.r.body (c.steps.drop i) a).length g W a kn true W4:=by
    rw [d.o,ai.o,zI ⟨j,rfl,aR⟩];exact StepEnd.none ba.o a9.o ae.o
   clear aR;refine hd1 ?_ m;clear m;intro bc;gi_wp2;refine⟨fun _ h=>(by cases h),?_⟩;rename_i aK r1 r2 r3 r4;refine aK _ _ ?_;clear aK r4;gi_wp2;rw [Exit.noGoto_ret];go_ret;exact⟨_,rfl,bc.o⟩
  have cH: ¬((j:Int)<k.upto):=xz
  have aa:=ai.o;rw [zF (fun h=>by obtain⟨j',h1,h2⟩:=h;cases h1;exact aR h2)]at aa;clear aR;have hc:=ih k0 g W4 a vals kn ((a9.o.own ba.o ae.o).skip d.o aZ.o aa);rw [ap.o]at hc;have bl:=(aC.o W4 aE.o).2.2.2.2.2.2.2.2.2.2.2.2.2.2.2.1;have bw:=zQ _ _ bl;simp only at bw;refine hd2 ?_ aa hc;clear aa hc;intro aD bb;gi_wp2;refine⟨wE,rfl,(zU.2 bb.o).mono ?_⟩;rintro e W5 ⟨bj,rfl,m⟩;have u:StepEnd c U Vw all Jp Jx k0 (qbe LJ c.r.body (c.steps.drop i) a).length g W a kn bj W5:=by
   rw [d.o,aD.o];exact m.from ae.o.size
  clear m;refine hd1 ?_ u;clear u;intro R;gi_wp2;rw [Exit.noGoto_ret];go_ret;exact⟨_,rfl,R.o⟩
end Go.Proofs
namespace Go.Proofs
open Go.RowKit Go.Ink R4
theorem MidAt.loose {n0 n1:Nat}{W0:World}{c:WkC}{p:qa6}{U:Nat->Prop}{u:Nat}{j:World->Prop}{all:List Asg}{l m:Nat->Gh->World->Prop}(s:qdk n0 n1 W0 c p U u j all l m){i g:Gh}{d X Y:World}{vals:List ByteArray}{k:List Bool}(h:MidAt n0 c j i d g X vals k)(t: ∀b,U b->b<d.heap.size)(hK:Keep (fun b=>b<d.heap.size∨ ¬g.free b) X Y):MidAt n0 c j i d g Y vals k:=by
 refine⟨⟨?_,h.step.more,h.step.new,h.step.held,h.step.inv.keep (hK.mono fun b _ e=>.inr e)⟩,h.st,h.tag,h.held,h.wk,s.hVk X Y _ h.v hK (fun b e=>.inl (t b e))⟩;have q:Keep (fun b=>i.free b/\b<d.heap.size) d X:=h.step.keep.mono fun b _ f=>f.1;have r:Keep (fun b=>i.free b/\b<d.heap.size) X Y:=hK.mono fun b _ f=>.inl f.2;exact(q.trans r).mono fun b e f=>⟨f,e⟩
theorem MidAt.fresh {n0:Nat}{c:WkC}{j:World->Prop}{i g:Gh}{d X:World}{vals:List ByteArray}{k:List Bool}(h:MidAt n0 c j i d g X vals k)(f:GInv i d)(l:c.V<d.heap.size)(hK:c.K<d.heap.size){b:Nat}(m:d.heap.size<=b):g.free b:=by
 refine⟨?_,?_⟩
 ·rw [h.tag];cases e:i.tag b with
  |none=>rfl
  |some T=>have:=f.lt b T e;omega
 ·rw [h.held b ⟨xz,xz⟩];cases e:i.held b with
  |none=>rfl
  |some T=>have:=qe (f.hold b T e);omega
theorem qoa {b:List Nat}{q p:Nat}(h:b[q]?=some p):(b.map fun p:Nat=>Value.int .i64 (p:Int))[q]?=some (.int .i64 (p:Int)):=by rw [zP,h];rfl
theorem SameW.sub {c:WkC}{U:Nat->Prop}{g d:Gh}{W0 X:World}(h:SameW c U d W0 X)(i: ∀b o,g.held b=some o->d.held b=some o):SameW c U g W0 X:=⟨fun b o e f=>h.1 b o (i b o e) f,h.2⟩
theorem q26 {a:Asg}: ∀{ts:List TermD} {k:Nat} {s:ByteArray},s∈(qam a ts k).map (·.2)-> ∃t,t∈ts/\qaf a t=some s:=by
 intro ts
 induction ts with
 |nil=>intro k s h;cases h
 |cons t ts ih=>
  intro k s h;unfold qam at h;split at h
  ·rename_i y hy;rw [yW]at h;rcases zt.1 h with rfl |h
   ·exact⟨t,yI ..,hy⟩
   ·obtain⟨u,b,c⟩:=ih h;exact⟨u,yC _ b,c⟩
  ·obtain⟨u,b,c⟩:=ih h;exact⟨u,yC _ b,c⟩
theorem qx4 {c:WkC}{vals:List ByteArray}{e:List Bool}{a:Asg}(h:qdj c.vars vals e a){t:TermD}(d:t.text.size<=1073741824){s:ByteArray}(b:qaf a t=some s):s.size<=1073741824:=by
 unfold qaf at b;split at b
 ·exact h.small _ _ b
 ·cases b;exact d
theorem qx5 {α β:Type}(f:α->List β){l:List α}{j:Nat}{x:α}(h:l[j]?=some x){r:Nat}{b:β}(c:(f x)[r]?=some b):(l.flatMap f)[((l.take j).flatMap f).length+r]?=some b:=by
 obtain⟨d,g⟩:=zA.1 h;have e:l.flatMap f=(l.take j).flatMap f++(f x++(l.drop (j+1)).flatMap f):=by
  conv=>lhs;rw [←yu j l,zr d,g]
  rw [yF,yE]
 rw [e,yG xz,Nat.add_sub_cancel_left,yQ (zA.1 c).1];exact c
theorem q4u {w:World}{base:Nat}{e:TypeId}{sz n:Nat}{v:Value}{xs:List Value}(h:w.ownsRow base e sz v n xs):n<=maxLen:=by
 rcases h.2 with e |⟨gb,cap,cur,e1,e2,e3,e4,e5,e6⟩
 ·rw [e.2];exact ya _
 ·exact zW e4 e5
def RowsHeld (c:WkC)(gm:Gh)(Wm:World)(v:Value)(tss:List (List ByteArray)):Prop:=
 ∃us:List Value,us.length=tss.length/\Wm.ownsRow 0 60 1 v us.length us/\(∀b,v.ownBlock=some b->gm.held b=Wm.heap[b]?/\c.nv b)/\
  ∀(k:Nat) (u:Value) (t:List ByteArray),us[k]?=some u->tss[k]?=some t->Wm.ownsRow 0 9 1 u t.length (t.map .string)/\ ∀b,u.ownBlock=some b->gm.held b=Wm.heap[b]?/\c.nv b
theorem qq7 {c:WkC}{U:Nat->Prop}{e:Gh}{W0 d X:World}(f:SameW c U e W0 X){b:Nat}(h:e.held b=d.heap[b]?/\c.nv b)(g:b<d.heap.size):X.heap[b]?=d.heap[b]?:=by
 obtain⟨o,ho⟩: ∃o,d.heap[b]?=some o:=⟨_,xQ g⟩;rw [ho];exact f.1 b o (h.1.trans ho) h.2
theorem RowsHeld.get {c:WkC}{U:Nat->Prop}{l:Gh}{W0 z:World}{v:Value}{d:List (List ByteArray)}(h:RowsHeld c l z v d): ∃av cv,v=.slice av d.length cv/\d.length<=maxLen/\ ∀(j:Nat) (t:List ByteArray),d[j]?=some t-> ∃gb ua uc,av=some ⟨gb,0,none⟩/\(∀X,SameW c U l W0 X->X.cell? ⟨gb,j,none⟩=some (.slice ua t.length uc))/\
  ∀(cc:Nat) (y:ByteArray),t[cc]?=some y-> ∃ub,ua=some ⟨ub,0,none⟩/\ ∀X,SameW c U l W0 X->X.cell? ⟨ub,cc,none⟩=some (.string y):=by
 obtain⟨x,m,g,R,Y⟩:=h;obtain⟨av,cv,rfl⟩:=qi g;refine⟨av,cv,by rw [m],by rw [←m];exact q4u g,fun j t q=>?_⟩;have f:j<x.length:=by rw [m];exact(zA.1 q).1
 obtain⟨u,r⟩: ∃u,x[j]?=some u:=⟨_,zB f⟩;obtain⟨k,h6⟩:=Y j u t r q;obtain⟨ua,uc,rfl⟩:=qi k;rcases g.2 with e |⟨gb,cap,cur,e1,e2,e3,e4⟩
 ·rw [e.2]at f;cases f
 injection e1 with e1 _ _
 subst e1;refine⟨gb,ua,uc,rfl,fun X p=>qau (qn9 g fun b i=>qq7 p (R b i) (zE g b i).2) j _ r,fun cc y s=>?_⟩;rcases k.2 with e |⟨ub,cap,cur,e1,e2,e3,e4⟩
 ·have:=(zA.1 s).1;have e5:=e.2;omega
 injection e1 with e1 _ _
 subst e1;refine⟨ub,rfl,fun X p=>qau (qn9 k fun b i=>qq7 p (h6 b i) (zE k b i).2) cc _ (by rw [zP,s];rfl)⟩
def RowIn (n0:Nat)(c:WkC)(Vw:World->Prop)(a:Asg)(kn:List Bool)(ts:List TermD)(t:List ByteArray)(g0:Gh)(X0:World)(cc:Nat)(x:Value)(X:World):Prop:=
 ∃g vals' ac mine,MidAt n0 c Vw g0 X0 g X vals' (qbf kn mine true)/\qb6 a (ts.take cc) (t.take cc)=some ac/\qdj c.vars vals' (qbf kn mine true) ac/\(∀p,p∈mine->kn[p]?=some false)/\mine.length<=cc/\X.ownsRow X0.heap.size 3 1 x mine.length (mine.map fun p:Nat=>Value.int .i64 (p:Int))
theorem RowIn.start {n0:Nat}{c:WkC}{f:World->Prop}{a:Asg}{e:List Bool}{ts:List TermD}{t:List ByteArray}{d:Gh}{b:World}{vals:List ByteArray}(h:GInv d b)(k:WkHeld c d vals e)(j:f b)(g:qdj c.vars vals e a):RowIn n0 c f a e ts t d b 0 (.slice none 0 0) b:=
 ⟨d,vals,a,[],MidAt.refl h k j,rfl,g,fun p i=>(by cases i),zG _,zj _ _ _ _⟩
def ClearIn (n0:Nat)(c:WkC)(Vw:World->Prop)(vals:List ByteArray)(kn':List Bool)(mine:List Nat)(B:Nat)(g0:Gh)(X0:World)(q:Nat)(x:Value)(X:World):Prop:=
 ∃g,MidAt n0 c Vw g0 X0 g X vals (qbf kn' (mine.take q) false)/\X.ownsRow B 3 1 x mine.length (mine.map fun p:Nat=>Value.int .i64 (p:Int))
theorem ClearIn.next {n0 n1:Nat}{W0:World}{c:WkC}{s:qa6}{U:Nat->Prop}{Y:Nat}{f:World->Prop}{all:List Asg}{m r:Nat->Gh->World->Prop}(y:qdk n0 n1 W0 c s U Y f all m r)(i: ¬U c.K){vals:List ByteArray}{e:List Bool}{d:List Nat}{B:Nat}{k:Gh}{j X:World}{q p:Nat}{x:Value}(h:ClearIn n0 c f vals e d B k j q x X)(R:d[q]?=some p)(hB:c.K<B):
  ClearIn n0 c f vals e d B k j (q+1) x (X.setCell ⟨c.K,p,none⟩ (.bool false)):=by
 obtain⟨g,u,l⟩:=h;obtain⟨t,v⟩:=u.setK y i p false;refine⟨t,?_,qf l (Keep.setCell (C:=fun b=>b≠c.K) _ _ _ wB) (fun b z=>by have:=(zE l b z).1;omega)⟩;rw [zh,R,Option.toList_some,qpi];exact v
theorem qt5 {n0 n1:Nat}{W0:World}{c:WkC}{LJ:qa6}{U:Nat->Prop}{nU:Nat}{r:World->Prop}{all:List Asg}{p q:Nat->Gh->World->Prop}(R:qdk n0 n1 W0 c LJ U nU r all p q){k0 m:Nat}{s l z:Gh}{y Y Z:World}{a:Asg}{x:List Bool}{j:Bool}{g:List ByteArray}
  (hz:y.heap.size<=Y.heap.size) (hu: ∀b,U b->l.free b) (t: ∀b,U b->b<Y.heap.size) (hh: ∀b o,s.held b=some o->c.nv b->l.held b=some o) (hs: ∀S f,s.st S=some f-> ∃d,l.st S=some (f++d)) (hj:(j=true/\p (k0+m) l Y)∨(j=false/\ ∃k,k<all.length/\q k l Y))
  (i:MidAt n0 c r l Y z Z g x) (ha:qdj c.vars g x a):StepEnd c U r all p q k0 m s y a x j Z:=by
 refine⟨z,g,i.step.inv,i.v,fun b u=>i.free hu t b u,zW hz i.step.keep.size,i.wk,fun b o u X=>(i.held b X).trans (hh b o u X),fun S f hS=>by rw [i.st];exact hs S f hS,ha,?_⟩;rcases hj with ⟨e,h⟩ |⟨e,k,hk,h⟩
 ·exact .inl ⟨e,R.hJ _ _ _ _ _ h ⟨i.step,i.st⟩⟩
 ·exact .inr ⟨e,k,hk,R.hJx _ _ _ _ _ h ⟨i.step,i.st⟩⟩
theorem RowIn.same {n0 n1:Nat}{W0:World}{c:WkC}{q:qa6}{U:Nat->Prop}{nU:Nat}{i:World->Prop}{all:List Asg}{l m:Nat->Gh->World->Prop}(R:qdk n0 n1 W0 c q U nU i all l m){a f:Asg}{h:List Bool}{ts:List TermD}{t:List ByteArray}{k g:Gh}{j X Y:World}{e:Nat}{x:Value}{d:List ByteArray}{b:List Nat}
  (r:MidAt n0 c i k j g X d (qbf h b true)) (s:qb6 a (ts.take e) (t.take e)=some f) (u:qdj c.vars d (qbf h b true) f) (v: ∀p,p∈b->h[p]?=some false) (h5:b.length<=e) (z:X.ownsRow j.heap.size 3 1 x b.length (b.map fun p:Nat=>Value.int .i64 (p:Int)))
  {tt:TermD} {y:ByteArray} (ht:ts[e]?=some tt) (hx:t[e]?=some y) (hy:qaf f tt=some y) (hK:wD X Y):RowIn n0 c i a h ts t k j (e+1) x Y:=
 ⟨g,d,f,b,r.own R hK,(qjx ht hx s).1 y hy rfl,u,v,xz,qf z hK (fun _ _=>wE)⟩
theorem RowIn.bind {n0 n1:Nat}{W0:World}{c:WkC}{LJ:qa6}{U:Nat->Prop}{nU:Nat}{u:World->Prop}{all:List Asg}{Jp Jx:Nat->Gh->World->Prop}(s:qdk n0 n1 W0 c LJ U nU u all Jp Jx)(z: ¬U c.K)(R: ¬U c.V){a q:Asg}{j:List Bool}{ts:List TermD}{t:List ByteArray}{v g:Gh}{i X Y:World}{k:Nat}{x':Value}{f:List ByteArray}{d:List Nat}
  (h1:MidAt n0 c u v i g X f (qbf j d true)) (h2:qb6 a (ts.take k) (t.take k)=some q) (h3:qdj c.vars f (qbf j d true) q) (h4: ∀p,p∈d->j[p]?=some false) (h5:d.length<=k)
  (ab:GInv v i) (hV:c.V<i.heap.size) (x:c.K<i.heap.size) (aa: ∀b,U b->b<i.heap.size)
  {tt:TermD} {y:ByteArray} {p:Nat} (ht:ts[k]?=some tt) (hx:t[k]?=some y) (hy:qaf q tt=none) (hp:c.vars[p]?=some tt.text) (h:(qbf j d true)[p]?=some false) (hs:y.size<=1073741824)
  (hK:Keep (fun b=>b<i.heap.size) ((X.setCell ⟨c.K,p,none⟩ (.bool true)).setCell ⟨c.V,p,none⟩ (.string y)) Y)
  (h6:Y.ownsRow i.heap.size 3 1 x' (d.length+1) ((d.map fun p:Nat=>Value.int .i64 (p:Int))++ [.int .i64 (p:Int)])):RowIn n0 c u a j ts t v i (k+1) x' Y:=by
 obtain⟨g1,q1⟩:=h1.setK s z p true;obtain⟨g2,q2⟩:=q1.setV s R p y;have q3:=q2.loose (Y:=Y) s aa (hK.mono fun b _ m=>by
  rcases m with m |m
  ·exact m
  ·exact Nat.lt_of_not_le fun ad=>m (q2.fresh ab hV x ad))
 have e:qbf j (d++ [p]) true=(qbf j d true).set p true:=qpi _ _ _ _;refine⟨g2,_,qfh q tt.text y,d++ [p],by rw [e];exact q3,(qjx ht hx h2).2.1 hy,by rw [e];exact q23 s.nodup h3 hp y hs,fun r l=>?_,by rw [zR];simp only [length_cons,length_nil];omega,by rw [zR,zm];exact h6⟩;rcases zn.1 l with l |l
 ·exact h4 r l
 ·rw [zl]at l;subst l;rw [qn8]at h;split at h
  ·cases h
  ·exact h
theorem RowIn.on {n0 n1:Nat}{W0:World}{c:WkC}{u:qa6}{U:Nat->Prop}{nU:Nat}{Vw:World->Prop}{all:List Asg}{Jp Jx:Nat->Gh->World->Prop}(hE:qdk n0 n1 W0 c u U nU Vw all Jp Jx){i k0 m q:Nat}{a:Asg}{kn:List Bool}{ts:List TermD}{t:List ByteArray}{y gm:Gh}{k X Wm:World}{x:Value}{L:LitD}{vals:List ByteArray}
  (R:StepAt n1 c u U Vw all Jp i k0 gm Wm a vals kn) (l:c.steps.drop i=q::c.steps.drop (i+1)) (ao:c.r.body.getD q default=L) (hk:L.kind=1) (au:L.atom.args=ts)
  (aq:GInv y k) (av: ∀b,U b->y.free b) (Y: ∀b,U b->b<k.heap.size) (hz:Wm.heap.size<=k.heap.size) (hs: ∀S f,gm.st S=some f-> ∃d,y.st S=some (f++d)) (hj:Jp (k0+m) y k)
  (s: ∀ac,qb6 a ts t=some ac-> ∀(r:Nat) (b:Asg),(qbe u c.r.body (c.steps.drop (i+1)) ac)[r]?=some b->all[k0+m+r]?=some b)
  (ab:ts.length=t.length) (hV:c.V<k.heap.size) (aG:c.K<k.heap.size) (h:RowIn n0 c Vw a kn ts t y k ts.length x X):
  ∃gh vals' ac mine,StepAt n1 c u U Vw all Jp (i+1) (k0+m) gh X ac vals' (qbf kn mine true)/\(∀b,b<k.heap.size->c.nv b->gh.held b=y.held b)/\(∀S f,gm.st S=some f-> ∃d,gh.st S=some (f++d))/\(∀p,p∈mine->kn[p]?=some false)/\mine.length<=ts.length/\
   X.ownsRow k.heap.size 3 1 x mine.length (mine.map fun p:Nat=>Value.int .i64 (p:Int))/\(∀b,x.ownBlock=some b->gh.held b=X.heap[b]?/\c.nv b)/\qg0 u c.r.body ts (c.steps.drop (i+1)) a t=qbe u c.r.body (c.steps.drop (i+1)) ac/\ExtA a ac:=by
 obtain⟨g,vals',ac,mine,h1,h2,h3,h4,h5,h6⟩:=h;rw [zi,ab,zi]at h2;obtain⟨aa,j,-⟩:=qe7 h2;have hn:n0<=k.heap.size:=zW hE.n01 (zW R.n hz);obtain⟨g',p1,p2,p3,p4,p5,p6,p7⟩:=h1.hold aq hn;have hw:=R.way;have hf:=R.full;rw [l]at hw hf;have hw:=hw.2.2;have ae:qaa c.r.body [q]=qar ts:=by rw [qcx,ao,zF xz,au]
 rw [ae]at hw;have e:qaa c.r.body (q::c.steps.drop (i+1))=qaa c.r.body [q]++qaa c.r.body (c.steps.drop (i+1)):=by unfold qaa;simp
 rw [e,ae]at hf;have hd:(fun x=> ∃v,ac x=some v)=fun x=>(∃v,a x=some v)∨x∈qar ts:=xy fun x=>propext (j x);have af: ∀S f,gm.st S=some f-> ∃d,g'.st S=some (f++d):=fun S f hS=>by rw [p2];exact hs S f hS
 refine⟨g',vals',ac,mine,⟨p1.inv,h1.v,fun b z=>p7 b (Y b z) (h1.free av Y b z),p4,R.look.more af,h3,by rw [hd];exact hw,fun x hx=>?_,fun r b hr=>s ac h2 r b hr,hE.hJ _ _ _ _ _ hj ⟨p1,p2⟩,zW R.n (zW hz p1.keep.size)⟩,fun b z hn=>p3 b hn z,af,h4,h5,h6,fun b z=>?_,?_,aa⟩
 ·rcases hf x hx with h |h
  ·exact .inl ((j x).2 (.inl h))
  ·rcases zn.1 h with h |h
   ·exact .inl ((j x).2 (.inr h))
   ·exact .inr h
 ·have hl:=zE h6 b z;have ad:c.nv b:=⟨xz,xz⟩;obtain⟨o,ho⟩: ∃o,X.heap[b]?=some o:=⟨_,xQ hl.2⟩;exact⟨by rw [ho];exact p5 b o hl.1 ad ho,ad⟩
 ·unfold qg0;rw [h2]
end Go.Proofs
