/- Parts of the proof. -/
import Derived.Test.YtnponcjnahicnaaGreatDoorStNToStQ
set_option linter.unusedSimpArgs false
set_option linter.unusedVariables false
set_option maxRecDepth 100000
set_option maxHeartbeats 4000000
open Go.Proofs.Tryz(prog)
namespace Go.Proofs
open Go.RowKit Go.Ink R4 P16 Go.MuLone
attribute [local go_sem] Oper.semAt_some
def okF (f:qy):Bool:=qdi f.pred&&decide (f.tuple.length<=16)&&!(f.tuple.any fun s=>decide (1024<s.size))
theorem q0s {n0:Nat}{g:Gh}{w:World}(hg:GInv g w){S:Nat}{c:List qy}(hS:g.st S=some c)(f:qy)(m:Nat)(v:Value)(hv:qal m w v f.tuple)(hm:m<=w.heap.size)(cw:f.pred.size<=1073741824)(dt:c.length<67108864)(a8: ∀a n c,v=.slice (some a) n c->g.tag a.block=none):
  Calls prog 39 #[qj S,.agg #[.string f.pred,v]] w fun e w'=> ∃g',e=.returned (.tuple #[.bool (decide (okF f=true/\f∉c)),.int .i64 (if okF f=true then 0 else 2)])/\GStep n0 g w g' w'/\g'.st=g.with S (qhr okF c f)/\g'.held=g.held:=by
 obtain⟨T,M,MX,vx,xs,rl,hP⟩:=hg.store S c hS;obtain⟨pr,tup⟩:=f;simp only at hv cw⊢;obtain⟨a,cp,rfl,ea,d8,ds⟩:=id hv;obtain⟨N,hN⟩:=ex (w.heap.size);obtain⟨W0,a5⟩:=ex (w.alloc (.cells #[.string pr,.slice a tup.length cp] 86));have k0:wD w W0:=by rw [←a5];exact kAl
 have z0:W0.heap.size=w.heap.size+1:=by rw [←a5];simp
 have p0:W0.heap[N]?=some (.cells #[.string pr,.slice a tup.length cp] 86 (0,0)):=by rw [←a5,←hN];exact qh _ _
 have bI:=hP.keep (tag':=g.tag) k0 (fun _ _ _=>wE) (fun _ _=>Iff.rfl);have c0:=qb p0 0 _ rfl;have c1:=qb p0 1 _ rfl;simp only [zD]at c0 c1;have d3:=qe p0;have eJ:=qe bI.box;have bh:=qhz bI.box;have bc:=qnc pr W0;have bb:=qvc m _ tup W0 (qmo hv k0) xz;have aC:okF ⟨pr,tup⟩=(qdi pr&&decide (tup.length<=16)&&!(tup.any fun s=>decide (1024<s.size))):=rfl;have b1:okF ⟨pr,tup⟩=false->g.with S (qhr okF c ⟨pr,tup⟩)=g.st:=fun h=>by
  have e:qhr okF c ⟨pr,tup⟩=c:=zF (by rw [h];simp);rw [e]
  funext b
  unfold Gh.with;by_cases p:b=S
  ·rw [zI p,p,hS]
  ·rw [zF p]
 refine qsd ?_ hg hP bI k0 a5 p0 bh bc bb hv ds b1 a8;clear hg hP bI k0 a5 p0 bh bc bb hv ds b1 a8;intro al d ef bD aN dQ Y q X ey cY ak aO;by_cases ap:qdi pr=false
 ·have aD:okF ⟨pr,tup⟩=false:=by rw [aC,ap];rfl
  have ay:=ak.o aD;rw [ap]at q;clear aC ap;refine hd1 ?_ ay;clear ay;intro au;refine qfb Tryz.func39 rfl ?_;simp only [Tryz.ntmps39,qdm,Nat.reduceAdd,Nat.reduceSub];gi_wp2;rw [aN.o];refine⟨wE,rfl,(zU.2 Y.o).mono ?_⟩;rintro e w9 ⟨rfl,j⟩;have j:=j.symm;subst j;gi_wp2;refine⟨wE,rfl,(zU.2 q.o).mono ?_⟩;rintro e w9 ⟨rfl,j⟩;have j:=j.symm;subst j;gi_wp2;refine⟨wE,?_⟩;rename_i aK;refine aK _ _ ?_;clear aK;gi_wp2
  all_goals exact qb7 (xZ rfl _ _ _) ⟨rfl,g,GStep.own al.o bD.o,au.o.symm,rfl⟩
 rw [Bool.not_eq_false]at ap;rw [ap]at q;by_cases dW:16<tup.length
 ·have aD:okF ⟨pr,tup⟩=false:=by rw [aC,zM (show ¬tup.length<=16 from xz)];simp
  have ay:=ak.o aD;have de:(16:Int)<tup.length:=xz
  clear aC ap dW;refine hd1 ?_ ay;clear ay;intro au;refine qfb Tryz.func39 rfl ?_;simp only [Tryz.ntmps39,qdm,Nat.reduceAdd,Nat.reduceSub];gi_wp2;rw [aN.o];refine⟨wE,rfl,(zU.2 Y.o).mono ?_⟩;rintro e w9 ⟨rfl,j⟩;have j:=j.symm;subst j;gi_wp2;refine⟨wE,rfl,(zU.2 q.o).mono ?_⟩;rintro e w9 ⟨rfl,j⟩;have j:=j.symm;subst j;gi_wp2;refine⟨wE,?_⟩;rename_i aK;refine aK _ _ ?_;clear aK;gi_wp2
  all_goals exact qb7 (xZ rfl _ _ _) ⟨rfl,g,GStep.own al.o bD.o,au.o.symm,rfl⟩
 have de: ¬(16:Int)<tup.length:=xz
 by_cases ao:(tup.any fun s=>decide (1024<s.size))=true
 ·have aD:okF ⟨pr,tup⟩=false:=by rw [aC,ao];simp
  have ay:=ak.o aD;rw [ao]at X;clear aC ap ao;refine hd1 ?_ ay;clear ay;intro au;refine qfb Tryz.func39 rfl ?_;simp only [Tryz.ntmps39,qdm,Nat.reduceAdd,Nat.reduceSub];gi_wp2;rw [aN.o];refine⟨wE,rfl,(zU.2 Y.o).mono ?_⟩;rintro e w9 ⟨rfl,j⟩;have j:=j.symm;subst j;gi_wp2;refine⟨wE,rfl,(zU.2 q.o).mono ?_⟩;rintro e w9 ⟨rfl,j⟩;have j:=j.symm;subst j;gi_wp2;refine⟨wE,rfl,(zU.2 X.o).mono ?_⟩;rintro e W1 ⟨rfl,k1⟩;have kA:wD w W1:=bD.o.trans (k1.mono fun b p _=>p);clear k1;refine hd1 ?_ kA;clear kA;intro aw;gi_wp2
  all_goals exact qb7 (xZ rfl _ _ _) ⟨rfl,g,GStep.own al.o aw.o,au.o.symm,rfl⟩
 rw [xt]at ao;have b4:okF ⟨pr,tup⟩=true:=by rw [aC,ap,ao,zS (show tup.length<=16 from xz)];rfl
 have dz: ∀s,s∈tup->s.size<=1073741824:=fun s hs=>by
  rw [xY]at ao;have:=ao s hs;simp at this;omega
 rw [ao]at X;clear aC ap ao ak;have dw:tup.length<=16:=xz
 refine hd2 ?_ b4 dz;clear b4 dz;intro a1 c3;refine qfb Tryz.func39 rfl ?_;simp only [Tryz.ntmps39,qdm,Nat.reduceAdd,Nat.reduceSub];gi_wp2;rw [aN.o];refine⟨wE,rfl,(zU.2 Y.o).mono ?_⟩;rintro e w9 ⟨rfl,j⟩;have j:=j.symm;subst j;gi_wp2;refine⟨wE,rfl,(zU.2 q.o).mono ?_⟩;rintro e w9 ⟨rfl,j⟩;have j:=j.symm;subst j;gi_wp2;refine⟨wE,rfl,(zU.2 X.o).mono ?_⟩;rintro e W1 ⟨rfl,k1⟩
 replace k1:wD W0 W1:=k1.mono fun b p _=>p
 have kA:wD w W1:=bD.o.trans k1;have af:=d.o.keep (tag':=g.tag) kA (fun _ _ _=>wE) (fun _ _=>Iff.rfl);have a0:=qb af.box 0 _ rfl;have f0:=qg af.box 0;have p1:=k1.heap dQ.o trivial;have z1:=k1.size;obtain⟨W2,aU⟩:=ex (W1.setCell ⟨S,0,none⟩ (.int .i32 1));have aI:=lock_free qg4 ⟨S,0,none⟩ W1 (by simpa using a0) f0;rw [aU]at aI;have k2:Keep (fun b=>b≠S) W1 W2:=by rw [←aU];exact kSc
 have z2:=k2.size;have ax:=qz 0 (.int .i32 1) af.box;rw [aU]at ax;have d2:N≠S:=by have:=qe d.o.box;omega
 have p2:=k2.heap p1 d2;have b6: ∀W,wD W2 W->wD w (W.setCell ⟨S,0,none⟩ (.int .i32 0)):=fun W hK=>kA.trans (qik af.box (by rw [aU];exact hK));have d0:=qb p2 0 _ rfl;have d1:=qb p2 1 _ rfl;simp only [zD]at d0 d1;have eD:=qe p2;have eF:=qe af.box;obtain⟨W3,a6⟩:=ex (W2.alloc (.cells #[.string pr,.int .i64 (tup.length:Int)] 153));obtain⟨KB,dX⟩:=ex (W2.heap.size);have k3:wD W2 W3:=by rw [←a6];exact kAl
 have q3:W3.heap[KB]?=some (.cells #[.string pr,.int .i64 (tup.length:Int)] 153 (0,0)):=by rw [←a6,←dX];exact qh _ _
 have z3:W2.heap.size<W3.heap.size:=by rw [←a6];simp
 have dY:M≠S:=fun e=>by have:=af.tagM;rw [e,af.tagS] at this;cases this
 have aL:=(af.rels.keep k2 dY).keep k3 trivial;have ba:=fun m=>qdn (P:=prog) Tryz.underlying112 qjl qil qla (aL.keep (Keep.drewN' (fun _=>True) W3 m) wE) (pr,tup.length) (qjm cw xz) false;have e3:=qb (k3.heap ax wE) 4 _ rfl;have e1:=qb q3 0 _ rfl;have e2:=qb q3 1 _ rfl;simp only [zD]at e1 e2 e3;have eG:=qe (k3.heap ax wE);have eA:=qe q3;unfold qdu at ba;clear k1 d3 c0 c1;refine qho ?_ kA af aI k2 ax p2 b6 a6 k3 q3 aU aL;clear kA af aI k2 ax p2 b6 a6 k3 q3 aU aL;intro aw bR bw a2 aj c7 dO cX c4 dR eg aP;gi_wp2;refine⟨wE,rfl,(zU.2 bw.o).mono ?_⟩;rintro e w9 ⟨rfl,j⟩;have j:=j.symm;subst j;gi_wp2;rw [cX.o];rcases hl:qct rl (pr,tup.length) with _ |R
 focus
  simp only [hl,zy,yx]at ba;have dv:=qlb d.o hl;have dx:=qq0 hl;refine qag ?_;refine xc.2 ?_
  go_quiet (fail)
  refine qai ?_;gi_wp2;obtain⟨Wd,aV⟩:=ex (W3.drewN nq);have cx:wD W2 Wd:=by rw [←aV];exact c4.o.trans (Keep.drewN' _ _ _)
  have zd:=cx.size;have bi:qh0 Wd M rl:=by rw [←aV];exact aP.o.keep (Keep.drewN' (fun _=>True) _ _) trivial
  have qd:Wd.heap[KB]?=some (.cells #[.string pr,.int .i64 (tup.length:Int)] 153 (0,0)):=by rw [←aV];exact(Keep.drewN' (fun _=>True) _ _).heap dR.o trivial
  have bf:=qxk tup.length xz Wd;obtain⟨R,d6⟩:=ex (Wd.heap.size+2);rw [d6]at bf;rw [aV];clear ba e1 e2 e3 d0 d1;refine hd8 ?_ dv dx cx bi qd bf hl aV;clear dv dx cx bi qd bf hl aV;intro cZ aZ c5 bx cm ci ew eh
  try (refine⟨wE,?_⟩;rename_i aK;refine aK _ _ ?_;clear aK;gi_wp2)
  refine⟨wE,rfl,(zU.2 ci.o).mono ?_⟩;rintro e W4 ⟨rfl,k4,ad,P0,K0,an,bm⟩;have z4:=k4.size;have kD:wD W4 W4.drew:=kDr;have bp:wD W2 W4.drew:=(c5.o.trans k4).trans kD;have e3:=qb (bp.heap aj.o wE) 4 _ rfl;have e1:=qb ((k4.trans kD).heap cm.o wE) 0 _ rfl;have e2:=qb ((k4.trans kD).heap cm.o wE) 1 _ rfl;simp only [zD]at e1 e2 e3;obtain⟨Wq,bn,aq,aM,ec⟩:=qh3 (P:=prog) Tryz.underlying112 qjl qil (bx.o.keep (k4.trans kD) wE) (pr,tup.length) (qjm cw xz) R;unfold qdu at bn;have bk:setK rl (pr,tup.length) R=rl++ [((pr,tup.length),R)]:=by
   unfold setK;rw [zF (fun h=>by obtain⟨⟨k',R'⟩,hm,rfl⟩:=yK.1 h;exact aZ.o R' hm)]
  rw [bk]at aq;have dC:w.heap.size<=R:=by
   have h1:=aw.o.size;omega
  have aQ: ∀b,qaw g.tag S R b=none:=fun b=>by
   cases e:qaw g.tag S R b with
   |none=>rfl
   |some U=>have:=al.o.reln _ _ _ _ (qae.1 e);omega
  have kq:Keep (fun b=>b≠S/\b≠M) w Wq:=((aw.o.mt.trans (a2.o.mono fun b _ h=>h.1)).trans bp.mt).trans (aM.mono fun b _ h=>h.2);have dj:=aq.lt;have bJ:S≠M:=fun e=>by have:=d.o.tagM;rw [←e,d.o.tagS] at this;cases this
  have bO:Keep (fun b=>b≠M) W2 Wq:=bp.mt.trans aM;have t:Wq.heap[S]?=some (.cells (qgs T M c.length).toArray 116 (0,0)):=by have:=bO.heap aj.o bJ;simpa [qgs,qea] using this
  have cs:N≠M:=fun e=>by have:=al.o.lt _ _ d.o.tagM;omega
  have pq:=bO.heap c7.o cs;have a4:((pr,tup.length),R)∈rl∨(w.heap.size<=R/\ ∀R',((pr,tup.length),R')∉rl):=.inr ⟨dC,aZ.o⟩;have z:qh0 Wq M (qdh rl (pr,tup.length) R):=by
   unfold qdh;rw [zF (aZ.o R)];exact aq
  have tS: ∀b U,g.tag b=some U->U≠(S,.box)->b≠S:=fun b U p hU e=>by rw [e,d.o.tagS] at p;exact hU (yH p).symm
  have tM: ∀b U,g.tag b=some U->U≠(S,.rels)->b≠M:=fun b U p hU e=>by rw [e,d.o.tagM] at p;exact hU (yH p).symm
  have ae:TabAt Wq T MX vx xs:=(bR.o.table.keep a2.o (tS _ _ d.o.tagT (fun e=>by cases e)) (tS _ _ d.o.tagN (fun e=>by cases e)) (fun b p=>tS _ _ (d.o.tagx b p) (fun e=>by cases e))).keep bO (tM _ _ d.o.tagT (fun e=>by cases e)) (tM _ _ d.o.tagN (fun e=>by cases e)) (fun b p=>tM _ _ (d.o.tagx b p) (fun e=>by cases e));have dZ:=al.o.lt _ _ d.o.tagM;have an:qb5 ad Wq R tup.length ((qo c pr tup.length).map (qr xs)) (.slice none 0 0) P0 K0 []:=by
   rw [cZ.o];exact(an.keep kD (fun _ _ _ _=>wE)).keep aM (fun b U p _ e=>by have:=bm b U p;have h1:=aw.o.size;omega)
  have ai:TagLe (qaw g.tag S R) ad:=fun b U p=>by rw [aQ b] at p;cases p
  have y:TagNew (qaw g.tag S R) ad w:=fun b U p=>.inr (by have:=bm b U p;have h1:=aw.o.size;omega);have eH:=qe (bp.heap aj.o wE);have eB:=qe ((k4.trans kD).heap cm.o wE);have dg:=And.intro e3 (And.intro e1 e2);have di:KB≠M:=xz
  have dh:=And.intro (aM.cell e3 bJ) (And.intro (aM.cell e1 di) (aM.cell e2 di));clear e1 e2 e3;clear aQ bp kD k4 aq aM ec bO tS tM dj dZ bk bm zd dC z4;refine ql3 ?_ a4 t pq kq ae z an ai y dg dh bn bJ cs;clear a4 t pq kq ae z an ai y dg dh bn bJ cs;intro bS aE cl bF aH aa ah am r bP bQ bV cW cV;gi_wp2;refine qag ?_;refine xc.2 ?_;refine qba rfl (fun W=>W.cell? ⟨S,4,none⟩=some (.map (some M))/\W.cell? ⟨KB,0,none⟩=some (.string pr)/\W.cell? ⟨KB,1,none⟩=some (.int .i64 (tup.length:Int))) [] ?_;refine qab [0,1,2,3,4,5,6] ?_
  iterate 7
   refine tkA rfl bP.o ?_
   try simp only [qac]
  refine qk ?_;refine ho 7 rfl fun K ar=>?_;have bn:=bV.o;go_wp2_with fail;clear bn;refine ar.o _ _ (fun _=>bQ.o) ?_;refine qbq wA (qai ?_);clear ar;have t:=aE.o;have pq:=cl.o;have kq:=bF.o;have ae:=aH.o;have z:=aa.o;have an:=ah.o;have ai:=am.o;have y:=r.o;clear aE cl bF aH aa ah am r bP bQ bV cW cV;obtain⟨cD,b8⟩: ∃v,(Value.slice none 0 0)=v:=⟨_,rfl⟩;obtain⟨cC,b3⟩: ∃l,([]:List (List Bool×Nat))=l:=⟨_,rfl⟩;rw [b8,b3]at an;clear b8 b3;gi_wp2
 rotate_left
 focus
  simp only [hl,zy,yx]at ba;obtain⟨cD,P0,K0,cC,hR⟩:=d.o.rel _ _ (qew hl);simp only at hR;refine qag ?_;refine xc.2 ?_
  go_quiet (fail)
  refine qai ?_;gi_wp2;obtain⟨Wq,bK⟩:=ex (W3.drewN nq);obtain⟨ad,aS⟩:=ex (qaw g.tag S R);have aW:wD W2 Wq:=by rw [←bK];exact c4.o.trans (Keep.drewN' _ _ _)
  have kq:Keep (fun b=>b≠S/\b≠M) w Wq:=(aw.o.mt.trans (a2.o.mono fun b _ h=>h.1)).trans aW.mt;have t:Wq.heap[S]?=some (.cells (qgs T M c.length).toArray 116 (0,0)):=by have:=aW.heap aj.o trivial;simpa [qgs,qea] using this
  have pq:=aW.heap c7.o trivial;have a4:((pr,tup.length),R)∈rl∨(w.heap.size<=R/\ ∀R',((pr,tup.length),R')∉rl):=.inl (qew hl);have z:qh0 Wq M (qdh rl (pr,tup.length) R):=by
   unfold qdh;rw [zI (qew hl),←bK];exact aP.o.keep (Keep.drewN' (fun _=>True) _ _) trivial
  have tS: ∀b U,g.tag b=some U->U≠(S,.box)->b≠S:=fun b U p hU e=>by rw [e,d.o.tagS] at p;exact hU (yH p).symm
  have ae:TabAt Wq T MX vx xs:=(bR.o.table.keep a2.o (tS _ _ d.o.tagT (fun e=>by cases e)) (tS _ _ d.o.tagN (fun e=>by cases e)) (fun b p=>tS _ _ (d.o.tagx b p) (fun e=>by cases e))).keep aW trivial trivial (fun _ _=>wE);have an:qb5 ad Wq R tup.length ((qo c pr tup.length).map (qr xs)) cD P0 K0 cC:=by
   rw [←aS];exact((hR.keep aw.o (fun _ _ _ _=>wE)).keep a2.o (fun b U p _=>tS _ _ (qae.1 p) (fun e=>by cases e))).keep aW (fun _ _ _ _=>wE)
  have ai:TagLe (qaw g.tag S R) ad:=by rw [aS];exact TagLe.refl _
  have y:TagNew (qaw g.tag S R) ad w:=by rw [aS];exact TagNew.refl _ _
  rw [bK];clear hl ba hR aS bK aW tS e1 e2 e3 d0 d1;refine hd1 ?_ a4;clear a4;intro bS
 rotate_left
 all_goals
  have dy:=t;have y3:=qb ((Keep.drew (fun _=>True) Wq).heap t wE) 3 _ rfl;have y1:=qb ((Keep.drew (fun _=>True) Wq).heap pq wE) 1 _ rfl;simp only [zD]at y3 y1;have eK:=qe t;have eE:=qe pq;have zq:=kq.size;have dD:=d.o.xl;have c8:N≠T:=by have:=qe d.o.tab;omega
  have c9:N≠MX:=by have:=d.o.nums.lt;omega
  have da:S≠T:=fun e=>by have:=d.o.tagT;rw [←e,d.o.tagS] at this;cases this
  have db:S≠MX:=fun e=>by have:=d.o.tagN;rw [←e,d.o.tagS] at this;cases this
  have dd:vx.ownBlock≠some S:=fun e=>by have:=d.o.tagx S e;rw [d.o.tagS] at this;cases this
  have dc:vx.ownBlock≠some N:=fun e=>by have:=al.o.lt _ _ (d.o.tagx N e);omega
  have dB:qal m Wq.drew (.slice a tup.length cp) tup:=⟨a,cp,rfl,ea,d8,fun k x hx=>by
   obtain⟨b,o,dp,p,hs⟩:=cY.o k x hx;have ht:=aO.o ⟨b,o,none⟩ tup.length cp (by rw [dp]);refine⟨b,o,dp,p,?_⟩;exact kq.cell hs ⟨fun e=>(by subst e;rw [d.o.tagS] at ht;cases ht),fun e=>(by subst e;rw [d.o.tagM] at ht;cases ht)⟩⟩
  have b5:=qrk (ae.keep (Keep.drew (fun _=>True) Wq) trivial trivial (fun _ _=>wE)) m _ tup dB (by simp;omega) c3.o (by have:=d.o.xfew;omega) (fun a' n' c' h=>by
   have ht:=aO.o a' n' c' h;refine⟨fun e=>?_,fun e=>?_,fun e=>?_⟩
   ·rw [e,d.o.tagT]at ht;cases ht
   ·rw [e,d.o.tagN]at ht;cases ht
   ·rw [d.o.tagx _ e]at ht;cases ht)
  have dm:=And.intro y3 y1;clear y3 y1 dB;refine qde ?_ dm b5 t pq kq ae z an ai y c8 c9 da db dd dc;clear dm b5 t pq kq ae z an ai y c8 c9 da db dd dc;intro aY cj aE cl bF aH aa ah am r cN cO cP cQ cS cR;refine hd1 ?_ dy;clear dy;intro c2;refine qag ?_;refine xc.2 ?_;refine qba rfl (fun W=>W.cell? ⟨S,3,none⟩=some (qj T)/\W.cell? ⟨N,1,none⟩=some (.slice a tup.length cp)) [] ?_;refine qab [0,1,2,3,4,5,6] ?_
  iterate 7
   refine tkA rfl aY.o ?_
   try simp only [qac]
  refine qk ?_;refine ho 7 rfl fun K ar=>?_;go_wp2_with fail;refine cj.o.mono ?_;rintro e W5 ⟨vo,cE,rfl,ce,bq,k5,cb,b9⟩;have dn:W5.cell? ⟨S,3,none⟩=some (qj T)/\W5.cell? ⟨N,1,none⟩=some (.slice a tup.length cp):=⟨k5.cell aY.o.1 ⟨cP.o,cQ.o,cS.o⟩,k5.cell aY.o.2 ⟨cN.o,cO.o,cR.o⟩⟩
  replace k5:Keep (fun b=>b≠T/\b≠MX/\vx.ownBlock≠some b) Wq W5:=kDr.trans k5
  have bo: ∀b,cE.ownBlock=some b->vx.ownBlock=some b∨Wq.heap.size<=b:=fun b p=>(cb b p).imp id (fun h=>by simpa using h);have z5:=k5.size;have ca: ∀b,vo.ownBlock=some b->Wq.heap.size<=b:=fun b p=>by have:=(zE bq b p).1;simpa using this
  clear cb;refine hd7 ?_ dn ce bq k5 bo b9 ca;clear dn ce bq k5 bo b9 ca;intro bU cn a3 c6 bz dP ck;go_wp2_with fail;refine ar.o _ _ (fun _=>bU.o) ?_;refine qab [8,9,10,11,12] ?_
  iterate 5
   refine tkA rfl bU.o ?_
   try simp only [qac]
  refine qk ?_;refine qbq wA (qai ?_);clear ar;have cu:=qmp (ts:=tup) (l:=qo c pr tup.length) (xs:=xs) (fun u s hu hs=>d.o.texts _ s (qc2.1 hu).1 hs);have bM: ∀b U,g.tag b=some (S,U)->(∀V,U≠.rel R V)->ad b=none:=fun b U p hU=>by
   cases e:ad b with
   |none=>rfl
   |some U'=>
    exfalso;rcases r.o b U' e with ⟨U2,h1⟩ |h1
    ·have:=qae.1 h1;rw [p] at this;cases this;exact hU U2 rfl
    ·have:=al.o.lt b _ p;omega
  have dk:qb5 ad W5 R tup.length ((qo c pr tup.length).map (qr (tup.foldl q8 xs))) cD P0 K0 cC:=by
   rw [cu];refine ah.o.keep c6.o (fun b U p _=>⟨fun e=>?_,fun e=>?_,fun e=>?_⟩)
   ·subst e;rw [bM b _ d.o.tagT (fun V h=>by cases h)] at p;cases p
   ·subst e;rw [bM b _ d.o.tagN (fun V h=>by cases h)] at p;cases p
   ·rw [bM b _ (d.o.tagx b e) (fun V h=>by cases h)]at p;cases p
  have bL:=a3.o;rw [←qdw (tup.foldl q8 xs) tup]at bL;have aR:=qxl dk (by rw [zL];have:=qky c pr tup.length;omega) W5.heap.size vo (qr (tup.foldl q8 xs) tup) (qd5 bL (by rw [qdw];omega)) (zG _) (qpy (fun s hs=>qf6.2 (.inr hs)) (by have:=(qkz tup xs).2;have:=d.o.xfew;omega)) (fun a' n' c' h=>by
   cases e:ad a'.block with
   |none=>rfl
   |some U=>
    exfalso;have h1:=ah.o.lt a'.block U e;have h2:=ck.o a'.block (by
     rcases bL.2 with ⟨e1,_⟩ |⟨g',cap,cur,e1,_⟩
     ·rw [e1]at h;cases h
     ·rw [e1]at h;injection h with h1 _ _
      injection h1 with h1
      rw [e1,←h1];simp [Value.ownBlock])
    omega)
  have a7:=qv1 (c:=c) (pr:=pr) (tup:=tup) (xs:=tup.foldl q8 xs) (fun u s hu hs=>qf6.2 (.inl (d.o.texts _ s (qc2.1 hu).1 hs))) (fun s hs=>qf6.2 (.inr hs));rw [a7.1,a7.2]at aR;obtain⟨i6,du⟩: ∃i,(qhq tup.length ((qo c pr tup.length).map (qr (tup.foldl q8 xs))) (qr (tup.foldl q8 xs) tup)).1=i:=⟨_,rfl⟩;rw [du]at aR;clear du;obtain⟨av,cv,rfl⟩:=qi a3.o;clear bL dk bM a7;refine hd2 ?_ aR cu;clear aR cu;intro ch ei;gi_wp2;refine⟨wE,rfl,(zU.2 ch.o).mono ?_⟩;rintro e W6 ⟨rfl,k6,rt,eM,dl,b2,bg⟩;obtain⟨ab,a9,aJ⟩:=q4r (n0:=n0) al.o hS d.o pr tup dt dw bS.o bF.o c2.o aa.o ah.o am.o r.o c6.o cn.o bz.o k6 dl b2 bg;have u5:=qb ab 5 _ rfl;have dV:=qg ab 5;have bG:=qb ab 0 _ rfl;have cq:=qg ab 0;have eI:=qe ab;have b7:=qz 5 (.int .i64 ((c.length:Int)+1)) ab;have bH:=qb b7 0 _ rfl;have cr:=qg b7 0;simp only [zD]at u5 bG bH;have dq:(c.length:Int)+1<=67108864:=xz
  clear k6 dl b2 bg ab b7;by_cases hf:(⟨pr,tup⟩:qy)∈c
  ·have aB:=a9 hf;have hA:qhr okF c ⟨pr,tup⟩=c:=zF (fun h=>h.2 hf);have hd:decide (okF ⟨pr,tup⟩=true/\(⟨pr,tup⟩:qy)∉c)=false:=zM (fun h=>h.2 hf);have az:decide ((⟨pr,tup⟩:qy)∉c)=false:=zM (fun h=>h hf);rw [az];have aA:decide ((⟨pr,tup⟩:qy)∈c)=true:=zS hf;clear hf a9 aJ az bH cr dq u5 dV zq z5 dD;refine hd6 ?_ aB hA hd aA bG cq;clear aB hA hd aA bG cq;intro aG cg dN aF cL cT;gi_wp2;exact qgr cL.o cT.o (qb7 (xZ rfl _ _ _) ⟨by rw [aF.o];rfl,{g with st:=g.with S c,tag:=qbz g.tag S R rt cE},aG.o,by rw [cg.o],rfl⟩)
  ·have aB:=aJ hf;have hA:qhr okF c ⟨pr,tup⟩=c++ [⟨pr,tup⟩]:=zI ⟨a1.o,hf⟩;have hd:decide (okF ⟨pr,tup⟩=true/\(⟨pr,tup⟩:qy)∉c)=true:=zS ⟨a1.o,hf⟩;have az:decide ((⟨pr,tup⟩:qy)∉c)=true:=zS hf;rw [az];have aA:decide ((⟨pr,tup⟩:qy)∈c)=false:=zM hf;clear hf a9 aJ az zq z5 dD bG cq;clear dq;refine hd6 ?_ aB hA hd aA bH cr;clear aB hA hd aA bH cr;intro aG cg dN aF cM cU;gi_wp2;exact qgr cM.o cU.o (qb7 (xZ rfl _ _ _) ⟨by rw [aF.o];rfl,{g with st:=g.with S (c++ [⟨pr,tup⟩]),tag:=qbz g.tag S R rt cE},aG.o,by rw [cg.o],rfl⟩)
end Go.Proofs
namespace Go.Proofs
open Go.RowKit Go.Ink R4
attribute [local go_sem] Oper.semAt_some
structure SlotD where
 place:Int
 text:ByteArray
def SlotD.val (s:SlotD):Value:=.agg #[.int .i64 s.place,.string s.text]
def SlotE (w:World)(b o:Nat)(s:SlotD):Prop:=w.cell? ⟨b,o,none⟩=some (.int .i64 s.place)/\w.cell? ⟨b,o+1,none⟩=some (.string s.text)
abbrev q4s (n:Nat)(w:World)(v:Value)(ss:List SlotD):Prop:=SliceIn n w 2 SlotE v ss
theorem SlotE.keep {n:Nat}{w w':World}{b o:Nat}{s:SlotD}(h:SlotE w b o s)(c:b<n)(hK:Keep (fun k=>k<n) w w'):SlotE w' b o s:=⟨hK.cell h.1 c,hK.cell h.2 c⟩
def qdx (vals:List ByteArray)(s:SlotD):ByteArray:=if s.place<0 then s.text else vals.getD s.place.toNat ⟨#[]⟩
structure ValsAt (w:World)(Bv V:Nat)(vals:List ByteArray):Prop where
 box:w.heap[Bv]?=some (.cells #[.slice (some ⟨V,0,none⟩) vals.length vals.length] 60 (0,0))
 row:w.heap[V]?=some (.cells (vals.map Value.string).toArray 9 (0,0))
theorem ValsAt.keep {w w':World}{Bv V:Nat}{vals:List ByteArray}{C:Nat->Prop}(h:ValsAt w Bv V vals)(hK:Keep C w w')(b:C Bv)(c:C V):ValsAt w' Bv V vals:=⟨hK.heap h.box b,hK.heap h.row c⟩
theorem ValsAt.cell {w:World}{Bv V:Nat}{vals:List ByteArray}(h:ValsAt w Bv V vals){p:Nat}{s:ByteArray}(b:vals[p]?=some s):w.cell? ⟨V,p,none⟩=some (.string s):=by
 have:=qb h.row p (.string s) (by simp [zP,b])
 simpa using this
theorem qrj (n:Nat)(h:n<=1073741824)(u:World):(Instr.makeSlice 60 (.int .i64 0) (.int .i64 (n:Int))).run prog u=
  .ok (.slice (some ⟨u.heap.size,0,none⟩) 0 n) (u.alloc (.cells (Array.replicate n (Value.string ⟨#[]⟩)) 9)):=by
 obtain⟨i0,hi,b,c,d⟩:=info_parts qtz;have h:=run_make (P:=prog) u 60 9 i0 (.string ⟨#[]⟩) Tryz.underlying60 hi b .i64 .i64 (0:Int) (n:Int) xz xz (by rw [d];omega) xz
 simpa [c,Value.cells,qq5]using h
theorem qpf {w:World}{Bv V:Nat}{vals:List ByteArray}(h:ValsAt w Bv V vals)(hl:vals.length<=1073741824)(s:SlotD)(X:s.place<vals.length):
  Calls prog 120 #[s.val,qj Bv] w fun e w'=>e=.returned (.string (qdx vals s))/\wD w w':=by
 obtain⟨p,t⟩:=s;simp only at X;unfold SlotD.val qdx;simp only;obtain⟨N,g⟩:=ex (w.heap.size);obtain⟨W0,b⟩:=ex (w.alloc (.cells #[.int .i64 p,.string t] 132));have i:wD w W0:=by rw [←b];exact kAl
 have j:W0.heap[N]?=some (.cells #[.int .i64 p,.string t] 132 (0,0)):=by rw [←b,←g];exact qh _ _
 have q:=qb j 0 _ rfl;have r:=qb j 1 _ rfl;have l:=qe j;simp only [zD]at q r;by_cases v:p<0
 ·rw [zI v];refine hd4 ?_ h i b g;clear h i b g;intro x f c d
  go_enter Tryz.func120,Tryz.ntmps120
  go_wp2_with fail;rw [c.o,d.o];go_wp2_with fail;go_ret;exact⟨rfl,f.o⟩
 ·rw [zF v];obtain⟨k,rfl⟩: ∃k:Nat,p=(k:Int):=⟨p.toNat,xz⟩;obtain⟨s,m⟩: ∃s,vals[k]?=some s:=⟨_,zB xz⟩;have u:vals.getD ((k:Int)).toNat ⟨#[]⟩=s:=by rw [zJ];simp [m]
  rw [u];have y:=qb h.box 0 _ rfl;have Y:=h.cell m;have z:=qe h.box;have R:=qe h.row;have U:(0:Int)<=k:=xz
  simp only [zD]at y;clear u m j q r l;refine hd4 ?_ h i b g;clear h i b g;intro x f c d
  go_enter Tryz.func120,Tryz.ntmps120
  go_wp2_with fail;go_ret;exact⟨rfl,kAl⟩
theorem qnk {w:World}{Bt Bv V:Nat}{vals:List ByteArray}(ht:w.heap[Bt]?=some (.cells #[.func (.func 120) #[] #[qj Bv]] 188 (0,0)))(h:ValsAt w Bv V vals)(hl:vals.length<=1073741824)(m:Nat)(v:Value)(ss:List SlotD)(an:q4s m w v ss)(hm:m<=w.heap.size)(am: ∀s,s∈ss->s.place<vals.length):
  Calls prog 121 #[v,qj Bt] w fun e w'=> ∃vo,e=.returned vo/\w'.ownsRow w.heap.size 9 1 vo ss.length ((ss.map (qdx vals)).map .string)/\wD w w':=by
 obtain⟨a,c,rfl,aB,a0,ag⟩:=id an;obtain⟨B,hB⟩:=ex (w.heap.size);obtain⟨W0,f⟩:=ex (w.alloc (.cells (Array.replicate ss.length (Value.string ⟨#[]⟩)) 9));have k0:wD w W0:=by rw [←f];exact kAl
 have z0:W0.heap.size=w.heap.size+1:=by rw [←f];simp
 have q0:W0.ownsRow w.heap.size 9 1 (.slice (some ⟨w.heap.size,0,none⟩) 0 ss.length) 0 []:=by
  rw [←f];exact xe w _ ss.length (zG _) (by simp only [maxLen];omega) wB
 have aC:=fun u=>qrj ss.length aB u;rw [hB]at q0 z0;clear an;refine hd8 ?_ ag k0 q0 f hB h ht am;clear ag k0 q0 f hB h ht am;intro X aw ax R d Xh p ad
 go_enter Tryz.func121,Tryz.ntmps121
 go_wp2_with fail;rw [R.o,d.o];clear aC
 go_loopw [4,12] (fun x6 i' wr=> ∃k:Nat,k<=ss.length/\i'=.int .i64 (k:Int)/\wr.ownsRow B 9 1 x6 k (((ss.take k).map (qdx vals)).map .string)/\Keep (fun b=>b<B) w wr) (fun _ i _=>ss.length-(intOf i).toNat)
 case atStart=>exact⟨0,xz,rfl,ax.o,aw.o.mt⟩
 case round=>
  obtain⟨k,hk,rfl,ho,hK⟩:=hrel;have a3:=hK.size;by_cases ai:k<ss.length
  ·have aM:(k:Int)<ss.length:=by omega
   have a1:(0:Int)<=k:=xz
   obtain⟨s,hs⟩: ∃s,ss[k]?=some s:=⟨_,zB ai⟩;obtain⟨b,o,rfl,aW,r⟩:=X.o k s hs;have aY:wr.cell? ⟨b,o+k*2,none⟩=some (.int .i64 s.place):=hK.cell r.1 (by have:=d.o;simp only;omega);have aZ:wr.cell? ⟨b,o+k*2+1,none⟩=some (.string s.text):=hK.cell r.2 (by have:=d.o;simp only;omega);have aX:b<wr.heap.size:=by have:=d.o;omega
   have a4:=qe p.o;have aj:((ss.take (k+1)).map (qdx vals)).map Value.string=((ss.take k).map (qdx vals)).map Value.string++ [.string (qdx vals s)]:=by rw [zh,hs];simp
   obtain⟨W1,j⟩:=ex (wr.alloc (.cells #[.int .i64 s.place,.string s.text] 132));obtain⟨N,hN⟩:=ex (wr.heap.size);have k1:wD wr W1:=by rw [←j];exact kAl
   have q1:W1.heap[N]?=some (.cells #[.int .i64 s.place,.string s.text] 132 (0,0)):=by rw [←j,←hN];exact qh _ _
   have e0:=qb q1 0 _ rfl;have e1:=qb q1 1 _ rfl;have q:Keep (fun b=>b<B) w W1:=hK.trans k1.mt;have aD:=qb (hK.heap p.o (by have:=d.o;omega)) 0 _ rfl;have aL:=qe (hK.heap p.o (by have:=d.o;omega));simp only [zD]at aD;clear e0 e1;have ao:ValsAt W1 Bv V vals:=Xh.o.keep q (by have:=qe Xh.o.box;have:=d.o;omega) (by have:=qe Xh.o.row;have:=d.o;omega);have x:=qpf ao hl s (ad.o s (zH hs));have ak:=qf ho k1 (fun _ _=>wE);obtain⟨a6,c6,rfl⟩:=qi ho;unfold SlotD.val at x;clear r hs ao k1 q1 ho;refine hd7 ?_ x hK q ak aj j hN;clear x hK q ak aj j hN;intro ae y l aa Y U aS;go_wp2_with fail;rw [U.o];refine ae.o.mono ?_;rintro e W2 ⟨rfl,k2⟩;have t:=qf aa.o k2 (fun _ _=>wE);obtain⟨v',W6,hr,al,k6,g,cap,hv,aA,ah⟩:=qdd (P:=prog) qgm 60 t [.string (qdx vals s)] rfl (by simp [Value.oneCell']) xz (by have:=k2.size;have:=l.o.size;have:=d.o;omega);subst hv;have af:Keep (fun b=>b<B) w W6:=(l.o.trans k2.mt).trans (k6.mono fun b _ (hb:b<B) e=>by have:=(zE t b e.symm).1;omega);clear k2 k6 t aA;refine hd4 ?_ hr al af ah;clear hr al af ah;intro av ab z aI;go_wp2_with (at_builtin;refine qcd (v:=.slice a6 k c6) (u:=.slice (some ⟨W2.heap.size,0,none⟩) 1 1) (v':=.slice (some ⟨g,0,none⟩) (k+1) cap) (w':=W6) rfl (.tmp 16) (.tmp 20) 60 rfl rfl rfl av.o ?_);go_roundw
   case rel=>
    refine⟨k+1,xz,by go_num,?_,z.o⟩;rw [Y.o];exact ab.o
   case measure=>simp [intOf];omega
  ·obtain rfl:k=ss.length:=by omega
   rw [zi]at ho;obtain⟨a6,c6,rfl⟩:=qi ho;clear ai;refine hd2 ?_ ho hK;clear ho hK;intro au y;go_wp2_with fail;go_ret;exact⟨_,rfl,au.o.mono (by have:=d.o;omega),y.o.mono fun b hb _=>by have:=d.o;omega⟩
end Go.Proofs
