/- Parts of the proof. -/
import Derived.Test.YtnponcjnahicnaaGreatStNToStQ
set_option linter.unusedSimpArgs false
set_option linter.unusedVariables false
set_option maxRecDepth 100000
set_option maxHeartbeats 4000000
open Go.Proofs.Tryz(prog)
namespace Go.Proofs
open Go.RowKit Go.Ink R4 P16 Go.MuLone
attribute [local go_sem] Oper.semAt_some
def okF (f:qk):Bool:=qdq f.pred&&decide (f.tuple.length<=16)&&!(f.tuple.any fun s=>decide (1024<s.size))
theorem q34 {n0:Nat}{g:Gh}{w:World}(hg:GInv g w){S:Nat}{c:List qk}(hS:g.st S=some c)(f:qk)(m:Nat)(v:Value)(hv:qac m w v f.tuple)(hm:m<=w.heap.size)(c7:f.pred.size<=1073741824)(cR:c.length<67108864)(bU: ∀a n c,v=.slice (some a) n c->g.tag a.block=none):
  Calls prog 16 #[qi S,.agg #[.string f.pred,v]] w fun e w'=> ∃g',e=.returned (.tuple #[.bool (decide (okF f=true/\f∉c)),.int .i64 (if okF f=true then 0 else 2)])/\GStep n0 g w g' w'/\g'.st=g.with S (qed okF c f)/\g'.held=g.held:=by
 obtain⟨T,M,MX,vx,xs,rl,hP⟩:=hg.store S c hS;obtain⟨pr,tup⟩:=f;simp only at hv c7⊢;obtain⟨a,cp,rfl,dx,dR,dM⟩:=id hv;obtain⟨N,hN⟩:=ex (w.heap.size);obtain⟨W0,cm⟩:=ex (w.alloc (.cells #[.string pr,.slice a tup.length cp] 52));have k0:wG w W0:=by rw [←cm];exact kAl
 have z0:W0.heap.size=w.heap.size+1:=by rw [←cm];simp
 have p0:W0.heap[N]?=some (.cells #[.string pr,.slice a tup.length cp] 52 (0,0)):=by rw [←cm,←hN];exact qh _ _
 have cM:=hP.keep (tag':=g.tag) k0 (fun _ _ _=>wH) (fun _ _=>Iff.rfl);have c0:=qb p0 0 _ rfl;have c1:=qb p0 1 _ rfl;simp only [zD]at c0 c1;have d6:=qe p0;have eB:=qe cM.box;have ce:=qit cM.box;have bF:=qoz pr W0;have bI:=qxu m _ tup W0 (qn6 hv k0) wC;have ba:okF ⟨pr,tup⟩=(qdq pr&&decide (tup.length<=16)&&!(tup.any fun s=>decide (1024<s.size))):=rfl;have cQ:okF ⟨pr,tup⟩=false->g.with S (qed okF c ⟨pr,tup⟩)=g.st:=fun h=>by
  have e:qed okF c ⟨pr,tup⟩=c:=zF (by rw [h];simp);rw [e]
  funext b
  unfold Gh.with;by_cases q:b=S
  ·rw [zI q,q,hS]
  ·rw [zF q]
 refine qm6 ?_ hg hP cM k0 cm p0 ce bF bI hv dM cQ bU;clear hg hP cM k0 cm p0 ce bF bI hv dM cQ bU;intro ao d ey cH bq eo ap ab ar eG cU aL aq;by_cases aS:qdq pr=false
 ·have aZ:okF ⟨pr,tup⟩=false:=by rw [ba,aS];rfl
  have a1:=aL.o aZ;rw [aS]at ab;clear ba aS;refine hd1 ?_ a1;clear a1;intro a5;refine qgb Tryz.func16 rfl ?_;simp only [Tryz.ntmps16,qd0,Nat.reduceAdd,Nat.reduceSub];gi_wp2;rw [bq.o];refine⟨wH,rfl,(zU.2 ap.o).mono ?_⟩;rintro e w9 ⟨rfl,p⟩;have p:=p.symm;subst p;gi_wp2;refine⟨wH,rfl,(zU.2 ab.o).mono ?_⟩;rintro e w9 ⟨rfl,p⟩;have p:=p.symm;subst p;gi_wp2;refine⟨wH,?_⟩;rename_i aK;refine aK _ _ ?_;clear aK;gi_wp2
  all_goals exact qb9 (xc rfl _ _ _) ⟨rfl,g,GStep.own ao.o cH.o,a5.o.symm,rfl⟩
 rw [Bool.not_eq_false]at aS;rw [aS]at ab;by_cases ea:16<tup.length
 ·have aZ:okF ⟨pr,tup⟩=false:=by rw [ba,zM (show ¬tup.length<=16 from wC)];simp
  have a1:=aL.o aZ;have dq:(16:Int)<tup.length:=wC
  clear ba aS ea;refine hd1 ?_ a1;clear a1;intro a5;refine qgb Tryz.func16 rfl ?_;simp only [Tryz.ntmps16,qd0,Nat.reduceAdd,Nat.reduceSub];gi_wp2;rw [bq.o];refine⟨wH,rfl,(zU.2 ap.o).mono ?_⟩;rintro e w9 ⟨rfl,p⟩;have p:=p.symm;subst p;gi_wp2;refine⟨wH,rfl,(zU.2 ab.o).mono ?_⟩;rintro e w9 ⟨rfl,p⟩;have p:=p.symm;subst p;gi_wp2;refine⟨wH,?_⟩;rename_i aK;refine aK _ _ ?_;clear aK;gi_wp2
  all_goals exact qb9 (xc rfl _ _ _) ⟨rfl,g,GStep.own ao.o cH.o,a5.o.symm,rfl⟩
 have dq: ¬(16:Int)<tup.length:=wC
 by_cases aQ:(tup.any fun s=>decide (1024<s.size))=true
 ·have aZ:okF ⟨pr,tup⟩=false:=by rw [ba,aQ];simp
  have a1:=aL.o aZ;rw [aQ]at ar;clear ba aS aQ;refine hd1 ?_ a1;clear a1;intro a5;refine qgb Tryz.func16 rfl ?_;simp only [Tryz.ntmps16,qd0,Nat.reduceAdd,Nat.reduceSub];gi_wp2;rw [bq.o];refine⟨wH,rfl,(zU.2 ap.o).mono ?_⟩;rintro e w9 ⟨rfl,p⟩;have p:=p.symm;subst p;gi_wp2;refine⟨wH,rfl,(zU.2 ab.o).mono ?_⟩;rintro e w9 ⟨rfl,p⟩;have p:=p.symm;subst p;gi_wp2;refine⟨wH,rfl,(zU.2 ar.o).mono ?_⟩;rintro e W1 ⟨rfl,k1⟩;have kA:wG w W1:=cH.o.trans (k1.mono fun b q _=>q);clear k1;refine hd1 ?_ kA;clear kA;intro a2;gi_wp2
  all_goals exact qb9 (xc rfl _ _ _) ⟨rfl,g,GStep.own ao.o a2.o,a5.o.symm,rfl⟩
 rw [xw]at aQ;have c3:okF ⟨pr,tup⟩=true:=by rw [ba,aS,aQ,zS (show tup.length<=16 from wC)];rfl
 have dp: ∀s,s∈tup->s.size<=1073741824:=fun s hs=>by
  rw [xb]at aQ;have:=aQ s hs;simp at this;omega
 rw [aQ]at ar;clear ba aS aQ aL;have cS:tup.length<=16:=wC
 refine hd2 ?_ c3 dp;clear c3 dp;intro aH cX;refine qgb Tryz.func16 rfl ?_;simp only [Tryz.ntmps16,qd0,Nat.reduceAdd,Nat.reduceSub];gi_wp2;rw [bq.o];refine⟨wH,rfl,(zU.2 ap.o).mono ?_⟩;rintro e w9 ⟨rfl,p⟩;have p:=p.symm;subst p;gi_wp2;refine⟨wH,rfl,(zU.2 ab.o).mono ?_⟩;rintro e w9 ⟨rfl,p⟩;have p:=p.symm;subst p;gi_wp2;refine⟨wH,rfl,(zU.2 ar.o).mono ?_⟩;rintro e W1 ⟨rfl,k1⟩
 replace k1:wG W0 W1:=k1.mono fun b q _=>q
 have kA:wG w W1:=cH.o.trans k1;have aG:=d.o.keep (tag':=g.tag) kA (fun _ _ _=>wH) (fun _ _=>Iff.rfl);have a0:=qb aG.box 0 _ rfl;have f0:=qg aG.box 0;have p1:=k1.heap eo.o trivial;have z1:=k1.size;obtain⟨W2,bt⟩:=ex (W1.setCell ⟨S,0,none⟩ (.int .i32 1));have bj:=lock_free qhs ⟨S,0,none⟩ W1 (by simpa using a0) f0;rw [bt]at bj;have k2:Keep (fun b=>b≠S) W1 W2:=by rw [←bt];exact kSc
 have z2:=k2.size;have aY:=qag 0 (.int .i32 1) aG.box;rw [bt]at aY;have ed:N≠S:=by have:=qe d.o.box;omega
 have p2:=k2.heap p1 ed;have cY: ∀W,wG W2 W->wG w (W.setCell ⟨S,0,none⟩ (.int .i32 0)):=fun W hK=>kA.trans (qje aG.box (by rw [bt];exact hK));have d0:=qb p2 0 _ rfl;have d1:=qb p2 1 _ rfl;simp only [zD]at d0 d1;have eE:=qe p2;have eK:=qe aG.box;obtain⟨W3,cf⟩:=ex (W2.alloc (.cells #[.string pr,.int .i64 (tup.length:Int)] 122));obtain⟨KB,er⟩:=ex (W2.heap.size);have k3:wG W2 W3:=by rw [←cf];exact kAl
 have q3:W3.heap[KB]?=some (.cells #[.string pr,.int .i64 (tup.length:Int)] 122 (0,0)):=by rw [←cf,←er];exact qh _ _
 have z3:W2.heap.size<W3.heap.size:=by rw [←cf];simp
 have d8:M≠S:=fun e=>by have:=aG.tagM;rw [e,aG.tagS] at this;cases this
 have bm:=(aG.rels.keep k2 d8).keep k3 trivial;have ch:=fun m=>qef (P:=prog) Tryz.underlying116 qkk qjf qmi (bm.keep (Keep.drewN' (fun _=>True) W3 m) wH) (pr,tup.length) (qkl c7 wC) false;have e3:=qb (k3.heap aY wH) 4 _ rfl;have e1:=qb q3 0 _ rfl;have e2:=qb q3 1 _ rfl;simp only [zD]at e1 e2 e3;have eT:=qe (k3.heap aY wH);have eH:=qe q3;unfold qem at ch;clear k1 d6 c0 c1;refine qhv ?_ kA aG bj k2 aY p2 cY cf k3 q3 bt bm;clear kA aG bj k2 aY p2 cY cf k3 q3 bt bm;intro a2 cW cK b8 aU dJ eh dv dE eg ez bs;gi_wp2;refine⟨wH,rfl,(zU.2 cK.o).mono ?_⟩;rintro e w9 ⟨rfl,p⟩;have p:=p.symm;subst p;gi_wp2;rw [dv.o];cases hl:qdj rl (pr,tup.length) with
 |none=>
  simp only [hl,zz,xA]at ch;have dD:=qmj d.o hl;have dB:=qs7 hl;refine qae ?_;refine xe.2 ?_
  go_quiet (fail)
  refine qo ?_;gi_wp2;obtain⟨Wd,bu⟩:=ex (W3.drewN nq);have dj:wG W2 Wd:=by rw [←bu];exact dE.o.trans (Keep.drewN' _ _ _)
  have zd:=dj.size;have bR:qiu Wd M rl:=by rw [←bu];exact bs.o.keep (Keep.drewN' (fun _=>True) _ _) trivial
  have qd:Wd.heap[KB]?=some (.cells #[.string pr,.int .i64 (tup.length:Int)] 122 (0,0)):=by rw [←bu];exact(Keep.drewN' (fun _=>True) _ _).heap eg.o trivial
  have cl:=q0f tup.length wC Wd;obtain⟨R,ej⟩:=ex (Wd.heap.size+2);rw [ej]at cl;rw [bu];clear ch e1 e2 e3 d0 d1;refine hd8 ?_ dD dB dj bR qd cl hl bu;clear dD dB dj bR qd cl hl bu;intro dV b9 dz cG di da eL es
  try (refine⟨wH,?_⟩;rename_i aK;refine aK _ _ ?_;clear aK;gi_wp2)
  refine⟨wH,rfl,(zU.2 da.o).mono ?_⟩;rintro e W4 ⟨rfl,k4,ah,P0,K0,aD,b1⟩;have z4:=k4.size;have kD:wG W4 W4.drew:=kDr;have bP:wG W2 W4.drew:=(dz.o.trans k4).trans kD;have e3:=qb (bP.heap aU.o wH) 4 _ rfl;have e1:=qb ((k4.trans kD).heap di.o wH) 0 _ rfl;have e2:=qb ((k4.trans kD).heap di.o wH) 1 _ rfl;simp only [zD]at e1 e2 e3;obtain⟨Wq,bV,aJ,bg,en⟩:=qi0 (P:=prog) Tryz.underlying116 qkk qjf (cG.o.keep (k4.trans kD) wH) (pr,tup.length) (qkl c7 wC) R;unfold qem at bV;have b4:setK rl (pr,tup.length) R=rl++ [((pr,tup.length),R)]:=by
   unfold setK;rw [zF (fun h=>by obtain⟨⟨k',R'⟩,hm,rfl⟩:=yL.1 h;exact b9.o R' hm)]
  rw [b4]at aJ;have dl:w.heap.size<=R:=by
   have h1:=a2.o.size;omega
  have br: ∀b,qa6 g.tag S R b=none:=fun b=>by
   cases e:qa6 g.tag S R b with
   |none=>rfl
   |some U=>have:=ao.o.reln _ _ _ _ (qah.1 e);omega
  have kq:Keep (fun b=>b≠S/\b≠M) w Wq:=((a2.o.mt.trans (b8.o.mono fun b _ h=>h.1)).trans bP.mt).trans (bg.mono fun b _ h=>h.2);have dT:=aJ.lt;have cF:S≠M:=fun e=>by have:=d.o.tagM;rw [←e,d.o.tagS] at this;cases this
  have cE:Keep (fun b=>b≠M) W2 Wq:=bP.mt.trans bg;have t:Wq.heap[S]?=some (.cells (qhi T M c.length).toArray 120 (0,0)):=by have:=cE.heap aU.o cF;simpa [qhi,qe9] using this
  have df:N≠M:=fun e=>by have:=ao.o.lt _ _ d.o.tagM;omega
  have pq:=cE.heap dJ.o df;have cg:((pr,tup.length),R)∈rl∨(w.heap.size<=R/\ ∀R',((pr,tup.length),R')∉rl):=.inr ⟨dl,b9.o⟩;have X:qiu Wq M (qd9 rl (pr,tup.length) R):=by
   unfold qd9;rw [zF (b9.o R)];exact aJ
  have tS: ∀b U,g.tag b=some U->U≠(S,.box)->b≠S:=fun b U q hU e=>by rw [e,d.o.tagS] at q;exact hU (yI q).symm
  have tM: ∀b U,g.tag b=some U->U≠(S,.rels)->b≠M:=fun b U q hU e=>by rw [e,d.o.tagM] at q;exact hU (yI q).symm
  have ae:TabAt Wq T MX vx xs:=(cW.o.table.keep b8.o (tS _ _ d.o.tagT (fun e=>by cases e)) (tS _ _ d.o.tagN (fun e=>by cases e)) (fun b q=>tS _ _ (d.o.tagx b q) (fun e=>by cases e))).keep cE (tM _ _ d.o.tagT (fun e=>by cases e)) (tM _ _ d.o.tagN (fun e=>by cases e)) (fun b q=>tM _ _ (d.o.tagx b q) (fun e=>by cases e));have eb:=ao.o.lt _ _ d.o.tagM;have aD:qcl ah Wq R tup.length ((qv c pr tup.length).map (qx xs)) (.slice none 0 0) P0 K0 []:=by
   rw [dV.o];exact(aD.keep kD (fun _ _ _ _=>wH)).keep bg (fun b U q _ e=>by have:=b1 b U q;have h1:=a2.o.size;omega)
  have al:TagLe (qa6 g.tag S R) ah:=fun b U q=>by rw [br b] at q;cases q
  have z:TagNew (qa6 g.tag S R) ah w:=fun b U q=>.inr (by have:=b1 b U q;have h1:=a2.o.size;omega);have eC:=qe (bP.heap aU.o wH);have eR:=qe ((k4.trans kD).heap di.o wH);have dU:=And.intro e3 (And.intro e1 e2);have dn:KB≠M:=wC
  have dG:=And.intro (bg.cell e3 cF) (And.intro (bg.cell e1 dn) (bg.cell e2 dn));clear e1 e2 e3;clear br bP kD k4 aJ bg en cE tS tM dT eb b4 b1 zd dl z4;refine qlu ?_ cg t pq kq ae X aD al z dU dG bV cF df;clear cg t pq kq ae X aD al z dU dG bV cF df;intro cd aT cB bv aI aa ad ak y cO cN cV dH ds;gi_wp2;refine qae ?_;refine xe.2 ?_;refine qa5 rfl (fun W=>W.cell? ⟨S,4,none⟩=some (.map (some M))/\W.cell? ⟨KB,0,none⟩=some (.string pr)/\W.cell? ⟨KB,1,none⟩=some (.int .i64 (tup.length:Int))) [] ?_;refine qy [0,1,2,3,4,5,6] ?_
  iterate 7
   refine tkN (v:=?_) rfl cO.o ?_ ?_;rotate_left
   ·rintro Wq ⟨x0,x1,x2⟩;go_simp
    try with_reducible rfl
   try simp only [qz]
  refine qm ?_;refine ho 7 rfl fun K am=>?_;have bV:=cV.o;go_wp2_with fail;clear bV;refine am.o _ _ (fun _=>cN.o) ?_;refine qbh wD (qo ?_);clear am;have t:=aT.o;have pq:=cB.o;have kq:=bv.o;have ae:=aI.o;have X:=aa.o;have aD:=ad.o;have al:=ak.o;have z:=y.o;clear aT cB bv aI aa ad ak y cO cN cV dH ds;obtain⟨cL,cZ⟩: ∃v,(Value.slice none 0 0)=v:=⟨_,rfl⟩;obtain⟨cC,cP⟩: ∃l,([]:List (List Bool×Nat))=l:=⟨_,rfl⟩;rw [cZ,cP]at aD;clear cZ cP;gi_wp2;have co:=t;have y3:=qb ((Keep.drew (fun _=>True) Wq).heap t wH) 3 _ rfl;have y1:=qb ((Keep.drew (fun _=>True) Wq).heap pq wH) 1 _ rfl;simp only [zD]at y3 y1;have ef:=qe t;have ep:=qe pq;have zq:=kq.size;have b6:=d.o.xl;have cr:N≠T:=by have:=qe d.o.tab;omega
  have b2:N≠MX:=by have:=d.o.nums.lt;omega
  have ca:S≠T:=fun e=>by have:=d.o.tagT;rw [←e,d.o.tagS] at this;cases this
  have ct:S≠MX:=fun e=>by have:=d.o.tagN;rw [←e,d.o.tagS] at this;cases this
  have bQ:vx.ownBlock≠some S:=fun e=>by have:=d.o.tagx S e;rw [d.o.tagS] at this;cases this
  have bM:vx.ownBlock≠some N:=fun e=>by have:=ao.o.lt _ _ (d.o.tagx N e);omega
  have cn:qac m Wq.drew (.slice a tup.length cp) tup:=⟨a,cp,rfl,dx,dR,fun k x hx=>by
   obtain⟨b,o,bO,q,hs⟩:=cU.o k x hx;have ht:=aq.o ⟨b,o,none⟩ tup.length cp (by rw [bO]);refine⟨b,o,bO,q,?_⟩;exact kq.cell hs ⟨fun e=>(by subst e;rw [d.o.tagS] at ht;cases ht),fun e=>(by subst e;rw [d.o.tagM] at ht;cases ht)⟩⟩
  have a9:=qmu (ae.keep (Keep.drew (fun _=>True) Wq) trivial trivial (fun _ _=>wH)) m _ tup cn (by simp;omega) cX.o (by have:=d.o.xfew;omega) (fun a' n' c' h=>by
   have ht:=aq.o a' n' c' h;refine⟨fun e=>?_,fun e=>?_,fun e=>?_⟩
   ·rw [e,d.o.tagT]at ht;cases ht
   ·rw [e,d.o.tagN]at ht;cases ht
   ·rw [d.o.tagx _ e]at ht;cases ht)
  have b0:=And.intro y3 y1;clear y3 y1 cn;refine qb5 ?_ b0 a9 t pq kq ae X aD al z cr b2 ca ct bQ bM;clear b0 a9 t pq kq ae X aD al z cr b2 ca ct bQ bM;intro aw bk aT cB bv aI aa ad ak y bN bJ cb b3 cq bS;refine hd1 ?_ co;clear co;intro cj;refine qae ?_;refine xe.2 ?_;refine qa5 rfl (fun W=>W.cell? ⟨S,3,none⟩=some (qi T)/\W.cell? ⟨N,1,none⟩=some (.slice a tup.length cp)) [] ?_;refine qy [0,1,2,3,4,5,6] ?_
  iterate 7
   refine tkN (v:=?_) rfl aw.o ?_ ?_;rotate_left
   ·rintro Wq ⟨x0,x1⟩;go_simp
    try with_reducible rfl
   try simp only [qz]
  refine qm ?_;refine ho 7 rfl fun K am=>?_;go_wp2_with fail;refine bk.o.mono ?_;rintro e W5 ⟨vo,bi,rfl,a6,aA,k5,a3,aX⟩;have cu:W5.cell? ⟨S,3,none⟩=some (qi T)/\W5.cell? ⟨N,1,none⟩=some (.slice a tup.length cp):=⟨k5.cell aw.o.1 ⟨cb.o,b3.o,cq.o⟩,k5.cell aw.o.2 ⟨bN.o,bJ.o,bS.o⟩⟩
  replace k5:Keep (fun b=>b≠T/\b≠MX/\vx.ownBlock≠some b) Wq W5:=kDr.trans k5
  have aB: ∀b,bi.ownBlock=some b->vx.ownBlock=some b∨Wq.heap.size<=b:=fun b q=>(a3 b q).imp id (fun h=>by simpa using h);have z5:=k5.size;have a4: ∀b,vo.ownBlock=some b->Wq.heap.size<=b:=fun b q=>by have:=(zE aA b q).1;simpa using this
  clear a3;refine hd7 ?_ cu a6 aA k5 aB aX a4;clear cu a6 aA k5 aB aX a4;intro a8 bf ax ci aO c8 bn;go_wp2_with fail;refine am.o _ _ (fun _=>a8.o) ?_;refine qy [8,9,10,11,12] ?_
  iterate 5
   refine tkN (v:=?_) rfl a8.o ?_ ?_;rotate_left
   ·rintro Wq ⟨x0,x1⟩;go_simp
    try with_reducible rfl
   try simp only [qz]
  refine qm ?_;refine qbh wD (qo ?_);clear am;have bl:=qkx (ts:=tup) (l:=qv c pr tup.length) (xs:=xs) (fun u s hu hs=>d.o.texts _ s (qco.1 hu).1 hs);have aR: ∀b U,g.tag b=some (S,U)->(∀V,U≠.rel R V)->ah b=none:=fun b U q hU=>by
   cases e:ah b with
   |none=>rfl
   |some U'=>
    exfalso;rcases y.o b U' e with ⟨U2,h1⟩ |h1
    ·have:=qah.1 h1;rw [q] at this;cases this;exact hU U2 rfl
    ·have:=ao.o.lt b _ q;omega
  have cc:qcl ah W5 R tup.length ((qv c pr tup.length).map (qx (tup.foldl qr xs))) cL P0 K0 cC:=by
   rw [bl];refine ad.o.keep ci.o (fun b U q _=>⟨fun e=>?_,fun e=>?_,fun e=>?_⟩)
   ·subst e;rw [aR b _ d.o.tagT (fun V h=>by cases h)] at q;cases q
   ·subst e;rw [aR b _ d.o.tagN (fun V h=>by cases h)] at q;cases q
   ·rw [aR b _ (d.o.tagx b e) (fun V h=>by cases h)]at q;cases q
  have aP:=ax.o;rw [←qdu (tup.foldl qr xs) tup]at aP;have aj:=qq4 cc (by rw [zL];have:=qj2 c pr tup.length;omega) W5.heap.size vo (qx (tup.foldl qr xs) tup) (qen aP (by rw [qdu];omega)) (zG _) (qom (fun s hs=>qdn.2 (.inr hs)) (by have:=(qe2 tup xs).2;have:=d.o.xfew;omega)) (fun a' n' c' h=>by
   cases e:ah a'.block with
   |none=>rfl
   |some U=>
    exfalso;have h1:=ad.o.lt a'.block U e;have h2:=bn.o a'.block (by
     rcases aP.2 with ⟨e1,_⟩ |⟨g',cap,cur,e1,_⟩
     ·rw [e1]at h;cases h
     ·rw [e1]at h;injection h with h1 _ _
      injection h1 with h1
      rw [e1,←h1];simp [Value.ownBlock])
    omega)
  have aC:=qrz (c:=c) (pr:=pr) (tup:=tup) (xs:=tup.foldl qr xs) (fun u s hu hs=>qdn.2 (.inl (d.o.texts _ s (qco.1 hu).1 hs))) (fun s hs=>qdn.2 (.inr hs));rw [aC.1,aC.2]at aj;obtain⟨i6,bL⟩: ∃i,(qhy tup.length ((qv c pr tup.length).map (qx (tup.foldl qr xs))) (qx (tup.foldl qr xs) tup)).1=i:=⟨_,rfl⟩;rw [bL]at aj;clear bL;obtain⟨av,cv,rfl⟩:=qj ax.o;clear aP cc aR aC;refine hd2 ?_ aj bl;clear aj bl;intro bh dO;gi_wp2;refine⟨wH,rfl,(zU.2 bh.o).mono ?_⟩;rintro e W6 ⟨rfl,k6,rt,d4,bG,a7,ay⟩;obtain⟨r,aE,ag⟩:=qyt (n0:=n0) ao.o hS d.o pr tup cR cS cd.o bv.o cj.o aa.o ad.o ak.o y.o ci.o bf.o aO.o k6 bG a7 ay;have u5:=qb r 5 _ rfl;have dg:=qg r 5;have aN:=qb r 0 _ rfl;have bd:=qg r 0;have d9:=qe r;have b7:=qag 5 (.int .i64 ((c.length:Int)+1)) r;have aM:=qb b7 0 _ rfl;have bc:=qg b7 0;simp only [zD]at u5 aN aM;have bK:(c.length:Int)+1<=67108864:=wC
  clear k6 bG a7 ay r b7;by_cases hf:(⟨pr,tup⟩:qk)∈c
  ·have Y:=aE hf;have hA:qed okF c ⟨pr,tup⟩=c:=zF (fun h=>h.2 hf);have hd:decide (okF ⟨pr,tup⟩=true/\(⟨pr,tup⟩:qk)∉c)=false:=zM (fun h=>h.2 hf);have hd2:decide ((⟨pr,tup⟩:qk)∉c)=false:=zM (fun h=>h hf);rw [hd2];have hd3:decide ((⟨pr,tup⟩:qk)∈c)=true:=zS hf;clear hf aE ag hd2 aM bc bK u5 dg zq z5 b6;refine hd6 ?_ Y hA hd hd3 aN bd;clear Y hA hd hd3 aN bd;intro ai bb de az ck cs;gi_wp2;exact qez ck.o cs.o (qb9 (xc rfl _ _ _) ⟨by rw [az.o];rfl,{g with st:=g.with S c,tag:=qb7 g.tag S R rt bi},ai.o,by rw [bb.o],rfl⟩)
  ·have Y:=ag hf;have hA:qed okF c ⟨pr,tup⟩=c++ [⟨pr,tup⟩]:=zI ⟨aH.o,hf⟩;have hd:decide (okF ⟨pr,tup⟩=true/\(⟨pr,tup⟩:qk)∉c)=true:=zS ⟨aH.o,hf⟩;have hd2:decide ((⟨pr,tup⟩:qk)∉c)=true:=zS hf;rw [hd2];have hd3:decide ((⟨pr,tup⟩:qk)∈c)=false:=zM hf;clear hf aE ag hd2 zq z5 b6 aN bd;clear bK;refine hd6 ?_ Y hA hd hd3 aM bc;clear Y hA hd hd3 aM bc;intro ai bb de az b5 bH;gi_wp2;exact qez b5.o bH.o (qb9 (xc rfl _ _ _) ⟨by rw [az.o];rfl,{g with st:=g.with S (c++ [⟨pr,tup⟩]),tag:=qb7 g.tag S R rt bi},ai.o,by rw [bb.o],rfl⟩)
 |some R=>
  simp only [hl,zz,xA]at ch;obtain⟨cL,P0,K0,cC,hR⟩:=d.o.rel _ _ (qft hl);simp only at hR;refine qae ?_;refine xe.2 ?_
  go_quiet (fail)
  refine qo ?_;gi_wp2;obtain⟨Wq,cI⟩:=ex (W3.drewN nq);obtain⟨ah,bp⟩:=ex (qa6 g.tag S R);have bw:wG W2 Wq:=by rw [←cI];exact dE.o.trans (Keep.drewN' _ _ _)
  have kq:Keep (fun b=>b≠S/\b≠M) w Wq:=(a2.o.mt.trans (b8.o.mono fun b _ h=>h.1)).trans bw.mt;have t:Wq.heap[S]?=some (.cells (qhi T M c.length).toArray 120 (0,0)):=by have:=bw.heap aU.o trivial;simpa [qhi,qe9] using this
  have pq:=bw.heap dJ.o trivial;have cg:((pr,tup.length),R)∈rl∨(w.heap.size<=R/\ ∀R',((pr,tup.length),R')∉rl):=.inl (qft hl);have X:qiu Wq M (qd9 rl (pr,tup.length) R):=by
   unfold qd9;rw [zI (qft hl),←cI];exact bs.o.keep (Keep.drewN' (fun _=>True) _ _) trivial
  have tS: ∀b U,g.tag b=some U->U≠(S,.box)->b≠S:=fun b U q hU e=>by rw [e,d.o.tagS] at q;exact hU (yI q).symm
  have ae:TabAt Wq T MX vx xs:=(cW.o.table.keep b8.o (tS _ _ d.o.tagT (fun e=>by cases e)) (tS _ _ d.o.tagN (fun e=>by cases e)) (fun b q=>tS _ _ (d.o.tagx b q) (fun e=>by cases e))).keep bw trivial trivial (fun _ _=>wH);have aD:qcl ah Wq R tup.length ((qv c pr tup.length).map (qx xs)) cL P0 K0 cC:=by
   rw [←bp];exact((hR.keep a2.o (fun _ _ _ _=>wH)).keep b8.o (fun b U q _=>tS _ _ (qah.1 q) (fun e=>by cases e))).keep bw (fun _ _ _ _=>wH)
  have al:TagLe (qa6 g.tag S R) ah:=by rw [bp];exact TagLe.refl _
  have z:TagNew (qa6 g.tag S R) ah w:=by rw [bp];exact TagNew.refl _ _
  rw [cI];clear hl ch hR bp cI bw tS e1 e2 e3 d0 d1;refine hd1 ?_ cg;clear cg;intro cd;have co:=t;have y3:=qb ((Keep.drew (fun _=>True) Wq).heap t wH) 3 _ rfl;have y1:=qb ((Keep.drew (fun _=>True) Wq).heap pq wH) 1 _ rfl;simp only [zD]at y3 y1;have ef:=qe t;have ep:=qe pq;have zq:=kq.size;have b6:=d.o.xl;have cr:N≠T:=by have:=qe d.o.tab;omega
  have b2:N≠MX:=by have:=d.o.nums.lt;omega
  have ca:S≠T:=fun e=>by have:=d.o.tagT;rw [←e,d.o.tagS] at this;cases this
  have ct:S≠MX:=fun e=>by have:=d.o.tagN;rw [←e,d.o.tagS] at this;cases this
  have bQ:vx.ownBlock≠some S:=fun e=>by have:=d.o.tagx S e;rw [d.o.tagS] at this;cases this
  have bM:vx.ownBlock≠some N:=fun e=>by have:=ao.o.lt _ _ (d.o.tagx N e);omega
  have cn:qac m Wq.drew (.slice a tup.length cp) tup:=⟨a,cp,rfl,dx,dR,fun k x hx=>by
   obtain⟨b,o,bO,q,hs⟩:=cU.o k x hx;have ht:=aq.o ⟨b,o,none⟩ tup.length cp (by rw [bO]);refine⟨b,o,bO,q,?_⟩;exact kq.cell hs ⟨fun e=>(by subst e;rw [d.o.tagS] at ht;cases ht),fun e=>(by subst e;rw [d.o.tagM] at ht;cases ht)⟩⟩
  have a9:=qmu (ae.keep (Keep.drew (fun _=>True) Wq) trivial trivial (fun _ _=>wH)) m _ tup cn (by simp;omega) cX.o (by have:=d.o.xfew;omega) (fun a' n' c' h=>by
   have ht:=aq.o a' n' c' h;refine⟨fun e=>?_,fun e=>?_,fun e=>?_⟩
   ·rw [e,d.o.tagT]at ht;cases ht
   ·rw [e,d.o.tagN]at ht;cases ht
   ·rw [d.o.tagx _ e]at ht;cases ht)
  have b0:=And.intro y3 y1;clear y3 y1 cn;refine qb5 ?_ b0 a9 t pq kq ae X aD al z cr b2 ca ct bQ bM;clear b0 a9 t pq kq ae X aD al z cr b2 ca ct bQ bM;intro aw bk aT cB bv aI aa ad ak y bN bJ cb b3 cq bS;refine hd1 ?_ co;clear co;intro cj;refine qae ?_;refine xe.2 ?_;refine qa5 rfl (fun W=>W.cell? ⟨S,3,none⟩=some (qi T)/\W.cell? ⟨N,1,none⟩=some (.slice a tup.length cp)) [] ?_;refine qy [0,1,2,3,4,5,6] ?_
  iterate 7
   refine tkN (v:=?_) rfl aw.o ?_ ?_;rotate_left
   ·rintro Wq ⟨x0,x1⟩;go_simp
    try with_reducible rfl
   try simp only [qz]
  refine qm ?_;refine ho 7 rfl fun K am=>?_;go_wp2_with fail;refine bk.o.mono ?_;rintro e W5 ⟨vo,bi,rfl,a6,aA,k5,a3,aX⟩;have cu:W5.cell? ⟨S,3,none⟩=some (qi T)/\W5.cell? ⟨N,1,none⟩=some (.slice a tup.length cp):=⟨k5.cell aw.o.1 ⟨cb.o,b3.o,cq.o⟩,k5.cell aw.o.2 ⟨bN.o,bJ.o,bS.o⟩⟩
  replace k5:Keep (fun b=>b≠T/\b≠MX/\vx.ownBlock≠some b) Wq W5:=kDr.trans k5
  have aB: ∀b,bi.ownBlock=some b->vx.ownBlock=some b∨Wq.heap.size<=b:=fun b q=>(a3 b q).imp id (fun h=>by simpa using h);have z5:=k5.size;have a4: ∀b,vo.ownBlock=some b->Wq.heap.size<=b:=fun b q=>by have:=(zE aA b q).1;simpa using this
  clear a3;refine hd7 ?_ cu a6 aA k5 aB aX a4;clear cu a6 aA k5 aB aX a4;intro a8 bf ax ci aO c8 bn;go_wp2_with fail;refine am.o _ _ (fun _=>a8.o) ?_;refine qy [8,9,10,11,12] ?_
  iterate 5
   refine tkN (v:=?_) rfl a8.o ?_ ?_;rotate_left
   ·rintro Wq ⟨x0,x1⟩;go_simp
    try with_reducible rfl
   try simp only [qz]
  refine qm ?_;refine qbh wD (qo ?_);clear am;have bl:=qkx (ts:=tup) (l:=qv c pr tup.length) (xs:=xs) (fun u s hu hs=>d.o.texts _ s (qco.1 hu).1 hs);have aR: ∀b U,g.tag b=some (S,U)->(∀V,U≠.rel R V)->ah b=none:=fun b U q hU=>by
   cases e:ah b with
   |none=>rfl
   |some U'=>
    exfalso;rcases y.o b U' e with ⟨U2,h1⟩ |h1
    ·have:=qah.1 h1;rw [q] at this;cases this;exact hU U2 rfl
    ·have:=ao.o.lt b _ q;omega
  have cc:qcl ah W5 R tup.length ((qv c pr tup.length).map (qx (tup.foldl qr xs))) cL P0 K0 cC:=by
   rw [bl];refine ad.o.keep ci.o (fun b U q _=>⟨fun e=>?_,fun e=>?_,fun e=>?_⟩)
   ·subst e;rw [aR b _ d.o.tagT (fun V h=>by cases h)] at q;cases q
   ·subst e;rw [aR b _ d.o.tagN (fun V h=>by cases h)] at q;cases q
   ·rw [aR b _ (d.o.tagx b e) (fun V h=>by cases h)]at q;cases q
  have aP:=ax.o;rw [←qdu (tup.foldl qr xs) tup]at aP;have aj:=qq4 cc (by rw [zL];have:=qj2 c pr tup.length;omega) W5.heap.size vo (qx (tup.foldl qr xs) tup) (qen aP (by rw [qdu];omega)) (zG _) (qom (fun s hs=>qdn.2 (.inr hs)) (by have:=(qe2 tup xs).2;have:=d.o.xfew;omega)) (fun a' n' c' h=>by
   cases e:ah a'.block with
   |none=>rfl
   |some U=>
    exfalso;have h1:=ad.o.lt a'.block U e;have h2:=bn.o a'.block (by
     rcases aP.2 with ⟨e1,_⟩ |⟨g',cap,cur,e1,_⟩
     ·rw [e1]at h;cases h
     ·rw [e1]at h;injection h with h1 _ _
      injection h1 with h1
      rw [e1,←h1];simp [Value.ownBlock])
    omega)
  have aC:=qrz (c:=c) (pr:=pr) (tup:=tup) (xs:=tup.foldl qr xs) (fun u s hu hs=>qdn.2 (.inl (d.o.texts _ s (qco.1 hu).1 hs))) (fun s hs=>qdn.2 (.inr hs));rw [aC.1,aC.2]at aj;obtain⟨i6,bL⟩: ∃i,(qhy tup.length ((qv c pr tup.length).map (qx (tup.foldl qr xs))) (qx (tup.foldl qr xs) tup)).1=i:=⟨_,rfl⟩;rw [bL]at aj;clear bL;obtain⟨av,cv,rfl⟩:=qj ax.o;clear aP cc aR aC;refine hd2 ?_ aj bl;clear aj bl;intro bh dO;gi_wp2;refine⟨wH,rfl,(zU.2 bh.o).mono ?_⟩;rintro e W6 ⟨rfl,k6,rt,d4,bG,a7,ay⟩;obtain⟨r,aE,ag⟩:=qyt (n0:=n0) ao.o hS d.o pr tup cR cS cd.o bv.o cj.o aa.o ad.o ak.o y.o ci.o bf.o aO.o k6 bG a7 ay;have u5:=qb r 5 _ rfl;have dg:=qg r 5;have aN:=qb r 0 _ rfl;have bd:=qg r 0;have d9:=qe r;have b7:=qag 5 (.int .i64 ((c.length:Int)+1)) r;have aM:=qb b7 0 _ rfl;have bc:=qg b7 0;simp only [zD]at u5 aN aM;have bK:(c.length:Int)+1<=67108864:=wC
  clear k6 bG a7 ay r b7;by_cases hf:(⟨pr,tup⟩:qk)∈c
  ·have Y:=aE hf;have hA:qed okF c ⟨pr,tup⟩=c:=zF (fun h=>h.2 hf);have hd:decide (okF ⟨pr,tup⟩=true/\(⟨pr,tup⟩:qk)∉c)=false:=zM (fun h=>h.2 hf);have hd2:decide ((⟨pr,tup⟩:qk)∉c)=false:=zM (fun h=>h hf);rw [hd2];have hd3:decide ((⟨pr,tup⟩:qk)∈c)=true:=zS hf;clear hf aE ag hd2 aM bc bK u5 dg zq z5 b6;refine hd6 ?_ Y hA hd hd3 aN bd;clear Y hA hd hd3 aN bd;intro ai bb de az ck cs;gi_wp2;exact qez ck.o cs.o (qb9 (xc rfl _ _ _) ⟨by rw [az.o];rfl,{g with st:=g.with S c,tag:=qb7 g.tag S R rt bi},ai.o,by rw [bb.o],rfl⟩)
  ·have Y:=ag hf;have hA:qed okF c ⟨pr,tup⟩=c++ [⟨pr,tup⟩]:=zI ⟨aH.o,hf⟩;have hd:decide (okF ⟨pr,tup⟩=true/\(⟨pr,tup⟩:qk)∉c)=true:=zS ⟨aH.o,hf⟩;have hd2:decide ((⟨pr,tup⟩:qk)∉c)=true:=zS hf;rw [hd2];have hd3:decide ((⟨pr,tup⟩:qk)∈c)=false:=zM hf;clear hf aE ag hd2 zq z5 b6 aN bd;clear bK;refine hd6 ?_ Y hA hd hd3 aM bc;clear Y hA hd hd3 aM bc;intro ai bb de az b5 bH;gi_wp2;exact qez b5.o bH.o (qb9 (xc rfl _ _ _) ⟨by rw [az.o];rfl,{g with st:=g.with S (c++ [⟨pr,tup⟩]),tag:=qb7 g.tag S R rt bi},ai.o,by rw [bb.o],rfl⟩)
end Go.Proofs
namespace Go.Proofs
open Go.RowKit Go.Ink R4
attribute [local go_sem] Oper.semAt_some
structure SlotD where
 place:Int
 text:ByteArray
def SlotD.val (s:SlotD):Value:=.agg #[.int .i64 s.place,.string s.text]
def SlotE (w:World)(b o:Nat)(s:SlotD):Prop:=w.cell? ⟨b,o,none⟩=some (.int .i64 s.place)/\w.cell? ⟨b,o+1,none⟩=some (.string s.text)
abbrev q76 (n:Nat)(w:World)(v:Value)(ss:List SlotD):Prop:=SliceIn n w 2 SlotE v ss
theorem SlotE.keep {n:Nat}{w w':World}{b o:Nat}{s:SlotD}(h:SlotE w b o s)(c:b<n)(hK:Keep (fun k=>k<n) w w'):SlotE w' b o s:=⟨hK.cell h.1 c,hK.cell h.2 c⟩
def qer (vals:List ByteArray)(s:SlotD):ByteArray:=if s.place<0 then s.text else vals.getD s.place.toNat ⟨#[]⟩
structure ValsAt (w:World)(Bv V:Nat)(vals:List ByteArray):Prop where
 box:w.heap[Bv]?=some (.cells #[.slice (some ⟨V,0,none⟩) vals.length vals.length] 46 (0,0))
 row:w.heap[V]?=some (.cells (vals.map Value.string).toArray 9 (0,0))
theorem ValsAt.keep {w w':World}{Bv V:Nat}{vals:List ByteArray}{C:Nat->Prop}(h:ValsAt w Bv V vals)(hK:Keep C w w')(b:C Bv)(c:C V):ValsAt w' Bv V vals:=⟨hK.heap h.box b,hK.heap h.row c⟩
theorem ValsAt.cell {w:World}{Bv V:Nat}{vals:List ByteArray}(h:ValsAt w Bv V vals){p:Nat}{s:ByteArray}(b:vals[p]?=some s):w.cell? ⟨V,p,none⟩=some (.string s):=by
 have:=qb h.row p (.string s) (by simp [zP,b])
 simpa using this
theorem qtl (n:Nat)(h:n<=1073741824)(u:World):(Instr.makeSlice 46 (.int .i64 0) (.int .i64 (n:Int))).run prog u=
  .ok (.slice (some ⟨u.heap.size,0,none⟩) 0 n) (u.alloc (.cells (Array.replicate n (Value.string ⟨#[]⟩)) 9)):=by
 obtain⟨e,hi,c,d,b⟩:=info_parts qwe;have h:=run_make (P:=prog) u 46 9 e (.string ⟨#[]⟩) Tryz.underlying46 hi c .i64 .i64 (0:Int) (n:Int) wC wC (by rw [b];omega) wC
 simpa [d,Value.cells,qtb]using h
theorem qrh {w:World}{Bv V:Nat}{vals:List ByteArray}(h:ValsAt w Bv V vals)(hl:vals.length<=1073741824)(s:SlotD)(hs:s.place<vals.length):
  Calls prog 86 #[s.val,qi Bv] w fun e w'=>e=.returned (.string (qer vals s))/\wG w w':=by
 obtain⟨p,t⟩:=s;simp only at hs;unfold SlotD.val qer;simp only;obtain⟨N,l⟩:=ex (w.heap.size);obtain⟨W0,b⟩:=ex (w.alloc (.cells #[.int .i64 p,.string t] 93));have q:wG w W0:=by rw [←b];exact kAl
 have m:W0.heap[N]?=some (.cells #[.int .i64 p,.string t] 93 (0,0)):=by rw [←b,←l];exact qh _ _
 have y:=qb m 0 _ rfl;have v:=qb m 1 _ rfl;have u:=qe m;simp only [zD]at y v;by_cases x:p<0
 ·rw [zI x];refine hd4 ?_ h q b l;clear h q b l;intro U d c g
  go_enter Tryz.func86,Tryz.ntmps86
  go_wp2_with fail;rw [c.o,g.o];go_wp2_with fail;go_ret;exact⟨rfl,d.o⟩
 ·rw [zF x];obtain⟨k,rfl⟩: ∃k:Nat,p=(k:Int):=⟨p.toNat,wC⟩;obtain⟨s,r⟩: ∃s,vals[k]?=some s:=⟨_,zB wC⟩;have z:vals.getD ((k:Int)).toNat ⟨#[]⟩=s:=by rw [zJ];simp [r]
  rw [z];have X:=qb h.box 0 _ rfl;have d1:=h.cell r;have R:=qe h.box;have aa:=qe h.row;have Y:(0:Int)<=k:=wC
  simp only [zD]at X;clear z r m y v u;refine hd4 ?_ h q b l;clear h q b l;intro U d c g
  go_enter Tryz.func86,Tryz.ntmps86
  go_wp2_with fail;go_ret;exact⟨rfl,kAl⟩
theorem qo8 {w:World}{Bt Bv V:Nat}{vals:List ByteArray}(ht:w.heap[Bt]?=some (.cells #[.func (.func 86) #[] #[qi Bv]] 157 (0,0)))(h:ValsAt w Bv V vals)(hl:vals.length<=1073741824)(m:Nat)(v:Value)(ss:List SlotD)(am:q76 m w v ss)(hm:m<=w.heap.size)(aq: ∀s,s∈ss->s.place<vals.length):
  Calls prog 87 #[v,qi Bt] w fun e w'=> ∃vo,e=.returned vo/\w'.ownsRow w.heap.size 9 1 vo ss.length ((ss.map (qer vals)).map .string)/\wG w w':=by
 obtain⟨a,c,rfl,aB,aV,ap⟩:=id am;obtain⟨B,hB⟩:=ex (w.heap.size);obtain⟨W0,l⟩:=ex (w.alloc (.cells (Array.replicate ss.length (Value.string ⟨#[]⟩)) 9));have k0:wG w W0:=by rw [←l];exact kAl
 have z0:W0.heap.size=w.heap.size+1:=by rw [←l];simp
 have q0:W0.ownsRow w.heap.size 9 1 (.slice (some ⟨w.heap.size,0,none⟩) 0 ss.length) 0 []:=by
  rw [←l];exact xg w _ ss.length (zG _) (by simp only [maxLen];omega) wE
 have aI:=fun u=>qtl ss.length aB u;rw [hB]at q0 z0;clear am;refine hd8 ?_ ap k0 q0 l hB h ht aq;clear ap k0 q0 l hB h ht aq;intro ae az aD U d Xh y ak
 go_enter Tryz.func87,Tryz.ntmps87
 go_wp2_with fail;rw [U.o,d.o];clear aI
 go_loopw [4,12] (fun x6 i' wr=> ∃k:Nat,k<=ss.length/\i'=.int .i64 (k:Int)/\wr.ownsRow B 9 1 x6 k (((ss.take k).map (qer vals)).map .string)/\Keep (fun b=>b<B) w wr) (fun _ i _=>ss.length-(intOf i).toNat)
 case atStart=>exact⟨0,wC,rfl,aD.o,az.o.mt⟩
 case round=>
  obtain⟨k,hk,rfl,ho,hK⟩:=hrel;have aZ:=hK.size;by_cases ab:k<ss.length
  ·have aM:(k:Int)<ss.length:=by omega
   have aT:(0:Int)<=k:=wC
   obtain⟨s,hs⟩: ∃s,ss[k]?=some s:=⟨_,zB ab⟩;obtain⟨b,o,rfl,a7,z⟩:=ae.o k s hs;have a4:wr.cell? ⟨b,o+k*2,none⟩=some (.int .i64 s.place):=hK.cell z.1 (by have:=d.o;simp only;omega);have bb:wr.cell? ⟨b,o+k*2+1,none⟩=some (.string s.text):=hK.cell z.2 (by have:=d.o;simp only;omega);have aW:b<wr.heap.size:=by have:=d.o;omega
   have a2:=qe y.o;have ah:((ss.take (k+1)).map (qer vals)).map Value.string=((ss.take k).map (qer vals)).map Value.string++ [.string (qer vals s)]:=by rw [zh,hs];simp
   obtain⟨W1,p⟩:=ex (wr.alloc (.cells #[.int .i64 s.place,.string s.text] 93));obtain⟨N,hN⟩:=ex (wr.heap.size);have k1:wG wr W1:=by rw [←p];exact kAl
   have q1:W1.heap[N]?=some (.cells #[.int .i64 s.place,.string s.text] 93 (0,0)):=by rw [←p,←hN];exact qh _ _
   have e0:=qb q1 0 _ rfl;have e1:=qb q1 1 _ rfl;have x:Keep (fun b=>b<B) w W1:=hK.trans k1.mt;have aA:=qb (hK.heap y.o (by have:=d.o;omega)) 0 _ rfl;have aQ:=qe (hK.heap y.o (by have:=d.o;omega));simp only [zD]at aA;clear e0 e1;have ag:ValsAt W1 Bv V vals:=Xh.o.keep x (by have:=qe Xh.o.box;have:=d.o;omega) (by have:=qe Xh.o.row;have:=d.o;omega);have t:=qrh ag hl s (ak.o s (zH hs));have al:=qf ho k1 (fun _ _=>wH);obtain⟨a6,c6,rfl⟩:=qj ho;unfold SlotD.val at t;clear z hs ag k1 q1 ho;refine hd7 ?_ t hK x al ah p hN;clear t hK x al ah p hN;intro ad ai q aa X aj ba;go_wp2_with fail;rw [aj.o];refine ad.o.mono ?_;rintro e W2 ⟨rfl,k2⟩;have r:=qf aa.o k2 (fun _ _=>wH);obtain⟨v',W6,hr,ao,k6,g,cap,hv,aF,Y⟩:=qc8 (P:=prog) qel 46 r [.string (qer vals s)] rfl (by simp [Value.oneCell']) wC (by have:=k2.size;have:=q.o.size;have:=d.o;omega);subst hv;have R:Keep (fun b=>b<B) w W6:=(q.o.trans k2.mt).trans (k6.mono fun b _ (hb:b<B) e=>by have:=(zE r b e.symm).1;omega);clear k2 k6 r aF;refine hd4 ?_ hr ao R Y;clear hr ao R Y;intro av af an aS;go_wp2_with (at_builtin;refine qbu (v:=.slice a6 k c6) (u:=.slice (some ⟨W2.heap.size,0,none⟩) 1 1) (v':=.slice (some ⟨g,0,none⟩) (k+1) cap) (w':=W6) rfl (.tmp 16) (.tmp 20) 46 rfl rfl rfl av.o ?_);go_roundw
   case rel=>
    refine⟨k+1,wC,by go_num,?_,an.o⟩;rw [X.o];exact af.o
   case measure=>simp [intOf];omega
  ·obtain rfl:k=ss.length:=by omega
   rw [zi]at ho;obtain⟨a6,c6,rfl⟩:=qj ho;clear ab;refine hd2 ?_ ho hK;clear ho hK;intro aH ai;go_wp2_with fail;go_ret;exact⟨_,rfl,aH.o.mono (by have:=d.o;omega),ai.o.mono fun b hb _=>by have:=d.o;omega⟩
end Go.Proofs
