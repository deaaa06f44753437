/- Parts of the proof. -/
import Derived.Test.YtnponcjnahicnaaGreatDlNToDlP
import Derived.Sort.CutIn
set_option linter.unusedSimpArgs false
set_option linter.unusedVariables false
set_option maxRecDepth 100000
set_option maxHeartbeats 4000000
open Go.Proofs.Tryz(prog)
open List(length_range nodup_nil)
namespace Go.Proofs
open Go.RowKit Go.Ink Go.Flt R4 P16
attribute [local go_sem] Oper.semAt_some
structure q6j (r:RuleD)(fs:List qk):Prop where
 stands:r.stands.length<=1073741824
 terms:(qb4 r).length<=1073741824
 rule:qu2 r
 tup: ∀f,f∈fs->f.tuple.length<=1073741424
 pred: ∀f,f∈fs->f.pred.size<=1073741824
 tot:fs.length<=1073741824
theorem qjz {r:RuleD}(c:qce r){k:Int}{O F A B:List qk}: ∀m,m∈qf0 r k O F A B->m.head.length<=1073741824/\m.vals.length<=1073741824:=fun m b=>by
 unfold qf0 at b;split at b
 ·exact q15 c m b
 ·cases b
theorem qlt {r:RuleD}{k:Int}{O F A B:List qk}(h: ∀m,(qeo (qie r.body O F A B (qcb r.body) m) r).length<=20000):(qf0 r k O F A B).length<=20000:=by
 unfold qf0;split
 ·exact h _
 ·simp
theorem qpb {n:Nat}{r:RuleD}{sh sb vo vd va vn vc:Value}{k:Int}{fo fd fa fn:List qk}{w:World}(hr:RuleIn n w sh sb r)(cS:FactsIn n w vo fo)(cQ:FactsIn n w vd fd)(cP:FactsIn n w va fa)(cR:FactsIn n w vn fn)(hn:n<=w.heap.size)(cU:q6j r (fo++fd++fa++fn)):
  Calls prog 5 #[.agg #[.string r.head.pred,sh,sb,.int .i64 k,vo,vd,va,vn,vc]] w fun e w'=>e=.returned (.bool true)/\Keep (fun b=>b<w.heap.size) w w':=by
 obtain⟨N,hN⟩:=ex (w.heap.size);obtain⟨F,ci⟩:=ex (fo++fd++fa++fn);rw [ci]at cU;obtain⟨av,ax,rfl,-,-,-⟩:=id hr.1;obtain⟨au,aw,rfl,-,-,-⟩:=id hr.2;obtain⟨ao,co,rfl,-,-,-⟩:=id cS;obtain⟨ad,cd,rfl,-,-,-⟩:=id cQ;obtain⟨af,cf,rfl,-,-,-⟩:=id cP;obtain⟨an,cn,rfl,-,-,-⟩:=id cR;obtain⟨W0,cj⟩:=ex (w.alloc (.cells #[.string r.head.pred,.slice av r.head.args.length ax,.slice au r.body.length aw,.int .i64 k,.slice ao fo.length co,.slice ad fd.length cd,.slice af fa.length cf,.slice an fn.length cn,vc] 70));have k0:wG w W0:=by rw [←cj];exact kAl
 have p0:W0.heap[N]?=some (.cells #[.string r.head.pred,.slice av r.head.args.length ax,.slice au r.body.length aw,.int .i64 k,.slice ao fo.length co,.slice ad fd.length cd,.slice af fa.length cf,.slice an fn.length cn,vc] 70 (0,0)):=by rw [←cj,←hN];exact qh _ _
 have z0:W0.heap.size=N+1:=by rw [←cj,←hN];simp
 have c0:=qb p0 0 _ rfl;have c1:=qb p0 1 _ rfl;have c2:=qb p0 2 _ rfl;have c3:=qb p0 3 _ rfl;simp only [zD]at c0 c1 c2 c3;have kK:N<W0.heap.size:=wC
 obtain⟨W1,ck⟩:=ex ((W0.alloc (.cells #[.string r.head.pred,.slice av r.head.args.length ax,.slice au r.body.length aw] 27)).drew);have k1:wG W0 W1:=by rw [←ck];exact kAl.trans kDr
 have p1:W1.heap[N+1]?=some (.cells #[.string r.head.pred,.slice av r.head.args.length ax,.slice au r.body.length aw] 27 (0,0)):=by rw [←ck,←z0];exact(Keep.drew (fun _=>True) _).heap (qh W0 _) trivial
 have z1:W1.heap.size=N+2:=by rw [←ck];simp [z0]
 have pN:=k1.heap p0 trivial;obtain⟨We,cO⟩:=ex (W1.drew);have ke:wG W1 We:=by rw [←cO];exact kDr
 have ze:We.heap.size=N+2:=by rw [←cO,←z1];rfl
 obtain⟨Wb,cl⟩:=ex (We.alloc (.cells #[.slice ao fo.length co,.slice ad fd.length cd,.slice af fa.length cf,.slice an fn.length cn] 28));have kb:wG We Wb:=by rw [←cl];exact kAl
 have zb:Wb.heap.size=N+3:=by rw [←cl];simp [ze]
 have pb:Wb.heap[N+2]?=some (.cells #[.slice ao fo.length co,.slice ad fd.length cd,.slice af fa.length cf,.slice an fn.length cn] 28 (0,0)):=by rw [←cl,←ze];exact qh _ _
 have hS: ∀X,Keep (fun b=>b<N+2) W1 X->X.cell? ⟨N+1,0,none⟩=some (.string r.head.pred)/\X.cell? ⟨N+1,1,none⟩=some (.slice av r.head.args.length ax)/\X.cell? ⟨N+1,2,none⟩=some (.slice au r.body.length aw)/\X.cell? ⟨N,4,none⟩=some (.slice ao fo.length co)/\X.cell? ⟨N,5,none⟩=some (.slice ad fd.length cd)/\X.cell? ⟨N,6,none⟩=some (.slice af fa.length cf)/\X.cell? ⟨N,7,none⟩=some (.slice an fn.length cn):=fun X hX=>by
  have q:=hX.heap p1 wC;have q0:=qb q 0 _ rfl;have q1:=qb q 1 _ rfl;have q2:=qb q 2 _ rfl;have q':=hX.heap pN wC;have q4:=qb q' 4 _ rfl;have q5:=qb q' 5 _ rfl;have q6:=qb q' 6 _ rfl;have q7:=qb q' 7 _ rfl;simp only [zD]at q0 q1 q2 q4 q5 q6 q7;exact⟨q0,q1,q2,q4,q5,q6,q7⟩
 have e7:wG w W1:=k0.trans k1;have fb:wG w Wb:=(e7.trans ke).trans kb;have eV:SliceIn (N+3) Wb 1 (qzn n) (.slice (some ⟨N+2,0,none⟩) 4 4) [fo,fd,fa,fn]:=by
  refine⟨_,4,rfl,wE,⟨wE,wF⟩,fun j l hj=>⟨N+2,0,rfl,wC,?_⟩⟩;have cT:Keep (fun b=>b<n) w Wb:=fb.mt
  match j,hj with
  |0,hj=>cases hj;exact⟨_,by have:=qb pb 0 _ rfl;simpa using this,cS.keep cT⟩
  |1,hj=>cases hj;exact⟨_,by have:=qb pb 1 _ rfl;simpa using this,cQ.keep cT⟩
  |2,hj=>cases hj;exact⟨_,by have:=qb pb 2 _ rfl;simpa using this,cP.keep cT⟩
  |3,hj=>cases hj;exact⟨_,by have:=qb pb 3 _ rfl;simpa using this,cR.keep cT⟩
 have eT:=q3n eV wC wC (by have:=cU.tot;rw [←ci] at this;simpa using this);rw [show([fo,fd,fa,fn].flatten:List qk)=F by rw [←ci];simp]at eT;have gP:=hS We ke.mt;have eL:=hS Wb ((ke.trans kb).mt);have kL:N+1<We.heap.size:=wC
 have ju:N<We.heap.size:=wC
 refine qb5 ?_ ci hr cS cQ cP cR cU hN cj k0 p0 z0 ck k1 p1 z1;clear ci hr cS cQ cP cR cU hN cj k0 p0 z0 ck k1 p1 z1;intro dd cJ dj dh dg di p g fY j3 kg iq fZ j4 kh ks;refine qro ?_ pN cO ke ze cl kb zb pb hS e7 fb eV eT gP eL;clear pN cO ke ze cl kb zb pb hS e7 fb eV eT gP eL;intro ki f2 io ir f0 im cK kj ap bs jg i2 f5 fV fW
 go_enter Tryz.func5,Tryz.ntmps5
 go_wp2_with fail;rw [fY.o,g.o]
 go_region
 rw [fZ.o,iq.o];go_wp2_with fail;refine qa5 rfl (fun X=>X.cell? ⟨N+1,0,none⟩=some (.string r.head.pred)/\X.cell? ⟨N+1,1,none⟩=some (.slice av r.head.args.length ax)/\X.cell? ⟨N+1,2,none⟩=some (.slice au r.body.length aw)/\X.cell? ⟨N,4,none⟩=some (.slice ao fo.length co)/\X.cell? ⟨N,5,none⟩=some (.slice ad fd.length cd)/\X.cell? ⟨N,6,none⟩=some (.slice af fa.length cf)/\X.cell? ⟨N,7,none⟩=some (.slice an fn.length cn)) [] ?_;rw [f2.o];refine qy [0,1,2,3,4,5,6,7,8] ?_
 iterate 9
  refine tkN (v:=?_) rfl fV.o ?_ ?_;rotate_left
  ·rintro Wq ⟨x1,x2,x3,x4,x5,x6,x7⟩;go_simp
   try with_reducible rfl
  try simp only [qz]
 refine qm ?_;refine ho 9 rfl fun K aF=>?_;go_wp2_with fail;rw [f0.o,ir.o];refine aF.o _ _ (fun _=>fW.o) ?_;refine ho 10 rfl fun K aG=>?_;go_wp2_with fail;refine f5.o.mono ?_;rintro e W2 ⟨v2,rfl,k2,eH⟩;have cW:Keep (fun b=>b<N+2) W1 W2:=((io.o.trans im.o).mt).trans (k2.mono fun b _ h=>by have:=cK.o;omega);have z2:=k2.size;have e8:Keep (fun b=>b<N) w W2:=bs.o.mt.trans (cW.mono fun b _ h=>wC);have eM:=ap.o W2 cW;have iw:n<=W2.heap.size:=by have:=cK.o;have:=g.o;omega
 have cV:=q53 (n:=W2.heap.size) ((cJ.o.keep (e8.mono fun b _ h=>by have:=g.o;omega)).wider iw) eH (zG _) p.o.stands p.o.tup;obtain⟨a2,kA,rfl,-,-,-⟩:=id eH;unfold qam at cV;obtain⟨bv,eP⟩:=ex (qgw r F);rw [eP]at cV;clear eH;refine hd6 ?_ k2 cW e8 eM cV eP;clear k2 cW e8 eM cV eP;intro j5 f9 i9 fX f7 aP;go_wp2_with fail;refine aG.o _ _ (fun _=>fX.o) ?_;refine ho 11 rfl fun K aH=>?_;go_wp2_with fail;refine f7.o.mono ?_;rintro e W3 ⟨rfl,k3⟩;have cX:Keep (fun b=>b<N+2) W1 W3:=f9.o.trans (k3.mono fun b _ h=>by have:=cK.o;omega);have eN:=ap.o W3 cX;have g9:Keep (fun b=>b<N) w W3:=bs.o.mt.trans (cX.mono fun b _ h=>wC);have kH:N+1<W3.heap.size:=by have:=k3.size;have:=cK.o;omega
 refine hd4 ?_ k3 cX eN g9;clear k3 cX eN g9;intro j6 ga de dp;go_wp2_with fail;refine aH.o _ _ (fun _=>de.o) ?_;refine qbh wD ?_;clear aF aG aH;cases bv with
 |true=>
  go_wp2_with fail;refine(qnd W3).mono ?_;rintro e W9 ⟨rfl,k9⟩;refine hd1 ?_ k9;clear k9;intro eh;go_wp2_with fail;go_ret;rw [g.o];exact⟨rfl,dp.o.trans (eh.o.mono fun b _ h=>wC)⟩
 |false=>
  obtain⟨iN,iP,iQ,-⟩:=de.o;have eX:=cJ.o.keep (dp.o.mono fun b _ h=>by have:=g.o;omega);have eS:=qw2 eX (by have:=g.o;omega);unfold qam at eS;refine hd2 ?_ eX eS;clear eX eS;intro f6 f4;go_wp2_with fail;refine f4.o.mono ?_;rintro e W4 ⟨lh,lg,rfl,cN,k4⟩;have cp:=cN.rule (qps f6.o);obtain⟨kv,kD,rfl⟩:=qj cN.1;obtain⟨iL,gY,gX,-⟩:=id cN.2;obtain⟨ku,kC,rfl⟩:=qj gX;have eR:=qkw cp (zG _);unfold qam at eR;clear cN gX gY;refine hd3 ?_ cp k4 eR;clear cp k4 eR;intro ia gb f3;go_wp2_with fail;refine f3.o.mono ?_;rintro e W5 ⟨k5,eQ⟩;have z4:=gb.o.size;have z5:=k5.size;have bJ:Keep (fun b=>b<N+2) W1 W5:=ga.o.trans ((gb.o.mono fun b _ h=>wC).trans (k5.mono fun b _ h=>wC));have cx:Keep (fun b=>b<N) w W5:=bs.o.mt.trans (bJ.mono fun b _ h=>wC);have kI:N+1<W5.heap.size:=wC
  have bI:=qwq (w:=W5) (cJ.o.keep (cx.mono fun b _ h=>by have:=g.o;omega)) (by have:=g.o;omega) p.o.rule p.o.terms;obtain⟨iR,iS,iT,-⟩:=ap.o W5 bJ;unfold qam at bI;clear iN iP iQ;rcases eQ with ⟨h0,rfl⟩ |⟨hro,J,vha,vbb,vv,va',vt,vhh,rfl,hj⟩
  ·have kF:((qea r:Int) !=0)=true:=by simp [h0]
   clear h0;refine hd4 ?_ k5 bJ cx bI;clear k5 bJ cx bI;intro il dn dq cb;go_wp2_with fail;refine cb.o.mono ?_;rintro e W6 ⟨rfl,k6⟩;refine hd1 ?_ k6;clear k6;intro eg;go_wp2_with fail;refine(qnd W6).mono ?_;rintro e W9 ⟨rfl,k9⟩;have z6:=eg.o.size;refine hd1 ?_ k9;clear k9;intro eh;go_wp2_with fail;go_ret;rw [g.o];exact⟨rfl,dq.o.trans ((eg.o.mono fun b _ h=>wC).trans (eh.o.mono fun b _ h=>wC))⟩
  ·have gK:=qqk (qod W4) hj;rw [q7d hro]at bI;clear hj;refine hd6 ?_ k5 bJ cx bI hro gK;clear k5 bJ cx bI hro gK;intro il dn dq cb ag fS;go_wp2_with fail;refine cb.o.mono ?_;rintro e W6 ⟨rfl,k6⟩;have z6:=k6.size;have eI:=fS.o.step (GStep.below (n0:=0) (qod W5) k6);have cY:Keep (fun b=>b<N+2) W1 W6:=dn.o.trans (k6.mono fun b _ h=>wC);have e9:Keep (fun b=>b<N) w W6:=bs.o.mt.trans (cY.mono fun b _ h=>wC);have kJ:N+1<W6.heap.size:=by omega
   have eW:(qd2 r.body r.body.length).length=(qaf r.body).length:=by rw [qn4,zL]
   obtain⟨np,hnp⟩:=ex ((qaf r.body).length);obtain⟨ja,jb,jc,jd,je,jf,gR⟩:=id eI;have cm:=qoq gR;rw [eW,hnp]at cm;have jL:np<=256:=by
    have h1:=qe0 ag.o.formed;have h2:(qaf r.body).length<=r.body.length:=by
     unfold qaf;exact zW (yf _ _) (by rw [length_range];exact zG _)
    omega
   have gJ:F.length<=400:=(ql0 aP.o).1;have kG:fo.length+fd.length+fa.length+fn.length<=400:=by rw [←dd.o] at gJ;simpa only [zR] using gJ
   have eU: ∀f,(f∈fo∨f∈fd∨f∈fa∨f∈fn)->f∈F:=fun f h=>by
    rw [←dd.o];simp only [zr];rcases h with h |h |h |h
    ·exact .inl (.inl (.inl h))
    ·exact .inl (.inl (.inr h))
    ·exact .inl (.inr h)
    ·exact .inr h
   obtain⟨t0,t1,t2,t4,t5,t6,t7⟩:=ap.o W6 cY;have kM:N<W6.heap.size:=wC
   clear gR iR iS iT t0 t1 t2 t5 t6 t7;have ay:=qg4 (n0:=0) (qod W6) (dj.o.keep (e9.mono fun b _ h=>by have:=g.o;omega)) (by have:=g.o;omega) (fun b _=>qg3 b) (fun f Y=>p.o.pred f (eU f (.inl Y))) wC;refine hd9 ?_ k6 eI cY e9 eW hnp cm eU ay;clear k6 eI cY e9 eW hnp cm eU ay;intro eg fT br bt i4 i3 ea ae z;go_wp2_with fail;refine ea.o.mono ?_;rintro e w9 ⟨rfl,eY⟩;have eY:=eY.symm;subst eY;go_wp2_with fail;refine z.o.mono ?_;rintro e Z1 ⟨S1,g1,rfl,s1,fr,-,eL⟩;have c8:=s1;have q1:=qld c8;have eC:g1.st S1=some (qbw okF fo):=by rw [fr];unfold Gh.with;simp
   have kV:S1<Z1.heap.size:=by
    obtain⟨T,M,MX,vx,xs,rl,hP⟩:=s1.inv.store S1 _ eC;exact qe hP.box
   have kR:=s1.keep.size;have cq:Keep (fun b=>b<N+2) W1 Z1:=br.o.trans q1.mt;have fc:Keep (fun b=>b<N) w Z1:=bt.o.trans q1.mt;obtain⟨t0,t1,t2,bo,bg,bh,bi⟩:=ap.o Z1 cq;have ay:=qg4 (n0:=0) s1.inv (dh.o.keep (fc.mono fun b _ h=>by have:=g.o;omega)) (by have:=g.o;omega) (fun b hb=>c8.new b (by have:=g.o;omega) (qg3 b)) (fun f Y=>p.o.pred f (ae.o f (.inr (.inl Y)))) wC;clear t0 t1 t2 bo bh bi z;clear t4;have tt:=bg;clear bg;have jv:N<Z1.heap.size:=wC
   refine hd8 ?_ s1 c8 q1 fr fc cq eC ay;clear s1 c8 q1 fr fc cq eC ay;intro ko gp kk jo jh ii fI z;go_wp2_with fail;refine z.o.mono ?_;rintro e Z2 ⟨S2,g2,rfl,s2,dc,-,eM⟩;have c9:=gp.o.trans s2;have q2:=qld c9;have eD:g2.st S2=some (qbw okF fd):=by rw [dc];unfold Gh.with;simp
   have gC:g2.st S1=some (qbw okF fo):=by rw [dc];unfold Gh.with;rw [zF wC];exact fI.o
   have kW:S2<Z2.heap.size:=by
    obtain⟨T,M,MX,vx,xs,rl,hP⟩:=s2.inv.store S2 _ eD;exact qe hP.box
   have kS:=s2.keep.size;have cr:Keep (fun b=>b<N+2) W1 Z2:=br.o.trans q2.mt;have fe:Keep (fun b=>b<N) w Z2:=bt.o.trans q2.mt;obtain⟨t0,t1,t2,bo,bg,bh,bi⟩:=ap.o Z2 cr;have ay:=qg4 (n0:=0) s2.inv (dg.o.keep (fe.mono fun b _ h=>by have:=g.o;omega)) (by have:=g.o;omega) (fun b hb=>c9.new b (by have:=g.o;omega) (qg3 b)) (fun f Y=>p.o.pred f (ae.o f (.inr (.inr (.inl Y))))) wC;clear t0 t1 t2 bo bg bi z;clear tt;have tt:=bh;clear bh;have jw:N<Z2.heap.size:=wC
   refine hd9 ?_ s2 c9 q2 dc fe cr gC eD ay;clear s2 c9 q2 dc fe cr gC eD ay;intro kp gq kl jp ji ij fJ fK z;go_wp2_with fail;refine z.o.mono ?_;rintro e Z3 ⟨S3,g3,rfl,s3,cA,-,eN⟩;have da:=gq.o.trans s3;have q3:=qld da;have eE:g3.st S3=some (qbw okF fa):=by rw [cA];unfold Gh.with;simp
   have gD:g3.st S1=some (qbw okF fo):=by rw [cA];unfold Gh.with;rw [zF wC];exact fJ.o
   have gE:g3.st S2=some (qbw okF fd):=by rw [cA];unfold Gh.with;rw [zF wC];exact fK.o
   have kX:S3<Z3.heap.size:=by
    obtain⟨T,M,MX,vx,xs,rl,hP⟩:=s3.inv.store S3 _ eE;exact qe hP.box
   have kT:=s3.keep.size;have cs:Keep (fun b=>b<N+2) W1 Z3:=br.o.trans q3.mt;have ff:Keep (fun b=>b<N) w Z3:=bt.o.trans q3.mt;obtain⟨t0,t1,t2,bo,bg,bh,bi⟩:=ap.o Z3 cs;have ay:=qg4 (n0:=0) s3.inv (di.o.keep (ff.mono fun b _ h=>by have:=g.o;omega)) (by have:=g.o;omega) (fun b hb=>da.new b (by have:=g.o;omega) (qg3 b)) (fun f Y=>p.o.pred f (ae.o f (.inr (.inr (.inr Y))))) wC;clear t0 t1 t2 bo bg bh z;clear tt;have tt:=bi;clear bi;have jx:N<Z3.heap.size:=wC
   refine qdz ?_ s3 da q3 cA ff cs gD gE eE ay;clear s3 da q3 cA ff cs gD gE eE ay;intro kq gr km jq jj ik fL fM fN z;go_wp2_with fail;refine z.o.mono ?_;rintro e Z4 ⟨S4,g4,rfl,s4,bM,-,kN⟩;have fq:=gr.o.trans s4;have q4:=qld fq;have eF:g4.st S4=some (qbw okF fn):=by rw [bM];unfold Gh.with;simp
   have gF:g4.st S1=some (qbw okF fo):=by rw [bM];unfold Gh.with;rw [zF wC];exact fL.o
   have gG:g4.st S2=some (qbw okF fd):=by rw [bM];unfold Gh.with;rw [zF wC];exact fM.o
   have gH:g4.st S3=some (qbw okF fa):=by rw [bM];unfold Gh.with;rw [zF wC];exact fN.o
   have kZ:S4<Z4.heap.size:=by
    obtain⟨T,M,MX,vx,xs,rl,hP⟩:=s4.inv.store S4 _ eF;exact qe hP.box
   have kU:=s4.keep.size;have ct:Keep (fun b=>b<N+2) W1 Z4:=br.o.trans q4.mt;have fg:Keep (fun b=>b<N) w Z4:=bt.o.trans q4.mt;obtain⟨t0,t1,t2,bo,bg,bh,bi⟩:=ap.o Z4 ct;clear t0 t1 t2 bg bh bi tt z;have jy:N<Z4.heap.size:=wC
   have ai:=qoa (w:=Z4) (dj.o.keep (fg.mono fun b _ h=>by have:=g.o;omega)) (by have:=g.o;omega) (fun f Y=>p.o.pred f (ae.o f (.inl Y))) wC;unfold qi at ai;refine qhu ?_ s4 fq q4 bM fg ct gF gG gH eF ai;clear s4 fq q4 bM fg ct gF gG gH eF ai;intro kr ch kn jr bu aX fO fP fQ fR u;go_wp2_with fail;refine u.o.mono ?_;rintro e Z5 ⟨R1,k7,rfl,hk,he,lb,fp⟩;have cZ:=fp;have eZ:Keep (fun b=>b<N+2) W1 Z5:=aX.o.trans cZ.mt;have fh:Keep (fun b=>b<N) w Z5:=bu.o.trans cZ.mt;have lj:=fp.size;have dP:=hk;obtain⟨t0,t1,t2,t4,t5,t6,t7⟩:=ap.o Z5 eZ;clear u bo hk fp;have ai:=qoa (w:=Z5) (dh.o.keep (fh.mono fun b _ h=>by have:=g.o;omega)) (by have:=g.o;omega) (fun f Y=>p.o.pred f (ae.o f (.inr (.inl Y)))) wC;unfold qi at ai;have tt:=t5;clear t0 t1 t2 t4 t5 t6 t7;have jz:N<Z5.heap.size:=wC
   refine hd6 ?_ cZ eZ fh he dP ai;clear cZ eZ fh he dP ai;intro gg i5 jk gk en u;go_wp2_with fail;refine u.o.mono ?_;rintro e Z6 ⟨R2,k8,rfl,hm,hg,lc,c7⟩;have c4:=gg.o.trans c7;have e0:Keep (fun b=>b<N+2) W1 Z6:=aX.o.trans c4.mt;have fi:Keep (fun b=>b<N) w Z6:=bu.o.trans c4.mt;have lk:=c7.size;have dQ:=en.o.keep c7;have dR:=hm;obtain⟨t0,t1,t2,t4,t5,t6,t7⟩:=ap.o Z6 e0;clear u tt hm c7;have ai:=qoa (w:=Z6) (dg.o.keep (fi.mono fun b _ h=>by have:=g.o;omega)) (by have:=g.o;omega) (fun f Y=>p.o.pred f (ae.o f (.inr (.inr (.inl Y))))) wC;unfold qi at ai;have tt:=t6;clear t0 t1 t2 t4 t5 t6 t7;have jA:N<Z6.heap.size:=wC
   refine hd7 ?_ c4 e0 fi hg dQ dR ai;clear c4 e0 fi hg dQ dR ai;intro gh i6 jl gl eo ep u;go_wp2_with fail;refine u.o.mono ?_;rintro e Z7 ⟨R3,la,rfl,hu,hh,ld,cy⟩;have c5:=gh.o.trans cy;have e5:Keep (fun b=>b<N+2) W1 Z7:=aX.o.trans c5.mt;have fj:Keep (fun b=>b<N) w Z7:=bu.o.trans c5.mt;have ll:=cy.size;have dS:=eo.o.keep cy;have dT:=ep.o.keep cy;have dU:=hu;obtain⟨t0,t1,t2,t4,t5,t6,t7⟩:=ap.o Z7 e5;clear u tt hu cy;have ai:=qoa (w:=Z7) (di.o.keep (fj.mono fun b _ h=>by have:=g.o;omega)) (by have:=g.o;omega) (fun f Y=>p.o.pred f (ae.o f (.inr (.inr (.inr Y))))) wC;unfold qi at ai;have tt:=t7;clear t0 t1 t2 t4 t5 t6 t7;have jB:N<Z7.heap.size:=wC
   refine hd8 ?_ c5 e5 fj hh dS dT dU ai;clear c5 e5 fj hh dS dT dU ai;intro gi i7 jm gm er es et u;go_wp2_with fail;refine u.o.mono ?_;rintro e Z8 ⟨R4,iL,rfl,hv,hi,lf,bL⟩;have c6:=gi.o.trans bL;have e6:Keep (fun b=>b<N+2) W1 Z8:=aX.o.trans c6.mt;have ha:Keep (fun b=>b<N) w Z8:=bu.o.trans c6.mt;have lm:=bL.size;have dV:=er.o.keep bL;have dW:=es.o.keep bL;have dX:=et.o.keep bL;have dY:=hv;obtain⟨t0,t1,t2,t4,t5,t6,t7⟩:=ap.o Z8 e6;clear u tt hv bL;clear t4 t5 t6 t7 t0 t1 t2;refine hd8 ?_ c6 e6 ha hi dV dW dX dY;clear c6 e6 ha hi dV dW dX dY;intro gj gc gd gn eu ew ey ez;have cz:=ch.o.trans (GStep.own (n0:=0) ch.o.inv gj.o);have gL:=fT.o.step cz;have i8:=cz.inv;have cL: ∀b,b<W6.heap.size->g4.free b:=fun b hb=>cz.new b hb (qg3 b);have eG: ∀b,Z4.heap.size<=b->g4.free b:=fun b hb=>qbk ch.o.inv hb;obtain⟨O,hO⟩:=ex (qbw okF fo);obtain⟨D,hD⟩:=ex (qbw okF fd);obtain⟨A,hA⟩:=ex (qbw okF fa);obtain⟨B,hB⟩:=ex (qbw okF fn);have e1:=fO.o;have e2:=fP.o;have e3:=fQ.o;have e4:=fR.o;have m1:=gk.o;have m2:=gl.o;have m3:=gm.o;have m4:=gn.o;rw [hO]at e1 m1;rw [hD]at e2 m2;rw [hA]at e3 m3;rw [hB]at e4 m4;have oO: ∀x,x∈O->okF x=true:=by rw [←hO];exact qj7 fo
   have oD: ∀x,x∈D->okF x=true:=by rw [←hD];exact qj7 fd
   have oA: ∀x,x∈A->okF x=true:=by rw [←hA];exact qj7 fa
   have oB: ∀x,x∈B->okF x=true:=by rw [←hB];exact qj7 fn
   have iO: ∀x,x∈O->x∈F:=fun x hx=>ae.o x (.inl (qlz (by rw [hO];exact hx)));have iD: ∀x,x∈D->x∈F:=fun x hx=>ae.o x (.inr (.inl (qlz (by rw [hD];exact hx))));have iA: ∀x,x∈A->x∈F:=fun x hx=>ae.o x (.inr (.inr (.inl (qlz (by rw [hA];exact hx)))));have lO:O.length<=400:=by have:=qh6 fo;rw [hO] at this;omega
   have lD:D.length<=400:=by have:=qh6 fd;rw [hD] at this;omega
   have lA:A.length<=400:=by have:=qh6 fa;rw [hA] at this;omega
   have lB:B.length<=400:=by have:=qh6 fn;rw [hB] at this;omega
   have ba: ∀γ:Gh,γ.st=g4.st->qcd γ (some S1)=O/\qcd γ (some S2)=D/\qcd γ (some S3)=A/\qcd γ (some S4)=B:=fun γ h=>by
    unfold qcd;simp only [h,e1,e2,e3,e4,Option.getD_some,and_self]
   have g0: ∀γ:Gh,γ.st=g4.st->qfd [S1,S2,S3,S4] γ:=fun γ ay S hS=>by
    rw [ay];simp only [zw,yU,yi]at hS;rcases hS with h |h |h |h
    ·rw [h];exact⟨_,e1,oO⟩
    ·rw [h];exact⟨_,e2,oD⟩
    ·rw [h];exact⟨_,e3,oA⟩
    ·rw [h];exact⟨_,e4,oB⟩
   have nO:O.Nodup:=by have:=qja i8 (some S1);rw [(ba g4 rfl).1] at this;exact this
   have nD:D.Nodup:=by have:=qja i8 (some S2);rw [(ba g4 rfl).2.1] at this;exact this
   have nA:A.Nodup:=by have:=qja i8 (some S3);rw [(ba g4 rfl).2.2.1] at this;exact this
   have dz: ∀m,(qeo (qie r.body O D A B (qcb r.body) m) r).length<=20000:=fun m=>qs6 nO nD nA iO iD iA aP.o _ m;have dA: ∀m,(qeo (qie r.body [] D A [] (qcb r.body) m) r).length<=20000:=fun m=>qs6 nodup_nil nD nA (fun f h=>(by cases h)) iD iA aP.o _ m;have gT: ∀S,some S1=some S->S∈ [S1,S2,S3,S4]:=fun S h=>by cases h;simp
   have gU: ∀S,some S2=some S->S∈ [S1,S2,S3,S4]:=fun S h=>by cases h;simp
   have gV: ∀S,some S3=some S->S∈ [S1,S2,S3,S4]:=fun S h=>by cases h;simp
   have gW: ∀S,some S4=some S->S∈ [S1,S2,S3,S4]:=fun S h=>by cases h;simp
   have gS: ∀S,(none:Option Nat)=some S->S∈ [S1,S2,S3,S4]:=fun S h=>by cases h
   have gN: ∀γ X,GStep 0 g4 Z8 γ X->RSt X (some R1) O/\RSt X (some R2) D/\RSt X (some R3) A/\RSt X (some R4) B:=fun γ X hs=>by
    have key: ∀{R:Nat} {ps:List (qk×Value)} {c:List qk},RStW R Z8 ps->ps.map (·.1)=c->Z4.heap.size<=R->c.length<=400->RSt X (some R) c:=fun {R ps c} h hc hR hl=>by
     have h1:=(h.keepP hs.keep fun b hb _=>eG b wC).read (by have:=yO List.length hc;rw [zL] at this;omega);rw [hc]at h1;exact h1
    exact⟨key eu.o m1 wC lO,key ew.o m2 wC lD,key ey.o m3 wC lA,key ez.o m4 wC lB⟩
   have gO: ∀γ X,GStep 0 g4 Z8 γ X->Keep (fun b=>b<N) w X/\RuleIn n X (.slice av r.head.args.length ax) (.slice au r.body.length aw) r/\n<=X.heap.size/\N+1<X.heap.size/\X.cell? ⟨N+1,0,none⟩=some (.string r.head.pred)/\X.cell? ⟨N+1,1,none⟩=some (.slice av r.head.args.length ax)/\X.cell? ⟨N+1,2,none⟩=some (.slice au r.body.length aw):=fun γ X hs=>by
    have k1:Keep (fun b=>b<N) w X:=gd.o.trans (hs.keep.mono fun b _ h=>cL b wC);have k2:Keep (fun b=>b<N+2) W1 X:=gc.o.trans (hs.keep.mono fun b _ h=>cL b wC);obtain⟨t0,t1,t2,-⟩:=ap.o X k2;exact⟨k1,cJ.o.keep (k1.mono fun b _ h=>by have:=g.o;omega),by have:=k1.size;omega,by have:=hs.keep.size;omega,t0,t1,t2⟩
   have jK:(np:Int)+1<=300:=wC
   clear m1 m2 m3 m4 lO lD lA lB hO hD hA hB e1 e2 e3 e4;refine qb5 ?_ cz gL i8 cL eG oO oD oA oB iO iD iA ba g0 nO nD;clear cz gL i8 cL eG oO oD oA oB iO iD iA ba g0 nO nD;intro jn bS ih i1 i0 gf el ej kc f8 ef ee aq cg ka j9;refine qdz ?_ nA dz dA gT gU gV gW gS gN gO;clear nA dz dA gT gU gV gW gS gN gO;intro j8 aU bR dl b8 b9 dm dk bU d;go_wp2_with fail
   go_loopw [16] (fun ix X=> ∃(i:Int) (γ:Gh),-1<=i/\i<=np+1/\ix=.int .i64 i/\GStep 0 g4 Z8 γ X/\γ.st=g4.st) (fun ix _=>((np:Int)+1-intOf ix).toNat)
   case atStart=>exact⟨-1,g4,wC,wC,rfl,GStep.refl ih.o,rfl⟩
   case round=>
    obtain⟨i,γ,kO,kP,rfl,hs,ht⟩:=hrel;by_cases kQ:i<=np
    ·as_aux_lemma=>
      have aj:=qjh J (i) (some S1) (some S2) (some S3) (some S4) wr;unfold qab at aj;simp only [Option.map_some,Option.map_none]at aj;have dH:=hs;have dL:=ht;refine hd5 ?_ dH dL hs ht aj;clear dH dL hs ht aj;intro U aW ib ie aQ;go_wp2_with fail;refine aQ.o.mono ?_;rintro e Y1 ⟨rfl,b1,b2,b3,b4,b5,b6,zY,kY⟩;have sY:=GStep.own (n0:=0) U.o.inv kY;have al:=U.o.trans sY;have a6:=(d.o _ _ al).2.2.2.2;have aL:=qis (n0:=0) (Ss:= [S1,S2,S3,S4]) sY.inv (cg.o γ aW.o) (yc _) ag.o (bS.o.step al) (k:=i) (so:=(some S1)) (sd:=(some S2)) (sa:=(some S3)) (sN:=(some S4)) dl.o b8.o b9.o dm.o b1 b2 (by unfold qab;exact b3) (by unfold qab;exact b4) (by unfold qab;exact b5) (by unfold qab;exact b6)
       (qbk U.o.inv (zG _)) (qbk U.o.inv wC) (qbk U.o.inv wC) (qbk U.o.inv wC) (qbk U.o.inv wC) (qbk U.o.inv wC) (l:=F) (fun s f hs Y=>by
        obtain⟨n1,n2,n3,n4⟩:=aq.o γ aW.o;rcases hs with rfl |rfl |rfl
        ·rw [n1]at Y;exact f8.o f Y
        ·rw [n2]at Y;exact ef.o f Y
        ·rw [n3]at Y;exact ee.o f Y) aP.o
      obtain⟨n1,n2,n3,n4⟩:=aq.o γ aW.o;rw [n1,n2,n3,n4]at aL;clear b1 b2 b3 b4 b5 b6 n1 n2 n3 n4;refine hd6 ?_ zY kY sY al aL a6;clear zY kY sY al aL a6;intro eA ei em bl aS bW;go_wp2_with fail;refine aS.o.mono ?_;rintro e Y2 ⟨γ2,v2,q2,rfl,s2,t2,m2,r2⟩;have ah:=bl.o.trans s2;have bd:γ2.st=g4.st:=t2.trans aW.o;obtain⟨gz,dy,rfl⟩:=qj m2.own;obtain⟨x1,x2,x3⟩:=bU.o _ _ ah;obtain⟨y0,y1,y2,y3,yT⟩:=d.o _ _ ah;have ak:=qls (w:=Y2) ag.o y1 y2 (i) (so:=(some R1)) (sd:=(some R2)) (sa:=(some R3)) (sN:=(some R4)) (O:=O) (F:=D) (A:=A) (B:=B) x1 x2 x3.1 x3.2 gf.o el.o ej.o aU.o p.o.terms;unfold qam qf8 at ak;simp only [Option.map_some,Option.map_none]at ak;obtain⟨u0,u1,u2⟩:=yT;have a7:Y2.cell? ⟨N+1,0,none⟩=some (.string r.head.pred)/\Y2.cell? ⟨N+1,1,none⟩=some (.slice av r.head.args.length ax)/\Y2.cell? ⟨N+1,2,none⟩=some (.slice au r.body.length aw):=⟨u0,u1,u2⟩;clear y0 y1 y2 x1 x2 x3 s2 t2
      skip
      refine hd6 ?_ ah bd m2 r2 ak a7;clear ah bd m2 r2 ak a7;intro aI bm bH aD aR b0;go_wp2_with fail;refine aR.o.mono ?_;rintro e Y3 ⟨v3,rfl,k3,aK⟩;have aB:=aI.o.trans (GStep.own (n0:=0) aI.o.inv k3);have a8:=(d.o _ _ aB).2.2.2.2;have m3:=bH.o.keep (P':=fun _=>True) k3 (fun b hb hp=>⟨wH,wH⟩);have bb:q2.length<=20000:=by have h1:=yO List.length aD.o;rw [zL] at h1;have:=qlt (k:=i) aU.o;omega
      obtain⟨az,aA⟩:=m3.mq wC (fun q hq=>qjz ag.o (k:=i) (O:=O) (F:=D) (A:=A) (B:=B) q.1 (by rw [←aD.o];exact yL.2 ⟨q,hq,rfl⟩));have aM:=qiq az (zG _) aA;rw [aD.o]at aM;have aa:=qm1 aM aK (zG _);obtain⟨gA,gB,rfl,-,-,-⟩:=id aK;clear m3 az aA aM k3 aK
      skip
      refine hd4 ?_ aB a8 aa bb;clear aB a8 aa bb;intro aJ b7 ab ca;go_wp2_with fail;refine ab.o.mono ?_;rintro e Y4 ⟨rfl,k4⟩;have aC:=aJ.o.trans (GStep.own (n0:=0) aJ.o.inv k4);have bf:=bm.o;have a9:=(d.o _ _ aC).2.2.2.2
      skip
      clear k4;refine hd3 ?_ aC bf a9;clear aC bf a9;intro t ar bk;go_wp2_with fail;go_roundw
      case rel=>exact⟨i+1,γ2,wC,wC,by go_num,t.o,ar.o⟩
      case measure=>simp [intOf];omega
    ·as_aux_lemma=>
      obtain⟨Wd,eO⟩:=ex (wr.drew);have kd:wG wr Wd:=by rw [←eO];exact kDr
      have bD:=hs.trans (GStep.own (n0:=0) hs.inv kd);have dK:=ht;have dG:=(d.o _ _ bD).2.2.2.2;have jG:N+1<Wd.heap.size:=(d.o _ _ bD).2.2.2.1;have aj:=qjh J (k) (some S1) (some S2) (some S3) (some S4) Wd;unfold qab at aj;simp only [Option.map_some,Option.map_none]at aj;refine hd8 ?_ hs ht eO kd bD dK dG aj;clear hs ht eO kd bD dK dG aj;intro ib ie f1 j7 y aV d9 aQ;go_wp2_with fail;refine qa5 rfl (fun X=>X.cell? ⟨N+1,0,none⟩=some (.string r.head.pred)/\X.cell? ⟨N+1,1,none⟩=some (.slice av r.head.args.length ax)/\X.cell? ⟨N+1,2,none⟩=some (.slice au r.body.length aw)) [] ?_;rw [f1.o];refine qy [0,1,2,3,4,5,8,9,10,11,12,13] ?_
      iterate 12
       refine tkN (v:=?_) rfl d9.o ?_ ?_;rotate_left
       ·rintro Wq ⟨x1,x2,x3⟩;go_simp
        try with_reducible rfl
       try simp only [qz]
      refine qm ?_;refine ho 6 rfl fun K aF=>?_;go_wp2_with fail;refine aQ.o.mono ?_;rintro e Y1 ⟨rfl,b1,b2,b3,b4,b5,b6,zY,kY⟩;have sY:=GStep.own (n0:=0) y.o.inv kY;have al:=y.o.trans sY;have a6:=(d.o _ _ al).2.2.2.2;have aL:=qis (n0:=0) (Ss:= [S1,S2,S3,S4]) sY.inv (cg.o γ aV.o) (yc _) ag.o (bS.o.step al) (k:=k) (so:=(some S1)) (sd:=(some S2)) (sa:=(some S3)) (sN:=(some S4)) dl.o b8.o b9.o dm.o b1 b2 (by unfold qab;exact b3) (by unfold qab;exact b4) (by unfold qab;exact b5) (by unfold qab;exact b6)
       (qbk y.o.inv (zG _)) (qbk y.o.inv wC) (qbk y.o.inv wC) (qbk y.o.inv wC) (qbk y.o.inv wC) (qbk y.o.inv wC) (l:=F) (fun s f hs Y=>by
        obtain⟨n1,n2,n3,n4⟩:=aq.o γ aV.o;rcases hs with rfl |rfl |rfl
        ·rw [n1]at Y;exact f8.o f Y
        ·rw [n2]at Y;exact ef.o f Y
        ·rw [n3]at Y;exact ee.o f Y) aP.o
      obtain⟨n1,n2,n3,n4⟩:=aq.o γ aV.o;rw [n1,n2,n3,n4]at aL;clear b1 b2 b3 b4 b5 b6 n1 n2 n3 n4;refine hd6 ?_ zY kY sY al aL a6;clear zY kY sY al aL a6;intro eA ei em bl aS bW;go_wp2_with fail;refine aF.o _ _ (fun _=>bW.o) ?_;refine ho 7 rfl fun K aG=>?_;go_wp2_with fail;refine aS.o.mono ?_;rintro e Y2 ⟨γ2,v2,q2,rfl,s2,t2,m2,r2⟩;have ah:=bl.o.trans s2;have bd:γ2.st=g4.st:=t2.trans aV.o;obtain⟨gz,dy,rfl⟩:=qj m2.own;obtain⟨x1,x2,x3⟩:=bU.o _ _ ah;obtain⟨y0,y1,y2,y3,yT⟩:=d.o _ _ ah;have ak:=qls (w:=Y2) ag.o y1 y2 (k) (so:=(some R1)) (sd:=(some R2)) (sa:=(some R3)) (sN:=(some R4)) (O:=O) (F:=D) (A:=A) (B:=B) x1 x2 x3.1 x3.2 gf.o el.o ej.o aU.o p.o.terms;unfold qam qf8 at ak;simp only [Option.map_some,Option.map_none]at ak;obtain⟨u0,u1,u2⟩:=yT;have a7:Y2.cell? ⟨N+1,0,none⟩=some (.string r.head.pred)/\Y2.cell? ⟨N+1,1,none⟩=some (.slice av r.head.args.length ax)/\Y2.cell? ⟨N+1,2,none⟩=some (.slice au r.body.length aw):=⟨u0,u1,u2⟩;clear y0 y1 y2 y3 u0 u1 u2 x1 x2 x3 s2 t2;have jH:N+1<Y2.heap.size:=(d.o _ _ ah).2.2.2.1;refine hd6 ?_ ah bd m2 r2 ak a7;clear ah bd m2 r2 ak a7;intro aI bm bH aD aR b0;go_wp2_with fail;refine aG.o _ _ (fun _=>b0.o) ?_;refine ho 14 rfl fun K aH=>?_;go_wp2_with fail;refine aR.o.mono ?_;rintro e Y3 ⟨v3,rfl,k3,aK⟩;have aB:=aI.o.trans (GStep.own (n0:=0) aI.o.inv k3);have a8:=(d.o _ _ aB).2.2.2.2;have m3:=bH.o.keep (P':=fun _=>True) k3 (fun b hb hp=>⟨wH,wH⟩);have bb:q2.length<=20000:=by have h1:=yO List.length aD.o;rw [zL] at h1;have:=qlt (k:=k) aU.o;omega
      obtain⟨az,aA⟩:=m3.mq wC (fun q hq=>qjz ag.o (k:=k) (O:=O) (F:=D) (A:=A) (B:=B) q.1 (by rw [←aD.o];exact yL.2 ⟨q,hq,rfl⟩));have aM:=qiq az (zG _) aA;rw [aD.o]at aM;have aa:=qm1 aM aK (zG _);obtain⟨gA,gB,rfl,-,-,-⟩:=id aK;clear m3 az aA aM k3 aK;have jI:N+1<Y3.heap.size:=(d.o _ _ aB).2.2.2.1;refine hd4 ?_ aB a8 aa bb;clear aB a8 aa bb;intro aJ b7 ab ca;go_wp2_with fail;refine aH.o _ _ (fun _=>b7.o) ?_;refine ho 15 rfl fun K bq=>?_;go_wp2_with fail;refine ab.o.mono ?_;rintro e Y4 ⟨rfl,k4⟩;have aC:=aJ.o.trans (GStep.own (n0:=0) aJ.o.inv k4);have bf:=bm.o;have a9:=(d.o _ _ aC).2.2.2.2;have jJ:N+1<Y4.heap.size:=(d.o _ _ aC).2.2.2.1;clear k4;refine hd3 ?_ aC bf a9;clear aC bf a9;intro t ar bk;go_wp2_with fail;refine bq.o _ _ (fun _=>bk.o) ?_;refine qy [16,17,18,19,22,23,24] ?_
      iterate 7
       refine tkN (v:=?_) rfl bk.o ?_ ?_;rotate_left
       ·rintro Wq ⟨x1,x2,x3⟩;go_simp
        try with_reducible rfl
       try simp only [qz]
      refine qm ?_;clear aF aG aH bq aQ aS aR ab bH aD eA ei em ca;have aj:=qjh J (0) none (some S2) (some S3) none Y4;unfold qab at aj;simp only [Option.map_some,Option.map_none]at aj;refine hd1 ?_ aj;clear aj;intro aQ;refine ho 20 rfl fun K aF=>?_;go_wp2_with fail;refine aQ.o.mono ?_;rintro e V1 ⟨rfl,b1,b2,b3,b4,b5,b6,zY,kY⟩;have sY:=GStep.own (n0:=0) t.o.inv kY;have bw:=t.o.trans sY;have dB:=(d.o _ _ bw).2.2.2.2;have aL:=qis (n0:=0) (Ss:= [S1,S2,S3,S4]) sY.inv (cg.o γ2 ar.o) (yc _) ag.o (bS.o.step bw) (k:=0) (so:=none) (sd:=(some S2)) (sa:=(some S3)) (sN:=none) dk.o b8.o b9.o dk.o b1 b2 (by unfold qab;exact b3) (by unfold qab;exact b4) (by unfold qab;exact b5) (by unfold qab;exact b6)
       (qbk t.o.inv (zG _)) (qbk t.o.inv wC) (qbk t.o.inv wC) (qbk t.o.inv wC) (qbk t.o.inv wC) (qbk t.o.inv wC) (l:=F) (fun s f hs Y=>by
        obtain⟨n1,n2,n3,n4⟩:=aq.o γ2 ar.o;rcases hs with rfl |rfl |rfl
        ·cases Y
        ·rw [n2]at Y;exact ef.o f Y
        ·rw [n3]at Y;exact ee.o f Y) aP.o
      obtain⟨n1,n2,n3,n4⟩:=aq.o γ2 ar.o;rw [show qcd γ2 none= []from rfl,n2,n3]at aL;clear b1 b2 b3 b4 b5 b6 n1 n2 n3 n4;refine hd6 ?_ zY kY sY bw aL dB;clear zY kY sY bw aL dB;intro eA ei em eb aS d6;go_wp2_with fail;refine aF.o _ _ (fun _=>d6.o) ?_;refine ho 21 rfl fun K aG=>?_;go_wp2_with fail;refine aS.o.mono ?_;rintro e V2 ⟨γ3,v2,q2,rfl,s2,t2,m2,r2⟩;have bc:=eb.o.trans s2;have dI:γ3.st=g4.st:=t2.trans ar.o;obtain⟨gz,dy,rfl⟩:=qj m2.own;obtain⟨x1,x2,x3⟩:=bU.o _ _ bc;obtain⟨y0,y1,y2,y3,yT⟩:=d.o _ _ bc;have ak:=qls (w:=V2) ag.o y1 y2 (0) (so:=none) (sd:=(some R2)) (sa:=(some R3)) (sN:=none) (O:= []) (F:=D) (A:=A) (B:= []) rfl x2 x3.1 rfl (fun x h=>(by cases h)) el.o ej.o bR.o p.o.terms;unfold qam qf8 at ak;simp only [Option.map_some,Option.map_none]at ak;obtain⟨u0,u1,u2⟩:=yT;have dC:V2.cell? ⟨N+1,0,none⟩=some (.string r.head.pred)/\V2.cell? ⟨N+1,1,none⟩=some (.slice av r.head.args.length ax)/\V2.cell? ⟨N+1,2,none⟩=some (.slice au r.body.length aw):=⟨u0,u1,u2⟩;clear y0 y1 y2 y3 u0 u1 u2 x1 x2 x3 s2 t2;have jD:N+1<V2.heap.size:=(d.o _ _ bc).2.2.2.1;refine hd6 ?_ bc dI m2 r2 ak dC;clear bc dI m2 r2 ak dC;intro cc ed bH aD aR d7;go_wp2_with fail;refine aG.o _ _ (fun _=>d7.o) ?_;refine ho 25 rfl fun K aH=>?_;go_wp2_with fail;refine aR.o.mono ?_;rintro e V3 ⟨v3,rfl,k3,aK⟩;have bx:=cc.o.trans (GStep.own (n0:=0) cc.o.inv k3);have dD:=(d.o _ _ bx).2.2.2.2;have m3:=bH.o.keep (P':=fun _=>True) k3 (fun b hb hp=>⟨wH,wH⟩);have bb:q2.length<=20000:=by have h1:=yO List.length aD.o;rw [zL] at h1;have:=qlt (k:=0) bR.o;omega
      obtain⟨az,aA⟩:=m3.mq wC (fun q hq=>qjz ag.o (k:=0) (O:= []) (F:=D) (A:=A) (B:= []) q.1 (by rw [←aD.o];exact yL.2 ⟨q,hq,rfl⟩));have aM:=qiq az (zG _) aA;rw [aD.o]at aM;have aa:=qm1 aM aK (zG _);obtain⟨gA,gB,rfl,-,-,-⟩:=id aK;clear m3 az aA aM k3 aK;have jE:N+1<V3.heap.size:=(d.o _ _ bx).2.2.2.1;refine hd4 ?_ bx dD aa bb;clear bx dD aa bb;intro ce d8 ab ca;go_wp2_with fail;refine aH.o _ _ (fun _=>d8.o) ?_;refine ho 26 rfl fun K bq=>?_;go_wp2_with fail;refine ab.o.mono ?_;rintro e V4 ⟨rfl,k4⟩;have bz:=ce.o.trans (GStep.own (n0:=0) ce.o.inv k4);have dJ:=ed.o;have dE:=(d.o _ _ bz).2.2.2.2;have jF:N+1<V4.heap.size:=(d.o _ _ bz).2.2.2.1;clear k4;refine hd3 ?_ bz dJ dE;clear bz dJ dE;intro ec ig bV;go_wp2_with fail;refine bq.o _ _ (fun _=>bV.o) ?_;refine qy [27,28] ?_
      iterate 2
       refine tkN (v:=?_) rfl bV.o ?_ ?_;rotate_left
       ·rintro Wq ⟨x1,x2,x3⟩;go_simp
        try with_reducible rfl
       try simp only [qz]
      refine qm ?_;refine ho 29 rfl fun K fU=>?_;go_wp2_with fail;refine(qnd V4).mono ?_;rintro e V5 ⟨rfl,cv⟩;obtain⟨y0,-,-,yN,yT⟩:=d.o _ _ ec.o;have kf:Keep (fun b=>b<N) w V5:=y0.trans (cv.mono fun b _ h=>wC);have gQ:V5.cell? ⟨N+1,0,none⟩=some (.string r.head.pred)/\V5.cell? ⟨N+1,1,none⟩=some (.slice av r.head.args.length ax)/\V5.cell? ⟨N+1,2,none⟩=some (.slice au r.body.length aw):=⟨cv.cell yT.1 yN,cv.cell yT.2.1 yN,cv.cell yT.2.2 yN⟩;clear cv y0 yT;refine hd2 ?_ kf gQ;clear kf gQ;intro ip df;go_wp2_with fail;refine fU.o _ _ (fun _=>df.o) ?_;refine qy [30,31] ?_
      iterate 2
       refine tkN (v:=?_) rfl df.o ?_ ?_;rotate_left
       ·rintro Wq ⟨x1,x2,x3⟩;go_simp
        try with_reducible rfl
       try simp only [qz]
      refine qm ?_;refine qbh wD ?_;go_wp2_with fail;go_ret;rw [g.o];exact⟨rfl,ip.o⟩
end Go.Proofs
