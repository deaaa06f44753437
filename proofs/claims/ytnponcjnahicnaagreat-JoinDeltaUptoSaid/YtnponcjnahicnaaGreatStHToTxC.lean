/- Parts of the proof. -/
import Derived.Test.YtnponcjnahicnaaGreatStEToStJ
set_option linter.unusedSimpArgs false
set_option linter.unusedVariables false
set_option maxRecDepth 100000
set_option maxHeartbeats 4000000
open Go.Proofs.Tryz(prog)
open List(nodup_nil take_zero)
namespace Go.Proofs
open Go.RowKit Go.Ink R4 Go.MuLone
attribute [local go_sem] Oper.semAt_some
theorem qxt {n0:Nat}{g:Gh}{w:World}(hg:GInv g w){S:Nat}{c:List qk}(hS:g.st S=some c)(p:ByteArray)(n:Nat)(hp:p.size<=1073741824)(hn:n<=1073741824)(m:Nat)(vc vk:Value)(d:List Int)(key:List ByteArray)(upto:Nat)
  (ax:qat m w vc d) (a9:qac m w vk key) (hm:m<=w.heap.size) (bU: ∀s,s∈key->s.size<=1073741824) (eR:0<upto) (c3:upto<=(qv c p n).length) (bv:qd8 n d=true) (cn:key.length=d.length):
  Calls prog 89 #[qi S,qem (p,n),vc,vk,.int .i64 (upto:Int)] w fun e w'=> ∃g' v,e=.returned v/\GStep n0 g w g' w'/\g'.st=g.st/\g'.held=g.held/\RowsAt (fun b=>g'.free b/\w.heap.size<=b) w' v (qjt c p n d key upto):=by
 obtain⟨T,M,MX,vx,xs,rl,hP⟩:=hg.store S c hS;obtain⟨N,hN⟩:=ex (w.heap.size);obtain⟨W0,aK⟩:=ex ((w.alloc (.cells #[qi S] 37)).alloc (.cells #[.string p,.int .i64 (n:Int)] 122));have k0:wG w W0:=by rw [←aK];exact kAl.trans kAl
 have z0:W0.heap.size=w.heap.size+2:=by rw [←aK];simp
 have p0:W0.heap[N]?=some (.cells #[qi S] 37 (0,0)):=by rw [←aK,←hN];simp only [qao,zO];simp
 have q0:W0.heap[N+1]?=some (.cells #[.string p,.int .i64 (n:Int)] 122 (0,0)):=by rw [←aK,←hN];simp only [qao,zO];simp
 have r:=hP.keep (tag':=g.tag) k0 (fun _ _ _=>wH) (fun _ _=>Iff.rfl);have a0:=qb r.box 0 _ rfl;have f0:=qg r.box 0;have eD:=qe r.box;have fo:=qe hP.box;obtain⟨W1,aG⟩:=ex (W0.setCell ⟨S,0,none⟩ (.int .i32 1));have k1:Keep (fun b=>b≠S) W0 W1:=by rw [←aG];exact kSc
 have z1:W1.heap.size=W0.heap.size:=by rw [←aG];simp
 have aa:=qag 0 (.int .i32 1) r.box;rw [aG]at aa;have dM:N≠S:=wC
 have df:N+1≠S:=wC
 have p1:=k1.heap p0 dM;have q1:=k1.heap q0 df;have dD:M≠S:=fun e=>by have:=r.tagM;rw [e,r.tagS] at this;cases this
 have aR:=r.rels.keep k1 dD;have aU:TabAt W1 T MX vx xs:=r.table.keep k1 (fun e=>by have:=r.tagT;rw [e,r.tagS] at this;cases this) (fun e=>by have:=r.tagN;rw [e,r.tagS] at this;cases this) (fun b q e=>by have:=r.tagx b q;rw [e,r.tagS] at this;cases this);have a1:=qit r.box;have ay:=lock_free qhs ⟨S,0,none⟩ W0 (by simpa using a0) f0;rw [aG]at ay;have bH: ∀W,wG W1 W->W.cell? ⟨S,0,none⟩=some (.int .i32 1)/\W.frozen? ⟨S,0,none⟩=false:=fun W hK=>
  ⟨by have:=qb (hK.heap aa wH) 0 _ rfl;simpa using this,qg (hK.heap aa wH) 0⟩
 have cN:qac m W1 vk key:=(qn6 a9 k0).mono (fun b o s _ z=>k1.cell z (fun e=>qv7 r.box (by rw [show b=S from e] at z;exact z)));have cA:qat m W1 vc d:=ax.mono fun b o x _ hx=>by
  have bO:W0.cell? ⟨b,o,none⟩=some (.int .i64 x):=k0.cell hx trivial;show W1.cell? ⟨b,o,none⟩=some (.int .i64 x);rw [←aG];refine(World.cell?_setCell_other _ _ _ _ (fun e=>?_)).trans bO;cases e;have h0:W0.cell? ⟨S,0,none⟩=some (.int .i32 0):=by simpa using a0
  rw [h0]at bO;cases bO
 have a3:=qb aa 3 _ rfl;have bG:=qmt (by simpa using a3) aU m vk key cN wC bU;have cM: ∀u s,u∈qv c p n->s∈u->s∈xs:=fun u s hu z=>hP.texts _ s (qco.1 hu).1 z;have b0:=qb p1 0 _ rfl;have dx:=qb p0 0 _ rfl;have fa:=qe p1;have bQ:=qe p0;have eT:=qe aa;have eg: ¬((upto:Int)=0):=wC
 simp only [zD]at a0 b0 dx;have bI: ∀W,wG W1 W->wG w (W.setCell ⟨S,0,none⟩ (.int .i32 0)):=fun W hK=>k0.trans (qje r.box (by rw [aG];exact hK));clear a3 aU cN;unfold qem;refine qb5 ?_ cA hg hP r k0 aK p0 q0 k1 aa p1 q1 aR a1 ay bH;clear cA hg hP r k0 aK p0 q0 k1 aa p1 q1 aR a1 ay bH;intro cs aH ak y fe cF fk fg cT ag cf bW bm bi bo bV;refine hd9 ?_ bG cM ax a9 bU bv cn c3 bI;clear bG cM ax a9 bU bv cn c3 bI;intro bP aP dr ci en cc aY cB a2;refine qgb Tryz.func89 rfl ?_;simp only [Tryz.ntmps89,qd0,Nat.reduceAdd,Nat.reduceSub];gi_wp2;rw [cF.o];refine⟨wH,rfl,(zU.2 bi.o).mono ?_⟩;rintro e w9 ⟨rfl,aw⟩;have aw:=aw.symm;subst aw;gi_wp2;refine⟨wH,rfl,(zU.2 bo.o).mono ?_⟩;rintro e w9 ⟨rfl,aw⟩;have aw:=aw.symm;subst aw;gi_wp2;refine⟨wH,rfl,(zU.2 bP.o).mono ?_⟩;rintro e W2 ⟨vo,rfl,ho,cR,k2⟩;cases al:(key.all fun s=>decide (s∈xs)) with
 |false=>
  have cG:=q3x (upto:=upto) aP.o aY.o al;obtain⟨dt,dT⟩:=bV.o W2 k2;have cx:=a2.o W2 k2;clear k2 ho cR al;refine hd2 ?_ cG cx;clear cG cx;intro de db;gi_wp2;refine qez dt dT (qb9 (xo rfl _ _ _) ⟨g,.slice none 0 0,rfl,GStep.own aH.o db.o,rfl,rfl,?_⟩);rw [de.o];exact qv8 _
 |true=>
  have cP: ∀s,s∈key->s∈xs:=fun s z=>yE (yM.1 al s z);have ho:=ho al;obtain⟨R,a6⟩: ∃R,qdj rl (p,n)=some R:=by
   cases e:qdj rl (p,n) with
   |some R=>exact⟨R,rfl⟩
   |none=>
    have:=qmj ak.o e;have h2:=cB.o;rw [this]at h2;simp at h2;omega
  obtain⟨vD,Pp,Km,lm,hR⟩:=y.o.rel _ _ (qft a6);simp only at hR;have dB:R≠S:=fun e=>by have:=y.o.rel_at (qft a6);rw [e,y.o.tagS] at this;cases this
  obtain⟨W3,bk⟩:=ex (W2.alloc (.cells #[.slice none 0 0] 162));obtain⟨nb,dv⟩:=ex (W2.heap.size);have k3:wG W2 W3:=by rw [←bk];exact kAl
  have b3:BoxAt W3 nb 162 (.slice none 0 0):=by rw [←bk,←dv];exact qh _ _
  have kd:wG W1 W3.drew:=(k2.trans k3).trans kDr;have bd:BoxAt W3.drew nb 162 (.slice none 0 0):=b3.keep (Keep.drew (fun _=>True) _) trivial;have cb:wG W2 W3.drew:=k3.trans kDr;have od:=qf ho cb (fun _ _=>wH);have c7:qcl (qa6 g.tag S R) W3.drew R n ((qv c p n).map (qx xs)) vD Pp Km lm:=(hR.keep cT.o (fun b U q _ e=>by have:=qah.1 q;rw [e,y.o.tagS] at this;cases this)).keep kd (fun _ _ _ _=>wH);obtain⟨s0,b6⟩: ∃s0:qe4,s0=⟨qa6 g.tag S R,(qv c p n).map (qx xs),vD,lm⟩:=⟨_,rfl⟩;have aV:RelInv R n Pp Km s0 W3.drew:=by
   rw [b6];exact⟨c7,by simp only [zL];have:=qj2 c p n;have:=ak.o.few;omega⟩
  have bs:=qef (P:=prog) Tryz.underlying116 qkk qjf qmi (bm.o.keep kd wH) (p,n) (qkl hp hn) false;simp only [a6,zz,xA]at bs;unfold qem at bs;have e1:=qb (kd.heap cf.o wH) 0 _ rfl;have e2:=qb (kd.heap bW.o wH) 0 _ rfl;have e3:=qb (kd.heap bW.o wH) 1 _ rfl;have e4:=qb (kd.heap ag.o wH) 4 _ rfl;simp only [zD]at e1 e2 e3 e4;have eC:=qe (kd.heap cf.o wH);have em:=qe (kd.heap bW.o wH);have eW:=qe (kd.heap ag.o wH);have cg:qat W3.drew.heap.size W3.drew vc d:=SliceIn.wider cs.o (by have:=kd.size;omega) (fun b o x _ hx=>kd.cell hx wH);have eA:=aY.o;have cp:key.length<=1073741824:=by
   obtain⟨_,_,_,h,_⟩:=ci.o;exact h
  have dz:d.length<=1073741824:=wC
  have ce:qat W3.drew.heap.size W3.drew vo (qx xs key):=by
   have c0:=od;rw [←qdu xs key]at c0;exact qen c0 (by rw [qdu];exact cp)
  have cL:=qvl W3.drew R W3.drew.heap.size vc vo d (qx xs key) 0 (upto:Int) cg ce (zG _);clear al dB c7 hR b3 k3 ho cR;have dk:=And.intro e1 (And.intro e2 (And.intro e3 e4));clear e1 e2 e3 e4;refine qm6 ?_ cP a6 bk bd kd cb od aV b6 cg ce cL dk;clear cP a6 bk bd kd cb od aV b6 cg ce cL dk;intro bx cK cI cS eO bz e7 aB ab ei ea cU aN;gi_wp2;rw [cI.o];refine qae ?_;refine xe.2 ?_;refine qa5 rfl (fun W=>W.cell? ⟨N,0,none⟩=some (qi S)/\W.cell? ⟨N+1,0,none⟩=some (.string p)/\W.cell? ⟨N+1,1,none⟩=some (.int .i64 (n:Int))/\W.cell? ⟨S,4,none⟩=some (.map (some M))) [] ?_;refine qy [0,1,2,3,4,5,7,8,9] ?_
  iterate 9
   refine tkN (v:=?_) rfl aN.o ?_ ?_;rotate_left
   ·rintro Wq ⟨x0,x1,x2,x3⟩;go_simp
    try with_reducible rfl
   try simp only [qz]
  refine qm ?_;refine Ink.ho 6 rfl fun K bD=>?_;go_wp2_with fail;refine bD.o _ _ (fun _=>aN.o) ?_;refine Ink.ho 10 rfl fun K br=>?_;go_wp2_with fail;refine cU.o.mono ?_;rintro e W4 ⟨bR,bL,bK,bT,bF,vl,c6,rfl,k4,dd⟩;have cy:W4.cell? ⟨N,0,none⟩=some (qi S)/\W4.cell? ⟨N+1,0,none⟩=some (.string p)/\W4.cell? ⟨N+1,1,none⟩=some (.int .i64 (n:Int))/\W4.cell? ⟨S,4,none⟩=some (.map (some M)):=by
   obtain⟨s1,s2,s3,s4⟩:=aN.o;exact⟨k4.cell s1 wH,k4.cell s2 wH,k4.cell s3 wH,k4.cell s4 wH⟩
  refine hd3 ?_ cy k4 dd;clear cy k4 dd;intro c8 bf cQ;go_wp2_with fail;refine br.o _ _ (fun _=>c8.o) ?_;refine qbh wD (qo ?_);clear bD br;gi_wp2;have ah:=q0v (upto:=upto) aP.o bx.o cc.o aY.o;obtain⟨rows,ch⟩:=ex (qjt c p n d key upto);rw [ch]at ah;have cZ:=ak.o.xl;have dh:=qom bx.o cZ;have z4:=bf.o.size;have zd:W3.drew.heap.size=W3.heap.size:=wE
  have z3:=bz.o.size;have aX:=aB.o.keep bf.o.mt;have aA: ∀b,nb<=b->s0.tag b=none:=fun b q=>by
   cases hT:s0.tag b with
   |none=>rfl
   |some U=>
    exfalso;rw [ab.o]at hT;have h1:=aH.o.lt b _ (qah.1 hT);have h2:=k2.size;omega
  have cV: ∀b,W3.drew.heap.size<=b->s0.tag b=none:=fun b q=>aA b wC;have aE:RelSame s0 W2 s0 W4:=(RelSame.refl s0 W2).keepOn (bz.o.trans bf.o) (fun _ _ _=>wH);have b4:=cS.o.keep bf.o trivial;have ew:=b4.lt;have bQ:(qet n s0.ts d (qx xs key) 0 (upto:Int)).length=rows.length:=by
   rw [ab.o,←ah,zL]
  have co:(qx xs key).length<=1073741824:=by rw [qdu];exact cp
  refine hd9 ?_ ah ch dh aX aA cV aE b4 bQ;clear ah ch dh aX aA cV aE b4 bQ;intro bj cJ ct bp aD di aW dY bw;refine qnk (qfi R n Pp Km) s0 (gf:=152) (lb:= #[.pointer (some ⟨bR,0,none⟩),.pointer (some ⟨bL,0,none⟩),.pointer (some ⟨bK,0,none⟩),.pointer (some ⟨bT,0,none⟩),.pointer (some ⟨bF,0,none⟩)]) rfl (qdg Tryz.func152 wD rfl)
   (qti R n Pp Km W3.drew.heap.size W4.heap.size bR bL bK bT bF vl c6 0 (upto:Int) d (qx xs key) ct.o dz co) (fun b q=>di.o b q.1)
   (fun γ0 k γ n X args h=>by obtain⟨i,t,_,_,v,rfl,_⟩:=h;rfl) bp.o (fun b q=>aD.o b wC) cQ.o (fun X Y hV hK=>hV.keep hK (fun b h1 h2=>h2))
   (fun k s X=> ∃vr,BoxAt X nb 162 vr/\s.tag nb=none/\RowsAt (fun b=>s.tag b=none/\W4.heap.size+2<=b) X vr (rows.take k)/\RelSame s0 W2 s X) (fun c k s X=>False) ?hI ?hIx ?hIs ?hIxs ?h0 ?round ?done ?stop
  case hI=>
   rintro k s X Y ⟨vr,h1,h2,h3,h4⟩ hK;exact⟨vr,h1.keep hK (.inl wC),h2,h3.keep hK (fun b _ q=>⟨.inr q.2,q⟩),h4.keepOn hK (fun b q _=>.inl wC)⟩
  case hIx=>rintro c k s X Y h;exact h.elim
  case hIs=>
   rintro k s X s' Y ⟨vr,h1,h2,h3,h4⟩ z;exact⟨vr,h1.keep ((qfi R n Pp Km).ifree z) h2,(qfi R n Pp Km).inew z nb h1.lt h2,h3.keep ((qfi R n Pp Km).ifree z) (fun b q hP=>⟨hP.1,(qfi R n Pp Km).inew z b q hP.1,hP.2⟩),h4.it z⟩
  case hIxs=>rintro c k s X s' Y h;exact h.elim
  case h0=>exact⟨_,dY.o,aD.o nb (zG _),by rw [take_zero];exact qv8 _,aW.o⟩
  case stop=>rintro D c k s W _ _ _ _ _ h;exact h.elim
  case round=>
   rintro l k s X0 X args eP fq cH hk ⟨vr,h1,h2,h3,h4⟩ z a4 cX eN hA;obtain⟨i,t,bn,am,v',rfl,bS,cD⟩:=hA;have g1:=h1.keep ((qfi R n Pp Km).ifree z) h2;have g2:s.tag nb=none:=(qfi R n Pp Km).inew z nb h1.lt h2;have g3:RowsAt (fun b=>s.tag b=none/\W4.heap.size+2<=b) X vr (rows.take k):=h3.keep ((qfi R n Pp Km).ifree z) (fun b q hP=>⟨hP.1,(qfi R n Pp Km).inew z b q hP.1,hP.2⟩);have g4:=h4.it z;have fc:X0.heap.size<=X.heap.size:=((qfi R n Pp Km).ifree z).size;obtain⟨u,hu,d6,c9⟩: ∃u,u∈qv c p n/\t=qx xs u/\rows[k]?=some u:=by
    rw [ab.o]at bn am;simp only at bn am;rw [zP]at am;cases hx:(qv c p n)[i]? with
    |none=>rw [hx] at am;cases am
    |some u=>
     rw [hx]at am;refine⟨u,zH hx,(yI am).symm,?_⟩;rw [←bj.o,zP,bn,Option.map_some,zJ,hx]
     rfl
   subst d6;rw [qdu]at bS cD;clear bn am h1 h2 h3 h4 hk;refine qdz ?_ z a4 cX cH bS g3 g4 c9 g1 hu;clear z a4 cX cH bS g3 g4 c9 g1 hu;intro eY aC dj bM bu dG c4 bb dS d0;gi_wp2;refine⟨Keep.refl _ _,fun Y hY eB fh=>?_⟩;have kY:Keep (fun b=>s0.tag b=none/\b<W2.heap.size) W1 Y:=(k2.mt.trans c4.o.keep).trans (hY.mono fun b _ h e=>wC);have tS:s0.tag S=none:=by
    cases hT:s0.tag S with
    |none=>rfl
    |some U=>rw [ab.o] at hT;have:=qah.1 hT;rw [ak.o.tagS] at this;cases this
   have tO: ∀b U,g.tag b=some (S,U)->(∀V,U≠.rel R V)->s0.tag b=none:=fun b U q hU=>by
    cases hT:s0.tag b with
    |none=>rfl
    |some V=>rw [ab.o] at hT;have:=qah.1 hT;rw [q] at this;cases this;exact absurd rfl (hU V)
   have tN:s0.tag N=none:=by
    cases hT:s0.tag N with
    |none=>rfl
    |some U=>rw [ab.o] at hT;have:=aH.o.lt _ _ (qah.1 hT);omega
   have ds:=k2.size;have pY:=kY.heap cf.o ⟨tN,wC⟩;have sY:=kY.heap ag.o ⟨tS,wC⟩;have y1:=qb pY 0 _ rfl;have y2:=qb sY 3 _ rfl;simp only [zD]at y1 y2;have eJ:=qe pY;have eZ:=qe sY;have cw:TabAt Y T MX vx xs:=by
    have bh:TabAt W1 T MX vx xs:=y.o.table.keep cT.o (fun e=>by have:=y.o.tagT;rw [e,y.o.tagS] at this;cases this) (fun e=>by have:=y.o.tagN;rw [e,y.o.tagS] at this;cases this) (fun b q e=>by have:=y.o.tagx b q;rw [e,y.o.tagS] at this;cases this);exact bh.keep kY ⟨tO _ _ ak.o.tagT (fun V e=>by cases e),by have:=qe bh.tab;omega⟩ ⟨tO _ _ ak.o.tagN (fun V e=>by cases e),by have:=bh.nums.lt;omega⟩ (fun b q=>⟨tO _ _ (ak.o.tagx b q) (fun V e=>by cases e),by have:=(zE bh.own b q).2;omega⟩)
   have b9:=qf bu.o hY (fun b q e=>by have:=(zE bu.o b q).1;omega);have aT:=b9;rw [←qdu xs u]at aT;have da:=qwg cw Y.heap.size v' u (fun s z=>aP.o u s d0.o z) (qen aT (by rw [qdu];exact cD)) (zG _) cZ;obtain⟨av,cv,rfl⟩:=qj b9;clear b9 aT cw kY pY sY;refine hd2 ?_ hY da;clear hY da;intro aI cq;gi_wp2;refine⟨wH,rfl,(CallsIn.inRound l (zU.2 cq.o)).mono ?_⟩;rintro e Y2 ⟨vu,rfl,ba,aO⟩;have zY:=aI.o.size;have eX:=aO.size;have e0:l=W4.heap.size+1:=bM.o.2.2;obtain⟨au,cu,rfl⟩:=qj ba;have bg:=(dS.o.keep aI.o wC).keep aO trivial;have b2:=(dG.o.keep aI.o (P':=fun b=>s.tag b=none/\W4.heap.size+2<=b) (fun b _ q=>⟨wC,q⟩)).keep aO (P':=fun b=>s.tag b=none/\W4.heap.size+2<=b) (fun b _ q=>⟨wH,q⟩);have bN:(rows.take k).length=k:=by rw [yC];exact xS (by have:=(zA.1 bb.o).1;omega)
   have dZ:k<=67108864:=by
    have h1:=(zA.1 bb.o).1;have h2:=qzp n s0.ts d (qx xs key) 0 (upto:Int);have h3:=aB.o.few;rw [bw.o]at h2;omega
   have a8: ∀b,X.heap.size<=b->s.tag b=none:=fun b q=>by
    cases hT:s.tag b with
    |none=>rfl
    |some U=>have:=aC.o.own.lt b U hT;omega
   obtain⟨ar,cr,gb,cap,Y3,cY,b1,az,cd⟩:=b2.snoc ba (fun b q=>⟨a8 b (by have:=(zE ba b q).1;omega),by have:=(zE ba b q).1;omega⟩) wC (fun b q=>⟨a8 b wC,wC⟩);have aF: ∀b,vr.ownBlock=some b->s.tag b=none/\W4.heap.size+2<=b:=by
    obtain⟨_,_,_,h,_⟩:=b2;exact h
   have a7:=bg.keep cd (fun e=>by have:=(aF nb e).2;omega);have e3:rows.take k++ [u]=rows.take (k+1):=by rw [zh,bb.o];rfl
   rw [e3]at az;rw [bN]at cY b1 az;subst cY;have eU:=bg.cell;have e6:=bg.lt;have fi:=a7.cell;have eG:=qg a7 0;have eK:=a7.lt;have b8:=qgn (.slice (some ⟨gb,0,none⟩) (k+1) cap) a7;obtain⟨Z,hZ⟩:=ex (Y3.setCell ⟨nb,0,none⟩ (.slice (some ⟨gb,0,none⟩) (k+1) cap));have kZ:Keep (fun b=>b≠nb) Y3 Z:=by rw [←hZ];exact kSc
   rw [hZ]at b8;have aS:Keep (fun b=>b≠nb/\(Value.slice ar k cr).ownBlock≠some b) Y Z:=(aO.mt.trans (cd.mono fun b _ h=>h.2)).trans (kZ.mono fun b _ h=>h.1);have bt:=az.keep kZ (P':=fun b=>s.tag b=none/\W4.heap.size+2<=b) (fun b _ q=>⟨wC,q⟩);have a5:=(qfi R n Pp Km).invk ((qfi R n Pp Km).invk aC.o (aI.o.mono fun b _ h e=>by subst e;exact h bM.o.1)) (aS.mono fun b _ h=>⟨fun e=>by subst e;exact h g2,fun e=>h (aF b e).1⟩);have el:nb<W3.heap.size:=by have:=cS.o.lt;simpa using this
   have c2:=(dj.o.keep aI.o (fun b h1 h2=>wC)).keep aS (fun b h1 h2=>⟨by have h3:W3.heap.size<=b:=(by simpa using h1);omega,fun e=>by have:=(aF b e).2;omega⟩);have cO:=(c4.o.keepOn aI.o (fun b q _=>wC)).keepOn aS (fun b q _=>⟨wC,fun e=>by have:=(aF b e).2;omega⟩);have hf:qfq (qfi R n Pp Km) W4.heap.size l X.heap.size (MatchV W3.drew.heap.size W4.heap.size bR bL bK bT bF R vl c6 0 (upto:Int) d (qx xs key)) s Y Z
     (fun s'=> ∃vr,BoxAt Z nb 162 vr/\s'.tag nb=none/\RowsAt (fun b=>s'.tag b=none/\W4.heap.size+2<=b) Z vr (rows.take (k+1))/\RelSame s0 W2 s' Z):=
    ⟨s,a5,c2,RelBd.refl _ _,aS.mono (fun b _ h=>⟨wC,fun e=>by have:=(aF b e).2;omega⟩),_,b8,g2,bt,cO⟩
   clear b8 kZ aS az bt a5 c2 cO aF cd ba bg b2 aO a7 a8 bN dZ e3;refine hd3 ?_ hf b1 hZ;clear hf b1 hZ;intro d4 dc dK
   gi_wp2_with (gi_at_builtin;refine qck rfl _ _ _ rfl rfl rfl dc.o ?_)
   rw [dK.o];exact d4.o
  case done=>
   rintro D s W hD dw cC eL ⟨vr,h1,h2,h3,h4⟩ aZ dR;have c1:=h1.cell;have l1:=h1.lt;have b5:Keep (fun b=>b≠D) W (W.putObj D (.deferred none)):=Keep.putObj _ _ _ wE;obtain⟨e1,e2,e3⟩:=q30 (n0:=n0) aH.o hS ak.o (qft cK.o) ab.o (a2.o W1 (Keep.refl _ _)) k2 h4 aZ b5 dw wC;have ds:=k2.size;have b7:=e2.heap ag.o ⟨e3,wC⟩;have f2:=qb b7 0 _ rfl;have f3:=qg b7 0;simp only [zD]at f2;have dW:rows.take (qet n s0.ts d (qx xs key) 0 (upto:Int)).length=rows:=by rw [bw.o,zi]
   have ee:w.heap.size<=W4.heap.size:=by have:=k2.size;omega
   rw [dW]at h3;have az:RowsAt (fun b=>({g with tag:=qb8 g.tag S R s.tag}:Gh).free b/\w.heap.size<=b) ((W.putObj D (.deferred none)).setCell ⟨S,0,none⟩ (.int .i32 0)) vr rows:=by
    refine(h3.keep b5 (P':=fun b=>s.tag b=none/\W4.heap.size+2<=b) (fun b _ q=>⟨wC,q⟩)).keep (Keep.setCell (C:=fun b=>b≠S) _ _ _ wE) (fun b _ q=>⟨wC,⟨?_,?_⟩,wC⟩)
    ·show qb8 g.tag S R s.tag b=none;unfold qb8;rw [q.1];cases hT:g.tag b with
     |none=>rfl
     |some U=>have:=aH.o.lt b U hT;omega
    ·show g.held b=none;cases hT:g.held b with
     |none=>rfl
     |some o=>have:=qe (aH.o.hold b o hT);omega
   clear b7 e2 e3 b5 h1 h2 h3 h4 dR aZ;refine hd5 ?_ cC e1 az f2 f3;clear cC e1 az f2 f3;intro dg dO cz dA dP;gi_wp2;refine qhm dg.o (qez dA.o dP.o (qb9 (xo rfl _ _ _) ⟨_,vr,rfl,dO.o,rfl,rfl,?_⟩));rw [cJ.o];exact cz.o
end Go.Proofs
namespace Go.Proofs
open Go.RowKit Go.Ink R4
attribute [local go_sem] Oper.semAt_some
def Gh.with (g:Gh)(S:Nat)(c:List qk):Nat->Option (List qk):=fun b=>if b=S then some c else g.st b
def qd6 (tag:qdk)(S T MX M:Nat):qdk:=fun b=>if b=S then some (S,.box) else if b=T then some (S,.tab) else if b=MX then some (S,.nums) else if b=M then some (S,.rels) else tag b
theorem q31 {n0:Nat}{g:Gh}{w w':World}(p:GInv g w)(hK:wG w w'){S T MX M:Nat}(h1:w.heap.size<=S)(h2:w.heap.size<=T)(h3:w.heap.size<=MX)(h4:w.heap.size<=M)(hd:S≠T/\S≠MX/\S≠M/\T≠MX/\T≠M/\MX≠M)
  (v:w'.heap[S]?=some (.cells (qe9 T M 0).toArray 120 (0,0))) (l:TabAt w' T MX (.slice none 0 0) []) (hrel:qiu w' M []):
  GStep n0 g w {g with st:=g.with S [],tag:=qd6 g.tag S T MX M} w':=by
 obtain⟨d1,d2,Y,d4,d5,d6⟩:=hd;have tS:qd6 g.tag S T MX M S=some (S,.box):=by unfold qd6;rw [zI rfl]
 have tT:qd6 g.tag S T MX M T=some (S,.tab):=by unfold qd6;rw [zF (fun e=>d1 e.symm),zI rfl]
 have tX:qd6 g.tag S T MX M MX=some (S,.nums):=by unfold qd6;rw [zF (fun e=>d2 e.symm),zF (fun e=>d4 e.symm),zI rfl]
 have tM:qd6 g.tag S T MX M M=some (S,.rels):=by unfold qd6;rw [zF (fun e=>Y e.symm),zF (fun e=>d5 e.symm),zF (fun e=>d6 e.symm),zI rfl]
 have q: ∀b,b<w.heap.size->qd6 g.tag S T MX M b=g.tag b:=fun b d=>by unfold qd6;rw [zF wC,zF wC,zF wC,zF wC]
 have t: ∀b U,qd6 g.tag S T MX M b=some U->U.1=S∨g.tag b=some U:=fun b U d=>by
  unfold qd6 at d;split at d
  ·cases d;exact .inl rfl
  ·split at d
   ·cases d;exact .inl rfl
   ·split at d
    ·cases d;exact .inl rfl
    ·split at d
     ·cases d;exact .inl rfl
     ·exact .inr d
 have x: ∀b U,g.tag b≠some (S,U):=fun b U d=>by
  obtain⟨c,r⟩:=p.own b S U d;obtain⟨T',M',y,vx,xs,rl,z⟩:=p.store S c r;have:=qe z.box;omega
 have X:=hK.size;refine⟨hK.mt,fun S' c r=>⟨[],?_⟩,fun b d u=>⟨(q b d).trans u.1,u.2⟩,fun _ _=>rfl,?_⟩
 ·obtain⟨T',M',y,vx,xs,rl,z⟩:=p.store S' c r;have:=qe z.box;show g.with S [] S'=_;unfold Gh.with;rw [zF wC,yQ];exact r
 refine⟨fun S' c r=>?_,fun b S' U d=>?_,fun b U d=>?_,fun b o d=>hK.heap (p.hold b o d) wH,fun b o d=>(q b (qe (p.hold b o d))).trans (p.apart b o d),fun b S' R U d=>?_⟩
 ·have m:g.with S [] S'=some c:=r;clear r;unfold Gh.with at m;split at m
  ·rename_i e;subst e;injection m with m
   subst m;exact⟨T,M,MX,.slice none 0 0,[],[],tS,v,tT,l.tab,l.own,fun b d=>(by simp [Value.ownBlock] at d),tX,l.nums,tM,hrel,fun k R hk=>(by cases hk),wE,fun f u=>(by cases u),fun f s u=>(by cases u),nodup_nil,wE,wE⟩
  ·rename_i e;refine(p.store S' c m).keep hK (fun _ _ _=>wH) (fun b U=>⟨fun d=>?_,fun d=>?_⟩)
   ·rcases t b _ d with h |h
    ·exact absurd h e
    ·exact h
   ·show qd6 g.tag S T MX M b=some (S',U);rw [q b (p.lt b _ d)];exact d
 ·rcases t b _ d with h |h
  ·simp only at h;subst h;exact⟨[],by show g.with S' [] S'=_;unfold Gh.with;rw [zI rfl]⟩
  ·obtain⟨c,r⟩:=p.own b S' U h;by_cases e:S'=S
   ·subst e;exact absurd h (x b U)
   ·exact⟨c,by show g.with S [] S'=_;unfold Gh.with;rw [zF e];exact r⟩
 ·have d:qd6 g.tag S T MX M b=some U:=d;unfold qd6 at d;split at d
  ·rename_i e;subst e;exact qe v
  ·split at d
   ·rename_i e;subst e;exact qe l.tab
   ·split at d
    ·rename_i e;subst e;exact l.nums.lt
    ·split at d
     ·rename_i e;subst e;exact hrel.lt
     ·exact zk (p.lt b U d) X
 ·have d:qd6 g.tag S T MX M b=some (S',.rel R U):=d;unfold qd6 at d;split at d
  ·cases d
  ·split at d
   ·cases d
   ·split at d
    ·cases d
    ·split at d
     ·cases d
     ·exact zk (p.reln b S' R U d) X
theorem q32 {n0:Nat}{g:Gh}{w:World}(hg:GInv g w):Calls prog 30 #[] w fun e w'=> ∃S g',e=.returned (qi S)/\GStep n0 g w g' w'/\g'.st=g.with S []/\g'.held=g.held/\w.heap.size<=S:=by
 obtain⟨W0,l⟩:=ex (w.alloc (.cells #[.int .i32 0,.int .u32 0,.bool false,.pointer none,.map none,.int .i64 0] 120));have k0:wG w W0:=by rw [←l];exact kAl
 have z0:W0.heap.size=w.heap.size+1:=by rw [←l];simp
 have q0:W0.heap[w.heap.size]?=some (.cells #[.int .i32 0,.int .u32 0,.bool false,.pointer none,.map none,.int .i64 0] 120 (0,0)):=by rw [←l];exact qh _ _
 have aq:= @run_makeMap prog;obtain⟨S,hS⟩:=ex (w.heap.size);rw [hS]at q0;refine hd5 ?_ hg k0 q0 l hS;clear hg k0 q0 l hS;intro U ab af r c
 go_enter Tryz.func30,Tryz.ntmps30
 go_wp2_with fail;rw [r.o,c.o];refine(q0z W0).mono ?_;rintro e W1 ⟨T,MX,rfl,x,au,ao,aa,y⟩;obtain⟨M,Y⟩:=ex (W1.heap.size);have q1:=y.heap af.o trivial;have m:=(Keep.alloc (fun _=>True) W1 (.map #[] 0)).heap q1 trivial;have a2:=qb m 2 _ rfl;have a3:=qb m 3 _ rfl;have a4:=qb m 4 _ rfl;have f2:=qg m 2;have f3:=qg m 3;have f4:=qg m 4;have l2:=qe m;have v:qiu (W1.alloc (.map #[] 0)) M []:=by rw [←Y];exact qh7 W1
 have s:=x.keep (Keep.alloc (fun _=>True) W1 (.map #[] 0)) trivial trivial (fun _ _=>wH);have s1:=qag 2 (.bool true) m;have s2:=qag 3 (qi T) s1;have s3:=qag 4 (.map (some M)) s2;have z:Keep (fun b=>b≠S) (W1.alloc (.map #[] 0)) ((((W1.alloc (.map #[] 0)).setCell ⟨S,2,none⟩ (.bool true)).setCell ⟨S,3,none⟩ (qi T)).setCell ⟨S,4,none⟩ (.map (some M))):=((kSc).trans (kSc)).trans (kSc);have z1:=y.size;have t:=s.keep z (by have:=c.o;omega) (by have:=c.o;omega) (fun b R=>by simp [Value.ownBlock] at R);have u:=v.keep z (by have:=c.o;omega);have kk:wG w ((((W1.alloc (.map #[] 0)).setCell ⟨S,2,none⟩ (.bool true)).setCell ⟨S,3,none⟩ (qi T)).setCell ⟨S,4,none⟩ (.map (some M))):=
  (((ab.o.trans y).trans kAl).mono (C':=fun b=>b<w.heap.size) (fun _ _ _=>wH)).trans (z.mono fun b _ h=>by have:=c.o;omega) |>.mono (fun b R _=>R)
 have p:=q31 (n0:=n0) U.o kk (S:=S) (T:=T) (MX:=MX) (M:=M) (by have:=c.o;omega) wC wC wC ⟨by have:=c.o;omega,by have:=c.o;omega,by have:=c.o;omega,aa,by have:=qe x.tab;omega,by have:=x.nums.lt;omega⟩ (by simpa [qe9] using s3) t u;clear q1 m s1 s2 s3 z x s t v u kk y;refine hd2 ?_ p Y;clear p Y;intro q X;simp only [zD]at a2 a3 a4;go_wp2_with fail;have d:=q.o;rw [←X.o]at d;go_ret;exact⟨S,_,rfl,d,rfl,rfl,by have:=c.o;omega⟩
end Go.Proofs
namespace Go.Proofs
open Go.RowKit Go.Ink P16
attribute [local go_sem] Oper.semAt_some
theorem qv9 {gf:Nat}{bs lb:Array Value}(eg: ∀args w,(callFunc gf args).run prog w=.ok (.enter gf args) w)(p:ByteArray->Bool)(n0:Nat)(v:Value)(xs:List (ByteArray))(w:World)(hx:qac n0 w v xs)(hn:n0<=w.heap.size)
  (hf: ∀x,x∈xs-> ∀W,Keep (fun b=>b<w.heap.size) w W->Calls prog gf (bs.push (.string x)++lb) W fun e w'=>e=.returned (.bool (p x))/\Keep (fun b=>b<W.heap.size) W w'):
  Calls prog 91 #[v,.func (.func gf) bs lb] w fun e w'=>e=.returned (.int .i64 (qch p xs))/\Keep (fun b=>b<w.heap.size) w w':=by
 obtain⟨a,cap,rfl,ah,ad,u⟩:=id hx;refine hd2 ?_ u hf;clear u hf;intro y X
 go_enter Tryz.func91,Tryz.ntmps91
 go_wp2_with fail
 go_loopw [8] (fun i wr=> ∃k:Nat,k<=xs.length/\i=.int .i64 (k:Int)/\Keep (fun b=>b<w.heap.size) w wr/\(xs.take k).any p=false) (fun i _=>xs.length-(intOf i).toNat)
 case atStart=>exact⟨0,wC,rfl,Keep.refl _ _,rfl⟩
 case round=>
  obtain⟨k,hk,rfl,hK,c⟩:=hrel;have ao:=hK.size;by_cases U:k<xs.length
  ·have ab:(k:Int)<xs.length:=by omega
   have aj:(0:Int)<=k:=wC
   obtain⟨x,h⟩: ∃x,xs[k]?=some x:=⟨_,zB U⟩;obtain⟨b,o,rfl,hb,Y⟩:=y.o k x h;have am:b<wr.heap.size:=wC
   have l:=qkc p xs h;rw [c,xJ]at l;have z:=X.o x (zH h) wr hK;obtain⟨px,q⟩: ∃b,p x=b:=⟨_,rfl⟩;have d:=qgf p xs k x h c;rw [q]at l z d;unfold qgr at Y;have h0:=hK.cell Y (show b<w.heap.size from wC);simp only [yB] at h0;clear h Y;refine hd6 ?_ hK c l q z d;clear hK c l q z d;intro r R s ag aa g;go_wp2_with fail;refine aa.o.mono ?_;rintro e W1 ⟨rfl,k1⟩;have t:=r.o.trans (k1.mono fun b hb _=>wC);clear k1;refine hd1 ?_ t;clear t;intro m;cases px
   ·go_wp2_with fail;go_roundw
    case rel=>exact⟨k+1,wC,by go_num,m.o,s.o⟩
    case measure=>simp [intOf];omega
   ·go_wp2_with fail;go_ret;exact⟨by rw [g.o (by trivial)];rfl,m.o⟩
  ·obtain rfl:k=xs.length:=by omega
   rw [zi]at c;have d:=qge p xs c;refine hd2 ?_ hK d;clear hK d;intro r g;go_wp2_with fail;go_ret;exact⟨by rw [g.o];rfl,r.o⟩
theorem qwa {gf:Nat}{bs lb:Array Value}(y: ∀args w,(callFunc gf args).run prog w=.ok (.enter gf args) w)(p:ByteArray->Bool)(n0:Nat)(v:Value)(xs:List (ByteArray))(w:World)(r:qac n0 w v xs)(R:n0<=w.heap.size)
  (d: ∀x,x∈xs-> ∀W,Keep (fun b=>b<w.heap.size) w W->Calls prog gf (bs.push (.string x)++lb) W fun e w'=>e=.returned (.bool (p x))/\Keep (fun b=>b<W.heap.size) W w'):
  Calls prog 52 #[v,.func (.func gf) bs lb] w fun e w'=>e=.returned (.bool (xs.any p))/\Keep (fun b=>b<w.heap.size) w w':=by
 have hi:=qv9 y p n0 v xs w r R d;have q:=qf6 p xs;obtain⟨i,c⟩:=ex (qch p xs);rw [c]at hi q;obtain⟨a,cap,rfl,z,t,l⟩:=id r;clear l y;refine hd4 ?_ hi d q c;clear hi d q c;intro m U h s
 go_enter Tryz.func52,Tryz.ntmps52
 go_wp2_with fail;refine m.o.mono ?_;rintro e W1 ⟨rfl,u⟩;refine hd1 ?_ u;clear u;intro g;go_wp2_with fail;go_ret;exact⟨by rw [←h.o];rfl,g.o⟩
theorem q0w (s:ByteArray)(w:World):Calls prog 53 #[.string s] w fun e w'=>e=.returned (.bool (decide (1024<s.size)))/\w'=w:=by
 go_enter Tryz.func53,Tryz.ntmps53
 go_wp2_with fail;go_ret;refine⟨?_,rfl⟩;simp;omega
theorem qxu (n0:Nat)(v:Value)(xs:List ByteArray)(w:World)(c:qac n0 w v xs)(d:n0<=w.heap.size):
  Calls prog 52 #[v,.func (.func 53) #[] #[]] w fun e w'=>e=.returned (.bool (xs.any fun s=>decide (1024<s.size)))/\Keep (fun b=>b<w.heap.size) w w':=
 qwa (qdg Tryz.func53 wD rfl) (fun s=>decide (1024<s.size)) n0 v xs w c d (fun x _ W _=>(q0w x W).mono fun e w' h=>⟨h.1,by rw [h.2];exact Keep.refl _ _⟩)
end Go.Proofs
