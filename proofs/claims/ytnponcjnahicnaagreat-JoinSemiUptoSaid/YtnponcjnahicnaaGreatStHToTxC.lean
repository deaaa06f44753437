/- Parts of the proof. -/
import Derived.Test.YtnponcjnahicnaaGreatProg
import Derived.Test.YtnponcjnahicnaaGreatStGToStJ
import Derived.Test.YtnponcjnahicnaaGreatRelSToPlayD
import Derived.Test.YtnponcjnahicnaaGreatHoistToRowC
import Derived.Test.YtnponcjnahicnaaGreatHdToKp
import Derived.Test.YtnponcjnahicnaaGreatStAToStF
import Derived.Test.YtnponcjnahicnaaGreatTbAToTbD
import Derived.Test.YtnponcjnahicnaaGreatPnAToPnC
set_option linter.unusedSimpArgs false
set_option linter.unusedVariables false
open Go.Proofs.Tryz(prog)
open List(all_eq_true append_nil getD_eq_getElem?_getD getElem?_eq_getElem getElem?_map length_map length_take mem_of_getElem? nodup_nil take_add_one take_length take_zero)
namespace Go.Proofs
open Go.RowKit Go.Ink R4 Go.MuLone
attribute [local go_sem] Oper.semAt_some
set_option maxRecDepth 100000 in
set_option maxHeartbeats 4000000 in
theorem qwj {n0:Nat}{g:Gh}{w:World}(hg:GInv g w){S:Nat}{c:List ql}(hS:g.st S=some c)(p:ByteArray)(n:Nat)(hp:p.size<=1073741824)(hn:n<=1073741824)(m:Nat)(vc vk:Value)(cols:List Int)(key:List ByteArray)(upto:Nat)
  (hcols:qap m w vc cols) (hkey:qae m w vk key) (hm:m<=w.heap.size) (hsm: ∀s,s∈key->s.size<=1073741824) (hup:0<upto) (hul:upto<=(qo c p n).length) (hrow:qdo n cols=true) (hkl:key.length=cols.length):
  Calls prog 89 #[qj S,qdt (p,n),vc,vk,.int .i64 (upto:Int)] w fun e w'=> ∃g' v,e=.returned v/\GStep n0 g w g' w'/\g'.st=g.st/\g'.held=g.held/\RowsAt (fun b=>g'.free b/\w.heap.size<=b) w' v (qjb c p n cols key upto):=by
 obtain⟨T,M,MX,vx,xs,rl,hP⟩:=hg.store S c hS;obtain⟨N,hN⟩:=ex (w.heap.size);obtain⟨W0,hW0⟩:=ex ((w.alloc (.cells #[qj S] 37)).alloc (.cells #[.string p,.int .i64 (n:Int)] 122));have k0:Keep (fun _=>True) w W0:=by rw [←hW0];exact kAl.trans kAl
 have z0:W0.heap.size=w.heap.size+2:=by rw [←hW0];simp
 have p0:W0.heap[N]?=some (.cells #[qj S] 37 (0,0)):=by rw [←hW0,←hN];simp only [qah,World.size_alloc];simp
 have q0:W0.heap[N+1]?=some (.cells #[.string p,.int .i64 (n:Int)] 122 (0,0)):=by rw [←hW0,←hN];simp only [qah,World.size_alloc];simp
 have hP0:=hP.keep (tag':=g.tag) k0 (fun _ _ _=>trivial) (fun _ _=>Iff.rfl);have a0:=qb hP0.box 0 _ rfl;have f0:=qf hP0.box 0;have hSl:=qe hP0.box;have hSw:=qe hP.box;obtain⟨W1,hW1⟩:=ex (W0.setCell ⟨S,0,none⟩ (.int .i32 1));have k1:Keep (fun b=>b≠S) W0 W1:=by rw [←hW1];exact kSc
 have z1:W1.heap.size=W0.heap.size:=by rw [←hW1];simp
 have box1:=q8 0 (.int .i32 1) hP0.box;rw [hW1]at box1;have hNS:N≠S:=by omega
 have hNS1:N+1≠S:=by omega
 have p1:=k1.heap p0 hNS;have q1:=k1.heap q0 hNS1;have hMS:M≠S:=fun e=>by have:=hP0.tagM;rw [e,hP0.tagS] at this;cases this
 have hrel1:=hP0.rels.keep k1 hMS;have htab1:TabAt W1 T MX vx xs:=hP0.table.keep k1 (fun e=>by have:=hP0.tagT;rw [e,hP0.tagS] at this;cases this) (fun e=>by have:=hP0.tagN;rw [e,hP0.tagS] at this;cases this) (fun b hb e=>by have:=hP0.tagx b hb;rw [e,hP0.tagS] at this;cases this);have hnone:=qh8 hP0.box;have hlock:=lock_free qhd ⟨S,0,none⟩ W0 (by simpa using a0) f0;rw [hW1]at hlock;have hfin: ∀W,Keep (fun _=>True) W1 W->W.cell? ⟨S,0,none⟩=some (.int .i32 1)/\W.frozen? ⟨S,0,none⟩=false:=fun W hK=>
  ⟨by have:=qb (hK.heap box1 trivial) 0 _ rfl;simpa using this,qf (hK.heap box1 trivial) 0⟩
 have hk1:qae m W1 vk key:=(qng hkey k0).mono (fun b o s _ hs=>k1.cell hs (fun e=>qu3 hP0.box (by rw [show b=S from e] at hs;exact hs)));have hc1:qap m W1 vc cols:=hcols.mono fun b o x _ hx=>by
  have hx0:W0.cell? ⟨b,o,none⟩=some (.int .i64 x):=k0.cell hx trivial;show W1.cell? ⟨b,o,none⟩=some (.int .i64 x);rw [←hW1];refine(World.cell?_setCell_other _ _ _ _ (fun e=>?_)).trans hx0;cases e;have h0:W0.cell? ⟨S,0,none⟩=some (.int .i32 0):=by simpa using a0
  rw [h0]at hx0;cases hx0
 have a3:=qb box1 3 _ rfl;have hnum:=qmh (by simpa using a3) htab1 m vk key hk1 (by omega) hsm;have hin: ∀u s,u∈qo c p n->s∈u->s∈xs:=fun u s hu hs=>hP.texts _ s (qay.1 hu).1 hs;have b0:=qb p1 0 _ rfl;have b00:=qb p0 0 _ rfl;have hN1:=qe p1;have hN0:=qe p0;have hS1:=qe box1;have hup0: ¬((upto:Int)=0):=by omega
 simp only [Nat.zero_add]at a0 b0 b00;have hunl: ∀W,Keep (fun _=>True) W1 W->Keep (fun _=>True) w (W.setCell ⟨S,0,none⟩ (.int .i32 0)):=fun W hK=>k0.trans (qix hP0.box (by rw [hW1];exact hK));clear a3 htab1 hk1;unfold qdt;refine qc5 ?_ hc1 hg hP hP0 k0 hW0 p0 q0 k1 box1 p1 q1 hrel1 hnone hlock hfin;clear hc1 hg hP hP0 k0 hW0 p0 q0 k1 box1 p1 q1 hrel1 hnone hlock hfin;intro Xhc1 Xhg XhP XhP0 Xk0 XhW0 Xp0 Xq0 Xk1 Xbox1 Xp1 Xq1 Xhrel1 Xhnone Xhlock Xhfin;refine hd9 ?_ hnum hin hcols hkey hsm hrow hkl hul hunl;clear hnum hin hcols hkey hsm hrow hkl hul hunl;intro Xhnum Xhin Xhcols Xhkey Xhsm Xhrow Xhkl Xhul Xhunl;refine qfu Tryz.func89 rfl ?_;simp only [Tryz.ntmps89,qdz,Nat.reduceAdd,Nat.reduceSub];gi_wp2;rw [XhW0.o];refine⟨trivial,rfl,(callsIn_wide.2 Xhnone.o).mono ?_⟩;rintro e w9 ⟨rfl,hw9⟩;have hw9:=hw9.symm;subst hw9;gi_wp2;refine⟨trivial,rfl,(callsIn_wide.2 Xhlock.o).mono ?_⟩;rintro e w9 ⟨rfl,hw9⟩;have hw9:=hw9.symm;subst hw9;gi_wp2;refine⟨trivial,rfl,(callsIn_wide.2 Xhnum.o).mono ?_⟩;rintro e W2 ⟨vo,rfl,ho,hno,k2⟩;cases hall:(key.all fun s=>decide (s∈xs)) with
 |false=>
  have hrn:=q2i (upto:=upto) Xhin.o Xhkl.o hall;obtain⟨hf2,hf3⟩:=Xhfin.o W2 k2;have hu2:=Xhunl.o W2 k2;clear k2 ho hno hall;refine hd2 ?_ hrn hu2;clear hrn hu2;intro Xhrn Xhu2;gi_wp2;refine qej hf2 hf3 (qbx (results_tmp rfl _ _ _) ⟨g,.slice none 0 0,rfl,GStep.own Xhg.o Xhu2.o,rfl,rfl,?_⟩);rw [Xhrn.o];exact qu4 _
 |true=>
  have hka: ∀s,s∈key->s∈xs:=fun s hs=>of_decide_eq_true (all_eq_true.1 hall s hs);have ho:=ho hall;obtain⟨R,hlk⟩: ∃R,qc1 rl (p,n)=some R:=by
   cases e:qc1 rl (p,n) with
   |some R=>exact⟨R,rfl⟩
   |none=>
    have:=ql7 XhP.o e;have h2:=Xhul.o;rw [this]at h2;simp at h2;omega
  obtain⟨vD,Pp,Km,lm,hR⟩:=XhP0.o.rel _ _ (qfd hlk);simp only at hR;have hRS:R≠S:=fun e=>by have:=XhP0.o.rel_at (qfd hlk);rw [e,XhP0.o.tagS] at this;cases this
  obtain⟨W3,hW3⟩:=ex (W2.alloc (.cells #[.slice none 0 0] 162));obtain⟨nb,hnb⟩:=ex (W2.heap.size);have k3:Keep (fun _=>True) W2 W3:=by rw [←hW3];exact kAl
  have b3:BoxAt W3 nb 162 (.slice none 0 0):=by rw [←hW3,←hnb];exact qh _ _
  have kd:Keep (fun _=>True) W1 W3.drew:=(k2.trans k3).trans kDr;have bd:BoxAt W3.drew nb 162 (.slice none 0 0):=b3.keep (Keep.drew (fun _=>True) _) trivial;have kd2:Keep (fun _=>True) W2 W3.drew:=k3.trans kDr;have od:=qg ho kd2 (fun _ _=>trivial);have hRd:qb6 (qa1 g.tag S R) W3.drew R n ((qo c p n).map (qr xs)) vD Pp Km lm:=(hR.keep Xk1.o (fun b U hb _ e=>by have:=qaa.1 hb;rw [e,XhP0.o.tagS] at this;cases this)).keep kd (fun _ _ _ _=>trivial);obtain⟨s0,hs0⟩: ∃s0:qeo,s0=⟨qa1 g.tag S R,(qo c p n).map (qr xs),vD,lm⟩:=⟨_,rfl⟩;have hinvd:RelInv R n Pp Km s0 W3.drew:=by
   rw [hs0];exact⟨hRd,by simp only [length_map];have:=qjo c p n;have:=XhP.o.few;omega⟩
  have hlkd:=qd1 (P:=prog) Tryz.underlying116 qj5 qiw ql6 (Xhrel1.o.keep kd trivial) (p,n) (qj6 hp hn) false;simp only [hlk,Bool.false_eq_true,if_false]at hlkd;unfold qdt at hlkd;have e1:=qb (kd.heap Xp1.o trivial) 0 _ rfl;have e2:=qb (kd.heap Xq1.o trivial) 0 _ rfl;have e3:=qb (kd.heap Xq1.o trivial) 1 _ rfl;have e4:=qb (kd.heap Xbox1.o trivial) 4 _ rfl;simp only [Nat.zero_add]at e1 e2 e3 e4;have hNd:=qe (kd.heap Xp1.o trivial);have hNd1:=qe (kd.heap Xq1.o trivial);have hSd:=qe (kd.heap Xbox1.o trivial);have hcd:qap W3.drew.heap.size W3.drew vc cols:=SliceIn.wider Xhc1.o (by have:=kd.size;omega) (fun b o x _ hx=>kd.cell hx trivial);have hkl2:=Xhkl.o;have hkx:key.length<=1073741824:=by
   obtain⟨_,_,_,h,_⟩:=Xhkey.o;exact h
  have hcx:cols.length<=1073741824:=by omega
  have hkd:qap W3.drew.heap.size W3.drew vo (qr xs key):=by
   have od':=od;rw [←qdf xs key]at od';exact qd8 od' (by rw [qdf];exact hkx)
  have hmt:=qun W3.drew R W3.drew.heap.size vc vo cols (qr xs key) 0 (upto:Int) hcd hkd (Nat.le_refl _);clear hall hRS hRd hR b3 k3 ho hno;have hS0:=And.intro e1 (And.intro e2 (And.intro e3 e4));clear e1 e2 e3 e4;refine qoh ?_ hka hlk hW3 bd kd kd2 od hinvd hs0 hcd hkd hmt hS0;clear hka hlk hW3 bd kd kd2 od hinvd hs0 hcd hkd hmt hS0;intro Xhka Xhlk XhW3 Xbd Xkd Xkd2 Xod Xhinvd Xhs0 Xhcd Xhkd Xhmt XhS0;gi_wp2;rw [XhW3.o];refine qab ?_;refine wpIn_wide.2 ?_;refine qc7 rfl (fun W=>W.cell? ⟨N,0,none⟩=some (qj S)/\W.cell? ⟨N+1,0,none⟩=some (.string p)/\W.cell? ⟨N+1,1,none⟩=some (.int .i64 (n:Int))/\W.cell? ⟨S,4,none⟩=some (.map (some M))) [] ?_;refine qam [0,1,2,3,4,5,7,8,9] ?_
  iterate 9
   refine tkN (v:=?_) rfl XhS0.o ?_ ?_;rotate_left
   ·rintro Wq ⟨x0,x1,x2,x3⟩;go_simp
    try with_reducible rfl
   try simp only [qan]
  refine qu ?_;refine Ink.ho 6 rfl fun K XhK0=>?_;go_wp2_with fail;refine XhK0.o _ _ (fun _=>XhS0.o) ?_;refine Ink.ho 10 rfl fun K XhK1=>?_;go_wp2_with fail;refine Xhmt.o.mono ?_;rintro e W4 ⟨bR,bL,bK,bT,bF,vl,vk',rfl,k4,hV4⟩;have hS4:W4.cell? ⟨N,0,none⟩=some (qj S)/\W4.cell? ⟨N+1,0,none⟩=some (.string p)/\W4.cell? ⟨N+1,1,none⟩=some (.int .i64 (n:Int))/\W4.cell? ⟨S,4,none⟩=some (.map (some M)):=by
   obtain⟨s1,s2,s3,s4⟩:=XhS0.o;exact⟨k4.cell s1 trivial,k4.cell s2 trivial,k4.cell s3 trivial,k4.cell s4 trivial⟩
  refine hd3 ?_ hS4 k4 hV4;clear hS4 k4 hV4;intro XhS4 Xk4 XhV4;go_wp2_with fail;refine XhK1.o _ _ (fun _=>XhS4.o) ?_;refine qee (by kernel_rfl) (qm ?_);clear XhK0 XhK1;gi_wp2;have hrows:=qzf (upto:=upto) Xhin.o Xhka.o Xhrow.o Xhkl.o;obtain⟨rows,hrw⟩:=ex (qjb c p n cols key upto);rw [hrw]at hrows;have hxl:=XhP.o.xl;have hok:=qnv Xhka.o hxl;have z4:=Xk4.o.size;have zd:W3.drew.heap.size=W3.heap.size:=by simp
  have z3:=Xkd2.o.size;have hinv4:=Xhinvd.o.keep (Xk4.o.mono fun _ _ _=>trivial);have hfree: ∀b,nb<=b->s0.tag b=none:=fun b hb=>by
   cases hT:s0.tag b with
   |none=>rfl
   |some U=>
    exfalso;rw [Xhs0.o]at hT;have h1:=Xhg.o.lt b _ (qaa.1 hT);have h2:=k2.size;omega
  have hfd: ∀b,W3.drew.heap.size<=b->s0.tag b=none:=fun b hb=>hfree b (by omega);have hsame4:RelSame s0 W2 s0 W4:=(RelSame.refl s0 W2).keepOn (Xkd2.o.trans Xk4.o) (fun _ _ _=>trivial);have b4:=Xbd.o.keep Xk4.o trivial;have hnb4:=b4.lt;have hN0:(qec n s0.ts cols (qr xs key) 0 (upto:Int)).length=rows.length:=by
   rw [Xhs0.o,←hrows,length_map]
  have hkx2:(qr xs key).length<=1073741824:=by rw [qdf];exact hkx
  refine hd9 ?_ hrows hrw hok hinv4 hfree hfd hsame4 b4 hN0;clear hrows hrw hok hinv4 hfree hfd hsame4 b4 hN0;intro Xhrows Xhrw Xhok Xhinv4 Xhfree Xhfd Xhsame4 Xb4 XhN0;refine qm1 (qe5 R n Pp Km) s0 (gf:=152) (lb:= #[.pointer (some ⟨bR,0,none⟩),.pointer (some ⟨bL,0,none⟩),.pointer (some ⟨bK,0,none⟩),.pointer (some ⟨bT,0,none⟩),.pointer (some ⟨bF,0,none⟩)]) rfl (qc6 Tryz.func152 (by kernel_rfl) rfl)
   (qsl R n Pp Km W3.drew.heap.size W4.heap.size bR bL bK bT bF vl vk' 0 (upto:Int) cols (qr xs key) Xhok.o hcx hkx2) (fun b hb=>Xhfd.o b hb.1)
   (fun γ0 k γ n X args h=>by obtain⟨i,t,_,_,v,rfl,_⟩:=h;rfl) Xhinv4.o (fun b hb=>Xhfree.o b (by omega)) XhV4.o (fun X Y hV hK=>hV.keep hK (fun b h1 h2=>h2))
   (fun k s X=> ∃vr,BoxAt X nb 162 vr/\s.tag nb=none/\RowsAt (fun b=>s.tag b=none/\W4.heap.size+2<=b) X vr (rows.take k)/\RelSame s0 W2 s X) (fun c k s X=>False) ?hI ?hIx ?hIs ?hIxs ?h0 ?round ?done ?stop
  case hI=>
   rintro k s X Y ⟨vr,h1,h2,h3,h4⟩ hK;exact⟨vr,h1.keep hK (.inl (by omega)),h2,h3.keep hK (fun b _ hb=>⟨.inr hb.2,hb⟩),h4.keepOn hK (fun b hb _=>.inl (by omega))⟩
  case hIx=>rintro c k s X Y h;exact h.elim
  case hIs=>
   rintro k s X s' Y ⟨vr,h1,h2,h3,h4⟩ hs;exact⟨vr,h1.keep ((qe5 R n Pp Km).ifree hs) h2,(qe5 R n Pp Km).inew hs nb h1.lt h2,h3.keep ((qe5 R n Pp Km).ifree hs) (fun b hb hP=>⟨hP.1,(qe5 R n Pp Km).inew hs b hb hP.1,hP.2⟩),h4.it hs⟩
  case hIxs=>rintro c k s X s' Y h;exact h.elim
  case h0=>exact⟨_,Xb4.o,Xhfree.o nb (Nat.le_refl _),by rw [take_zero];exact qu4 _,Xhsame4.o⟩
  case stop=>rintro D c k s W _ _ _ _ _ h;exact h.elim
  case round=>
   rintro l k s X0 X args hBl hlX hfl hk ⟨vr,h1,h2,h3,h4⟩ hs hinvX hVX hsz hA;obtain⟨i,t,hi1,hi2,v',rfl,hv1,hv2⟩:=hA;have g1:=h1.keep ((qe5 R n Pp Km).ifree hs) h2;have g2:s.tag nb=none:=(qe5 R n Pp Km).inew hs nb h1.lt h2;have g3:RowsAt (fun b=>s.tag b=none/\W4.heap.size+2<=b) X vr (rows.take k):=h3.keep ((qe5 R n Pp Km).ifree hs) (fun b hb hP=>⟨hP.1,(qe5 R n Pp Km).inew hs b hb hP.1,hP.2⟩);have g4:=h4.it hs;have hXz:X0.heap.size<=X.heap.size:=((qe5 R n Pp Km).ifree hs).size;obtain⟨u,hu,htu,hru⟩: ∃u,u∈qo c p n/\t=qr xs u/\rows[k]?=some u:=by
    rw [Xhs0.o]at hi1 hi2;simp only at hi1 hi2;rw [getElem?_map]at hi2;cases hx:(qo c p n)[i]? with
    |none=>rw [hx] at hi2;cases hi2
    |some u=>
     rw [hx]at hi2;refine⟨u,mem_of_getElem? hx,(Option.some.inj hi2).symm,?_⟩;rw [←Xhrows.o,getElem?_map,hi1,Option.map_some,getD_eq_getElem?_getD,hx]
     rfl
   subst htu;rw [qdf]at hv1 hv2;clear hi1 hi2 h1 h2 h3 h4 hk;refine qd9 ?_ hs hinvX hVX hfl hv1 g3 g4 hru g1 hu;clear hs hinvX hVX hfl hv1 g3 g4 hru g1 hu;intro Xhs XhinvX XhVX Xhfl Xhv1 Xg3 Xg4 Xhru Xg1 Xhu;gi_wp2;refine⟨Keep.refl _ _,fun Y hY hYs hYl=>?_⟩;have kY:Keep (fun b=>s0.tag b=none/\b<W2.heap.size) W1 Y:=((k2.mono fun _ _ _=>trivial).trans Xg4.o.keep).trans (hY.mono fun b _ h e=>by omega);have tS:s0.tag S=none:=by
    cases hT:s0.tag S with
    |none=>rfl
    |some U=>rw [Xhs0.o] at hT;have:=qaa.1 hT;rw [XhP.o.tagS] at this;cases this
   have tO: ∀b U,g.tag b=some (S,U)->(∀V,U≠.rel R V)->s0.tag b=none:=fun b U hb hU=>by
    cases hT:s0.tag b with
    |none=>rfl
    |some V=>rw [Xhs0.o] at hT;have:=qaa.1 hT;rw [hb] at this;cases this;exact absurd rfl (hU V)
   have tN:s0.tag N=none:=by
    cases hT:s0.tag N with
    |none=>rfl
    |some U=>rw [Xhs0.o] at hT;have:=Xhg.o.lt _ _ (qaa.1 hT);omega
   have z12:=k2.size;have pY:=kY.heap Xp1.o ⟨tN,by omega⟩;have sY:=kY.heap Xbox1.o ⟨tS,by omega⟩;have y1:=qb pY 0 _ rfl;have y2:=qb sY 3 _ rfl;simp only [Nat.zero_add]at y1 y2;have hNY:=qe pY;have hSY:=qe sY;have hTY:TabAt Y T MX vx xs:=by
    have ht1:TabAt W1 T MX vx xs:=XhP0.o.table.keep Xk1.o (fun e=>by have:=XhP0.o.tagT;rw [e,XhP0.o.tagS] at this;cases this) (fun e=>by have:=XhP0.o.tagN;rw [e,XhP0.o.tagS] at this;cases this) (fun b hb e=>by have:=XhP0.o.tagx b hb;rw [e,XhP0.o.tagS] at this;cases this);exact ht1.keep kY ⟨tO _ _ XhP.o.tagT (fun V e=>by cases e),by have:=qe ht1.tab;omega⟩ ⟨tO _ _ XhP.o.tagN (fun V e=>by cases e),by have:=ht1.nums.lt;omega⟩ (fun b hb=>⟨tO _ _ (XhP.o.tagx b hb) (fun V e=>by cases e),by have:=(World.ownsRow.lt ht1.own b hb).2;omega⟩)
   have hvY:=qg Xhv1.o hY (fun b hb e=>by have:=(World.ownsRow.lt Xhv1.o b hb).1;omega);have hvY2:=hvY;rw [←qdf xs u]at hvY2;have htx:=qvd hTY Y.heap.size v' u (fun s hs=>Xhin.o u s Xhu.o hs) (qd8 hvY2 (by rw [qdf];exact hv2)) (Nat.le_refl _) hxl;obtain⟨av,cv,rfl⟩:=qi hvY;clear hvY hvY2 hTY kY pY sY;refine hd2 ?_ hY htx;clear hY htx;intro XhY Xhtx;gi_wp2;refine⟨trivial,rfl,(CallsIn.inRound l (callsIn_wide.2 Xhtx.o)).mono ?_⟩;rintro e Y2 ⟨vu,rfl,hou,kY2⟩;have zY:=XhY.o.size;have zY2:=kY2.size;have hl1:l=W4.heap.size+1:=Xhfl.o.2.2;obtain⟨au,cu,rfl⟩:=qi hou;have gY1:=(Xg1.o.keep XhY.o (by omega)).keep kY2 trivial;have gY3:=(Xg3.o.keep XhY.o (P':=fun b=>s.tag b=none/\W4.heap.size+2<=b) (fun b _ hb=>⟨by omega,hb⟩)).keep kY2 (P':=fun b=>s.tag b=none/\W4.heap.size+2<=b) (fun b _ hb=>⟨trivial,hb⟩);have hkl3:(rows.take k).length=k:=by rw [length_take];exact Nat.min_eq_left (by have:=(List.getElem?_eq_some_iff.1 Xhru.o).1;omega)
   have hkb:k<=67108864:=by
    have h1:=(List.getElem?_eq_some_iff.1 Xhru.o).1;have h2:=qye n s0.ts cols (qr xs key) 0 (upto:Int);have h3:=Xhinvd.o.few;rw [XhN0.o]at h2;omega
   have hnew: ∀b,X.heap.size<=b->s.tag b=none:=fun b hb=>by
    cases hT:s.tag b with
    |none=>rfl
    |some U=>have:=XhinvX.o.own.lt b U hT;omega
   obtain⟨ar,cr,gb,cap,Y3,hvr,hr3,hro,hk3⟩:=gY3.snoc hou (fun b hb=>⟨hnew b (by have:=(World.ownsRow.lt hou b hb).1;omega),by have:=(World.ownsRow.lt hou b hb).1;omega⟩) (by omega) (fun b hb=>⟨hnew b (by omega),by omega⟩);have hvo: ∀b,vr.ownBlock=some b->s.tag b=none/\W4.heap.size+2<=b:=by
    obtain⟨_,_,_,h,_⟩:=gY3;exact h
   have bY3:=gY1.keep hk3 (fun e=>by have:=(hvo nb e).2;omega);have e3:rows.take k++ [u]=rows.take (k+1):=by rw [take_add_one,Xhru.o];rfl
   rw [e3]at hro;rw [hkl3]at hvr hr3 hro;subst hvr;have cY1:=gY1.cell;have lY1:=gY1.lt;have cY3:=bY3.cell;have fY3:=qf bY3 0;have lY3:=bY3.lt;have hbX:=qgu (.slice (some ⟨gb,0,none⟩) (k+1) cap) bY3;obtain⟨Z,hZ⟩:=ex (Y3.setCell ⟨nb,0,none⟩ (.slice (some ⟨gb,0,none⟩) (k+1) cap));have kZ:Keep (fun b=>b≠nb) Y3 Z:=by rw [←hZ];exact kSc
   rw [hZ]at hbX;have kYZ:Keep (fun b=>b≠nb/\(Value.slice ar k cr).ownBlock≠some b) Y Z:=((kY2.mono fun _ _ _=>trivial).trans (hk3.mono fun b _ h=>h.2)).trans (kZ.mono fun b _ h=>h.1);have hroZ:=hro.keep kZ (P':=fun b=>s.tag b=none/\W4.heap.size+2<=b) (fun b _ hb=>⟨by omega,hb⟩);have hinvZ:=(qe5 R n Pp Km).invk ((qe5 R n Pp Km).invk XhinvX.o (XhY.o.mono fun b _ h e=>by subst e;exact h Xhfl.o.1)) (kYZ.mono fun b _ h=>⟨fun e=>by subst e;exact h g2,fun e=>h (hvo b e).1⟩);have hnbd:nb<W3.heap.size:=by have:=Xbd.o.lt;simpa using this
   have hVZ:=(XhVX.o.keep XhY.o (fun b h1 h2=>by omega)).keep kYZ (fun b h1 h2=>⟨by have h3:W3.heap.size<=b:=(by simpa using h1);omega,fun e=>by have:=(hvo b e).2;omega⟩);have hsZ:=(Xg4.o.keepOn XhY.o (fun b hb _=>by omega)).keepOn kYZ (fun b hb _=>⟨by omega,fun e=>by have:=(hvo b e).2;omega⟩);have hf:qfa (qe5 R n Pp Km) W4.heap.size l X.heap.size (MatchV W3.drew.heap.size W4.heap.size bR bL bK bT bF R vl vk' 0 (upto:Int) cols (qr xs key)) s Y Z
     (fun s'=> ∃vr,BoxAt Z nb 162 vr/\s'.tag nb=none/\RowsAt (fun b=>s'.tag b=none/\W4.heap.size+2<=b) Z vr (rows.take (k+1))/\RelSame s0 W2 s' Z):=
    ⟨s,hinvZ,hVZ,RelBd.refl _ _,kYZ.mono (fun b _ h=>⟨by omega,fun e=>by have:=(hvo b e).2;omega⟩),_,hbX,g2,hroZ,hsZ⟩
   clear hbX kZ kYZ hro hroZ hinvZ hVZ hsZ hvo hk3 hou gY1 gY3 kY2 bY3 hnew hkl3 hkb e3;refine hd3 ?_ hf hr3 hZ;clear hf hr3 hZ;intro Xhf Xhr3 XhZ
   gi_wp2_with (gi_at_builtin;refine qch rfl _ _ _ rfl rfl rfl Xhr3.o ?_)
   rw [XhZ.o];exact Xhf.o
  case done=>
   rintro D s W hD hfD hWD hsd ⟨vr,h1,h2,h3,h4⟩ hinvW hVW;have c1:=h1.cell;have l1:=h1.lt;have hkD:Keep (fun b=>b≠D) W (W.putObj D (.deferred none)):=Keep.putObj _ _ _ (by simp);obtain⟨e1,e2,e3⟩:=q2l (n0:=n0) Xhg.o hS XhP.o (qfd Xhlk.o) Xhs0.o (Xhunl.o W1 (Keep.refl _ _)) k2 h4 hinvW hkD hfD (by omega);have z12:=k2.size;have hbx:=e2.heap Xbox1.o ⟨e3,by omega⟩;have f2:=qb hbx 0 _ rfl;have f3:=qf hbx 0;simp only [Nat.zero_add]at f2;have hrN:rows.take (qec n s0.ts cols (qr xs key) 0 (upto:Int)).length=rows:=by rw [XhN0.o,take_length]
   have hlen:w.heap.size<=W4.heap.size:=by have:=k2.size;omega
   rw [hrN]at h3;have hro:RowsAt (fun b=>({g with tag:=qbv g.tag S R s.tag}:Gh).free b/\w.heap.size<=b) ((W.putObj D (.deferred none)).setCell ⟨S,0,none⟩ (.int .i32 0)) vr rows:=by
    refine(h3.keep hkD (P':=fun b=>s.tag b=none/\W4.heap.size+2<=b) (fun b _ hb=>⟨by omega,hb⟩)).keep (Keep.setCell (C:=fun b=>b≠S) _ _ _ (by simp)) (fun b _ hb=>⟨by omega,⟨?_,?_⟩,by omega⟩)
    ·show qbv g.tag S R s.tag b=none;unfold qbv;rw [hb.1];cases hT:g.tag b with
     |none=>rfl
     |some U=>have:=Xhg.o.lt b U hT;omega
    ·show g.held b=none;cases hT:g.held b with
     |none=>rfl
     |some o=>have:=qe (Xhg.o.hold b o hT);omega
   clear hbx e2 e3 hkD h1 h2 h3 h4 hVW hinvW;refine hd5 ?_ hWD e1 hro f2 f3;clear hWD e1 hro f2 f3;intro XhWD Xe1 Xhro Xf2 Xf3;gi_wp2;refine qg7 XhWD.o (qej Xf2.o Xf3.o (qbx (results_tmp rfl _ _ _) ⟨_,vr,rfl,Xe1.o,rfl,rfl,?_⟩));rw [Xhrw.o];exact Xhro.o
end Go.Proofs
namespace Go.Proofs
open Go.RowKit Go.Ink R4
attribute [local go_sem] Oper.semAt_some
def Gh.with (g:Gh)(S:Nat)(c:List ql):Nat->Option (List ql):=fun b=>if b=S then some c else g.st b
def qdm (tag:qct)(S T MX M:Nat):qct:=fun b=>if b=S then some (S,.box) else if b=T then some (S,.tab) else if b=MX then some (S,.nums) else if b=M then some (S,.rels) else tag b
theorem q2m {n0:Nat}{g:Gh}{w w':World}(hg:GInv g w)(hK:Keep (fun _=>True) w w'){S T MX M:Nat}(h1:w.heap.size<=S)(h2:w.heap.size<=T)(h3:w.heap.size<=MX)(h4:w.heap.size<=M)(hd:S≠T/\S≠MX/\S≠M/\T≠MX/\T≠M/\MX≠M)
  (box:w'.heap[S]?=some (.cells (qex T M 0).toArray 120 (0,0))) (htab:TabAt w' T MX (.slice none 0 0) []) (hrel:qh7 w' M []):
  GStep n0 g w {g with st:=g.with S [],tag:=qdm g.tag S T MX M} w':=by
 obtain⟨d1,d2,d3,d4,d5,d6⟩:=hd;have tS:qdm g.tag S T MX M S=some (S,.box):=by unfold qdm;rw [if_pos rfl]
 have tT:qdm g.tag S T MX M T=some (S,.tab):=by unfold qdm;rw [if_neg (fun e=>d1 e.symm),if_pos rfl]
 have tX:qdm g.tag S T MX M MX=some (S,.nums):=by unfold qdm;rw [if_neg (fun e=>d2 e.symm),if_neg (fun e=>d4 e.symm),if_pos rfl]
 have tM:qdm g.tag S T MX M M=some (S,.rels):=by unfold qdm;rw [if_neg (fun e=>d3 e.symm),if_neg (fun e=>d5 e.symm),if_neg (fun e=>d6 e.symm),if_pos rfl]
 have told: ∀b,b<w.heap.size->qdm g.tag S T MX M b=g.tag b:=fun b hb=>by unfold qdm;rw [if_neg (by omega),if_neg (by omega),if_neg (by omega),if_neg (by omega)]
 have tnew: ∀b U,qdm g.tag S T MX M b=some U->U.1=S∨g.tag b=some U:=fun b U hb=>by
  unfold qdm at hb;split at hb
  ·cases hb;exact .inl rfl
  ·split at hb
   ·cases hb;exact .inl rfl
   ·split at hb
    ·cases hb;exact .inl rfl
    ·split at hb
     ·cases hb;exact .inl rfl
     ·exact .inr hb
 have hnS: ∀b U,g.tag b≠some (S,U):=fun b U hb=>by
  obtain⟨c,hc⟩:=hg.own b S U hb;obtain⟨T',M',MX',vx,xs,rl,hP⟩:=hg.store S c hc;have:=qe hP.box;omega
 have zK:=hK.size;refine⟨hK.mono fun _ _ _=>trivial,fun S' c hc=>⟨[],?_⟩,fun b hb hf=>⟨(told b hb).trans hf.1,hf.2⟩,fun _ _=>rfl,?_⟩
 ·obtain⟨T',M',MX',vx,xs,rl,hP⟩:=hg.store S' c hc;have:=qe hP.box;show g.with S [] S'=_;unfold Gh.with;rw [if_neg (by omega),append_nil];exact hc
 refine⟨fun S' c hc=>?_,fun b S' U hb=>?_,fun b U hb=>?_,fun b o hb=>hK.heap (hg.hold b o hb) trivial,fun b o hb=>(told b (qe (hg.hold b o hb))).trans (hg.apart b o hb),fun b S' R U hb=>?_⟩
 ·have hc2:g.with S [] S'=some c:=hc;clear hc;unfold Gh.with at hc2;split at hc2
  ·rename_i e;subst e;injection hc2 with hc2
   subst hc2;exact⟨T,M,MX,.slice none 0 0,[],[],tS,box,tT,htab.tab,htab.own,fun b hb=>(by simp [Value.ownBlock] at hb),tX,htab.nums,tM,hrel,fun k R hk=>(by cases hk),by simp,fun f hf=>(by cases hf),fun f s hf=>(by cases hf),nodup_nil,by simp,by simp⟩
  ·rename_i e;refine(hg.store S' c hc2).keep hK (fun _ _ _=>trivial) (fun b U=>⟨fun hb=>?_,fun hb=>?_⟩)
   ·rcases tnew b _ hb with h |h
    ·exact absurd h e
    ·exact h
   ·show qdm g.tag S T MX M b=some (S',U);rw [told b (hg.lt b _ hb)];exact hb
 ·rcases tnew b _ hb with h |h
  ·simp only at h;subst h;exact⟨[],by show g.with S' [] S'=_;unfold Gh.with;rw [if_pos rfl]⟩
  ·obtain⟨c,hc⟩:=hg.own b S' U h;by_cases e:S'=S
   ·subst e;exact absurd h (hnS b U)
   ·exact⟨c,by show g.with S [] S'=_;unfold Gh.with;rw [if_neg e];exact hc⟩
 ·have hb:qdm g.tag S T MX M b=some U:=hb;unfold qdm at hb;split at hb
  ·rename_i e;subst e;exact qe box
  ·split at hb
   ·rename_i e;subst e;exact qe htab.tab
   ·split at hb
    ·rename_i e;subst e;exact htab.nums.lt
    ·split at hb
     ·rename_i e;subst e;exact hrel.lt
     ·exact Nat.lt_of_lt_of_le (hg.lt b U hb) zK
 ·have hb:qdm g.tag S T MX M b=some (S',.rel R U):=hb;unfold qdm at hb;split at hb
  ·cases hb
  ·split at hb
   ·cases hb
   ·split at hb
    ·cases hb
    ·split at hb
     ·cases hb
     ·exact Nat.lt_of_lt_of_le (hg.reln b S' R U hb) zK
set_option maxRecDepth 100000 in
theorem qnh {n0:Nat}{g:Gh}{w:World}(hg:GInv g w):Calls prog 30 #[] w fun e w'=> ∃S g',e=.returned (qj S)/\GStep n0 g w g' w'/\g'.st=g.with S []/\g'.held=g.held/\w.heap.size<=S:=by
 obtain⟨W0,hW0⟩:=ex (w.alloc (.cells #[.int .i32 0,.int .u32 0,.bool false,.pointer none,.map none,.int .i64 0] 120));have k0:Keep (fun _=>True) w W0:=by rw [←hW0];exact kAl
 have z0:W0.heap.size=w.heap.size+1:=by rw [←hW0];simp
 have q0:W0.heap[w.heap.size]?=some (.cells #[.int .i32 0,.int .u32 0,.bool false,.pointer none,.map none,.int .i64 0] 120 (0,0)):=by rw [←hW0];exact qh _ _
 have hmm:= @run_makeMap prog;obtain⟨S,hS⟩:=ex (w.heap.size);rw [hS]at q0;refine hd5 ?_ hg k0 q0 hW0 hS;clear hg k0 q0 hW0 hS;intro Xhg Xk0 Xq0 XhW0 XhS
 go_enter Tryz.func30,Tryz.ntmps30
 go_wp2_with fail;rw [XhW0.o,XhS.o];refine(qzk W0).mono ?_;rintro e W1 ⟨T,MX,rfl,ht,hT1,hT2,hT3,k1⟩;obtain⟨M,hM⟩:=ex (W1.heap.size);have q1:=k1.heap Xq0.o trivial;have q2:=(Keep.alloc (fun _=>True) W1 (.map #[] 0)).heap q1 trivial;have a2:=qb q2 2 _ rfl;have a3:=qb q2 3 _ rfl;have a4:=qb q2 4 _ rfl;have f2:=qf q2 2;have f3:=qf q2 3;have f4:=qf q2 4;have l2:=qe q2;have hm2:qh7 (W1.alloc (.map #[] 0)) M []:=by rw [←hM];exact qho W1
 have ht2:=ht.keep (Keep.alloc (fun _=>True) W1 (.map #[] 0)) trivial trivial (fun _ _=>trivial);have s1:=q8 2 (.bool true) q2;have s2:=q8 3 (qj T) s1;have s3:=q8 4 (.map (some M)) s2;have kS:Keep (fun b=>b≠S) (W1.alloc (.map #[] 0)) ((((W1.alloc (.map #[] 0)).setCell ⟨S,2,none⟩ (.bool true)).setCell ⟨S,3,none⟩ (qj T)).setCell ⟨S,4,none⟩ (.map (some M))):=((kSc).trans (kSc)).trans (kSc);have z1:=k1.size;have ht3:=ht2.keep kS (by have:=XhS.o;omega) (by have:=XhS.o;omega) (fun b hb=>by simp [Value.ownBlock] at hb);have hm3:=hm2.keep kS (by have:=XhS.o;omega);have kk:Keep (fun _=>True) w ((((W1.alloc (.map #[] 0)).setCell ⟨S,2,none⟩ (.bool true)).setCell ⟨S,3,none⟩ (qj T)).setCell ⟨S,4,none⟩ (.map (some M))):=
  (((Xk0.o.trans k1).trans kAl).mono (C':=fun b=>b<w.heap.size) (fun _ _ _=>trivial)).trans (kS.mono fun b _ h=>by have:=XhS.o;omega) |>.mono (fun b hb _=>hb)
 have hfin:=q2m (n0:=n0) Xhg.o kk (S:=S) (T:=T) (MX:=MX) (M:=M) (by have:=XhS.o;omega) (by omega) (by omega) (by omega) ⟨by have:=XhS.o;omega,by have:=XhS.o;omega,by have:=XhS.o;omega,hT3,by have:=qe ht.tab;omega,by have:=ht.nums.lt;omega⟩ (by simpa [qex] using s3) ht3 hm3;clear q1 q2 s1 s2 s3 kS ht ht2 ht3 hm2 hm3 kk k1;refine hd2 ?_ hfin hM;clear hfin hM;intro Xhfin XhM;simp only [Nat.zero_add]at a2 a3 a4;go_wp2_with fail;have hfin2:=Xhfin.o;rw [←XhM.o]at hfin2;go_ret;exact⟨S,_,rfl,hfin2,rfl,rfl,by have:=XhS.o;omega⟩
end Go.Proofs
namespace Go.Proofs
open Go.RowKit Go.Ink P16
attribute [local go_sem] Oper.semAt_some
set_option maxRecDepth 100000 in
theorem qu5 {gf:Nat}{bs lb:Array Value}(eg: ∀args w,(callFunc gf args).run prog w=.ok (.enter gf args) w)(p:ByteArray->Bool)(n0:Nat)(v:Value)(xs:List (ByteArray))(w:World)(hx:qae n0 w v xs)(hn:n0<=w.heap.size)
  (hf: ∀x,x∈xs-> ∀W,Keep (fun b=>b<w.heap.size) w W->Calls prog gf (bs.push (.string x)++lb) W fun e w'=>e=.returned (.bool (p x))/\Keep (fun b=>b<W.heap.size) W w'):
  Calls prog 91 #[v,.func (.func gf) bs lb] w fun e w'=>e=.returned (.int .i64 (qb4 p xs))/\Keep (fun b=>b<w.heap.size) w w':=by
 obtain⟨a,cap,rfl,hlen,hcap,hel⟩:=id hx;refine hd2 ?_ hel hf;clear hel hf;intro Xhel Xhf
 go_enter Tryz.func91,Tryz.ntmps91
 go_wp2_with fail
 go_loopw [8] (fun i wr=> ∃k:Nat,k<=xs.length/\i=.int .i64 (k:Int)/\Keep (fun b=>b<w.heap.size) w wr/\(xs.take k).any p=false) (fun i _=>xs.length-(intOf i).toNat)
 case atStart=>exact⟨0,by omega,rfl,Keep.refl _ _,rfl⟩
 case round=>
  obtain⟨k,hk,rfl,hK,hany⟩:=hrel;have hsz:=hK.size;by_cases hlt:k<xs.length
  ·have hlt1:(k:Int)<xs.length:=by omega
   have hk0:(0:Int)<=k:=by omega
   obtain⟨x,hx1⟩: ∃x,xs[k]?=some x:=⟨_,getElem?_eq_getElem hlt⟩;obtain⟨b,o,rfl,hb,q0⟩:=Xhel.o k x hx1;have hbw:b<wr.heap.size:=by omega
   have hst:=qj0 p xs hx1;rw [hany,Bool.false_or]at hst;have hc:=Xhf.o x (mem_of_getElem? hx1) wr hK;obtain⟨px,hpx⟩: ∃b,p x=b:=⟨_,rfl⟩;have hfi:=qf2 p xs k x hx1 hany;rw [hpx]at hst hc hfi;unfold qgc at q0;have h0:=hK.cell q0 (show b<w.heap.size by omega);simp only [Nat.mul_one] at h0;clear hx1 q0;refine hd6 ?_ hK hany hst hpx hc hfi;clear hK hany hst hpx hc hfi;intro XhK Xhany Xhst Xhpx Xhc Xhfi;go_wp2_with fail;refine Xhc.o.mono ?_;rintro e W1 ⟨rfl,k1⟩;have hK1:=XhK.o.trans (k1.mono fun b hb _=>by omega);clear k1;refine hd1 ?_ hK1;clear hK1;intro XhK1;cases px
   ·go_wp2_with fail;go_roundw
    case rel=>exact⟨k+1,by omega,by go_num,XhK1.o,Xhst.o⟩
    case measure=>simp [intOf];omega
   ·go_wp2_with fail;go_ret;exact⟨by rw [Xhfi.o (by trivial)];rfl,XhK1.o⟩
  ·obtain rfl:k=xs.length:=by omega
   rw [take_length]at hany;have hfi:=qf1 p xs hany;refine hd2 ?_ hK hfi;clear hK hfi;intro XhK Xhfi;go_wp2_with fail;go_ret;exact⟨by rw [Xhfi.o];rfl,XhK.o⟩
set_option maxRecDepth 100000 in
theorem qu6 {gf:Nat}{bs lb:Array Value}(eg: ∀args w,(callFunc gf args).run prog w=.ok (.enter gf args) w)(p:ByteArray->Bool)(n0:Nat)(v:Value)(xs:List (ByteArray))(w:World)(hx:qae n0 w v xs)(hn:n0<=w.heap.size)
  (hf: ∀x,x∈xs-> ∀W,Keep (fun b=>b<w.heap.size) w W->Calls prog gf (bs.push (.string x)++lb) W fun e w'=>e=.returned (.bool (p x))/\Keep (fun b=>b<W.heap.size) W w'):
  Calls prog 52 #[v,.func (.func gf) bs lb] w fun e w'=>e=.returned (.bool (xs.any p))/\Keep (fun b=>b<w.heap.size) w w':=by
 have hi:=qu5 eg p n0 v xs w hx hn hf;have hE:=qfp p xs;obtain⟨i,hfi⟩:=ex (qb4 p xs);rw [hfi]at hi hE;obtain⟨a,cap,rfl,hlen,hcap,hel⟩:=id hx;clear hel eg;refine hd4 ?_ hi hf hE hfi;clear hi hf hE hfi;intro Xhi Xhf XhE Xhfi
 go_enter Tryz.func52,Tryz.ntmps52
 go_wp2_with fail;refine Xhi.o.mono ?_;rintro e W1 ⟨rfl,k1⟩;refine hd1 ?_ k1;clear k1;intro Xk1;go_wp2_with fail;go_ret;exact⟨by rw [←XhE.o];rfl,Xk1.o⟩
set_option maxRecDepth 100000 in
theorem qzg (s:ByteArray)(w:World):Calls prog 53 #[.string s] w fun e w'=>e=.returned (.bool (decide (1024<s.size)))/\w'=w:=by
 go_enter Tryz.func53,Tryz.ntmps53
 go_wp2_with fail;go_ret;refine⟨?_,rfl⟩;simp;omega
theorem qwk (n0:Nat)(v:Value)(xs:List ByteArray)(w:World)(hx:qae n0 w v xs)(hn:n0<=w.heap.size):
  Calls prog 52 #[v,.func (.func 53) #[] #[]] w fun e w'=>e=.returned (.bool (xs.any fun s=>decide (1024<s.size)))/\Keep (fun b=>b<w.heap.size) w w':=
 qu6 (qc6 Tryz.func53 (by kernel_rfl) rfl) (fun s=>decide (1024<s.size)) n0 v xs w hx hn (fun x _ W _=>(qzg x W).mono fun e w' h=>⟨h.1,by rw [h.2];exact Keep.refl _ _⟩)
end Go.Proofs
