/- Parts of the proof. -/
import Derived.Test.YtnponcjnahicnaaGreatDoorLwCToLwF
import Derived.Sort.QuietIn
set_option linter.unusedSimpArgs false
set_option linter.unusedVariables false
set_option maxRecDepth 100000
set_option maxHeartbeats 2000000
open Go.Proofs.Tryz(prog)
open List(all_nil take_zero)
namespace Go.Proofs
open Go.RowKit Go.Ink Go.Flt R4 P16
attribute [local go_sem] Oper.semAt_some
theorem qre {n0:Nat}{Ss:List Nat}{g:Gh}{w:World}(hg:GInv g w)(hs:qf1 Ss g)(h:n0<=w.heap.size){J:Nat}{r:RuleD}(i:qek r)(m:JoinIs g w J r){s sN:Option Nat}(q: ∀S,s=some S->S∈Ss)(p: ∀S,sN=some S->S∈Ss){Bj k j:Nat}
  (t:w.heap[Bj]?=some (.cells #[qj J] 35 (0,0))) (u:w.heap[k]?=some (.cells #[qav s] 42 (0,0))) (x:w.heap[j]?=some (.cells #[qav sN] 42 (0,0))) (y:g.free Bj) (z:g.free k) (R:g.free j) (f:(qk0 g s sN r (-1)).length<=67108864) (d:Int):
  Calls prog 17 #[.func (.func 65) #[] #[qj Bj,qj k,qj j],.int .i64 d] w fun e w'=> ∃g' v qs,e=.returned v/\GStep n0 g w g' w'/\g'.st=g.st/\MqsAt (fun b=>g'.free b/\w.heap.size<=b) w' v qs/\qs.map (·.1)=qf0 (((qk0 g s sN r (-1)).map (qcr r)).take (qj5 d (qk0 g s sN r (-1)).length)):=by
 obtain⟨ae,vb,vv,va,vt,vh,m⟩:=m;exact qmd (all:=fun γ=>qk0 γ s sN r (-1)) (V:=EachV (fun b=>b<w.heap.size/\g.free b) w.heap.size n0 w) (U:=fun b=>b<w.heap.size/\g.free b) hg hs h (qc0 Tryz.func65 wA rfl)
  (qyo i m (fun b c=>c.1) q p ⟨qe t,y⟩ t ⟨qe u,z⟩ u ⟨qe x,R⟩ x) (fun b c=>c.2) (fun X l=>⟨fun b c=>l.block b c.1 c.1,l.size,zW h l.size⟩) (fun X Y hV hK=>hV.keep (fun b c=>c.1) hK (fun b c=>c.1)) f ⟨by have:=qnm i.formed;omega,by have:=qrv i.formed r.body.length (zG _);rw [qog i.formed] at this;have:=qru i.formed;omega⟩ d
theorem q35 (n:Nat):qj5 (-1) n=n:=by unfold qj5;rw [zI xz]
theorem qsv {n0:Nat}{Ss:List Nat}{g:Gh}{w:World}(l:GInv g w)(hs:qf1 Ss g)(i:n0<=w.heap.size){J:Nat}{r:RuleD}(m:qek r)(hj:JoinIs g w J r){s sN:Option Nat}(k: ∀S,s=some S->S∈Ss)(j: ∀S,sN=some S->S∈Ss){Bj h d:Nat}
  (p:w.heap[Bj]?=some (.cells #[qj J] 35 (0,0))) (q:w.heap[h]?=some (.cells #[qav s] 42 (0,0))) (t:w.heap[d]?=some (.cells #[qav sN] 42 (0,0))) (u:g.free Bj) (x:g.free h) (y:g.free d) (c:(qk0 g s sN r (-1)).length<=67108864):
  Calls prog 17 #[.func (.func 65) #[] #[qj Bj,qj h,qj d],.int .i64 (-1)] w fun e w'=> ∃g' v qs,e=.returned v/\GStep n0 g w g' w'/\g'.st=g.st/\MqsAt (fun b=>g'.free b/\w.heap.size<=b) w' v qs/\qs.map (·.1)=qkw (qjt g s sN r.body) r:=by
 refine(qre l hs i m hj k j p q t u x y c (-1)).mono ?_;rintro e w' ⟨g',v,qs,z,R,U,X,Y⟩;refine⟨g',v,qs,z,R,U,X,?_⟩;rw [Y,q35,←qvr l s sN m,←zL (f:=qcr r),zi]
def gh0:Gh:=⟨fun _=>none,fun _=>none,fun _=>none⟩
theorem qmw (w:World):GInv gh0 w:=⟨fun S c h=>(by cases h),fun b S T h=>(by cases h),fun b T h=>(by cases h),fun b o h=>(by cases h),fun b o h=>(by cases h),fun b S R U h=>(by cases h)⟩
theorem qjb (b:Nat):gh0.free b:=⟨rfl,rfl⟩
theorem q36 {g:Gh}{S:Nat}{fs:List qy}(h:g.st S=some (qfk okF fs)):qf1 [S] g:=fun S' b=>by
 rw [zl.1 b];exact⟨_,h,q1a fs⟩
theorem qmx {n0:Nat}{g:Gh}{X Y:World}(h:GStep n0 gh0 X g Y):wD X Y:=h.keep.mono fun b _ _=>qjb b
theorem qiv {w:World}{n B t:Nat}{xs:List ByteArray}(h:w.heap[B]?=some (.cells (xs.map Value.string).toArray t (0,0)))(c:B<n)(b:xs.length<=1073741824):qal n w (.slice (some ⟨B,0,none⟩) xs.length xs.length) xs:=qgi (qk1 h b) c
theorem qqn (w:World):Calls prog 8 #[] w fun e w'=>e=.returned (.bool true)/\Keep (fun b=>b<w.heap.size) w w':=by
 obtain⟨N,hN⟩:=ex (w.heap.size);obtain⟨W0,d⟩:=ex ((((w.alloc (.cells #[.string ⟨#[97]⟩,.string ⟨#[98]⟩] 9)).alloc (.cells #[.string ⟨#[98]⟩,.string ⟨#[99]⟩] 9)).alloc (.cells #[.string ⟨#[99]⟩,.string ⟨#[97]⟩] 9)).alloc (.cells #[.string ⟨#[101]⟩,.slice (some ⟨w.heap.size,0,none⟩) 2 2,.string ⟨#[101]⟩,.slice (some ⟨w.heap.size+1,0,none⟩) 2 2,.string ⟨#[101]⟩,.slice (some ⟨w.heap.size+2,0,none⟩) 2 2] 86));have k0:wD w W0:=by rw [←d];exact((kAl.trans kAl).trans kAl).trans kAl
 have z0:W0.heap.size=N+4:=by rw [←d,←hN];simp
 have p0:W0.heap[N]?=some (.cells ([bA,bB].map Value.string).toArray 9 (0,0)):=by rw [←d,←hN];exact(((Keep.alloc (fun _=>True) _ _).trans kAl).trans kAl).heap (qh w _) trivial
 have p1:W0.heap[N+1]?=some (.cells ([bB,bC].map Value.string).toArray 9 (0,0)):=by
  rw [←d,←hN];have:=qh (w.alloc (.cells #[.string ⟨#[97]⟩,.string ⟨#[98]⟩] 9)) (.cells #[.string ⟨#[98]⟩,.string ⟨#[99]⟩] 9);rw [zO]at this;exact((Keep.alloc (fun _=>True) _ _).trans kAl).heap this trivial
 have p2:W0.heap[N+2]?=some (.cells ([bC,bA].map Value.string).toArray 9 (0,0)):=by
  rw [←d,←hN];have:=qh ((w.alloc (.cells #[.string ⟨#[97]⟩,.string ⟨#[98]⟩] 9)).alloc (.cells #[.string ⟨#[98]⟩,.string ⟨#[99]⟩] 9)) (.cells #[.string ⟨#[99]⟩,.string ⟨#[97]⟩] 9);rw [zO,zO]at this;exact(Keep.alloc (fun _=>True) _ _).heap this trivial
 have p3:W0.heap[N+3]?=some (.cells #[.string ⟨#[101]⟩,.slice (some ⟨N,0,none⟩) 2 2,.string ⟨#[101]⟩,.slice (some ⟨N+1,0,none⟩) 2 2,.string ⟨#[101]⟩,.slice (some ⟨N+2,0,none⟩) 2 2] 86 (0,0)):=by
  rw [←d,←hN];have:=qh (((w.alloc (.cells #[.string ⟨#[97]⟩,.string ⟨#[98]⟩] 9)).alloc (.cells #[.string ⟨#[98]⟩,.string ⟨#[99]⟩] 9)).alloc (.cells #[.string ⟨#[99]⟩,.string ⟨#[97]⟩] 9)) (.cells #[.string ⟨#[101]⟩,.slice (some ⟨w.heap.size,0,none⟩) 2 2,.string ⟨#[101]⟩,.slice (some ⟨w.heap.size+1,0,none⟩) 2 2,.string ⟨#[101]⟩,.slice (some ⟨w.heap.size+2,0,none⟩) 2 2] 86);rw [zO,zO,zO]at this;exact this
 have hF:FactsIn (N+4) W0 (.slice (some ⟨N+3,0,none⟩) 3 3) qgy:=by
  refine⟨_,3,rfl,wC,⟨wC,wC⟩,fun k f hk=>⟨N+3,0,rfl,xz,?_⟩⟩
  match k,hk with
  |0,hk=>
   cases hk;refine⟨.slice (some ⟨N,0,none⟩) 2 2,fun j v c=>?_,qiv p0 xz wC⟩
   match j,c with
   |0,c=>cases c;exact qb p3 0 _ rfl
   |1,c=>cases c;exact qb p3 1 _ rfl
  |1,hk=>
   cases hk;refine⟨.slice (some ⟨N+1,0,none⟩) 2 2,fun j v c=>?_,qiv p1 xz wC⟩
   match j,c with
   |0,c=>cases c;exact qb p3 2 _ rfl
   |1,c=>cases c;exact qb p3 3 _ rfl
  |2,hk=>
   cases hk;refine⟨.slice (some ⟨N+2,0,none⟩) 2 2,fun j v c=>?_,qiv p2 xz wC⟩
   match j,c with
   |0,c=>cases c;exact qb p3 4 _ rfl
   |1,c=>cases c;exact qb p3 5 _ rfl
 have aE:=qrx (n0:=W0.heap.size) (qmw W0) hF xz (fun b _=>qjb b) wC wC;rw [qm9]at aE;refine hd9 ?_ hN d k0 p0 p1 p2 p3 hF aE;clear hN d k0 p0 p1 p2 p3 hF aE;intro bI aR a8 cQ cR cS cT cD a3
 go_enter Tryz.func8,Tryz.ntmps8
 go_wp2_with fail;rw [aR.o,bI.o];refine a3.o.mono ?_;rintro e W1 ⟨S,g1,rfl,aC,R,-,hS⟩;have h1:=qmx aC;have bh:g1.st S=some qgy:=by rw [R];unfold Gh.with;simp
 refine hd4 ?_ aC h1 R bh;clear aC h1 R bh;intro ah aQ bJ i;go_wp2_with fail;refine(q31 W1).mono ?_;rintro e W2 ⟨vh,vb,rfl,hR,k2⟩;have ax:=qjq hR (zG _);have i1:=ah.o.inv;have s2:=GStep.below (n0:=0) i1 k2;unfold qaz at ax⊢;refine hd5 ?_ hR k2 ax i1 s2;clear hR k2 ax i1 s2;intro cE a9 aW cG bO;go_wp2_with fail;refine aW.o.mono ?_;rintro e W3 ⟨k3,⟨h0,-⟩ |⟨bp,J,dd,db,vv,va,vt,de,rfl,c⟩⟩
 ·exact absurd q18 h0
 have i2:=bO.o.inv;have s3:=GStep.below (n0:=0) i2 k3;have bk:=qw4 i2 c;have Y:=qr5 J (some S) (some S) W3;have cw:=k3.size;unfold qav at Y;simp only [Option.map_some]at Y;clear c;refine hd6 ?_ bp k3 i2 s3 bk Y;clear bp k3 i2 s3 bk Y;intro ag bK cH bf a1 aX;go_wp2_with fail;refine aX.o.mono ?_;rintro e W4 ⟨rfl,b1,b2,b3,z4,k4⟩;have s4:=GStep.own (n0:=0) bf.o.inv k4;have y:=a1.o.step s4;have i4:=s4.inv;have u: ∀b,W3.heap.size<=b->g1.free b:=fun b hb=>qg8 bf.o.inv hb;have ay:=qsv (n0:=0) (Ss:= [S]) i4 (q36 (fs:=qgy) (by rw [qm9];exact i.o)) (ya _) ag.o y (s:=some S) (sN:=some S) (fun S' h=>by cases h;exact zl.2 rfl) (fun S' h=>by cases h;exact zl.2 rfl) b1 (by unfold qav;exact b2) (by unfold qav;exact b3) (u _ (zG _)) (u _ xz) (u _ xz) (by
  rw [q33 i4 _ _ ag.o];have:=yM List.length (show qkw (qjt g1 (some S) (some S) qfu.body) qfu=_ from(by unfold qjt qfd;simp only [i.o,Option.getD_some];exact qvs));unfold qkw at this;rw [qkv,zL]at this;rw [this];decide)
 have aB:qkw (qjt g1 (some S) (some S) qfu.body) qfu= [⟨[bA,bC],[bA,bC,bB]⟩,⟨[bB,bA],[bB,bA,bC]⟩,⟨[bC,bB],[bC,bB,bA]⟩]:=by
  unfold qjt qfd;simp only [i.o,Option.getD_some];exact qvs
 rw [aB]at ay;clear b1 b2 b3;refine hd8 ?_ k4 s4 y i4 u ay aB z4;clear k4 s4 y i4 u ay aB z4;intro bL cU al cI cl aY cm cV;go_wp2_with fail;refine aY.o.mono ?_;rintro e W5 ⟨g5,v5,qs,rfl,s5,aj,bl,ab⟩;have bo:qs.length=3:=by have:=yM List.length ab;simpa using this
 obtain⟨q0,aa⟩: ∃q0,qs[0]?=some q0:=⟨_,zB xz⟩;have ai:q0.1=⟨[bA,bC],[bA,bC,bB]⟩:=by
  have:=yM (fun l=>l[0]?) ab;simp only [zP,aa]at this
  simpa using this
 have bq: ∀m:qa5,m∈qs.map (·.1)->m.head.length<=1073741824/\m.vals.length<=1073741824:=by
  rw [ab]
  decide
 obtain⟨bV,bm⟩:=bl.mq xz (fun q hq=>bq _ (yK.2 ⟨q,hq,rfl⟩));have bn:=bm q0 (zH aa);obtain⟨c2,c5,rfl,-,-,bi⟩:=bV;obtain⟨b,o,rfl,bU,aw⟩:=bi 0 q0 aa;have c0:=aw 0 _ rfl;have c1:=aw 1 _ rfl;simp only [Nat.zero_mul,Nat.add_zero]at c0 c1;obtain⟨m0,dc,df⟩:=q0;simp only at c0 c1 ai;subst ai;obtain⟨X,ad⟩:=bn;simp only at X ad;obtain⟨cZ,c4,rfl,-,-,-⟩:=id X;obtain⟨c3,c6,rfl,-,-,-⟩:=id ad;have bR:g5.st S=some qgy:=by rw [aj];exact i.o
 have z:=qyp (s5.inv.store S qgy bR);rw [show(qgy.length:Int)=3 from rfl]at z;have bj:=al.o.step s5;rw [bo];clear bi aw aa bm bl ab bo aj bq;refine hd7 ?_ X ad z bj s5 c0 c1;clear X ad z bj s5 c0 c1;intro aV a7 am aZ bg bF bG;go_wp2_with fail;refine(qpl _ _).mono ?_;rintro e w9 ⟨rfl,g⟩;have g:=g.symm;subst g;go_wp2_with fail;refine am.o.mono ?_;rintro e W6 ⟨rfl,k6⟩;have d0:=k6.cell bF.o trivial;have c8:b<W6.heap.size:=zk bU k6.size;obtain⟨W7,p⟩:=ex (W6.alloc (.cells #[.string ⟨#[97]⟩,.string ⟨#[99]⟩] 9));have k7:wD W6 W7:=by rw [←p];exact kAl
 have n7:W7.heap[W6.heap.size]?=some (.cells ([bA,bC].map Value.string).toArray 9 (0,0)):=by rw [←p];exact qh _ _
 have z7:W7.heap.size=W6.heap.size+1:=by rw [←p];simp
 have aF:=qfi W7.heap.size _ _ _ _ W7 (qgi (qlw aV.o ((k6.trans k7).mt)) (by have:=k6.size;omega)) (qiv n7 xz wC) (zG _);rw [zS (rfl: [bA,bC]= [bA,bC])]at aF;refine hd6 ?_ k6 k7 n7 z7 p aF;clear k6 k7 n7 z7 p aF;intro bb ap cN cW aS a4;go_wp2_with fail;rw [aS.o];refine a4.o.mono ?_;rintro e W8 ⟨rfl,m8,ar⟩;have k8:wD W7 W8:=by rw [ar];exact Keep.drewN' _ _ _
 have e1:=k8.cell (ap.o.cell (bb.o.cell bG.o wE) wE) trivial;have c9:b<W8.heap.size:=by have:=ap.o.size;have:=k8.size;omega
 obtain⟨W9,r⟩:=ex (W8.alloc (.cells #[.string ⟨#[97]⟩,.string ⟨#[99]⟩,.string ⟨#[98]⟩] 9));have k9:wD W8 W9:=by rw [←r];exact kAl
 have n9:W9.heap[W8.heap.size]?=some (.cells ([bA,bC,bB].map Value.string).toArray 9 (0,0)):=by rw [←r];exact qh _ _
 have z9:W9.heap.size=W8.heap.size+1:=by rw [←r];simp
 have ae:=((bb.o.trans ap.o).trans k8).trans k9;have aG:=qfi W9.heap.size _ _ _ _ W9 (qgi (qlw a7.o ae.mt) (by have:=ae.size;omega)) (qiv n9 xz wC) (zG _);rw [zS (rfl: [bA,bC,bB]= [bA,bC,bB])]at aG;refine hd8 ?_ ar k8 k9 n9 z9 r aG ae;clear ar k8 k9 n9 z9 r aG ae;intro ci cJ cK cO cX aT a5 bc;go_wp2_with fail;rw [aT.o];refine a5.o.mono ?_;rintro e WA ⟨rfl,mA,au⟩;have kA:wD W9 WA:=by rw [au];exact Keep.drewN' _ _ _
 have aI:=bc.o.trans kA;have x:JoinIs g5 WA J qfu:=aZ.o.step (GStep.own (n0:=0) bg.o.inv aI);obtain⟨ja,jb,jv,jq,jt,jh,x⟩:=x;have U:=qhm x (zG _);rw [q19]at U;refine hd5 ?_ au kA aI x U;clear au kA aI x U;intro cj cL ba a0 an;go_wp2_with fail;refine an.o.mono ?_;rintro e WB ⟨vo,rfl,ho,kB⟩;obtain⟨ao,co,rfl⟩:=qi ho;have aD:=qcc (ss:= [bX,bZ,bY]) ho wC;obtain⟨WC,t⟩:=ex (WB.alloc (.cells #[.string ⟨#[88]⟩,.string ⟨#[90]⟩,.string ⟨#[89]⟩] 9));have kC:wD WB WC:=by rw [←t];exact kAl
 have nC:WC.heap[WB.heap.size]?=some (.cells ([bX,bZ,bY].map Value.string).toArray 9 (0,0)):=by rw [←t];exact qh _ _
 have zC:WC.heap.size=WB.heap.size+1:=by rw [←t];simp
 have aH:=qfi WC.heap.size _ _ _ _ WC (qgi (qlw aD kC.mt) xz) (qiv nC xz wC) (zG _);rw [zS (rfl: [bX,bZ,bY]= [bX,bZ,bY])]at aH;refine hd8 ?_ ho kB aD t kC nC zC aH;clear ho kB aD t kC nC zC aH;intro cF bM cn aU bN cP cY a6;go_wp2_with fail;rw [aU.o];refine a6.o.mono ?_;rintro e WD ⟨rfl,mD,av⟩;have kD:wD WC WD:=by rw [av];exact Keep.drewN' _ _ _
 have af:=(bM.o.trans bN.o).trans kD;have aA:=qm6 (a0.o.keep af (fun _ _=>wE) (fun b hb=>hb.1));rw [q34]at aA;have hE:Keep (fun b=>b<w.heap.size) w WD:=by
  have q0:=a8.o.size;have q1:=aQ.o.size;have q2:=a9.o.size;exact a8.o.mt.trans (aQ.o.mt.trans ((a9.o.mono fun b _ h=>xz).trans ((bK.o.mono fun b _ h=>xz).trans (bL.o.mt.trans ((bg.o.keep.mono fun b _ h=>ah.o.new b xz (qjb b)).trans ((ba.o.trans af).mt))))))
 refine hd5 ?_ av kD af aA hE;clear av kD af aA hE;intro ck cM cp a2 bH;go_wp2_with fail;refine a2.o.mono ?_;rintro e w9 ⟨rfl,g⟩;have g:=g.symm;subst g;go_wp2_with fail;go_ret;exact⟨rfl,bH.o⟩
end Go.Proofs
namespace Go.Ink
open Go.RowKit
section
variable {F : Fence} {n : Nat} {P : Program} {ops : Array Oper} {Q : Exit -> Act -> World -> Prop} {md : Region.Mode} {S S' : World -> Prop} {late : List Nat}
end
end Go.Ink
namespace Go.Proofs
open Go.RowKit Go.Ink Go.Flt R4 P16
theorem q37 {r:RuleD}(h:qek r):qcy r=0:=by
 have d:S12.looseOf r=none:=by
  unfold S12.looseOf;rw [ym];intro x f;obtain⟨L,c,b,e⟩:=qvq.1 (h.bound x f);have:x∈qb0 r.body:=qqm.2 ⟨L,c,b,by unfold LitD.uses LitD.terms;rw [zI (.inl b)];exact e⟩;simp [this]
 unfold qcy;rw [zI h.formed,zI d]
theorem qzg (body:List LitD):qcg body body.length=(qcn body).map fun j:Nat=>(j:Int):=rfl
end Go.Proofs
namespace Go.Proofs
open Go.RowKit Go.Ink P16
attribute [local go_sem] Oper.semAt_some
theorem qna (c:Int)(w:World):Calls prog 223 #[.int .u8 c] w fun e w'=>e=.returned (.bool (qfv c))/\w'=w:=by
 go_enter Tryz.func223,Tryz.ntmps223
 go_wp2
 all_goals go_ret
 all_goals (refine⟨yM (fun b=>Ending.returned (Value.bool b)) ?_,rfl⟩;rw [yt];simp only [qfv,y8,zV,zT,xB];(try simp only [true_iff,false_iff,iff_true,iff_false,zy]);omega)
theorem qnb (c:Int)(w:World):Calls prog 224 #[.int .u8 c] w fun e w'=>e=.returned (.bool (qe2 c))/\w'=w:=by
 go_enter Tryz.func224,Tryz.ntmps224
 go_wp2
 all_goals go_ret
 all_goals (refine⟨yM (fun b=>Ending.returned (Value.bool b)) ?_,rfl⟩;rw [yt];simp only [qe2,y8,zV,zT,xB];(try simp only [true_iff,false_iff,iff_true,iff_false,zy]);omega)
theorem qur (c:Int)(w:World):Calls prog 249 #[.int .u8 c] w fun e w'=>e=.returned (.bool (qh8 c))/\w'=w:=by
 go_enter Tryz.func249,Tryz.ntmps249
 go_wp2
 all_goals go_ret
 all_goals (refine⟨yM (fun b=>Ending.returned (Value.bool b)) ?_,rfl⟩;rw [yt];simp only [qh8,y8,zV,zT,xB];(try simp only [true_iff,false_iff,iff_true,iff_false,zy]);omega)
theorem qox (c:Int)(w:World):Calls prog 225 #[.int .u8 c] w fun e w'=>e=.returned (.bool (qbx c))/\w'=w:=by
 have j:=qna c w;have a2:=qnb c w;have a3:=qur c w;obtain⟨q,k⟩: ∃b,qfv c=b:=⟨_,rfl⟩;obtain⟨r,l⟩: ∃b,qe2 c=b:=⟨_,rfl⟩;obtain⟨s,m⟩: ∃b,qh8 c=b:=⟨_,rfl⟩;have p:qbx c=(q ||r ||s ||decide (c=95)):=by unfold qbx;rw [k,l,m]
 rw [k]at j;rw [l]at a2;rw [m]at a3;rw [p];clear k l m p;refine hd3 ?_ j a2 a3;clear j a2 a3;intro f h i;cases q with
 |true=>
  go_enter Tryz.func225,Tryz.ntmps225
  go_wp2_with fail;refine f.o.mono ?_;rintro e g ⟨rfl,d⟩;have d:=d.symm;subst d;go_wp2_with fail;go_ret;exact⟨rfl,rfl⟩
 |false=>
  cases r with
  |true=>
   go_enter Tryz.func225,Tryz.ntmps225
   go_wp2_with fail;refine f.o.mono ?_;rintro e g ⟨rfl,d⟩;have d:=d.symm;subst d;go_wp2_with fail;refine h.o.mono ?_;rintro e g ⟨rfl,d⟩;have d:=d.symm;subst d;go_wp2_with fail;go_ret;exact⟨rfl,rfl⟩
  |false=>
   cases s with
   |true=>
    go_enter Tryz.func225,Tryz.ntmps225
    go_wp2_with fail;refine f.o.mono ?_;rintro e g ⟨rfl,d⟩;have d:=d.symm;subst d;go_wp2_with fail;refine h.o.mono ?_;rintro e g ⟨rfl,d⟩;have d:=d.symm;subst d;go_wp2_with fail;refine i.o.mono ?_;rintro e g ⟨rfl,d⟩;have d:=d.symm;subst d;go_wp2_with fail;go_ret;exact⟨rfl,rfl⟩
   |false=>
    go_enter Tryz.func225,Tryz.ntmps225
    go_wp2_with fail;refine f.o.mono ?_;rintro e g ⟨rfl,d⟩;have d:=d.symm;subst d;go_wp2_with fail;refine h.o.mono ?_;rintro e g ⟨rfl,d⟩;have d:=d.symm;subst d;go_wp2_with fail;refine i.o.mono ?_;rintro e g ⟨rfl,d⟩;have d:=d.symm;subst d;go_wp2_with fail;go_ret;exact⟨yM (fun b=>Ending.returned (Value.bool b)) (by rw [yt];simp),rfl⟩
theorem qw5 (s:ByteArray)(w:World):Calls prog 176 #[.string s] w fun e w'=>e=.returned (.bool (qdz s))/\w'=w:=by
 obtain⟨h,d⟩: ∃b,(s.toList== [105,110,112,117,116])=b:=⟨_,rfl⟩;obtain⟨i2,f⟩: ∃b,(s.toList== [111,117,116,112,117,116])=b:=⟨_,rfl⟩;obtain⟨i3,g⟩: ∃b,(s.toList== [110,111,116])=b:=⟨_,rfl⟩;have j:(s=qf9)=(h=true):=by
  rw [←d];have e:qf9.toList= [105,110,112,117,116]:=wA
  rw [←e];exact qf8 s qf9
 have k:(s=qe0)=(i2=true):=by
  rw [←f];have e:qe0.toList= [111,117,116,112,117,116]:=wA
  rw [←e];exact qf8 s qe0
 have l:(s=qjc)=(i3=true):=by
  rw [←g];have e:qjc.toList= [110,111,116]:=wA
  rw [←e];exact qf8 s qjc
 have i:qdz s=(h ||i2 ||i3):=by
  unfold qdz;simp only [j,k,l,Bool.decide_eq_true]
 clear j k l;refine hd1 ?_ i;clear i;intro c
 go_enter Tryz.func176,Tryz.ntmps176
 cases h<;>cases i2
 all_goals go_wp2_with fail
 all_goals go_ret
 all_goals exact⟨by rw [c.o];rfl,rfl⟩
theorem qoy (s:ByteArray)(low:Bool)(hs:s.size<=1073741824)(w:World):Calls prog 175 #[.string s,.bool low] w fun e w'=>e=.returned (.bool (qcb s low))/\w'=w:=by
 rcases yX s.size 1 with h0 |h0
 ·have hE:qcb s low=false:=by unfold qcb qbi;rw [zM (show ¬1<=s.size from xz),yY,yN,yY]
  have h1:(s.size:Int)<1:=xz
  rw [hE];clear hE h0
  go_enter Tryz.func175,Tryz.ntmps175
  go_wp2_with fail;go_ret;exact⟨rfl,rfl⟩
 have h1: ¬(s.size:Int)<1:=xz
 rcases yX 64 s.size with h64 |h64
 ·have hE:qcb s low=false:=by
   unfold qcb qbi;rw [zM (show ¬s.size<=64 from xz),yN,yN,yY]
  have h2:(64:Int)<s.size:=xz
  rw [hE];clear hE h64
  go_enter Tryz.func175,Tryz.ntmps175
  go_wp2_with fail;go_ret;exact⟨rfl,rfl⟩
 have h2: ¬(64:Int)<s.size:=xz
 have ai:0<s.size:=xz
 have aq:(0:Int)<s.size:=xz
 have ak:=q38 ai;have r:=qfg s ai;rw [ak]at r;obtain⟨c,hc⟩:=ex (qd7 s);rw [hc]at ak r;have g1:=qna c w;have g2:=qnb c w;have z:qcb s low=(((qb9 s).all qbx&&(decide (1<=s.size)&&decide (s.size<=64)))&&(if low=true then qfv c else qe2 c)):=by unfold qcb qbi;rw [hc]
 rw [zS (show 1<=s.size from xz),zS h64,xJ,xJ]at z;have t:(if low=true then qfv c else qe2 c)=true->((qb9 s).take 1).all qbx=true:=fun h=>by
  rw [qhc qbx (qb9 s) (k:=0) r,take_zero,all_nil,yT];split at h
  ·exact qtn h
  ·exact qto h
 obtain⟨b1,x⟩: ∃b,(if low=true then qfv c else qe2 c)=b:=⟨_,rfl⟩;rw [x]at z t;cases low with
 |true=>
  rw [zI rfl]at x;rw [x]at g1;clear g2 hc x r;cases b1 with
  |false=>
   rw [yN]at z;clear t;refine hd2 ?_ g1 z;clear g1 z;intro ad u
   go_enter Tryz.func175,Tryz.ntmps175
   go_wp2_with fail;refine ad.o.mono ?_;rintro e w9 ⟨rfl,d⟩;have d:=d.symm;subst d;go_wp2_with fail;go_ret;exact⟨by rw [u.o];rfl,rfl⟩
  |true=>
   rw [xJ]at z;have t:=t rfl;refine hd3 ?_ g1 z t;clear g1 z t;intro ad u Y
   go_enter Tryz.func175,Tryz.ntmps175
   go_wp2_with fail;refine ad.o.mono ?_;rintro e w9 ⟨rfl,d⟩;have d:=d.symm;subst d;go_wp2_with fail
   go_loopw [5] (fun i wr=> ∃k:Nat,1<=k/\k<=s.size/\i=.int .i64 (k:Int)/\wr=w/\((qb9 s).take k).all qbx=true) (fun i _=>s.size-(intOf i).toNat)
   case atStart=>exact⟨1,xz,xz,rfl,rfl,Y.o⟩
   case round=>
    obtain⟨k,ao,hk,rfl,y,f⟩:=hrel;have y:=y.symm;subst y;have an:(0:Int)<=k:=xz
    by_cases aa:k<s.size
    ·have al:(k:Int)<s.size:=by omega
     have l:=qfg s aa;have p:=qhc qbx (qb9 s) l;rw [f,yT]at p;have m:=qox ((s[k].toNat:Nat):Int) w;cases j:qbx ((s[k].toNat:Nat):Int) with
     |false=>
      rw [j]at m;have ab:=qiz qbx _ l j;refine hd6 ?_ l p m j ab f;clear l p m j ab f;intro R v q U X g;go_wp2_with fail;refine q.o.mono ?_;rintro e w9 ⟨rfl,d⟩;have d:=d.symm;subst d;go_wp2_with fail;go_ret;exact⟨by rw [u.o,X.o];rfl,rfl⟩
     |true=>
      rw [j]at m p;refine hd5 ?_ l p m j f;clear l p m j f;intro R v q U g;go_wp2_with fail;refine q.o.mono ?_;rintro e w9 ⟨rfl,d⟩;have d:=d.symm;subst d;go_wp2_with fail;go_roundw
      case rel=>exact⟨k+1,xz,xz,by go_num,by trivial,v.o⟩
      case measure=>simp [intOf];omega
    ·obtain rfl:k=s.size:=by omega
     rw [yw (by rw [qii];omega)]at f;clear aa;refine hd1 ?_ f;clear f;intro g;go_wp2_with fail;go_ret;exact⟨by rw [u.o,g.o];rfl,rfl⟩
 |false=>
  rw [zF wB]at x;rw [x]at g2;clear g1 hc x r;cases b1 with
  |false=>
   rw [yN]at z;clear t;refine hd2 ?_ g2 z;clear g2 z;intro ae u
   go_enter Tryz.func175,Tryz.ntmps175
   go_wp2_with fail;refine ae.o.mono ?_;rintro e w9 ⟨rfl,d⟩;have d:=d.symm;subst d;go_wp2_with fail;go_ret;exact⟨by rw [u.o];rfl,rfl⟩
  |true=>
   rw [xJ]at z;have t:=t rfl;refine hd3 ?_ g2 z t;clear g2 z t;intro ae u Y
   go_enter Tryz.func175,Tryz.ntmps175
   go_wp2_with fail;refine ae.o.mono ?_;rintro e w9 ⟨rfl,d⟩;have d:=d.symm;subst d;go_wp2_with fail
   go_loopw [5] (fun i wr=> ∃k:Nat,1<=k/\k<=s.size/\i=.int .i64 (k:Int)/\wr=w/\((qb9 s).take k).all qbx=true) (fun i _=>s.size-(intOf i).toNat)
   case atStart=>exact⟨1,xz,xz,rfl,rfl,Y.o⟩
   case round=>
    obtain⟨k,ao,hk,rfl,y,f⟩:=hrel;have y:=y.symm;subst y;have an:(0:Int)<=k:=xz
    by_cases aa:k<s.size
    ·have al:(k:Int)<s.size:=by omega
     have l:=qfg s aa;have p:=qhc qbx (qb9 s) l;rw [f,yT]at p;have m:=qox ((s[k].toNat:Nat):Int) w;cases j:qbx ((s[k].toNat:Nat):Int) with
     |false=>
      rw [j]at m;have ab:=qiz qbx _ l j;refine hd6 ?_ l p m j ab f;clear l p m j ab f;intro R v q U X g;go_wp2_with fail;refine q.o.mono ?_;rintro e w9 ⟨rfl,d⟩;have d:=d.symm;subst d;go_wp2_with fail;go_ret;exact⟨by rw [u.o,X.o];rfl,rfl⟩
     |true=>
      rw [j]at m p;refine hd5 ?_ l p m j f;clear l p m j f;intro R v q U g;go_wp2_with fail;refine q.o.mono ?_;rintro e w9 ⟨rfl,d⟩;have d:=d.symm;subst d;go_wp2_with fail;go_roundw
      case rel=>exact⟨k+1,xz,xz,by go_num,by trivial,v.o⟩
      case measure=>simp [intOf];omega
    ·obtain rfl:k=s.size:=by omega
     rw [yw (by rw [qii];omega)]at f;clear aa;refine hd1 ?_ f;clear f;intro g;go_wp2_with fail;go_ret;exact⟨by rw [u.o,g.o];rfl,rfl⟩
theorem qw6 (s:ByteArray)(p:s.size<=1073741824)(w:World):Calls prog 138 #[.string s] w fun e w'=>e=.returned (.bool (qdi s))/\w'=w:=by
 have k:=qoy s true p w;have j:=qw5 s w;have h:qdi s=(qcb s true&&!qdz s):=rfl;obtain⟨m,f⟩: ∃b,qcb s true=b:=⟨_,rfl⟩;obtain⟨q,g⟩: ∃b,qdz s=b:=⟨_,rfl⟩;rw [f]at k h;rw [g]at j h;rw [h];clear h f g;refine hd2 ?_ k j;clear k j;intro d i;cases m
 ·go_enter Tryz.func138,Tryz.ntmps138
  go_wp2_with fail;refine d.o.mono ?_;rintro e l ⟨rfl,c⟩;have c:=c.symm;subst c;go_wp2_with fail;go_ret;exact⟨rfl,rfl⟩
 ·go_enter Tryz.func138,Tryz.ntmps138
  go_wp2_with fail;refine d.o.mono ?_;rintro e l ⟨rfl,c⟩;have c:=c.symm;subst c;go_wp2_with fail;refine i.o.mono ?_;rintro e l ⟨rfl,c⟩;have c:=c.symm;subst c;go_wp2_with fail;go_ret;exact⟨rfl,rfl⟩
theorem qzh (s:ByteArray)(g:s.size<=1073741824)(w:World):Calls prog 205 #[.string s] w fun e w'=>e=.returned (.bool (qg9 s))/\w'=w:=by
 have d:=qoy s false g w;have f:qg9 s=qcb s false:=rfl;rw [f];refine hd1 ?_ d;clear d;intro c
 go_enter Tryz.func205,Tryz.ntmps205
 go_wp2_with fail;refine c.o.mono ?_;rintro e h ⟨rfl,b⟩;have b:=b.symm;subst b;go_wp2_with fail;go_ret;exact⟨rfl,rfl⟩
end Go.Proofs
