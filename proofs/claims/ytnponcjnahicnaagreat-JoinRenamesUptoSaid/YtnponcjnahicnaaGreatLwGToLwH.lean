/- Parts of the proof. -/
import Derived.Test.YtnponcjnahicnaaGreatProg
import Derived.Test.YtnponcjnahicnaaGreatJnGToLwF
import Derived.Test.YtnponcjnahicnaaGreatHdToKp
set_option linter.unusedSimpArgs false
set_option linter.unusedVariables false
open Go.Proofs.Tryz(prog)
open List(append_assoc drop_eq_getElem_cons eq_nil_of_length_eq_zero find?_eq_none flatMap_append flatMap_cons getElem?_append_left getElem?_append_right getElem?_eq_getElem getElem?_map getElem?_take length_map length_take map_append mem_map mem_of_getElem? mem_singleton set_append_right take_add_one take_append_drop take_length)
namespace Go.Proofs
open Go.RowKit Go.Ink Go.Flt R4 P16
attribute [local go_sem] Oper.semAt_some
theorem qsv {n0:Nat}{Ss:List Nat}{g:Gh}{w:World}(hg:GInv g w)(hs:qfl Ss g)(hn0:n0<=w.heap.size){J:Nat}{r:RuleD}(hr:qel r)(hj:JoinIs g w J r){s sN:Option Nat}(hsS: ∀S,s=some S->S∈Ss)(hsN: ∀S,sN=some S->S∈Ss){Bj Bx Bn:Nat}
  (b1:w.heap[Bj]?=some (.cells #[qk J] 31 (0,0))) (b2:w.heap[Bx]?=some (.cells #[qaz s] 37 (0,0))) (b3:w.heap[Bn]?=some (.cells #[qaz sN] 37 (0,0))) (f1:g.free Bj) (f2:g.free Bx) (f3:g.free Bn) (hfew:(qen g s sN r (-1)).length<=67108864) (lim:Int):
  Calls prog 19 #[.func (.func 47) #[] #[qk Bj,qk Bx,qk Bn],.int .i64 lim] w fun e w'=> ∃g' v qs,e=.returned v/\GStep n0 g w g' w'/\g'.st=g.st/\MqsAt (fun b=>g'.free b/\w.heap.size<=b) w' v qs/\qs.map (·.1)=qgo (((qen g s sN r (-1)).map (qb7 r)).take (qk3 lim (qen g s sN r (-1)).length)):=by
 obtain⟨vha,vb,vv,va,vt,vh,hj⟩:=hj;exact qt4 (all:=fun γ=>qen γ s sN r (-1)) (V:=EachV (fun b=>b<w.heap.size/\g.free b) w.heap.size n0 w) (U:=fun b=>b<w.heap.size/\g.free b) hg hs hn0 (qej Tryz.func47 (by kernel_rfl) rfl)
  (qz7 hr hj (fun b hb=>hb.1) hsS hsN ⟨qe b1,f1⟩ b1 ⟨qe b2,f2⟩ b2 ⟨qe b3,f3⟩ b3) (fun b hb=>hb.2) (fun X hX=>⟨fun b hb=>hX.block b hb.1 hb.1,hX.size,Nat.le_trans hn0 hX.size⟩) (fun X Y hV hK=>hV.keep (fun b hb=>hb.1) hK (fun b hb=>hb.1)) hfew ⟨by have:=qlv hr.formed;omega,by have:=qov hr.formed r.body.length (Nat.le_refl _);rw [qmi hr.formed] at this;have:=qou hr.formed;omega⟩ lim
theorem q56 (n:Nat):qk3 (-1) n=n:=by unfold qk3;rw [if_pos (by omega)]
theorem qj7 {n0:Nat}{Ss:List Nat}{g:Gh}{w:World}(hg:GInv g w)(hs:qfl Ss g)(hn0:n0<=w.heap.size){J:Nat}{r:RuleD}(hr:qel r)(hj:JoinIs g w J r){s sN:Option Nat}(hsS: ∀S,s=some S->S∈Ss)(hsN: ∀S,sN=some S->S∈Ss){Bj Bx Bn:Nat}
  (b1:w.heap[Bj]?=some (.cells #[qk J] 31 (0,0))) (b2:w.heap[Bx]?=some (.cells #[qaz s] 37 (0,0))) (b3:w.heap[Bn]?=some (.cells #[qaz sN] 37 (0,0))) (f1:g.free Bj) (f2:g.free Bx) (f3:g.free Bn) (hfew:(qen g s sN r (-1)).length<=67108864):
  Calls prog 19 #[.func (.func 47) #[] #[qk Bj,qk Bx,qk Bn],.int .i64 (-1)] w fun e w'=> ∃g' v qs,e=.returned v/\GStep n0 g w g' w'/\g'.st=g.st/\MqsAt (fun b=>g'.free b/\w.heap.size<=b) w' v qs/\qs.map (·.1)=qd0 (qcn g s sN r.body) r:=by
 refine(qsv hg hs hn0 hr hj hsS hsN b1 b2 b3 f1 f2 f3 hfew (-1)).mono ?_;rintro e w' ⟨g',v,qs,h1,h2,h3,h4,h5⟩;refine⟨g',v,qs,h1,h2,h3,h4,?_⟩;rw [h5,q56,←qld hg s sN hr,←length_map (f:=qb7 r),take_length]
def gh0:Gh:=⟨fun _=>none,fun _=>none,fun _=>none⟩
theorem qlf (w:World):GInv gh0 w:=⟨fun S c h=>(by cases h),fun b S T h=>(by cases h),fun b T h=>(by cases h),fun b o h=>(by cases h),fun b o h=>(by cases h),fun b S R U h=>(by cases h)⟩
theorem qj8 (b:Nat):gh0.free b:=⟨rfl,rfl⟩
theorem q57 {g:Gh}{S:Nat}{fs:List qm}(h:g.st S=some (qd1 okF fs)):qfl [S] g:=fun S' hS'=>by
 rw [mem_singleton.1 hS'];exact⟨_,h,qo7 fs⟩
theorem qxh {n0:Nat}{g:Gh}{X Y:World}(h:GStep n0 gh0 X g Y):Keep (fun _=>True) X Y:=h.keep.mono fun b _ _=>qj8 b
theorem qjv {w:World}{n B t:Nat}{xs:List ByteArray}(h:w.heap[B]?=some (.cells (xs.map Value.string).toArray t (0,0)))(hn:B<n)(hl:xs.length<=1073741824):qaf n w (.slice (some ⟨B,0,none⟩) xs.length xs.length) xs:=qe3 (ql1 h hl) hn
set_option maxRecDepth 100000 in
set_option maxHeartbeats 2000000 in
theorem qkr (w:World):Calls prog 8 #[] w fun e w'=>e=.returned (.bool true)/\Keep (fun b=>b<w.heap.size) w w':=by
 obtain⟨N,hN⟩:=ex (w.heap.size);obtain⟨W0,hW0⟩:=ex ((((w.alloc (.cells #[.string ⟨#[97]⟩,.string ⟨#[98]⟩] 9)).alloc (.cells #[.string ⟨#[98]⟩,.string ⟨#[99]⟩] 9)).alloc (.cells #[.string ⟨#[99]⟩,.string ⟨#[97]⟩] 9)).alloc (.cells #[.string ⟨#[101]⟩,.slice (some ⟨w.heap.size,0,none⟩) 2 2,.string ⟨#[101]⟩,.slice (some ⟨w.heap.size+1,0,none⟩) 2 2,.string ⟨#[101]⟩,.slice (some ⟨w.heap.size+2,0,none⟩) 2 2] 52));have k0:Keep (fun _=>True) w W0:=by rw [←hW0];exact((kAl.trans kAl).trans kAl).trans kAl
 have z0:W0.heap.size=N+4:=by rw [←hW0,←hN];simp
 have p0:W0.heap[N]?=some (.cells ([bA,bB].map Value.string).toArray 9 (0,0)):=by rw [←hW0,←hN];exact(((Keep.alloc (fun _=>True) _ _).trans kAl).trans kAl).heap (qh w _) trivial
 have p1:W0.heap[N+1]?=some (.cells ([bB,bC].map Value.string).toArray 9 (0,0)):=by
  rw [←hW0,←hN];have:=qh (w.alloc (.cells #[.string ⟨#[97]⟩,.string ⟨#[98]⟩] 9)) (.cells #[.string ⟨#[98]⟩,.string ⟨#[99]⟩] 9);rw [World.size_alloc]at this;exact((Keep.alloc (fun _=>True) _ _).trans kAl).heap this trivial
 have p2:W0.heap[N+2]?=some (.cells ([bC,bA].map Value.string).toArray 9 (0,0)):=by
  rw [←hW0,←hN];have:=qh ((w.alloc (.cells #[.string ⟨#[97]⟩,.string ⟨#[98]⟩] 9)).alloc (.cells #[.string ⟨#[98]⟩,.string ⟨#[99]⟩] 9)) (.cells #[.string ⟨#[99]⟩,.string ⟨#[97]⟩] 9);rw [World.size_alloc,World.size_alloc]at this;exact(Keep.alloc (fun _=>True) _ _).heap this trivial
 have p3:W0.heap[N+3]?=some (.cells #[.string ⟨#[101]⟩,.slice (some ⟨N,0,none⟩) 2 2,.string ⟨#[101]⟩,.slice (some ⟨N+1,0,none⟩) 2 2,.string ⟨#[101]⟩,.slice (some ⟨N+2,0,none⟩) 2 2] 52 (0,0)):=by
  rw [←hW0,←hN];have:=qh (((w.alloc (.cells #[.string ⟨#[97]⟩,.string ⟨#[98]⟩] 9)).alloc (.cells #[.string ⟨#[98]⟩,.string ⟨#[99]⟩] 9)).alloc (.cells #[.string ⟨#[99]⟩,.string ⟨#[97]⟩] 9)) (.cells #[.string ⟨#[101]⟩,.slice (some ⟨w.heap.size,0,none⟩) 2 2,.string ⟨#[101]⟩,.slice (some ⟨w.heap.size+1,0,none⟩) 2 2,.string ⟨#[101]⟩,.slice (some ⟨w.heap.size+2,0,none⟩) 2 2] 52);rw [World.size_alloc,World.size_alloc,World.size_alloc]at this;exact this
 have hF:FactsIn (N+4) W0 (.slice (some ⟨N+3,0,none⟩) 3 3) qhf:=by
  refine⟨_,3,rfl,by decide,⟨by decide,by decide⟩,fun k f hk=>⟨N+3,0,rfl,by omega,?_⟩⟩
  match k,hk with
  |0,hk=>
   cases hk;refine⟨.slice (some ⟨N,0,none⟩) 2 2,fun j v hj=>?_,qjv p0 (by omega) (by decide)⟩
   match j,hj with
   |0,hj=>cases hj;exact qb p3 0 _ rfl
   |1,hj=>cases hj;exact qb p3 1 _ rfl
  |1,hk=>
   cases hk;refine⟨.slice (some ⟨N+1,0,none⟩) 2 2,fun j v hj=>?_,qjv p1 (by omega) (by decide)⟩
   match j,hj with
   |0,hj=>cases hj;exact qb p3 2 _ rfl
   |1,hj=>cases hj;exact qb p3 3 _ rfl
  |2,hk=>
   cases hk;refine⟨.slice (some ⟨N+2,0,none⟩) 2 2,fun j v hj=>?_,qjv p2 (by omega) (by decide)⟩
   match j,hj with
   |0,hj=>cases hj;exact qb p3 4 _ rfl
   |1,hj=>cases hj;exact qb p3 5 _ rfl
 have hst:=qj5 (n0:=W0.heap.size) (qlf W0) hF (by omega) (fun b _=>qj8 b) (by decide) (by decide);rw [qoi]at hst;refine hd9 ?_ hN hW0 k0 p0 p1 p2 p3 hF hst;clear hN hW0 k0 p0 p1 p2 p3 hF hst;intro XhN XhW0 Xk0 Xp0 Xp1 Xp2 Xp3 XhF Xhst
 go_enter Tryz.func8,Tryz.ntmps8
 go_wp2_with fail;rw [XhW0.o,XhN.o];refine Xhst.o.mono ?_;rintro e W1 ⟨S,g1,rfl,hs1,hst1,-,hS⟩;have h1:=qxh hs1;have hS1:g1.st S=some qhf:=by rw [hst1];unfold Gh.with;simp
 refine hd4 ?_ hs1 h1 hst1 hS1;clear hs1 h1 hst1 hS1;intro Xhs1 Xh1 Xhst1 XhS1;go_wp2_with fail;refine(q54 W1).mono ?_;rintro e W2 ⟨vh,vb,rfl,hR,k2⟩;have hcm:=qij hR (Nat.le_refl _);have i1:=Xhs1.o.inv;have s2:=GStep.below (n0:=0) i1 k2;unfold qav at hcm⊢;refine hd5 ?_ hR k2 hcm i1 s2;clear hR k2 hcm i1 s2;intro XhR Xk2 Xhcm Xi1 Xs2;go_wp2_with fail;refine Xhcm.o.mono ?_;rintro e W3 ⟨k3,⟨h0,-⟩ |⟨hro,J,vha,vbb,vv,va,vt,vhh,rfl,hj⟩⟩
 ·exact absurd q3z h0
 have i2:=Xs2.o.inv;have s3:=GStep.below (n0:=0) i2 k3;have hji:=qlz i2 hj;have hea:=qjy J (some S) (some S) W3;have hsz3:=k3.size;unfold qaz at hea;simp only [Option.map_some]at hea;clear hj;refine hd6 ?_ hro k3 i2 s3 hji hea;clear hro k3 i2 s3 hji hea;intro Xhro Xk3 Xi2 Xs3 Xhji Xhea;go_wp2_with fail;refine Xhea.o.mono ?_;rintro e W4 ⟨rfl,b1,b2,b3,z4,k4⟩;have s4:=GStep.own (n0:=0) Xs3.o.inv k4;have hji4:=Xhji.o.step s4;have i4:=s4.inv;have hfr: ∀b,W3.heap.size<=b->g1.free b:=fun b hb=>qdp Xs3.o.inv hb;have hga:=qj7 (n0:=0) (Ss:= [S]) i4 (q57 (fs:=qhf) (by rw [qoi];exact XhS1.o)) (Nat.zero_le _) Xhro.o hji4 (s:=some S) (sN:=some S) (fun S' h=>by cases h;exact mem_singleton.2 rfl) (fun S' h=>by cases h;exact mem_singleton.2 rfl) b1 (by unfold qaz;exact b2) (by unfold qaz;exact b3) (hfr _ (Nat.le_refl _)) (hfr _ (by omega)) (hfr _ (by omega)) (by
  rw [qxb i4 _ _ Xhro.o];have:=congrArg List.length (show qd0 (qcn g1 (some S) (some S) qhb.body) qhb=_ from(by unfold qcn qdi;simp only [XhS1.o,Option.getD_some];exact qxc));unfold qd0 at this;rw [qhq,length_map]at this;rw [this];decide)
 have hrf:qd0 (qcn g1 (some S) (some S) qhb.body) qhb= [⟨[bA,bC],[bA,bC,bB]⟩,⟨[bB,bA],[bB,bA,bC]⟩,⟨[bC,bB],[bC,bB,bA]⟩]:=by
  unfold qcn qdi;simp only [XhS1.o,Option.getD_some];exact qxc
 rw [hrf]at hga;clear b1 b2 b3;refine hd8 ?_ k4 s4 hji4 i4 hfr hga hrf z4;clear k4 s4 hji4 i4 hfr hga hrf z4;intro Xk4 Xs4 Xhji4 Xi4 Xhfr Xhga Xhrf Xz4;go_wp2_with fail;refine Xhga.o.mono ?_;rintro e W5 ⟨g5,v5,qs,rfl,s5,hst5,hm5,hq5⟩;have hql:qs.length=3:=by have:=congrArg List.length hq5;simpa using this
 obtain⟨q0,hq0⟩: ∃q0,qs[0]?=some q0:=⟨_,getElem?_eq_getElem (by omega)⟩;have hq01:q0.1=⟨[bA,bC],[bA,bC,bB]⟩:=by
  have:=congrArg (fun l=>l[0]?) hq5;simp only [getElem?_map,hq0]at this
  simpa using this
 have hsm: ∀m:qat,m∈qs.map (·.1)->m.head.length<=1073741824/\m.vals.length<=1073741824:=by
  rw [hq5]
  decide
 obtain⟨hin,hok⟩:=hm5.mq (by omega) (fun q hq=>hsm _ (mem_map.2 ⟨q,hq,rfl⟩));have hok0:=hok q0 (mem_of_getElem? hq0);obtain⟨av5,cv5,rfl,-,-,hel⟩:=hin;obtain⟨b,o,rfl,hb5,hcl⟩:=hel 0 q0 hq0;have c0:=hcl 0 _ rfl;have c1:=hcl 1 _ rfl;simp only [Nat.zero_mul,Nat.add_zero]at c0 c1;obtain⟨m0,vh0,vv0⟩:=q0;simp only at c0 c1 hq01;subst hq01;obtain⟨ha0,hv0⟩:=hok0;simp only at ha0 hv0;obtain⟨ah0,ch0,rfl,-,-,-⟩:=id ha0;obtain⟨avv,cvv,rfl,-,-,-⟩:=id hv0;have hS5:g5.st S=some qhf:=by rw [hst5];exact XhS1.o
 have hlen:=qz8 (s5.inv.store S qhf hS5);rw [show(qhf.length:Int)=3 from rfl]at hlen;have hj5:=Xhji4.o.step s5;rw [hql];clear hel hcl hq0 hok hm5 hq5 hql hst5 hsm;refine hd7 ?_ ha0 hv0 hlen hj5 s5 c0 c1;clear ha0 hv0 hlen hj5 s5 c0 c1;intro Xha0 Xhv0 Xhlen Xhj5 Xs5 Xc0 Xc1;go_wp2_with fail;refine(qle _ _).mono ?_;rintro e w9 ⟨rfl,hw9⟩;have hw9:=hw9.symm;subst hw9;go_wp2_with fail;refine Xhlen.o.mono ?_;rintro e W6 ⟨rfl,k6⟩;have d0:=k6.cell Xc0.o trivial;have hb6:b<W6.heap.size:=Nat.lt_of_lt_of_le hb5 k6.size;obtain⟨W7,hW7⟩:=ex (W6.alloc (.cells #[.string ⟨#[97]⟩,.string ⟨#[99]⟩] 9));have k7:Keep (fun _=>True) W6 W7:=by rw [←hW7];exact kAl
 have n7:W7.heap[W6.heap.size]?=some (.cells ([bA,bC].map Value.string).toArray 9 (0,0)):=by rw [←hW7];exact qh _ _
 have z7:W7.heap.size=W6.heap.size+1:=by rw [←hW7];simp
 have ht7:=qhk W7.heap.size _ _ _ _ W7 (qe3 (qm1 Xha0.o ((k6.trans k7).mono fun _ _ _=>trivial)) (by have:=k6.size;omega)) (qjv n7 (by omega) (by decide)) (Nat.le_refl _);rw [decide_eq_true (rfl: [bA,bC]= [bA,bC])]at ht7;refine hd6 ?_ k6 k7 n7 z7 hW7 ht7;clear k6 k7 n7 z7 hW7 ht7;intro Xk6 Xk7 Xn7 Xz7 XhW7 Xht7;go_wp2_with fail;rw [XhW7.o];refine Xht7.o.mono ?_;rintro e W8 ⟨rfl,m8,hW8⟩;have k8:Keep (fun _=>True) W7 W8:=by rw [hW8];exact Keep.drewN' _ _ _
 have e1:=k8.cell (Xk7.o.cell (Xk6.o.cell Xc1.o trivial) trivial) trivial;have hb8:b<W8.heap.size:=by have:=Xk7.o.size;have:=k8.size;omega
 obtain⟨W9,hW9⟩:=ex (W8.alloc (.cells #[.string ⟨#[97]⟩,.string ⟨#[99]⟩,.string ⟨#[98]⟩] 9));have k9:Keep (fun _=>True) W8 W9:=by rw [←hW9];exact kAl
 have n9:W9.heap[W8.heap.size]?=some (.cells ([bA,bC,bB].map Value.string).toArray 9 (0,0)):=by rw [←hW9];exact qh _ _
 have z9:W9.heap.size=W8.heap.size+1:=by rw [←hW9];simp
 have k69:=((Xk6.o.trans Xk7.o).trans k8).trans k9;have ht9:=qhk W9.heap.size _ _ _ _ W9 (qe3 (qm1 Xhv0.o (k69.mono fun _ _ _=>trivial)) (by have:=k69.size;omega)) (qjv n9 (by omega) (by decide)) (Nat.le_refl _);rw [decide_eq_true (rfl: [bA,bC,bB]= [bA,bC,bB])]at ht9;refine hd8 ?_ hW8 k8 k9 n9 z9 hW9 ht9 k69;clear hW8 k8 k9 n9 z9 hW9 ht9 k69;intro XhW8 Xk8 Xk9 Xn9 Xz9 XhW9 Xht9 Xk69;go_wp2_with fail;rw [XhW9.o];refine Xht9.o.mono ?_;rintro e WA ⟨rfl,mA,hWA⟩;have kA:Keep (fun _=>True) W9 WA:=by rw [hWA];exact Keep.drewN' _ _ _
 have k5A:=Xk69.o.trans kA;have hjA:JoinIs g5 WA J qhb:=Xhj5.o.step (GStep.own (n0:=0) Xs5.o.inv k5A);obtain⟨ja,jb,jv,jq,jt,jh,hjA⟩:=hjA;have hvar:=qjz hjA (Nat.le_refl _);rw [q30]at hvar;refine hd5 ?_ hWA kA k5A hjA hvar;clear hWA kA k5A hjA hvar;intro XhWA XkA Xk5A XhjA Xhvar;go_wp2_with fail;refine Xhvar.o.mono ?_;rintro e WB ⟨vo,rfl,ho,kB⟩;obtain⟨ao,co,rfl⟩:=qi ho;have hso:=qcw (ss:= [bX,bZ,bY]) ho (by decide);obtain⟨WC,hWC⟩:=ex (WB.alloc (.cells #[.string ⟨#[88]⟩,.string ⟨#[90]⟩,.string ⟨#[89]⟩] 9));have kC:Keep (fun _=>True) WB WC:=by rw [←hWC];exact kAl
 have nC:WC.heap[WB.heap.size]?=some (.cells ([bX,bZ,bY].map Value.string).toArray 9 (0,0)):=by rw [←hWC];exact qh _ _
 have zC:WC.heap.size=WB.heap.size+1:=by rw [←hWC];simp
 have htC:=qhk WC.heap.size _ _ _ _ WC (qe3 (qm1 hso (kC.mono fun _ _ _=>trivial)) (by omega)) (qjv nC (by omega) (by decide)) (Nat.le_refl _);rw [decide_eq_true (rfl: [bX,bZ,bY]= [bX,bZ,bY])]at htC;refine hd8 ?_ ho kB hso hWC kC nC zC htC;clear ho kB hso hWC kC nC zC htC;intro Xho XkB Xhso XhWC XkC XnC XzC XhtC;go_wp2_with fail;rw [XhWC.o];refine XhtC.o.mono ?_;rintro e WD ⟨rfl,mD,hWD⟩;have kD:Keep (fun _=>True) WC WD:=by rw [hWD];exact Keep.drewN' _ _ _
 have kAD:=(XkB.o.trans XkC.o).trans kD;have hpo:=qvz (XhjA.o.keep kAD (fun _ _=>trivial) (fun b hb=>hb.1));rw [q5y]at hpo;have hE:Keep (fun b=>b<w.heap.size) w WD:=by
  have q0:=Xk0.o.size;have q1:=Xh1.o.size;have q2:=Xk2.o.size;exact(Xk0.o.mono fun _ _ _=>trivial).trans ((Xh1.o.mono fun _ _ _=>trivial).trans ((Xk2.o.mono fun b _ h=>by omega).trans ((Xk3.o.mono fun b _ h=>by omega).trans ((Xk4.o.mono fun _ _ _=>trivial).trans ((Xs5.o.keep.mono fun b _ h=>Xhs1.o.new b (by omega) (qj8 b)).trans ((Xk5A.o.trans kAD).mono fun _ _ _=>trivial))))))
 refine hd5 ?_ hWD kD kAD hpo hE;clear hWD kD kAD hpo hE;intro XhWD XkD XkAD Xhpo XhE;go_wp2_with fail;refine Xhpo.o.mono ?_;rintro e w9 ⟨rfl,hw9⟩;have hw9:=hw9.symm;subst hw9;go_wp2_with fail;go_ret;exact⟨rfl,XhE.o⟩
end Go.Proofs
namespace Go.Ink
open Go.RowKit
section
variable {F : Fence} {n : Nat} {P : Program} {ops : Array Oper} {Q : Exit -> Act -> World -> Prop} {md : Region.Mode} {S S' : World -> Prop} {late : List Nat}
theorem ql2 (S':World->Prop)(h: ∀w,S' w->S w): ∀{fuel:Nat} {listed:Array Bool} {a:Act} {w:World},qby F n P md ops Q S' late fuel listed a w->qby F n P md ops Q S late fuel listed a w
 |0,_,_,_,hh=>hh
 |fuel+1,_,_,_,hh=>⟨hh.1,fun i hi=>wpOpIn_mono (fun a' w' h'=>⟨fun hl=>h _ (h'.1 hl),ql2 S' h h'.2⟩) (hh.2 i hi)⟩
end
theorem qxi {K:Act->World->Prop}{a:Act}{w:World}(G:World->Prop)(h:G w)(k: ∀W,G W->K a W):K a w:=k w h
end Go.Ink
namespace Go.Proofs
open Go.RowKit Go.Ink Go.Flt R4 P16
theorem qh0 {w:World}{base:Nat}{e:TypeId}{sz n:Nat}{v:Value}{xs:List Value}(h:w.ownsRow base e sz v n xs)(hn:0<n): ∃g cap,v=.slice (some ⟨g,0,none⟩) n cap/\base<=g/\g<w.heap.size/\n<=cap/\cap<=maxLen/\
  (∀j u,xs[j]?=some u->w.cell? ⟨g,j,none⟩=some u)/\ ∀j,w.frozen? ⟨g,j,none⟩=false:=by
 rcases h.2 with ⟨h1,h2⟩ |⟨g,cap,cur,h1,hb,hg,hnc,hcm,hcs,ht⟩
 ·omega
 ·refine⟨g,cap,h1,hb,qe hg,hnc,hcm,fun j u hu=>?_,fun j=>qf hg j⟩;have hj:cur.toList[j]?=some u:=by
   rw [←ht,getElem?_take]at hu;split at hu
   ·exact hu
   ·cases hu
  have:=qb hg j u (by simpa using hj)
  simpa using this
theorem qg1 {l r:List Value}{k:Nat}(j:Nat)(h:k=l.length+j)(u:Value):(l++r).set k u=l++r.set j u:=by
 subst h;rw [set_append_right _ _ (by omega),Nat.add_sub_cancel_left]
theorem qhl (A C:List TermD)(x:TermD):qo (A++x::C)=qo A++(Value.bool x.var::Value.string x.text::qo C):=by
 unfold qo;rw [flatMap_append,flatMap_cons]
 rfl
theorem qua (A C:List TermD)(x y:TermD):((qo (A++x::C)).set (A.length*2) (.bool y.var)).set (A.length*2+1) (.string y.text)=qo (A++y::C):=by
 rw [qhl,qhl,qg1 0 (by rw [qa9];rfl),qg1 1 (by rw [qa9])]
 rfl
theorem qub {A C:List TermD}{x:TermD}:(qo (A++x::C))[A.length*2]?=some (.bool x.var):=by
 rw [qhl,getElem?_append_right (by rw [qa9];exact Nat.le_refl _),qa9,Nat.sub_self];rfl
theorem quc {A C:List TermD}{x:TermD}:(qo (A++x::C))[A.length*2+1]?=some (.string x.text):=by
 rw [qhl,getElem?_append_right (by rw [qa9];omega),qa9,Nat.add_sub_cancel_left];rfl
abbrev PL:=LitD×Value
theorem qe5 (ps:List PL):(ps.flatMap qbn).length=ps.length*7:=qay qbn 7 (fun _=>rfl) ps
theorem qni (A C:List PL)(p:PL):(A++p::C).flatMap qbn=A.flatMap qbn++(qbn p++C.flatMap qbn):=by
 rw [flatMap_append,flatMap_cons]
theorem q58 (A C:List PL)(x y:PL):(((((((((A++x::C).flatMap qbn).set (A.length*7) (.int .i64 y.1.kind)).set (A.length*7+1) (.string y.1.atom.pred)).set (A.length*7+2) y.2).set (A.length*7+3) (.bool y.1.left.var)).set (A.length*7+4) (.string y.1.left.text)).set (A.length*7+5) (.bool y.1.right.var)).set (A.length*7+6) (.string y.1.right.text))=(A++y::C).flatMap qbn:=by
 rw [qni,qni,qg1 0 (by rw [qe5];rfl),qg1 1 (by rw [qe5]),qg1 2 (by rw [qe5]),qg1 3 (by rw [qe5]),qg1 4 (by rw [qe5]),qg1 5 (by rw [qe5]),qg1 6 (by rw [qe5])]
 rfl
theorem qi5 {ps:List PL}{k:Nat}{p:PL}(hk:ps[k]?=some p)(j:Nat){u:Value}(hj:(qbn p)[j]?=some u):(ps.flatMap qbn)[k*7+j]?=some u:=by
 obtain⟨hl,he⟩:=List.getElem?_eq_some_iff.1 hk;have hj7:j<7:=(List.getElem?_eq_some_iff.1 hj).1;have h1:ps=ps.take k++p::ps.drop (k+1):=by rw [←he,←drop_eq_getElem_cons hl,take_append_drop]
 have h2:(ps.take k).length=k:=by rw [length_take];omega
 rw [h1,qni,getElem?_append_right (by rw [qe5,h2];omega),qe5,h2,Nat.add_sub_cancel_left,getElem?_append_left hj7];exact hj
theorem q05 {M:LitD}(h:qct M=true):(∀t,t∈M.atom.args->t.text.size<=1073741824)/\M.left.text.size<=1073741824/\M.right.text.size<=1073741824:=by
 unfold qct at h;split at h
 ·simp only [Bool.and_eq_true,decide_eq_true_eq]at h;refine⟨fun t ht=>qhd ((qgc h.1.1).2.2 t ht),by rw [h.1.2];decide,by rw [h.2];decide⟩
 ·split at h
  ·simp only [Bool.and_eq_true,decide_eq_true_eq]at h;refine⟨fun t ht=>?_,qhd h.1.2,qhd h.2⟩;rw [eq_nil_of_length_eq_zero h.1.1.2]at ht;cases ht
  ·cases h
def qg2 (ts:List TermD)(k:Nat):List TermD:=(ts.take k).map qa8++ts.drop k
theorem qjp (ts:List TermD):qg2 ts 0=ts:=by unfold qg2;simp
theorem qr2 (ts:List TermD):qg2 ts ts.length=ts.map qa8:=by unfold qg2;simp
theorem qks (ts:List TermD)(k:Nat):(qg2 ts k).length=ts.length:=by unfold qg2;simp;omega
theorem qud {ts:List TermD}{k:Nat}{t:TermD}(h:ts[k]?=some t):qg2 ts k=(ts.take k).map qa8++t::ts.drop (k+1)/\qg2 ts (k+1)=(ts.take k).map qa8++qa8 t::ts.drop (k+1)/\((ts.take k).map qa8).length=k:=by
 obtain⟨hl,he⟩:=List.getElem?_eq_some_iff.1 h;unfold qg2;refine⟨by rw [←he,←drop_eq_getElem_cons hl],by rw [take_add_one,h,map_append,append_assoc];rfl,by simp;omega⟩
theorem qr3 {J:qba}{r:RuleD}(hr:qel r): ∀m,m∈qd0 J r->m.head.length<=1073741824/\m.vals.length<=1073741824:=fun m hm=>by
 unfold qd0 at hm;rw [qhp]at hm;obtain⟨b,-,rfl⟩:=mem_map.1 hm;unfold qb7;simp only [length_map];refine⟨by have:=qlv hr.formed;omega,?_⟩;have:=qov hr.formed r.body.length (Nat.le_refl _);rw [qmi hr.formed]at this;have:=qou hr.formed;omega
theorem q59 {r:RuleD}(h:qel r):qdj r=0:=by
 have hl:S12.looseOf r=none:=by
  unfold S12.looseOf;rw [find?_eq_none];intro x hx;obtain⟨L,hL,hk,hu⟩:=qn5.1 (h.bound x hx);have:x∈qb9 r.body:=qnf.2 ⟨L,hL,hk,by unfold LitD.uses LitD.terms;rw [if_pos (.inl hk)];exact hu⟩;simp [this]
 unfold qdj;rw [if_pos h.formed,if_pos hl]
end Go.Proofs
