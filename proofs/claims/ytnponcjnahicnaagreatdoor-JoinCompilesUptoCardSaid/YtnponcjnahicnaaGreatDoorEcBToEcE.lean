/- Parts of the proof. -/
import Derived.Test.YtnponcjnahicnaaGreatDoorLkCToEcC
set_option linter.unusedSimpArgs false
set_option linter.unusedVariables false
set_option maxRecDepth 100000
set_option maxHeartbeats 4000000
open Go.Proofs.Tryz(prog)
namespace Go.Proofs
open Go.RowKit Go.Ink Go.Flt R4 P16
attribute [local go_sem] Oper.semAt_some
section
variable {F : Fence} {n : Nat} {P : Program} {ops : Array Oper} {Q : Exit -> Act -> World -> Prop} {md : Region.Mode} {S : World -> Prop} {late : List Nat}
theorem qfn {l:List Nat}{c:Nat}{b:Array Bool}{a:Act}{w:World}(g:Region.ready md ops b=l)(m:l≠ [])
  (h: ∀i,i∈l-> ∃oi,ops[i]?=some oi/\ ∀K:Act->World->Prop,(∀a' w',(late.contains i=false->S w')->qbs F n P md ops Q S late c (b.setIfInBounds i true) a' w'->K a' w')->wpListIn F n P ops (Exit.then K Q) [oi] a w):
  qbs F n P md ops Q S late (c+1) b a w:=by
 refine⟨fun e=>(by rw [g] at e;exact absurd e m),fun k f=>?_⟩;rw [g]at f;obtain⟨oi,d,j⟩:=h k f;exact qp0 d (j (fun a' w'=>(late.contains k=false->S w')/\qbs F n P md ops Q S late c (b.setIfInBounds k true) a' w') (fun a' w' x y=>⟨x,y⟩))
abbrev AtL (F:Fence)(n:Nat)(P:Program)(md:Region.Mode)(ops:Array Oper)(Q:Exit->Act->World->Prop)(S:World->Prop)(late:List Nat)(fuel:Nat)(listed:Array Bool)(a:Act)(w:World)(i:Nat)(oi:Oper):Prop:=
 ∀K:Act->World->Prop,RowKit.Hid (∀a' w',(late.contains i=false->S w')->qbs F n P md ops Q S late fuel (listed.setIfInBounds i true) a' w'->K a' w')->wpListIn F n P ops (Exit.then K Q) [oi] a w
theorem qbc {c:Nat}{b:Array Bool}{a:Act}{w:World}(i:Nat){e:Oper}(hi:AtL F n P md ops Q S late c b a w i e)(f:ops[i]?=some e:=by rfl)(hr:Region.ready md ops b= [i]:=by kernel_rfl):qbs F n P md ops Q S late (c+1) b a w:=
 qfn hr wB fun x d=>by
  simp only [zt,yR,yf]at d;subst d;exact⟨_,f,hi⟩
theorem qft {c:Nat}{b:Array Bool}{a:Act}{w:World}(i j:Nat){e f:Oper}(hi:AtL F n P md ops Q S late c b a w i e)(h:AtL F n P md ops Q S late c b a w j f)(g:ops[i]?=some e:=by rfl)(ej:ops[j]?=some f:=by rfl)(hr:Region.ready md ops b= [i,j]:=by kernel_rfl):qbs F n P md ops Q S late (c+1) b a w:=
 qfn hr wB fun x d=>by
  simp only [zt,yR,yf]at d;rcases d with rfl |rfl
  ·exact⟨_,g,hi⟩
  ·exact⟨_,ej,h⟩
theorem qwi {c:Nat}{b:Array Bool}{a:Act}{w:World}(i j k:Nat){e f g:Oper}(hi:AtL F n P md ops Q S late c b a w i e)(l:AtL F n P md ops Q S late c b a w j f)(m:AtL F n P md ops Q S late c b a w k g)(h:ops[i]?=some e:=by rfl)(ej:ops[j]?=some f:=by rfl)(ek:ops[k]?=some g:=by rfl)(hr:Region.ready md ops b= [i,j,k]:=by kernel_rfl):qbs F n P md ops Q S late (c+1) b a w:=
 qfn hr wB fun x d=>by
  simp only [zt,yR,yf]at d;rcases d with rfl |rfl |rfl
  ·exact⟨_,h,hi⟩
  ·exact⟨_,ej,l⟩
  ·exact⟨_,ek,m⟩
theorem q50 {c:Nat}{b:Array Bool}{a:Act}{w:World}(i j k l:Nat){e f g h:Oper}(hi:AtL F n P md ops Q S late c b a w i e)(p:AtL F n P md ops Q S late c b a w j f)(q:AtL F n P md ops Q S late c b a w k g)(r:AtL F n P md ops Q S late c b a w l h)(m:ops[i]?=some e:=by rfl)(ej:ops[j]?=some f:=by rfl)(ek:ops[k]?=some g:=by rfl)(el:ops[l]?=some h:=by rfl)(hr:Region.ready md ops b= [i,j,k,l]:=by kernel_rfl):qbs F n P md ops Q S late (c+1) b a w:=
 qfn hr wB fun x d=>by
  simp only [zt,yR,yf]at d;rcases d with rfl |rfl |rfl |rfl
  ·exact⟨_,m,hi⟩
  ·exact⟨_,ej,p⟩
  ·exact⟨_,ek,q⟩
  ·exact⟨_,el,r⟩
end
section
variable {W : World} {o1 o2 o3 o4 : Obj}
theorem kk1:wD W (W.drew.alloc o1):=kDr.trans kAl
theorem kk2:wD W ((W.drew.alloc o1).alloc o2):=kk1.trans kAl
theorem kk3:wD W (((W.drew.alloc o1).alloc o2).alloc o3):=kk2.trans kAl
theorem kk4:wD W ((((W.drew.alloc o1).alloc o2).alloc o3).alloc o4):=kk3.trans kAl
end
section
variable {W : World} {o1 o2 o3 o4 : Obj} {Z : Nat}
theorem qym:((((W.alloc o1).alloc o2).alloc o3).alloc o4).drew.heap.size=W.heap.size+4:=wB
theorem qyn:wD W ((((W.alloc o1).alloc o2).alloc o3).alloc o4).drew:=(((kAl.trans kAl).trans kAl).trans kAl).trans kDr
theorem q1h (b:W.heap.size=Z):((((W.alloc o1).alloc o2).alloc o3).alloc o4).drew.heap[Z]?=some o1:=by
 subst b;exact((((Keep.alloc (fun _=>True) _ _).trans kAl).trans kAl).trans kDr).heap (qh W o1) trivial
theorem q1i (b:W.heap.size=Z):((((W.alloc o1).alloc o2).alloc o3).alloc o4).drew.heap[Z+1]?=some o2:=by
 subst b;have:=qh (W.alloc o1) o2;rw [zO]at this;exact(((Keep.alloc (fun _=>True) _ _).trans kAl).trans kDr).heap this trivial
theorem q1j (b:W.heap.size=Z):((((W.alloc o1).alloc o2).alloc o3).alloc o4).drew.heap[Z+1+1]?=some o3:=by
 subst b;have:=qh ((W.alloc o1).alloc o2) o3;rw [zO,zO]at this;exact((Keep.alloc (fun _=>True) _ _).trans kDr).heap this trivial
theorem q1k (b:W.heap.size=Z):((((W.alloc o1).alloc o2).alloc o3).alloc o4).drew.heap[Z+1+1+1]?=some o4:=by
 subst b;have:=qh (((W.alloc o1).alloc o2).alloc o3) o4;rw [zO,zO,zO]at this;exact(Keep.drew (fun _=>True) _).heap this trivial
end
theorem q1l {n0:Nat}{Ss:List Nat}{U:Nat->Prop}{nU:Nat}{W0:World}{J:Nat}{r:RuleD}{bL:List Int}{bP vb vv va vt vh:Value}(hr:qek r)(hj:JoinAt U nU W0 J r (qm r) bL bP vb vv va vt vh)(ag: ∀b,U b->b<nU)
  {sF:Nat->Option Nat} {sN:Option Nat} (a7: ∀m S,sF m=some S->S∈Ss) (a6: ∀S,sN=some S->S∈Ss) {fI:Nat} {lI:Array Value} (eI: ∀args w,(callFunc fI args).run prog w=.ok (.enter fI args) w) (a4: ∀X,EachV U nU n0 W0 X-> ∀m:Nat,Calls prog fI (#[.int .i64 (m:Int)]++lI) X fun e w'=>e=.returned (qav (sF m))/\w'=X) {first:Int} (bH:qa9 r first=false)
  {l:Nat} {Jp Jx:Nat->Gh->World->Prop} {W:World} {g0:Gh} (hinv:GInv g0 W) (aG:qf1 Ss g0) (hV:EachV U nU n0 W0 W) (hU: ∀b,U b->g0.free b)
  (hJ: ∀k γ X γ' Y,Jp k γ X->(qa8 n0 Ss).istep γ X γ' Y->Jp k γ' Y) (bD: ∀k γ X γ' Y,Jx k γ X->(qa8 n0 Ss).istep γ X γ' Y->Jx k γ' Y)
  (ad: ∀k γ X0 X args,k<(qgn g0 sF sN r first).length->Jp k γ X0->(qa8 n0 Ss).istep γ X0 γ X->(qa8 n0 Ss).inv γ X->EachV U nU n0 W0 X->W.heap.size<=X0.heap.size->(∃b,(qgn g0 sF sN r first)[k]?=some b/\qic r (qm r) b γ X0.heap.size X args)->YieldAt Fence.wide 0 prog l args X (qhg (qa8 n0 Ss) (EachV U nU n0 W0) Jp Jx k γ X))
  (h0:Jp 0 g0 W):
  Calls prog 66 #[qj J,.func (.func fI) #[] lI,qav sN,.int .i64 first,.func (.yield l) #[] #[]] W fun e W'=>(∃v,e=.returned v)/\W.heap.size<=W'.heap.size/\ ∃γ',(qa8 n0 Ss).inv γ' W'/\EachV U nU n0 W0 W'/\(Jp (qgn g0 sF sN r first).length γ' W'∨ ∃k,k<(qgn g0 sF sN r first).length/\Jx k γ' W'):=by
 obtain⟨N,hN⟩:=ex (W.heap.size);obtain⟨W1,ah⟩:=ex ((W.alloc (.cells #[qj J] 35)).alloc (.cells #[.func (.yield l) #[] #[]] 137));have k1:wD W W1:=by rw [←ah];exact kAl.trans kAl
 have z1:W1.heap.size=N+2:=by rw [←ah,←hN];simp
 have p0:W1.heap[N]?=some (.cells #[qj J] 35 (0,0)):=by rw [←ah,←hN];simp only [qah,zO];simp
 have p1:W1.heap[N+1]?=some (.cells #[.func (.yield l) #[] #[]] 137 (0,0)):=by rw [←ah,←hN];simp only [qah,zO];simp
 have a5: ∀X,wD W X->JoinAt U nU X J r (qm r) bL bP vb vv va vt vh:=fun X hX=>hj.same fun b hb=>(hX.block b (by have:=ag b hb;have:=hV.2.1;omega) wE).trans (hV.1 b hb);have a3: ∀X,wD W X->GInv g0 X:=fun X hX=>hinv.keep hX.mt;have y:=q06 (a5 W1 k1) ag (by have:=k1.size;have:=hV.2.1;omega) (a3 W1 k1) (qi7 hr.formed) hr.preds eI (fI:=fI) (lI:=lI) (sF:=sF) (stN:=sN) (fun X hX=>a4 X (hV.keep ag (k1.mt.trans (hX.mono fun b _ (h:b<W.heap.size)=>by have:=k1.size;omega)) (fun b hb=>by have:=ag b hb;have:=hV.2.1;omega))) (fun m S h=>by obtain⟨f,hf,-⟩:=aG S (a7 m S h);exact⟨f,hf⟩) (fun S h=>by obtain⟨f,hf,-⟩:=aG S (a6 S h);exact⟨f,hf⟩);obtain⟨bO,ax⟩: ∃sp,qav sN=.pointer sp:=⟨_,rfl⟩;rw [ax]at y⊢;have a0:=qb p0 0 _ rfl;have l1:N+1<W1.heap.size:=xz
 simp only [zD]at a0;have cQ:W.heap.size<=W1.heap.size:=k1.size;refine qde ?_ hr hj ag a7 a6 eI a4 bH hinv aG hV hU hJ bD ad h0;clear hr hj ag a7 a6 eI a4 bH hinv aG hV hU hJ bD ad h0;intro aZ b0 aK bt br cF cp am j aM aW bW bi bj an bg;refine hd9 ?_ hN ah k1 p0 p1 a5 a3 y ax;clear hN ah k1 p0 p1 a5 a3 y ax;intro bl bn b3 bx b6 aa bq aD b2;refine qbl Tryz.func66 rfl ?_;simp only [Tryz.ntmps66,qdm,Nat.reduceAdd,Nat.reduceSub];gi_wp2;rw [bn.o,bl.o];refine⟨wE,rfl,(zU.2 aD.o).mono ?_⟩;rintro e W2 ⟨Lk,rfl,cN,t,k2⟩;obtain⟨s,x⟩:=ex (W2.alloc (.cells #[.slice (some ⟨Lk,0,none⟩) r.body.length r.body.length] 184));obtain⟨Bl,af⟩:=ex (W2.heap.size);have k3:wD W2 s:=by rw [←x];exact kAl
 have p3:s.heap[Bl]?=some (.cells #[.slice (some ⟨Lk,0,none⟩) r.body.length r.body.length] 184 (0,0)):=by rw [←x,←af];exact qh _ _
 have al:wD W s:=(b3.o.trans (qsu k2 fun b hb=>hb)).trans k3;obtain⟨ob,aj⟩:=ex (okJ g0 sF sN r.body r.body.length);rw [aj];have cT:=qe t;have cR:W1.heap.size<=W2.heap.size:=k2.size;have cf:s.heap.size=Bl+1:=by rw [←x,←af];simp
 cases ob with
 |false=>
  have au:=q14 (sN:=sN) j.o aZ.o am.o aj;refine hd9 ?_ t k2 x af k3 p3 al aj au;clear t k2 x af k3 p3 al aj au;intro bk b4 R aJ bu bz g aL aE;gi_wp2;refine zz (v:=.tuple #[]) (by simp [results,Tryz.results66,go_sem]) rfl ?_;rw [R.o];refine⟨⟨_,rfl⟩,g.o.size,g0,⟨bq.o _ g.o,aM.o⟩,aW.o.keep aK.o g.o (fun _ _=>wE),.inl ?_⟩;rw [aE.o];exact bi.o _ _ _ _ _ bg.o ⟨GStep.own j.o g.o,rfl⟩
 |true=>
  have aw:=qzc (aa.o s al) (n:=nU) (zW aW.o.2.1 al.size) (Lk:=Lk) (ks:=qc8 g0 sF sN r.body) (k3.heap t wE) (qjy _ _ _ _) first (qh4 j.o sF sN aZ.o first am.o)
  obtain⟨steps,p⟩:=ex (qfq g0 sF sN r first);rw [show qf7 r (qda r.body (qc8 g0 sF sN r.body)) first=steps from p]at aw;have aO:=k3.heap t trivial;have bK:Keep (fun b=>b<W1.heap.size) W1 s:=k2.trans k3.mt;have a2:W2.cell? ⟨N,0,none⟩=some (qj J):=k2.cell a0 (show N<W1.heap.size from xz);have l2:N<W2.heap.size:=xz
  refine qho ?_ t k2 x af k3 p3 al aj aw p aO bK;clear t k2 x af k3 p3 al aj aw p aO bK;intro bk b4 R aJ bu bz g aL aY q aV d;gi_wp2;rw [R.o,aJ.o];refine⟨wE,rfl,(zU.2 aY.o).mono ?_⟩;rintro e W4 ⟨vo,rfl,ho,k4⟩;obtain⟨ao,co,rfl⟩:=qi ho;obtain⟨i,ap⟩:=ex (W4.alloc (.cells #[.slice ao steps.length co] 125));obtain⟨Bs,aF⟩:=ex (W4.heap.size);have k5:wD W4 i:=by rw [←ap];exact kAl
  have p5:i.heap[Bs]?=some (.cells #[.slice ao steps.length co] 125 (0,0)):=by rw [←ap,←aF];exact qh _ _
  have az:Keep (fun b=>b<s.heap.size) s i:=k4.trans k5.mt;have aB:wD W i:=g.o.trans (qsu az fun b hb=>hb);have ay:i.heap.size=Bs+1:=by rw [←ap,←aF];simp
  have cC:s.heap.size<=W4.heap.size:=k4.size;obtain⟨av,cv,cd,bJ,cP,-⟩:=id (aa.o i aB).vrow;have hS: ∀X,wD i X->X.cell? ⟨N,0,none⟩=some (qj J)/\X.cell? ⟨J,3,none⟩=some (.slice av (qm r).length cv):=fun X hX=>by
   have q1:=qb ((az.trans hX.mt).heap (d.o.heap bx.o (show N<W1.heap.size from xz)) (show N<s.heap.size by have:=R.o;have:=d.o.size;omega)) 0 _ rfl;have q2:=qb (aa.o X (aB.trans hX)).box 3 _ rfl;simp only [zD]at q1 q2;rw [cd]at q2;exact⟨q1,q2⟩
  have bG:=hS _ kDr;have cB:=fun u=>qmq (qm r).length bJ u;have cA:=fun u=>qli (qm r).length bJ u;have l5:N<i.heap.size:=by have:=az.size;have:=d.o.size;omega
  have cS:J<i.heap.size:=qe (aa.o i aB).box;refine qc9 ?_ ap aF k5 p5 az aB ho k4 hS bG;clear ap aF k5 p5 az aB ho k4 hS bG;intro bo bh b5 b7 bv bw b1 cG ae bm;gi_wp2;rw [bo.o,bh.o];refine xq (Q:=qro fun a X=> ∃V KK Bv Bk u31 u32 u33 u34 u35 u37 u38 u39 u40 u41,(X.heap.size=i.heap.size+4/\wD i X/\X.heap[V]?=some (.cells (Array.replicate (qm r).length (.string ⟨#[]⟩)) 9 (0,0))/\X.heap[KK]?=some (.cells (madeCells #[.bool false] (qm r).length) 4 (0,0))/\X.heap[Bv]?=some (.cells #[.slice (some ⟨V,0,none⟩) (qm r).length (qm r).length] 60 (0,0))/\X.heap[Bk]?=some (.cells #[.slice (some ⟨KK,0,none⟩) (qm r).length (qm r).length] 29 (0,0))/\i.heap.size<=V/\i.heap.size<=KK/\i.heap.size<=Bv/\i.heap.size<=Bk)/\a=⟨#[qj J,.func (.func fI) #[] lI,.pointer bO,.int .i64 first,.func (.yield l) #[] #[],.pointer (some ⟨N,0,none⟩),undef,undef,undef,.pointer (some ⟨N+1,0,none⟩),.pointer (some ⟨Bl,0,none⟩),.bool true,.pointer (some ⟨Bs,0,none⟩),.pointer (some ⟨Bv,0,none⟩),.pointer (some ⟨Bk,0,none⟩),undef,undef,undef,.tuple #[.slice (some ⟨Lk,0,none⟩) r.body.length r.body.length,.bool true],qj J,.func (.func fI) #[] lI,.pointer bO,.tuple #[.slice (some ⟨Lk,0,none⟩) r.body.length r.body.length,.bool true],.slice (some ⟨Lk,0,none⟩) r.body.length r.body.length,.bool true,.bool true,.bool false,qj J,.slice (some ⟨Lk,0,none⟩) r.body.length r.body.length,.int .i64 first,.slice ao steps.length co,u31,u32,u33,u34,u35,.slice (some ⟨V,0,none⟩) (qm r).length (qm r).length,u37,u38,u39,u40,u41,.slice (some ⟨KK,0,none⟩) (qm r).length (qm r).length,undef,undef,undef,undef,undef],[]⟩) ?_ ?_
  ·refine qw rfl (fun X=>X.cell? ⟨N,0,none⟩=some (qj J)/\X.cell? ⟨J,3,none⟩=some (.slice av (qm r).length cv)) [] ?_;refine qab [0,1,2,3,4,6,7,8,9,10] ?_
   iterate 10
    refine tkB rfl bm.o ?_
    try simp only [qac]
   refine qk ?_;refine q50 5 11 12 13 ?_ ?_ ?_ ?_
   all_goals
    intro K c;gi_wp2;refine c.o _ _ (fun _=>ae.o _ kk1) ?_;clear c
   refine qwi 11 12 13 ?_ ?_ ?_;rotate_left 3;refine qwi 5 12 13 ?_ ?_ ?_;rotate_left 3;refine qwi 5 11 13 ?_ ?_ ?_;rotate_left 3;refine qwi 5 11 12 ?_ ?_ ?_;rotate_left 3
   all_goals
    intro K c;gi_wp2;refine c.o _ _ (fun _=>ae.o _ kk2) ?_;clear c
   refine qft 12 13 ?_ ?_;rotate_left 2;refine qft 11 13 ?_ ?_;rotate_left 2;refine qft 11 12 ?_ ?_;rotate_left 2;refine qft 12 13 ?_ ?_;rotate_left 2;refine qft 5 13 ?_ ?_;rotate_left 2;refine qft 5 12 ?_ ?_;rotate_left 2;refine qft 11 13 ?_ ?_;rotate_left 2;refine qft 5 13 ?_ ?_;rotate_left 2;refine qft 5 11 ?_ ?_;rotate_left 2;refine qft 11 12 ?_ ?_;rotate_left 2;refine qft 5 12 ?_ ?_;rotate_left 2;refine qft 5 11 ?_ ?_;rotate_left 2
   all_goals
    intro K c;gi_wp2;refine c.o _ _ (fun _=>ae.o _ kk3) ?_;clear c
   refine qbc 13 ?_;rotate_left;refine qbc 12 ?_;rotate_left;refine qbc 13 ?_;rotate_left;refine qft 11 14 ?_ ?_;rotate_left 2;refine qbc 12 ?_;rotate_left;refine qft 11 14 ?_ ?_;rotate_left 2;refine qbc 13 ?_;rotate_left;refine qbc 12 ?_;rotate_left;refine qbc 13 ?_;rotate_left;refine qbc 5 ?_;rotate_left;refine qbc 12 ?_;rotate_left;refine qbc 5 ?_;rotate_left;refine qbc 13 ?_;rotate_left;refine qft 11 14 ?_ ?_;rotate_left 2;refine qbc 13 ?_;rotate_left;refine qbc 5 ?_;rotate_left;refine qft 11 14 ?_ ?_;rotate_left 2;refine qbc 5 ?_;rotate_left;refine qbc 12 ?_;rotate_left;refine qft 11 14 ?_ ?_;rotate_left 2;refine qbc 12 ?_;rotate_left;refine qbc 5 ?_;rotate_left;refine qft 11 14 ?_ ?_;rotate_left 2;refine qbc 5 ?_;rotate_left
   all_goals
    intro K c;gi_wp2;refine c.o _ _ (fun _=>ae.o _ (by first |exact kk4 |exact kk3)) ?_;clear c
   refine qbc 14 ?_;rotate_left;refine qbc 14 ?_;rotate_left;refine qbc 14 ?_;rotate_left;refine qbc 14 ?_;rotate_left;refine qbc 11 ?_;rotate_left;refine qbc 14 ?_;rotate_left;refine qbc 14 ?_;rotate_left;refine qbc 11 ?_;rotate_left;refine qbc 14 ?_;rotate_left;refine qbc 14 ?_;rotate_left;refine qbc 14 ?_;rotate_left;refine qbc 14 ?_;rotate_left;refine qbc 14 ?_;rotate_left;refine qbc 14 ?_;rotate_left;refine qbc 14 ?_;rotate_left;refine qbc 14 ?_;rotate_left;refine qbc 11 ?_;rotate_left;refine qbc 14 ?_;rotate_left;refine qbc 14 ?_;rotate_left;refine qbc 14 ?_;rotate_left;refine qbc 11 ?_;rotate_left;refine qbc 14 ?_;rotate_left;refine qbc 14 ?_;rotate_left;refine qbc 14 ?_;rotate_left;refine qbc 11 ?_;rotate_left;refine qbc 14 ?_;rotate_left;refine qbc 14 ?_;rotate_left;refine qbc 14 ?_;rotate_left;refine qbc 11 ?_;rotate_left;refine qbc 14 ?_;rotate_left
   all_goals
    intro K c;gi_wp2;refine c.o _ _ (fun _=>ae.o _ kk4) ?_;clear c
   all_goals refine qbc 15 ?_
   all_goals
    intro K c;gi_wp2;refine c.o _ _ (fun _=>ae.o _ kk4) ?_;clear c
   all_goals
    refine qx wA (qai ?_);refine⟨_,_,_,_,_,_,_,_,_,_,_,_,_,_,?_,rfl⟩;refine⟨qym,qyn,?_,?_,?_,?_,xz,xz,xz,xz⟩
    all_goals first |exact q1h ay |exact q1i ay |exact q1j ay |exact q1k ay
  ·rintro e cM X hR;cases e with
   |normal=>
    obtain⟨V,KK,Bv,Bk,u31,u32,u33,u34,u35,u37,u38,u39,u40,u41,⟨zX,kX,q1,q2,q3,q4,g1,g2,g3,g4⟩,rfl⟩:=hR
    dsimp only
    obtain⟨T,hT⟩:=ex (X.heap.size);have cO:i.heap.size<=T:=xz
    clear zX;obtain⟨Xs,ai⟩:=ex (((X.alloc (.cells #[.func (.func 120) #[] #[qj Bv]] 188)).alloc (.cells #[.func (.func 121) #[] #[qj T]] 189)).alloc (.cells #[.func (.func 122) #[] #[qj Bs,qj (N+1),qj (T+1),qj N,qj Bv,qj Bl,qj T,qj (T+1+1),qj Bk]] 190));have z:wD X Xs:=by rw [←ai];exact(kAl.trans kAl).trans kAl
    have bM:Xs.heap[T]?=some (.cells #[.func (.func 120) #[] #[qj Bv]] 188 (0,0)):=by
     rw [←ai];have:=qh X (.cells #[.func (.func 120) #[] #[qj Bv]] 188);rw [hT]at this;exact((Keep.alloc (fun _=>True) _ _).trans kAl).heap this trivial
    have bN:Xs.heap[T+1]?=some (.cells #[.func (.func 121) #[] #[qj T]] 189 (0,0)):=by
     rw [←ai];have:=qh (X.alloc (.cells #[.func (.func 120) #[] #[qj Bv]] 188)) (.cells #[.func (.func 121) #[] #[qj T]] 189);rw [zO,hT]at this;exact(Keep.alloc (fun _=>True) _ _).heap this trivial
    have a8:Xs.heap[T+1+1]?=some (.cells #[.func (.func 122) #[] #[qj Bs,qj (N+1),qj (T+1),qj N,qj Bv,qj Bl,qj T,qj (T+1+1),qj Bk]] 190 (0,0)):=by
     rw [←ai];have:=qh ((X.alloc (.cells #[.func (.func 120) #[] #[qj Bv]] 188)).alloc (.cells #[.func (.func 121) #[] #[qj T]] 189)) (.cells #[.func (.func 122) #[] #[qj Bs,qj (N+1),qj (T+1),qj N,qj Bv,qj Bl,qj T,qj (T+1+1),qj Bk]] 190);rw [zO,zO,hT]at this;exact this
    have ak:wD i Xs:=kX.trans z;have aA:Keep (fun b=>b<s.heap.size) s Xs:=bv.o.trans ak.mt;have aH:Keep (fun b=>b<W1.heap.size) W1 Xs:=d.o.trans (aA.mono fun b _ (h:b<W1.heap.size)=>by have:=d.o.size;omega);have b9:=bl.o;have ci:=d.o.size;have ce:s.heap.size=Bl+1:=cf;have cg:i.heap.size=Bs+1:=ay;have bI:=bu.o.size;have ar:=qw3 aZ.o b0.o aK.o bt.o br.o am.o j.o aM.o aW.o bW.o bi.o bj.o an.o bg.o aL.o (bw.o.trans ak) (Bj:=N) (By:=N+1) (Bl:=Bl) (Lk:=Lk) (Bs:=Bs) (V:=V) (KK:=KK) (Bv:=Bv) (Bk:=Bk) (Bt:=T) (Bu:=T+1) (Bp:=T+1+1) (ao:=ao) (co:=co)
     xz xz xz xz xz xz xz xz xz xz xz xz
     (by rw [q.o];exact(qf b1.o (b5.o.trans ak) (fun _ _=>wE)).mono xz)
     (aH.heap bx.o (show N<W1.heap.size from xz)) (aH.heap b6.o (show N+1<W1.heap.size from xz)) (aA.heap bz.o (show Bl<s.heap.size from xz)) (aA.heap aV.o (show Lk<s.heap.size from xz)) (by rw [q.o];exact ak.heap b7.o wE)
     (z.heap q1 wE) (z.heap q2 wE) (z.heap q3 wE) (z.heap q4 wE) bM bN a8
    have lT:T+1+1<Xs.heap.size:=qe a8;clear bM bN a8 b9 ci ce cg bI;refine qg5 ?_ kX q1 q2 q3 q4 ai z ak aA aH ar;clear kX q1 q2 q3 q4 ai z ak aA aH ar;intro cH cI cJ cK cL bp ct cs cr cq aC;gi_wp2;have aq:=bp.o;unfold qj at aq;rw [aq];clear aq;refine⟨wE,rfl,(zU.2 aC.o).mono ?_⟩;rintro e W9 ⟨⟨b,rfl⟩,ch,aR⟩;refine hd1 ?_ aR;clear aR;intro aX;gi_wp2;refine xx (yr rfl _ _ _) rfl ⟨⟨_,rfl⟩,ch,aX.o⟩
   |ret=>exact hR.elim
   |exit _=>exact hR.elim
   |goto _=>exact hR.elim
   |panic _=>exact hR.elim
   |outgrown=>exact hR.elim
theorem qyo {n0:Nat}{Ss:List Nat}{U:Nat->Prop}{nU:Nat}{W0:World}{J:Nat}{r:RuleD}{au:List Int}{av vb vv va vt vh:Value}(hr:qek r)(hj:JoinAt U nU W0 J r (qm r) au av vb vv va vt vh)(aa: ∀b,U b->b<nU)
  {s sN:Option Nat} (ad: ∀S,s=some S->S∈Ss) (ab: ∀S,sN=some S->S∈Ss) {Bj y Bn:Nat} (p:U Bj) (f:W0.heap[Bj]?=some (.cells #[qj J] 35 (0,0))) (R:U y) (i:W0.heap[y]?=some (.cells #[qav s] 42 (0,0))) (q:U Bn) (g:W0.heap[Bn]?=some (.cells #[qav sN] 42 (0,0))):
  qkr prog 65 #[qj Bj,qj y,qj Bn] (qa8 n0 Ss) (fun γ=>(qk0 γ s sN r (-1)).length) (fun γ0 k γ n X args=> ∃b,(qk0 γ0 s sN r (-1))[k]?=some b/\qic r (qm r) b γ n X args) (EachV U nU n0 W0) U:=by
 intro l Jp Jx W g0 hl hinv t hU hJ Y c h0;show Calls prog 65 #[.func (.yield l) #[] #[],qj Bj,qj y,qj Bn] W _;have a1:=qb ((t.1 Bj p).trans f) 0 _ rfl;have a2:=qb ((t.1 Bn q).trans g) 0 _ rfl;have l1:=qe ((t.1 Bj p).trans f);have l2:=qe ((t.1 Bn q).trans g);have a3:=qb (hj.same t.1).box 0 _ rfl;have l3:=qe (hj.same t.1).box;simp only [zD]at a1 a2 a3;have aK:r.head.pred.toList.isEmpty=false:=by
  have h:=qep hr.head;cases e:r.head.pred.toList with
  |nil=>rw [e] at h;exact absurd h (by rw [show(⟨#[]⟩:ByteArray).toList= [] from by first |rfl |simp];simp)
  |cons x xs=>rfl
 have a4: ∀X,EachV U nU n0 W0 X->X.cell? ⟨y,0,none⟩=some (.pointer (s.map fun S=>⟨S,0,none⟩)):=fun X hX=>by
  have:=qb ((hX.1 y R).trans i) 0 _ rfl;unfold qav at this
  simpa using this
 have d:=q1l (sF:=fun _=>s) (fI:=67) (lI:= #[qj y]) (first:= -1) hr hj aa (fun _=>ad) ab (qc0 Tryz.func67 wA rfl) (fun X hX m=>by unfold qav;exact qx8 (a4 X hX) m) qov hinv.1 hinv.2 t hU hJ Y c h0;unfold qav at a2 d;clear a4;refine qde ?_ hr hj aa ad ab p f R i q g hinv t hU hJ Y;clear hr hj aa ad ab p f R i q g hinv t hU hJ Y;intro aI aH aA aC aB aw aj ay al ax ak am aG aF aE az;refine hd3 ?_ c h0 d;clear c h0 d;intro af aD j;refine qbl Tryz.func65 rfl ?_;simp only [Tryz.ntmps65,qdm,Nat.reduceAdd,Nat.reduceSub];gi_wp2;refine⟨wE,rfl,(zU.2 j.o).mono ?_⟩;rintro e W9 ⟨⟨v,rfl⟩,ar,u⟩;refine hd1 ?_ u;clear u;intro z;gi_wp2;refine xx (yr rfl _ _ _) rfl ⟨⟨_,rfl⟩,ar,z.o⟩
end Go.Proofs
namespace Go.Proofs
open Go.RowKit Go.Ink Go.Flt R4 P16 Go.MuLone
attribute [local go_sem] Oper.semAt_some
theorem qr5 (J:Nat)(s sN:Option Nat)(w:World):Calls prog 15 #[qj J,qav s,qav sN] w fun e w'=>e=.returned (.func (.func 65) #[] #[qj w.heap.size,qj (w.heap.size+1),qj (w.heap.size+2)])/\
  w'.heap[w.heap.size]?=some (.cells #[qj J] 35 (0,0))/\w'.heap[w.heap.size+1]?=some (.cells #[qav s] 42 (0,0))/\w'.heap[w.heap.size+2]?=some (.cells #[qav sN] 42 (0,0))/\w'.heap.size=w.heap.size+3/\wD w w':=by
 unfold qav;obtain⟨f,b⟩:=ex ((s.map fun S=>(⟨S,0,none⟩:Addr)));obtain⟨g,c⟩:=ex ((sN.map fun S=>(⟨S,0,none⟩:Addr)));rw [b,c];clear b c
 go_enter Tryz.func15,Tryz.ntmps15
 go_wp2;go_ret;have p1:=qh w (.cells #[qj J] 35);have p2:=qh (w.alloc (.cells #[qj J] 35)) (.cells #[.pointer f] 42);have d:=qh ((w.alloc (.cells #[qj J] 35)).alloc (.cells #[.pointer f] 42)) (.cells #[.pointer g] 42);simp only [zO]at p2 d;refine⟨rfl,((Keep.alloc (fun _=>True) _ _).trans kAl).heap p1 wE,(Keep.alloc (fun _=>True) _ _).heap p2 wE,d,wB,(kAl.trans kAl).trans kAl⟩
theorem qhm {U:Nat->Prop}{n:Nat}{w:World}{J:Nat}{r:RuleD}{vars:List ByteArray}{p:List Int}{q vb vv va z vh:Value}(f:JoinAt U n w J r vars p q vb vv va z vh)(y:n<=w.heap.size):
  Calls prog 26 #[qj J] w fun e w'=> ∃vo,e=.returned vo/\w'.ownsRow w.heap.size 9 1 vo vars.length (vars.map .string)/\wD w w':=by
 have a0:=qb f.box 3 _ rfl;have l0:=qe f.box;have d:qal n w vv vars:=f.vrow.mono fun _ _ _ _ h=>h.2;have j:=qkn d y (fun n c h=>by
  obtain⟨a,X,i,m,h3,v⟩:=id d;rw [i]at h;injection h with h5 h6 h7
  subst h5;cases t:vars with
  |nil=>rw [t] at h6;exact h6.symm
  |cons x xs=>
   obtain⟨b,o,h,-⟩:=v 0 x (by rw [t];rfl);cases h)
 obtain⟨R,cv,rfl,-,-,-⟩:=id f.vrow;simp only [zD]at a0;refine hd3 ?_ f d j;clear f d j;intro u s g
 go_enter Tryz.func26,Tryz.ntmps26
 go_wp2_with fail;refine g.o.mono ?_;rintro e w' ⟨vo,rfl,i,m⟩;obtain⟨a9,Y,rfl⟩:=qi i;refine hd2 ?_ i m;clear i m;intro k l;go_wp2;go_ret;exact⟨_,rfl,k.o,l.o⟩
theorem qm6 {U:Nat->Prop}{n:Nat}{w:World}{J:Nat}{r:RuleD}{vars:List ByteArray}{b:List Int}{d vb vv va f vh:Value}(c:JoinAt U n w J r vars b d vb vv va f vh):
  Calls prog 25 #[qj J] w fun e w'=>e=.returned (.int .i64 (b.length:Int))/\w'=w:=by
 have a0:=qb c.box 4 _ rfl;have i:=qe c.box;obtain⟨g,h,rfl,-,-,-⟩:=id c.at';simp only [zD]at a0;clear c
 go_enter Tryz.func25,Tryz.ntmps25
 go_wp2;go_ret;exact⟨rfl,rfl⟩
theorem qyp {tag:qcv}{w:World}{S:Nat}{c:List qy}(h:StoreAt tag w S c):
  Calls prog 22 #[qj S] w fun e w'=>e=.returned (.int .i64 (c.length:Int))/\wD w w':=by
 obtain⟨T,M,MX,X,xs,R,m⟩:=h;have a0:=qb m.box 0 _ rfl;have t:=qg m.box 0;have x:=qe m.box;obtain⟨W1,l⟩:=ex (w.setCell ⟨S,0,none⟩ (.int .i32 1));have b:=qz 0 (.int .i32 1) m.box;rw [l]at b;have a3:=qb b 5 _ rfl;have r:=qb b 0 _ rfl;have u:=qg b 0;have v:=qe b;have i:=qhz m.box;have p:wD w (W1.setCell ⟨S,0,none⟩ (.int .i32 0)):=qik m.box (by rw [l];exact Keep.refl _ _);have d:=lock_free qg4 ⟨S,0,none⟩ w (by simpa using a0) t;rw [l]at d;simp only [zD]at a0 r a3;clear b l;refine hd4 ?_ m i d p;clear m i d p;intro s k j q
 go_enter_defers Tryz.func22,Tryz.ntmps22
 go_wp2_with fail;refine k.o.mono ?_;rintro e z ⟨rfl,g⟩;have g:=g.symm;subst g;go_wp2_with fail;refine j.o.mono ?_;rintro e z ⟨rfl,g⟩;have g:=g.symm;subst g;go_wp2_with fail;refine leaves_cons (f:=73) (args:= #[.pointer (some ⟨S,0,none⟩)]) wB (by simp [go_sem]) ?_;refine(unlock_deferred qg4 ⟨S,0,none⟩ .returning _ (by simpa using r) (by simpa using u)).mono ?_;rintro e U y ⟨rfl,rfl,rfl⟩;exact⟨_,xm rfl _ _ _,rfl,q.o⟩
end Go.Proofs
