/- Parts of the proof. -/
import Derived.Test.YtnponcjnahicnaaGreatDoorLkBToEcC
set_option linter.unusedSimpArgs false
set_option linter.unusedVariables false
set_option maxRecDepth 100000
set_option maxHeartbeats 4000000
open Go.Proofs.Tryz(prog)
open List(idxOf_append length_cons length_singleton)
namespace Go.Proofs
open Go.RowKit Go.Ink Go.Flt R4 P16
attribute [local go_sem] Oper.semAt_some
section
variable {F : Fence} {n : Nat} {P : Program} {ops : Array Oper} {Q : Exit -> Act -> World -> Prop} {md : Region.Mode} {S : World -> Prop} {late : List Nat}
theorem qgh {l:List Nat}{c:Nat}{b:Array Bool}{a:Act}{w:World}(m:Region.ready md ops b=l)(q:l≠ [])
  (h: ∀i,i∈l-> ∃oi,ops[i]?=some oi/\ ∀K:Act->World->Prop,(∀a' w',(late.contains i=false->S w')->qb6 F n P md ops Q S late c (b.setIfInBounds i true) a' w'->K a' w')->wpListIn F n P ops (Exit.then K Q) [oi] a w):
  qb6 F n P md ops Q S late (c+1) b a w:=by
 refine⟨fun e=>(by rw [m] at e;exact absurd e q),fun k g=>?_⟩;rw [m]at g;obtain⟨oi,d,p⟩:=h k g;exact qrw d (p (fun a' w'=>(late.contains k=false->S w')/\qb6 F n P md ops Q S late c (b.setIfInBounds k true) a' w') (fun a' w' x y=>⟨x,y⟩))
abbrev AtL (F:Fence)(n:Nat)(P:Program)(md:Region.Mode)(ops:Array Oper)(Q:Exit->Act->World->Prop)(S:World->Prop)(late:List Nat)(fuel:Nat)(listed:Array Bool)(a:Act)(w:World)(i:Nat)(oi:Oper):Prop:=
 ∀K:Act->World->Prop,RowKit.Hid (∀a' w',(late.contains i=false->S w')->qb6 F n P md ops Q S late fuel (listed.setIfInBounds i true) a' w'->K a' w')->wpListIn F n P ops (Exit.then K Q) [oi] a w
theorem qbm {c:Nat}{b:Array Bool}{a:Act}{w:World}(i:Nat){e:Oper}(hi:AtL F n P md ops Q S late c b a w i e)(g:ops[i]?=some e:=by rfl)(hr:Region.ready md ops b= [i]:=by kernel_rfl):qb6 F n P md ops Q S late (c+1) b a w:=
 qgh hr wC fun x d=>by
  simp only [zw,yS,yf]at d;subst d;exact⟨_,g,hi⟩
theorem qgp {c:Nat}{b:Array Bool}{a:Act}{w:World}(i j:Nat){e g:Oper}(hi:AtL F n P md ops Q S late c b a w i e)(l:AtL F n P md ops Q S late c b a w j g)(h:ops[i]?=some e:=by rfl)(ej:ops[j]?=some g:=by rfl)(hr:Region.ready md ops b= [i,j]:=by kernel_rfl):qb6 F n P md ops Q S late (c+1) b a w:=
 qgh hr wC fun x d=>by
  simp only [zw,yS,yf]at d;rcases d with rfl |rfl
  ·exact⟨_,h,hi⟩
  ·exact⟨_,ej,l⟩
theorem qzk {c:Nat}{b:Array Bool}{a:Act}{w:World}(i j k:Nat){e g h:Oper}(hi:AtL F n P md ops Q S late c b a w i e)(m:AtL F n P md ops Q S late c b a w j g)(p:AtL F n P md ops Q S late c b a w k h)(l:ops[i]?=some e:=by rfl)(ej:ops[j]?=some g:=by rfl)(ek:ops[k]?=some h:=by rfl)(hr:Region.ready md ops b= [i,j,k]:=by kernel_rfl):qb6 F n P md ops Q S late (c+1) b a w:=
 qgh hr wC fun x d=>by
  simp only [zw,yS,yf]at d;rcases d with rfl |rfl |rfl
  ·exact⟨_,l,hi⟩
  ·exact⟨_,ej,m⟩
  ·exact⟨_,ek,p⟩
theorem q94 {c:Nat}{b:Array Bool}{a:Act}{w:World}(i j k l:Nat){e g h m:Oper}(hi:AtL F n P md ops Q S late c b a w i e)(q:AtL F n P md ops Q S late c b a w j g)(s:AtL F n P md ops Q S late c b a w k h)(t:AtL F n P md ops Q S late c b a w l m)(p:ops[i]?=some e:=by rfl)(ej:ops[j]?=some g:=by rfl)(ek:ops[k]?=some h:=by rfl)(el:ops[l]?=some m:=by rfl)(hr:Region.ready md ops b= [i,j,k,l]:=by kernel_rfl):qb6 F n P md ops Q S late (c+1) b a w:=
 qgh hr wC fun x d=>by
  simp only [zw,yS,yf]at d;rcases d with rfl |rfl |rfl |rfl
  ·exact⟨_,p,hi⟩
  ·exact⟨_,ej,q⟩
  ·exact⟨_,ek,s⟩
  ·exact⟨_,el,t⟩
end
section
variable {W : World} {o1 o2 o3 o4 : Obj}
theorem kk1:wE W (W.drew.alloc o1):=kDr.trans kAl
theorem kk2:wE W ((W.drew.alloc o1).alloc o2):=kk1.trans kAl
theorem kk3:wE W (((W.drew.alloc o1).alloc o2).alloc o3):=kk2.trans kAl
theorem kk4:wE W ((((W.drew.alloc o1).alloc o2).alloc o3).alloc o4):=kk3.trans kAl
end
section
variable {W : World} {o1 o2 o3 o4 : Obj} {Z : Nat}
theorem q17:((((W.alloc o1).alloc o2).alloc o3).alloc o4).drew.heap.size=W.heap.size+4:=wC
theorem q18:wE W ((((W.alloc o1).alloc o2).alloc o3).alloc o4).drew:=(((kAl.trans kAl).trans kAl).trans kAl).trans kDr
theorem q5f (b:W.heap.size=Z):((((W.alloc o1).alloc o2).alloc o3).alloc o4).drew.heap[Z]?=some o1:=by
 subst b;exact((((Keep.alloc (fun _=>True) _ _).trans kAl).trans kAl).trans kDr).heap (qh W o1) trivial
theorem q5g (b:W.heap.size=Z):((((W.alloc o1).alloc o2).alloc o3).alloc o4).drew.heap[Z+1]?=some o2:=by
 subst b;have:=qh (W.alloc o1) o2;rw [zO]at this;exact(((Keep.alloc (fun _=>True) _ _).trans kAl).trans kDr).heap this trivial
theorem q5h (b:W.heap.size=Z):((((W.alloc o1).alloc o2).alloc o3).alloc o4).drew.heap[Z+1+1]?=some o3:=by
 subst b;have:=qh ((W.alloc o1).alloc o2) o3;rw [zO,zO]at this;exact((Keep.alloc (fun _=>True) _ _).trans kDr).heap this trivial
theorem q5i (b:W.heap.size=Z):((((W.alloc o1).alloc o2).alloc o3).alloc o4).drew.heap[Z+1+1+1]?=some o4:=by
 subst b;have:=qh (((W.alloc o1).alloc o2).alloc o3) o4;rw [zO,zO,zO]at this;exact(Keep.drew (fun _=>True) _).heap this trivial
end
theorem q5j {n0:Nat}{Ss:List Nat}{U:Nat->Prop}{nU:Nat}{W0:World}{J:Nat}{r:RuleD}{pos:List Int}{bP vb vv va vt vh:Value}(hr:qc1 r)(hj:JoinAt U nU W0 J r (qu r) pos bP vb vv va vt vh)(aj: ∀b,U b->b<nU)
  {sF:Nat->Option Nat} {sN:Option Nat} (ba: ∀m S,sF m=some S->S∈Ss) (a9: ∀S,sN=some S->S∈Ss) {fI:Nat} {lI:Array Value} (eI: ∀args w,(callFunc fI args).run prog w=.ok (.enter fI args) w) (a7: ∀X,EachV U nU n0 W0 X-> ∀m:Nat,Calls prog fI (#[.int .i64 (m:Int)]++lI) X fun e w'=>e=.returned (qa1 (sF m))/\w'=X) {first:Int} (bI:qbk r first=false)
  {l:Nat} {Jp Jx:Nat->Gh->World->Prop} {W:World} {g0:Gh} (hinv:GInv g0 W) (aJ:qfr Ss g0) (hV:EachV U nU n0 W0 W) (hU: ∀b,U b->g0.free b)
  (hJ: ∀k γ X γ' Y,Jp k γ X->(qb7 n0 Ss).istep γ X γ' Y->Jp k γ' Y) (bF: ∀k γ X γ' Y,Jx k γ X->(qb7 n0 Ss).istep γ X γ' Y->Jx k γ' Y)
  (ag: ∀k γ X0 X args,k<(qhe g0 sF sN r first).length->Jp k γ X0->(qb7 n0 Ss).istep γ X0 γ X->(qb7 n0 Ss).inv γ X->EachV U nU n0 W0 X->W.heap.size<=X0.heap.size->(∃b,(qhe g0 sF sN r first)[k]?=some b/\qml r (qu r) b γ X0.heap.size X args)->YieldAt Fence.wide 0 prog l args X (qh5 (qb7 n0 Ss) (EachV U nU n0 W0) Jp Jx k γ X))
  (h0:Jp 0 g0 W):
  Calls prog 66 #[qk J,.func (.func fI) #[] lI,qa1 sN,.int .i64 first,.func (.yield l) #[] #[]] W fun e W'=>(∃v,e=.returned v)/\W.heap.size<=W'.heap.size/\ ∃γ',(qb7 n0 Ss).inv γ' W'/\EachV U nU n0 W0 W'/\(Jp (qhe g0 sF sN r first).length γ' W'∨ ∃k,k<(qhe g0 sF sN r first).length/\Jx k γ' W'):=by
 obtain⟨N,hN⟩:=ex (W.heap.size);obtain⟨W1,ak⟩:=ex ((W.alloc (.cells #[qk J] 35)).alloc (.cells #[.func (.yield l) #[] #[]] 137));have k1:wE W W1:=by rw [←ak];exact kAl.trans kAl
 have z1:W1.heap.size=N+2:=by rw [←ak,←hN];simp
 have p0:W1.heap[N]?=some (.cells #[qk J] 35 (0,0)):=by rw [←ak,←hN];simp only [qar,zO];simp
 have p1:W1.heap[N+1]?=some (.cells #[.func (.yield l) #[] #[]] 137 (0,0)):=by rw [←ak,←hN];simp only [qar,zO];simp
 have a8: ∀X,wE W X->JoinAt U nU X J r (qu r) pos bP vb vv va vt vh:=fun X hX=>hj.same fun b hb=>(hX.block b (by have:=aj b hb;have:=hV.2.1;omega) wF).trans (hV.1 b hb);have a6: ∀X,wE W X->GInv g0 X:=fun X hX=>hinv.keep hX.mt;have aa:=q2u (a8 W1 k1) aj (by have:=k1.size;have:=hV.2.1;omega) (a6 W1 k1) (qj4 hr.formed) hr.preds eI (fI:=fI) (lI:=lI) (sF:=sF) (stN:=sN) (fun X hX=>a7 X (hV.keep aj (k1.mt.trans (hX.mono fun b _ (h:b<W.heap.size)=>by have:=k1.size;omega)) (fun b hb=>by have:=aj b hb;have:=hV.2.1;omega))) (fun m S h=>by obtain⟨f,hf,-⟩:=aJ S (ba m S h);exact⟨f,hf⟩) (fun S h=>by obtain⟨f,hf,-⟩:=aJ S (a9 S h);exact⟨f,hf⟩);obtain⟨bO,aA⟩: ∃sp,qa1 sN=.pointer sp:=⟨_,rfl⟩;rw [aA]at aa⊢;have a0:=qb p0 0 _ rfl;have l1:N+1<W1.heap.size:=wA
 simp only [zD]at a0;have cS:W.heap.size<=W1.heap.size:=k1.size;refine qby ?_ hr hj aj ba a9 eI a7 bI hinv aJ hV hU hJ bF ag h0;clear hr hj aj ba a9 eI a7 bI hinv aJ hV hU hJ bF ag h0;intro a4 b0 aN bu bt cH cp aq q aP aZ bW bk bl ar bi;refine hd9 ?_ hN ak k1 p0 p1 a8 a6 aa aA;clear hN ak k1 p0 p1 a8 a6 aa aA;intro bn bp b3 bz b6 ae bs aG b2;refine qbr Tryz.func66 rfl ?_;simp only [Tryz.ntmps66,qdy,Nat.reduceAdd,Nat.reduceSub];gi_wp2;rw [bp.o,bn.o];refine⟨wF,rfl,(zU.2 aG.o).mono ?_⟩;rintro e W2 ⟨Lk,rfl,cP,z,k2⟩;obtain⟨y,R⟩:=ex (W2.alloc (.cells #[.slice (some ⟨Lk,0,none⟩) r.body.length r.body.length] 184));obtain⟨Bl,ai⟩:=ex (W2.heap.size);have k3:wE W2 y:=by rw [←R];exact kAl
 have p3:y.heap[Bl]?=some (.cells #[.slice (some ⟨Lk,0,none⟩) r.body.length r.body.length] 184 (0,0)):=by rw [←R,←ai];exact qh _ _
 have ap:wE W y:=(b3.o.trans (qut k2 fun b hb=>hb)).trans k3;obtain⟨ob,am⟩:=ex (okJ g0 sF sN r.body r.body.length);rw [am];have cV:=qe z;have cT:W1.heap.size<=W2.heap.size:=k2.size;have cf:y.heap.size=Bl+1:=by rw [←R,←ai];simp
 cases ob with
 |false=>
  have ay:=q57 (sN:=sN) q.o a4.o aq.o am;refine hd9 ?_ z k2 R ai k3 p3 ap am ay;clear z k2 R ai k3 p3 ap am ay;intro bm b4 ad aM bv bD g aO aH;gi_wp2;refine yA (v:=.tuple #[]) (by simp [results,Tryz.results66,go_sem]) rfl ?_;rw [ad.o];refine⟨⟨_,rfl⟩,g.o.size,g0,⟨bs.o _ g.o,aP.o⟩,aZ.o.keep aN.o g.o (fun _ _=>wF),.inl ?_⟩;rw [aH.o];exact bk.o _ _ _ _ _ bi.o ⟨GStep.own q.o g.o,rfl⟩
 |true=>
  have az:=q2v (ae.o y ap) (n:=nU) (zW aZ.o.2.1 ap.size) (Lk:=Lk) (ks:=qdp g0 sF sN r.body) (k3.heap z wF) (qky _ _ _ _) first (qiy q.o sF sN a4.o first aq.o)
  obtain⟨t,s⟩:=ex (qgm g0 sF sN r first);rw [show qg1 r (qdt r.body (qdp g0 sF sN r.body)) first=t from s]at az;have aR:=k3.heap z trivial;have bL:Keep (fun b=>b<W1.heap.size) W1 y:=k2.trans k3.mt;have a2:W2.cell? ⟨N,0,none⟩=some (qk J):=k2.cell a0 (show N<W1.heap.size from wA);have l2:N<W2.heap.size:=wA
  refine qhw ?_ z k2 R ai k3 p3 ap am az s aR bL;clear z k2 R ai k3 p3 ap am az s aR bL;intro bm b4 ad aM bv bD g aO a3 x aY d;gi_wp2;rw [ad.o,aM.o];refine⟨wF,rfl,(zU.2 a3.o).mono ?_⟩;rintro e W4 ⟨vo,rfl,ho,k4⟩;obtain⟨ao,co,rfl⟩:=qi ho;obtain⟨p,au⟩:=ex (W4.alloc (.cells #[.slice ao t.length co] 125));obtain⟨Bs,aI⟩:=ex (W4.heap.size);have k5:wE W4 p:=by rw [←au];exact kAl
  have p5:p.heap[Bs]?=some (.cells #[.slice ao t.length co] 125 (0,0)):=by rw [←au,←aI];exact qh _ _
  have aC:Keep (fun b=>b<y.heap.size) y p:=k4.trans k5.mt;have aE:wE W p:=g.o.trans (qut aC fun b hb=>hb);have aB:p.heap.size=Bs+1:=by rw [←au,←aI];simp
  have cC:y.heap.size<=W4.heap.size:=k4.size;obtain⟨av,cv,cd,bK,cR,-⟩:=id (ae.o p aE).vrow;have hS: ∀X,wE p X->X.cell? ⟨N,0,none⟩=some (qk J)/\X.cell? ⟨J,3,none⟩=some (.slice av (qu r).length cv):=fun X hX=>by
   have q1:=qb ((aC.trans hX.mt).heap (d.o.heap bz.o (show N<W1.heap.size from wA)) (show N<y.heap.size by have:=ad.o;have:=d.o.size;omega)) 0 _ rfl;have q2:=qb (ae.o X (aE.trans hX)).box 3 _ rfl;simp only [zD]at q1 q2;rw [cd]at q2;exact⟨q1,q2⟩
  have bH:=hS _ kDr;have cB:=fun u=>qkf (qu r).length bK u;have cA:=fun u=>qjg (qu r).length bK u;have l5:N<p.heap.size:=by have:=aC.size;have:=d.o.size;omega
  have cU:J<p.heap.size:=qe (ae.o p aE).box;refine qdx ?_ au aI k5 p5 aC aE ho k4 hS bH;clear au aI k5 p5 aC aE ho k4 hS bH;intro bq bj b5 b7 bw bx b1 cI ah bo;gi_wp2;rw [bq.o,bj.o];refine xq (Q:=qtq fun a X=> ∃V KK Bv Bk u31 u32 u33 u34 u35 u37 u38 u39 u40 u41,(X.heap.size=p.heap.size+4/\wE p X/\X.heap[V]?=some (.cells (Array.replicate (qu r).length (.string ⟨#[]⟩)) 9 (0,0))/\X.heap[KK]?=some (.cells (madeCells #[.bool false] (qu r).length) 4 (0,0))/\X.heap[Bv]?=some (.cells #[.slice (some ⟨V,0,none⟩) (qu r).length (qu r).length] 60 (0,0))/\X.heap[Bk]?=some (.cells #[.slice (some ⟨KK,0,none⟩) (qu r).length (qu r).length] 29 (0,0))/\p.heap.size<=V/\p.heap.size<=KK/\p.heap.size<=Bv/\p.heap.size<=Bk)/\a=⟨#[qk J,.func (.func fI) #[] lI,.pointer bO,.int .i64 first,.func (.yield l) #[] #[],.pointer (some ⟨N,0,none⟩),undef,undef,undef,.pointer (some ⟨N+1,0,none⟩),.pointer (some ⟨Bl,0,none⟩),.bool true,.pointer (some ⟨Bs,0,none⟩),.pointer (some ⟨Bv,0,none⟩),.pointer (some ⟨Bk,0,none⟩),undef,undef,undef,.tuple #[.slice (some ⟨Lk,0,none⟩) r.body.length r.body.length,.bool true],qk J,.func (.func fI) #[] lI,.pointer bO,.tuple #[.slice (some ⟨Lk,0,none⟩) r.body.length r.body.length,.bool true],.slice (some ⟨Lk,0,none⟩) r.body.length r.body.length,.bool true,.bool true,.bool false,qk J,.slice (some ⟨Lk,0,none⟩) r.body.length r.body.length,.int .i64 first,.slice ao t.length co,u31,u32,u33,u34,u35,.slice (some ⟨V,0,none⟩) (qu r).length (qu r).length,u37,u38,u39,u40,u41,.slice (some ⟨KK,0,none⟩) (qu r).length (qu r).length,undef,undef,undef,undef,undef],[]⟩) ?_ ?_
  ·refine qw rfl (fun X=>X.cell? ⟨N,0,none⟩=some (qk J)/\X.cell? ⟨J,3,none⟩=some (.slice av (qu r).length cv)) [] ?_;refine qq [0,1,2,3,4,6,7,8,9,10] ?_
   iterate 10
    refine tkB rfl bo.o ?_
    try simp only [qr]
   refine ql ?_;refine q94 5 11 12 13 ?_ ?_ ?_ ?_
   all_goals
    intro K c;gi_wp2;refine c.o _ _ (fun _=>ah.o _ kk1) ?_;clear c
   refine qzk 11 12 13 ?_ ?_ ?_;rotate_left 3;refine qzk 5 12 13 ?_ ?_ ?_;rotate_left 3;refine qzk 5 11 13 ?_ ?_ ?_;rotate_left 3;refine qzk 5 11 12 ?_ ?_ ?_;rotate_left 3
   all_goals
    intro K c;gi_wp2;refine c.o _ _ (fun _=>ah.o _ kk2) ?_;clear c
   refine qgp 12 13 ?_ ?_;rotate_left 2;refine qgp 11 13 ?_ ?_;rotate_left 2;refine qgp 11 12 ?_ ?_;rotate_left 2;refine qgp 12 13 ?_ ?_;rotate_left 2;refine qgp 5 13 ?_ ?_;rotate_left 2;refine qgp 5 12 ?_ ?_;rotate_left 2;refine qgp 11 13 ?_ ?_;rotate_left 2;refine qgp 5 13 ?_ ?_;rotate_left 2;refine qgp 5 11 ?_ ?_;rotate_left 2;refine qgp 11 12 ?_ ?_;rotate_left 2;refine qgp 5 12 ?_ ?_;rotate_left 2;refine qgp 5 11 ?_ ?_;rotate_left 2
   all_goals
    intro K c;gi_wp2;refine c.o _ _ (fun _=>ah.o _ kk3) ?_;clear c
   refine qbm 13 ?_;rotate_left;refine qbm 12 ?_;rotate_left;refine qbm 13 ?_;rotate_left;refine qgp 11 14 ?_ ?_;rotate_left 2;refine qbm 12 ?_;rotate_left;refine qgp 11 14 ?_ ?_;rotate_left 2;refine qbm 13 ?_;rotate_left;refine qbm 12 ?_;rotate_left;refine qbm 13 ?_;rotate_left;refine qbm 5 ?_;rotate_left;refine qbm 12 ?_;rotate_left;refine qbm 5 ?_;rotate_left;refine qbm 13 ?_;rotate_left;refine qgp 11 14 ?_ ?_;rotate_left 2;refine qbm 13 ?_;rotate_left;refine qbm 5 ?_;rotate_left;refine qgp 11 14 ?_ ?_;rotate_left 2;refine qbm 5 ?_;rotate_left;refine qbm 12 ?_;rotate_left;refine qgp 11 14 ?_ ?_;rotate_left 2;refine qbm 12 ?_;rotate_left;refine qbm 5 ?_;rotate_left;refine qgp 11 14 ?_ ?_;rotate_left 2;refine qbm 5 ?_;rotate_left
   all_goals
    intro K c;gi_wp2;refine c.o _ _ (fun _=>ah.o _ (by first |exact kk4 |exact kk3)) ?_;clear c
   refine qbm 14 ?_;rotate_left;refine qbm 14 ?_;rotate_left;refine qbm 14 ?_;rotate_left;refine qbm 14 ?_;rotate_left;refine qbm 11 ?_;rotate_left;refine qbm 14 ?_;rotate_left;refine qbm 14 ?_;rotate_left;refine qbm 11 ?_;rotate_left;refine qbm 14 ?_;rotate_left;refine qbm 14 ?_;rotate_left;refine qbm 14 ?_;rotate_left;refine qbm 14 ?_;rotate_left;refine qbm 14 ?_;rotate_left;refine qbm 14 ?_;rotate_left;refine qbm 14 ?_;rotate_left;refine qbm 14 ?_;rotate_left;refine qbm 11 ?_;rotate_left;refine qbm 14 ?_;rotate_left;refine qbm 14 ?_;rotate_left;refine qbm 14 ?_;rotate_left;refine qbm 11 ?_;rotate_left;refine qbm 14 ?_;rotate_left;refine qbm 14 ?_;rotate_left;refine qbm 14 ?_;rotate_left;refine qbm 11 ?_;rotate_left;refine qbm 14 ?_;rotate_left;refine qbm 14 ?_;rotate_left;refine qbm 14 ?_;rotate_left;refine qbm 11 ?_;rotate_left;refine qbm 14 ?_;rotate_left
   all_goals
    intro K c;gi_wp2;refine c.o _ _ (fun _=>ah.o _ kk4) ?_;clear c
   all_goals refine qbm 15 ?_
   all_goals
    intro K c;gi_wp2;refine c.o _ _ (fun _=>ah.o _ kk4) ?_;clear c
   all_goals
    refine qz wB (qah ?_);refine⟨_,_,_,_,_,_,_,_,_,_,_,_,_,_,?_,rfl⟩;refine⟨q17,q18,?_,?_,?_,?_,wA,wA,wA,wA⟩
    all_goals first |exact q5f aB |exact q5g aB |exact q5h aB |exact q5i aB
  ·rintro e cO X hR;cases e with
   |normal=>
    obtain⟨V,KK,Bv,Bk,u31,u32,u33,u34,u35,u37,u38,u39,u40,u41,⟨zX,kX,q1,q2,q3,q4,g1,g2,g3,g4⟩,rfl⟩:=hR
    dsimp only
    obtain⟨T,hT⟩:=ex (X.heap.size);have cQ:p.heap.size<=T:=wA
    clear zX;obtain⟨Xs,al⟩:=ex (((X.alloc (.cells #[.func (.func 120) #[] #[qk Bv]] 188)).alloc (.cells #[.func (.func 121) #[] #[qk T]] 189)).alloc (.cells #[.func (.func 122) #[] #[qk Bs,qk (N+1),qk (T+1),qk N,qk Bv,qk Bl,qk T,qk (T+1+1),qk Bk]] 190));have ab:wE X Xs:=by rw [←al];exact(kAl.trans kAl).trans kAl
    have bM:Xs.heap[T]?=some (.cells #[.func (.func 120) #[] #[qk Bv]] 188 (0,0)):=by
     rw [←al];have:=qh X (.cells #[.func (.func 120) #[] #[qk Bv]] 188);rw [hT]at this;exact((Keep.alloc (fun _=>True) _ _).trans kAl).heap this trivial
    have bN:Xs.heap[T+1]?=some (.cells #[.func (.func 121) #[] #[qk T]] 189 (0,0)):=by
     rw [←al];have:=qh (X.alloc (.cells #[.func (.func 120) #[] #[qk Bv]] 188)) (.cells #[.func (.func 121) #[] #[qk T]] 189);rw [zO,hT]at this;exact(Keep.alloc (fun _=>True) _ _).heap this trivial
    have bb:Xs.heap[T+1+1]?=some (.cells #[.func (.func 122) #[] #[qk Bs,qk (N+1),qk (T+1),qk N,qk Bv,qk Bl,qk T,qk (T+1+1),qk Bk]] 190 (0,0)):=by
     rw [←al];have:=qh ((X.alloc (.cells #[.func (.func 120) #[] #[qk Bv]] 188)).alloc (.cells #[.func (.func 121) #[] #[qk T]] 189)) (.cells #[.func (.func 122) #[] #[qk Bs,qk (N+1),qk (T+1),qk N,qk Bv,qk Bl,qk T,qk (T+1+1),qk Bk]] 190);rw [zO,zO,hT]at this;exact this
    have an:wE p Xs:=kX.trans ab;have aD:Keep (fun b=>b<y.heap.size) y Xs:=bw.o.trans an.mt;have aK:Keep (fun b=>b<W1.heap.size) W1 Xs:=d.o.trans (aD.mono fun b _ (h:b<W1.heap.size)=>by have:=d.o.size;omega);have b9:=bn.o;have ci:=d.o.size;have ce:y.heap.size=Bl+1:=cf;have cg:p.heap.size=Bs+1:=aB;have bJ:=bv.o.size;have ax:=q0a a4.o b0.o aN.o bu.o bt.o aq.o q.o aP.o aZ.o bW.o bk.o bl.o ar.o bi.o aO.o (bx.o.trans an) (Bj:=N) (By:=N+1) (Bl:=Bl) (Lk:=Lk) (Bs:=Bs) (V:=V) (KK:=KK) (Bv:=Bv) (Bk:=Bk) (Bt:=T) (Bu:=T+1) (Bp:=T+1+1) (ao:=ao) (co:=co)
     wA wA wA wA wA wA wA wA wA wA wA wA
     (by rw [x.o];exact(qf b1.o (b5.o.trans an) (fun _ _=>wF)).mono wA)
     (aK.heap bz.o (show N<W1.heap.size from wA)) (aK.heap b6.o (show N+1<W1.heap.size from wA)) (aD.heap bD.o (show Bl<y.heap.size from wA)) (aD.heap aY.o (show Lk<y.heap.size from wA)) (by rw [x.o];exact an.heap b7.o wF)
     (ab.heap q1 wF) (ab.heap q2 wF) (ab.heap q3 wF) (ab.heap q4 wF) bM bN bb
    have lT:T+1+1<Xs.heap.size:=qe bb;clear bM bN bb b9 ci ce cg bJ;refine qib ?_ kX q1 q2 q3 q4 al ab an aD aK ax;clear kX q1 q2 q3 q4 al ab an aD aK ax;intro cJ cK cL cM cN br ct cs cr cq aF;gi_wp2;have aw:=br.o;unfold qk at aw;rw [aw];clear aw;refine⟨wF,rfl,(zU.2 aF.o).mono ?_⟩;rintro e W9 ⟨⟨b,rfl⟩,ch,aU⟩;refine hd1 ?_ aU;clear aU;intro a1;gi_wp2;refine xy (yt rfl _ _ _) rfl ⟨⟨_,rfl⟩,ch,a1.o⟩
   |ret=>exact hR.elim
   |exit _=>exact hR.elim
   |goto _=>exact hR.elim
   |panic _=>exact hR.elim
   |outgrown=>exact hR.elim
theorem q19 {n0:Nat}{Ss:List Nat}{U:Nat->Prop}{nU:Nat}{W0:World}{J:Nat}{r:RuleD}{pos:List Int}{ax vb vv va vt vh:Value}(hr:qc1 r)(hj:JoinAt U nU W0 J r (qu r) pos ax vb vv va vt vh)(ae: ∀b,U b->b<nU)
  {s sN:Option Nat} (ag: ∀S,s=some S->S∈Ss) (af: ∀S,sN=some S->S∈Ss) {Bj Y Bn:Nat} (u:U Bj) (g:W0.heap[Bj]?=some (.cells #[qk J] 35 (0,0))) (ab:U Y) (q:W0.heap[Y]?=some (.cells #[qa1 s] 42 (0,0))) (y:U Bn) (p:W0.heap[Bn]?=some (.cells #[qa1 sN] 42 (0,0))):
  qtr prog 65 #[qk Bj,qk Y,qk Bn] (qb7 n0 Ss) (fun γ=>(qix γ s sN r (-1)).length) (fun γ0 k γ n X args=> ∃b,(qix γ0 s sN r (-1))[k]?=some b/\qml r (qu r) b γ n X args) (EachV U nU n0 W0) U:=by
 intro l Jp Jx W g0 hl hinv z hU hJ ad c h0;show Calls prog 65 #[.func (.yield l) #[] #[],qk Bj,qk Y,qk Bn] W _;have a1:=qb ((z.1 Bj u).trans g) 0 _ rfl;have a2:=qb ((z.1 Bn y).trans p) 0 _ rfl;have l1:=qe ((z.1 Bj u).trans g);have l2:=qe ((z.1 Bn y).trans p);have a3:=qb (hj.same z.1).box 0 _ rfl;have l3:=qe (hj.same z.1).box;simp only [zD]at a1 a2 a3;have aM:r.head.pred.toList.isEmpty=false:=by
  have h:=qcv hr.head;cases e:r.head.pred.toList with
  |nil=>rw [e] at h;exact absurd h (by rw [show(⟨#[]⟩:ByteArray).toList= [] from by first |rfl |simp];simp)
  |cons x xs=>rfl
 have a4: ∀X,EachV U nU n0 W0 X->X.cell? ⟨Y,0,none⟩=some (.pointer (s.map fun S=>⟨S,0,none⟩)):=fun X hX=>by
  have:=qb ((hX.1 Y ab).trans q) 0 _ rfl;unfold qa1 at this
  simpa using this
 have d:=q5j (sF:=fun _=>s) (fI:=67) (lI:= #[qk Y]) (first:= -1) hr hj ae (fun _=>ag) af (qd6 Tryz.func67 wB rfl) (fun X hX m=>by unfold qa1;exact qz7 (a4 X hX) m) qqn hinv.1 hinv.2 z hU hJ ad c h0;unfold qa1 at a2 d;clear a4;refine qby ?_ hr hj ae ag af u g ab q y p hinv z hU hJ ad;clear hr hj ae ag af u g ab q y p hinv z hU hJ ad;intro aK aJ aC aE aD ay am aA ao az an ap aI aH aG aB;refine hd3 ?_ c h0 d;clear c h0 d;intro ai aF t;refine qbr Tryz.func65 rfl ?_;simp only [Tryz.ntmps65,qdy,Nat.reduceAdd,Nat.reduceSub];gi_wp2;refine⟨wF,rfl,(zU.2 t.o).mono ?_⟩;rintro e W9 ⟨⟨v,rfl⟩,aw,R⟩;refine hd1 ?_ R;clear R;intro aa;gi_wp2;refine xy (yt rfl _ _ _) rfl ⟨⟨_,rfl⟩,aw,aa.o⟩
end Go.Proofs
namespace Go.Proofs
open Go.RowKit Go.Ink Go.Flt R4 P16 Go.MuLone
attribute [local go_sem] Oper.semAt_some
theorem qia (J:Nat)(s sN:Option Nat)(w:World):Calls prog 15 #[qk J,qa1 s,qa1 sN] w fun e w'=>e=.returned (.func (.func 65) #[] #[qk w.heap.size,qk (w.heap.size+1),qk (w.heap.size+2)])/\
  w'.heap[w.heap.size]?=some (.cells #[qk J] 35 (0,0))/\w'.heap[w.heap.size+1]?=some (.cells #[qa1 s] 42 (0,0))/\w'.heap[w.heap.size+2]?=some (.cells #[qa1 sN] 42 (0,0))/\w'.heap.size=w.heap.size+3/\wE w w':=by
 unfold qa1;obtain⟨g,b⟩:=ex ((s.map fun S=>(⟨S,0,none⟩:Addr)));obtain⟨h,c⟩:=ex ((sN.map fun S=>(⟨S,0,none⟩:Addr)));rw [b,c];clear b c
 go_enter Tryz.func15,Tryz.ntmps15
 go_wp2;go_ret;have p1:=qh w (.cells #[qk J] 35);have p2:=qh (w.alloc (.cells #[qk J] 35)) (.cells #[.pointer g] 42);have d:=qh ((w.alloc (.cells #[qk J] 35)).alloc (.cells #[.pointer g] 42)) (.cells #[.pointer h] 42);simp only [zO]at p2 d;refine⟨rfl,((Keep.alloc (fun _=>True) _ _).trans kAl).heap p1 wF,(Keep.alloc (fun _=>True) _ _).heap p2 wF,d,wC,(kAl.trans kAl).trans kAl⟩
theorem qua {U:Nat->Prop}{n:Nat}{w:World}{J:Nat}{r:RuleD}{vars:List ByteArray}{pos:List Int}{u vb vv va vt vh:Value}(g:JoinAt U n w J r vars pos u vb vv va vt vh)(Y:n<=w.heap.size):
  Calls prog 26 #[qk J] w fun e w'=> ∃vo,e=.returned vo/\w'.ownsRow w.heap.size 9 1 vo vars.length (vars.map .string)/\wE w w':=by
 have a0:=qb g.box 3 _ rfl;have l0:=qe g.box;have d:qaf n w vv vars:=g.vrow.mono fun _ _ _ _ h=>h.2;have p:=qls d Y (fun n c h=>by
  obtain⟨a,c',m,t,h3,R⟩:=id d;rw [m]at h;injection h with h5 h6 h7
  subst h5;cases y:vars with
  |nil=>rw [y] at h6;exact h6.symm
  |cons x xs=>
   obtain⟨b,o,h,-⟩:=R 0 x (by rw [y];rfl);cases h)
 obtain⟨av,cv,rfl,-,-,-⟩:=id g.vrow;simp only [zD]at a0;refine hd3 ?_ g d p;clear g d p;intro z v l
 go_enter Tryz.func26,Tryz.ntmps26
 go_wp2_with fail;refine l.o.mono ?_;rintro e w' ⟨vo,rfl,m,t⟩;obtain⟨a9,c9,rfl⟩:=qi m;refine hd2 ?_ m t;clear m t;intro q s;go_wp2;go_ret;exact⟨_,rfl,q.o,s.o⟩
theorem qwu {U:Nat->Prop}{n:Nat}{w:World}{J:Nat}{r:RuleD}{vars:List ByteArray}{pos:List Int}{c g vv d h vh:Value}(b:JoinAt U n w J r vars pos c g vv d h vh):
  Calls prog 25 #[qk J] w fun e w'=>e=.returned (.int .i64 (pos.length:Int))/\w'=w:=by
 have a0:=qb b.box 4 _ rfl;have p:=qe b.box;obtain⟨l,m,rfl,-,-,-⟩:=id b.at';simp only [zD]at a0;clear b
 go_enter Tryz.func25,Tryz.ntmps25
 go_wp2;go_ret;exact⟨rfl,rfl⟩
theorem qm6 {tag:qde}{w:World}{S:Nat}{c:List qj}(h:StoreAt tag w S c):
  Calls prog 22 #[qk S] w fun e w'=>e=.returned (.int .i64 (c.length:Int))/\wE w w':=by
 obtain⟨T,M,MX,vx,xs,rl,s⟩:=h;have a0:=qb s.box 0 _ rfl;have y:=qg s.box 0;have U:=qe s.box;obtain⟨W1,q⟩:=ex (w.setCell ⟨S,0,none⟩ (.int .i32 1));have b:=qaj 0 (.int .i32 1) s.box;rw [q]at b;have a3:=qb b 5 _ rfl;have v:=qb b 0 _ rfl;have z:=qg b 0;have R:=qe b;have l:=qip s.box;have t:wE w (W1.setCell ⟨S,0,none⟩ (.int .i32 0)):=qje s.box (by rw [q];exact Keep.refl _ _);have d:=lock_free qhu ⟨S,0,none⟩ w (by simpa using a0) y;rw [q]at d;simp only [zD]at a0 v a3;clear b q;refine hd4 ?_ s l d t;clear s l d t;intro x p m u
 go_enter_defers Tryz.func22,Tryz.ntmps22
 go_wp2_with fail;refine p.o.mono ?_;rintro e w9 ⟨rfl,g⟩;have g:=g.symm;subst g;go_wp2_with fail;refine m.o.mono ?_;rintro e w9 ⟨rfl,g⟩;have g:=g.symm;subst g;go_wp2_with fail;refine leaves_cons (f:=73) (args:= #[.pointer (some ⟨S,0,none⟩)]) wC (by simp [go_sem]) ?_;refine(unlock_deferred qhu ⟨S,0,none⟩ .returning _ (by simpa using v) (by simpa using z)).mono ?_;rintro e u' Y ⟨rfl,rfl,rfl⟩;exact⟨_,xm rfl _ _ _,rfl,u.o⟩
end Go.Proofs
namespace Go.Proofs
open Go.RowKit Go.Ink Go.Flt R4 P16
attribute [local go_sem] Oper.semAt_some
def qa8 (vars:List ByteArray)(ts:List TermD):List ByteArray:=ts.foldl (fun vs t=>if t.var=true then qo vs t.text else vs) vars
theorem qr5 (vars:List ByteArray)(ts:List TermD){k:Nat}{t:TermD}(h:ts[k]?=some t):qa8 vars (ts.take (k+1))=if t.var=true then qo (qa8 vars (ts.take k)) t.text else qa8 vars (ts.take k):=by
 unfold qa8;rw [zh,h,yl]
 rfl
theorem qr6 {l:List ByteArray}{s x:ByteArray}:x∈qo l s↔x∈l∨x=s:=by
 unfold qo;split
 ·rename_i h;constructor
  ·exact .inl
  ·rintro(h1 |h1)
   ·exact h1
   ·subst h1;exact h
 ·simp
theorem qwv {l:List ByteArray}{s:ByteArray}(h:l.Nodup):(qo l s).Nodup:=by
 unfold qo;split
 ·exact h
 ·rename_i hs;rw [xW];refine⟨h,wC,fun a d b c e=>?_⟩;rw [zm]at c;subst c;subst e;exact hs d
theorem qd5 (ts:List TermD): ∀vars,(∀x,x∈vars->x∈qa8 vars ts)/\(∀x,x∈vars->(qa8 vars ts).idxOf x=vars.idxOf x)/\(vars.Nodup->(qa8 vars ts).Nodup)/\(∀t,t∈ts->t.var=true->t.text∈qa8 vars ts)/\(qa8 vars ts).length<=vars.length+ts.length:=by
 induction ts with
 |nil=>intro vars;exact⟨fun _ h=>h,fun _ _=>rfl,fun h=>h,fun t y=>(by cases y),zG _⟩
 |cons t ts ih=>
  intro vars;have e:qa8 vars (t::ts)=qa8 (if t.var=true then qo vars t.text else vars) ts:=rfl;rw [e];obtain⟨g,l,m,p,s⟩:=ih (if t.var=true then qo vars t.text else vars);by_cases q:t.var=true
  ·rw [zI q]at g l m p s⊢;have v: ∀x,x∈vars->x∈qo vars t.text:=fun x d=>qr6.2 (.inl d);refine⟨fun x d=>g x (v x d),fun x d=>(l x (v x d)).trans (qv9 d _),fun h=>m (qwv h),fun u c b=>?_,?_⟩
   ·rcases zw.1 c with rfl |c
    ·exact g _ (qr6.2 (.inr rfl))
    ·exact p u c b
   ·have:(qo vars t.text).length<=vars.length+1:=by
     unfold qo;split
     ·omega
     ·rw [zR];exact zG _
    rw [length_cons];omega
  ·rw [zF q]at g l m p s⊢;refine⟨g,l,m,fun u c b=>?_,by rw [length_cons];omega⟩;rcases zw.1 c with rfl |c
   ·exact absurd b q
   ·exact p u c b
theorem qr7 {vars:List ByteArray}{ts:List TermD}{t:TermD}(h:qeq vars t):qa3 (qa8 vars ts) t=qa3 vars t:=by
 unfold qa3;by_cases b:t.var=true
 ·rw [zI b,zI b,(qd5 ts vars).2.1 _ (h b)]
 ·rw [zF b,zF b]
def qfu (s:SlotD):List Value:= [.int .i64 s.place,.string s.text]
theorem qrj:qb2 prog 127 132 2 24:=qcl (z:=.agg #[.int .i64 0,.string ⟨#[]⟩]) wB wB rfl wD wD
theorem q2a:(prog.info? 132).map (fun i=>(i.zero,i.size,i.bytes))=some (some (.agg #[.int .i64 0,.string ⟨#[]⟩]),2,24):=wB
theorem qte (n:Nat)(h:n<=1073741824)(u:World):(Instr.makeSlice 127 (.int .i64 0) (.int .i64 (n:Int))).run prog u=
  .ok (.slice (some ⟨u.heap.size,0,none⟩) 0 n) (u.alloc (.cells (madeCells #[.int .i64 0,.string ⟨#[]⟩] (n*2)) 132)):=by
 obtain⟨i0,hi,b,c,d⟩:=info_parts q2a;have h:=run_make (P:=prog) u 127 132 i0 (.agg #[.int .i64 0,.string ⟨#[]⟩]) Tryz.underlying127 hi b .i64 .i64 (0:Int) (n:Int) wA wA (by rw [d];omega) wA
 simpa [c,Value.cells]using h
structure CmAt (w:World)(Bm M Bjj J:Nat)(c0 c1 c2:Value)(vv ca ct ch:Value)(vars:List ByteArray):Prop where
 bm:w.heap[Bm]?=some (.cells #[.map (some M)] 130 (0,0))
 nums:qrd w M vars.zipIdx
 bj:w.heap[Bjj]?=some (.cells #[qk J] 35 (0,0))
 box:w.heap[J]?=some (.cells #[c0,c1,c2,vv,ca,ct,ch] 129 (0,0))
 own:w.ownsRow 0 9 1 vv vars.length (vars.map .string)
theorem CmAt.keep {w w':World}{Bm M Bjj J:Nat}{c d e vv g m l:Value}{vars:List ByteArray}{C:Nat->Prop}(h:CmAt w Bm M Bjj J c d e vv g m l vars)(hK:Keep C w w')(p:C Bm)(q:C M)(s:C Bjj)(t:C J)(u: ∀b,vv.ownBlock=some b->C b):CmAt w' Bm M Bjj J c d e vv g m l vars:=
 ⟨hK.heap h.bm p,h.nums.keep hK q,hK.heap h.bj s,hK.heap h.box t,qf h.own hK u⟩
theorem CmAt.all {w w':World}{Bm M Bjj J:Nat}{b c d vv e l g:Value}{vars:List ByteArray}(h:CmAt w Bm M Bjj J b c d vv e l g vars)(hK:wE w w'):CmAt w' Bm M Bjj J b c d vv e l g vars:=h.keep hK trivial trivial trivial trivial (fun _ _=>wF)
theorem CmAt.nodup {w:World}{Bm M Bjj J:Nat}{c d e vv g m l:Value}{vars:List ByteArray}(h:CmAt w Bm M Bjj J c d e vv g m l vars):vars.Nodup:=by
 obtain⟨_,_,_,_,b,_⟩:=h.nums;rw [qke]at b;exact b
theorem CmAt.apart {w:World}{Bm M Bjj J:Nat}{s t u vv v y x:Value}{vars:List ByteArray}(h:CmAt w Bm M Bjj J s t u vv v y x vars):(Bm≠M/\Bjj≠M/\J≠M/\Bm≠J/\Bjj≠J)/\ ∀b,vv.ownBlock=some b->b≠Bm/\b≠M/\b≠Bjj/\b≠J:=by
 obtain⟨Y,R,g,_⟩:=h.nums;have p:=h.bm;have q:=h.bj;have m:=h.box;have c: ∀{a b:Nat} {o o':Obj},w.heap[a]?=some o->w.heap[b]?=some o'->o≠o'->a≠b:=fun z l ho e=>by subst e;rw [z] at l;exact ho (yI l)
 refine⟨⟨c p g (by intro h;cases h),c q g (by intro h;cases h),c m g (by intro h;cases h),c p m (by intro h;injection h with _ h _;revert h;decide),c q m (by intro h;injection h with _ h _;revert h;decide)⟩,fun b l=>?_⟩;obtain⟨U,d⟩:=qba h.own l;exact⟨c d p (by intro h;injection h with _ h _;revert h;decide),c d g (by intro h;cases h),c d q (by intro h;injection h with _ h _;revert h;decide),c d m (by intro h;injection h with _ h _;revert h;decide)⟩
theorem CmAt.put {w:World}{Bm M Bjj J:Nat}{c0 c1 c2 ca ct ch:Value}{a:Option Addr}{c:Nat}{vars:List ByteArray}(h:CmAt w Bm M Bjj J c0 c1 c2 (.slice a vars.length c) ca ct ch vars){s:ByteArray}(hs:s.size<=1073741824)(hl:vars.length<=1073741824)(hm:s∉vars){B:Nat}(hB:w.heap[B]?=some (.cells #[.bool true,.string s] 77 (0,0))):
  ∃W5 Wd W6 g cap,(Instr.mapUpdate 130 (.map (some M)) (.string s) (.int .i64 (vars.length:Int))).run prog w=.ok () W5/\W5.drew=Wd/\
   (Builtin.append_ #[60,60] 60 #[.slice a vars.length c,.slice (some ⟨Wd.heap.size,0,none⟩) 1 1]).run prog (Wd.alloc (.cells #[.string s] 9))=.ok (.slice (some ⟨g,0,none⟩) (vars.length+1) cap) W6/\
   (∀X,X=Wd∨X=Wd.alloc (.cells #[.string s] 9)∨X=W6->X.cell? ⟨Bjj,0,none⟩=some (qk J)/\X.cell? ⟨J,3,none⟩=some (.slice a vars.length c)/\X.cell? ⟨B,1,none⟩=some (.string s))/\g<W6.heap.size/\
   CmAt (W6.setCell ⟨J,3,none⟩ (.slice (some ⟨g,0,none⟩) (vars.length+1) cap)) Bm M Bjj J c0 c1 c2 (.slice (some ⟨g,0,none⟩) (vars.length+1) cap) ca ct ch (vars++ [s])/\
   Keep (fun b=>b≠J/\b≠M/\(Value.slice a vars.length c).ownBlock≠some b) w (W6.setCell ⟨J,3,none⟩ (.slice (some ⟨g,0,none⟩) (vars.length+1) cap))/\
   ((Value.slice a vars.length c).ownBlock=some g∨w.heap.size<=g)/\W6.heap[J]?=some (.cells #[c0,c1,c2,.slice a vars.length c,ca,ct,ch] 129 (0,0))/\w.heap.size<=W6.heap.size:=by
 obtain⟨⟨n1,n2,n3,n4,n5⟩,nv⟩:=h.apart;obtain⟨W5,U,x,au,aH⟩:=qiu (P:=prog) Tryz.underlying130 qln qlo h.nums s (qlp hs) vars.length;rw [qyw hm]at x;unfold qv8 at U;obtain⟨Wd,R⟩:=ex (W5.drew);have kd:wE W5 Wd:=by rw [←R];exact kDr
 have l:Keep (fun b=>b≠M) w Wd:=au.trans kd.mt;have Y:=qf h.own l (fun b d=>(nv b d).2.1);obtain⟨es,cc,hM,_⟩:=id h.nums;have nB:B≠M:=fun e=>by subst e;rw [hM] at hB;cases hB
 have av: ∀b,(Value.slice a vars.length c).ownBlock=some b->b≠B:=fun b d e=>by
  obtain⟨cs,t⟩:=qba h.own d;subst e;rw [hB]at t;injection t with t
  injection t with _ h2 _
  revert h2
  decide
 obtain⟨v',W6,hr,ap,y,g,cap,hv,v,al⟩:=qc3 (P:=prog) qef 60 Y [.string s] rfl (by simp [Value.oneCell']) wA (ya _);subst hv;have an:(Value.slice a vars.length c).ownBlock=some g∨w.heap.size<=g:=v.imp id (fun h=>by have:=l.size;omega);have q: ∀b,(∀b',(Value.slice a vars.length c).ownBlock=some b'->b'≠b)->some b≠(Value.slice a vars.length c).ownBlock:=fun b d e=>d b e.symm rfl;have u:=l.heap h.bj n2;have m:=l.heap h.box n3;have Bd:=l.heap hB nB;have z:=y.heap u (q Bjj fun b d=>(nv b d).2.2.1);have p:=y.heap m (q J fun b d=>(nv b d).2.2.2);have B6:=y.heap Bd (q B fun b d=>av b d);have am:g≠J:=fun e=>by
  rcases v with h1 |h1
  ·exact(nv g h1).2.2.2 e
  ·have:=qe m;omega
 have aC:g≠M:=fun e=>by
  rcases v with h1 |h1
  ·exact(nv g h1).2.1 e
  ·have:=x.lt;have:=kd.size;omega
 have ao:=(x.keep kd wF).keep y (q M fun b d=>(nv b d).2.1);have hk:Keep (fun b=>b≠J) W6 (W6.setCell ⟨J,3,none⟩ (.slice (some ⟨g,0,none⟩) (vars.length+1) cap)):=kSc;have hS: ∀X:World,X.heap[Bjj]?=some (.cells #[qk J] 35 (0,0))->X.heap[J]?=some (.cells #[c0,c1,c2,.slice a vars.length c,ca,ct,ch] 129 (0,0))->X.heap[B]?=some (.cells #[.bool true,.string s] 77 (0,0))->
   X.cell? ⟨Bjj,0,none⟩=some (qk J)/\X.cell? ⟨J,3,none⟩=some (.slice a vars.length c)/\X.cell? ⟨B,1,none⟩=some (.string s):=fun X q1 q2 q3=>by
  have r1:=qb q1 0 _ rfl;have r2:=qb q2 3 _ rfl;have r3:=qb q3 1 _ rfl;simp only [zD]at r1 r2 r3;exact⟨r1,r2,r3⟩
 have ka:wE Wd (Wd.alloc (.cells #[.string s] 9)):=kAl;refine⟨W5,Wd,W6,g,cap,U,R,hr,?_,al,⟨?_,?_,?_,?_,?_⟩,?_,an,p,zW l.size y.size⟩
 ·rintro X (rfl |rfl |rfl)
  ·exact hS _ u m Bd
  ·exact hS _ (ka.heap u wF) (ka.heap m wF) (ka.heap Bd wF)
  ·exact hS _ z p B6
 ·exact hk.heap (y.heap (l.heap h.bm n1) (q Bm fun b d=>(nv b d).1)) n4
 ·exact ao.keep hk n3.symm
 ·exact hk.heap z n5
 ·have:=qaj 3 (.slice (some ⟨g,0,none⟩) (vars.length+1) cap) p;exact this
 ·rw [zR,length_singleton,zn];exact qf ap hk (fun b d=>by simp only [Value.ownBlock] at d;cases d;exact am)
 ·exact((l.mono fun b _ h=>h.2.1).trans (y.mono fun b _ h=>fun e=>h.2.2 e.symm)).trans (Keep.setCell _ _ _ (fun h=>h.1 rfl))
theorem qzl {vars:List ByteArray}{ts:List TermD}{k:Nat}{t:TermD}(h:ts[k]?=some t):((ts.take (k+1)).map (qa3 (qa8 vars (ts.take (k+1))))).flatMap qfu=((ts.take k).map (qa3 (qa8 vars (ts.take k)))).flatMap qfu++qfu (qa3 (qa8 vars (ts.take (k+1))) t):=by
 have c:(ts.take k).map (qa3 (qa8 vars (ts.take (k+1))))=(ts.take k).map (qa3 (qa8 vars (ts.take k))):=xA fun u d=>by
  have b:qeq (qa8 vars (ts.take k)) u:=fun g=>(qd5 (ts.take k) vars).2.2.2.1 u d g;have e:qa8 vars (ts.take (k+1))=qa8 (qa8 vars (ts.take k)) [t]:=by
   rw [qr5 vars ts h];rfl
  rw [e];exact qr7 b
 rw [←c,zh,h,zn,yG];simp
theorem qkl {w:World}{Bm M Bjj J:Nat}{c0 c1 c2 ca ct ch:Value}{a:Option Addr}{c:Nat}{vars:List ByteArray}(h:CmAt w Bm M Bjj J c0 c1 c2 (.slice a vars.length c) ca ct ch vars){m:Nat}{v:Value}{ts:List TermD}(a7:qak m w v ts)(hm:m<=w.heap.size)
  (aD: ∀a' n' c',v=.slice (some a') n' c'->0<ts.length->a'.block≠J/\a'.block≠M/\(Value.slice a vars.length c).ownBlock≠some a'.block) (bK: ∀t,t∈ts->t.text.size<=1073741824) (hl:vars.length+ts.length<=1073741824):
  Calls prog 60 #[v,qk Bm,qk Bjj] w fun e w'=> ∃vo vv',e=.returned vo/\w'.ownsRow w.heap.size 132 2 vo ts.length ((ts.map (qa3 (qa8 vars ts))).flatMap qfu)/\CmAt w' Bm M Bjj J c0 c1 c2 vv' ca ct ch (qa8 vars ts)/\
   Keep (fun b=>b≠J/\b≠M/\(Value.slice a vars.length c).ownBlock≠some b) w w'/\(∀b,vv'.ownBlock=some b->(Value.slice a vars.length c).ownBlock=some b∨w.heap.size<=b):=by
 obtain⟨av,cv,rfl,b2,cd,bG⟩:=id a7;obtain⟨N,hN⟩:=ex (w.heap.size);have b3:=fun u=>qte ts.length b2 u;have l1:=qe h.bm;have l2:=h.nums.lt;have l3:=qe h.bj;have l4:=qe h.box;rw [hN]at l1 l2 l3 l4;obtain⟨W0,aL⟩:=ex (w.alloc (.cells (madeCells #[.int .i64 0,.string ⟨#[]⟩] (ts.length*2)) 132));have k0:wE w W0:=by rw [←aL];exact kAl
 have o0:W0.ownsRow N 132 2 (.slice (some ⟨N,0,none⟩) 0 ts.length) 0 []:=by
  rw [←aL,←hN];exact xe w _ ts.length (zG _) (by simp only [maxLen];omega) (by simp [madeCells])
 refine qdx ?_ h a7 hm aD bK bG hN aL k0 o0;clear h a7 hm aD bK bG hN aL k0 o0;intro Xh b8 bW aJ bt bq ay bn bu b1;refine qbr Tryz.func60 rfl ?_;simp only [Tryz.ntmps60,qdy,Nat.reduceAdd,Nat.reduceSub];gi_wp2;rw [bn.o,ay.o];clear b3;gi_wp2;gi_loopw [5,15] (fun x5 i' X=> ∃(k:Nat) (vv':Value),k<=ts.length/\i'=.int .i64 (k:Int)/\CmAt X Bm M Bjj J c0 c1 c2 vv' ca ct ch (qa8 vars (ts.take k))/\X.ownsRow N 132 2 x5 k (((ts.take k).map (qa3 (qa8 vars (ts.take k)))).flatMap qfu)/\
  Keep (fun b=>b<N/\b≠J/\b≠M/\(Value.slice a vars.length c).ownBlock≠some b) w X/\(∀b,vv'.ownBlock=some b->(Value.slice a vars.length c).ownBlock=some b∨N<=b)) (fun _ i _=>ts.length-(intOf i).toNat)
 case atStart=>exact⟨0,_,wA,rfl,Xh.o.all bu.o,b1.o,bu.o.mt,fun b hb=>.inl hb⟩
 case round=>
  obtain⟨k,vv',hk,rfl,hC,ho,hK,ae⟩:=hrel;have cy:N<=wr.heap.size:=by have:=hK.size;have:=ay.o;omega
  by_cases bH:k<ts.length
  ·have ce:(k:Int)<ts.length:=by omega
   have cu:(0:Int)<=k:=wA
   obtain⟨t,ht⟩: ∃t,ts[k]?=some t:=⟨_,zB bH⟩;have l:=qr5 vars ts ht;have d:=qzl (vars:=vars) ht;obtain⟨zb,zo,rfl,cx,aN,aO⟩:=bq.o k t ht;have y:=aJ.o _ _ _ rfl wA;have bL:zb<N:=by have:=bW.o;have:=ay.o;omega
   have d0:=hK.cell aN ⟨bL,y.1,y.2.1,y.2.2⟩;have d1:=hK.cell aO ⟨bL,y.1,y.2.1,y.2.2⟩;have cz:zb<wr.heap.size:=wA
   have a8:=bt.o t (zH ht);obtain⟨a5,c5,rfl⟩:=qi ho;obtain⟨vr,tx⟩:=t;simp only at d0 d1 a8;cases vr with
   |false=>
    simp only [zz,yy]at l;have ad:qa3 (qa8 vars (ts.take (k+1))) ⟨false,tx⟩=⟨-1,tx⟩:=rfl;rw [ad]at d;obtain⟨W1,p⟩:=ex (wr.alloc (.cells #[.bool false,.string tx] 77));have k1:wE wr W1:=by rw [←p];exact kAl
    have z1:W1.heap.size=wr.heap.size+1:=by rw [←p];simp
    have ax:(qa8 vars (ts.take k)).length<=1073741824:=by have:=(qd5 (ts.take k) vars).2.2.2.2;rw [yC] at this;omega
    have g:=qf ho k1 (fun _ _=>wF);have U:=hC.all k1;obtain⟨v',W7,Y,aq,k7,g7,q,aF,ao,an⟩:=qc3 (P:=prog) qrj 127 g [.int .i64 (-1),.string tx] rfl (by simp [Value.oneCell']) wA (by have:=(hK.trans k1.mt).size;omega);subst aF;have s:CmAt W7 Bm M Bjj J c0 c1 c2 vv' ca ct ch (qa8 vars (ts.take (k+1))):=by
     rw [l];exact U.keep k7 (fun e=>by have:=(zE g _ e.symm).1;omega) (fun e=>by have:=(zE g _ e.symm).1;omega) (fun e=>by have:=(zE g _ e.symm).1;omega) (fun e=>by have:=(zE g _ e.symm).1;omega) (fun b hb e=>qc4 U.own g wD hb e.symm)
    have al:Keep (fun b=>b<N/\b≠J/\b≠M/\(Value.slice a vars.length c).ownBlock≠some b) w W7:=(hK.trans k1.mt).trans (k7.mono fun b _ (h:b<N/\_) e=>by have:=(zE g b e.symm).1;omega);have x:W7.ownsRow N 132 2 (.slice (some ⟨g7,0,none⟩) (k+1) q) (k+1) (((ts.take (k+1)).map (qa3 (qa8 vars (ts.take (k+1))))).flatMap qfu):=by
     rw [d];exact aq
    rw [z1,←p]at Y;clear g U k7 ao aq hC ho aN aO ht k1 p z1;refine qdx ?_ l d Y s al x an ae hK y;clear l d Y s al x an ae hK y;intro aW ai ah z ag R aV aj aI aU
    gi_wp2_with (gi_at_builtin;refine qcd (v:=.slice a5 k c5) (u:=.slice (some ⟨wr.heap.size+1,0,none⟩) 1 1) (v':=.slice (some ⟨g7,0,none⟩) (k+1) q) (w':=W7) rfl (.tmp 22) (.tmp 26) 127 rfl rfl rfl ah.o ?_)
    go_roundw
    case rel=>exact⟨k+1,vv',wA,by go_num,z.o,R.o,ag.o,aj.o⟩
    case measure=>simp [intOf];omega
   |true=>
    simp only [yg]at l;obtain⟨W1,p⟩:=ex (wr.alloc (.cells #[.bool true,.string tx] 77));obtain⟨B,hB⟩:=ex (wr.heap.size);have k1:wE wr W1:=by rw [←p];exact kAl
    have z1:W1.heap.size=B+1:=by rw [←p,←hB];simp
    have nb:W1.heap[B]?=some (.cells #[.bool true,.string tx] 77 (0,0)):=by rw [←p,←hB];exact qh _ _
    have aa:=hC.all k1;have aC:=hK.trans k1.mt;have au:=qf ho k1 (fun _ _=>wF);have ab:=qd7 (P:=prog) Tryz.underlying130 qln qlo qps aa.nums tx (qlp a8) true;rw [qpt aa.nodup tx]at ab;have e1:=qb hC.bm 0 _ rfl;have e2:=qb hC.bj 0 _ rfl;have e3:=qb hC.box 3 _ rfl;have e4:Bm<wr.heap.size:=qe hC.bm;have e5:Bjj<wr.heap.size:=qe hC.bj;have e6:J<wr.heap.size:=qe hC.box;obtain⟨bv,bw,rfl⟩:=qi hC.own;simp only [zD]at e1 e2 e3;by_cases ap:tx∈qa8 vars (ts.take k)
    ·rw [zI ap]at ab;simp only [yg]at ab;rw [show qo (qa8 vars (ts.take k)) tx=qa8 vars (ts.take k) from zI ap]at l;have ad:qa3 (qa8 vars (ts.take (k+1))) ⟨true,tx⟩=⟨((qa8 vars (ts.take k)).idxOf tx:Nat),⟨#[]⟩⟩:=by rw [l];rfl
     rw [ad]at d;obtain⟨ix,a4⟩:=ex ((qa8 vars (ts.take k)).idxOf tx);rw [a4]at d ab;unfold qv8 at ab;have ax:(qa8 vars (ts.take k)).length<=1073741824:=by have:=(qd5 (ts.take k) vars).2.2.2.2;rw [yC] at this;omega
     have g:=au;have U:=aa;obtain⟨v',W7,Y,aq,k7,g7,q,aF,ao,an⟩:=qc3 (P:=prog) qrj 127 g [.int .i64 (ix:Int),.string ⟨#[]⟩] rfl (by simp [Value.oneCell']) wA (by have:=(aC).size;omega);subst aF;have s:CmAt W7 Bm M Bjj J c0 c1 c2 (.slice bv (qa8 vars (ts.take k)).length bw) ca ct ch (qa8 vars (ts.take (k+1))):=by
      rw [l];exact U.keep k7 (fun e=>by have:=(zE g _ e.symm).1;omega) (fun e=>by have:=(zE g _ e.symm).1;omega) (fun e=>by have:=(zE g _ e.symm).1;omega) (fun e=>by have:=(zE g _ e.symm).1;omega) (fun b hb e=>qc4 U.own g wD hb e.symm)
     have al:Keep (fun b=>b<N/\b≠J/\b≠M/\(Value.slice a vars.length c).ownBlock≠some b) w W7:=(aC).trans (k7.mono fun b _ (h:b<N/\_) e=>by have:=(zE g b e.symm).1;omega);have x:W7.ownsRow N 132 2 (.slice (some ⟨g7,0,none⟩) (k+1) q) (k+1) (((ts.take (k+1)).map (qa3 (qa8 vars (ts.take (k+1))))).flatMap qfu):=by
      rw [d];exact aq
     rw [z1,←hB,←p]at Y;rw [←p]at ab;clear g U k7 ao aq hC ho aN aO ht k1 p z1 ap aa aC au nb e2 e3;refine qlx ?_ l d Y s al x an ae hK y a4 hB ad;clear l d Y s al x an ae hK y a4 hB ad;intro aW ai ah z ag R aV aj aI aU b7 bi bs
     gi_wp2_with (gi_at_builtin;refine qcd (v:=.slice a5 k c5) (u:=.slice (some ⟨wr.heap.size+1,0,none⟩) 1 1) (v':=.slice (some ⟨g7,0,none⟩) (k+1) q) (w':=W7) rfl (.tmp 57) (.tmp 60) 127 rfl rfl rfl ah.o ?_)
     go_roundw
     case rel=>exact⟨k+1,_,wA,by go_num,z.o,R.o,ag.o,aj.o⟩
     case measure=>simp [intOf];omega
    ·rw [zF ap]at ab;simp only [yg]at ab;rw [show qo (qa8 vars (ts.take k)) tx=qa8 vars (ts.take k)++ [tx]from zF ap]at l;have ad:qa3 (qa8 vars (ts.take (k+1))) ⟨true,tx⟩=⟨((qa8 vars (ts.take k)).length:Nat),⟨#[]⟩⟩:=by
      rw [l];unfold qa3;rw [zI rfl,idxOf_append,zF ap];simp
     rw [ad]at d;have a9:(qa8 vars (ts.take k)).length<=1073741824:=by have:=(qd5 (ts.take k) vars).2.2.2.2;rw [yC] at this;omega
     obtain⟨W5,Wd,W6,g6,aB,b4,bF,bJ,aK,cr,a1,az,aE,ak,cw⟩:=aa.put a8 a9 ap nb;obtain⟨Wf,a3⟩:=ex (W6.setCell ⟨J,3,none⟩ (.slice (some ⟨g6,0,none⟩) ((qa8 vars (ts.take k)).length+1) aB));rw [a3]at a1 az;have aZ: ∀b,(Value.slice (some ⟨g6,0,none⟩) ((qa8 vars (ts.take k)).length+1) aB).ownBlock=some b->(Value.slice a vars.length c).ownBlock=some b∨N<=b:=fun b hb=>by
      simp only [Value.ownBlock]at hb;cases hb;rcases aE with h1 |h1
      ·exact ae g6 h1
      ·exact .inr wA
     have a2:Keep (fun b=>b<N/\b≠J/\b≠M/\(Value.slice a vars.length c).ownBlock≠some b) w Wf:=aC.trans (az.mono fun b _ h=>⟨h.2.1,h.2.2.1,fun e=>by
      rcases ae b e with h1 |h1
      ·exact h.2.2.2 h1
      ·omega⟩)
     have bI:=qf au az (fun b hb=>⟨fun e=>by have:=(zE au b hb).1;omega,fun e=>by have:=(zE au b hb).1;omega,fun e=>qc4 aa.own au wD e hb⟩);have zf:wr.heap.size+1<=Wf.heap.size:=by rw [hB];have:=az.size;omega
     have b5:Wf.heap[B]?=some (.cells #[.bool true,.string tx] 77 (0,0)):=az.heap nb ⟨wA,fun e=>by have:=aa.nums.lt;omega,fun e=>by
      obtain⟨cs,aM⟩:=qba aa.own e;rw [nb]at aM;injection aM with aM
      injection aM with _ h2 _
      revert h2
      decide⟩
     have fJ:=qg ak 3;have cJ:=qb ak 3 _ rfl;have cG:=qe ak;simp only [zD]at cJ;have bx:=aK Wd (.inl rfl);have bz:=aK _ (.inr (.inl rfl));have bD:=aK _ (.inr (.inr rfl));have ax:(qa8 vars (ts.take k)).length<=1073741824:=by have:=(qd5 (ts.take k) vars).2.2.2.2;rw [yC] at this;omega
     have g:=bI;have U:=a1;obtain⟨v',W7,Y,aq,k7,g7,q,aF,ao,an⟩:=qc3 (P:=prog) qrj 127 g [.int .i64 ((qa8 vars (ts.take k)).length:Int),.string ⟨#[]⟩] rfl (by simp [Value.oneCell']) wA (by have:=(a2).size;omega);subst aF;have s:CmAt W7 Bm M Bjj J c0 c1 c2 (.slice (some ⟨g6,0,none⟩) ((qa8 vars (ts.take k)).length+1) aB) ca ct ch (qa8 vars (ts.take (k+1))):=by
      rw [l];exact U.keep k7 (fun e=>by have:=(zE g _ e.symm).1;omega) (fun e=>by have:=(zE g _ e.symm).1;omega) (fun e=>by have:=(zE g _ e.symm).1;omega) (fun e=>by have:=(zE g _ e.symm).1;omega) (fun b hb e=>qc4 U.own g wD hb e.symm)
     have al:Keep (fun b=>b<N/\b≠J/\b≠M/\(Value.slice a vars.length c).ownBlock≠some b) w W7:=(a2).trans (k7.mono fun b _ (h:b<N/\_) e=>by have:=(zE g b e.symm).1;omega);have x:W7.ownsRow N 132 2 (.slice (some ⟨g7,0,none⟩) (k+1) q) (k+1) (((ts.take (k+1)).map (qa3 (qa8 vars (ts.take (k+1))))).flatMap qfu):=by
      rw [d];exact aq
     rw [←p]at ab b4;clear g U k7 ao aq hC ho aN aO ht k1 z1 ap aa aC au nb bI a2 a1 az ae b5 aK;refine qby ?_ l d Y s al x an hK y hB ad bF bJ bx bz bD;clear l d Y s al x an hK y hB ad bF bJ bx bz bD;intro aW ai ah z ag R aV aI aU bi bs bo br bk bl aA;refine hd7 ?_ a3 aZ aE ak p ax a9;clear a3 aZ aE ak p ax a9;intro bp a0 bU bR b6 bV b9;gi_wp2;rw [bi.o];refine qag ?_;refine qw rfl (fun X=>X.cell? ⟨Bjj,0,none⟩=some (qk J)/\X.cell? ⟨J,3,none⟩=some (.slice bv (qa8 vars (ts.take k)).length bw)/\X.cell? ⟨B,1,none⟩=some (.string tx)) [11] ?_;rw [bo.o];refine qq [0,1,2,3,4,5,6] ?_
     iterate 7
      refine tkB rfl bk.o ?_
      try simp only [qr]
     refine ql ?_;refine hoR 7 rfl fun K aP=>?_;gi_wp2;refine aP.o _ _ (fun _=>bl.o) ?_;refine hoR 8 rfl fun K aQ=>?_;refine qcd rfl (.tmp 50) (.tmp 53) 60 rfl rfl rfl br.o ?_;gi_wp2;refine aQ.o _ _ (fun _=>aA.o) ?_;refine hoR 9 rfl fun K aR=>?_;gi_wp2;refine aR.o _ _ (fun _=>aA.o) ?_;refine hoR 10 rfl fun K aS=>?_;gi_wp2;refine aS.o _ _ (fun _=>aA.o) ?_;refine hoR 11 rfl fun K aT=>?_;gi_wp2;rw [bp.o];refine aT.o _ _ (fun h=>absurd h wD) ?_;refine qz wB (qah ?_);clear aP aQ aR aS aT
     gi_wp2_with (gi_at_builtin;refine qcd (v:=.slice a5 k c5) (u:=.slice (some ⟨Wf.heap.size,0,none⟩) 1 1) (v':=.slice (some ⟨g7,0,none⟩) (k+1) q) (w':=W7) rfl (.tmp 57) (.tmp 60) 127 rfl rfl rfl ah.o ?_)
     go_roundw
     case rel=>exact⟨k+1,_,wA,by go_num,z.o,R.o,ag.o,a0.o⟩
     case measure=>simp [intOf];omega
  ·obtain rfl:k=ts.length:=by omega
   rw [zi]at hC ho;obtain⟨a5,c5,rfl⟩:=qi ho;clear bH;refine hd4 ?_ hC ho hK ae;clear hC ho hK ae;intro bS b0 aI aj;gi_wp2;go_ret;exact⟨_,_,rfl,by rw [ay.o];exact b0.o,bS.o,aI.o.mono fun b hb h=>⟨by have:=ay.o;omega,h⟩,fun b hb=>(aj.o b hb).imp id (fun h=>by rw [ay.o];exact h)⟩
end Go.Proofs
