/- Parts of the proof. -/
import Derived.Test.YtnponcjnahicnaaGreatProg
import Derived.Test.YtnponcjnahicnaaGreatWkAToWkC
import Derived.WalkMore
import Derived.Test.YtnponcjnahicnaaGreatHdToKp
import Derived.Test.YtnponcjnahicnaaGreatHoistToRowC
set_option linter.unusedSimpArgs false
set_option linter.unusedVariables false
open Go.Proofs.Tryz(prog)
open List(append_nil drop_length filter_cons_of_neg filter_cons_of_pos flatMap_append flatMap_cons getElem?_append_left getElem?_append_right getElem?_cons_succ getElem?_cons_zero getElem?_eq_getElem getElem?_map length_map length_set map_set mem_cons_of_mem mem_cons_self mem_map mem_of_getElem? nil_append setIfInBounds_toArray take_add_one toList_toArray)
namespace Go.Proofs
open Go.RowKit Go.Ink R4
attribute [local go_sem] Oper.semAt_some
set_option maxRecDepth 100000 in
set_option maxHeartbeats 4000000 in
theorem q2t {n0 n1:Nat}{W0:World}{c:WkC}{LJ:qa7}{U:Nat->Prop}{nU:Nat}{Vw:World->Prop}{all:List Asg}{Jp Jx:Nat->Gh->World->Prop}(hE:qdv n0 n1 W0 c LJ U nU Vw all Jp Jx):qgt n1 c LJ U Vw all Jp Jx c.steps.length:=by
 intro k0 g W a vals kn hA;have hB:=hA.held;have hi:=hA.inv;obtain⟨sa,sc,hvs,hsc,hsi⟩:=hB.sv;have hnU:=(hE.hV W hA.v).2;have hj:=hE.hj.same (hE.hV W hA.v).1;have hfull: ∀x,x∈c.vars-> ∃v,a x=some v:=fun x hx=>by
  rcases hA.full x hx with h |h
  ·exact h
  ·rw [drop_length]at h;cases h
 have hrun:qbh LJ c.r.body (c.steps.drop c.steps.length) a= [a]:=by rw [drop_length];rfl
 have hall:all[k0]?=some a:=hA.told 0 a (by rw [hrun];rfl);have hkl:k0<all.length:=(List.getElem?_eq_some_iff.1 hall).1;rw [hrun];have d1:=hi.hold _ _ hB.s.1;have d2:=hi.hold _ _ hB.y.1;have d3:=hi.hold _ _ hB.u.1;have d4:=hi.hold _ _ hB.j.1;have d5:=hi.hold _ _ hB.v.1;have d6:=hi.hold _ _ hB.t.1;have hval:=hB.vals hi;have b1:=qb d1 0 _ rfl;have lb1:=qe d1;simp only [Nat.zero_add]at b1;rw [hvs]at b1;have hs0:c.steps.length<=1073741824:=hE.sfew;have hsame: ∀X,Keep (fun _=>True) W X->X.cell? ⟨c.By,0,none⟩=some (.func (.yield c.l) #[] #[])/\X.cell? ⟨c.Bu,0,none⟩=some (.func (.func 87) #[] #[qj c.Bt])/\X.cell? ⟨c.Bj,0,none⟩=some (qj c.J)/\X.cell? ⟨c.J,6,none⟩=some c.vh/\X.cell? ⟨c.Bv,0,none⟩=some (.slice (some ⟨c.V,0,none⟩) vals.length vals.length):=fun X hX=>by
  have q2:=qb (hX.heap d2 trivial) 0 _ rfl;have q3:=qb (hX.heap d3 trivial) 0 _ rfl;have q4:=qb (hX.heap d4 trivial) 0 _ rfl;have q5:=qb (hX.heap d5 trivial) 0 _ rfl;have q6:=qb (hX.heap hj.box trivial) 6 _ rfl;simp only [Nat.zero_add]at q2 q3 q4 q5 q6;exact⟨q2,q3,q4,q6,q5⟩
 have hS0:=hsame W.drew kDr;obtain⟨av,cv,hvh,hhl,hhc,hhe⟩:=id hj.slots;rw [hvh]at hS0 hsame;simp only [length_map]at hS0 hsame hvh hhl;have hlv:vals.length<=1073741824:=by rw [hA.asg.lv];exact hE.few
 have hvals:=q4y hA.asg hfull;have htx:=q2s hA.asg hE.hin hfull;have htup: ∀X,Keep (fun _=>True) W X->Calls prog 87 #[.slice av c.r.head.args.length cv,qj c.Bt] X fun e w'=> ∃vo,e=.returned vo/\w'.ownsRow X.heap.size 9 1 vo c.r.head.args.length ((c.r.head.args.map (qcs a)).map .string)/\Keep (fun _=>True) X w':=fun X hX=>by
  have:=qoe (hX.heap d6 trivial) (hval.keep hX trivial trivial) hlv nU c.vh (c.r.head.args.map (qaw c.vars)) ((hj.keep hX (fun _ _=>trivial) (fun b hb=>by have:=hE.hU b hb;omega)).slots.mono fun _ _ _ _ h=>h.2) (by have:=hX.size;omega) (fun s hs=>by
   obtain⟨t,ht,rfl⟩:=mem_map.1 hs;exact qo4 (hE.hin t ht) hA.asg.lv)
  rw [htx,length_map,hvh]at this;exact this
 have hcl: ∀X,Keep (fun _=>True) W X->Calls prog 64 #[.slice (some ⟨c.V,0,none⟩) vals.length vals.length] X fun e w'=> ∃vo,e=.returned vo/\w'.ownsRow X.heap.size 9 1 vo c.vars.length ((c.vars.map fun x=>(a x).getD ⟨#[]⟩).map .string)/\Keep (fun _=>True) X w':=fun X hX=>by
  have hst:qae (c.V+1) X (.slice (some ⟨c.V,0,none⟩) vals.length vals.length) vals:=⟨_,_,rfl,hlv,⟨Nat.le_refl _,by simp only [maxLen];omega⟩,fun k x hx=>⟨c.V,0,rfl,by omega,by
   unfold qgc;have:=(hval.keep hX trivial trivial).cell hx
   simpa using this⟩⟩
  have:=qld hst (by have:=qe (hval.keep hX trivial trivial).row;omega) (fun n c h=>by cases h);rw [hA.asg.lv]at this⊢;rw [←hvals];exact this
 have hfin: ∀X args,Keep (fun _=>True) W X->qkn c.r c.vars a g W.heap.size X args->YieldAt Fence.wide 0 prog c.l args X (qhp (qk8 n0) Vw Jp Jx k0 g X):=fun X args hX hT=>
  hE.hy k0 g W X args a hall hA.jp ⟨GStep.own hi hX,rfl⟩ (hi.keep (hX.mono fun _ _ _=>trivial)) (hE.hVk W X _ hA.v hX (fun _ _=>trivial)) hA.n hT
 have hend: ∀g' Y,GInv g' Y->Vw Y->GBd g W.heap.size g'->W.heap.size<=Y.heap.size-> ∀ans,((ans=true/\Jp (k0+1) g' Y)∨(ans=false/\ ∃k,k<all.length/\Jx k g' Y))->StepEnd c U Vw all Jp Jx k0 [a].length g W a kn ans Y/\(Y.cell? ⟨c.By,0,none⟩=some (.func (.yield c.l) #[] #[])/\Y.cell? ⟨c.Bu,0,none⟩=some (.func (.func 87) #[] #[qj c.Bt])/\Y.cell? ⟨c.Bj,0,none⟩=some (qj c.J)/\Y.cell? ⟨c.J,6,none⟩=some (.slice av c.r.head.args.length cv)/\Y.cell? ⟨c.Bv,0,none⟩=some (.slice (some ⟨c.V,0,none⟩) vals.length vals.length)):=fun g' Y hiY hvY hbd hz ans hans=>by
  have hh: ∀b o,g.held b=some o->g'.held b=some o:=fun b o hb=>(hbd.held b (qe (hi.hold b o hb))).trans hb;have hB':=hB.same hh;have q2:=qb (hiY.hold _ _ hB'.y.1) 0 _ rfl;have q3:=qb (hiY.hold _ _ hB'.u.1) 0 _ rfl;have q4:=qb (hiY.hold _ _ hB'.j.1) 0 _ rfl;have q5:=qb (hiY.hold _ _ hB'.v.1) 0 _ rfl;have q6:=qb (hE.hj.same (hE.hV Y hvY).1).box 6 _ rfl;simp only [Nat.zero_add]at q2 q3 q4 q5 q6;rw [hvh]at q6;exact⟨⟨g',vals,hiY,hvY,fun b hb=>hbd.new b (by have:=hE.hU b hb;omega) (hA.u b hb),hz,hB',fun b o hb _=>hh b o hb,hbd.more,hA.asg,hans⟩,q2,q3,q4,q6,q5⟩
 have hfr: ∀b,W.heap.size<=b->g.free b:=fun b hb=>by
  refine⟨?_,?_⟩
  ·cases e:g.tag b with
   |none=>rfl
   |some T=>have:=hi.lt b T e;omega
  ·cases e:g.held b with
   |none=>rfl
   |some o=>have:=qe (hi.hold b o e);omega
 clear d1 d2 d3 d4 d5 d6 hhe hsi;unfold WkC.bound;refine qc5 ?_ hend hA hB hi hE hj hfull hrun hall hval hsame hS0 hvals htx htup hcl;clear hend hA hB hi hE hj hfull hrun hall hval hsame hS0 hvals htx htup hcl;intro Xhend XhA XhB Xhi XhE Xhj Xhfull Xhrun Xhall Xhval Xhsame XhS0 Xhvals Xhtx Xhtup Xhcl;refine hd4 ?_ hfin hfr hvs hvh;clear hfin hfr hvs hvh;intro Xhfin Xhfr Xhvs Xhvh;refine qbp Tryz.func88 rfl ?_;simp only [Tryz.ntmps88,qdz,Nat.reduceAdd,Nat.reduceSub];gi_wp2;refine wpIn_wide.2 ?_;refine wp_scope_straight ?_;refine(wpIn_wide (n:=0)).1 ?_;gi_wp2;refine qab ?_;refine qx rfl (fun X=>X.cell? ⟨c.By,0,none⟩=some (.func (.yield c.l) #[] #[])/\X.cell? ⟨c.Bu,0,none⟩=some (.func (.func 87) #[] #[qj c.Bt])/\X.cell? ⟨c.Bj,0,none⟩=some (qj c.J)/\X.cell? ⟨c.J,6,none⟩=some (.slice av c.r.head.args.length cv)/\X.cell? ⟨c.Bv,0,none⟩=some (.slice (some ⟨c.V,0,none⟩) vals.length vals.length)) [] ?_;refine qam [0,1,2,3,4,5,7] ?_
 iterate 7
  refine tkR (v:=?_) rfl XhS0.o ?_ ?_;rotate_left
  ·rintro Wq ⟨x0,x1,x2,x3,x4⟩;go_simp
   try with_reducible rfl
  try simp only [qan]
 refine qu ?_;refine hoR 6 rfl fun K XhK0=>?_;gi_wp2;refine⟨trivial,rfl,(callsIn_wide.2 (Xhtup.o _ kDr)).mono ?_⟩;rintro e W1 ⟨v1,rfl,o1,k1⟩;have k01:Keep (fun _=>True) W W1:=kDr.trans k1;have hS1:=Xhsame.o W1 k01;have z1:W.heap.size<=W1.heap.size:=k01.size;have z0:W.drew.heap.size=W.heap.size:=by simp
 rw [z0]at o1;obtain⟨a1,c1,rfl⟩:=qi o1;clear k1;refine hd3 ?_ o1 k01 hS1;clear o1 k01 hS1;intro Xo1 Xk01 XhS1;gi_wp2;refine XhK0.o _ _ (fun _=>XhS1.o) ?_;refine hoR 8 rfl fun K XhK1=>?_;gi_wp2;refine⟨trivial,rfl,(callsIn_wide.2 (Xhcl.o _ Xk01.o)).mono ?_⟩;rintro e W2 ⟨v2,rfl,o2,k2⟩;obtain⟨a2,c2,rfl⟩:=qi o2;have k02:Keep (fun _=>True) W W2:=Xk01.o.trans k2;have hS2:=Xhsame.o W2 k02;have hT:qkn c.r c.vars a g W.heap.size W2 #[.agg #[.slice a1 c.r.head.args.length c1,.slice a2 c.vars.length c2]]:=by
  refine⟨_,_,rfl,qg Xo1.o k2 (fun _ _=>trivial),o2.mono z1,fun b hb=>Xhfr.o b (World.ownsRow.lt Xo1.o b hb).1,fun b hb=>Xhfr.o b (Nat.le_trans z1 (World.ownsRow.lt o2 b hb).1),fun b hb hb2=>?_⟩;have q1:=(World.ownsRow.lt Xo1.o b hb).2;have q2:=(World.ownsRow.lt o2 b hb2).1;omega
 obtain⟨fn,tmps,assign,body,hyy,hR⟩:=Xhfin.o W2 _ k02 hT;clear k2 o2 hT;refine hd2 ?_ k02 hS2;clear k02 hS2;intro Xk02 XhS2;gi_wp2;refine XhK1.o _ _ (fun _=>XhS2.o) ?_;refine qam [9] ?_
 iterate 1
  refine tkR (v:=?_) rfl XhS2.o ?_ ?_;rotate_left
  ·rintro Wq ⟨x0,x1,x2,x3,x4⟩;go_simp
   try with_reducible rfl
  try simp only [qan]
 refine qu ?_;refine hoR 10 rfl fun K XhK2=>?_;have hR':=Lib.hid hR;clear hR;gi_wp2;refine⟨rfl,hR'.out.mono ?_⟩;rintro e Y ⟨g',hiY,hVY,hbdY,hzY,(⟨rfl,hJY⟩ |⟨rfl,hJY⟩)⟩
 ·have hfe:=Xhend.o g' Y hiY hVY (hbdY.mono Xk02.o.size) (Nat.le_trans Xk02.o.size hzY) true (.inl ⟨rfl,hJY⟩);clear hiY hVY hbdY hJY hR' hyy;refine hd1 ?_ hfe;clear hfe;intro Xhfe;gi_wp2;refine XhK2.o _ _ (fun _=>Xhfe.o.2) ?_;refine qam [11] ?_
  iterate 1
   refine tkR (v:=?_) rfl Xhfe.o.2 ?_ ?_;rotate_left
   ·rintro Wq ⟨x0,x1,x2,x3,x4⟩;go_simp
    try with_reducible rfl
   try simp only [qan]
  refine qu ?_;refine qk (by kernel_rfl) (qm ?_);gi_wp2;rw [Exit.noGoto_ret];go_ret;exact⟨_,rfl,Xhfe.o.1⟩
 ·have hfe:=Xhend.o g' Y hiY hVY (hbdY.mono Xk02.o.size) (Nat.le_trans Xk02.o.size hzY) false (.inr ⟨rfl,k0,hkl,hJY⟩);clear hiY hVY hbdY hJY hR' hyy;refine hd1 ?_ hfe;clear hfe;intro Xhfe;gi_wp2;refine XhK2.o _ _ (fun _=>Xhfe.o.2) ?_;refine qam [11] ?_
  iterate 1
   refine tkR (v:=?_) rfl Xhfe.o.2 ?_ ?_;rotate_left
   ·rintro Wq ⟨x0,x1,x2,x3,x4⟩;go_simp
    try with_reducible rfl
   try simp only [qan]
  refine qu ?_;refine qk (by kernel_rfl) (qm ?_);gi_wp2;rw [Exit.noGoto_ret];go_ret;exact⟨_,rfl,Xhfe.o.1⟩
end Go.Proofs
namespace Go.Proofs
open Go.RowKit Go.Ink R4
theorem qvf {α β:Type}{f:α->List β}{n:Nat}(hf: ∀x,(f x).length=n): ∀(xs:List α) (q:Nat) (x:α),xs[q]?=some x-> ∀j,j<n->(xs.flatMap f)[q*n+j]?=(f x)[j]?:=by
 intro xs
 induction xs with
 |nil=>intro q x h;simp at h
 |cons y ys ih=>
  intro q x h j hj;rw [flatMap_cons];cases q with
  |zero=>
   rw [getElem?_cons_zero]at h;cases h;rw [Nat.zero_mul,Nat.zero_add,getElem?_append_left (by rw [hf];exact hj)]
  |succ q=>
   rw [getElem?_cons_succ]at h;rw [getElem?_append_right (by rw [hf,Nat.add_mul];omega),hf,show(q+1)*n+j-n=q*n+j by rw [Nat.add_mul];omega];exact ih q x h j hj
def qge (c:WkC)(vals:List ByteArray)(kn:List Bool)(i q:Nat)(L:LitD)(k:LookD)(sb sc ab oa cb tb ot ct:Nat)(vsa:Option Addr)(vsc nU:Nat)(sp:Option Addr)(kd:Int)(X:World):Prop:=
 X.cell? ⟨c.Bs,0,none⟩=some (.slice (some ⟨sb,0,none⟩) c.steps.length sc)/\X.cell? ⟨sb,i,none⟩=some (.int .i64 (q:Int))/\
 X.cell? ⟨c.Bl,0,none⟩=some (.slice (some ⟨c.Lk,0,none⟩) c.looks.length c.looks.length)/\X.cell? ⟨c.Lk,q*4,none⟩=some (.pointer sp)/\X.cell? ⟨c.Lk,q*4+1,none⟩=some (.string k.pred)/\X.cell? ⟨c.Lk,q*4+2,none⟩=some (.int .i64 (k.arity:Int))/\X.cell? ⟨c.Lk,q*4+3,none⟩=some (.int .i64 (k.upto:Int))/\
 X.cell? ⟨c.Bj,0,none⟩=some (qj c.J)/\X.cell? ⟨c.J,5,none⟩=some (.slice (some ⟨tb,ot,none⟩) c.r.body.length ct)/\X.cell? ⟨tb,ot+q,none⟩=some (.slice vsa (qv L).length vsc)/\
 X.cell? ⟨c.J,2,none⟩=some (.slice (some ⟨ab,oa,none⟩) c.r.body.length cb)/\X.cell? ⟨ab,oa+q*7,none⟩=some (.int .i64 kd)/\
 X.cell? ⟨c.By,0,none⟩=some (.func (.yield c.l) #[] #[])/\X.cell? ⟨c.Bt,0,none⟩=some (.func (.func 86) #[] #[qj c.Bv])/\X.cell? ⟨c.Bu,0,none⟩=some (.func (.func 87) #[] #[qj c.Bt])/\
 X.cell? ⟨c.Bp,0,none⟩=some (.func (.func 88) #[] c.bound)/\X.cell? ⟨c.Bv,0,none⟩=some (.slice (some ⟨c.V,0,none⟩) vals.length vals.length)/\X.cell? ⟨c.Bk,0,none⟩=some (.slice (some ⟨c.K,0,none⟩) kn.length kn.length)/\
 SliceIn nU X 2 SlotE (.slice vsa (qv L).length vsc) (qco c.vars L)
theorem qnl {n0 n1:Nat}{W0:World}{c:WkC}{LJ:qa7}{U:Nat->Prop}{nU:Nat}{Vw:World->Prop}{all:List Asg}{Jp Jx:Nat->Gh->World->Prop}(hE:qdv n0 n1 W0 c LJ U nU Vw all Jp Jx){g:Gh}{vals:List ByteArray}{kn:List Bool}(hB:WkHeld c g vals kn){i q:Nat}(hq:c.steps[i]?=some q):
  ∃(L:LitD) (k:LookD) (sb sc ab oa cb tb ot ct:Nat) (vsa:Option Addr) (vsc:Nat),c.r.body[q]?=some L/\c.looks[q]?=some k/\L∈c.r.body/\c.r.body.length<=1073741824/\(qv L).length<=1073741824/\ ∀X,SameW c U g W0 X->qge c vals kn i q L k sb sc ab oa cb tb ot ct vsa vsc nU (k.store.map fun S=>⟨S,0,none⟩) L.kind X:=by
 have hql:q<c.r.body.length:=hE.steps q (mem_of_getElem? hq);obtain⟨L,hL⟩: ∃L,c.r.body[q]?=some L:=⟨_,getElem?_eq_getElem hql⟩;obtain⟨k,hk⟩: ∃k,c.looks[q]?=some k:=⟨_,getElem?_eq_getElem (by rw [hE.looks];exact hql)⟩;obtain⟨sa,sc,hvs,hsc,hsi⟩:=hB.sv;obtain⟨sb,hsb,hnb,cs,hcs,hci⟩:=hsi i q hq;subst hsb;obtain⟨aa,cb,hvb,hbl,hbc,hbe⟩:=hE.hj.body;obtain⟨ab,oa,rfl,hab,huab,sa',hcl,-⟩:=hbe q L hL;obtain⟨at',ct,hvt,htl,htc,hte⟩:=hE.hj.terms;have hsl:(c.r.body.map (qco c.vars))[q]?=some (qco c.vars L):=by rw [getElem?_map,hL];rfl
 obtain⟨tb,ot,rfl,htb,hutb,v,hcv,hsv⟩:=hte q _ hsl;rw [length_map]at hvt;obtain⟨vsa,vsc,rfl,hvl,hvc,hve⟩:=id hsv;have hll:(qco c.vars L).length=(qv L).length:=by unfold qco;rw [length_map]
 refine⟨L,k,sb,sc,ab,oa,cb,tb,ot,ct,vsa,vsc,hL,hk,mem_of_getElem? hL,hbl,by rw [←hll];exact hvl,fun X hX=>?_⟩;have u1: ∀b o v,g.held b=some o/\c.nv b->(∀vs t fr,o=.cells vs t fr->vs[0]?=some v->X.cell? ⟨b,0,none⟩=some v):=fun b o v hb vs t fr ho hv=>by
  have:=hX.1 b o hb.1 hb.2;subst ho;have:=qb this 0 v (by simpa using hv)
  simpa using this
 have uc: ∀b o,U b->X.cell? ⟨b,o,none⟩=W0.cell? ⟨b,o,none⟩:=fun b o hb=>World.cell?_of_block (a:=⟨b,o,none⟩) (hX.2 b hb);have hlk:=hX.1 _ _ hB.lk.1 hB.lk.2;have ul: ∀j v,j<4->k.cells[j]?=some v->X.cell? ⟨c.Lk,q*4+j,none⟩=some v:=fun j v hj hv=>by
  have:=qb hlk (q*4+j) v (by rw [toList_toArray,qvf (f:=LookD.cells) (n:=4) (fun _=>rfl) _ _ _ hk j hj];exact hv)
  simpa using this
 have hst:=hX.1 _ _ hcs hnb;refine⟨?_,?_,u1 _ _ _ hB.l _ _ _ rfl rfl,ul 0 _ (by omega) rfl,ul 1 _ (by omega) rfl,ul 2 _ (by omega) rfl,ul 3 _ (by omega) rfl,u1 _ _ _ hB.j _ _ _ rfl rfl,?_,?_,?_,?_,u1 _ _ _ hB.y _ _ _ rfl rfl,u1 _ _ _ hB.t _ _ _ rfl rfl,u1 _ _ _ hB.u _ _ _ rfl rfl,u1 _ _ _ hB.p _ _ _ rfl rfl,u1 _ _ _ hB.v _ _ _ rfl rfl,u1 _ _ _ hB.k _ _ _ rfl rfl,?_⟩
 ·rw [←hvs];exact u1 _ _ _ hB.s _ _ _ rfl rfl
 ·have:=qb hst i _ (by rw [Array.getElem?_toList];exact hci)
  simpa using this
 ·rw [uc _ _ hE.hj.uJ,←hvt];have:=qb hE.hj.box 5 _ rfl
  simpa using this
 ·rw [uc _ _ hutb,←hll]
  simpa using hcv
 ·rw [uc _ _ hE.hj.uJ,←hvb];have:=qb hE.hj.box 2 _ rfl
  simpa using this
 ·rw [uc _ _ huab];have:=hcl 0 _ rfl
  simpa using this
 ·rw [←hll];exact hsv.mono fun b o x _ hx=>qq7 (hX.2 b hx.1) hx.2
theorem StepAt.own {n0 n1:Nat}{W0:World}{c:WkC}{LJ:qa7}{U:Nat->Prop}{nU:Nat}{Vw:World->Prop}{all:List Asg}{Jp Jx:Nat->Gh->World->Prop}(hE:qdv n0 n1 W0 c LJ U nU Vw all Jp Jx){i k0:Nat}{g:Gh}{W X:World}{a:Asg}{vals:List ByteArray}{kn:List Bool}(h:StepAt n1 c LJ U Vw all Jp i k0 g W a vals kn)(hK:Keep (fun _=>True) W X):StepAt n1 c LJ U Vw all Jp i k0 g X a vals kn:=
 ⟨h.inv.keep (hK.mono fun _ _ _=>trivial),hE.hVk W X _ h.v hK (fun _ _=>trivial),h.u,h.held,h.look,h.asg,h.way,h.full,h.told,hE.hJ _ _ _ _ _ h.jp ⟨GStep.own h.inv hK,rfl⟩,Nat.le_trans h.n hK.size⟩
theorem StepAt.skip {n1:Nat}{c:WkC}{LJ:qa7}{U:Nat->Prop}{Vw:World->Prop}{all:List Asg}{Jp:Nat->Gh->World->Prop}{i k0 q:Nat}{g:Gh}{W:World}{a:Asg}{vals:List ByteArray}{kn:List Bool}(h:StepAt n1 c LJ U Vw all Jp i k0 g W a vals kn)(hd:c.steps.drop i=q::c.steps.drop (i+1))
  (hp:qw c.r.body [q]= []) (hr:qbh LJ c.r.body (q::c.steps.drop (i+1)) a=qbh LJ c.r.body (c.steps.drop (i+1)) a):StepAt n1 c LJ U Vw all Jp (i+1) k0 g W a vals kn:=by
 have hw:=h.way;have hf:=h.full;have ht:=h.told;rw [hd]at hw hf ht;rw [hr]at ht;have hw:=hw.2.2;rw [hp]at hw;have e:qw c.r.body (q::c.steps.drop (i+1))=qw c.r.body [q]++qw c.r.body (c.steps.drop (i+1)):=by unfold qw;simp
 rw [e,hp,nil_append]at hf;exact⟨h.inv,h.v,h.u,h.held,h.look,h.asg,by simpa using hw,hf,ht,h.jp,h.n⟩
theorem StepEnd.none {n0 n1:Nat}{W0:World}{c:WkC}{LJ:qa7}{U:Nat->Prop}{nU:Nat}{Vw:World->Prop}{all:List Asg}{Jp Jx:Nat->Gh->World->Prop}(hE:qdv n0 n1 W0 c LJ U nU Vw all Jp Jx){i k0:Nat}{g:Gh}{W X:World}{a:Asg}{vals:List ByteArray}{kn:List Bool}(h:StepAt n1 c LJ U Vw all Jp i k0 g W a vals kn)(hK:Keep (fun _=>True) W X):StepEnd c U Vw all Jp Jx k0 0 g W a kn true X:=by
 have h':=h.own hE hK;exact⟨g,vals,h'.inv,h'.v,h'.u,hK.size,h'.held,fun _ _ hb _=>hb,fun S f hS=>⟨[],by rw [append_nil];exact hS⟩,h'.asg,.inl ⟨rfl,h'.jp⟩⟩
theorem StepEnd.same {n0 n1:Nat}{W0:World}{c:WkC}{LJ:qa7}{U:Nat->Prop}{nU:Nat}{Vw:World->Prop}{all:List Asg}{Jp Jx:Nat->Gh->World->Prop}(hE:qdv n0 n1 W0 c LJ U nU Vw all Jp Jx){k0 m:Nat}{g:Gh}{W W':World}{a:Asg}{kn:List Bool}{ans:Bool}(h:StepEnd c U Vw all Jp Jx k0 m g W a kn ans W'):SameW c U g W0 W':=by
 obtain⟨g',vals',h1,h2,h3,h4,h5,h6,-⟩:=h;exact SameW.of h1 h6 (hE.hV W' h2).1
theorem StepEnd.from {c:WkC}{U:Nat->Prop}{Vw:World->Prop}{all:List Asg}{Jp Jx:Nat->Gh->World->Prop}{k0 m:Nat}{g:Gh}{W X W':World}{a:Asg}{kn:List Bool}{ans:Bool}(h:StepEnd c U Vw all Jp Jx k0 m g X a kn ans W')(hs:W.heap.size<=X.heap.size):StepEnd c U Vw all Jp Jx k0 m g W a kn ans W':=by
 obtain⟨g',vals',h1,h2,h3,h4,h5⟩:=h;exact⟨g',vals',h1,h2,h3,Nat.le_trans hs h4,h5⟩
theorem qg2 {n0 n1:Nat}{W0:World}{c:WkC}{LJ:qa7}{U:Nat->Prop}{nU:Nat}{Vw:World->Prop}{all:List Asg}{Jp Jx:Nat->Gh->World->Prop}(hE:qdv n0 n1 W0 c LJ U nU Vw all Jp Jx){vals:List ByteArray}{kn:List Bool}{a:Asg}(hA:qdu c.vars vals kn a){t:TermD}(hin:qe6 c.vars t){y:ByteArray}(hy:qy a t=some y){X:World}(hv:ValsAt X c.Bv c.V vals):
  Calls prog 86 #[.agg #[.int .i64 (qaw c.vars t).place,.string (qaw c.vars t).text],qj c.Bv] X fun e w'=>e=.returned (.string y)/\Keep (fun _=>True) X w':=by
 have:=qql hv (by rw [hA.lv];exact hE.few) (qaw c.vars t) (qo4 hin hA.lv);rw [qnk hA hin hy]at this;exact this
theorem qhm {a b:ByteArray}(h:a=b):(a.toList==b.toList)=true:=by simp [h]
theorem qfq {a b:ByteArray}(h:a≠b):(a.toList==b.toList)=false:=by
 rw [←beq_toListBytes]
 simpa using h
theorem qo7 {w w':World}{base:Nat}{e:TypeId}{sz n:Nat}{v:Value}{xs:List Value}(h:w.ownsRow base e sz v n xs)(hb: ∀b,v.ownBlock=some b->w'.heap[b]?=w.heap[b]?):w'.ownsRow base e sz v n xs:=by
 refine⟨h.1,?_⟩;rcases h.2 with h1 |⟨g,cap,cur,e1,e2,e3,e4⟩
 ·exact .inl h1
 ·exact .inr ⟨g,cap,cur,e1,e2,(hb g (by rw [e1];rfl)).trans e3,e4⟩
structure MidAt (n0:Nat)(c:WkC)(Vw:World->Prop)(g0:Gh)(X0:World)(g:Gh)(X:World)(vals:List ByteArray)(kn:List Bool):Prop where
 step:GStep n0 g0 X0 g X
 st:g.st=g0.st
 tag:g.tag=g0.tag
 held: ∀b,c.nv b->g.held b=g0.held b
 wk:WkHeld c g vals kn
 v:Vw X
theorem MidAt.refl {n0:Nat}{c:WkC}{Vw:World->Prop}{g:Gh}{X:World}{vals:List ByteArray}{kn:List Bool}(hg:GInv g X)(hw:WkHeld c g vals kn)(hv:Vw X):MidAt n0 c Vw g X g X vals kn:=⟨GStep.refl hg,rfl,rfl,fun _ _=>rfl,hw,hv⟩
theorem MidAt.free {n0:Nat}{c:WkC}{Vw:World->Prop}{g0 g:Gh}{X0 X:World}{vals:List ByteArray}{kn:List Bool}(h:MidAt n0 c Vw g0 X0 g X vals kn){U:Nat->Prop}(hu: ∀b,U b->g0.free b)(hl: ∀b,U b->b<X0.heap.size): ∀b,U b->g.free b:=fun b hb=>h.step.new b (hl b hb) (hu b hb)
theorem MidAt.own {n0 n1:Nat}{W0:World}{c:WkC}{LJ:qa7}{U:Nat->Prop}{nU:Nat}{Vw:World->Prop}{all:List Asg}{Jp Jx:Nat->Gh->World->Prop}(hE:qdv n0 n1 W0 c LJ U nU Vw all Jp Jx){g0 g:Gh}{X0 X Y:World}{vals:List ByteArray}{kn:List Bool}(h:MidAt n0 c Vw g0 X0 g X vals kn)(hK:Keep (fun _=>True) X Y):MidAt n0 c Vw g0 X0 g Y vals kn:=
 ⟨h.step.trans (GStep.own h.step.inv hK),h.st,h.tag,h.held,h.wk,hE.hVk X Y _ h.v hK (fun _ _=>trivial)⟩
theorem qqn {α:Type}{l:List α}{f:α->Value}{p:Nat}{x:α}:((l.map f).toArray.setIfInBounds p (f x))=((l.set p x).map f).toArray:=by
 rw [setIfInBounds_toArray,map_set]
theorem MidAt.setK {n0 n1:Nat}{W0:World}{c:WkC}{LJ:qa7}{U:Nat->Prop}{nU:Nat}{Vw:World->Prop}{all:List Asg}{Jp Jx:Nat->Gh->World->Prop}(hE:qdv n0 n1 W0 c LJ U nU Vw all Jp Jx){g0 g:Gh}{X0 X:World}{vals:List ByteArray}{kn:List Bool}(h:MidAt n0 c Vw g0 X0 g X vals kn)(hUK: ¬U c.K)(p:Nat)(b:Bool):
  ∃g',MidAt n0 c Vw g0 X0 g' (X.setCell ⟨c.K,p,none⟩ (.bool b)) vals (kn.set p b):=by
 have hk:=h.step.inv.hold _ _ h.wk.knr;have hk':=q8 p (.bool b) hk;rw [qqn]at hk';have hK:Keep (fun x=>x≠c.K) X (X.setCell ⟨c.K,p,none⟩ (.bool b)):=kSc;have hs:=GStep.put h.step.inv h.wk.knr hE.nK hK hk';refine⟨_,h.step.trans hs,h.st,h.tag,fun x hx=>?_,h.wk.keep (fun x o hx hn=>?_) rfl (by rw [length_set]) ?_ ?_,hE.hVk X _ _ h.v hK (fun x hx e=>hUK (by rw [←e];exact hx))⟩
 ·simp only [Gh.put];rw [if_neg hx.2];exact h.held x hx
 ·simp only [Gh.put];rw [if_neg hn.2];exact hx
 ·simp only [Gh.put];rw [if_neg h.wk.vk];exact h.wk.row
 ·simp only [Gh.put,if_true]
theorem MidAt.setV {n0 n1:Nat}{W0:World}{c:WkC}{LJ:qa7}{U:Nat->Prop}{nU:Nat}{Vw:World->Prop}{all:List Asg}{Jp Jx:Nat->Gh->World->Prop}(hE:qdv n0 n1 W0 c LJ U nU Vw all Jp Jx){g0 g:Gh}{X0 X:World}{vals:List ByteArray}{kn:List Bool}(h:MidAt n0 c Vw g0 X0 g X vals kn)(hUV: ¬U c.V)(p:Nat)(s:ByteArray):
  ∃g',MidAt n0 c Vw g0 X0 g' (X.setCell ⟨c.V,p,none⟩ (.string s)) (vals.set p s) kn:=by
 have hk:=h.step.inv.hold _ _ h.wk.row;have hk':=q8 p (.string s) hk;rw [qqn]at hk';have hK:Keep (fun x=>x≠c.V) X (X.setCell ⟨c.V,p,none⟩ (.string s)):=kSc;have hs:=GStep.put h.step.inv h.wk.row hE.nV hK hk';refine⟨_,h.step.trans hs,h.st,h.tag,fun x hx=>?_,h.wk.keep (fun x o hx hn=>?_) (by rw [length_set]) rfl ?_ ?_,hE.hVk X _ _ h.v hK (fun x hx e=>hUV (by rw [←e];exact hx))⟩
 ·simp only [Gh.put];rw [if_neg hx.1];exact h.held x hx
 ·simp only [Gh.put];rw [if_neg hn.1];exact hx
 ·simp only [Gh.put,if_true]
 ·simp only [Gh.put];rw [if_neg (fun e=>h.wk.vk e.symm)];exact h.wk.knr
theorem MidAt.hold {n0:Nat}{c:WkC}{Vw:World->Prop}{g0 g:Gh}{X0 X:World}{vals:List ByteArray}{kn:List Bool}(h:MidAt n0 c Vw g0 X0 g X vals kn)(hg0:GInv g0 X0)(hn:n0<=X0.heap.size):
  ∃g',GStep n0 g0 X0 g' X/\g'.st=g0.st/\(∀b,c.nv b->b<X0.heap.size->g'.held b=g0.held b)/\WkHeld c g' vals kn/\(∀b o,X0.heap.size<=b->c.nv b->X.heap[b]?=some o->g'.held b=some o)/\(∀b o,g.held b=some o->g'.held b=some o)/\(∀b,b<X0.heap.size->g.free b->g'.free b):=by
 have hsame: ∀b o,g.held b=some o->(g.hold X0.heap.size X).held b=some o:=fun b o hb=>by
  simp only [Gh.hold];rw [if_neg (fun h=>by rw [hb]at h;exact absurd h.2.2.2 (by simp))];exact hb
 refine⟨g.hold X0.heap.size X,h.step.hold hn,h.st,fun b hb hl=>?_,h.wk.same hsame,fun b o hl hb ho=>?_,hsame,fun b hl hf=>⟨hf.1,?_⟩⟩
 ·simp only [Gh.hold];rw [if_neg (by omega)];exact h.held b hb
 ·have ht:g.tag b=none:=by
   rw [h.tag];cases e:g0.tag b with
   |none=>rfl
   |some T=>have:=hg0.lt b T e;omega
  have hh:g.held b=none:=by
   rw [h.held b hb];cases e:g0.held b with
   |none=>rfl
   |some T=>have:=qe (hg0.hold b T e);omega
  simp only [Gh.hold];rw [if_pos ⟨hl,qe ho,ht,hh⟩];exact ho
 ·simp only [Gh.hold];rw [if_neg (by omega)];exact hf.2
theorem qwp {α β:Type}(l:List α)(p:α->Bool)(f:α->List β)(h: ∀x,x∈l->p x=false->f x= []):(l.filter p).flatMap f=l.flatMap f:=by
 induction l with
 |nil=>rfl
 |cons x l ih=>
  have ih:=ih fun y hy=>h y (mem_cons_of_mem _ hy);cases hp:p x with
  |true=>rw [filter_cons_of_pos hp,flatMap_cons,flatMap_cons,ih]
  |false=>rw [filter_cons_of_neg (by simp [hp]),flatMap_cons,h x (mem_cons_self ..) hp,ih];rfl
def qha (LJ:qa7)(body:List LitD)(ts:List TermD)(rest:List Nat)(a:Asg)(t:List ByteArray):List Asg:=match qcd a ts t with
 |some a'=>qbh LJ body rest a'
 |none=> []
theorem qxm {LJ:qa7}{body:List LitD}{L:LitD}{q:Nat}{rest:List Nat}{a:Asg}(hL:body.getD q default=L)(hk:L.kind=1):qbh LJ body (q::rest) a=((LJ.pos q).filter (qjp a L.atom.args)).flatMap (qha LJ body L.atom.args rest a):=by
 rw [qwp]
 ·rw [show qbh LJ body (q::rest) a=if (body.getD q default).kind=3 then (if qy a (body.getD q default).left=qy a (body.getD q default).right then []else qbh LJ body rest a) else if (body.getD q default).kind=2 then (if (body.getD q default).atom.args.map (qcs a)∈LJ.neg q then []else qbh LJ body rest a) else (LJ.pos q).flatMap (qha LJ body (body.getD q default).atom.args rest a) from rfl,hL,if_neg (by rw [hk];omega),if_neg (by rw [hk];omega)]
 ·intro t _ ht;unfold qha;rw [q5m (ExtA.refl a) ht]
theorem q4z {n0 n1:Nat}{W0:World}{c:WkC}{LJ:qa7}{U:Nat->Prop}{nU:Nat}{Vw:World->Prop}{all:List Asg}{Jp Jx:Nat->Gh->World->Prop}(hE:qdv n0 n1 W0 c LJ U nU Vw all Jp Jx){i k0:Nat}{g g':Gh}{W wr Wm:World}{a:Asg}{vals:List ByteArray}{kn:List Bool}(hA:StepAt n1 c LJ U Vw all Jp i k0 g W a vals kn)
  (hK:Keep (fun _=>True) W wr) (hstep:GStep n0 g wr g' Wm) (hst:g'.st=g.st) (hheld:g'.held=g.held):
  ∃gm,StepAt n1 c LJ U Vw all Jp i k0 gm Wm a vals kn/\(∀b o,g.held b=some o->gm.held b=some o)/\(∀S f,g.st S=some f->gm.st S=some f)/\ ∀b,W.heap.size<=b->g'.free b->b<Wm.heap.size->gm.held b=Wm.heap[b]?:=by
 have hn0:n0<=W.heap.size:=Nat.le_trans hE.n01 hA.n;have hs:GStep n0 g W g' Wm:=(GStep.own hA.inv hK).trans hstep;have hh:=hs.hold hn0;have hb: ∀b o,g.held b=some o->(g'.hold W.heap.size Wm).held b=some o:=fun b o hb=>by
  simp only [Gh.hold];rw [if_neg (fun h=>by have:=qe (hA.inv.hold b o hb);omega),hheld];exact hb
 have hst2:(g'.hold W.heap.size Wm).st=g.st:=hst;refine⟨g'.hold W.heap.size Wm,⟨hh.inv,hE.hVk W Wm _ hA.v hs.keep hA.u,fun b hU=>hh.new b (by have:=hE.hU b hU;have:=(hE.hV W hA.v).2;omega) (hA.u b hU),hA.held.same hb,hA.look.more (fun S f hS=>⟨[],by rw [append_nil,hst2];exact hS⟩),hA.asg,hA.way,hA.full,hA.told,hE.hJ _ _ _ _ _ hA.jp ⟨hh,hst⟩,Nat.le_trans hA.n hs.keep.size⟩,hb,fun S f hS=>by rw [hst2];exact hS,fun b hl hf hlt=>?_⟩;simp only [Gh.hold];rw [if_pos ⟨hl,hlt,hf.1,hf.2⟩]
theorem StepEnd.base {c:WkC}{U:Nat->Prop}{Vw:World->Prop}{all:List Asg}{Jp Jx:Nat->Gh->World->Prop}{k0 m:Nat}{g gm:Gh}{W Wm W':World}{a:Asg}{kn:List Bool}{ans:Bool}(h:StepEnd c U Vw all Jp Jx k0 m gm Wm a kn ans W')(hb: ∀b o,g.held b=some o->gm.held b=some o)(hs: ∀S f,g.st S=some f->gm.st S=some f)(hz:W.heap.size<=Wm.heap.size):StepEnd c U Vw all Jp Jx k0 m g W a kn ans W':=by
 obtain⟨g',vals',h1,h2,h3,h4,h5,h6,h7,h8⟩:=h;exact⟨g',vals',h1,h2,h3,Nat.le_trans hz h4,h5,fun b o ho hn=>h6 b o (hb b o ho) hn,fun S f hS=>h7 S f (hs S f hS),h8⟩
theorem qsf {α β:Type}(f:α->List β)(l:List α)(j:Nat)(x:α)(h:l[j]?=some x):(l.take (j+1)).flatMap f=(l.take j).flatMap f++f x:=by
 rw [take_add_one,h,flatMap_append];simp
end Go.Proofs
