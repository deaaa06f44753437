/- Parts of the proof. -/
import Derived.Test.YtnponcjnahicnaaGreatJnHToDeA
set_option linter.unusedSimpArgs false
set_option linter.unusedVariables false
set_option maxRecDepth 100000
open Go.Proofs.Tryz(prog)
open List(all_nil nodup_range pairwise_iff_getElem range_add range_succ_eq_map take_zero)
namespace Go.Proofs
open Go.RowKit Go.Ink Go.Flt R4 P16
theorem q0o {body:List LitD}: ∀{i:Nat},i<=body.length->qcb body i=((List.range i).filter fun j=>qbm body j==1).length:=by
 intro i
 induction i with
 |zero=>intro _;rfl
 |succ i ih=>
  intro h;obtain⟨L,c⟩: ∃L,body[i]?=some L:=⟨_,zB wC⟩;have d:qbm body i=L.kind:=by unfold qbm;rw [zJ,c];rfl
  rw [qte c,ih wC,xz,yV,zR]
  congr 1
  by_cases b:L.kind=1
  ·rw [zI b,xX (by rw [d,b];rfl)];rfl
  ·rw [zF b,xi (by rw [d];simpa using b)];rfl
theorem q84 {body:List LitD}{i:Nat}(h:i∈qaf body):(qaf body)[qcb body i]?=some i:=by
 obtain⟨c,b⟩:=qde h;rw [q0o (Nat.le_of_lt c)];obtain⟨m,d⟩: ∃m,body.length=i+(1+m):=⟨body.length-i-1,wC⟩;unfold qaf;rw [d,range_add,yV,yH (zG _),xa,Nat.add_comm 1 m,range_succ_eq_map,yZ,xX (by simpa using b)]
 rfl
theorem q58 {body:List LitD}{k i:Nat}(h:(qaf body)[k]?=some i):qcb body i=k:=by
 have l:=q84 (zH h);have d:(qaf body).Nodup:=List.Pairwise.filter _ nodup_range;obtain⟨e,b⟩:=zA.1 h;obtain⟨g,c⟩:=zA.1 l;rcases Nat.lt_trichotomy k (qcb body i) with hlt |heq |hgt
 ·exact absurd (by rw [b,c]) ((pairwise_iff_getElem.1 d) _ _ e g hlt)
 ·exact heq.symm
 ·exact absurd (by rw [b,c]) ((pairwise_iff_getElem.1 d) _ _ g e hgt)
theorem qn4 (body:List LitD):qd2 body body.length=(qaf body).map fun j:Nat=>(j:Int):=rfl
theorem q3u {r:RuleD}{i:Nat}(h:i∈qaf r.body):qa3 r (i:Int)=false:=by
 obtain⟨c,b⟩:=qde h;unfold qbm at b;unfold qa3;rw [Int.toNat_natCast,zM wC,zM wC,zM (show ¬(r.body.getD i default).kind≠1 by simpa using b)];simp
theorem qn5 {g:Gh}{W:World}(b:GInv g W)(sF:Nat->Option Nat)(sN:Option Nat)(body:List LitD): ∀i,((qdo g sF sN body).pos i).Nodup:=fun i=>qly (qja b _) _ _
theorem qv4 {g:Gh}{W:World}(c:GInv g W)(sF:Nat->Option Nat)(sN:Option Nat){r:RuleD}(l:qce r){first:Int}(b:qa3 r first=false):qfu ((qeu g sF sN r first).map (qbn r))=qeo (qdo g sF sN r.body) r:=by
 obtain⟨d,e,h⟩:=qid (qhx c sF sN l first b);exact qx4 (qn5 c sF sN r.body) d e h
theorem q59 {g:Gh}{W:World}(c:GInv g W)(sF:Nat->Option Nat)(sN:Option Nat){r:RuleD}(d:qce r){first:Int}(b:qa3 r first=false):(qeu g sF sN r first).length=(qes (qdo g sF sN r.body) r.body).length:=by
 have h:=yO List.length (qv4 c sF sN d b);unfold qeo at h;rw [qhw,qhw,zL,zL]at h;exact h
theorem qv5 (g:Gh)(k:Nat)(so sd sa sN:Option Nat)(body:List LitD):qdo g (dF k so sd sa) sN body=qie body (qcd g so) (qcd g sd) (qcd g sa) (qcd g sN) (qcb body) k:=by
 unfold qdo qie
 congr 1
 funext i
 exact q16 (qcd g) k so sd sa _
theorem q6a {g:Gh}{W:World}(c:GInv g W){k:Nat}{so sd sa:Option Nat}(sN:Option Nat){r:RuleD}(p:qce r){first:Int}(b:qa3 r first=false){l:List qk}(h: ∀s f,s=so∨s=sd∨s=sa->f∈qcd g s->f∈l)(v:qgw r l=false):(qeu g (dF k so sd sa) sN r first).length<=20000:=by
 rw [q59 c _ _ p b];obtain⟨-,d,e⟩:=ql0 v;refine qot (qn5 c _ _ _) (fun i t s u q=>?_) e;have m:=(qco.1 u).1;refine((qnc (fs:=l) (l:= [])).2 d).2 _ s (h (dF k so sd sa (qcb r.body i)) _ ?_ m) q;unfold dF;split
 ·exact .inl rfl
 ·split
  ·exact .inr (.inl rfl)
  ·exact .inr (.inr rfl)
theorem qry {n0:Nat}{Ss:List Nat}{g:Gh}{w:World}(y:GInv g w)(hs:qfd Ss g)(m:n0<=w.heap.size){J:Nat}{r:RuleD}(h:qce r)(z:JoinIs g w J r){k:Nat}(hk:k<(qaf r.body).length){so sd sa sN:Option Nat}(ae: ∀S,so=some S->S∈Ss)(ad: ∀S,sd=some S->S∈Ss)(ab: ∀S,sa=some S->S∈Ss)(aa: ∀S,sN=some S->S∈Ss){Bj Bk u q p t:Nat}
  (b1:w.heap[Bj]?=some (.cells #[qi J] 31 (0,0))) (b2:w.heap[Bk]?=some (.cells #[.int .i64 (k:Int)] 3 (0,0))) (b3:w.heap[u]?=some (.cells #[qab so] 37 (0,0))) (b4:w.heap[q]?=some (.cells #[qab sd] 37 (0,0))) (b5:w.heap[p]?=some (.cells #[qab sa] 37 (0,0))) (b6:w.heap[t]?=some (.cells #[qab sN] 37 (0,0)))
  (f1:g.free Bj) (f2:g.free Bk) (f3:g.free u) (f4:g.free q) (f5:g.free p) (f6:g.free t) {l:List qk} (hc: ∀s f,s=so∨s=sd∨s=sa->f∈qcd g s->f∈l) (hv:qgw r l=false):
  Calls prog 19 #[.func (.func 67) #[] #[qi Bj,qi Bk,qi u,qi q,qi p,qi t],.int .i64 (-1)] w fun e w'=> ∃g' v qs,e=.returned v/\GStep n0 g w g' w'/\g'.st=g.st/\MqsAt (fun b=>g'.free b/\w.heap.size<=b) w' v qs/\qs.map (·.1)=qeo (qie r.body (qcd g so) (qcd g sd) (qcd g sa) (qcd g sN) (qcb r.body) k) r:=by
 obtain⟨aE,vb,vv,va,vt,vh,z⟩:=z;obtain⟨i,hi⟩: ∃i,(qaf r.body)[k]?=some i:=⟨_,zB hk⟩;have d:=q3u (zH hi);have R:(qd2 r.body r.body.length)[k]?=some (i:Int):=by rw [qn4,zP,hi];rfl
 have al:=q6a (k:=k) y sN h d hc hv;refine(qj6 (all:=fun γ=>qeu γ (dF k so sd sa) sN r i) (V:=EachV (fun b=>b<w.heap.size/\g.free b) w.heap.size n0 w) (U:=fun b=>b<w.heap.size/\g.free b) y hs m (qdg Tryz.func67 wD rfl)
  (qzg h z (fun b c=>c.1) R d ae ad ab aa ⟨qe b1,f1⟩ b1 ⟨qe b2,f2⟩ b2 ⟨qe b3,f3⟩ b3 ⟨qe b4,f4⟩ b4 ⟨qe b5,f5⟩ b5 ⟨qe b6,f6⟩ b6) (fun b c=>c.2) (fun X x=>⟨fun b c=>x.block b c.1 c.1,x.size,zW m x.size⟩) (fun X Y hV hK=>hV.keep (fun b c=>c.1) hK (fun b c=>c.1)) wC ⟨by have:=qht h.formed;omega,by have:=qgx h.formed r.body.length (zG _);rw [qfj h.formed] at this;have:=qe0 h.formed;omega⟩ (-1)).mono ?_
 rintro e w' ⟨g',v,qs,h1,h2,h3,h4,h5⟩;refine⟨g',v,qs,h1,h2,h3,h4,?_⟩;rw [h5,qx9,←qv5,←qv4 y _ sN h d,←zL (f:=qbn r),zi]
theorem qv6 {A:Type}(k:Nat)(so sd sa:A)(m:Nat):dF k so sd sa m=so∨dF k so sd sa m=sd∨dF k so sd sa m=sa:=by
 unfold dF;split
 ·exact .inl rfl
 ·split
  ·exact .inr (.inl rfl)
  ·exact .inr (.inr rfl)
theorem qs6 {r:RuleD}{O F A B l:List qk}(x:O.Nodup)(v:F.Nodup)(u:A.Nodup)(g: ∀f,f∈O->f∈l)(e: ∀f,f∈F->f∈l)(hA: ∀f,f∈A->f∈l)(q:qgw r l=false)(rk:Nat->Nat)(k:Nat):(qeo (qie r.body O F A B rk k) r).length<=20000:=by
 unfold qeo;rw [qhw,zL];obtain⟨-,c,d⟩:=ql0 q;refine qot (fun i=>?_) (fun i t s p m=>?_) d
 ·refine qly ?_ _ _;show(dF k O F A (rk i)).Nodup;rcases qv6 k O F A (rk i) with h |h |h<;>rw [h]<;>assumption
 ·have b:(⟨(r.body.getD i default).atom.pred,t⟩:qk)∈dF k O F A (rk i):=(qco.1 p).1;refine((qnc (fs:=l) (l:= [])).2 c).2 (⟨(r.body.getD i default).atom.pred,t⟩:qk) s ?_ m;rcases qv6 k O F A (rk i) with h |h |h
  ·rw [h]at b;exact g _ b
  ·rw [h]at b;exact e _ b
  ·rw [h]at b;exact hA _ b
theorem GStep.stay {n0:Nat}{g γ:Gh}{w X Y:World}{C:Nat->Prop}(h:GStep n0 g w γ X)(hK:Keep C X Y)(d: ∀b,b<w.heap.size->C b)(hi:GInv γ Y):GStep n0 g w γ Y:=
 ⟨⟨hK.os.trans h.keep.os,hK.tape.trans h.keep.tape,hK.output.trans h.keep.output,zW h.keep.size hK.size,fun k c e=>(hK.block k (zk c h.keep.size) (d k c)).trans (h.keep.block k c e)⟩,h.more,h.new,h.held,hi⟩
end Go.Proofs
namespace Go.Proofs
open Go.RowKit Go.Ink Go.Flt R4 P16
attribute [local go_sem] Oper.semAt_some
theorem q0p {n0:Nat}{Ss:List Nat}{U:Nat->Prop}{R:Nat}{W0:World}{J:Nat}{r:RuleD}{pos:List Int}{ah vb vv va vt vh:Value}(hj:JoinAt U R W0 J r (qu r) pos ah vb vv va vt vh)(x: ∀b,U b->b<R)
  {k:Int} (hk:k<0∨(pos.length:Int)<=k) {vo vd vs vn:Value} {Bj Bk Bo Bd Ba Bn:Nat}
  (p:U Bj) (c:W0.heap[Bj]?=some (.cells #[qi J] 31 (0,0))) (q:U Bk) (d:W0.heap[Bk]?=some (.cells #[.int .i64 k] 3 (0,0))):
  qoe prog 67 #[qi Bj,qi Bk,qi Bo,qi Bd,qi Ba,qi Bn] (qbt n0 Ss) (fun γ=>([]:List Asg).length) (fun γ0 i γ n X args=> ∃b,([]:List Asg)[i]?=some b/\qju r (qu r) b γ n X args) (EachV U R n0 W0) U:=by
 intro l Jp Jx W g0 hl hinv t hU hJ z e h0;show Calls prog 67 #[.func (.yield l) #[] #[],qi Bj,qi Bk,qi Bo,qi Bd,qi Ba,qi Bn] W _;have a1:=qb ((t.1 Bj p).trans c) 0 _ rfl;have a5:=qb ((t.1 Bk q).trans d) 0 _ rfl;have l1:=qe ((t.1 Bj p).trans c);have l5:=qe ((t.1 Bk q).trans d);have s:=hj.same t.1;have a3:=qb s.box 4 _ rfl;have l3:=qe s.box;obtain⟨ap,cp,rfl,aG,aF,ag⟩:=id s.at';simp only [zD]at a1 a3 a5;have u: ∀m,(∃v,Ending.returned (Value.tuple #[])=.returned v)/\W.heap.size<=(W.drewN m).heap.size/\ ∃γ',(qbt n0 Ss).inv γ' (W.drewN m)/\EachV U R n0 W0 (W.drewN m)/\(Jp ([]:List Asg).length γ' (W.drewN m)∨ ∃k,k<([]:List Asg).length/\Jx k γ' (W.drewN m)):=fun m=>
  ⟨⟨_,rfl⟩,(Keep.drewN' (fun _=>True) W m).size,g0,⟨hinv.1.keep ((Keep.drewN' (fun _=>True) W m).mt),hinv.2⟩,t.keep x (Keep.drewN' (fun _=>True) W m) (fun _ _=>wH),.inl (hJ 0 g0 W g0 _ h0 ⟨GStep.own hinv.1 (Keep.drewN' _ _ _),rfl⟩)⟩
 have hc:(decide (k<0)=true)∨(decide (k<0)=false/\decide ((pos.length:Int)<=k)=true):=by
  rcases Int.lt_or_le k 0 with h |h
  ·exact .inl (zS h)
  ·exact .inr ⟨zM wC,zS wC⟩
 clear ag s;refine qlu ?_ hj x p c q d hinv t hU hJ z e h0 u;clear hj x p c q d hinv t hU hJ z e h0 u;intro aA aq am Y an aa ab az ay ax ao y aw g;rcases hc with h |⟨h,h'⟩
 ·go_enter Tryz.func67,Tryz.ntmps67
  go_wp2_with fail
  go_quiet (fail)
  go_wp2_with fail;refine yA (yw rfl _ _ _) rfl (g.o _)
 ·go_enter Tryz.func67,Tryz.ntmps67
  go_wp2_with fail
  go_quiet (fail)
  go_wp2_with fail;refine yA (yw rfl _ _ _) rfl (g.o _)
def qf0 (r:RuleD)(k:Int)(O F A B:List qk):List qa0:=if 0<=k/\k<(qaf r.body).length then qeo (qie r.body O F A B (qcb r.body) k.toNat) r else []
theorem qis {n0:Nat}{Ss:List Nat}{g:Gh}{w:World}(hg:GInv g w)(hs:qfd Ss g)(d:n0<=w.heap.size){J:Nat}{r:RuleD}(h:qce r)(p:JoinIs g w J r){k:Int}{so sd sa sN:Option Nat}(af: ∀S,so=some S->S∈Ss)(ae: ∀S,sd=some S->S∈Ss)(ad: ∀S,sa=some S->S∈Ss)(ab: ∀S,sN=some S->S∈Ss){Bj Bk x t q u:Nat}
  (y:w.heap[Bj]?=some (.cells #[qi J] 31 (0,0))) (z:w.heap[Bk]?=some (.cells #[.int .i64 k] 3 (0,0))) (b3:w.heap[x]?=some (.cells #[qab so] 37 (0,0))) (b4:w.heap[t]?=some (.cells #[qab sd] 37 (0,0))) (b5:w.heap[q]?=some (.cells #[qab sa] 37 (0,0))) (b6:w.heap[u]?=some (.cells #[qab sN] 37 (0,0)))
  (f1:g.free Bj) (f2:g.free Bk) (f3:g.free x) (f4:g.free t) (f5:g.free q) (f6:g.free u) {l:List qk} (hc: ∀s f,s=so∨s=sd∨s=sa->f∈qcd g s->f∈l) (hv:qgw r l=false):
  Calls prog 19 #[.func (.func 67) #[] #[qi Bj,qi Bk,qi x,qi t,qi q,qi u],.int .i64 (-1)] w fun e w'=> ∃g' v qs,e=.returned v/\GStep n0 g w g' w'/\g'.st=g.st/\MqsAt (fun b=>g'.free b/\w.heap.size<=b) w' v qs/\qs.map (·.1)=qf0 r k (qcd g so) (qcd g sd) (qcd g sa) (qcd g sN):=by
 unfold qf0;by_cases hk:0<=k/\k<(qaf r.body).length
 ·rw [zI hk];obtain⟨m,rfl⟩: ∃m:Nat,k=m:=⟨k.toNat,wC⟩;rw [Int.toNat_natCast];exact qry hg hs d h p wC af ae ad ab y z b3 b4 b5 b6 f1 f2 f3 f4 f5 f6 hc hv
 ·rw [zF hk];obtain⟨aD,vb,vv,va,vt,vh,p⟩:=p;have aa:(qd2 r.body r.body.length).length=(qaf r.body).length:=by rw [qn4,zL]
  refine(qj6 (all:=fun γ=> []) (V:=EachV (fun b=>b<w.heap.size/\g.free b) w.heap.size n0 w) (U:=fun b=>b<w.heap.size/\g.free b) hg hs d (qdg Tryz.func67 wD rfl)
   (q0p p (fun b c=>c.1) (by rw [aa];omega) (vo:=.pointer none) (vd:=.pointer none) (vs:=.pointer none) (vn:=.pointer none) ⟨qe y,f1⟩ y ⟨qe z,f2⟩ z) (fun b c=>c.2) (fun X R=>⟨fun b c=>R.block b c.1 c.1,R.size,zW d R.size⟩) (fun X Y hV hK=>hV.keep (fun b c=>c.1) hK (fun b c=>c.1)) wE ⟨by have:=qht h.formed;omega,by have:=qgx h.formed r.body.length (zG _);rw [qfj h.formed] at this;have:=qe0 h.formed;omega⟩ (-1)).mono ?_
  rintro e w' ⟨g',v,qs,h1,h2,h3,h4,h5⟩;exact⟨g',v,qs,h1,h2,h3,h4,by rw [h5];rfl⟩
end Go.Proofs
namespace Go.Proofs
open Go.RowKit Go.Ink P16
attribute [local go_sem] Oper.semAt_some
theorem qo4 (c:Int)(w:World):Calls prog 163 #[.int .u8 c] w fun e w'=>e=.returned (.bool (qcy c))/\w'=w:=by
 go_enter Tryz.func163,Tryz.ntmps163
 go_wp2
 all_goals go_ret
 all_goals (refine⟨yO (fun b=>Ending.returned (Value.bool b)) ?_,rfl⟩;rw [yx];simp only [qcy,ya,zV,zT,xE];(try simp only [true_iff,false_iff,iff_true,iff_false,zz]);omega)
theorem qo5 (c:Int)(w:World):Calls prog 164 #[.int .u8 c] w fun e w'=>e=.returned (.bool (qct c))/\w'=w:=by
 go_enter Tryz.func164,Tryz.ntmps164
 go_wp2
 all_goals go_ret
 all_goals (refine⟨yO (fun b=>Ending.returned (Value.bool b)) ?_,rfl⟩;rw [yx];simp only [qct,ya,zV,zT,xE];(try simp only [true_iff,false_iff,iff_true,iff_false,zz]);omega)
theorem qxq (c:Int)(w:World):Calls prog 182 #[.int .u8 c] w fun e w'=>e=.returned (.bool (qfs c))/\w'=w:=by
 go_enter Tryz.func182,Tryz.ntmps182
 go_wp2
 all_goals go_ret
 all_goals (refine⟨yO (fun b=>Ending.returned (Value.bool b)) ?_,rfl⟩;rw [yx];simp only [qfs,ya,zV,zT,xE];(try simp only [true_iff,false_iff,iff_true,iff_false,zz]);omega)
theorem qrc (c:Int)(w:World):Calls prog 165 #[.int .u8 c] w fun e w'=>e=.returned (.bool (qa7 c))/\w'=w:=by
 have p:=qo4 c w;have q:=qo5 c w;have r:=qxq c w;obtain⟨x,s⟩: ∃b,qcy c=b:=⟨_,rfl⟩;obtain⟨y,t⟩: ∃b,qct c=b:=⟨_,rfl⟩;obtain⟨z,u⟩: ∃b,qfs c=b:=⟨_,rfl⟩;have v:qa7 c=(x ||y ||z ||decide (c=95)):=by unfold qa7;rw [s,t,u]
 rw [s]at p;rw [t]at q;rw [u]at r;rw [v];clear s t u v;refine hd3 ?_ p q r;clear p q r;intro g l m;cases x with
 |true=>
  go_enter Tryz.func165,Tryz.ntmps165
  go_wp2_with fail;refine g.o.mono ?_;rintro e h ⟨rfl,d⟩;have d:=d.symm;subst d;go_wp2_with fail;go_ret;exact⟨rfl,rfl⟩
 |false=>
  cases y with
  |true=>
   go_enter Tryz.func165,Tryz.ntmps165
   go_wp2_with fail;refine g.o.mono ?_;rintro e h ⟨rfl,d⟩;have d:=d.symm;subst d;go_wp2_with fail;refine l.o.mono ?_;rintro e h ⟨rfl,d⟩;have d:=d.symm;subst d;go_wp2_with fail;go_ret;exact⟨rfl,rfl⟩
  |false=>
   cases z with
   |true=>
    go_enter Tryz.func165,Tryz.ntmps165
    go_wp2_with fail;refine g.o.mono ?_;rintro e h ⟨rfl,d⟩;have d:=d.symm;subst d;go_wp2_with fail;refine l.o.mono ?_;rintro e h ⟨rfl,d⟩;have d:=d.symm;subst d;go_wp2_with fail;refine m.o.mono ?_;rintro e h ⟨rfl,d⟩;have d:=d.symm;subst d;go_wp2_with fail;go_ret;exact⟨rfl,rfl⟩
   |false=>
    go_enter Tryz.func165,Tryz.ntmps165
    go_wp2_with fail;refine g.o.mono ?_;rintro e h ⟨rfl,d⟩;have d:=d.symm;subst d;go_wp2_with fail;refine l.o.mono ?_;rintro e h ⟨rfl,d⟩;have d:=d.symm;subst d;go_wp2_with fail;refine m.o.mono ?_;rintro e h ⟨rfl,d⟩;have d:=d.symm;subst d;go_wp2_with fail;go_ret;exact⟨yO (fun b=>Ending.returned (Value.bool b)) (by rw [yx];simp),rfl⟩
theorem q0q (s:ByteArray)(w:World):Calls prog 135 #[.string s] w fun e w'=>e=.returned (.bool (qev s))/\w'=w:=by
 obtain⟨l,d⟩: ∃b,(s.toList== [105,110,112,117,116])=b:=⟨_,rfl⟩;obtain⟨m,g⟩: ∃b,(s.toList== [111,117,116,112,117,116])=b:=⟨_,rfl⟩;obtain⟨q,h⟩: ∃b,(s.toList== [110,111,116])=b:=⟨_,rfl⟩;have r:(s=qg7)=(l=true):=by
  rw [←d];have e:qg7.toList= [105,110,112,117,116]:=wD
  rw [←e];exact qg6 s qg7
 have t:(s=qfy)=(m=true):=by
  rw [←g];have e:qfy.toList= [111,117,116,112,117,116]:=wD
  rw [←e];exact qg6 s qfy
 have u:(s=qka)=(q=true):=by
  rw [←h];have e:qka.toList= [110,111,116]:=wD
  rw [←e];exact qg6 s qka
 have p:qev s=(l ||m ||q):=by
  unfold qev;simp only [r,t,u,Bool.decide_eq_true]
 clear r t u;refine hd1 ?_ p;clear p;intro c
 go_enter Tryz.func135,Tryz.ntmps135
 cases l<;>cases m
 all_goals go_wp2_with fail
 all_goals go_ret
 all_goals exact⟨by rw [c.o];rfl,rfl⟩
theorem qrd (s:ByteArray)(low:Bool)(hs:s.size<=1073741824)(w:World):Calls prog 134 #[.string s,.bool low] w fun e w'=>e=.returned (.bool (qcw s low))/\w'=w:=by
 rcases y7 s.size 1 with h0 |h0
 ·have hE:qcw s low=false:=by unfold qcw qb0;rw [zM (show ¬1<=s.size from wC),y8,yP,y8]
  have h1:(s.size:Int)<1:=wC
  rw [hE];clear hE h0
  go_enter Tryz.func134,Tryz.ntmps134
  go_wp2_with fail;go_ret;exact⟨rfl,rfl⟩
 have h1: ¬(s.size:Int)<1:=wC
 rcases y7 64 s.size with h64 |h64
 ·have hE:qcw s low=false:=by
   unfold qcw qb0;rw [zM (show ¬s.size<=64 from wC),yP,yP,y8]
  have h2:(64:Int)<s.size:=wC
  rw [hE];clear hE h64
  go_enter Tryz.func134,Tryz.ntmps134
  go_wp2_with fail;go_ret;exact⟨rfl,rfl⟩
 have h2: ¬(64:Int)<s.size:=wC
 have ak:0<s.size:=wC
 have au:(0:Int)<s.size:=wC
 have am:=q7m ak;have u:=qgg s ak;rw [am]at u;obtain⟨c,hc⟩:=ex (qe6 s);rw [hc]at am u;have g1:=qo4 c w;have g2:=qo5 c w;have U:qcw s low=(((qcv s).all qa7&&(decide (1<=s.size)&&decide (s.size<=64)))&&(if low=true then qcy c else qct c)):=by unfold qcw qb0;rw [hc]
 rw [zS (show 1<=s.size from wC),zS h64,xM,xM]at U;have v:(if low=true then qcy c else qct c)=true->((qcv s).take 1).all qa7=true:=fun h=>by
  rw [qh5 qa7 (qcv s) (k:=0) u,take_zero,all_nil,yW];split at h
  ·exact qvw h
  ·exact qvx h
 obtain⟨b1,z⟩: ∃b,(if low=true then qcy c else qct c)=b:=⟨_,rfl⟩;rw [z]at U v;cases low with
 |true=>
  rw [zI rfl]at z;rw [z]at g1;clear g2 hc z u;cases b1 with
  |false=>
   rw [yP]at U;clear v;refine hd2 ?_ g1 U;clear g1 U;intro af x
   go_enter Tryz.func134,Tryz.ntmps134
   go_wp2_with fail;refine af.o.mono ?_;rintro e w9 ⟨rfl,d⟩;have d:=d.symm;subst d;go_wp2_with fail;go_ret;exact⟨by rw [x.o];rfl,rfl⟩
  |true=>
   rw [xM]at U;have v:=v rfl;refine hd3 ?_ g1 U v;clear g1 U v;intro af x ab
   go_enter Tryz.func134,Tryz.ntmps134
   go_wp2_with fail;refine af.o.mono ?_;rintro e w9 ⟨rfl,d⟩;have d:=d.symm;subst d;go_wp2_with fail
   go_loopw [5] (fun i wr=> ∃k:Nat,1<=k/\k<=s.size/\i=.int .i64 (k:Int)/\wr=w/\((qcv s).take k).all qa7=true) (fun i _=>s.size-(intOf i).toNat)
   case atStart=>exact⟨1,wC,wC,rfl,rfl,ab.o⟩
   case round=>
    obtain⟨k,aq,hk,rfl,R,g⟩:=hrel;have R:=R.symm;subst R;have ap:(0:Int)<=k:=wC
    by_cases ad:k<s.size
    ·have an:(k:Int)<s.size:=by omega
     have p:=qgg s ad;have r:=qh5 qa7 (qcv s) p;rw [g,yW]at r;have q:=qrc ((s[k].toNat:Nat):Int) w;cases m:qa7 ((s[k].toNat:Nat):Int) with
     |false=>
      rw [m]at q;have ae:=qjy qa7 _ p m;refine hd6 ?_ p r q m ae g;clear p r q m ae g;intro X y t Y aa l;go_wp2_with fail;refine t.o.mono ?_;rintro e w9 ⟨rfl,d⟩;have d:=d.symm;subst d;go_wp2_with fail;go_ret;exact⟨by rw [x.o,aa.o];rfl,rfl⟩
     |true=>
      rw [m]at q r;refine hd5 ?_ p r q m g;clear p r q m g;intro X y t Y l;go_wp2_with fail;refine t.o.mono ?_;rintro e w9 ⟨rfl,d⟩;have d:=d.symm;subst d;go_wp2_with fail;go_roundw
      case rel=>exact⟨k+1,wC,wC,by go_num,by trivial,y.o⟩
      case measure=>simp [intOf];omega
    ·obtain rfl:k=s.size:=by omega
     rw [yz (by rw [qjd];omega)]at g;clear ad;refine hd1 ?_ g;clear g;intro l;go_wp2_with fail;go_ret;exact⟨by rw [x.o,l.o];rfl,rfl⟩
 |false=>
  rw [zF wE]at z;rw [z]at g2;clear g1 hc z u;cases b1 with
  |false=>
   rw [yP]at U;clear v;refine hd2 ?_ g2 U;clear g2 U;intro ag x
   go_enter Tryz.func134,Tryz.ntmps134
   go_wp2_with fail;refine ag.o.mono ?_;rintro e w9 ⟨rfl,d⟩;have d:=d.symm;subst d;go_wp2_with fail;go_ret;exact⟨by rw [x.o];rfl,rfl⟩
  |true=>
   rw [xM]at U;have v:=v rfl;refine hd3 ?_ g2 U v;clear g2 U v;intro ag x ab
   go_enter Tryz.func134,Tryz.ntmps134
   go_wp2_with fail;refine ag.o.mono ?_;rintro e w9 ⟨rfl,d⟩;have d:=d.symm;subst d;go_wp2_with fail
   go_loopw [5] (fun i wr=> ∃k:Nat,1<=k/\k<=s.size/\i=.int .i64 (k:Int)/\wr=w/\((qcv s).take k).all qa7=true) (fun i _=>s.size-(intOf i).toNat)
   case atStart=>exact⟨1,wC,wC,rfl,rfl,ab.o⟩
   case round=>
    obtain⟨k,aq,hk,rfl,R,g⟩:=hrel;have R:=R.symm;subst R;have ap:(0:Int)<=k:=wC
    by_cases ad:k<s.size
    ·have an:(k:Int)<s.size:=by omega
     have p:=qgg s ad;have r:=qh5 qa7 (qcv s) p;rw [g,yW]at r;have q:=qrc ((s[k].toNat:Nat):Int) w;cases m:qa7 ((s[k].toNat:Nat):Int) with
     |false=>
      rw [m]at q;have ae:=qjy qa7 _ p m;refine hd6 ?_ p r q m ae g;clear p r q m ae g;intro X y t Y aa l;go_wp2_with fail;refine t.o.mono ?_;rintro e w9 ⟨rfl,d⟩;have d:=d.symm;subst d;go_wp2_with fail;go_ret;exact⟨by rw [x.o,aa.o];rfl,rfl⟩
     |true=>
      rw [m]at q r;refine hd5 ?_ p r q m g;clear p r q m g;intro X y t Y l;go_wp2_with fail;refine t.o.mono ?_;rintro e w9 ⟨rfl,d⟩;have d:=d.symm;subst d;go_wp2_with fail;go_roundw
      case rel=>exact⟨k+1,wC,wC,by go_num,by trivial,y.o⟩
      case measure=>simp [intOf];omega
    ·obtain rfl:k=s.size:=by omega
     rw [yz (by rw [qjd];omega)]at g;clear ad;refine hd1 ?_ g;clear g;intro l;go_wp2_with fail;go_ret;exact⟨by rw [x.o,l.o];rfl,rfl⟩
theorem qre (s:ByteArray)(u:s.size<=1073741824)(w:World):Calls prog 100 #[.string s] w fun e w'=>e=.returned (.bool (qdq s))/\w'=w:=by
 have q:=qrd s true u w;have p:=q0q s w;have l:qdq s=(qcw s true&&!qev s):=rfl;obtain⟨t,g⟩: ∃b,qcw s true=b:=⟨_,rfl⟩;obtain⟨v,h⟩: ∃b,qev s=b:=⟨_,rfl⟩;rw [g]at q l;rw [h]at p l;rw [l];clear l g h;refine hd2 ?_ q p;clear q p;intro d m;cases t
 ·go_enter Tryz.func100,Tryz.ntmps100
  go_wp2_with fail;refine d.o.mono ?_;rintro e r ⟨rfl,c⟩;have c:=c.symm;subst c;go_wp2_with fail;go_ret;exact⟨rfl,rfl⟩
 ·go_enter Tryz.func100,Tryz.ntmps100
  go_wp2_with fail;refine d.o.mono ?_;rintro e r ⟨rfl,c⟩;have c:=c.symm;subst c;go_wp2_with fail;refine m.o.mono ?_;rintro e r ⟨rfl,c⟩;have c:=c.symm;subst c;go_wp2_with fail;go_ret;exact⟨rfl,rfl⟩
theorem q3v (s:ByteArray)(h:s.size<=1073741824)(w:World):Calls prog 166 #[.string s] w fun e w'=>e=.returned (.bool (qh0 s))/\w'=w:=by
 have d:=qrd s false h w;have g:qh0 s=qcw s false:=rfl;rw [g];refine hd1 ?_ d;clear d;intro c
 go_enter Tryz.func166,Tryz.ntmps166
 go_wp2_with fail;refine c.o.mono ?_;rintro e l ⟨rfl,b⟩;have b:=b.symm;subst b;go_wp2_with fail;go_ret;exact⟨rfl,rfl⟩
end Go.Proofs
