/- Parts of the proof. -/
import Derived.Test.YtnponcjnahicnaaGreatProg
import Derived.Test.YtnponcjnahicnaaGreatWkDToWkH
import Derived.Test.YtnponcjnahicnaaGreatWkFToWkG
import Derived.Test.YtnponcjnahicnaaGreatWkI
import Derived.Test.YtnponcjnahicnaaGreatHdToKp
import Derived.Test.YtnponcjnahicnaaGreatHoistToRowC
set_option linter.unusedSimpArgs false
set_option linter.unusedVariables false
open Go.Proofs.Tryz(prog)
open List(all_append append_assoc append_nil filter_append flatMap_append flatMap_cons flatMap_nil getD_eq_getElem?_getD getElem?_append_left getElem?_append_right getElem?_eq_getElem getElem?_map getElem?_range getElem_append_left getElem_append_right getElem_toArray length_append length_cons length_filter_le length_nil length_take mem_of_getElem? range_succ setIfInBounds_toArray set_append take_add_one take_of_length_le)
namespace Go.Proofs
open Go.RowKit Go.Ink R4
theorem q2u {n0 n1:Nat}{W0:World}{c:WkC}{LJ:qa7}{U:Nat->Prop}{nU:Nat}{Vw:World->Prop}{all:List Asg}{Jp Jx:Nat->Gh->World->Prop}(hE:qdv n0 n1 W0 c LJ U nU Vw all Jp Jx): ∀(d i:Nat),i+d=c.steps.length->qgt n1 c LJ U Vw all Jp Jx i:=by
 intro d
 induction d with
 |zero=>
  intro i hi;obtain rfl:i=c.steps.length:=by omega
  exact q2t hE
 |succ d ih=>
  intro i hi;have hil:i<c.steps.length:=by omega
  have ih:=ih (i+1) (by omega);obtain⟨q,hq⟩: ∃q,c.steps[i]?=some q:=⟨_,getElem?_eq_getElem hil⟩;have hk:=hE.kinds q (hE.steps q (mem_of_getElem? hq));unfold qbm at hk;have hall: ∀k,(c.r.body.getD q default).kind=k-> ∀q',c.steps[i]?=some q'->(c.r.body.getD q' default).kind=k:=fun k h q' h'=>by
   rw [hq]at h';cases h';exact h
  rcases hk with h |h |h
  ·exact qvh hE hil (hall _ h) ih
  ·exact qvg hE hil (hall _ h) ih
  ·exact qzm hE hil (hall _ h) ih
end Go.Proofs
namespace Go.Proofs
open Go.RowKit Go.Ink R4
attribute [local go_sem] Oper.semAt_some
def qby (body:List LitD)(i:Nat):Nat:=((body.take i).filter fun L=>L.kind==1).length
def qfh (g:Gh)(s:Option Nat)(p:ByteArray)(n:Nat):Nat:=match s with
 |none=>0
 |some S=>match g.st S with
  |some f=>(qo f p n).length
  |none=>0
def qle (stA:Nat->Option Nat)(stN:Option Nat)(body:List LitD)(i:Nat):Option Nat:=if (body.getD i default).kind=1 then stA (qby body i) else if (body.getD i default).kind=2 then stN else none
def qe7 (g:Gh)(stA:Nat->Option Nat)(stN:Option Nat)(body:List LitD)(i:Nat):LookD:=⟨qle stA stN body i,(body.getD i default).atom.pred,(body.getD i default).atom.args.length,qfh g (qle stA stN body i) (body.getD i default).atom.pred (body.getD i default).atom.args.length⟩
def qfl (g:Gh)(stA:Nat->Option Nat)(stN:Option Nat)(body:List LitD):List LookD:=(List.range body.length).map (qe7 g stA stN body)
def okJ (g:Gh)(stA:Nat->Option Nat)(stN:Option Nat)(body:List LitD)(i:Nat):Bool:=(List.range i).all fun j=>!(decide ((body.getD j default).kind=1)) ||decide (0<(qe7 g stA stN body j).upto)
theorem qsh {body:List LitD}{i:Nat}{L:LitD}(h:body[i]?=some L):qby body (i+1)=qby body i+if L.kind=1 then 1 else 0:=by
 unfold qby;rw [take_add_one,h,filter_append,length_append];by_cases hk:L.kind=1
 ·simp [hk]
 ·simp [hk]
theorem q6n (body:List LitD)(i:Nat):qby body i<=i:=by
 unfold qby;exact Nat.le_trans (length_filter_le _ _) (by rw [length_take];omega)
theorem qzp {g:Gh}{stA:Nat->Option Nat}{stN:Option Nat}{body:List LitD}{i:Nat}(h:i<body.length):(qfl g stA stN body).take (i+1)=(qfl g stA stN body).take i++ [qe7 g stA stN body i]:=by
 rw [take_add_one];unfold qfl;rw [getElem?_map,getElem?_range h]
 rfl
theorem qko (g:Gh)(stA:Nat->Option Nat)(stN:Option Nat)(body:List LitD):(qfl g stA stN body).length=body.length:=by unfold qfl;simp
theorem q6o (g:Gh)(stA:Nat->Option Nat)(stN:Option Nat)(body:List LitD)(i:Nat):okJ g stA stN body (i+1)=(okJ g stA stN body i&&(!(decide ((body.getD i default).kind=1)) ||decide (0<(qe7 g stA stN body i).upto))):=by
 unfold okJ;rw [range_succ,all_append];simp
def qdn:Nat->List Value
 |0=> []
 |n+1=> [.pointer none,.string ⟨#[]⟩,.int .i64 0,.int .i64 0]++qdn n
theorem qzq (n:Nat):(qdn n).length=n*4:=by
 induction n with
 |zero=>rfl
 |succ n ih=>rw [qdn,length_append,ih];simp;omega
theorem qwq (n:Nat):madeCells #[.pointer none,.string ⟨#[]⟩,.int .i64 0,.int .i64 0] (n*4)=(qdn n).toArray:=by
 apply Array.ext
 ·simp [madeCells,qzq]
 ·intro i h1 h2;have hz: ∀(n i:Nat) (h:i<(qdn n).length),(qdn n)[i]=([.pointer none,.string ⟨#[]⟩,.int .i64 0,.int .i64 0]:List Value)[i%4]'(Nat.mod_lt _ (by decide)):=by
   intro n
   induction n with
   |zero=>intro i h;simp [qdn] at h
   |succ n ih=>
    intro i h;simp only [qdn];by_cases hi:i<4
    ·rw [getElem_append_left (by simpa using hi)];simp only [Nat.mod_eq_of_lt hi]
    ·rw [getElem_append_right (by simpa using hi)];simp only [length_cons,length_nil];rw [ih]
     congr 1
     omega
  simp only [getElem_toArray];rw [hz];have hm:i%4<4:=Nat.mod_lt _ (by decide);have he: ∀(l:List Value) (k:Nat) (h:k<l.length),l[k]?.getD default=l[k]:=fun l k h=>by rw [getElem?_eq_getElem h];rfl
  simp [madeCells];exact he _ _ hm
theorem q2v:(prog.info? 161).map (fun i=>(i.zero,i.size,i.bytes))=some (some (.agg #[.pointer none,.string ⟨#[]⟩,.int .i64 0,.int .i64 0]),4,40):=by kernel_rfl
theorem qss (n:Nat)(h:n<=1073741824)(u:World):(Instr.makeSlice 153 (.int .i64 (n:Int)) (.int .i64 (n:Int))).run prog u=
  .ok (.slice (some ⟨u.heap.size,0,none⟩) n n) (u.alloc (.cells (qdn n).toArray 161)):=by
 obtain⟨i0,hi,hz0,hz1,hz2⟩:=info_parts q2v;have h:=run_make (P:=prog) u 153 161 i0 (.agg #[.pointer none,.string ⟨#[]⟩,.int .i64 0,.int .i64 0]) Tryz.underlying153 hi hz0 .i64 .i64 (n:Int) (n:Int) (by omega) (Int.le_refl _) (by rw [hz2];omega) (by omega);rw [←qwq]
 simpa [hz1,Value.cells]using h
theorem q2w (A C:List Value)(x0 x1 x2 x3 y:Value):(A++ [x0,x1,x2,x3]++C).set A.length y=A++ [y,x1,x2,x3]++C:=by simp [set_append]
theorem q2x (A C:List Value)(x0 x1 x2 x3 y:Value):(A++ [x0,x1,x2,x3]++C).set (A.length+1) y=A++ [x0,y,x2,x3]++C:=by simp [set_append]
theorem q2y (A C:List Value)(x0 x1 x2 x3 y:Value):(A++ [x0,x1,x2,x3]++C).set (A.length+2) y=A++ [x0,x1,y,x3]++C:=by simp [set_append]
theorem q2z (A C:List Value)(x0 x1 x2 x3 y:Value):(A++ [x0,x1,x2,x3]++C).set (A.length+3) y=A++ [x0,x1,x2,y]++C:=by simp [set_append]
theorem q6p (A C:List Value)(x0 x1 x2 x3:Value)(j:Nat)(hj:j<4):(A++ [x0,x1,x2,x3]++C)[A.length+j]?=([x0,x1,x2,x3]:List Value)[j]?:=by
 rw [append_assoc,getElem?_append_right (by omega),show A.length+j-A.length=j by omega,getElem?_append_left (by simpa using hj)]
def LookAt (w:World)(b:Nat)(ks:List LookD)(k:LookD)(m:Nat):Prop:=w.heap[b]?=some (.cells (ks.flatMap LookD.cells++k.cells++qdn m).toArray 161 (0,0))
theorem qhb (ks:List LookD):(ks.flatMap LookD.cells).length=ks.length*4:=by
 induction ks with
 |nil=>rfl
 |cons k ks ih=>rw [flatMap_cons,length_append,ih];simp [LookD.cells];omega
theorem LookAt.cells {w:World}{b:Nat}{ks:List LookD}{k:LookD}{m i:Nat}(h:LookAt w b ks k m)(hi:ks.length=i):w.cell? ⟨b,i*4,none⟩=some (qz k.store)/\w.cell? ⟨b,i*4+1,none⟩=some (.string k.pred)/\w.cell? ⟨b,i*4+2,none⟩=some (.int .i64 (k.arity:Int))/\w.cell? ⟨b,i*4+3,none⟩=some (.int .i64 (k.upto:Int)):=by
 have hA:(ks.flatMap LookD.cells).length=i*4:=by rw [qhb,hi]
 have q: ∀j v,j<4->k.cells[j]?=some v->w.cell? ⟨b,i*4+j,none⟩=some v:=fun j v hj hv=>by
  have:=qb h (i*4+j) v (by rw [←hA];exact(q6p _ _ _ _ _ _ j hj).trans hv)
  simpa using this
 exact⟨q 0 _ (by decide) rfl,q 1 _ (by decide) rfl,q 2 _ (by decide) rfl,q 3 _ (by decide) rfl⟩
theorem LookAt.keep {w w':World}{b:Nat}{ks:List LookD}{k:LookD}{m:Nat}{C:Nat->Prop}(h:LookAt w b ks k m)(hK:Keep C w w')(hC:C b):LookAt w' b ks k m:=hK.heap h hC
theorem LookAt.set0 {w:World}{b:Nat}{ks:List LookD}{k:LookD}{m i:Nat}(h:LookAt w b ks k m)(hi:ks.length=i)(s:Option Nat):LookAt (w.setCell ⟨b,i*4,none⟩ (qz s)) b ks {k with store:=s} m:=by
 have hA:(ks.flatMap LookD.cells).length=i*4:=by rw [qhb,hi]
 have:=q8 (i*4) (qz s) h;rw [setIfInBounds_toArray,←hA]at this;unfold LookD.cells at this;rw [q2w]at this;rw [←hA];exact this
theorem LookAt.set1 {w:World}{b:Nat}{ks:List LookD}{k:LookD}{m i:Nat}(h:LookAt w b ks k m)(hi:ks.length=i)(s:ByteArray):LookAt (w.setCell ⟨b,i*4+1,none⟩ (.string s)) b ks {k with pred:=s} m:=by
 have hA:(ks.flatMap LookD.cells).length=i*4:=by rw [qhb,hi]
 have:=q8 (i*4+1) (.string s) h;rw [setIfInBounds_toArray,←hA]at this;unfold LookD.cells at this;rw [q2x]at this;rw [←hA];exact this
theorem LookAt.set2 {w:World}{b:Nat}{ks:List LookD}{k:LookD}{m i:Nat}(h:LookAt w b ks k m)(hi:ks.length=i)(s:Nat):LookAt (w.setCell ⟨b,i*4+2,none⟩ (.int .i64 (s:Int))) b ks {k with arity:=s} m:=by
 have hA:(ks.flatMap LookD.cells).length=i*4:=by rw [qhb,hi]
 have:=q8 (i*4+2) (.int .i64 (s:Int)) h;rw [setIfInBounds_toArray,←hA]at this;unfold LookD.cells at this;rw [q2y]at this;rw [←hA];exact this
theorem LookAt.set3 {w:World}{b:Nat}{ks:List LookD}{k:LookD}{m i:Nat}(h:LookAt w b ks k m)(hi:ks.length=i)(s:Nat):LookAt (w.setCell ⟨b,i*4+3,none⟩ (.int .i64 (s:Int))) b ks {k with upto:=s} m:=by
 have hA:(ks.flatMap LookD.cells).length=i*4:=by rw [qhb,hi]
 have:=q8 (i*4+3) (.int .i64 (s:Int)) h;rw [setIfInBounds_toArray,←hA]at this;unfold LookD.cells at this;rw [q2z]at this;rw [←hA];exact this
theorem qzr {X:World}{Bx:Nat}{sp:Option Addr}(h:X.cell? ⟨Bx,0,none⟩=some (.pointer sp))(m:Nat):Calls prog 49 #[.int .i64 (m:Int),qj Bx] X fun e w'=>e=.returned (.pointer sp)/\w'=X:=by
 have lb:=World.block_lt_of_cell? _ _ h;simp only at lb
 go_enter Tryz.func49,Tryz.ntmps49
 go_wp2;go_ret;exact⟨rfl,rfl⟩
theorem ql9 {g:Gh}{w X:World}(hg:GInv g w)(hK:Keep (fun b=>b<w.heap.size) w X){st:Option Nat}(hs: ∀S,st=some S-> ∃f,g.st S=some f)(p:ByteArray)(n:Nat)(hp:p.size<=1073741824)(hn:n<=1073741824):
  Calls prog 119 #[.pointer (st.map fun S=>⟨S,0,none⟩),.agg #[.string p,.int .i64 (n:Int)]] X fun e w'=>e=.returned (.int .i64 (qfh g st p n:Nat))/\Keep (fun _=>True) X w':=by
 cases st with
 |none=>exact qzb (p,n) X
 |some S=>
  obtain⟨f,hf⟩:=hs S rfl;have:=qzc ((hg.keep (hK.mono fun b hb _=>hb)).store S f hf) p n hp hn;unfold qfh;simp only;rw [hf];exact this
set_option maxRecDepth 100000 in
set_option maxHeartbeats 4000000 in
theorem q20 {U:Nat->Prop}{n:Nat}{w:World}{J:Nat}{r:RuleD}{vars:List ByteArray}{pos:List Int}{vha vb vv va vt vh:Value}(hj:JoinAt U n w J r vars pos vha vb vv va vt vh)(hUn: ∀b,U b->b<n)(hn:n<=w.heap.size){g:Gh}(hg:GInv g w)(hk:qio r.body)(hp: ∀L,L∈r.body->L.atom.pred.size<=1073741824)
  {fI:Nat} {lI:Array Value} (eI: ∀args w,(callFunc fI args).run prog w=.ok (.enter fI args) w) {sF:Nat->Option Nat} {stN:Option Nat} (hin: ∀X,Keep (fun b=>b<w.heap.size) w X-> ∀m:Nat,Calls prog fI (#[.int .i64 (m:Int)]++lI) X fun e w'=>e=.returned (qz (sF m))/\w'=X) (hs: ∀m S,sF m=some S-> ∃f,g.st S=some f) (hsN: ∀S,stN=some S-> ∃f,g.st S=some f):
  Calls prog 84 #[qj J,.func (.func fI) #[] lI,qz stN] w fun e w'=> ∃Lk,e=.returned (.tuple #[.slice (some ⟨Lk,0,none⟩) r.body.length r.body.length,.bool (okJ g sF stN r.body r.body.length)])/\w.heap.size<=Lk/\w'.heap[Lk]?=some (.cells ((qfl g sF stN r.body).flatMap LookD.cells).toArray 161 (0,0))/\Keep (fun b=>b<w.heap.size) w w':=by
 obtain⟨ab,cb,hvb,hbl,hbc,hbe⟩:=id hj.body;obtain⟨N,hN⟩:=ex (w.heap.size);have hmk:=fun u=>qss r.body.length hbl u;have hjb:=hj.box;rw [hvb]at hjb;have c2:=qb hjb 2 _ rfl;have lJ:=qe hjb;simp only [Nat.zero_add]at c2;have hszA:=fun q X (hK:Keep (fun b=>b<w.heap.size) w X) p n hp hn=>ql9 hg hK (hs q) p n hp hn;have hszN:=fun X (hK:Keep (fun b=>b<w.heap.size) w X) p n hp hn=>ql9 hg hK hsN p n hp hn;have hsz0:=fun X (hK:Keep (fun b=>b<w.heap.size) w X) p n hp hn=>ql9 (st:=none) hg hK (fun S h=>by cases h) p n hp hn;have hlA:=hin;unfold qz at hlA⊢;obtain⟨sN,hsN0⟩:=ex ((stN.map fun S=>(⟨S,0,none⟩:Addr)));rw [hsN0]at hszN⊢;clear hjb hs hsN hin;obtain⟨W0,hW0⟩:=ex (w.alloc (.cells (qdn r.body.length).toArray 161));have k0:Keep (fun b=>b<N) w W0:=by rw [←hW0];exact kAl
 have nb0:W0.heap[N]?=some (.cells (qdn r.body.length).toArray 161 (0,0)):=by rw [←hW0,←hN];exact qh _ _
 have e2:=k0.cell c2 (show J<N by omega);have lJ0:J<W0.heap.size:=by have:=k0.size;omega
 have lN0:=qe nb0;refine qc5 ?_ hj hUn hg hk hp hbe hN hszA hszN hsz0 hlA hsN0 hvb hW0 k0 nb0;clear hj hUn hg hk hp hbe hN hszA hszN hsz0 hlA hsN0 hvb hW0 k0 nb0;intro Xhj XhUn Xhg Xhk Xhp Xhbe XhN XhszA XhszN Xhsz0 XhlA XhsN0 Xhvb XhW0 Xk0 Xnb0;refine qbp Tryz.func84 rfl ?_;simp only [Tryz.ntmps84,qdz,Nat.reduceAdd,Nat.reduceSub];gi_wp2;rw [XhW0.o,XhN.o];clear hmk c2 lJ;gi_wp2;gi_loopw [9,10,26] (fun m' ok' i' X=> ∃i:Nat,i<=r.body.length/\m'=.int .i64 (qby r.body i:Nat)/\ok'=.bool (okJ g sF stN r.body i)/\i'=.int .i64 (i:Int)/\Keep (fun b=>b<N) w X/\X.heap[N]?=some (.cells (((qfl g sF stN r.body).take i).flatMap LookD.cells++qdn (r.body.length-i)).toArray 161 (0,0))) (fun _ _ i _=>r.body.length-(intOf i).toNat)
 case atStart=>exact⟨0,by omega,rfl,rfl,rfl,Xk0.o,Xnb0.o⟩
 case round=>
  obtain⟨i,hi,rfl,rfl,rfl,hK,hLk⟩:=hrel;have hzr:=hK.size;have hLkl:=qe hLk;by_cases hlt:i<r.body.length
  ·have hlt1:(i:Int)<r.body.length:=by omega
   have hi0:(0:Int)<=i:=by omega
   obtain⟨L,hL⟩: ∃L,r.body[i]?=some L:=⟨_,getElem?_eq_getElem hlt⟩;have hLd:r.body.getD i default=L:=by rw [getD_eq_getElem?_getD,hL];rfl
   have hkd:=Xhk.o i hlt;unfold qbm at hkd;rw [hLd]at hkd;obtain⟨b4,o4,rfl,hb4,hU4,sa,hcl,hta⟩:=Xhbe.o i L hL;have hb4N:b4<N:=by have:=XhN.o;omega
   have d0:=hK.cell (hcl 0 _ rfl) hb4N;have d1:=hK.cell (hcl 1 _ rfl) hb4N;have d2:=hK.cell (hcl 2 _ rfl) hb4N;have d3:=hK.cell (hcl 3 _ rfl) hb4N;have d4:=hK.cell (hcl 4 _ rfl) hb4N;have d5:=hK.cell (hcl 5 _ rfl) hb4N;have d6:=hK.cell (hcl 6 _ rfl) hb4N;have hb4w:b4<wr.heap.size:=by omega
   obtain⟨aa,ca,rfl,hal,hac,-⟩:=id hta;have hpr:=Xhp.o L (mem_of_getElem? hL);have hran:=qsh hL;have hrk:qby r.body i<=1073741824:=Nat.le_trans (q6n _ _) (by omega);have hoks:=q6o g sF stN r.body i;have hlk:=qzp (g:=g) (stA:=sF) (stN:=stN) hlt;obtain⟨ks,hks⟩:=ex ((qfl g sF stN r.body).take i);have hksl:ks.length=i:=by rw [←hks,length_take,qko];omega
   obtain⟨m,hm⟩: ∃m,r.body.length-i=m+1:=⟨r.body.length-i-1,by omega⟩;have hm2:r.body.length-(i+1)=m:=by omega
   rw [hks]at hLk hlk;have hLA:LookAt wr N ks ⟨none,⟨#[]⟩,0,0⟩ m:=by
    unfold LookAt;rw [hm]at hLk;rw [hLk,qdn,append_assoc]
    rfl
   have hlj:qe7 g sF stN r.body i=⟨if L.kind=1 then sF (qby r.body i) else if L.kind=2 then stN else none,L.atom.pred,L.atom.args.length,qfh g (if L.kind=1 then sF (qby r.body i) else if L.kind=2 then stN else none) L.atom.pred L.atom.args.length⟩:=by unfold qe7 qle;rw [hLd]
   rw [hlj]at hlk hoks;rw [hLd]at hoks;have w1:=(hLA.set1 hksl L.atom.pred).set2 hksl L.atom.args.length;obtain⟨k,⟨pr,args⟩,⟨lv,lt⟩,⟨rv,rt⟩⟩:=L;simp only at d0 d1 d2 d3 d4 d5 d6 hal hpr hran hoks hlk hkd w1 hac;obtain⟨y0,y1,y2,y3⟩:=hLA.cells hksl;have f0:=qf hLA (i*4);have f1:=qf hLA (i*4+1);have f2:=qf hLA (i*4+2);have f3:=qf hLA (i*4+3);simp only [Nat.add_zero]at d0;clear hcl hlj hLk hLd;rcases hkd with h |h |h
   ·subst h;simp only [if_true]at hran hoks hlk;have hlA:=XhlA.o;have hszA:=XhszA.o (qby r.body i);have hlA:=fun X hX=>hlA X hX (qby r.body i);obtain⟨s,hsq⟩:=ex (sF (qby r.body i));rw [hsq]at hoks hlk;simp only [hsq]at hlA hszA;obtain⟨sA,hsA⟩:=ex ((s.map fun S=>(⟨S,0,none⟩:Addr)));simp only [hsA]at hlA hszA;have XhlB:=Lib.hid hlA;have XhszB:=Lib.hid hszA;have XhsA:=Lib.hid hsA;clear hlA hszA hsA hsq;have hfin: ∀(u:Nat) (Y:World),LookAt Y N ks ⟨s,pr,args.length,u⟩ m->u=qfh g s pr args.length->Y.heap[N]?=some (.cells (((qfl g sF stN r.body).take (i+1)).flatMap LookD.cells++qdn (r.body.length-(i+1))).toArray 161 (0,0)):=fun u Y h1 h2=>by
     rw [hlk,hm2,←h2,flatMap_append,flatMap_cons,flatMap_nil,append_nil];exact h1
    obtain⟨W1,hW1⟩:=ex (((wr.setCell ⟨N,i*4+1,none⟩ (.string pr)).setCell ⟨N,i*4+1+1,none⟩ (.int .i64 (args.length:Int))).alloc (.cells #[.int .i64 1,.string pr,.slice aa args.length ca,.bool lv,.string lt,.bool rv,.string rt] 64));obtain⟨B,hB⟩:=ex (wr.heap.size);have kA:Keep (fun b=>b≠N) wr W1:=by rw [←hW1];exact((kSc).trans (kSc)).trans kAl
    have w1a:LookAt W1 N ks ⟨none,pr,args.length,0⟩ m:=by rw [←hW1];exact w1.keep (Keep.alloc (fun _=>True) _ _) trivial
    have nbL:W1.heap[B]?=some (.cells #[.int .i64 1,.string pr,.slice aa args.length ca,.bool lv,.string lt,.bool rv,.string rt] 64 (0,0)):=by
     rw [←hW1,←hB];have:=qh ((wr.setCell ⟨N,i*4+1,none⟩ (.string pr)).setCell ⟨N,i*4+1+1,none⟩ (.int .i64 (args.length:Int))) (.cells #[.int .i64 1,.string pr,.slice aa args.length ca,.bool lv,.string lt,.bool rv,.string rt] 64)
     simpa using this
    have hNB:N≠B:=by omega
    obtain⟨z0,z1,z2,z3⟩:=w1a.cells hksl;have fz0:=qf w1a (i*4);have l1N:=qe w1a;simp only [qz,Option.map_none]at z0;refine qc5 ?_ hK hL hta hpr hran hoks hlk hks hksl hm hm2 hLA w1 hfin kA w1a;clear hK hL hta hpr hran hoks hlk hks hksl hm hm2 hLA w1 hfin kA w1a;intro XhK XhL Xhta Xhpr Xhran Xhoks Xhlk Xhks Xhksl Xhm Xhm2 XhLA Xw1 Xhfin XkA Xw1a;refine hd4 ?_ nbL hW1 hB hNB;clear nbL hW1 hB hNB;intro XnbL XhW1 XhB XhNB;gi_wp2;rw [XhW1.o,XhB.o];refine⟨trivial,rfl,(callsIn_wide.2 (XhlB.o W1 ((XhK.o.trans (XkA.o.mono fun b _ (h:b<N)=>by omega)).mono fun b _ (h:b<w.heap.size)=>by have:=XhN.o;omega))).mono ?_⟩;rintro e w9 ⟨rfl,hw9⟩;have hw9:=hw9.symm;subst hw9;clear d0 d1 d2 d3 d4 d5 d6 y0 y1 y2 y3 f0 f1 f2 f3;obtain⟨W2,hW2⟩:=ex (W1.setCell ⟨N,i*4,none⟩ (.pointer sA));have k2:Keep (fun b=>b≠N) W1 W2:=by rw [←hW2];exact kSc
    have w2a:LookAt W2 N ks ⟨s,pr,args.length,0⟩ m:=by
     have:=Xw1a.o.set0 Xhksl.o s;unfold qz at this;rw [XhsA.o,hW2]at this;exact this
    have nbL2:=k2.heap XnbL.o (fun e=>XhNB.o e.symm);have hKX:Keep (fun b=>b<w.heap.size) w W2:=(XhK.o.trans ((XkA.o.trans k2).mono fun b _ (h:b<N)=>by omega)).mono fun b _ (h:b<w.heap.size)=>by have:=XhN.o;omega
    have hS: ∀X,Keep (fun _=>True) W2 X->(X.cell? ⟨N,i*4,none⟩=some (.pointer sA)/\X.cell? ⟨N,i*4+1,none⟩=some (.string pr)/\X.cell? ⟨N,i*4+1+1,none⟩=some (.int .i64 (args.length:Int))):=fun X hX=>by
     obtain⟨q0,q1,q2,q3⟩:=(w2a.keep hX trivial).cells Xhksl.o;unfold qz at q0;exact⟨by rw [←XhsA.o];exact q0,q1,q2⟩
    have hT0:=hS _ kDr;have l2N:=qe w2a;refine hd7 ?_ k2 w2a nbL2 hKX hS hT0 hW2;clear k2 w2a nbL2 hKX hS hT0 hW2;intro Xk2 Xw2a XnbL2 XhKX XhS XhT0 XhW2;gi_wp2;rw [XhW2.o];refine qab ?_;refine qx rfl (fun X=>(X.cell? ⟨N,i*4,none⟩=some (.pointer sA)/\X.cell? ⟨N,i*4+1,none⟩=some (.string pr)/\X.cell? ⟨N,i*4+1+1,none⟩=some (.int .i64 (args.length:Int)))) [] ?_;refine qam [0,1,2,3,4,5,6,7,8,9,10,11] ?_
    iterate 12
     refine tkR (v:=?_) rfl XhT0.o ?_ ?_;rotate_left
     ·rintro Wq ⟨x1,x2,x3⟩;go_simp
      try with_reducible rfl
     try simp only [qan]
    refine qu ?_;refine hoR 12 rfl fun K XhK0=>?_;gi_wp2;refine⟨trivial,rfl,(callsIn_wide.2 (XhszB.o _ (XhKX.o.trans (kDr.mono fun _ _ _=>trivial)) pr args.length Xhpr.o hal)).mono ?_⟩;rintro e W3 ⟨rfl,k3⟩;obtain⟨u,hu⟩:=ex (qfh g s pr args.length);have k23:Keep (fun _=>True) W2 W3:=kDr.trans k3;have hT3:=XhS.o W3 k23;have w3a:=Xw2a.o.keep k23 trivial;have nbL3:=k23.heap XnbL2.o trivial;obtain⟨t0,t1,t2,t3⟩:=w3a.cells Xhksl.o;have fz3:=qf w3a (i*4+3);have l3N:=qe w3a;obtain⟨W4,hW4⟩:=ex (W3.setCell ⟨N,i*4+3,none⟩ (.int .i64 (u:Int)));have w4a:=w3a.set3 Xhksl.o u;rw [hW4]at w4a;have k4:Keep (fun b=>b≠N) W3 W4:=by rw [←hW4];exact kSc
    have nbL4:=k4.heap nbL3 (fun e=>XhNB.o e.symm);have hend:=Xhfin.o u W4 w4a hu.symm;have hK4:Keep (fun b=>b<N) w W4:=(XhKX.o.mono fun b _ (h:b<N)=>by have:=XhN.o;omega).trans ((k23.mono fun _ _ _=>trivial).trans (k4.mono fun b _ h=>by omega));have v0:=qb nbL4 0 _ rfl;have lB4:=qe nbL4;obtain⟨t4,t5,t6,t7⟩:=w4a.cells Xhksl.o;have l4N:=qe w4a;have hT4:(W4.cell? ⟨N,i*4,none⟩=some (.pointer sA)/\W4.cell? ⟨N,i*4+1,none⟩=some (.string pr)/\W4.cell? ⟨N,i*4+1+1,none⟩=some (.int .i64 (args.length:Int))):=by
     unfold qz at t4;exact⟨by rw [←XhsA.o];exact t4,t5,t6⟩
    simp only [Nat.zero_add]at v0;simp only at t3 t7;clear k3 w3a nbL3 w4a k4 nbL4 t0 t1 t2 t4 t5 t6;rw [hu];have hran2:=Xhran.o;have hoks2:=Xhoks.o;obtain⟨ob,hob⟩:=ex (okJ g sF stN r.body i);rw [hob]at hoks2⊢;refine qd9 ?_ hT3 hT4 hend hK4 hW4 hu k23 hoks2 hran2 hob;clear hT3 hT4 hend hK4 hW4 hu k23 hoks2 hran2 hob;intro XhT3 XhT4 Xhend XhK4 XhW4 Xhu Xk23 Xhoks2 Xhran2 Xhob;gi_wp2;refine XhK0.o _ _ (fun _=>XhT3.o) ?_;refine qam [13,14] ?_
    iterate 2
     refine tkR (v:=?_) rfl XhT3.o ?_ ?_;rotate_left
     ·rintro Wq ⟨x1,x2,x3⟩;go_simp
      try with_reducible rfl
     try simp only [qan]
    refine qu ?_;refine hoR 15 rfl fun K XhK1=>?_;gi_wp2;rw [XhW4.o];refine XhK1.o _ _ (fun _=>XhT4.o) ?_;refine qk (by kernel_rfl) (qm ?_);clear XhK0 XhK1 t3 fz3 z0 z1 z2 z3 fz0;cases ob with
    |false=>
     gi_wp2;go_roundw
     case rel=>exact⟨i+1,by omega,by rw [Xhran2.o];go_num,by rw [Xhoks2.o];rfl,by go_num,XhK4.o,Xhend.o⟩
     case measure=>simp [intOf];omega
    |true=>
     by_cases hu0:0<u
     ·have hu1:(0:Int)<u:=by omega
      gi_wp2;go_roundw
      case rel=>exact⟨i+1,by omega,by rw [Xhran2.o];go_num,by rw [Xhoks2.o,Xhu.o,decide_eq_true hu0];rfl,by go_num,XhK4.o,Xhend.o⟩
      case measure=>simp [intOf];omega
     ·have hu1: ¬((0:Int)<u):=by omega
      gi_wp2;go_roundw
      case rel=>exact⟨i+1,by omega,by rw [Xhran2.o];go_num,by rw [Xhoks2.o,Xhu.o,decide_eq_false hu0];rfl,by go_num,XhK4.o,Xhend.o⟩
      case measure=>simp [intOf];omega
   ·subst h;simp only [if_true,show ¬((2:Int)=1) from by decide,if_false]at hran hoks hlk;have hfin: ∀(u:Nat) (Y:World),LookAt Y N ks ⟨stN,pr,args.length,u⟩ m->u=qfh g stN pr args.length->Y.heap[N]?=some (.cells (((qfl g sF stN r.body).take (i+1)).flatMap LookD.cells++qdn (r.body.length-(i+1))).toArray 161 (0,0)):=fun u Y h1 h2=>by
     rw [hlk,hm2,←h2,flatMap_append,flatMap_cons,flatMap_nil,append_nil];exact h1
    have w1b:=w1.set0 hksl stN;unfold qz at w1b;rw [XhsN0.o]at w1b;obtain⟨W1,hW1⟩:=ex ((((wr.setCell ⟨N,i*4+1,none⟩ (.string pr)).setCell ⟨N,i*4+1+1,none⟩ (.int .i64 (args.length:Int))).setCell ⟨N,i*4,none⟩ (.pointer sN)).alloc (.cells #[.int .i64 2,.string pr,.slice aa args.length ca,.bool lv,.string lt,.bool rv,.string rt] 64));obtain⟨B,hB⟩:=ex (wr.heap.size);have kA:Keep (fun b=>b≠N) wr W1:=by rw [←hW1];exact(((kSc).trans (kSc)).trans (kSc)).trans kAl
    have w1a:LookAt W1 N ks ⟨stN,pr,args.length,0⟩ m:=by rw [←hW1];exact w1b.keep (Keep.alloc (fun _=>True) _ _) trivial
    have nbL:W1.heap[B]?=some (.cells #[.int .i64 2,.string pr,.slice aa args.length ca,.bool lv,.string lt,.bool rv,.string rt] 64 (0,0)):=by
     rw [←hW1,←hB];have:=qh (((wr.setCell ⟨N,i*4+1,none⟩ (.string pr)).setCell ⟨N,i*4+1+1,none⟩ (.int .i64 (args.length:Int))).setCell ⟨N,i*4,none⟩ (.pointer sN)) (.cells #[.int .i64 2,.string pr,.slice aa args.length ca,.bool lv,.string lt,.bool rv,.string rt] 64)
     simpa using this
    have hNB:N≠B:=by omega
    obtain⟨z0,z1,z2,z3⟩:=w1a.cells hksl;have fz0:=qf w1a (i*4);have l1N:=qe w1a;simp only [qz]at z0;rw [XhsN0.o]at z0;refine qc5 ?_ hK hL hta hpr hran hoks hlk hks hksl hm hm2 hLA w1 hfin kA w1a;clear hK hL hta hpr hran hoks hlk hks hksl hm hm2 hLA w1 hfin kA w1a;intro XhK XhL Xhta Xhpr Xhran Xhoks Xhlk Xhks Xhksl Xhm Xhm2 XhLA Xw1 Xhfin XkA Xw1a;refine hd4 ?_ nbL hW1 hB hNB;clear nbL hW1 hB hNB;intro XnbL XhW1 XhB XhNB;obtain⟨W2,hW2⟩:=ex (W1);have k2:Keep (fun b=>b≠N) W1 W2:=by rw [←hW2];exact Keep.refl _ _
    have w2a:LookAt W2 N ks ⟨stN,pr,args.length,0⟩ m:=by rw [←hW2];exact Xw1a.o
    have nbL2:=k2.heap XnbL.o (fun e=>XhNB.o e.symm);have hKX:Keep (fun b=>b<w.heap.size) w W2:=(XhK.o.trans ((XkA.o.trans k2).mono fun b _ (h:b<N)=>by omega)).mono fun b _ (h:b<w.heap.size)=>by have:=XhN.o;omega
    have hS: ∀X,Keep (fun _=>True) W2 X->(X.cell? ⟨N,i*4,none⟩=some (.pointer sN)/\X.cell? ⟨N,i*4+1,none⟩=some (.string pr)/\X.cell? ⟨N,i*4+1+1,none⟩=some (.int .i64 (args.length:Int))):=fun X hX=>by
     obtain⟨q0,q1,q2,q3⟩:=(w2a.keep hX trivial).cells Xhksl.o;unfold qz at q0;exact⟨by rw [←XhsN0.o];exact q0,q1,q2⟩
    have hT0:=hS _ kDr;have l2N:=qe w2a;refine hd7 ?_ k2 w2a nbL2 hKX hS hT0 hW2;clear k2 w2a nbL2 hKX hS hT0 hW2;intro Xk2 Xw2a XnbL2 XhKX XhS XhT0 XhW2;gi_wp2;rw [XhW1.o,XhB.o,XhW2.o];refine qab ?_;refine qx rfl (fun X=>(X.cell? ⟨N,i*4,none⟩=some (.pointer sN)/\X.cell? ⟨N,i*4+1,none⟩=some (.string pr)/\X.cell? ⟨N,i*4+1+1,none⟩=some (.int .i64 (args.length:Int)))) [] ?_;refine qam [0,1,2,3,4,5,6,7,8,9,10,11] ?_
    iterate 12
     refine tkR (v:=?_) rfl XhT0.o ?_ ?_;rotate_left
     ·rintro Wq ⟨x1,x2,x3⟩;go_simp
      try with_reducible rfl
     try simp only [qan]
    refine qu ?_;refine hoR 12 rfl fun K XhK0=>?_;gi_wp2;refine⟨trivial,rfl,(callsIn_wide.2 (XhszN.o _ (XhKX.o.trans (kDr.mono fun _ _ _=>trivial)) pr args.length Xhpr.o hal)).mono ?_⟩;rintro e W3 ⟨rfl,k3⟩;obtain⟨u,hu⟩:=ex (qfh g stN pr args.length);have k23:Keep (fun _=>True) W2 W3:=kDr.trans k3;have hT3:=XhS.o W3 k23;have w3a:=Xw2a.o.keep k23 trivial;have nbL3:=k23.heap XnbL2.o trivial;obtain⟨t0,t1,t2,t3⟩:=w3a.cells Xhksl.o;have fz3:=qf w3a (i*4+3);have l3N:=qe w3a;obtain⟨W4,hW4⟩:=ex (W3.setCell ⟨N,i*4+3,none⟩ (.int .i64 (u:Int)));have w4a:=w3a.set3 Xhksl.o u;rw [hW4]at w4a;have k4:Keep (fun b=>b≠N) W3 W4:=by rw [←hW4];exact kSc
    have nbL4:=k4.heap nbL3 (fun e=>XhNB.o e.symm);have hend:=Xhfin.o u W4 w4a hu.symm;have hK4:Keep (fun b=>b<N) w W4:=(XhKX.o.mono fun b _ (h:b<N)=>by have:=XhN.o;omega).trans ((k23.mono fun _ _ _=>trivial).trans (k4.mono fun b _ h=>by omega));have v0:=qb nbL4 0 _ rfl;have lB4:=qe nbL4;obtain⟨t4,t5,t6,t7⟩:=w4a.cells Xhksl.o;have l4N:=qe w4a;have hT4:(W4.cell? ⟨N,i*4,none⟩=some (.pointer sN)/\W4.cell? ⟨N,i*4+1,none⟩=some (.string pr)/\W4.cell? ⟨N,i*4+1+1,none⟩=some (.int .i64 (args.length:Int))):=by
     unfold qz at t4;exact⟨by rw [←XhsN0.o];exact t4,t5,t6⟩
    simp only [Nat.zero_add]at v0;simp only at t3 t7;clear k3 w3a nbL3 w4a k4 nbL4 t0 t1 t2 t4 t5 t6;rw [hu];have hran2:=Xhran.o;have hoks2:=Xhoks.o;obtain⟨ob,hob⟩:=ex (okJ g sF stN r.body i);rw [hob]at hoks2⊢;refine qd9 ?_ hT3 hT4 hend hK4 hW4 hu k23 hoks2 hran2 hob;clear hT3 hT4 hend hK4 hW4 hu k23 hoks2 hran2 hob;intro XhT3 XhT4 Xhend XhK4 XhW4 Xhu Xk23 Xhoks2 Xhran2 Xhob;gi_wp2;refine XhK0.o _ _ (fun _=>XhT3.o) ?_;refine qam [13,14] ?_
    iterate 2
     refine tkR (v:=?_) rfl XhT3.o ?_ ?_;rotate_left
     ·rintro Wq ⟨x1,x2,x3⟩;go_simp
      try with_reducible rfl
     try simp only [qan]
    refine qu ?_;refine hoR 15 rfl fun K XhK1=>?_;gi_wp2;rw [XhW4.o];refine XhK1.o _ _ (fun _=>XhT4.o) ?_;refine qk (by kernel_rfl) (qm ?_);clear XhK0 XhK1 t3 fz3 z0 z1 z2 z3 fz0;cases ob with
    |false=>
     gi_wp2;go_roundw
     case rel=>exact⟨i+1,by omega,by rw [Xhran2.o];go_num,by rw [Xhoks2.o];rfl,by go_num,XhK4.o,Xhend.o⟩
     case measure=>simp [intOf];omega
    |true=>
     gi_wp2;go_roundw
     case rel=>exact⟨i+1,by omega,by rw [Xhran2.o];go_num,by rw [Xhoks2.o];rfl,by go_num,XhK4.o,Xhend.o⟩
     case measure=>simp [intOf];omega
   ·subst h;simp only [show ¬((3:Int)=1) from by decide,show ¬((3:Int)=2) from by decide,if_false]at hran hoks hlk;have hfin: ∀(u:Nat) (Y:World),LookAt Y N ks ⟨none,pr,args.length,u⟩ m->u=qfh g none pr args.length->Y.heap[N]?=some (.cells (((qfl g sF stN r.body).take (i+1)).flatMap LookD.cells++qdn (r.body.length-(i+1))).toArray 161 (0,0)):=fun u Y h1 h2=>by
     rw [hlk,hm2,←h2,flatMap_append,flatMap_cons,flatMap_nil,append_nil];exact h1
    obtain⟨W1,hW1⟩:=ex (((wr.setCell ⟨N,i*4+1,none⟩ (.string pr)).setCell ⟨N,i*4+1+1,none⟩ (.int .i64 (args.length:Int))).alloc (.cells #[.int .i64 3,.string pr,.slice aa args.length ca,.bool lv,.string lt,.bool rv,.string rt] 64));obtain⟨B,hB⟩:=ex (wr.heap.size);have kA:Keep (fun b=>b≠N) wr W1:=by rw [←hW1];exact((kSc).trans (kSc)).trans kAl
    have w1a:LookAt W1 N ks ⟨none,pr,args.length,0⟩ m:=by rw [←hW1];exact w1.keep (Keep.alloc (fun _=>True) _ _) trivial
    have nbL:W1.heap[B]?=some (.cells #[.int .i64 3,.string pr,.slice aa args.length ca,.bool lv,.string lt,.bool rv,.string rt] 64 (0,0)):=by
     rw [←hW1,←hB];have:=qh ((wr.setCell ⟨N,i*4+1,none⟩ (.string pr)).setCell ⟨N,i*4+1+1,none⟩ (.int .i64 (args.length:Int))) (.cells #[.int .i64 3,.string pr,.slice aa args.length ca,.bool lv,.string lt,.bool rv,.string rt] 64)
     simpa using this
    have hNB:N≠B:=by omega
    obtain⟨z0,z1,z2,z3⟩:=w1a.cells hksl;have fz0:=qf w1a (i*4);have l1N:=qe w1a;simp only [qz,Option.map_none]at z0;refine qc5 ?_ hK hL hta hpr hran hoks hlk hks hksl hm hm2 hLA w1 hfin kA w1a;clear hK hL hta hpr hran hoks hlk hks hksl hm hm2 hLA w1 hfin kA w1a;intro XhK XhL Xhta Xhpr Xhran Xhoks Xhlk Xhks Xhksl Xhm Xhm2 XhLA Xw1 Xhfin XkA Xw1a;refine hd4 ?_ nbL hW1 hB hNB;clear nbL hW1 hB hNB;intro XnbL XhW1 XhB XhNB;obtain⟨W2,hW2⟩:=ex (W1);have k2:Keep (fun b=>b≠N) W1 W2:=by rw [←hW2];exact Keep.refl _ _
    have w2a:LookAt W2 N ks ⟨none,pr,args.length,0⟩ m:=by rw [←hW2];exact Xw1a.o
    have nbL2:=k2.heap XnbL.o (fun e=>XhNB.o e.symm);have hKX:Keep (fun b=>b<w.heap.size) w W2:=(XhK.o.trans ((XkA.o.trans k2).mono fun b _ (h:b<N)=>by omega)).mono fun b _ (h:b<w.heap.size)=>by have:=XhN.o;omega
    have hS: ∀X,Keep (fun _=>True) W2 X->(X.cell? ⟨N,i*4,none⟩=some (.pointer none)/\X.cell? ⟨N,i*4+1,none⟩=some (.string pr)/\X.cell? ⟨N,i*4+1+1,none⟩=some (.int .i64 (args.length:Int))):=fun X hX=>by
     obtain⟨q0,q1,q2,q3⟩:=(w2a.keep hX trivial).cells Xhksl.o;unfold qz at q0;exact⟨q0,q1,q2⟩
    have hT0:=hS _ kDr;have l2N:=qe w2a;refine hd7 ?_ k2 w2a nbL2 hKX hS hT0 hW2;clear k2 w2a nbL2 hKX hS hT0 hW2;intro Xk2 Xw2a XnbL2 XhKX XhS XhT0 XhW2;gi_wp2;rw [XhW1.o,XhB.o,XhW2.o];refine qab ?_;refine qx rfl (fun X=>(X.cell? ⟨N,i*4,none⟩=some (.pointer none)/\X.cell? ⟨N,i*4+1,none⟩=some (.string pr)/\X.cell? ⟨N,i*4+1+1,none⟩=some (.int .i64 (args.length:Int)))) [] ?_;refine qam [0,1,2,3,4,5,6,7,8,9,10,11] ?_
    iterate 12
     refine tkR (v:=?_) rfl XhT0.o ?_ ?_;rotate_left
     ·rintro Wq ⟨x1,x2,x3⟩;go_simp
      try with_reducible rfl
     try simp only [qan]
    refine qu ?_;refine hoR 12 rfl fun K XhK0=>?_;gi_wp2;refine⟨trivial,rfl,(callsIn_wide.2 (Xhsz0.o _ (XhKX.o.trans (kDr.mono fun _ _ _=>trivial)) pr args.length Xhpr.o hal)).mono ?_⟩;rintro e W3 ⟨rfl,k3⟩;obtain⟨u,hu⟩:=ex (qfh g none pr args.length);have k23:Keep (fun _=>True) W2 W3:=kDr.trans k3;have hT3:=XhS.o W3 k23;have w3a:=Xw2a.o.keep k23 trivial;have nbL3:=k23.heap XnbL2.o trivial;obtain⟨t0,t1,t2,t3⟩:=w3a.cells Xhksl.o;have fz3:=qf w3a (i*4+3);have l3N:=qe w3a;obtain⟨W4,hW4⟩:=ex (W3.setCell ⟨N,i*4+3,none⟩ (.int .i64 (u:Int)));have w4a:=w3a.set3 Xhksl.o u;rw [hW4]at w4a;have k4:Keep (fun b=>b≠N) W3 W4:=by rw [←hW4];exact kSc
    have nbL4:=k4.heap nbL3 (fun e=>XhNB.o e.symm);have hend:=Xhfin.o u W4 w4a hu.symm;have hK4:Keep (fun b=>b<N) w W4:=(XhKX.o.mono fun b _ (h:b<N)=>by have:=XhN.o;omega).trans ((k23.mono fun _ _ _=>trivial).trans (k4.mono fun b _ h=>by omega));have v0:=qb nbL4 0 _ rfl;have lB4:=qe nbL4;obtain⟨t4,t5,t6,t7⟩:=w4a.cells Xhksl.o;have l4N:=qe w4a;have hT4:(W4.cell? ⟨N,i*4,none⟩=some (.pointer none)/\W4.cell? ⟨N,i*4+1,none⟩=some (.string pr)/\W4.cell? ⟨N,i*4+1+1,none⟩=some (.int .i64 (args.length:Int))):=by
     unfold qz at t4;exact⟨t4,t5,t6⟩
    simp only [Nat.zero_add]at v0;simp only at t3 t7;clear k3 w3a nbL3 w4a k4 nbL4 t0 t1 t2 t4 t5 t6;rw [hu];have hran2:=Xhran.o;have hoks2:=Xhoks.o;obtain⟨ob,hob⟩:=ex (okJ g sF stN r.body i);rw [hob]at hoks2⊢;refine qd9 ?_ hT3 hT4 hend hK4 hW4 hu k23 hoks2 hran2 hob;clear hT3 hT4 hend hK4 hW4 hu k23 hoks2 hran2 hob;intro XhT3 XhT4 Xhend XhK4 XhW4 Xhu Xk23 Xhoks2 Xhran2 Xhob;gi_wp2;refine XhK0.o _ _ (fun _=>XhT3.o) ?_;refine qam [13,14] ?_
    iterate 2
     refine tkR (v:=?_) rfl XhT3.o ?_ ?_;rotate_left
     ·rintro Wq ⟨x1,x2,x3⟩;go_simp
      try with_reducible rfl
     try simp only [qan]
    refine qu ?_;refine hoR 15 rfl fun K XhK1=>?_;gi_wp2;rw [XhW4.o];refine XhK1.o _ _ (fun _=>XhT4.o) ?_;refine qk (by kernel_rfl) (qm ?_);clear XhK0 XhK1 t3 fz3 z0 z1 z2 z3 fz0;cases ob with
    |false=>
     gi_wp2;go_roundw
     case rel=>exact⟨i+1,by omega,by rw [Xhran2.o];go_num,by rw [Xhoks2.o];rfl,by go_num,XhK4.o,Xhend.o⟩
     case measure=>simp [intOf];omega
    |true=>
     gi_wp2;go_roundw
     case rel=>exact⟨i+1,by omega,by rw [Xhran2.o];go_num,by rw [Xhoks2.o];rfl,by go_num,XhK4.o,Xhend.o⟩
     case measure=>simp [intOf];omega
  ·obtain rfl:i=r.body.length:=by omega
   rw [Nat.sub_self,qdn,append_nil,take_of_length_le (by rw [qko];omega)]at hLk;clear hlt;refine hd2 ?_ hK hLk;clear hK hLk;intro XhK XhLk;gi_wp2;refine bodyPost_ret (v:=.tuple #[.slice (some ⟨N,0,none⟩) r.body.length r.body.length,.bool (okJ g sF stN r.body r.body.length)]) (by simp [results,Tryz.results84,go_sem]) rfl ⟨N,rfl,by rw [XhN.o];exact Nat.le_refl _,XhLk.o,XhK.o.mono fun b _ (h:b<w.heap.size)=>by have:=XhN.o;omega⟩
end Go.Proofs
