/- Parts of the proof. -/
import Derived.Test.YtnponcjnahicnaaGreatProg
import Derived.Test.YtnponcjnahicnaaGreatLwEToLwG
import Derived.Test.YtnponcjnahicnaaGreatJnDToJnE
import Derived.Test.YtnponcjnahicnaaGreatStGToStJ
import Derived.WalkKit
import Derived.Test.YtnponcjnahicnaaGreatHdToKp
import Derived.Test.YtnponcjnahicnaaGreatEcDToCmB
import Derived.Sort.QuietIn
import Derived.Test.YtnponcjnahicnaaGreatHoistToRowC
set_option linter.unusedSectionVars false
set_option linter.unusedSimpArgs false
set_option linter.unusedVariables false
open Go.Proofs.Tryz(prog)
open List(filter_append filter_cons_of_neg filter_cons_of_pos find?_eq_none find?_some flatMap_append flatMap_cons getD_eq_getElem?_getD getElem?_append_right getElem?_eq_getElem getElem?_map getElem?_take getElem_mem length_append length_cons length_map length_singleton map_cons map_map mem_append mem_flatMap mem_iff_getElem? mem_map mem_of_getElem? mem_range mem_singleton nodup_range pairwise_flatMap pairwise_iff_getElem pairwise_lt_range pairwise_map range_add range_succ range_succ_eq_map take_length)
namespace Go.Ink
open Go.RowKit
section
variable {F : Fence} {n : Nat} {P : Program} {ops : Array Oper} {Q : Exit -> Act -> World -> Prop} {md : Region.Mode} {S S' : World -> Prop} {late : List Nat}
end
end Go.Ink
namespace Go.Proofs
open Go.RowKit Go.Ink Go.Flt R4 P16
theorem qro {w:World}{base:Nat}{e:TypeId}{sz n:Nat}{v:Value}{xs:List Value}(h:w.ownsRow base e sz v n xs)(hn:0<n): ∃g cap,v=.slice (some ⟨g,0,none⟩) n cap/\base<=g/\g<w.heap.size/\n<=cap/\cap<=maxLen/\
  (∀j u,xs[j]?=some u->w.cell? ⟨g,j,none⟩=some u)/\ ∀j,w.frozen? ⟨g,j,none⟩=false:=by
 rcases h.2 with ⟨h1,h2⟩ |⟨g,cap,cur,h1,hb,hg,hnc,hcm,hcs,ht⟩
 ·omega
 ·refine⟨g,cap,h1,hb,qe hg,hnc,hcm,fun j u hu=>?_,fun j=>qf hg j⟩;have hj:cur.toList[j]?=some u:=by
   rw [←ht,getElem?_take]at hu;split at hu
   ·exact hu
   ·cases hu
  have:=qb hg j u (by simpa using hj)
  simpa using this
theorem qmy {J:qa7}{r:RuleD}(hr:qcr r): ∀m,m∈qcv J r->m.head.length<=1073741824/\m.vals.length<=1073741824:=fun m hm=>by
 unfold qcv at hm;rw [qjm]at hm;obtain⟨b,-,rfl⟩:=mem_map.1 hm;unfold qbz;simp only [length_map];refine⟨by have:=qjg hr.formed;omega,?_⟩;have:=qlf hr.formed r.body.length (Nat.le_refl _);rw [qi9 hr.formed]at this;have:=qjh hr.formed;omega
end Go.Proofs
namespace Go.Ink
def dF {A:Type}(k:Nat)(so sd sa:A):Nat->A:=fun m=>if m<k then so else if m=k then sd else sa
theorem q0l {A B:Type}(f:A->B)(k:Nat)(so sd sa:A)(m:Nat):f (dF k so sd sa m)=dF k (f so) (f sd) (f sa) m:=by
 unfold dF;split
 ·rfl
 ·split<;>rfl
def TJ (body:List LitD)(b:Asg)(C:List ql)(i:Nat):Prop:= ∃t,t∈qo C (body.getD i default).atom.pred (body.getD i default).atom.args.length/\(body.getD i default).atom.args.map (qy b)=t.map some
theorem q3q {t u:List ByteArray}(h:t.map some=u.map some):t=u:=by
 have:=congrArg (List.map fun x:Option ByteArray=>x.getD ⟨#[]⟩) h
 simpa [map_map,Function.comp_def]using this
theorem q0m {body:List LitD}{b:Asg}{O F:List ql}(hd: ∀f,f∈O->f∉F){i:Nat}(h:TJ body b O i): ¬TJ body b F i:=by
 rintro⟨u,hu,eu⟩;obtain⟨t,ht,et⟩:=h;have:=q3q (et.symm.trans eu);subst this;exact hd _ (qay.1 ht).1 (qay.1 hu).1
theorem qsv {body:List LitD}{b:Asg}{O F A:List ql}(hA: ∀f,f∈A↔f∈O∨f∈F)(i:Nat):TJ body b A i↔TJ body b O i∨TJ body b F i:=by
 constructor
 ·rintro⟨t,ht,e⟩;obtain⟨h1,h2⟩:=qay.1 ht;rcases(hA _).1 h1 with h |h
  ·exact .inl ⟨t,qay.2 ⟨h,h2⟩,e⟩
  ·exact .inr ⟨t,qay.2 ⟨h,h2⟩,e⟩
 ·rintro(⟨t,ht,e⟩ |⟨t,ht,e⟩)
  ·exact⟨t,qay.2 ⟨(hA _).2 (.inl (qay.1 ht).1),(qay.1 ht).2⟩,e⟩
  ·exact⟨t,qay.2 ⟨(hA _).2 (.inr (qay.1 ht).1),(qay.1 ht).2⟩,e⟩
theorem qrp {body:List LitD}{b:Asg}{pos:Nat->List ql}{neg:List ql}{i:Nat}(h:i∈qag body):qek (qcc body pos neg) body b i↔TJ body b (pos i) i:=by
 have hk:=(qc8 h).2;unfold qbm at hk;unfold qek;rw [if_neg (by omega),if_neg (by omega)]
 rfl
def q44 (body:List LitD)(neg:List ql)(b:Asg):Prop:=(ExtA qb3 b/\qg3 qb3 b (qw body (qag body)))/\qli (qcc body (fun _=> []) neg) body b=true
theorem qew {body:List LitD}{b:Asg}{pos:Nat->List ql}{neg:List ql}:b∈qbd (qcc body pos neg) body↔q44 body neg b/\ ∀i,i∈qag body->TJ body b (pos i) i:=by
 rw [qe0];have hr:qli (qcc body pos neg) body b=qli (qcc body (fun _=> []) neg) body b:=rfl;rw [hr];unfold q44;constructor
 ·rintro⟨⟨h1,h2,h3⟩,h4⟩;exact⟨⟨⟨h1,h2⟩,h4⟩,fun i hi=>(qrp hi).1 (h3 i hi)⟩
 ·rintro⟨⟨⟨h1,h2⟩,h4⟩,h3⟩;exact⟨⟨h1,h2,fun i hi=>(qrp hi).2 (h3 i hi)⟩,h4⟩
theorem qpn {l:List qad}(h:qgv l):(l.map (·.vals)).Nodup:=by
 refine pairwise_map.2 (h.imp fun {x y} hxy e=>?_);rw [e]at hxy;exact absurd hxy (by rw [qi3];decide)
theorem q3r {p:Nat->Prop}{f:Nat->Nat}: ∀(n i:Nat),f i<=n->p i-> ∃j,p j/\ ∀k,p k->f j<=f k:=by
 intro n
 induction n with
 |zero=>intro i h hp;exact⟨i,hp,fun k _=>by omega⟩
 |succ n ih=>
  intro i h hp;by_cases hl: ∃j,p j/\f j<=n
  ·obtain⟨j,hj,hn⟩:=hl;exact ih j hn hj
  ·exact⟨i,hp,fun k hk=>by
    by_cases hkn:f k<=n
    ·exact absurd ⟨k,hk,hkn⟩ hl
    ·omega⟩
section
variable {body : List LitD} {O F A N : List ql} (hA : ∀ f, f ∈ A ↔ f ∈ O ∨ f ∈ F) (hd : ∀ f, f ∈ O -> f ∉ F) {rk : Nat -> Nat} (hrk : ∀ i j, i ∈ qag body -> j ∈ qag body -> rk i = rk j -> i = j) {np : Nat} (hnp : ∀ i, i ∈ qag body -> rk i < np) (hon : ∀ k, k < np -> ∃ i, i ∈ qag body /\ rk i = k)
def qem (body:List LitD)(O F A N:List ql)(rk:Nat->Nat)(k:Nat):qa7:=qcc body (fun i=>dF k O F A (rk i)) N
include hA
theorem qvt {k:Nat}{b:Asg}(h:b∈qbd (qem body O F A N rk k) body):b∈qbd (qcc body (fun _=>A) N) body:=by
 obtain⟨h1,h2⟩:=qew.1 h;refine qew.2 ⟨h1,fun i hi=>?_⟩;have:=h2 i hi;unfold dF at this;split at this
 ·exact(qsv hA i).2 (.inl this)
 ·split at this
  ·exact(qsv hA i).2 (.inr this)
  ·exact this
theorem qx6 {b:Asg}(h:b∈qbd (qcc body (fun _=>O) N) body):b∈qbd (qcc body (fun _=>A) N) body:=by
 obtain⟨h1,h2⟩:=qew.1 h;exact qew.2 ⟨h1,fun i hi=>(qsv hA i).2 (.inl (h2 i hi))⟩
include hd hrk hnp
theorem q0n {b:Asg}(h:b∈qbd (qcc body (fun _=>A) N) body)(hp:b∉qbd (qcc body (fun _=>O) N) body): ∃k,k<np/\b∈qbd (qem body O F A N rk k) body:=by
 obtain⟨h1,h2⟩:=qew.1 h;have hex: ∃i,i∈qag body/\ ¬TJ body b O i:=Classical.byContradiction fun hn=>hp (qew.2 ⟨h1,fun i hi=>Classical.byContradiction fun ht=>hn ⟨i,hi,ht⟩⟩);obtain⟨i,hi⟩:=hex;obtain⟨j,⟨hj,hjn⟩,hmin⟩:=q3r (p:=fun i=>i∈qag body/\ ¬TJ body b O i) (f:=rk) (rk i) i (Nat.le_refl _) hi;refine⟨rk j,hnp j hj,qew.2 ⟨h1,fun m hm=>?_⟩⟩;unfold dF;split
 ·rename_i hl;exact Classical.byContradiction fun hn=>by have:=hmin m ⟨hm,hn⟩;omega
 ·split
  ·rename_i hl he;have hmj:=h2 m hm;rcases(qsv hA m).1 hmj with h |h
   ·exact absurd h (fun h=>by
     have:m=j:=by
      exact hrk m j hm hj he
     subst this;exact hjn h)
   ·exact h
  ·exact h2 m hm
omit hA hnp in
include hon in
theorem q0o {k:Nat}(hk:k<np){b:Asg}(h:b∈qbd (qem body O F A N rk k) body):b∉qbd (qcc body (fun _=>O) N) body:=fun hp=>by
 obtain⟨i,hi,he⟩:=hon k hk;have h1:=(qew.1 h).2 i hi;have h2:=(qew.1 hp).2 i hi;unfold dF at h1;rw [if_neg (by omega),if_pos he]at h1;exact q0m hd h2 h1
omit hA hnp in
include hon in
theorem qx7 {k k':Nat}(hk:k<np)(hkk:k<k'){b:Asg}(h:b∈qbd (qem body O F A N rk k) body):b∉qbd (qem body O F A N rk k') body:=fun hp=>by
 obtain⟨i,hi,he⟩:=hon k hk;have h1:=(qew.1 h).2 i hi;have h2:=(qew.1 hp).2 i hi;unfold dF at h1 h2;rw [if_neg (by omega),if_pos he]at h1;rw [if_pos (by omega)]at h2;exact q0m hd h2 h1
end
theorem qf7 {J:qa7}{r:RuleD}{m:qad}:m∈qcv J r↔ ∃b,b∈qbd J r.body/\qbz r b=m:=by
 unfold qcv;rw [qjm,mem_map]
theorem qw3 {J J':qa7}{r:RuleD}{b c:Asg}(hb:b∈qbd J r.body)(hc:c∈qbd J' r.body)(h:(qbz r b).vals=(qbz r c).vals):b=c:=
 qtp (xs:=qw r.body (qag r.body)) (fun x hx=>qkf hx) (qe0.1 hb).1.2.1 (qe0.1 hc).1.2.1 h
theorem qtw {J:qa7}{r:RuleD}(hJ: ∀i,(J.pos i).Nodup):((qcv J r).map (·.vals)).Nodup:=by
 have hn:(qbd J r.body).Nodup:=List.Pairwise.filter _ (qkd hJ _ qb3 (by rw [qfx];exact qk1 _ _ _ fun i hi=>(qc8 hi).2));have h:=qlk (fun x hx=>qkf hx) (fun b hb=>(qe0.1 hb).1.2.1) hn;exact(qpn (qke h))
def qgi (r:RuleD)(O F A N:List ql)(rk:Nat->Nat)(np:Nat):List qad:=(List.range np).flatMap fun k=>qcv (qem r.body O F A N rk k) r
theorem q3s {r:RuleD}{O F A N:List ql}(hA: ∀f,f∈A↔f∈O∨f∈F)(hd: ∀f,f∈O->f∉F)(nO:O.Nodup)(nF:F.Nodup)(nA:A.Nodup){rk:Nat->Nat}(hrk: ∀i j,i∈qag r.body->j∈qag r.body->rk i=rk j->i=j){np:Nat}(hnp: ∀i,i∈qag r.body->rk i<np)(hon: ∀k,k<np-> ∃i,i∈qag r.body/\rk i=k):
  (∀m,m∈qd5 (qgi r O F A N rk np)->m∈qcv (qcc r.body (fun _=>A) N) r)/\(∀m,m∈qcv (qcc r.body (fun _=>O) N) r->m∈qcv (qcc r.body (fun _=>A) N) r)/\
  (∀m,m∈qcv (qcc r.body (fun _=>A) N) r->(m∈qcv (qcc r.body (fun _=>O) N) r↔m∉qd5 (qgi r O F A N rk np)))/\
  ((qcv (qcc r.body (fun _=>A) N) r).map (·.vals)).Nodup/\((qd5 (qgi r O F A N rk np)).map (·.vals)).Nodup:=by
 have htold: ∀m,m∈qd5 (qgi r O F A N rk np)↔ ∃k,k<np/\ ∃b,b∈qbd (qem r.body O F A N rk k) r.body/\qbz r b=m:=fun m=>by
  unfold qgi;rw [qjm,mem_flatMap];constructor
  ·rintro⟨k,hk,hm⟩;exact⟨k,mem_range.1 hk,qf7.1 hm⟩
  ·rintro⟨k,hk,hm⟩;exact⟨k,mem_range.2 hk,qf7.2 hm⟩
 have nd: ∀k i,((qem r.body O F A N rk k).pos i).Nodup:=fun k i=>by
  refine qhu ?_ _ _;show List.Nodup (if rk i<k then O else if rk i=k then F else A);split
  ·exact nO
  ·split
   ·exact nF
   ·exact nA
 refine⟨fun m hm=>?_,fun m hm=>?_,fun m hm=>?_,qtw fun i=>qhu nA _ _,qpn (qke ?_)⟩
 ·obtain⟨k,hk,b,hb,rfl⟩:=(htold m).1 hm;exact qf7.2 ⟨b,qvt hA hb,rfl⟩
 ·obtain⟨b,hb,rfl⟩:=qf7.1 hm;exact qf7.2 ⟨b,qx6 hA hb,rfl⟩
 ·obtain⟨b,hb,rfl⟩:=qf7.1 hm;constructor
  ·intro hp ht;obtain⟨c,hc,e⟩:=qf7.1 hp;obtain⟨k,hk,d,hdd,e2⟩:=(htold _).1 ht;have h1:c=d:=qw3 hc hdd (by rw [e,e2]);subst h1;exact q0o hd hrk hon hk hdd hc
  ·intro ht;refine Classical.byContradiction fun hp=>ht ?_;obtain⟨k,hk,hbk⟩:=q0n hA hd hrk hnp hb (fun hx=>hp (qf7.2 ⟨b,hx,rfl⟩));exact(htold _).2 ⟨k,hk,b,hbk,rfl⟩
 ·unfold qgi;have hpw:((List.range np).flatMap fun k=>qcv (qem r.body O F A N rk k) r).Pairwise fun x y=>x.vals≠y.vals:=by
   rw [pairwise_flatMap];refine⟨fun k _=>pairwise_map.1 (qtw (nd k)),?_⟩;refine(pairwise_lt_range (n:=np)).imp_of_mem ?_;intro k k' hk hk' hkk x hx y hy e;obtain⟨b,hb,rfl⟩:=qf7.1 hx;obtain⟨c,hc,rfl⟩:=qf7.1 hy;have:=qw3 hb hc e;subst this;exact qx7 hd hrk hon (mem_range.1 hk) hkk hb hc
  exact pairwise_map.2 hpw
end Go.Ink
namespace Go.Proofs
open Go.RowKit Go.Ink R4
attribute [local go_sem] Oper.semAt_some
theorem q0p {c:List ql}{f:ql}: ∃i:Int,qjw (qdl (qo c f.pred f.tuple.length) f.tuple)=.tuple #[.int .i64 i,.bool (decide (f∈c))]:=by
 have hm:f.tuple∈qo c f.pred f.tuple.length↔f∈c:=⟨fun h=>(qay.1 h).1,fun h=>qay.2 ⟨h,rfl⟩⟩;cases e:qdl (qo c f.pred f.tuple.length) f.tuple with
 |none=>
  have:f∉c:=fun h=>by
   obtain⟨i,hi⟩:=mem_iff_getElem?.1 (hm.2 h);unfold qdl at e;exact find?_eq_none.1 e i (mem_range.2 (List.getElem?_eq_some_iff.1 hi).1) (decide_eq_true hi)
  exact⟨_,by rw [decide_eq_false this];rfl⟩
 |some i=>
  have:f∈c:=by
   apply hm.1;unfold qdl at e;have:=find?_some e;exact mem_of_getElem? (of_decide_eq_true this)
  exact⟨_,by rw [decide_eq_true this];rfl⟩
set_option maxRecDepth 100000 in
theorem qrq {tag:qct}{w:World}{S:Nat}{c:List ql}(h:StoreAt tag w S c)(f:ql)(hp:f.pred.size<=1073741824)(m:Nat)(v:Value)(ht:qae m w v f.tuple)(hm:m<=w.heap.size)(hsm: ∀s,s∈f.tuple->s.size<=1073741824):
  Calls prog 31 #[qj S,.agg #[.string f.pred,v]] w fun e w'=>e=.returned (.bool (decide (f∈c)))/\Keep (fun _=>True) w w':=by
 obtain⟨N,hN⟩:=ex (w.heap.size);obtain⟨a,cp,rfl,hl,hc,he⟩:=id ht;obtain⟨W0,hW0⟩:=ex (w.alloc (.cells #[.string f.pred,.slice a f.tuple.length cp] 52));have k0:Keep (fun _=>True) w W0:=by rw [←hW0];exact kAl
 have z0:W0.heap.size=N+1:=by rw [←hW0,←hN];simp
 have p0:W0.heap[N]?=some (.cells #[.string f.pred,.slice a f.tuple.length cp] 52 (0,0)):=by rw [←hW0,←hN];exact qh _ _
 have c0:=qb p0 0 _ rfl;have c1:=qb p0 1 _ rfl;simp only [Nat.zero_add]at c0 c1;have hNl:=qe p0;obtain⟨T,M,MX,vx,xs,rl,hP⟩:=id h;have hplace:=qoc (tag:=tag) (w:=W0) ⟨T,M,MX,vx,xs,rl,hP.keep (tag':=tag) k0 (fun _ _ _=>trivial) (fun _ _=>Iff.rfl)⟩ f.pred f.tuple.length hp hl m _ f.tuple (qgk ht (k0.mono fun _ _ _=>trivial)) (by omega) hsm;obtain⟨i,hi⟩:=q0p (c:=c) (f:=f);rw [hi]at hplace;unfold qdt at hplace;clear hi hP he;refine hd7 ?_ h ht hN hW0 k0 p0 hplace;clear h ht hN hW0 k0 p0 hplace;intro Xh Xht XhN XhW0 Xk0 Xp0 Xhplace
 go_enter Tryz.func31,Tryz.ntmps31
 go_wp2_with fail;rw [XhW0.o,XhN.o];refine Xhplace.o.mono ?_;rintro e w' ⟨rfl,hK⟩;go_wp2;go_ret;exact⟨rfl,Xk0.o.trans hK⟩
end Go.Proofs
namespace Go.Proofs
open Go.RowKit Go.Ink Go.Flt R4 P16
attribute [local go_sem] Oper.semAt_some
theorem qiq {X W:World}{b o:Nat}{v:Value}(h:X.heap[b]?=W.heap[b]?)(hc:W.cell? ⟨b,o,none⟩=some v):X.cell? ⟨b,o,none⟩=some v:=by
 unfold World.cell? at hc⊢;simp only at hc⊢;rw [h];exact hc
theorem qvu {X:World}{Bk Bo Bd Ba:Nat}{k:Nat}{so sd sa:Option Addr}(h1:X.cell? ⟨Bk,0,none⟩=some (.int .i64 (k:Int)))(h2:X.cell? ⟨Bo,0,none⟩=some (.pointer so))(h3:X.cell? ⟨Bd,0,none⟩=some (.pointer sd))(h4:X.cell? ⟨Ba,0,none⟩=some (.pointer sa))(m:Nat):
  Calls prog 68 #[.int .i64 (m:Int),qj Bk,qj Bo,qj Bd,qj Ba] X fun e w'=>e=.returned (.pointer (dF k so sd sa m))/\w'=X:=by
 have l1:=World.block_lt_of_cell? _ _ h1;have l2:=World.block_lt_of_cell? _ _ h2;have l3:=World.block_lt_of_cell? _ _ h3;have l4:=World.block_lt_of_cell? _ _ h4;simp only at l1 l2 l3 l4;by_cases c1:m<k
 ·have e1:(m:Int)<(k:Int):=by omega
  have e2:dF k so sd sa m=so:=by unfold dF;rw [if_pos c1]
  rw [e2];clear e2
  go_enter Tryz.func68,Tryz.ntmps68
  go_wp2;go_ret;exact⟨rfl,rfl⟩
 ·have e1: ¬(m:Int)<(k:Int):=by omega
  by_cases c2:m=k
  ·have e2:dF k so sd sa m=sd:=by unfold dF;rw [if_neg c1,if_pos c2]
   have e3:((m:Int)==(k:Int))=true:=beq_iff_eq.2 (by omega);rw [e2];clear e2 c2
   go_enter Tryz.func68,Tryz.ntmps68
   go_wp2;go_ret;exact⟨rfl,rfl⟩
  ·have e2:dF k so sd sa m=sa:=by unfold dF;rw [if_neg c1,if_neg c2]
   have e3:((m:Int)==(k:Int))=false:=beq_eq_false_iff_ne.2 (by omega);rw [e2];clear e2 c2
   go_enter Tryz.func68,Tryz.ntmps68
   go_wp2;go_ret;exact⟨rfl,rfl⟩
set_option maxRecDepth 100000 in
theorem qx8 {n0:Nat}{Ss:List Nat}{U:Nat->Prop}{nU:Nat}{W0:World}{J:Nat}{r:RuleD}{pos:List Int}{vha vb vv va vt vh:Value}(hr:qcr r)(hj:JoinAt U nU W0 J r (qak r) pos vha vb vv va vt vh)(hUn: ∀b,U b->b<nU)
  {k:Nat} {first:Int} (hk:pos[k]?=some first) (hfi:qaz r first=false) {so sd sa sN:Option Nat} (hso: ∀S,so=some S->S∈Ss) (hsd: ∀S,sd=some S->S∈Ss) (hsa: ∀S,sa=some S->S∈Ss) (hsN: ∀S,sN=some S->S∈Ss) {Bj Bk Bo Bd Ba Bn:Nat}
  (hBj:U Bj) (hBjv:W0.heap[Bj]?=some (.cells #[qj J] 31 (0,0))) (hBk:U Bk) (hBkv:W0.heap[Bk]?=some (.cells #[.int .i64 (k:Int)] 3 (0,0))) (hBo:U Bo) (hBov:W0.heap[Bo]?=some (.cells #[qz so] 37 (0,0))) (hBd:U Bd) (hBdv:W0.heap[Bd]?=some (.cells #[qz sd] 37 (0,0))) (hBa:U Ba) (hBav:W0.heap[Ba]?=some (.cells #[qz sa] 37 (0,0))) (hBn:U Bn) (hBnv:W0.heap[Bn]?=some (.cells #[qz sN] 37 (0,0))):
  qpq prog 67 #[qj Bj,qj Bk,qj Bo,qj Bd,qj Ba,qj Bn] (qbt n0 Ss) (fun γ=>(qef γ (dF k so sd sa) sN r first).length) (fun γ0 i γ n X args=> ∃b,(qef γ0 (dF k so sd sa) sN r first)[i]?=some b/\qkn r (qak r) b γ n X args) (EachV U nU n0 W0) U:=by
 intro l Jp Jx W g0 hl hinv hV hU hJ hJx hround h0;show Calls prog 67 #[.func (.yield l) #[] #[],qj Bj,qj Bk,qj Bo,qj Bd,qj Ba,qj Bn] W _;have a1:=qb ((hV.1 Bj hBj).trans hBjv) 0 _ rfl;have a2:=qb ((hV.1 Bn hBn).trans hBnv) 0 _ rfl;have a5:=qb ((hV.1 Bk hBk).trans hBkv) 0 _ rfl;have l1:=qe ((hV.1 Bj hBj).trans hBjv);have l2:=qe ((hV.1 Bn hBn).trans hBnv);have l5:=qe ((hV.1 Bk hBk).trans hBkv);have hjW:=hj.same hV.1;have a3:=qb hjW.box 4 _ rfl;have l3:=qe hjW.box;obtain⟨ap,cp,rfl,hpl,hpc,hpe⟩:=id hjW.at';obtain⟨bp,op,hap,hbp,hpcl⟩:=hpe k first hk
 have a6:W.cell? ⟨bp,op+k*1,none⟩=some (.int .i64 first):=hpcl.2;simp only [Nat.zero_add]at a1 a2 a3 a5;simp only [Nat.mul_one]at a6;subst hap;have l6:bp<W.heap.size:=World.block_lt_of_cell? _ _ a6;have hkl:k<pos.length:=(List.getElem?_eq_some_iff.1 hk).1;have hks:(k:Int)<pos.length:=by omega
 have hk0:(0:Int)<=k:=by omega
 have gd1:decide ((k:Int)<0)=false:=decide_eq_false (by omega);have gd2:decide ((pos.length:Int)<=(k:Int))=false:=decide_eq_false (by omega);have gd3:decide (pos.length<=k)=false:=decide_eq_false (by omega);have hnk: ¬pos.length<=k:=by omega
 have c4: ∀X,EachV U nU n0 W0 X->X.cell? ⟨Bk,0,none⟩=some (.int .i64 (k:Int))/\X.cell? ⟨Bo,0,none⟩=some (.pointer (so.map fun S=>⟨S,0,none⟩))/\X.cell? ⟨Bd,0,none⟩=some (.pointer (sd.map fun S=>⟨S,0,none⟩))/\X.cell? ⟨Ba,0,none⟩=some (.pointer (sa.map fun S=>⟨S,0,none⟩)):=fun X hX=>by
  have h1:=qb ((hX.1 Bk hBk).trans hBkv) 0 _ rfl;have h2:=qb ((hX.1 Bo hBo).trans hBov) 0 _ rfl;have h3:=qb ((hX.1 Bd hBd).trans hBdv) 0 _ rfl;have h4:=qb ((hX.1 Ba hBa).trans hBav) 0 _ rfl;unfold qz at h2 h3 h4;exact⟨by simpa using h1,by simpa using h2,by simpa using h3,by simpa using h4⟩
 have kD: ∀m,Keep (fun _=>True) W (W.drewN m):=fun m=>Keep.drewN' _ _ _;have hwalk:=fun m:Nat=>(qs3 (W:=W.drewN m) (g0:=g0) (sF:=dF k so sd sa) (fI:=68) (lI:= #[qj Bk,qj Bo,qj Bd,qj Ba]) (first:=first) hr hj hUn (fun m S h=>by unfold dF at h;split at h;exact hso S h;split at h;exact hsd S h;exact hsa S h) hsN (qc6 Tryz.func68 (by kernel_rfl) rfl)
  (fun X hX m=>by obtain⟨h1,h2,h3,h4⟩:=c4 X hX;unfold qz;rw [q0l (fun s:Option Nat=>s.map fun S=>(⟨S,0,none⟩:Addr))];exact qvu h1 h2 h3 h4 m) hfi (hinv.1.keep ((kD m).mono fun _ _ _=>trivial)) hinv.2 (hV.keep hUn (kD m) (fun _ _=>trivial)) hU hJ hJx (fun k γ X0 X args h1 h2 h3 h4 h5 h6 h7=>hround k γ X0 X args h1 h2 h3 h4 h5 (Nat.le_trans (kD m).size h6) h7) (hJ 0 g0 W g0 _ h0 ⟨GStep.own hinv.1 (kD m),rfl⟩)).mono (fun e W' h=>(⟨h.1,Nat.le_trans (kD m).size h.2.1,h.2.2⟩:(∃v,e=.returned v)/\W.heap.size<=W'.heap.size/\_))
 unfold qz at a2 hwalk;have hbU:U bp:=hpcl.1;have hJU:U J:=hjW.uJ;have hSV: ∀X,EachV U nU n0 W0 X->X.cell? ⟨Bj,0,none⟩=some (qj J)/\X.cell? ⟨Bn,0,none⟩=some (.pointer (sN.map fun S=>⟨S,0,none⟩))/\X.cell? ⟨J,4,none⟩=some (.slice (some ⟨bp,op,none⟩) pos.length cp)/\X.cell? ⟨Bk,0,none⟩=some (.int .i64 (k:Int))/\X.cell? ⟨bp,op+k,none⟩=some (.int .i64 first):=fun X hX=>by
  have hb: ∀b,U b->X.heap[b]?=W.heap[b]?:=fun b hb=>(hX.1 b hb).trans (hV.1 b hb).symm;exact⟨qiq (hb Bj hBj) a1,qiq (hb Bn hBn) a2,qiq (hb J hJU) a3,qiq (hb Bk hBk) a5,qiq (hb bp hbU) a6⟩
 have hS0:=fun j:Nat=>hSV ((W.drewN j).drew) (hV.keep hUn ((Keep.drewN' (fun _=>True) _ _).trans kDr) (fun _ _=>trivial));clear c4 hjW hpe hpcl kD;refine qc5 ?_ hr hj hUn hfi hso hsd hsa hsN hBj hBjv hBk hBkv hBo hBov hBd hBdv;clear hr hj hUn hfi hso hsd hsa hsN hBj hBjv hBk hBkv hBo hBov hBd hBdv;intro Xhr Xhj XhUn Xhfi Xhso Xhsd Xhsa XhsN XhBj XhBjv XhBk XhBkv XhBo XhBov XhBd XhBdv;refine qc5 ?_ hBa hBav hBn hBnv hinv hV hU hJ hJx hround h0 hwalk hS0 hSV hbU hJU;clear hBa hBav hBn hBnv hinv hV hU hJ hJx hround h0 hwalk hS0 hSV hbU hJU;intro XhBa XhBav XhBn XhBnv Xhinv XhV XhU XhJ XhJx Xhround Xh0 Xhwalk XhS0 XhSV XhbU XhJU;refine qbp Tryz.func67 rfl ?_;simp only [Tryz.ntmps67,qdz,Nat.reduceAdd,Nat.reduceSub];gi_wp2
 gi_quiet (fail)
 gi_wp2;refine qab ?_;refine qx rfl (fun X=>X.cell? ⟨Bj,0,none⟩=some (qj J)/\X.cell? ⟨Bn,0,none⟩=some (.pointer (sN.map fun S=>⟨S,0,none⟩))/\X.cell? ⟨J,4,none⟩=some (.slice (some ⟨bp,op,none⟩) pos.length cp)/\X.cell? ⟨Bk,0,none⟩=some (.int .i64 (k:Int))/\X.cell? ⟨bp,op+k,none⟩=some (.int .i64 first)) [] ?_;have XhS1:=fun {j:Nat}=>XhS0.o j;refine qam [0,1,2,3,4,5,6,7,8,9,10] ?_
 iterate 11
  refine tkR (v:=?_) rfl XhS1 ?_ ?_;rotate_left
  ·rintro Wq ⟨x1,x2,x3,x4,x5⟩;go_simp
   try with_reducible rfl
  try simp only [qan]
 refine qu ?_;refine hoR 11 rfl fun K XhK0=>?_;gi_wp2;refine⟨trivial,rfl,(callsIn_wide.2 (Xhwalk.o _)).mono ?_⟩;rintro e W9 ⟨⟨v,rfl⟩,hz9,hend⟩;refine hd1 ?_ hend;clear hend;intro Xhend;gi_wp2;refine XhK0.o _ _ (fun _=>by obtain⟨γ',-,hv9,-⟩:=Xhend.o;exact XhSV.o W9 hv9) ?_;refine qk (by kernel_rfl) (qm ?_);clear XhK0;gi_wp2;refine bodyPost_end (results_none rfl _ _ _) rfl ⟨⟨_,rfl⟩,hz9,Xhend.o⟩
theorem qsk (J:Nat)(k:Int)(so sd sa sN:Option Nat)(w:World):Calls prog 28 #[qj J,.int .i64 k,qz so,qz sd,qz sa,qz sN] w fun e w'=>e=.returned (.func (.func 67) #[] #[qj w.heap.size,qj (w.heap.size+1),qj (w.heap.size+2),qj (w.heap.size+3),qj (w.heap.size+4),qj (w.heap.size+5)])/\
  w'.heap[w.heap.size]?=some (.cells #[qj J] 31 (0,0))/\w'.heap[w.heap.size+1]?=some (.cells #[.int .i64 k] 3 (0,0))/\w'.heap[w.heap.size+2]?=some (.cells #[qz so] 37 (0,0))/\w'.heap[w.heap.size+3]?=some (.cells #[qz sd] 37 (0,0))/\w'.heap[w.heap.size+4]?=some (.cells #[qz sa] 37 (0,0))/\w'.heap[w.heap.size+5]?=some (.cells #[qz sN] 37 (0,0))/\w'.heap.size=w.heap.size+6/\Keep (fun _=>True) w w':=by
 unfold qz;obtain⟨s1,h1⟩:=ex ((so.map fun S=>(⟨S,0,none⟩:Addr)));obtain⟨s2,h2⟩:=ex ((sd.map fun S=>(⟨S,0,none⟩:Addr)));obtain⟨s3,h3⟩:=ex ((sa.map fun S=>(⟨S,0,none⟩:Addr)));obtain⟨s4,h4⟩:=ex ((sN.map fun S=>(⟨S,0,none⟩:Addr)));rw [h1,h2,h3,h4];clear h1 h2 h3 h4;obtain⟨W1,hW1⟩:=ex ((((w.alloc (.cells #[qj J] 31)).alloc (.cells #[.int .i64 k] 3)).alloc (.cells #[.pointer s1] 37)));obtain⟨W2,hW2⟩:=ex (((W1.alloc (.cells #[.pointer s2] 37)).alloc (.cells #[.pointer s3] 37)).alloc (.cells #[.pointer s4] 37));have ka: ∀(X:World) (a b c:Obj),Keep (fun _=>True) X (((X.alloc a).alloc b).alloc c)/\(((X.alloc a).alloc b).alloc c).heap.size=X.heap.size+3:=fun X a b c=>⟨(kAl.trans kAl).trans kAl,by simp⟩;have kb: ∀(X:World) (x1 x2 x3:Array Value) (t1 t2 t3:Nat),(((X.alloc (.cells x1 t1)).alloc (.cells x2 t2)).alloc (.cells x3 t3)).heap[X.heap.size]?=some (.cells x1 t1 (0,0))/\(((X.alloc (.cells x1 t1)).alloc (.cells x2 t2)).alloc (.cells x3 t3)).heap[X.heap.size+1]?=some (.cells x2 t2 (0,0))/\(((X.alloc (.cells x1 t1)).alloc (.cells x2 t2)).alloc (.cells x3 t3)).heap[X.heap.size+2]?=some (.cells x3 t3 (0,0)):=fun X x1 x2 x3 t1 t2 t3=>by
  have p1:=qh X (.cells x1 t1);have p2:=qh (X.alloc (.cells x1 t1)) (.cells x2 t2);have p3:=qh ((X.alloc (.cells x1 t1)).alloc (.cells x2 t2)) (.cells x3 t3);simp only [World.size_alloc]at p2 p3;exact⟨((Keep.alloc (fun _=>True) _ _).trans kAl).heap p1 trivial,(Keep.alloc (fun _=>True) _ _).heap p2 trivial,p3⟩
 have q1:=kb w #[qj J] #[.int .i64 k] #[.pointer s1] 31 3 37;have z1:=ka w (.cells #[qj J] 31) (.cells #[.int .i64 k] 3) (.cells #[.pointer s1] 37);have q2:=kb W1 #[.pointer s2] #[.pointer s3] #[.pointer s4] 37 37 37;have z2:=ka W1 (.cells #[.pointer s2] 37) (.cells #[.pointer s3] 37) (.cells #[.pointer s4] 37);rw [hW1]at q1 z1;rw [hW2]at q2 z2;obtain⟨kw1,zw1⟩:=z1;obtain⟨kw2,zw2⟩:=z2;obtain⟨b1,b2,b3⟩:=q1;obtain⟨b4,b5,b6⟩:=q2;rw [zw1]at b4 b5 b6 zw2;have hE:W2.heap[w.heap.size]?=some (.cells #[qj J] 31 (0,0))/\W2.heap[w.heap.size+1]?=some (.cells #[.int .i64 k] 3 (0,0))/\W2.heap[w.heap.size+2]?=some (.cells #[.pointer s1] 37 (0,0))/\W2.heap[w.heap.size+3]?=some (.cells #[.pointer s2] 37 (0,0))/\W2.heap[w.heap.size+4]?=some (.cells #[.pointer s3] 37 (0,0))/\W2.heap[w.heap.size+5]?=some (.cells #[.pointer s4] 37 (0,0))/\W2.heap.size=w.heap.size+6/\Keep (fun _=>True) w W2:=⟨kw2.heap b1 trivial,kw2.heap b2 trivial,kw2.heap b3 trivial,b4,b5,b6,by omega,kw1.trans kw2⟩;clear b1 b2 b3 b4 b5 b6 kw1 kw2 ka kb zw1 zw2;refine hd3 ?_ hE hW1 hW2;clear hE hW1 hW2;intro XhE XhW1 XhW2
 go_enter Tryz.func28,Tryz.ntmps28
 go_wp2;go_ret;rw [XhW1.o,XhW2.o];exact⟨rfl,XhE.o⟩
end Go.Proofs
namespace Go.Proofs
open Go.RowKit Go.Ink Go.Flt R4 P16
theorem qx9 {body:List LitD}: ∀{i:Nat},i<=body.length->qby body i=((List.range i).filter fun j=>qbm body j==1).length:=by
 intro i
 induction i with
 |zero=>intro _;rfl
 |succ i ih=>
  intro h;obtain⟨L,hL⟩: ∃L,body[i]?=some L:=⟨_,getElem?_eq_getElem (by omega)⟩;have hk:qbm body i=L.kind:=by unfold qbm;rw [getD_eq_getElem?_getD,hL];rfl
  rw [qsh hL,ih (by omega),range_succ,filter_append,length_append]
  congr 1
  by_cases h1:L.kind=1
  ·rw [if_pos h1,filter_cons_of_pos (by rw [hk,h1];rfl)];rfl
  ·rw [if_neg h1,filter_cons_of_neg (by rw [hk];simpa using h1)];rfl
theorem qpo {body:List LitD}{i:Nat}(h:i∈qag body):(qag body)[qby body i]?=some i:=by
 obtain⟨hl,hk⟩:=qc8 h;rw [qx9 (Nat.le_of_lt hl)];obtain⟨m,hm⟩: ∃m,body.length=i+(1+m):=⟨body.length-i-1,by omega⟩;unfold qag;rw [hm,range_add,filter_append,getElem?_append_right (Nat.le_refl _),Nat.sub_self,Nat.add_comm 1 m,range_succ_eq_map,map_cons,filter_cons_of_pos (by simpa using hk)]
 rfl
theorem q3t {body:List LitD}{k i:Nat}(h:(qag body)[k]?=some i):qby body i=k:=by
 have h1:=qpo (mem_of_getElem? h);have hn:(qag body).Nodup:=List.Pairwise.filter _ nodup_range;obtain⟨l1,e1⟩:=List.getElem?_eq_some_iff.1 h;obtain⟨l2,e2⟩:=List.getElem?_eq_some_iff.1 h1;rcases Nat.lt_trichotomy k (qby body i) with hlt |heq |hgt
 ·exact absurd (by rw [e1,e2]) ((pairwise_iff_getElem.1 hn) _ _ l1 l2 hlt)
 ·exact heq.symm
 ·exact absurd (by rw [e1,e2]) ((pairwise_iff_getElem.1 hn) _ _ l2 l1 hgt)
theorem q3u {body:List LitD}{i j:Nat}(hi:i∈qag body)(hj:j∈qag body)(h:qby body i=qby body j):i=j:=by
 have h1:=qpo hi;rw [h,qpo hj]at h1;exact(Option.some.inj h1).symm
theorem q5v {body:List LitD}{i:Nat}(hi:i∈qag body):qby body i<(qag body).length:=(List.getElem?_eq_some_iff.1 (qpo hi)).1
theorem q5w {body:List LitD}{k:Nat}(h:k<(qag body).length): ∃i,i∈qag body/\qby body i=k:=
 ⟨_,getElem_mem h,q3t (getElem?_eq_getElem h)⟩
theorem qrr (body:List LitD):qdr body body.length=(qag body).map fun j:Nat=>(j:Int):=rfl
theorem q0q {r:RuleD}{i:Nat}(h:i∈qag r.body):qaz r (i:Int)=false:=by
 obtain⟨hl,hk⟩:=qc8 h;unfold qbm at hk;unfold qaz;rw [Int.toNat_natCast,decide_eq_false (by omega),decide_eq_false (by omega),decide_eq_false (show ¬(r.body.getD i default).kind≠1 by simpa using hk)];simp
theorem qmz {g:Gh}{W:World}(hg:GInv g W)(sF:Nat->Option Nat)(sN:Option Nat)(body:List LitD): ∀i,((qda g sF sN body).pos i).Nodup:=fun i=>qhu (qip hg _) _ _
theorem qtx {g:Gh}{W:World}(hg:GInv g W)(sF:Nat->Option Nat)(sN:Option Nat){r:RuleD}(hr:qcr r){first:Int}(hfi:qaz r first=false):qd5 ((qef g sF sN r first).map (qbz r))=qcv (qda g sF sN r.body) r:=by
 obtain⟨h1,h2,h3⟩:=qhv (qhg hg sF sN hr first hfi);exact qwu (qmz hg sF sN r.body) h1 h2 h3
theorem q3v {g:Gh}{W:World}(hg:GInv g W)(sF:Nat->Option Nat)(sN:Option Nat){r:RuleD}(hr:qcr r){first:Int}(hfi:qaz r first=false):(qef g sF sN r first).length=(qbd (qda g sF sN r.body) r.body).length:=by
 have h:=congrArg List.length (qtx hg sF sN hr hfi);unfold qcv at h;rw [qgp,qgp,length_map,length_map]at h;exact h
theorem qty (g:Gh)(k:Nat)(so sd sa sN:Option Nat)(body:List LitD):qda g (dF k so sd sa) sN body=qem body (qcg g so) (qcg g sd) (qcg g sa) (qcg g sN) (qby body) k:=by
 unfold qda qem
 congr 1
 funext i
 exact q0l (qcg g) k so sd sa _
theorem q3w {g:Gh}{W:World}(hg:GInv g W){k:Nat}{so sd sa:Option Nat}(sN:Option Nat){r:RuleD}(hr:qcr r){first:Int}(hfi:qaz r first=false){l:List ql}(hc: ∀s f,s=so∨s=sd∨s=sa->f∈qcg g s->f∈l)(hv:qgh r l=false):(qef g (dF k so sd sa) sN r first).length<=20000:=by
 rw [q3v hg _ _ hr hfi];obtain⟨-,h2,h3⟩:=qi5 hv;refine qks (qmz hg _ _ _) (fun i t s ht hs=>?_) h3;have hm:=(qay.1 ht).1;refine((qjq (fs:=l) (l:= [])).2 h2).2 _ s (hc (dF k so sd sa (qby r.body i)) _ ?_ hm) hs;unfold dF;split
 ·exact .inl rfl
 ·split
  ·exact .inr (.inl rfl)
  ·exact .inr (.inr rfl)
theorem qqw {n0:Nat}{Ss:List Nat}{g:Gh}{w:World}(hg:GInv g w)(hs:qeq Ss g)(hn0:n0<=w.heap.size){J:Nat}{r:RuleD}(hr:qcr r)(hj:JoinIs g w J r){k:Nat}(hk:k<(qag r.body).length){so sd sa sN:Option Nat}(hso: ∀S,so=some S->S∈Ss)(hsd: ∀S,sd=some S->S∈Ss)(hsa: ∀S,sa=some S->S∈Ss)(hsN: ∀S,sN=some S->S∈Ss){Bj Bk Bo Bd Ba Bn:Nat}
  (b1:w.heap[Bj]?=some (.cells #[qj J] 31 (0,0))) (b2:w.heap[Bk]?=some (.cells #[.int .i64 (k:Int)] 3 (0,0))) (b3:w.heap[Bo]?=some (.cells #[qz so] 37 (0,0))) (b4:w.heap[Bd]?=some (.cells #[qz sd] 37 (0,0))) (b5:w.heap[Ba]?=some (.cells #[qz sa] 37 (0,0))) (b6:w.heap[Bn]?=some (.cells #[qz sN] 37 (0,0)))
  (f1:g.free Bj) (f2:g.free Bk) (f3:g.free Bo) (f4:g.free Bd) (f5:g.free Ba) (f6:g.free Bn) {l:List ql} (hc: ∀s f,s=so∨s=sd∨s=sa->f∈qcg g s->f∈l) (hv:qgh r l=false):
  Calls prog 19 #[.func (.func 67) #[] #[qj Bj,qj Bk,qj Bo,qj Bd,qj Ba,qj Bn],.int .i64 (-1)] w fun e w'=> ∃g' v qs,e=.returned v/\GStep n0 g w g' w'/\g'.st=g.st/\MqsAt (fun b=>g'.free b/\w.heap.size<=b) w' v qs/\qs.map (·.1)=qcv (qem r.body (qcg g so) (qcg g sd) (qcg g sa) (qcg g sN) (qby r.body) k) r:=by
 obtain⟨vha,vb,vv,va,vt,vh,hj⟩:=hj;obtain⟨i,hi⟩: ∃i,(qag r.body)[k]?=some i:=⟨_,getElem?_eq_getElem hk⟩;have hfi:=q0q (mem_of_getElem? hi);have hkp:(qdr r.body r.body.length)[k]?=some (i:Int):=by rw [qrr,getElem?_map,hi];rfl
 have hfew:=q3w (k:=k) hg sN hr hfi hc hv;refine(qmw (all:=fun γ=>qef γ (dF k so sd sa) sN r i) (V:=EachV (fun b=>b<w.heap.size/\g.free b) w.heap.size n0 w) (U:=fun b=>b<w.heap.size/\g.free b) hg hs hn0 (qc6 Tryz.func67 (by kernel_rfl) rfl)
  (qx8 hr hj (fun b hb=>hb.1) hkp hfi hso hsd hsa hsN ⟨qe b1,f1⟩ b1 ⟨qe b2,f2⟩ b2 ⟨qe b3,f3⟩ b3 ⟨qe b4,f4⟩ b4 ⟨qe b5,f5⟩ b5 ⟨qe b6,f6⟩ b6) (fun b hb=>hb.2) (fun X hX=>⟨fun b hb=>hX.block b hb.1 hb.1,hX.size,Nat.le_trans hn0 hX.size⟩) (fun X Y hV hK=>hV.keep (fun b hb=>hb.1) hK (fun b hb=>hb.1)) (by omega) ⟨by have:=qjg hr.formed;omega,by have:=qlf hr.formed r.body.length (Nat.le_refl _);rw [qi9 hr.formed] at this;have:=qjh hr.formed;omega⟩ (-1)).mono ?_
 rintro e w' ⟨g',v,qs,h1,h2,h3,h4,h5⟩;refine⟨g',v,qs,h1,h2,h3,h4,?_⟩;rw [h5,qw2,←qty,←qtx hg _ sN hr hfi,←length_map (f:=qbz r),take_length]
structure SplitF (O F A:List ql):Prop where
 mem: ∀f,f∈A↔f∈O∨f∈F
 dis: ∀f,f∈O->f∉F
 len:O.length+F.length=A.length
theorem q0r:SplitF [] [] []:=⟨fun f=>by simp,fun f h=>(by cases h),rfl⟩
theorem SplitF.skip {O F A:List ql}(h:SplitF O F A){f:ql}(hf:f∈O∨f∈F):SplitF O F (qcl okF A f):=by
 have:qcl okF A f=A:=by
  unfold qcl;rw [if_neg];rintro⟨-,hn⟩;exact hn ((h.mem f).2 hf)
 rw [this];exact h
theorem SplitF.old {O F A:List ql}(h:SplitF O F A){f:ql}(h1:f∉O)(h2:f∉F):SplitF (qcl okF O f) F (qcl okF A f):=by
 have hA:f∉A:=fun hn=>by rcases(h.mem f).1 hn with h |h;exact h1 h;exact h2 h
 unfold qcl;by_cases ho:okF f=true
 ·rw [if_pos ⟨ho,h1⟩,if_pos ⟨ho,hA⟩];refine⟨fun x=>?_,fun x hx=>?_,by rw [length_append,length_append];have:=h.len;simp only [length_singleton];omega⟩
  ·rw [mem_append,mem_append,h.mem x];constructor
   ·rintro((hx |hx) |hx)
    ·exact .inl (.inl hx)
    ·exact .inr hx
    ·exact .inl (.inr hx)
   ·rintro((hx |hx) |hx)
    ·exact .inl (.inl hx)
    ·exact .inr hx
    ·exact .inl (.inr hx)
  ·rcases mem_append.1 hx with hx |hx
   ·exact h.dis x hx
   ·rw [mem_singleton.1 hx];exact h2
 ·rw [if_neg (fun hh=>ho hh.1),if_neg (fun hh=>ho hh.1)];exact h
theorem SplitF.fresh {O F A:List ql}(h:SplitF O F A){f:ql}(h1:f∉O)(h2:f∉F):SplitF O (qcl okF F f) (qcl okF A f):=by
 have hA:f∉A:=fun hn=>by rcases(h.mem f).1 hn with h |h;exact h1 h;exact h2 h
 unfold qcl;by_cases ho:okF f=true
 ·rw [if_pos ⟨ho,h2⟩,if_pos ⟨ho,hA⟩];refine⟨fun x=>?_,fun x hx hxf=>?_,by rw [length_append,length_append];have:=h.len;simp only [length_singleton];omega⟩
  ·rw [mem_append,mem_append,h.mem x];constructor
   ·rintro((hx |hx) |hx)
    ·exact .inl hx
    ·exact .inr (.inl hx)
    ·exact .inr (.inr hx)
   ·rintro(hx |(hx |hx))
    ·exact .inl (.inl hx)
    ·exact .inl (.inr hx)
    ·exact .inr hx
  ·rcases mem_append.1 hxf with hq |hq
   ·exact h.dis x hx hq
   ·rw [mem_singleton.1 hq]at hx;exact h1 hx
 ·rw [if_neg (fun hh=>ho hh.1),if_neg (fun hh=>ho hh.1)];exact h
structure TdAt (P:Nat->Prop)(w:World)(v:Value)(qs:List MQ):Prop where
 own:w.ownsRow 0 48 2 v qs.length (qs.flatMap qal)
 blk: ∀b,v.ownBlock=some b->P b
 rows: ∀q,q∈qs->w.ownsRow 0 9 1 q.2.1 q.1.head.length (q.1.head.map .string)/\w.ownsRow 0 9 1 q.2.2 q.1.vals.length (q.1.vals.map .string)
 blks: ∀q,q∈qs->(∀b,q.2.1.ownBlock=some b->P b)/\ ∀b,q.2.2.ownBlock=some b->P b
theorem MqsAt.td {P:Nat->Prop}{w:World}{v:Value}{qs:List MQ}(h:MqsAt P w v qs):TdAt P w v qs:=⟨h.own,h.blk,h.rows,h.blks⟩
theorem TdAt.keep {P P' C:Nat->Prop}{w w':World}{v:Value}{qs:List MQ}(h:TdAt P w v qs)(hK:Keep C w w')(hC: ∀b,b<w.heap.size->P b->C b/\P' b):TdAt P' w' v qs:=
 ⟨qg h.own hK (fun b hb=>(hC b (World.ownsRow.lt h.own b hb).2 (h.blk b hb)).1),fun b hb=>(hC b (World.ownsRow.lt h.own b hb).2 (h.blk b hb)).2,
  fun q hq=>⟨qg (h.rows q hq).1 hK (fun b hb=>(hC b (World.ownsRow.lt (h.rows q hq).1 b hb).2 ((h.blks q hq).1 b hb)).1),qg (h.rows q hq).2 hK (fun b hb=>(hC b (World.ownsRow.lt (h.rows q hq).2 b hb).2 ((h.blks q hq).2 b hb)).1)⟩,
  fun q hq=>⟨fun b hb=>(hC b (World.ownsRow.lt (h.rows q hq).1 b hb).2 ((h.blks q hq).1 b hb)).2,fun b hb=>(hC b (World.ownsRow.lt (h.rows q hq).2 b hb).2 ((h.blks q hq).2 b hb)).2⟩⟩
theorem TdAt.mq {P:Nat->Prop}{w:World}{v:Value}{qs:List MQ}(h:TdAt P w v qs)(hl:qs.length<=1073741824)(hr: ∀q,q∈qs->q.1.head.length<=1073741824/\q.1.vals.length<=1073741824):quv w.heap.size w v qs/\ ∀q,q∈qs->MqOk w.heap.size w q:=
 ⟨qp9 h.own rfl hl,fun q hq=>⟨qcn (h.rows q hq).1 (hr q hq).1,qcn (h.rows q hq).2 (hr q hq).2⟩⟩
theorem q5x (qs:List MQ):(qs.flatMap qal).length=qs.length*2:=by
 induction qs with
 |nil=>rfl
 |cons q qs ih=>rw [flatMap_cons,length_append,ih,length_cons];simp [qal];omega
theorem TdAt.app {P:Nat->Prop}{w:World}{v u:Value}{qs ps:List MQ}(h:TdAt P w v qs)(h2:TdAt P w u ps)(hl:qs.length+ps.length<=8589934592)(hPn: ∀b,w.heap.size<=b->P b):
  ∃v' w',(Builtin.append_ #[41,41] 41 #[v,u]).run prog w=.ok v' w'/\TdAt P w' v' (qs++ps)/\Keep (fun b=>v.ownBlock≠some b) w w':=by
 obtain⟨a,c,rfl⟩:=qi h2.own;have hcell: ∀b,a=some b-> ∀j x,(ps.flatMap qal)[j]?=some x->w.cell? (b.add j)=some x:=fun b hb j x hj=>by
  cases ps with
  |nil=>cases hj
  |cons q ps=>
   obtain⟨g,cap,hv,-,-,-,-,hc,-⟩:=qro h2.own (by simp);injection hv with e1 e2 e3
   rw [hb]at e1;cases e1;rw [show((⟨g,0,none⟩:Addr).add j)=⟨g,j,none⟩ from by unfold Addr.add;split<;>simp_all];exact hc j x hj
 have hone: ∀x∈ps.flatMap qal,x.oneCell'=true:=fun x hx=>by
  obtain⟨q,hq,hx⟩:=mem_flatMap.1 hx;obtain⟨a1,c1,e1⟩:=qi (h2.rows q hq).1;obtain⟨a2,c2,e2⟩:=qi (h2.rows q hq).2;have:x=q.2.1∨x=q.2.2:=by simpa [qal] using hx
  rcases this with rfl |rfl
  ·rw [e1];rfl
  ·rw [e2];rfl
 obtain⟨v',w',hr,ho,hg,hK⟩:=qji (P:=prog) qoz 41 h.own a ps.length c (ps.flatMap qal) (q5x ps) hcell (fun ha=>by
  cases ps with
  |nil=>rfl
  |cons q ps=>
   obtain⟨g,cap,hv,-⟩:=qro h2.own (by simp);injection hv with e1 e2 e3
   rw [ha]at e1;cases e1) hone hl (Nat.zero_le _)
 have hK':Keep (fun b=>v.ownBlock≠some b) w w':=⟨hK.os,hK.tape,hK.output,hK.size,fun b hb hv=>hK.block b hb fun e=>by
  rcases hg b e with h |h
  ·exact hv h
  ·omega⟩
 refine⟨v',w',hr,⟨?_,fun b hb=>?_,fun q hq=>?_,fun q hq=>?_⟩,hK'⟩
 ·rw [length_append,flatMap_append];exact ho
 ·rcases hg b hb with h3 |h3
  ·exact h.blk _ h3
  ·exact hPn _ h3
 ·have key: ∀{x:Value} {t:List ByteArray} {base:Nat},w.ownsRow base 9 1 x t.length (t.map .string)->w'.ownsRow 0 9 1 x t.length (t.map .string):=fun hx=>(qg hx hK' (fun b hb e=>qdg hx h.own (by decide) hb e)).mono (Nat.zero_le _);rcases mem_append.1 hq with hq |hq
  ·exact⟨key (h.rows q hq).1,key (h.rows q hq).2⟩
  ·exact⟨key (h2.rows q hq).1,key (h2.rows q hq).2⟩
 ·rcases mem_append.1 hq with hq |hq
  ·exact h.blks q hq
  ·exact h2.blks q hq
end Go.Proofs
