/- Parts of the proof. -/
import Derived.Test.YtnponcjnahicnaaGreatProg
import Derived.Test.YtnponcjnahicnaaGreatPnVToPnW
import Derived.Deep.CutRange
import Derived.Deep.DeepCutAuto
import Derived.Deep.RegionHeld3
import Derived.Test.YtnponcjnahicnaaGreatHdToKp
set_option linter.unusedSimpArgs false
set_option linter.unusedVariables false
open Go.Proofs.Tryz(prog)
open List(all_eq_true flatMap_append getD_eq_getElem?_getD getElem?_eq_getElem getElem?_map length_append length_map map_append map_set mem_append mem_map mem_of_getElem? mem_singleton setIfInBounds_toArray set_cons_succ set_cons_zero)
namespace Go.Proofs.P16
open Go.RowKit Go.Ink Go.Flt
attribute [local go_sem] Oper.semAt_some
def qlw (q:qdd×Value×Value):List Value:= [.int .i64 q.1.lit,q.2.1,q.2.2]
def StepsOwn (base:Nat)(w:World)(v:Value)(ss:List qdd):Prop:=
 ∃qs:List (qdd×Value×Value),qs.map (·.1)=ss/\w.ownsRow base 211 3 v ss.length (qs.flatMap qlw)/\
  ∀q,q∈qs->w.ownsRow base 3 1 q.2.1 q.1.bound.length (q.1.bound.map (.int .i64))/\w.ownsRow base 9 1 q.2.2 q.1.new.length (q.1.new.map .string)
def q47 (n:Nat)(w:World)(b o:Nat)(s:qdd):Prop:= ∃bv nv,CellsE w b o [.int .i64 s.lit,bv,nv]/\qap n w bv s.bound/\qae n w nv s.new
abbrev StepsIn (n:Nat)(w:World)(v:Value)(ss:List qdd):Prop:=SliceIn n w 3 (q47 n) v ss
theorem StepsIn.keep {n:Nat}{w w':World}{v:Value}{ss:List qdd}(h:StepsIn n w v ss)(hK:Keep (fun k=>k<n) w w'):StepsIn n w' v ss:=
 h.mono fun b o s hb ⟨bv,nv,h1,h2,h3⟩=>⟨bv,nv,fun j v hj=>hK.cell (h1 j v hj) hb,qit h2 hK,qbr h3 hK⟩
theorem StepsIn.wider {n n':Nat}{w:World}{v:Value}{ss:List qdd}(h:StepsIn n w v ss)(hn:n<=n'):StepsIn n' w v ss:=
 SliceIn.wider h hn fun _ _ _ _ ⟨bv,nv,h1,h2,h3⟩=>⟨bv,nv,h1,SliceIn.wider h2 hn fun _ _ _ _ h=>h,qez h3 hn⟩
def q69 (ss:List qdd):Prop:=ss.length<=1073741824/\ ∀s,s∈ss->s.bound.length<=1073741824/\s.new.length<=1073741824
theorem StepsOwn.steps {base:Nat}{w:World}{v:Value}{ss:List qdd}(h:StepsOwn base w v ss)(hs:q69 ss):StepsIn w.heap.size w v ss:=by
 obtain⟨qs,hq,ho,hall⟩:=h;refine qdx ho ss rfl hs.1 (q47 w.heap.size) fun b k d hd hc=>?_;have hd2:(qs.map (·.1))[k]?=some d:=by rw [hq];exact hd
 rw [getElem?_map]at hd2;obtain⟨q,hqk,rfl⟩:=Option.map_eq_some_iff.1 hd2;have hm:=mem_of_getElem? hqk;have hss:q.1∈ss:=by rw [←hq];exact mem_map.2 ⟨q,hm,rfl⟩
 refine⟨q.2.1,q.2.2,fun j u hu=>?_,qd8 (hall q hm).1 (hs.2 _ hss).1,qcn (hall q hm).2 (hs.2 _ hss).2⟩;have hj:j<3:=(List.getElem?_eq_some_iff.1 hu).1;rw [hc j hj,qbc qlw 3 (fun _=>rfl) qs k j q hqk hj];exact hu
theorem StepsOwn.keep {base:Nat}{w w':World}{v:Value}{ss:List qdd}{C:Nat->Prop}(h:StepsOwn base w v ss)(hK:Keep C w w')(hC: ∀b cs t,base<=b->w.heap[b]?=some (.cells cs t (0,0))->t=211∨t=3∨t=9->C b):StepsOwn base w' v ss:=by
 obtain⟨qs,hq,ho,hall⟩:=h;refine⟨qs,hq,qg ho hK (fun b hb=>?_),fun q hm=>⟨qg (hall q hm).1 hK (fun b hb=>?_),qg (hall q hm).2 hK (fun b hb=>?_)⟩⟩
 ·obtain⟨cs,ht⟩:=qav ho hb;exact hC b cs _ (World.ownsRow.lt ho b hb).1 ht (.inl rfl)
 ·obtain⟨cs,ht⟩:=qav (hall q hm).1 hb;exact hC b cs _ (World.ownsRow.lt (hall q hm).1 b hb).1 ht (.inr (.inl rfl))
 ·obtain⟨cs,ht⟩:=qav (hall q hm).2 hb;exact hC b cs _ (World.ownsRow.lt (hall q hm).2 b hb).1 ht (.inr (.inr rfl))
theorem StepsOwn.mono {base base':Nat}{w:World}{v:Value}{ss:List qdd}(h:StepsOwn base w v ss)(hb:base'<=base):StepsOwn base' w v ss:=by
 obtain⟨qs,hq,ho,hall⟩:=h;exact⟨qs,hq,ho.mono hb,fun q hm=>⟨(hall q hm).1.mono hb,(hall q hm).2.mono hb⟩⟩
theorem StepsOwn.nil (base:Nat)(w:World):StepsOwn base w (.slice none 0 0) []:=⟨[],rfl,World.ownsRow_nil _ _ _ _,by simp⟩
theorem StepsOwn.form {base:Nat}{w:World}{v:Value}{ss:List qdd}(h:StepsOwn base w v ss): ∃a c,v=.slice a ss.length c:=by
 obtain⟨qs,hq,ho,hall⟩:=h;exact qi ho
theorem StepsOwn.snoc {base:Nat}{w:World}{v:Value}{ss:List qdd}(h:StepsOwn base w v ss)(s:qdd)(vb vn:Value)(hb:w.ownsRow base 3 1 vb s.bound.length (s.bound.map (.int .i64)))(hn:w.ownsRow base 9 1 vn s.new.length (s.new.map .string))(hl:ss.length<=1073741824)(hbase:base<=w.heap.size):
  ∃v' w',(Builtin.append_ #[205,205] 205 #[v,.slice (some ⟨w.heap.size,0,none⟩) 1 1]).run prog (w.alloc (.cells #[.int .i64 s.lit,vb,vn] 211))=.ok v' w'/\StepsOwn base w' v' (ss++ [s])/\Keep (fun b=>some b≠v.ownBlock) w w':=by
 obtain⟨qs,hq,ho,hall⟩:=h;obtain⟨ab,cb,hvb⟩:=qi hb;obtain⟨an,cn,hvn⟩:=qi hn;obtain⟨v',w',hr,ho2,hk,g,cap,hv,hg,hl2⟩:=qc4 (P:=prog) q30 205 ho [.int .i64 s.lit,vb,vn] rfl (by rw [hvb,hvn];simp [Value.oneCell']) (by omega) hbase;refine⟨v',w',hr,⟨qs++ [(s,vb,vn)],by rw [map_append,hq];rfl,by rw [length_append,flatMap_append];simpa [qlw] using ho2,fun q hm=>?_⟩,hk⟩;have hoth: ∀{e sz:Nat} {u:Value} {m:Nat} {xs:List Value},w.ownsRow base e sz u m xs->e≠211->w'.ownsRow base e sz u m xs:=fun ho3 he=>qg ho3 hk (fun b hb e2=>by
  obtain⟨c1,t1⟩:=qav ho3 hb;obtain⟨c2,t2⟩:=qav ho e2.symm;rw [t1]at t2;cases t2;exact he rfl)
 rcases mem_append.1 hm with hm |hm
 ·exact⟨hoth (hall q hm).1 (by decide),hoth (hall q hm).2 (by decide)⟩
 ·simp only [mem_singleton]at hm;subst hm;exact⟨hoth hb (by decide),hoth hn (by decide)⟩
def qw8 (base:Nat)(w:World)(vh vb vs:Value)(p:qsw):Prop:=RuleOwn base 64 60 w vh vb p.rule/\StepsOwn base w vs p.steps
def q48 (p:qsw)(vh vb vs:Value):Value:=.agg #[.string p.rule.head.pred,vh,vb,vs]
theorem qpv (base:Nat)(w:World):qw8 base w (.slice none 0 0) (.slice none 0 0) (.slice none 0 0) qm9:=
 ⟨⟨World.ownsRow_nil _ _ _ _,[],rfl,World.ownsRow_nil _ _ _ _,by simp⟩,StepsOwn.nil _ _⟩
theorem qw9 (n:Nat):madeCells #[.bool false] n=((List.replicate n false).map Value.bool).toArray:=by
 apply Array.ext
 ·simp [madeCells]
 ·intro i h1 h2;simp [madeCells,Nat.mod_one]
theorem q1e:(prog.info? 4).map (fun i=>(i.zero,i.size,i.bytes))=some (some (.bool false),1,1):=by kernel_rfl
theorem qmc (n:Nat)(h:n<=1073741824)(u:World):(Instr.makeSlice 68 (.int .i64 (n:Int)) (.int .i64 (n:Int))).run prog u=
  .ok (.slice (some ⟨u.heap.size,0,none⟩) n n) (u.alloc (.cells (madeCells #[.bool false] n) 4)):=by
 obtain⟨i0,hi,hz0,hz1,hz2⟩:=info_parts q1e;have h:=run_make (P:=prog) u 68 4 i0 (.bool false) Tryz.underlying68 hi hz0 .i64 .i64 (n:Int) (n:Int) (by omega) (Int.le_refl _) (by rw [hz2];omega) (by omega)
 simpa [hz1,Value.cells]using h
def qq0 (w:World)(a:Addr):Nat:=match w.cell? a with
 |some (.slice _ n _)=>n
 |_=>0
theorem qpw {w:World}{a:Addr}{b:Option Addr}{n c:Nat}(h:w.cell? a=some (.slice b n c)):qq0 w a=n:=by unfold qq0;rw [h]
theorem qpx (K:List ByteArray)(ts:List TermD): ∀c,c∈qbk K ts->0<=c:=by
 intro c hc;unfold qbk at hc;obtain⟨p,_,rfl⟩:=mem_map.1 hc;omega
theorem qv5 {r:RuleD}(h:qax r=true){L:LitD}(hL:L∈r.body):L.kind=1∨L.kind=2∨L.kind=3:=by
 unfold qax at h;rw [Bool.and_eq_true,Bool.and_eq_true,all_eq_true]at h;have:=h.2 L hL;unfold qdp at this;by_cases h12:L.kind=1∨L.kind=2
 ·omega
 ·rw [if_neg h12]at this;by_cases h3:L.kind=3
  ·omega
  ·rw [if_neg h3]at this;cases this
theorem q31 (K:List ByteArray)(L:LitD)(i:Int):(qbe K L i).bound.length<=L.atom.args.length/\(qbe K L i).new.length<=L.atom.args.length/\ ∀c,c∈(qbe K L i).bound->0<=c:=by
 unfold qbe;split
 ·simp
 ·exact⟨qls _ _,qlt _ _,qpx _ _⟩
theorem q32 (K:List ByteArray)(L:LitD)(i:Int):(qbe K L i).lit=i:=by unfold qbe;split<;>rfl
theorem SizesIn.wider {n n':Nat}{w:World}{v:Value}{ss:List qai}(h:SizesIn n w v ss)(hn:n<=n'):SizesIn n' w v ss:=
 SliceIn.wider h hn fun _ _ _ _ ⟨sv,h1,h2⟩=>⟨sv,h1,SliceIn.wider h2 hn fun _ _ _ _ h=>h⟩
theorem q7a {a b:Nat}(ha:a<=9094988921128908188)(hb:b<=9094988921128908188):(FloatKind.f64.format.order a b==some .lt)=decide (a<b):=by
 have:FloatKind.f64.format.order a b=some (compare a b):=qs6 (by omega) (by omega);rw [this];have e:compare a b=if a<b then .lt else if a=b then .eq else .gt:=rfl
 rw [e];rcases Nat.lt_trichotomy a b with h |h |h
 ·rw [if_pos h,decide_eq_true h];rfl
 ·rw [if_neg (show ¬a<b by omega),if_pos h,decide_eq_false (by omega)];rfl
 ·rw [if_neg (show ¬a<b by omega),if_neg (show ¬a=b by omega),decide_eq_false (by omega)];rfl
theorem qyq {K:List ByteArray}{rows:Nat}{sizes:List qai}{ls:List LitD}{tk:List Bool}{i:Nat}(h1:(qbi K rows sizes ls tk i).2.2=false)(h2:tk.getD i true=true):qbi K rows sizes ls tk (i+1)=qbi K rows sizes ls tk i:=by
 rw [show qbi K rows sizes ls tk (i+1)=_ from rfl];simp only [qbi,h1,h2,if_true,Bool.false_eq_true,if_false]
theorem q1f {K:List ByteArray}{rows:Nat}{sizes:List qai}{ls:List LitD}{tk:List Bool}{i:Nat}{x:LitD}(h1:(qbi K rows sizes ls tk i).2.2=false)(h2:tk.getD i true=false)(hx:ls.getD i default=x)(hk:x.kind≠1):
  qbi K rows sizes ls tk (i+1)=if qcm K x then ((i:Int),(qbi K rows sizes ls tk i).2.1,true) else qbi K rows sizes ls tk i:=by
 rw [show qbi K rows sizes ls tk (i+1)=_ from rfl];simp only [qbi,h1,h2,hx,hk,ne_eq,not_false_eq_true,if_true,Bool.false_eq_true,if_false]
theorem q33 {K:List ByteArray}{rows:Nat}{sizes:List qai}{ls:List LitD}{tk:List Bool}{i:Nat}{x:LitD}(h1:(qbi K rows sizes ls tk i).2.2=false)(h2:tk.getD i true=false)(hx:ls.getD i default=x)(hk:x.kind=1):
  qbi K rows sizes ls tk (i+1)=if (qbi K rows sizes ls tk i).1<0∨qcy rows x (qbe K x i).bound sizes<(qbi K rows sizes ls tk i).2.1 then ((i:Int),qcy rows x (qbe K x i).bound sizes,false) else qbi K rows sizes ls tk i:=by
 rw [show qbi K rows sizes ls tk (i+1)=_ from rfl];simp only [qbi,h1,h2,hx,hk,ne_eq,not_true_eq_false,Bool.false_eq_true,if_false]
set_option maxRecDepth 100000 in
set_option maxHeartbeats 4000000 in
theorem q34 (n:Nat)(r:RuleD)(sh sb:Value)(l:List qai)(sv:Value)(first:Int)(w:World)(hr:RuleIn n w sh sb r)(hl:SizesIn n w sv l)(hn:n<=w.heap.size):
  Calls prog 120 #[qbf r sh sb,sv,.int .i64 first] w fun e w'=> ∃vh vb vs,e=.returned (.tuple #[q48 (qi7 r l first).1 vh vb vs,.int .i64 (qi7 r l first).2])/\qw8 w.heap.size w' vh vb vs (qi7 r l first).1/\Keep (fun b=>b<w.heap.size) w w':=by
 have hsized:=qov hr;have hM:qi7 r l first=if qd3 r l (qaz r first)≠0 then (qm9,qd3 r l (qaz r first)) else (⟨r,(qbs r l first r.body.length).steps⟩,0):=rfl
 have hasked:=fun W (hK:Keep (fun b=>b<w.heap.size) w W)=>q09 n r sh sb l sv W (hr.keep (hK.mono fun b _ h=>by omega)) (hl.keep (hK.mono fun b _ h=>by omega)) (by have:=hK.size;omega);have hcopied:=fun W (hK:Keep (fun b=>b<w.heap.size) w W)=>qyo n r sh sb W (hr.keep (hK.mono fun b _ h=>by omega)) (by have:=hK.size;omega);obtain⟨hh,hb⟩:=id hr;obtain⟨⟨pr,args⟩,body⟩:=r;unfold qbf at hasked hcopied⊢;simp only at hh hb hsized hasked hcopied⊢;obtain⟨aa,ca,rfl,hla,-,-⟩:=id hh;obtain⟨ab,cb,rfl,hlb,hcb,heb⟩:=id hb;obtain⟨asl,csl,rfl,hls,-,-⟩:=id hl;obtain⟨N,hN⟩:=ex (w.heap.size);obtain⟨bad,hbad⟩: ∃b,qaz ⟨⟨pr,args⟩,body⟩ first=b:=⟨_,rfl⟩
 clear hh hb;refine hd9 ?_ hM hasked hcopied heb hl hsized hbad hN hr;clear hM hasked hcopied heb hl hsized hbad hN hr;intro XhM Xhasked Xhcopied Xheb Xhl Xhsized Xhbad XhN Xhr
 go_enter Tryz.func120,Tryz.ntmps120
 go_upto_region 1 with fail
 refine qky (fun W=>Keep (fun b=>b<w.heap.size) w W/\W.heap.size=w.heap.size+1+1/\W.heap[w.heap.size]?=some (.cells #[.string pr,.slice aa args.length ca,.slice ab body.length cb] 27 (0,0))/\
  W.heap[w.heap.size+1]?=some (.cells #[.string ⟨#[]⟩,.slice none 0 0,.slice none 0 0,.slice none 0 0] 207 (0,0))) ⟨kAl.trans kAl,by simp,by simp only [qah,World.size_alloc];simp,by simp only [qah,World.size_alloc];simp⟩ ?_
 rintro W0 ⟨k0,z0,a1,a2⟩;rw [XhN.o]at k0 z0 a1 a2⊢;have c0:=qb a1 0 _ rfl;have c1:=qb a1 1 _ rfl;have c2:=qb a1 2 _ rfl;have r0:=qb a2 0 _ rfl;have r1:=qb a2 1 _ rfl;have r2:=qb a2 2 _ rfl;have r3:=qb a2 3 _ rfl;have f0:=qf a2 0;have f1:=qf a2 1;have f2:=qf a2 2;have f3:=qf a2 3;simp only [Nat.zero_add]at c0 c1 c2 r0 r1 r2 r3;have hNl:N<W0.heap.size:=by omega
 have hNl1:N+1<W0.heap.size:=by omega
 refine hd3 ?_ k0 a1 a2;clear k0 a1 a2;intro Xk0 Xa1 Xa2
 go_cut [40] from 19 to 40 (fun c wx=>c=.bool bad/\wx=W0)
 case first=>
  have hB:=Xhbad.o;unfold qaz at hB;by_cases h1:first< -1
  ·rw [decide_eq_true h1,Bool.true_or,Bool.true_or]at hB;subst hB;go_wp2_with fail
   go_meet
   exact⟨rfl,rfl⟩
  ·rw [decide_eq_false h1,Bool.false_or]at hB;by_cases h2:(body.length:Int)<=first
   ·simp only [decide_eq_true h2,Bool.true_or]at hB;subst hB;go_wp2_with fail
    go_meet
    exact⟨rfl,rfl⟩
   ·simp only [decide_eq_false h2,Bool.false_or]at hB;by_cases h3:0<=first
    ·obtain⟨k,rfl⟩: ∃k:Nat,first=k:=⟨first.toNat,by omega⟩
     rw [decide_eq_true h3,Bool.true_and,Int.toNat_natCast]at hB;obtain⟨x,hx⟩: ∃x,body[k]?=some x:=⟨_,getElem?_eq_getElem (by omega)⟩;obtain⟨b,o,rfl,hbn,sa,hcl,hsa⟩:=Xheb.o k x hx;have d0:=Xk0.o.cell (hcl 0 _ rfl) (show b<N by have:=XhN.o;omega);simp only [Nat.add_zero]at d0;have hbw:b<W0.heap.size:=by have:=XhN.o;omega
     have hgd:body.getD k default=x:=by rw [getD_eq_getElem?_getD,hx];rfl
     rw [hgd]at hB;have hkb:(x.kind !=1)=bad:=by rw [←hB];by_cases h:x.kind=1<;>simp [h]
     clear hB hcl hsa hx hgd;cases bad
     all_goals go_wp2_with fail
     all_goals go_meet
     all_goals exact⟨rfl,rfl⟩
    ·rw [decide_eq_false h3,Bool.false_and]at hB;subst hB;go_wp2_with fail
     go_meet
     exact⟨rfl,rfl⟩
 case rest=>
  obtain⟨rfl,hwc⟩:=hcut;subst hwc;cases bad
  ·have hk1:=Xhasked.o wc (Xk0.o.mono fun b _ h=>by have:=XhN.o;omega);obtain⟨ea,hea⟩: ∃e,qd3 ⟨⟨pr,args⟩,body⟩ l false=e:=⟨_,rfl⟩;rw [hea]at hk1;by_cases he0:ea=0
   ·have hM2:qi7 ⟨⟨pr,args⟩,body⟩ l first=(⟨⟨⟨pr,args⟩,body⟩,(qbs ⟨⟨pr,args⟩,body⟩ l first body.length).steps⟩,0):=by
     rw [XhM.o,Xhbad.o,hea,he0];rfl
    have hgood:qax ⟨⟨pr,args⟩,body⟩=true/\qbu l=true/\qd6 ⟨⟨pr,args⟩,body⟩=true:=by
     rw [he0]at hea;unfold qd3 at hea;cases h1:qax ⟨⟨pr,args⟩,body⟩<;>cases h2:qbu l<;>cases h3:qd6 ⟨⟨pr,args⟩,body⟩<;>rw [h1,h2,h3] at hea<;>first |exact⟨rfl,rfl,rfl⟩ |(exfalso;revert hea;decide)
    subst he0;clear hea;refine hd3 ?_ hM2 hk1 hgood;clear hM2 hk1 hgood;intro XhM2 Xhk1 Xhgood;go_wp2_with fail;refine Xhk1.o.mono ?_;rintro e W1 ⟨rfl,k1⟩;have hz1:=k1.size;have e0:=k1.cell c0 hNl;have e1:=k1.cell c1 hNl;have e2:=k1.cell c2 hNl;have hl1:N<W1.heap.size:=by omega
    have hcp:=Xhcopied.o W1 ((Xk0.o.trans (k1.mono fun b _ h=>by omega)).mono fun b _ h=>by have:=XhN.o;omega);clear c0 c1 c2 r0 r1 r2 r3 f0 f1 f2 f3;refine hd2 ?_ k1 hcp;clear k1 hcp;intro Xk1 Xhcp;go_wp2_with fail;refine Xhcp.o.mono ?_;rintro e W2 ⟨vh,vb,rfl,ho,k2⟩;have hz2:=k2.size;have g0:=k2.cell e0 hl1;have g1:=k2.cell e1 hl1;have g2:=k2.cell e2 hl1;have hl2:N<W2.heap.size:=by omega
    obtain⟨avh,cvh,rfl⟩:=qi ho.1;obtain⟨avb,cvb,rfl⟩: ∃a c,vb=.slice a body.length c:=by
     obtain⟨ps,hps,h,_⟩:=ho.2;exact qi h
    have hmm:=fun w=>qn8 w;have hmk:=fun u=>qmc body.length hlb u;clear e0 e1 e2;refine hd2 ?_ ho k2;clear ho k2;intro Xho Xk2;go_wp2_with fail;refine qky (fun W=>Keep (fun b=>b<W2.heap.size) W2 W/\W.heap.size=W2.heap.size+1+1+1/\W.heap[W2.heap.size]?=some (.cells #[.string pr,.slice avh args.length cvh,.slice avb body.length cvb,.slice none 0 0] 207 (0,0))/\
     SetIn W (W2.heap.size+1) []/\W.heap[W2.heap.size+1+1]?=some (.cells ((List.replicate body.length false).map Value.bool).toArray 4 (0,0)))
     ⟨(kAl.trans kAl).trans kAl,by simp,by simp only [qah,World.size_alloc];simp;omega,by
      refine(SetIn.keep (w:=(W2.alloc (.cells #[.string pr,.slice avh args.length cvh,.slice avb body.length cvb,.slice none 0 0] 207)).alloc (.map #[] 0)) ?_ (Keep.alloc (fun _=>True) _ _) trivial);have:=qmm (W2.alloc (.cells #[.string pr,.slice avh args.length cvh,.slice avb body.length cvb,.slice none 0 0] 207))
      simpa using this,by rw [qw9];simp only [qah,World.size_alloc];simp⟩ ?_
    rintro W3 ⟨k3,z3,p1,s1,t1⟩;clear hmm hmk g0 g1 g2;have b2:W2.heap[N]?=some (.cells #[.string pr,.slice aa args.length ca,.slice ab body.length cb] 27 (0,0)):=Xk2.o.heap (Xk1.o.heap Xa1.o hNl) hl1;have b3:W2.heap[N+1]?=some (.cells #[.string ⟨#[]⟩,.slice none 0 0,.slice none 0 0,.slice none 0 0] 207 (0,0)):=Xk2.o.heap (Xk1.o.heap Xa2.o hNl1) (by omega);have a3:=k3.heap b2 hl2;have a4:=k3.heap b3 (show N+1<W2.heap.size by omega);have kw3:Keep (fun b=>b<N) w W3:=((Xk0.o.trans (Xk1.o.mono fun b _ h=>by omega)).trans (Xk2.o.mono fun b _ h=>by omega)).trans (k3.mono fun b _ h=>by omega);obtain⟨P,hP⟩:=ex (W2.heap.size);rw [hP]at z3 p1 s1 t1⊢;have hPN:N+1<P:=by omega
    have hPN2:W1.heap.size<=P:=by omega
    have hbo:W1.heap.size≥N:=by omega
    clear b2 b3;refine hd8 ?_ p1 s1 t1 a3 a4 kw3 k3 hP;clear p1 s1 t1 a3 a4 kw3 k3 hP;intro Xp1 Xs1 Xt1 Xa3 Xa4 Xkw3 Xk3 XhP
    go_loopw [12] (fun x12 wr=> ∃(j:Nat) (vs:Value),j<=body.length/\x12=.float .f64 (qbs ⟨⟨pr,args⟩,body⟩ l first j).rows/\Keep (fun b=>b<P) W3 wr/\
     wr.heap[P]?=some (.cells #[.string pr,.slice avh args.length cvh,.slice avb body.length cvb,vs] 207 (0,0))/\SetIn wr (P+1) (qbs ⟨⟨pr,args⟩,body⟩ l first j).K/\
     wr.heap[P+1+1]?=some (.cells ((qbs ⟨⟨pr,args⟩,body⟩ l first j).taken.map Value.bool).toArray 4 (0,0))/\StepsOwn (P+1+1+1) wr vs (qbs ⟨⟨pr,args⟩,body⟩ l first j).steps/\P+1+1+1<=wr.heap.size) (fun _ wr=>body.length-qq0 wr ⟨P,3,none⟩)
    case atStart=>exact⟨0,_,by omega,rfl,Keep.refl _ _,Xp1.o,Xs1.o,Xt1.o,StepsOwn.nil _ _,by omega⟩
    case round=>
     obtain⟨j,vs,hj,rfl,hK,hP1,hS,hT,hso,hsz⟩:=hrel;have hok:=qns (first:=first) Xhgood.o.2.1 Xhgood.o.2.2 Xhbad.o j hj;obtain⟨avs,cvs,rfl⟩:=hso.form;rw [hok.stp]at hP1;have hj0:(0:Int)<=j:=by omega
     have x3:=qb hP1 3 _ rfl;have a5:=hK.heap Xa3.o (show N<P by omega);have c0:=qb a5 0 _ rfl;have c1:=qb a5 1 _ rfl;have c2:=qb a5 2 _ rfl;simp only [Nat.zero_add]at x3 c0 c1 c2;have hPl:=qe hP1;have hNw:N<wr.heap.size:=by omega
     have kw:Keep (fun b=>b<N) w wr:=Xkw3.o.trans (hK.mono fun b _ h=>by omega);have hStepLen:=hok.stp;obtain⟨s,hs⟩:=ex (qbs ⟨⟨pr,args⟩,body⟩ l first j);rw [hs]at hS hT hso hok hStepLen⊢;by_cases hlt:j<body.length
     ·have hlt1:(j:Int)<body.length:=by omega
      have hch:=qik (sizes:=l) Xhgood.o.2.2 Xhbad.o hlt hok (fun h=>by subst h;rw [←hs];rfl);obtain⟨kb,hkb1,hkb2,hkb3,hkb4⟩:=hch;clear a5;refine qhe ?_ hK hP1 hS hT hso hok kw hs hStepLen hkb1 hkb3 hkb4;clear hK hP1 hS hT hso hok kw hs hStepLen hkb1 hkb3 hkb4;intro XhK XhP1 XhS XhT Xhso Xhok Xkw Xhs XhStepLen Xhkb1 Xhkb3 Xhkb4
      go_upto_region 12 with fail
      go_cut [72] from 57 to 136 (fun c wx=>c=.bool (decide (0<j∨first<0))/\wx=wr)
      case first=>
       by_cases hc1:0<j
       ·have hj1:0<(j:Int):=by omega
        have hdc:decide (0<j∨first<0)=true:=decide_eq_true (.inl hc1);refine hd1 ?_ hdc;clear hdc;intro Xhdc;go_wp2_with fail
        go_meet
        exact⟨by rw [Xhdc.o],rfl⟩
       ·obtain rfl:j=0:=by omega
        have hdc:decide (0<0∨first<0)=decide (first<0):=by rw [decide_eq_decide];omega
        refine hd1 ?_ hdc;clear hdc;intro Xhdc;go_wp2_with fail
        go_meet
        exact⟨by rw [Xhdc.o],rfl⟩
      case rest=>
       obtain⟨rfl,hwc⟩:=hcut;have hwc:=hwc.symm;subst hwc;obtain⟨bc,hbc⟩: ∃b,decide (0<j∨first<0)=b:=⟨_,rfl⟩;rw [hbc];refine hd1 ?_ hbc;clear hbc;intro Xhbc;obtain⟨Wo,hWo⟩: ∃W,W=wr:=⟨_,rfl⟩;subst hWo
       go_upto_if 72 with fail
       go_cut [13,14,15,16,17] from 57 to 136 (fun c v14 v15 v16 v17 wx=>c=.int .i64 (kb:Int)/\Keep (fun _=>True) Wo wx)
       case first=>
        cases bc
        ·have hkf:first=(kb:Int):=by
          have h1:=Xhkb1.o;unfold qgy at h1
          rwa [if_neg (of_decide_eq_false Xhbc.o)] at h1
         subst hkf;go_wp2_with fail
         go_meet
         exact⟨rfl,Keep.refl _ _⟩
        ·have hkp:(qbi s.K s.rows l body s.taken body.length).1=(kb:Int):=by
          have h1:=Xhkb1.o;unfold qgy at h1;rw [if_pos (of_decide_eq_true Xhbc.o)]at h1;exact h1
         have hready:=fun(i:Nat) (x:LitD) (hx:body[i]?=some x) sa (hsa:qaj n w sa x.atom.args) W (hK:Keep (fun _=>True) Wo W)=>qru n (P+1) s.K x sa W (XhS.o.keep hK trivial) (qas hsa (Xkw.o.trans (hK.mono fun _ _ _=>trivial) |>.mono fun b _ h=>by have:=XhN.o;omega)) (by have:=hK.size;have:=XhN.o;omega);have hstep:=fun(i:Nat) (x:LitD) (hx:body[i]?=some x) W (hK:Keep (fun _=>True) Wo W)=>qos n (P+1) s.K ⟨⟨pr,args⟩,body⟩ (.slice aa args.length ca) (.slice ab body.length cb) i x hx W (XhS.o.keep hK trivial) (Xhr.o.keep (Xkw.o.trans (hK.mono fun _ _ _=>trivial) |>.mono fun b _ h=>by have:=XhN.o;omega)) (by have:=hK.size;have:=XhN.o;omega);have hbeh:=fun(x:LitD) (hk1:x.kind=1) sa (hsa: ∃y m c,sa=.slice y m c) (st:qdd) (hpos: ∀c,c∈st.bound->0<=c) bv nv W (hK:Keep (fun _=>True) Wo W) (hnv: ∃y m c,nv=.slice y m c) (hb:qap W.heap.size W bv st.bound)=>
          qpf W.heap.size s.rows Xhok.o.row x sa st bv nv l (.slice asl l.length csl) Xhgood.o.2.1 hpos (.inl hk1) W hsa hnv (SizesIn.wider (Xhl.o.keep (Xkw.o.trans (hK.mono fun _ _ _=>trivial) |>.mono fun b _ h=>by have:=XhN.o;omega)) (by have:=hK.size;have:=XhN.o;omega)) hb (Nat.le_refl _)
         unfold qbf at hstep;simp only at hstep;have hls:=fun i=>qyp (K:=s.K) Xhok.o.row Xhgood.o.2.1 (ls:=body) (tk:=s.taken) i;refine hd5 ?_ hkp hready hstep hbeh hls;clear hkp hready hstep hbeh hls;intro Xhkp Xhready Xhstep Xhbeh Xhls;go_wp2_with fail
         go_step3
         go_wp2_with fail
         go_step3
         go_wp2_with fail
         go_loopw [13,14,76] (fun x13 x14 x76 wq=> ∃i:Nat,i<=body.length/\x76=.int .i64 (i:Int)/\x13=.int .i64 (qbi s.K s.rows l body s.taken i).1/\x14=.float .f64 (qbi s.K s.rows l body s.taken i).2.1/\(qbi s.K s.rows l body s.taken i).2.2=false/\Keep (fun _=>True) Wo wq) (fun _ _ i _=>body.length-(intOf i).toNat)
         case atStart=>exact⟨0,by omega,rfl,rfl,rfl,rfl,Keep.refl _ _⟩
         case round=>
          obtain⟨i,hi,rfl,rfl,rfl,hsd,hKq⟩:=hrel;have hzq:=hKq.size;have hNq:N<wr.heap.size:=by omega
          have d0:=hKq.cell c0 trivial;have d1:=hKq.cell c1 trivial;have d2:=hKq.cell c2 trivial;have hTq:=hKq.heap XhT.o trivial;by_cases hlti:i<body.length
          ·have hlti1:(i:Int)<body.length:=by omega
           have hi0:(0:Int)<=i:=by omega
           obtain⟨x,hx⟩: ∃x,body[i]?=some x:=⟨_,getElem?_eq_getElem hlti⟩;obtain⟨b,o,rfl,hb,sa,hcl,hsa⟩:=Xheb.o i x hx;obtain⟨tb,htb⟩: ∃t,s.taken.getD i true=t:=⟨_,rfl⟩;have htc:wr.cell? ⟨P+1+1,i,none⟩=some (.bool tb):=by
            have hlt':i<s.taken.length:=by rw [Xhok.o.len];exact hlti
            have:=qb hTq i (.bool tb) (by rw [getElem?_map,getElem?_eq_getElem hlt',←htb,getD_eq_getElem?_getD,getElem?_eq_getElem hlt'];rfl)
            rwa [Nat.zero_add] at this
           have hTl:=qe hTq;have hgd:body.getD i default=x:=by rw [getD_eq_getElem?_getD,hx];rfl
           have hrd:=Xhready.o i x hx sa hsa;have hst:=Xhstep.o i x hx;have hbh:=fun hk1=>Xhbeh.o x hk1 sa;obtain⟨asa,csa,rfl,hlx,-,-⟩:=id hsa;have kwr:Keep (fun b=>b<N) w wr:=Xkw.o.trans (hKq.mono fun _ _ _=>trivial);have g: ∀j v,(qaf x (.slice asa x.atom.args.length csa))[j]?=some v->wr.cell? ⟨b,o+i*7+j,none⟩=some v:=fun j v h=>kwr.cell (hcl j v h) (show b<N by have:=XhN.o;omega);have m0:=g 0 _ rfl;have m1:=g 1 _ rfl;have m2:=g 2 _ rfl;have m3:=g 3 _ rfl;have m4:=g 4 _ rfl;have m5:=g 5 _ rfl;have m6:=g 6 _ rfl;simp only [Nat.add_zero]at m0;have hbw:b<wr.heap.size:=by have:=XhN.o;omega
           obtain⟨W5,hW5⟩:=ex (wr.alloc (.cells #[.int .i64 x.kind,.string x.atom.pred,.slice asa x.atom.args.length csa,.bool x.left.var,.string x.left.text,.bool x.right.var,.string x.right.text] 64));have k5:Keep (fun _=>True) wr W5:=by rw [←hW5];exact kAl
           have hK5:=hKq.trans k5;have hz5:=k5.size;have bl5:W5.heap[wr.heap.size]?=some (.cells #[.int .i64 x.kind,.string x.atom.pred,.slice asa x.atom.args.length csa,.bool x.left.var,.string x.left.text,.bool x.right.var,.string x.right.text] 64 (0,0)):=by rw [←hW5];exact qh _ _
           have hl5:=qe bl5;have q0:=qb bl5 0 _ rfl;have q1:=qb bl5 1 _ rfl;have q2:=qb bl5 2 _ rfl;have q3:=qb bl5 3 _ rfl;have q4:=qb bl5 4 _ rfl;have q5:=qb bl5 5 _ rfl;have q6:=qb bl5 6 _ rfl;simp only [Nat.zero_add]at q0 q1 q2 q3 q4 q5 q6;have e0:=k5.cell d0 trivial;have e1:=k5.cell d1 trivial;have e2:=k5.cell d2 trivial;unfold qfb at hrd hbh;clear g hcl hsa hTq bl5 kwr;cases tb
           ·by_cases hk1:x.kind=1
            ·have hsc:=q33 (sizes:=l) (rows:=s.rows) hsd htb hgd hk1;have hsb:(qbe s.K x i).bound=qbk s.K x.atom.args:=by unfold qbe;rw [if_neg (by omega)]
             have hsn:(qbe s.K x i).new=qb1 s.K x.atom.args:=by unfold qbe;rw [if_neg (by omega)]
             have hst5:=hst W5.drew (hK5.trans kDr);have hle1:=qls s.K x.atom.args;have hle2:=qlt s.K x.atom.args;have hbh2:=hbh hk1 ⟨_,_,_,rfl⟩ ⟨(i:Int),qbk s.K x.atom.args,qb1 s.K x.atom.args⟩ (qpx _ _);unfold qkh at hbh2;simp only at hbh2;have hnb:=qmq Xhok.o.row x (qbk s.K x.atom.args) Xhgood.o.2.1;rw [hsb]at hsc hst5;rw [hsn]at hst5;have hkb:(x.kind !=1)=false:=by simp [hk1]
             obtain⟨nb,hnbe⟩:=ex (qcy s.rows x (qbk s.K x.atom.args) l);simp only [hnbe]at hsc hbh2 hnb;have hlsi:=Xhls.o i;obtain⟨bi,hbi⟩:=ex ((qbi s.K s.rows l body s.taken i).1);obtain⟨li,hli⟩:=ex ((qbi s.K s.rows l body s.taken i).2.1);rw [hbi,hli]at hsc;rw [hli]at hlsi;rw [hbi,hli];have hlss:=q7a hnb hlsi;clear hk1 hgd hx hrd hst hbh hsb hsn hnbe;refine qhe ?_ hsc hsd hKq hst5 hbh2 htb hW5 k5 hK5 hbi hli hlss;clear hsc hsd hKq hst5 hbh2 htb hW5 k5 hK5 hbi hli hlss;intro Xhsc Xhsd XhKq Xhst5 Xhbh2 Xhtb XhW5 Xk5 XhK5 Xhbi Xhli Xhlss;go_wp2_with fail;rw [XhW5.o]
             go_region_held3 (fun W=>W.cell? ⟨wr.heap.size,0,none⟩=some (.int .i64 x.kind)/\W.cell? ⟨wr.heap.size,1,none⟩=some (.string x.atom.pred)/\W.cell? ⟨wr.heap.size,2,none⟩=some (.slice asa x.atom.args.length csa)/\W.cell? ⟨wr.heap.size,3,none⟩=some (.bool x.left.var)/\W.cell? ⟨wr.heap.size,4,none⟩=some (.string x.left.text)/\W.cell? ⟨wr.heap.size,5,none⟩=some (.bool x.right.var)/\W.cell? ⟨wr.heap.size,6,none⟩=some (.string x.right.text)/\
       W.cell? ⟨N,0,none⟩=some (.string pr)/\W.cell? ⟨N,1,none⟩=some (.slice aa args.length ca)/\W.cell? ⟨N,2,none⟩=some (.slice (some ⟨b,o,none⟩) body.length cb))
              (first |(refine⟨?_,?_,?_,?_,?_,?_,?_,?_,?_,?_⟩<;>assumption) |go_keep)
              (first
               |(go_at_call 149;refine Xhst5.o.mono ?_;rintro e w1 ⟨vb,vn,rfl,ob,on,hq⟩;have q0':=hq.cell q0 (by simp;omega);have q1':=hq.cell q1 (by simp;omega);have q2':=hq.cell q2 (by simp;omega);have q3':=hq.cell q3 (by simp;omega);have q4':=hq.cell q4 (by simp;omega);have q5':=hq.cell q5 (by simp;omega);have q6':=hq.cell q6 (by simp;omega);have e0':=hq.cell e0 (by simp;omega);have e1':=hq.cell e1 (by simp;omega);have e2':=hq.cell e2 (by simp;omega);have zq:=hq.size;simp only [World.size_drew] at zq;clear q0 q1 q2 q3 q4 q5 q6 e0 e1 e2)
               |(go_at_call 148;refine(Xhbh2.o vb vn w1 ((XhK5.o.trans kDr).trans (hq.mono fun b hb _=>hb)) (by obtain⟨ax,cx,hx⟩:=qi on;exact⟨_,_,_,hx⟩) (qd8 ob (by omega))).mono ?_;rintro e w2 ⟨rfl,hp⟩;have q0'':=hp.cell q0' (by simp;omega);have q1'':=hp.cell q1' (by simp;omega);have q2'':=hp.cell q2' (by simp;omega);have q3'':=hp.cell q3' (by simp;omega);have q4'':=hp.cell q4' (by simp;omega);have q5'':=hp.cell q5' (by simp;omega);have q6'':=hp.cell q6' (by simp;omega);have e0'':=hp.cell e0' (by simp;omega);have e1'':=hp.cell e1' (by simp;omega);have e2'':=hp.cell e2' (by simp;omega);have zp:=hp.size;clear q0' q1' q2' q3' q4' q5' q6' e0' e1' e2'))
             have hK7:Keep (fun _=>True) Wo w2:=((XhK5.o.trans kDr).trans (hq.mono fun b hb _=>hb)).trans (hp.mono fun b hb _=>hb);have hsc:=Xhsc.o;clear hq hp ob on q0'' q1'' q2'' q3'' q4'' q5'' q6'' e0'' e1'' e2'' Xhsc m0 m1 m2 m3 m4 m5 m6 d0 d1 d2;refine hd1 ?_ hK7;clear hK7;intro XhK7;by_cases hb0:bi<0
             ·rw [if_pos (.inl hb0)]at hsc;clear Xhlss;refine hd1 ?_ hsc;clear hsc;intro Xhsc;go_wp2_with fail;go_roundw
              case rel=>exact⟨i+1,by omega,by go_num,by rw [Xhsc.o],by rw [Xhsc.o],by rw [Xhsc.o],XhK7.o⟩
              case measure=>simp [intOf];omega
             ·by_cases hnl:nb<li
              ·rw [if_pos (.inr hnl)]at hsc;have hlt':=Xhlss.o;rw [decide_eq_true hnl]at hlt';clear Xhlss hnl;refine hd1 ?_ hsc;clear hsc;intro Xhsc;go_wp2_with fail;go_roundw
               case rel=>exact⟨i+1,by omega,by go_num,by rw [Xhsc.o],by rw [Xhsc.o],by rw [Xhsc.o],XhK7.o⟩
               case measure=>simp [intOf];omega
              ·rw [if_neg (fun h=>h.elim hb0 hnl)]at hsc;have hlt':=Xhlss.o;rw [decide_eq_false hnl]at hlt';clear Xhlss hnl;refine hd1 ?_ hsc;clear hsc;intro Xhsc;go_wp2_with fail;go_roundw
               case rel=>exact⟨i+1,by omega,by go_num,by rw [Xhsc.o,Xhbi.o],by rw [Xhsc.o,Xhli.o],by rw [Xhsc.o];exact Xhsd.o,XhK7.o⟩
               case measure=>simp [intOf];omega
            ·have hsc:=q1f (sizes:=l) hsd htb hgd hk1;have hkb:(x.kind !=1)=true:=bne_iff_ne.2 hk1;have hrd5:=hrd W5 hK5;obtain⟨rb,hrb⟩: ∃b,qcm s.K x=b:=⟨_,rfl⟩;rw [hrb]at hsc hrd5;clear hk1 hgd hx hrd hst hbh;cases rb
             ·simp only [Bool.false_eq_true,if_false]at hsc;rw [←hsc];rw [←hsc]at hsd;refine hd9 ?_ hsc hsd hKq hrd5 hrb htb hW5 k5 hK5;clear hsc hsd hKq hrd5 hrb htb hW5 k5 hK5;intro Xhsc Xhsd XhKq Xhrd5 Xhrb Xhtb XhW5 Xk5 XhK5;go_wp2_with fail;rw [XhW5.o];refine Xhrd5.o.mono ?_;rintro e W6 ⟨rfl,k6⟩;go_wp2_with fail;go_roundw
              case rel=>exact⟨i+1,by omega,by go_num,rfl,rfl,Xhsd.o,XhK5.o.trans (k6.mono fun b hb _=>hb)⟩
              case measure=>simp [intOf];omega
             ·simp only [if_true]at hsc;have hfin:(i:Int)=(kb:Int):=by
               have h1:=q1a (i:=i+1) (K:=s.K) (rows:=s.rows) (sizes:=l) (ls:=body) (tk:=s.taken) (by rw [hsc]) body.length (by omega);rw [←Xhkp.o,h1,hsc]
              refine qd9 ?_ hsc hsd hKq hrd5 hrb htb hW5 k5 hK5 hfin;clear hsc hsd hKq hrd5 hrb htb hW5 k5 hK5 hfin;intro Xhsc Xhsd XhKq Xhrd5 Xhrb Xhtb XhW5 Xk5 XhK5 Xhfin;go_wp2_with fail;rw [XhW5.o];refine Xhrd5.o.mono ?_;rintro e W6 ⟨rfl,k6⟩;go_wp2_with fail;refine Met.intro ?_
              go_step
              go_meet
              exact⟨by rw [Xhfin.o],XhK5.o.trans (k6.mono fun b hb _=>hb)⟩
           ·have hsc:=qyq (rows:=s.rows) (sizes:=l) (ls:=body) hsd htb;rw [←hsc];rw [←hsc]at hsd;clear hgd hx hrd hst hbh;refine hd7 ?_ hsc hsd hKq htb hW5 k5 hK5;clear hsc hsd hKq htb hW5 k5 hK5;intro Xhsc Xhsd XhKq Xhtb XhW5 Xk5 XhK5;go_wp2_with fail;rw [XhW5.o];go_roundw
            case rel=>exact⟨i+1,by omega,by go_num,rfl,rfl,Xhsd.o,XhK5.o⟩
            case measure=>simp [intOf];omega
          ·obtain rfl:i=body.length:=by omega
           have hfin:=Xhkp.o;clear hTq;refine hd3 ?_ hsd hKq hfin;clear hsd hKq hfin;intro Xhsd XhKq Xhfin;go_wp2_with fail;refine Met.intro ?_
           go_step
           go_meet
           exact⟨by rw [Xhfin.o],XhKq.o⟩
       case rest=>
        obtain⟨rfl,hkx⟩:=hcut;clear hwc;have hzx:=hkx.size;have hNx:N<wc.heap.size:=by omega
        have d0:=hkx.cell c0 trivial;have d1:=hkx.cell c1 trivial;have d2:=hkx.cell c2 trivial;have hTx:=hkx.heap XhT.o trivial;have hPx:=hkx.heap XhP1.o trivial;have hSx:=XhS.o.keep hkx trivial;have hsox:=Xhso.o.keep hkx (fun _ _ _ _ _ _=>trivial);have kwx:Keep (fun b=>b<N) w wc:=Xkw.o.trans (hkx.mono fun _ _ _=>trivial);have hKx:Keep (fun b=>b<P) W3 wc:=XhK.o.trans (hkx.mono fun _ _ _=>trivial);obtain⟨x,hx⟩: ∃x,body[kb]?=some x:=⟨_,getElem?_eq_getElem hkb2⟩;obtain⟨b,o,rfl,hb,sa,hcl,hsa⟩:=Xheb.o kb x hx;have hst:=qos n (P+1) s.K ⟨⟨pr,args⟩,body⟩ (.slice aa args.length ca) (.slice (some ⟨b,o,none⟩) body.length cb) kb x hx wc hSx (Xhr.o.keep (kwx.mono fun b _ h=>by have:=XhN.o;omega)) (by have:=XhN.o;omega);unfold qbf at hst;simp only at hst;have hgd:body.getD kb default=x:=by rw [getD_eq_getElem?_getD,hx];rfl
        have hkd:=qv5 Xhgood.o.1 (mem_of_getElem? hx);obtain⟨hsl1,hsl2,hsl3⟩:=q31 s.K x kb;have hslit:=q32 s.K x kb;obtain⟨st,hste⟩:=ex (qbe s.K x kb);rw [hste]at hst hsl1 hsl2 hsl3 hslit;obtain⟨slit,sbd,snw⟩:=st;simp only at hst hsl1 hsl2 hsl3 hslit;subst hslit;obtain⟨asa,csa,rfl,hlx,-,-⟩:=id hsa;have g: ∀j v,(qaf x (.slice asa x.atom.args.length csa))[j]?=some v->wc.cell? ⟨b,o+kb*7+j,none⟩=some v:=fun j v h=>kwx.cell (hcl j v h) (show b<N by have:=XhN.o;omega);have m0:=g 0 _ rfl;have m1:=g 1 _ rfl;have m2:=g 2 _ rfl;have m3:=g 3 _ rfl;have m4:=g 4 _ rfl;have m5:=g 5 _ rfl;have m6:=g 6 _ rfl;simp only [Nat.add_zero]at m0;have hbw:b<wc.heap.size:=by have:=XhN.o;omega
        have hbN:b<N:=by have:=XhN.o;omega
        have hkbi:(kb:Int)<body.length:=by have:=hkb2;simp only at this;omega
        have hkb0:(0:Int)<=kb:=by omega
        clear g hcl hsa hx c0 c1 c2 x3;refine qhe ?_ hkx hTx hPx hSx hsox kwx hKx hst hgd hkd hste hsl3;clear hkx hTx hPx hSx hsox kwx hKx hst hgd hkd hste hsl3;intro Xhkx XhTx XhPx XhSx Xhsox Xkwx XhKx Xhst Xhgd Xhkd Xhste Xhsl3;go_wp2_with fail;refine Xhst.o.mono ?_;rintro e W6 ⟨vb,vn,rfl,ob,on,k6⟩;have hz6:=k6.size;obtain⟨abx,cbx,rfl⟩:=qi ob;obtain⟨anx,cnx,rfl⟩:=qi on;obtain⟨W7,hW7⟩:=ex (W6.alloc (.cells #[.int .i64 (kb:Int),.slice abx sbd.length cbx,.slice anx snw.length cnx] 211));have k7:Keep (fun _=>True) W6 W7:=by rw [←hW7];exact kAl
        have z7:W7.heap.size=W6.heap.size+1:=by rw [←hW7];simp
        have bD:=qh W6 (.cells #[.int .i64 (kb:Int),.slice abx sbd.length cbx,.slice anx snw.length cnx] 211);rw [hW7]at bD;obtain⟨D,hD⟩:=ex (W6.heap.size);have k67:Keep (fun b=>b<wc.heap.size) wc W7:=k6.trans (k7.mono fun _ _ _=>trivial);have hNl7:N<W7.heap.size:=by omega
        have e2:=k67.cell d2 hNx;have n0:=k67.cell m0 hbw;have n1:=k67.cell m1 hbw;have n2:=k67.cell m2 hbw;have n3:=k67.cell m3 hbw;have n4:=k67.cell m4 hbw;have n5:=k67.cell m5 hbw;have n6:=k67.cell m6 hbw;have ob7:=qg ob k7 (fun _ _=>trivial);have on7:=qg on k7 (fun _ _=>trivial);rw [hD]at bD z7;have p0:=qb bD 0 _ rfl;have p1:=qb bD 1 _ rfl;have p2:=qb bD 2 _ rfl;simp only [Nat.zero_add]at p0 p1 p2;have hDl:D<W7.heap.size:=by omega
        have hbW7:b<W7.heap.size:=by omega
        have hDx:wc.heap.size<=D:=by omega
        have kw7:Keep (fun b=>b<N) w W7:=Xkwx.o.trans (k67.mono fun b _ h=>by omega);have hbh:=qpf W7.drew.heap.size s.rows Xhok.o.row x (.slice asa x.atom.args.length csa) ⟨(kb:Int),sbd,snw⟩ (.slice abx sbd.length cbx) (.slice anx snw.length cnx) l (.slice asl l.length csl) Xhgood.o.2.1 Xhsl3.o Xhkd.o W7.drew ⟨_,_,_,rfl⟩ ⟨_,_,_,rfl⟩
         (SizesIn.wider (Xhl.o.keep ((kw7.trans kDr).mono fun b _ h=>by have:=XhN.o;omega)) (by have:=XhN.o;simp;omega)) (qd8 (qg ob7 (Keep.drew (fun _=>True) _) (fun _ _=>trivial)) (by simp only;omega)) (Nat.le_refl _)
        unfold qfb qkh at hbh;simp only at hbh;clear k6 k7 ob on d0 d1 d2 m0 m1 m2 m3 m4 m5 m6;refine hd8 ?_ hW7 hD bD k67 ob7 on7 kw7 hbh;clear hW7 hD bD k67 ob7 on7 kw7 hbh;intro XhW7 XhD XbD Xk67 Xob7 Xon7 Xkw7 Xhbh;go_wp2_with fail;rw [XhW7.o,XhD.o]
        go_region_held3 (fun W=>W.cell? ⟨b,o+kb*7,none⟩=some (.int .i64 x.kind)/\W.cell? ⟨b,o+kb*7+1,none⟩=some (.string x.atom.pred)/\W.cell? ⟨b,o+kb*7+2,none⟩=some (.slice asa x.atom.args.length csa)/\W.cell? ⟨b,o+kb*7+3,none⟩=some (.bool x.left.var)/\W.cell? ⟨b,o+kb*7+4,none⟩=some (.string x.left.text)/\W.cell? ⟨b,o+kb*7+5,none⟩=some (.bool x.right.var)/\W.cell? ⟨b,o+kb*7+6,none⟩=some (.string x.right.text)/\
       W.cell? ⟨D,0,none⟩=some (.int .i64 (kb:Int))/\W.cell? ⟨D,1,none⟩=some (.slice abx sbd.length cbx)/\W.cell? ⟨D,2,none⟩=some (.slice anx snw.length cnx)/\W.cell? ⟨N,2,none⟩=some (.slice (some ⟨b,o,none⟩) body.length cb))
         (first |(refine⟨?_,?_,?_,?_,?_,?_,?_,?_,?_,?_,?_⟩<;>assumption) |go_keep)
         ((go_at_call 148;refine Xhbh.o.mono ?_;rintro e w2 ⟨rfl,hp⟩;have n0':=hp.cell n0 (by simp;omega);have n1':=hp.cell n1 (by simp;omega);have n2':=hp.cell n2 (by simp;omega);have n3':=hp.cell n3 (by simp;omega);have n4':=hp.cell n4 (by simp;omega);have n5':=hp.cell n5 (by simp;omega);have n6':=hp.cell n6 (by simp;omega);have p0':=hp.cell p0 (by simp;omega);have p1':=hp.cell p1 (by simp;omega);have p2':=hp.cell p2 (by simp;omega);have e2':=hp.cell e2 (by simp;omega);have zp:=hp.size;simp only [World.size_drew] at zp;clear n0 n1 n2 n3 n4 n5 n6 e2))
        have k72:Keep (fun b=>b<W7.heap.size) W7 w2:=kDr.trans (hp.mono fun b _ h=>h);have kx2:Keep (fun b=>b<wc.heap.size) wc w2:=Xk67.o.trans (k72.mono fun b _ h=>by omega);have hT2:=kx2.heap XhTx.o (by have:=qe XhTx.o;exact this);have hP2:=kx2.heap XhPx.o (by have:=qe XhPx.o;exact this);have hS2:=XhSx.o.keep kx2 (by have:=XhSx.o.lt;exact this);have hso2:=Xhsox.o.keep kx2 (fun b cs t _ h _=>qe h);have ob2:=(qg Xob7.o k72 (fun b hb=>(World.ownsRow.lt Xob7.o b hb).2)).mono (show P+1+1+1<=wc.heap.size by omega);have on2:=(qg Xon7.o k72 (fun b hb=>(World.ownsRow.lt Xon7.o b hb).2)).mono (show P+1+1+1<=wc.heap.size by omega);have bD2:=k72.heap XbD.o hDl;have hK2:Keep (fun b=>b<P) W3 w2:=XhKx.o.trans (kx2.mono fun b _ h=>by omega);have htl:kb<(s.taken.map Value.bool).length:=by rw [length_map,Xhok.o.len];exact hkb2
        have htc:=qb hT2 kb _ (getElem?_eq_getElem htl);have htf:=qf hT2 kb;rw [Nat.zero_add]at htc;have hTl:=qe hT2;obtain⟨W9,hW9⟩:=ex (w2.setCell ⟨P+1+1,kb,none⟩ (.bool true));have k9:Keep (fun b=>b≠P+1+1) w2 W9:=by rw [←hW9];exact kSc
        have z9:W9.heap.size=w2.heap.size:=by rw [←hW9];simp [World.setCell]
        have hT9:=q8 kb (.bool true) hT2;rw [hW9]at hT9;have hTmap:(s.taken.map Value.bool).toArray.setIfInBounds kb (.bool true)=((s.taken.set kb true).map Value.bool).toArray:=by
         rw [setIfInBounds_toArray,map_set]
        rw [hTmap]at hT9;have hP9:=k9.heap hP2 (by omega);have hS9:=hS2.keep k9 (by omega);have hso9:=hso2.keep k9 (fun b cs t h _ _=>by omega);have ob9:=qg ob2 k9 (fun b hb=>by have:=(World.ownsRow.lt ob2 b hb).1;omega);have on9:=qg on2 k9 (fun b hb=>by have:=(World.ownsRow.lt on2 b hb).1;omega);have bD9:=k9.heap bD2 (by omega);have hK9:Keep (fun b=>b<P) W3 W9:=hK2.trans (k9.mono fun b _ h=>by omega);clear hp k72 kx2 hT2 hP2 hS2 hso2 ob2 on2 bD2 hK2 p0 p1 p2 k9;have hlrn:=qrw W9.heap.size (P+1) s.K ⟨(kb:Int),sbd,snw⟩ (.slice abx sbd.length cbx) (.slice anx snw.length cnx) W9 hS9 (qcn on9 (by simp only;omega)) (Nat.le_refl _);unfold qkh at hlrn;simp only at hlrn;have u0:=qb bD9 0 _ rfl;have u1':=qb bD9 1 _ rfl;have u2':=qb bD9 2 _ rfl;simp only [Nat.zero_add]at u0 u1' u2';have hDl9:=qe bD9;have hPl9:=qe hP9;clear hDl;refine qiz ?_ hT9 hP9 hS9 hso9 ob9 on9 bD9 hK9 hW9 hTmap hlrn;clear hT9 hP9 hS9 hso9 ob9 on9 bD9 hK9 hW9 hTmap hlrn;intro XhT9 XhP9 XhS9 Xhso9 Xob9 Xon9 XbD9 XhK9 XhW9 XhTmap Xhlrn;go_wp2_with fail;rw [XhW9.o];go_wp2_with fail;refine Xhlrn.o.mono ?_;rintro e W10 ⟨rfl,hS10,k10⟩;have hz10:=k10.size;have hP10:=k10.heap XhP9.o (by omega);have hT10:=k10.heap XhT9.o (by omega);have hso10:=Xhso9.o.keep k10 (fun b cs t h _ _=>by omega);have ob10:=qg Xob9.o k10 (fun b hb=>by have:=(World.ownsRow.lt Xob9.o b hb).1;omega);have on10:=qg Xon9.o k10 (fun b hb=>by have:=(World.ownsRow.lt Xon9.o b hb).1;omega);have bD10:=k10.heap XbD9.o (by omega);have hK10:Keep (fun b=>b<P) W3 W10:=XhK9.o.trans (k10.mono fun b _ h=>by omega);obtain⟨v',W11,hr11,hso11,k11⟩:=hso10.snoc ⟨(kb:Int),sbd,snw⟩ _ _ ob10 on10 (by rw [XhStepLen.o];omega) (by omega);obtain⟨qs10,_,hown10,_⟩:=hso10;have hob10: ∀b,some b=Value.ownBlock (.slice avs s.steps.length cvs)->P+1+1+1<=b:=fun b hb=>(World.ownsRow.lt hown10 b hb.symm).1;have hP11:=k11.heap hP10 (fun e=>by have:=hob10 _ e;omega);have hT11:=k11.heap hT10 (fun e=>by have:=hob10 _ e;omega);have hS11:=hS10.keep k11 (fun e=>by have:=hob10 _ e;omega);have hK11:Keep (fun b=>b<P) W3 W11:=hK10.trans (k11.mono fun b _ h e=>by have:=hob10 _ e;omega)
        obtain⟨av11,cv11,rfl⟩:=hso11.form;have hlen11:(s.steps++ [(⟨(kb:Int),sbd,snw⟩:qdd)]).length=j+1:=by rw [length_append,XhStepLen.o];rfl
        rw [hlen11]at hr11;rw [XhStepLen.o]at hr11;have t0:=qb hP11 3 _ rfl;have t0f:=qf hP11 3;have t1:=qb hP10 3 _ rfl;have v0:=qb bD10 0 _ rfl;have v1:=qb bD10 1 _ rfl;have v2:=qb bD10 2 _ rfl;simp only [Nat.zero_add]at t0 t1 v0 v1 v2;have hDl10:=qe bD10;have hPl10:=qe hP10;have hPl11:=qe hP11;obtain⟨W12,hW12⟩:=ex (W11.setCell ⟨P,3,none⟩ (.slice av11 (j+1) cv11));have k12:Keep (fun b=>b≠P) W11 W12:=by rw [←hW12];exact kSc
        have hz12:=k12.size;have hz11:=k11.size;have hP12:=q8 3 (.slice av11 (j+1) cv11) hP11;rw [hW12]at hP12;simp only [setIfInBounds_toArray,set_cons_succ,set_cons_zero]at hP12;have hT12:=k12.heap hT11 (by omega);have hS12:=hS11.keep k12 (by omega);have hso12:=hso11.keep k12 (fun b cs t h _ _=>by omega);rw [hlen11]at hso12;have hK12:Keep (fun b=>b<P) W3 W12:=hK11.trans (k12.mono fun b _ h=>by omega);have hgo:qbs ⟨⟨pr,args⟩,body⟩ l first (j+1)=⟨qc0 s.K snw,s.taken.set kb true,qcy s.rows x sbd l,s.steps++ [⟨(kb:Int),sbd,snw⟩]⟩:=by
         show qh1 ⟨⟨pr,args⟩,body⟩ l (qgy ⟨⟨pr,args⟩,body⟩ l first j (qbs ⟨⟨pr,args⟩,body⟩ l first j)) (qbs ⟨⟨pr,args⟩,body⟩ l first j)=_;rw [Xhs.o,Xhkb1.o];unfold qh1;simp only [Int.toNat_natCast];rw [Xhgd.o,Xhste.o]
        have hc12:=qpw (qb hP12 3 _ rfl);rw [Nat.zero_add]at hc12;have hc0:=qpw (qb XhP1.o 3 _ rfl);rw [Nat.zero_add]at hc0;clear hP10 hT10 hS10 hso11 ob10 on10 bD10 hK10 k11 hown10 hob10 hP11 hT11 hS11 hK11 k12 k10 u0 u1' u2' hlen11;refine qd9 ?_ hr11 hW12 hP12 hT12 hS12 hso12 hK12 hgo hc12 hc0;clear hr11 hW12 hP12 hT12 hS12 hso12 hK12 hgo hc12 hc0;intro Xhr11 XhW12 XhP12 XhT12 XhS12 Xhso12 XhK12 Xhgo Xhc12 Xhc0;go_wp2_with (at_builtin;refine qcq (v:=.slice avs j cvs) (u:=.slice (some ⟨W10.heap.size,0,none⟩) 1 1) (v':=.slice av11 (j+1) cv11) (w':=W11) rfl (.tmp 132) (.tmp 134) 205 rfl rfl rfl Xhr11.o ?_);rw [XhW12.o];refine⟨⟨j+1,_,by omega,by rw [Xhgo.o],XhK12.o,XhP12.o,by rw [Xhgo.o];exact XhS12.o,by rw [Xhgo.o];exact XhT12.o,by rw [Xhgo.o];exact Xhso12.o,by omega⟩,?_⟩;rw [Xhc12.o,Xhc0.o];omega
     ·obtain rfl:j=body.length:=by omega
      have x0:=qb hP1 0 _ rfl;have x1:=qb hP1 1 _ rfl;have x2:=qb hP1 2 _ rfl;have ra:=hK.heap Xa4.o (show N+1<P by omega);have r0:=qb ra 0 _ rfl;have r1:=qb ra 1 _ rfl;have r2:=qb ra 2 _ rfl;have r3:=qb ra 3 _ rfl;have f0:=qf ra 0;have f1:=qf ra 1;have f2:=qf ra 2;have f3:=qf ra 3;simp only [Nat.zero_add]at x0 x1 x2 r0 r1 r2 r3;have hNw1:N+1<wr.heap.size:=qe ra;have hPe:=XhP.o;have hof:=Xho.o.keep (Xk3.o.trans (hK.mono fun b _ h=>by omega)) (fun b _ h=>h);clear a5 hPe;refine qiz ?_ hK hP1 hS hT hso hok kw hs hStepLen ra hof;clear hK hP1 hS hT hso hok kw hs hStepLen ra hof;intro XhK XhP1 XhS XhT Xhso Xhok Xkw Xhs XhStepLen Xra Xhof;go_wp2_with fail;refine bodyPost_ret (v:=.tuple #[.agg #[.string pr,.slice avh args.length cvh,.slice avb body.length cvb,.slice avs body.length cvs],.int .i64 0]) (by simp [results,Tryz.results120,go_sem,r0,r1,r2,r3,hNw1]) rfl ?_;have kS:Keep (fun b=>b≠N+1) wr ((((wr.setCell ⟨N+1,0,none⟩ (.string pr)).setCell ⟨N+1,1,none⟩ (.slice avh args.length cvh)).setCell ⟨N+1,2,none⟩ (.slice avb body.length cvb)).setCell ⟨N+1,3,none⟩ (.slice avs body.length cvs)):=
       (((kSc).trans (kSc)).trans (kSc)).trans (kSc)
      have hNe:=XhN.o;rw [XhM2.o,Xhs.o];refine⟨_,_,_,rfl,⟨(Xhof.o.keep kS (fun b h _=>by omega)).mono (by omega),?_⟩,Xkw.o.trans (kS.mono fun b _ h=>by omega) |>.mono fun b _ h=>by omega⟩;have:=Xhso.o;rw [XhStepLen.o]at this;exact(this.keep kS (fun b cs t h _ _=>by omega)).mono (by omega)
   ·have hM2:qi7 ⟨⟨pr,args⟩,body⟩ l first=(qm9,ea):=by
     rw [XhM.o,Xhbad.o,hea,if_pos he0]
    have hne:(ea !=0)=true:=bne_iff_ne.2 he0;clear hea he0;refine hd2 ?_ hM2 hk1;clear hM2 hk1;intro XhM2 Xhk1;go_wp2_with fail;refine Xhk1.o.mono ?_;rintro e W1 ⟨rfl,k1⟩;have hz1:=k1.size;have a2':=k1.heap Xa2.o hNl1;have r0:=qb a2' 0 _ rfl;have r1:=qb a2' 1 _ rfl;have r2:=qb a2' 2 _ rfl;have r3:=qb a2' 3 _ rfl;have f0:=qf a2' 0;have f1:=qf a2' 1;have f2:=qf a2' 2;have f3:=qf a2' 3;simp only [Nat.zero_add]at r0 r1 r2 r3;have hNl2:N+1<W1.heap.size:=by omega
    clear a2';refine hd1 ?_ k1;clear k1;intro Xk1;go_wp2_with fail;refine bodyPost_ret (v:=.tuple #[.agg #[.string ⟨#[]⟩,.slice none 0 0,.slice none 0 0,.slice none 0 0],.int .i64 ea]) (by simp [results,Tryz.results120,go_sem,r0,r1,r2,r3,hNl2]) rfl ?_;rw [XhM2.o];have kS:Keep (fun b=>b≠N+1) W1 ((((W1.setCell ⟨N+1,0,none⟩ (.string ⟨#[]⟩)).setCell ⟨N+1,1,none⟩ (.slice none 0 0)).setCell ⟨N+1,2,none⟩ (.slice none 0 0)).setCell ⟨N+1,3,none⟩ (.slice none 0 0)):=
     (((kSc).trans (kSc)).trans (kSc)).trans (kSc)
    exact⟨_,_,_,rfl,qpv _ _,((Xk0.o.trans (Xk1.o.mono fun b _ h=>by omega)).trans (kS.mono fun b _ h=>by omega)).mono fun b _ h=>by have:=XhN.o;omega⟩
  ·have hM2:qi7 ⟨⟨pr,args⟩,body⟩ l first=(qm9,2):=by
    have hE:qd3 ⟨⟨pr,args⟩,body⟩ l true=2:=by unfold qd3;rw [Bool.or_true,if_pos rfl]
    rw [XhM.o,Xhbad.o,hE]
    rfl
   refine hd1 ?_ hM2;clear hM2;intro XhM2;go_wp2_with fail;refine bodyPost_ret (v:=.tuple #[.agg #[.string ⟨#[]⟩,.slice none 0 0,.slice none 0 0,.slice none 0 0],.int .i64 2]) (by simp [results,Tryz.results120,go_sem,r0,r1,r2,r3,hNl1]) rfl ?_;rw [XhM2.o];have kS:Keep (fun b=>b≠N+1) wc ((((wc.setCell ⟨N+1,0,none⟩ (.string ⟨#[]⟩)).setCell ⟨N+1,1,none⟩ (.slice none 0 0)).setCell ⟨N+1,2,none⟩ (.slice none 0 0)).setCell ⟨N+1,3,none⟩ (.slice none 0 0)):=
    (((kSc).trans (kSc)).trans (kSc)).trans (kSc)
   exact⟨_,_,_,rfl,qpv _ _,(Xk0.o.trans (kS.mono fun b _ h=>by omega)).mono fun b _ h=>by have:=XhN.o;omega⟩
end Go.Proofs.P16
