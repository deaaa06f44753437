/- Parts of the proof. -/
import Derived.Test.YtnponcjnahicnaaGreatPnW
import Derived.Deep.DeepCutAuto
set_option linter.unusedSimpArgs false
set_option linter.unusedVariables false
set_option maxRecDepth 100000
set_option maxHeartbeats 4000000
open Go.Proofs.Tryz(prog)
open List(map_set set_cons_succ set_cons_zero)
namespace Go.Proofs.P16
open Go.RowKit Go.Ink Go.Flt
attribute [local go_sem] Oper.semAt_some
def qmb (q:qds×Value×Value):List Value:= [.int .i64 q.1.lit,q.2.1,q.2.2]
def StepsOwn (base:Nat)(w:World)(v:Value)(ss:List qds):Prop:=
 ∃qs:List (qds×Value×Value),qs.map (·.1)=ss/\w.ownsRow base 211 3 v ss.length (qs.flatMap qmb)/\
  ∀q,q∈qs->w.ownsRow base 3 1 q.2.1 q.1.bound.length (q.1.bound.map (.int .i64))/\w.ownsRow base 9 1 q.2.2 q.1.new.length (q.1.new.map .string)
def q6p (n:Nat)(w:World)(b o:Nat)(s:qds):Prop:= ∃bv nv,CellsE w b o [.int .i64 s.lit,bv,nv]/\qat n w bv s.bound/\qac n w nv s.new
abbrev StepsIn (n:Nat)(w:World)(v:Value)(ss:List qds):Prop:=SliceIn n w 3 (q6p n) v ss
theorem StepsIn.keep {n:Nat}{w w':World}{v:Value}{ss:List qds}(h:StepsIn n w v ss)(hK:Keep (fun k=>k<n) w w'):StepsIn n w' v ss:=
 h.mono fun b o s hb ⟨bv,nv,h1,h2,h3⟩=>⟨bv,nv,fun j v c=>hK.cell (h1 j v c) hb,qjb h2 hK,qan h3 hK⟩
theorem StepsIn.wider {n c:Nat}{w:World}{v:Value}{ss:List qds}(h:StepsIn n w v ss)(b:n<=c):StepsIn c w v ss:=
 SliceIn.wider h b fun _ _ _ _ ⟨bv,nv,h1,h2,h3⟩=>⟨bv,nv,h1,SliceIn.wider h2 b fun _ _ _ _ h=>h,qb2 h3 b⟩
def q8y (ss:List qds):Prop:=ss.length<=1073741824/\ ∀s,s∈ss->s.bound.length<=1073741824/\s.new.length<=1073741824
theorem StepsOwn.steps {base:Nat}{w:World}{v:Value}{ss:List qds}(h:StepsOwn base w v ss)(m:q8y ss):StepsIn w.heap.size w v ss:=by
 obtain⟨s,p,ho,c⟩:=h;refine qdb ho ss rfl m.1 (q6p w.heap.size) fun b k d hd x=>?_;have hd2:(s.map (·.1))[k]?=some d:=by rw [p];exact hd
 rw [zP]at hd2;obtain⟨q,g,rfl⟩:=xQ.1 hd2;have l:=zH g;have e:q.1∈ss:=by rw [←p];exact yL.2 ⟨q,l,rfl⟩
 refine⟨q.2.1,q.2.2,fun j u t=>?_,qen (c q l).1 (m.2 _ e).1,qbq (c q l).2 (m.2 _ e).2⟩;have r:j<3:=(zA.1 t).1;rw [x j r,qbj qmb 3 (fun _=>rfl) s k j q g r];exact t
theorem StepsOwn.keep {base:Nat}{w w':World}{v:Value}{ss:List qds}{C:Nat->Prop}(h:StepsOwn base w v ss)(hK:Keep C w w')(l: ∀b cs t,base<=b->w.heap[b]?=some (.cells cs t (0,0))->t=211∨t=3∨t=9->C b):StepsOwn base w' v ss:=by
 obtain⟨p,m,ho,c⟩:=h;refine⟨p,m,qf ho hK (fun b d=>?_),fun q e=>⟨qf (c q e).1 hK (fun b d=>?_),qf (c q e).2 hK (fun b d=>?_)⟩⟩
 ·obtain⟨cs,g⟩:=qa1 ho d;exact l b cs _ (zE ho b d).1 g (.inl rfl)
 ·obtain⟨cs,g⟩:=qa1 (c q e).1 d;exact l b cs _ (zE (c q e).1 b d).1 g (.inr (.inl rfl))
 ·obtain⟨cs,g⟩:=qa1 (c q e).2 d;exact l b cs _ (zE (c q e).2 b d).1 g (.inr (.inr rfl))
theorem StepsOwn.mono {base b:Nat}{w:World}{v:Value}{ss:List qds}(h:StepsOwn base w v ss)(d:b<=base):StepsOwn b w v ss:=by
 obtain⟨l,g,ho,c⟩:=h;exact⟨l,g,ho.mono d,fun q e=>⟨(c q e).1.mono d,(c q e).2.mono d⟩⟩
theorem StepsOwn.nil (base:Nat)(w:World):StepsOwn base w (.slice none 0 0) []:=⟨[],rfl,zj _ _ _ _,wE⟩
theorem StepsOwn.form {base:Nat}{w:World}{v:Value}{ss:List qds}(h:StepsOwn base w v ss): ∃a c,v=.slice a ss.length c:=by
 obtain⟨e,d,ho,b⟩:=h;exact qj ho
theorem StepsOwn.snoc {base:Nat}{w:World}{v:Value}{ss:List qds}(h:StepsOwn base w v ss)(s:qds)(x vn:Value)(t:w.ownsRow base 3 1 x s.bound.length (s.bound.map (.int .i64)))(X:w.ownsRow base 9 1 vn s.new.length (s.new.map .string))(hl:ss.length<=1073741824)(p:base<=w.heap.size):
  ∃v' w',(Builtin.append_ #[205,205] 205 #[v,.slice (some ⟨w.heap.size,0,none⟩) 1 1]).run prog (w.alloc (.cells #[.int .i64 s.lit,x,vn] 211))=.ok v' w'/\StepsOwn base w' v' (ss++ [s])/\Keep (fun b=>some b≠v.ownBlock) w w':=by
 obtain⟨qs,hq,ho,d⟩:=h;obtain⟨ab,cb,z⟩:=qj t;obtain⟨an,cn,R⟩:=qj X;obtain⟨v',w',hr,y,Y,g,cap,hv,hg,af⟩:=qc8 (P:=prog) q5o 205 ho [.int .i64 s.lit,x,vn] rfl (by rw [z,R];simp [Value.oneCell']) wC p;refine⟨v',w',hr,⟨qs++ [(s,x,vn)],by rw [zn,hq];rfl,by rw [zR,yG];simpa [qmb] using y,fun q l=>?_⟩,Y⟩;have c: ∀{e sz:Nat} {u:Value} {m:Nat} {xs:List Value},w.ownsRow base e sz u m xs->e≠211->w'.ownsRow base e sz u m xs:=fun r he=>qf r Y (fun b t e2=>by
  obtain⟨c1,t1⟩:=qa1 r t;obtain⟨c2,U⟩:=qa1 ho e2.symm;rw [t1]at U;cases U;exact he rfl)
 rcases zr.1 l with l |l
 ·exact⟨c (d q l).1 wF,c (d q l).2 wF⟩
 ·simp only [zm]at l;subst l;exact⟨c t wF,c X wF⟩
def qyj (base:Nat)(w:World)(vh vb vs:Value)(p:qtq):Prop:=RuleOwn base 64 60 w vh vb p.rule/\StepsOwn base w vs p.steps
def q6q (p:qtq)(vh vb vs:Value):Value:=.agg #[.string p.rule.head.pred,vh,vb,vs]
theorem qqu (base:Nat)(w:World):qyj base w (.slice none 0 0) (.slice none 0 0) (.slice none 0 0) qnu:=
 ⟨⟨zj _ _ _ _,[],rfl,zj _ _ _ _,wE⟩,StepsOwn.nil _ _⟩
theorem qyk (n:Nat):madeCells #[.bool false] n=((List.replicate n false).map Value.bool).toArray:=by
 apply Array.ext
 ·simp [madeCells]
 ·intro i c b;simp [madeCells,Nat.mod_one]
theorem q23:(prog.info? 4).map (fun i=>(i.zero,i.size,i.bytes))=some (some (.bool false),1,1):=wD
theorem qjk (n:Nat)(h:n<=1073741824)(u:World):(Instr.makeSlice 68 (.int .i64 (n:Int)) (.int .i64 (n:Int))).run prog u=
  .ok (.slice (some ⟨u.heap.size,0,none⟩) n n) (u.alloc (.cells (madeCells #[.bool false] n) 4)):=by
 obtain⟨e,hi,c,d,b⟩:=info_parts q23;have h:=run_make (P:=prog) u 68 4 e (.bool false) Tryz.underlying68 hi c .i64 .i64 (n:Int) (n:Int) wC (Int.le_refl _) (by rw [b];omega) wC
 simpa [d,Value.cells]using h
def qru (w:World)(a:Addr):Nat:=match w.cell? a with
 |some (.slice _ n _)=>n
 |_=>0
theorem qqv {w:World}{a:Addr}{b:Option Addr}{n c:Nat}(h:w.cell? a=some (.slice b n c)):qru w a=n:=by unfold qru;rw [h]
theorem qqw (K:List ByteArray)(ts:List TermD): ∀c,c∈qbx K ts->0<=c:=by
 intro c b;unfold qbx at b;obtain⟨p,_,rfl⟩:=yL.1 b;omega
theorem qxe {r:RuleD}(h:qaq r=true){L:LitD}(c:L∈r.body):L.kind=1∨L.kind=2∨L.kind=3:=by
 unfold qaq at h;rw [zV,zV,yM]at h;have:=h.2 L c;unfold qcq at this;by_cases b:L.kind=1∨L.kind=2
 ·omega
 ·rw [zF b]at this;by_cases d:L.kind=3
  ·omega
  ·rw [zF d]at this;cases this
theorem q5p (K:List ByteArray)(L:LitD)(i:Int):(qbo K L i).bound.length<=L.atom.args.length/\(qbo K L i).new.length<=L.atom.args.length/\ ∀c,c∈(qbo K L i).bound->0<=c:=by
 unfold qbo;split
 ·simp
 ·exact⟨ql8 _ _,ql9 _ _,qqw _ _⟩
theorem q5q (K:List ByteArray)(L:LitD)(i:Int):(qbo K L i).lit=i:=by unfold qbo;split<;>rfl
theorem SizesIn.wider {n c:Nat}{w:World}{v:Value}{ss:List qap}(h:SizesIn n w v ss)(b:n<=c):SizesIn c w v ss:=
 SliceIn.wider h b fun _ _ _ _ ⟨sv,h1,h2⟩=>⟨sv,h1,SliceIn.wider h2 b fun _ _ _ _ h=>h⟩
theorem q8z {a b:Nat}(d:a<=9094988921128908188)(c:b<=9094988921128908188):(FloatKind.f64.format.order a b==some .lt)=decide (a<b):=by
 have:FloatKind.f64.format.order a b=some (compare a b):=qt6 wC wC;rw [this];have e:compare a b=if a<b then .lt else if a=b then .eq else .gt:=rfl
 rw [e];rcases Nat.lt_trichotomy a b with h |h |h
 ·rw [zI h,zS h];rfl
 ·rw [zF (show ¬a<b from wC),zI h,zM wC];rfl
 ·rw [zF (show ¬a<b from wC),zF (show ¬a=b from wC),zM wC];rfl
theorem qz5 {K:List ByteArray}{rows:Nat}{sizes:List qap}{ls:List LitD}{tk:List Bool}{i:Nat}(b:(qbs K rows sizes ls tk i).2.2=false)(c:tk.getD i true=true):qbs K rows sizes ls tk (i+1)=qbs K rows sizes ls tk i:=by
 rw [show qbs K rows sizes ls tk (i+1)=_ from rfl];simp only [qbs,b,c,yj,zz,xA]
theorem q24 {K:List ByteArray}{rows:Nat}{sizes:List qap}{ls:List LitD}{tk:List Bool}{i:Nat}{x:LitD}(d:(qbs K rows sizes ls tk i).2.2=false)(e:tk.getD i true=false)(b:ls.getD i default=x)(c:x.kind≠1):
  qbs K rows sizes ls tk (i+1)=if qc7 K x then ((i:Int),(qbs K rows sizes ls tk i).2.1,true) else qbs K rows sizes ls tk i:=by
 rw [show qbs K rows sizes ls tk (i+1)=_ from rfl];simp only [qbs,d,e,b,c,ne_eq,not_false_eq_true,yj,zz,xA]
theorem q5r {K:List ByteArray}{rows:Nat}{sizes:List qap}{ls:List LitD}{tk:List Bool}{i:Nat}{x:LitD}(d:(qbs K rows sizes ls tk i).2.2=false)(e:tk.getD i true=false)(b:ls.getD i default=x)(c:x.kind=1):
  qbs K rows sizes ls tk (i+1)=if (qbs K rows sizes ls tk i).1<0∨qdf rows x (qbo K x i).bound sizes<(qbs K rows sizes ls tk i).2.1 then ((i:Int),qdf rows x (qbo K x i).bound sizes,false) else qbs K rows sizes ls tk i:=by
 rw [show qbs K rows sizes ls tk (i+1)=_ from rfl];simp only [qbs,d,e,b,c,ne_eq,not_true_eq_false,zz,xA]
theorem q5s (n:Nat)(r:RuleD)(sh sb:Value)(l:List qap)(sv:Value)(first:Int)(w:World)(hr:RuleIn n w sh sb r)(hl:SizesIn n w sv l)(hn:n<=w.heap.size):
  Calls prog 120 #[qam r sh sb,sv,.int .i64 first] w fun e w'=> ∃vh vb vs,e=.returned (.tuple #[q6q (qjr r l first).1 vh vb vs,.int .i64 (qjr r l first).2])/\qyj w.heap.size w' vh vb vs (qjr r l first).1/\Keep (fun b=>b<w.heap.size) w w':=by
 have aM:=qps hr;have hM:qjr r l first=if qeh r l (qa3 r first)≠0 then (qnu,qeh r l (qa3 r first)) else (⟨r,(qb3 r l first r.body.length).steps⟩,0):=rfl
 have an:=fun W (hK:Keep (fun b=>b<w.heap.size) w W)=>q2y n r sh sb l sv W (hr.keep (hK.mono fun b _ h=>wC)) (hl.keep (hK.mono fun b _ h=>wC)) (by have:=hK.size;omega);have ag:=fun W (hK:Keep (fun b=>b<w.heap.size) w W)=>qz3 n r sh sb W (hr.keep (hK.mono fun b _ h=>wC)) (by have:=hK.size;omega);obtain⟨hh,hb⟩:=id hr;obtain⟨⟨pr,args⟩,body⟩:=r;unfold qam at an ag⊢;simp only at hh hb aM an ag⊢;obtain⟨aa,ca,rfl,il,-,-⟩:=id hh;obtain⟨ab,cb,rfl,he,iy,eJ⟩:=id hb;obtain⟨fz,et,rfl,dK,-,-⟩:=id hl;obtain⟨N,hN⟩:=ex (w.heap.size);obtain⟨cB,dg⟩: ∃b,qa3 ⟨⟨pr,args⟩,body⟩ first=b:=⟨_,rfl⟩
 clear hh hb;refine hd9 ?_ hM an ag eJ hl aM dg hN hr;clear hM an ag eJ hl aM dg hN hr;intro ec bV bG bS fx fI ai q eR
 go_enter Tryz.func120,Tryz.ntmps120
 go_upto_region 1 with fail
 refine qk9 (fun W=>Keep (fun b=>b<w.heap.size) w W/\W.heap.size=w.heap.size+1+1/\W.heap[w.heap.size]?=some (.cells #[.string pr,.slice aa args.length ca,.slice ab body.length cb] 27 (0,0))/\
  W.heap[w.heap.size+1]?=some (.cells #[.string ⟨#[]⟩,.slice none 0 0,.slice none 0 0,.slice none 0 0] 207 (0,0))) ⟨kAl.trans kAl,wE,by simp only [qao,zO];simp,by simp only [qao,zO];simp⟩ ?_
 rintro W0 ⟨k0,z0,a1,a2⟩;rw [q.o]at k0 z0 a1 a2⊢;have c0:=qb a1 0 _ rfl;have c1:=qb a1 1 _ rfl;have c2:=qb a1 2 _ rfl;have r0:=qb a2 0 _ rfl;have r1:=qb a2 1 _ rfl;have r2:=qb a2 2 _ rfl;have r3:=qb a2 3 _ rfl;have f0:=qg a2 0;have f1:=qg a2 1;have f2:=qg a2 2;have f3:=qg a2 3;simp only [zD]at c0 c1 c2 r0 r1 r2 r3;have cH:N<W0.heap.size:=wC
 have b1:N+1<W0.heap.size:=wC
 refine hd3 ?_ k0 a1 a2;clear k0 a1 a2;intro bz gB fr
 go_cut [40] from 19 to 40 (fun c wx=>c=.bool cB/\wx=W0)
 case first=>
  have hB:=ai.o;unfold qa3 at hB;by_cases h1:first< -1
  ·rw [zS h1,Bool.true_or,Bool.true_or]at hB;subst hB;go_wp2_with fail
   go_meet
   exact⟨rfl,rfl⟩
  ·rw [zM h1,xJ]at hB;by_cases h2:(body.length:Int)<=first
   ·simp only [zS h2,Bool.true_or]at hB;subst hB;go_wp2_with fail
    go_meet
    exact⟨rfl,rfl⟩
   ·simp only [zM h2,xJ]at hB;by_cases h3:0<=first
    ·obtain⟨k,rfl⟩: ∃k:Nat,first=k:=⟨first.toNat,wC⟩
     rw [zS h3,yW,Int.toNat_natCast]at hB;obtain⟨x,hx⟩: ∃x,body[k]?=some x:=⟨_,zB wC⟩;obtain⟨b,o,rfl,i6,sa,aQ,ak⟩:=bS.o k x hx;have d0:=bz.o.cell (aQ 0 _ rfl) (show b<N by have:=q.o;omega);simp only [Nat.add_zero]at d0;have aH:b<W0.heap.size:=by have:=q.o;omega
     have aA:body.getD k default=x:=by rw [zJ,hx];rfl
     rw [aA]at hB;have eU:(x.kind !=1)=cB:=by rw [←hB];by_cases h:x.kind=1<;>simp [h]
     clear hB aQ ak hx aA;cases cB
     all_goals go_wp2_with fail
     all_goals go_meet
     all_goals exact⟨rfl,rfl⟩
    ·rw [zM h3,y8]at hB;subst hB;go_wp2_with fail
     go_meet
     exact⟨rfl,rfl⟩
 case rest=>
  obtain⟨rfl,bt⟩:=hcut;subst bt;cases cB
  ·have ad:=bV.o wc (bz.o.mono fun b _ h=>by have:=q.o;omega);obtain⟨ea,aL⟩: ∃e,qeh ⟨⟨pr,args⟩,body⟩ l false=e:=⟨_,rfl⟩;rw [aL]at ad;by_cases bJ:ea=0
   ·have a6:qjr ⟨⟨pr,args⟩,body⟩ l first=(⟨⟨⟨pr,args⟩,body⟩,(qb3 ⟨⟨pr,args⟩,body⟩ l first body.length).steps⟩,0):=by
     rw [ec.o,ai.o,aL,bJ];rfl
    have b5:qaq ⟨⟨pr,args⟩,body⟩=true/\qb6 l=true/\qej ⟨⟨pr,args⟩,body⟩=true:=by
     rw [bJ]at aL;unfold qeh at aL;cases h1:qaq ⟨⟨pr,args⟩,body⟩<;>cases h2:qb6 l<;>cases h3:qej ⟨⟨pr,args⟩,body⟩<;>rw [h1,h2,h3] at aL<;>first |exact⟨rfl,rfl,rfl⟩ |(exfalso;revert aL;decide)
    subst bJ;clear aL;refine hd3 ?_ a6 ad b5;clear a6 ad b5;intro aS cg R;go_wp2_with fail;refine cg.o.mono ?_;rintro e W1 ⟨rfl,k1⟩;have gV:=k1.size;have e0:=k1.cell c0 cH;have e1:=k1.cell c1 cH;have e2:=k1.cell c2 cH;have cM:N<W1.heap.size:=wC
    have eT:=bG.o W1 ((bz.o.trans (k1.mono fun b _ h=>wC)).mono fun b _ h=>by have:=q.o;omega);clear c0 c1 c2 r0 r1 r2 r3 f0 f1 f2 f3;refine hd2 ?_ k1 eT;clear k1 eT;intro cp eK;go_wp2_with fail;refine eK.o.mono ?_;rintro e W2 ⟨vh,vb,rfl,ho,k2⟩;have iS:=k2.size;have g0:=k2.cell e0 cM;have g1:=k2.cell e1 cM;have g2:=k2.cell e2 cM;have g3:N<W2.heap.size:=wC
    obtain⟨bH,bu,rfl⟩:=qj ho.1;obtain⟨bF,bs,rfl⟩: ∃a c,vb=.slice a body.length c:=by
     obtain⟨ps,iM,h,_⟩:=ho.2;exact qj h
    have gk:=fun w=>qo1 w;have g8:=fun u=>qjk body.length he u;clear e0 e1 e2;refine hd2 ?_ ho k2;clear ho k2;intro gy dM;go_wp2_with fail;refine qk9 (fun W=>Keep (fun b=>b<W2.heap.size) W2 W/\W.heap.size=W2.heap.size+1+1+1/\W.heap[W2.heap.size]?=some (.cells #[.string pr,.slice bH args.length bu,.slice bF body.length bs,.slice none 0 0] 207 (0,0))/\
     SetIn W (W2.heap.size+1) []/\W.heap[W2.heap.size+1+1]?=some (.cells ((List.replicate body.length false).map Value.bool).toArray 4 (0,0)))
     ⟨(kAl.trans kAl).trans kAl,wE,by simp only [qao,zO];simp;omega,by
      refine(SetIn.keep (w:=(W2.alloc (.cells #[.string pr,.slice bH args.length bu,.slice bF body.length bs,.slice none 0 0] 207)).alloc (.map #[] 0)) ?_ (Keep.alloc (fun _=>True) _ _) wH);have:=qm9 (W2.alloc (.cells #[.string pr,.slice bH args.length bu,.slice bF body.length bs,.slice none 0 0] 207))
      simpa using this,by rw [qyk];simp only [qao,zO];simp⟩ ?_
    rintro W3 ⟨k3,z3,p1,s1,t1⟩;clear gk g8 g0 g1 g2;have b2:W2.heap[N]?=some (.cells #[.string pr,.slice aa args.length ca,.slice ab body.length cb] 27 (0,0)):=dM.o.heap (cp.o.heap gB.o cH) cM;have b3:W2.heap[N+1]?=some (.cells #[.string ⟨#[]⟩,.slice none 0 0,.slice none 0 0,.slice none 0 0] 207 (0,0)):=dM.o.heap (cp.o.heap fr.o b1) wC;have a3:=k3.heap b2 g3;have a4:=k3.heap b3 (show N+1<W2.heap.size from wC);have e4:Keep (fun b=>b<N) w W3:=((bz.o.trans (cp.o.mono fun b _ h=>wC)).trans (dM.o.mono fun b _ h=>wC)).trans (k3.mono fun b _ h=>wC);obtain⟨P,hP⟩:=ex (W2.heap.size);rw [hP]at z3 p1 s1 t1⊢;have io:N+1<P:=wC
    have hR:W1.heap.size<=P:=wC
    have iA:W1.heap.size≥N:=wC
    clear b2 b3;refine hd8 ?_ p1 s1 t1 a3 a4 e4 k3 hP;clear p1 s1 t1 a3 a4 e4 k3 hP;intro hf gT gg hc gG e7 gA gU
    go_loopw [12] (fun gW wr=> ∃(j:Nat) (vs:Value),j<=body.length/\gW=.float .f64 (qb3 ⟨⟨pr,args⟩,body⟩ l first j).rows/\Keep (fun b=>b<P) W3 wr/\
     wr.heap[P]?=some (.cells #[.string pr,.slice bH args.length bu,.slice bF body.length bs,vs] 207 (0,0))/\SetIn wr (P+1) (qb3 ⟨⟨pr,args⟩,body⟩ l first j).K/\
     wr.heap[P+1+1]?=some (.cells ((qb3 ⟨⟨pr,args⟩,body⟩ l first j).taken.map Value.bool).toArray 4 (0,0))/\StepsOwn (P+1+1+1) wr vs (qb3 ⟨⟨pr,args⟩,body⟩ l first j).steps/\P+1+1+1<=wr.heap.size) (fun _ wr=>body.length-qru wr ⟨P,3,none⟩)
    case atStart=>exact⟨0,_,wC,rfl,Keep.refl _ _,hf.o,gT.o,gg.o,StepsOwn.nil _ _,wC⟩
    case round=>
     obtain⟨j,vs,hj,rfl,hK,aD,hS,hT,bQ,ij⟩:=hrel;have aX:=qoi (first:=first) R.o.2.1 R.o.2.2 ai.o j hj;obtain⟨cG,cN,rfl⟩:=bQ.form;rw [aX.stp]at aD;have jd:(0:Int)<=j:=wC
     have x3:=qb aD 3 _ rfl;have a5:=hK.heap hc.o (show N<P from wC);have c0:=qb a5 0 _ rfl;have c1:=qb a5 1 _ rfl;have c2:=qb a5 2 _ rfl;simp only [zD]at x3 c0 c1 c2;have iU:=qe aD;have iE:N<wr.heap.size:=wC
     have kw:Keep (fun b=>b<N) w wr:=e7.o.trans (hK.mono fun b _ h=>wC);have U:=aX.stp;obtain⟨s,hs⟩:=ex (qb3 ⟨⟨pr,args⟩,body⟩ l first j);rw [hs]at hS hT bQ aX U⊢;by_cases gq:j<body.length
     ·have hU:(j:Int)<body.length:=by omega
      have gK:=qi6 (sizes:=l) R.o.2.2 ai.o gq aX (fun h=>by subst h;rw [←hs];rfl);obtain⟨X,dh,b0,dw,dt⟩:=gK;clear a5;refine qhv ?_ hK aD hS hT bQ aX kw hs U dh dw dt;clear hK aD hS hT bQ aX kw hs U dh dw dt;intro fs b9 cI d4 cn ay a9 dL z a7 gs g6
      go_upto_region 12 with fail
      go_cut [72] from 57 to 136 (fun c wx=>c=.bool (decide (0<j∨first<0))/\wx=wr)
      case first=>
       by_cases gm:0<j
       ·have i1:0<(j:Int):=by omega
        have ck:decide (0<j∨first<0)=true:=zS (.inl gm);refine hd1 ?_ ck;clear ck;intro cy;go_wp2_with fail
        go_meet
        exact⟨by rw [cy.o],rfl⟩
       ·obtain rfl:j=0:=by omega
        have ck:decide (0<0∨first<0)=decide (first<0):=by rw [yl];omega
        refine hd1 ?_ ck;clear ck;intro cy;go_wp2_with fail
        go_meet
        exact⟨by rw [cy.o],rfl⟩
      case rest=>
       obtain⟨rfl,bt⟩:=hcut;have bt:=bt.symm;subst bt;obtain⟨bc,dJ⟩: ∃b,decide (0<j∨first<0)=b:=⟨_,rfl⟩;rw [dJ];refine hd1 ?_ dJ;clear dJ;intro cT;obtain⟨Wo,gJ⟩: ∃W,W=wr:=⟨_,rfl⟩;subst gJ
       go_upto_if 72 with fail
       go_cut [13,14,15,16,17] from 57 to 136 (fun c iD iQ i9 i8 wx=>c=.int .i64 (X:Int)/\wG Wo wx)
       case first=>
        cases bc
        ·have gY:first=(X:Int):=by
          have h1:=a7.o;unfold qhf at h1
          rwa [zF (xV cT.o)] at h1
         subst gY;go_wp2_with fail
         go_meet
         exact⟨rfl,Keep.refl _ _⟩
        ·have eD:(qbs s.K s.rows l body s.taken body.length).1=(X:Int):=by
          have h1:=a7.o;unfold qhf at h1;rw [zI (yE cT.o)]at h1;exact h1
         have br:=fun(i:Nat) (x:LitD) (hx:body[i]?=some x) sa (ak:qai n w sa x.atom.args) W (hK:wG Wo W)=>qsp n (P+1) s.K x sa W (cI.o.keep hK wH) (qak ak (a9.o.trans hK.mt |>.mono fun b _ h=>by have:=q.o;omega)) (by have:=hK.size;have:=q.o;omega);have aJ:=fun(i:Nat) (x:LitD) (hx:body[i]?=some x) W (hK:wG Wo W)=>qpp n (P+1) s.K ⟨⟨pr,args⟩,body⟩ (.slice aa args.length ca) (.slice ab body.length cb) i x hx W (cI.o.keep hK wH) (eR.o.keep (a9.o.trans hK.mt |>.mono fun b _ h=>by have:=q.o;omega)) (by have:=hK.size;have:=q.o;omega);have cV:=fun(x:LitD) (ad:x.kind=1) sa (ak: ∃y m c,sa=.slice y m c) (st:qds) (hpos: ∀c,c∈st.bound->0<=c) bv nv W (hK:wG Wo W) (hnv: ∃y m c,nv=.slice y m c) (hb:qat W.heap.size W bv st.bound)=>
          qqe W.heap.size s.rows ay.o.row x sa st bv nv l (.slice fz l.length et) R.o.2.1 hpos (.inl ad) W ak hnv (SizesIn.wider (fx.o.keep (a9.o.trans hK.mt |>.mono fun b _ h=>by have:=q.o;omega)) (by have:=hK.size;have:=q.o;omega)) hb (zG _)
         unfold qam at aJ;simp only at aJ;have dK:=fun i=>qz4 (K:=s.K) ay.o.row R.o.2.1 (ls:=body) (tk:=s.taken) i;refine hd5 ?_ eD br aJ cV dK;clear eD br aJ cV dK;intro c3 ce cA dP ft;go_wp2_with fail
         go_step3
         go_wp2_with fail
         go_step3
         go_wp2_with fail
         go_loopw [13,14,76] (fun gh gw gp wq=> ∃i:Nat,i<=body.length/\gp=.int .i64 (i:Int)/\gh=.int .i64 (qbs s.K s.rows l body s.taken i).1/\gw=.float .f64 (qbs s.K s.rows l body s.taken i).2.1/\(qbs s.K s.rows l body s.taken i).2.2=false/\wG Wo wq) (fun _ _ i _=>body.length-(intOf i).toNat)
         case atStart=>exact⟨0,wC,rfl,rfl,rfl,rfl,Keep.refl _ _⟩
         case round=>
          obtain⟨i,hi,rfl,rfl,rfl,ae,Y⟩:=hrel;have jc:=Y.size;have je:N<wr.heap.size:=wC
          have d0:=Y.cell c0 trivial;have d1:=Y.cell c1 trivial;have d2:=Y.cell c2 trivial;have cC:=Y.heap d4.o trivial;by_cases dy:i<body.length
          ·have g7:(i:Int)<body.length:=by omega
           have iC:(0:Int)<=i:=wC
           obtain⟨x,hx⟩: ∃x,body[i]?=some x:=⟨_,zB dy⟩;obtain⟨b,o,rfl,hb,sa,aQ,ak⟩:=bS.o i x hx;obtain⟨tb,am⟩: ∃t,s.taken.getD i true=t:=⟨_,rfl⟩;have ew:wr.cell? ⟨P+1+1,i,none⟩=some (.bool tb):=by
            have aG:i<s.taken.length:=by rw [ay.o.len];exact dy
            have:=qb cC i (.bool tb) (by rw [zP,zB aG,←am,zJ,zB aG];rfl)
            rwa [zD] at this
           have gr:=qe cC;have aA:body.getD i default=x:=by rw [zJ,hx];rfl
           have bW:=ce.o i x hx sa ak;have aw:=cA.o i x hx;have aC:=fun ad=>dP.o x ad sa;obtain⟨aP,aR,rfl,gQ,-,-⟩:=id ak;have fK:Keep (fun b=>b<N) w wr:=a9.o.trans Y.mt;have g: ∀j v,(qal x (.slice aP x.atom.args.length aR))[j]?=some v->wr.cell? ⟨b,o+i*7+j,none⟩=some v:=fun j v h=>fK.cell (aQ j v h) (show b<N by have:=q.o;omega);have m0:=g 0 _ rfl;have m1:=g 1 _ rfl;have m2:=g 2 _ rfl;have m3:=g 3 _ rfl;have m4:=g 4 _ rfl;have m5:=g 5 _ rfl;have m6:=g 6 _ rfl;simp only [Nat.add_zero]at m0;have aH:b<wr.heap.size:=by have:=q.o;omega
           obtain⟨W5,aF⟩:=ex (wr.alloc (.cells #[.int .i64 x.kind,.string x.atom.pred,.slice aP x.atom.args.length aR,.bool x.left.var,.string x.left.text,.bool x.right.var,.string x.right.text] 64));have k5:wG wr W5:=by rw [←aF];exact kAl
           have aE:=Y.trans k5;have iz:=k5.size;have aO:W5.heap[wr.heap.size]?=some (.cells #[.int .i64 x.kind,.string x.atom.pred,.slice aP x.atom.args.length aR,.bool x.left.var,.string x.left.text,.bool x.right.var,.string x.right.text] 64 (0,0)):=by rw [←aF];exact qh _ _
           have iL:=qe aO;have q0:=qb aO 0 _ rfl;have q1:=qb aO 1 _ rfl;have q2:=qb aO 2 _ rfl;have q3:=qb aO 3 _ rfl;have q4:=qb aO 4 _ rfl;have q5:=qb aO 5 _ rfl;have q6:=qb aO 6 _ rfl;simp only [zD]at q0 q1 q2 q3 q4 q5 q6;have e0:=k5.cell d0 trivial;have e1:=k5.cell d1 trivial;have e2:=k5.cell d2 trivial;unfold qew at bW aC;clear g aQ ak cC aO fK;cases tb
           ·by_cases ad:x.kind=1
            ·have d:=q5r (sizes:=l) (rows:=s.rows) ae am aA ad;have eO:(qbo s.K x i).bound=qbx s.K x.atom.args:=by unfold qbo;rw [zF wC]
             have fB:(qbo s.K x i).new=qcf s.K x.atom.args:=by unfold qbo;rw [zF wC]
             have bo:=aw W5.drew (aE.trans kDr);have hV:=ql8 s.K x.atom.args;have hC:=ql9 s.K x.atom.args;have aY:=aC ad ⟨_,_,_,rfl⟩ ⟨(i:Int),qbx s.K x.atom.args,qcf s.K x.atom.args⟩ (qqw _ _);unfold qks at aY;simp only at aY;have es:=qm5 ay.o.row x (qbx s.K x.atom.args) R.o.2.1;rw [eO]at d bo;rw [fB]at bo;have eU:(x.kind !=1)=false:=by simp [ad]
             obtain⟨nb,dk⟩:=ex (qdf s.rows x (qbx s.K x.atom.args) l);simp only [dk]at d aY es;have c8:=ft.o i;obtain⟨bi,cP⟩:=ex ((qbs s.K s.rows l body s.taken i).1);obtain⟨li,b8⟩:=ex ((qbs s.K s.rows l body s.taken i).2.1);rw [cP,b8]at d;rw [b8]at c8;rw [cP,b8];have cZ:=q8z es c8;clear ad aA hx bW aw aC eO fB dk;refine qhv ?_ d ae Y bo aY am aF k5 aE cP b8 cZ;clear d ae Y bo aY am aF k5 aE cP b8 cZ;intro p ao aU dI d8 cl ap d7 aj eL fv au;go_wp2_with fail;rw [ap.o]
             go_region_held3 (fun W=>W.cell? ⟨wr.heap.size,0,none⟩=some (.int .i64 x.kind)/\W.cell? ⟨wr.heap.size,1,none⟩=some (.string x.atom.pred)/\W.cell? ⟨wr.heap.size,2,none⟩=some (.slice aP x.atom.args.length aR)/\W.cell? ⟨wr.heap.size,3,none⟩=some (.bool x.left.var)/\W.cell? ⟨wr.heap.size,4,none⟩=some (.string x.left.text)/\W.cell? ⟨wr.heap.size,5,none⟩=some (.bool x.right.var)/\W.cell? ⟨wr.heap.size,6,none⟩=some (.string x.right.text)/\
       W.cell? ⟨N,0,none⟩=some (.string pr)/\W.cell? ⟨N,1,none⟩=some (.slice aa args.length ca)/\W.cell? ⟨N,2,none⟩=some (.slice (some ⟨b,o,none⟩) body.length cb))
              (first |(refine⟨?_,?_,?_,?_,?_,?_,?_,?_,?_,?_⟩<;>assumption) |go_keep)
              (first
               |(go_at_call 149;refine dI.o.mono ?_;rintro e w1 ⟨vb,vn,rfl,ob,on,hq⟩;have eQ:=hq.cell q0 (by simp;omega);have eo:=hq.cell q1 (by simp;omega);have fL:=hq.cell q2 (by simp;omega);have ff:=hq.cell q3 (by simp;omega);have e5:=hq.cell q4 (by simp;omega);have eZ:=hq.cell q5 (by simp;omega);have fd:=hq.cell q6 (by simp;omega);have fc:=hq.cell e0 (by simp;omega);have fO:=hq.cell e1 (by simp;omega);have dW:=hq.cell e2 (by simp;omega);have zq:=hq.size;simp only [World.size_drew] at zq;clear q0 q1 q2 q3 q4 q5 q6 e0 e1 e2)
               |(go_at_call 148;refine(d8.o vb vn w1 ((aj.o.trans kDr).trans (hq.mono fun b hb _=>hb)) (by obtain⟨ax,cx,hx⟩:=qj on;exact⟨_,_,_,hx⟩) (qen ob wC)).mono ?_;rintro e w2 ⟨rfl,hp⟩;have fo:=hp.cell eQ (by simp;omega);have fj:=hp.cell eo (by simp;omega);have ez:=hp.cell fL (by simp;omega);have eB:=hp.cell ff (by simp;omega);have eC:=hp.cell e5 (by simp;omega);have eH:=hp.cell eZ (by simp;omega);have e9:=hp.cell fd (by simp;omega);have ep:=hp.cell fc (by simp;omega);have fM:=hp.cell fO (by simp;omega);have fy:=hp.cell dW (by simp;omega);have zp:=hp.size;clear eQ eo fL ff e5 eZ fd fc fO dW))
             have fk:wG Wo w2:=((aj.o.trans kDr).trans (hq.mono fun b hb _=>hb)).trans (hp.mono fun b hb _=>hb);have d:=p.o;clear hq hp ob on fo fj ez eB eC eH e9 ep fM fy p m0 m1 m2 m3 m4 m5 m6 d0 d1 d2;refine hd1 ?_ fk;clear fk;intro b7;by_cases eA:bi<0
             ·rw [zI (.inl eA)]at d;clear au;refine hd1 ?_ d;clear d;intro p;go_wp2_with fail;go_roundw
              case rel=>exact⟨i+1,wC,by go_num,by rw [p.o],by rw [p.o],by rw [p.o],b7.o⟩
              case measure=>simp [intOf];omega
             ·by_cases bO:nb<li
              ·rw [zI (.inr bO)]at d;have aG:=au.o;rw [zS bO]at aG;clear au bO;refine hd1 ?_ d;clear d;intro p;go_wp2_with fail;go_roundw
               case rel=>exact⟨i+1,wC,by go_num,by rw [p.o],by rw [p.o],by rw [p.o],b7.o⟩
               case measure=>simp [intOf];omega
              ·rw [zF (fun h=>h.elim eA bO)]at d;have aG:=au.o;rw [zM bO]at aG;clear au bO;refine hd1 ?_ d;clear d;intro p;go_wp2_with fail;go_roundw
               case rel=>exact⟨i+1,wC,by go_num,by rw [p.o,eL.o],by rw [p.o,fv.o],by rw [p.o];exact ao.o,b7.o⟩
               case measure=>simp [intOf];omega
            ·have d:=q24 (sizes:=l) ae am aA ad;have eU:(x.kind !=1)=true:=bne_iff_ne.2 ad;have a0:=bW W5 aE;obtain⟨rb,cu⟩: ∃b,qc7 s.K x=b:=⟨_,rfl⟩;rw [cu]at d a0;clear ad aA hx bW aw aC;cases rb
             ·simp only [zz,xA]at d;rw [←d];rw [←d]at ae;refine hd9 ?_ d ae Y a0 cu am aF k5 aE;clear d ae Y a0 cu am aF k5 aE;intro p ao aU ba fl cl ap d7 aj;go_wp2_with fail;rw [ap.o];refine ba.o.mono ?_;rintro e W6 ⟨rfl,k6⟩;go_wp2_with fail;go_roundw
              case rel=>exact⟨i+1,wC,by go_num,rfl,rfl,ao.o,aj.o.trans (k6.mono fun b hb _=>hb)⟩
              case measure=>simp [intOf];omega
             ·simp only [yj]at d;have aT:(i:Int)=(X:Int):=by
               have h1:=q2z (i:=i+1) (K:=s.K) (rows:=s.rows) (sizes:=l) (ls:=body) (tk:=s.taken) (by rw [d]) body.length wC;rw [←c3.o,h1,d]
              refine qdz ?_ d ae Y a0 cu am aF k5 aE aT;clear d ae Y a0 cu am aF k5 aE aT;intro p ao aU ba fl cl ap d7 aj bf;go_wp2_with fail;rw [ap.o];refine ba.o.mono ?_;rintro e W6 ⟨rfl,k6⟩;go_wp2_with fail;refine Met.intro ?_
              go_step
              go_meet
              exact⟨by rw [bf.o],aj.o.trans (k6.mono fun b hb _=>hb)⟩
           ·have d:=qz5 (rows:=s.rows) (sizes:=l) (ls:=body) ae am;rw [←d];rw [←d]at ae;clear aA hx bW aw aC;refine hd7 ?_ d ae Y am aF k5 aE;clear d ae Y am aF k5 aE;intro p ao aU cl ap d7 aj;go_wp2_with fail;rw [ap.o];go_roundw
            case rel=>exact⟨i+1,wC,by go_num,rfl,rfl,ao.o,aj.o⟩
            case measure=>simp [intOf];omega
          ·obtain rfl:i=body.length:=by omega
           have aT:=c3.o;clear cC;refine hd3 ?_ ae Y aT;clear ae Y aT;intro ao aU bf;go_wp2_with fail;refine Met.intro ?_
           go_step
           go_meet
           exact⟨by rw [bf.o],aU.o⟩
       case rest=>
        obtain⟨rfl,al⟩:=hcut;clear bt;have i4:=al.size;have gP:N<wc.heap.size:=wC
        have d0:=al.cell c0 trivial;have d1:=al.cell c1 trivial;have d2:=al.cell c2 trivial;have fm:=al.heap d4.o trivial;have fP:=al.heap b9.o trivial;have dY:=cI.o.keep al trivial;have dj:=cn.o.keep al (fun _ _ _ _ _ _=>wH);have cO:Keep (fun b=>b<N) w wc:=a9.o.trans al.mt;have eN:Keep (fun b=>b<P) W3 wc:=fs.o.trans al.mt;obtain⟨x,hx⟩: ∃x,body[X]?=some x:=⟨_,zB b0⟩;obtain⟨b,o,rfl,hb,sa,aQ,ak⟩:=bS.o X x hx;have aw:=qpp n (P+1) s.K ⟨⟨pr,args⟩,body⟩ (.slice aa args.length ca) (.slice (some ⟨b,o,none⟩) body.length cb) X x hx wc dY (eR.o.keep (cO.mono fun b _ h=>by have:=q.o;omega)) (by have:=q.o;omega);unfold qam at aw;simp only at aw;have aA:body.getD X default=x:=by rw [zJ,hx];rfl
        have fJ:=qxe R.o.1 (zH hx);obtain⟨c4,dx,bl⟩:=q5p s.K x X;have bg:=q5q s.K x X;obtain⟨st,b6⟩:=ex (qbo s.K x X);rw [b6]at aw c4 dx bl bg;obtain⟨hW,av,aq⟩:=st;simp only at aw c4 dx bl bg;subst bg;obtain⟨aP,aR,rfl,gQ,-,-⟩:=id ak;have g: ∀j v,(qal x (.slice aP x.atom.args.length aR))[j]?=some v->wc.cell? ⟨b,o+X*7+j,none⟩=some v:=fun j v h=>cO.cell (aQ j v h) (show b<N by have:=q.o;omega);have m0:=g 0 _ rfl;have m1:=g 1 _ rfl;have m2:=g 2 _ rfl;have m3:=g 3 _ rfl;have m4:=g 4 _ rfl;have m5:=g 5 _ rfl;have m6:=g 6 _ rfl;simp only [Nat.add_zero]at m0;have aH:b<wc.heap.size:=by have:=q.o;omega
        have ir:b<N:=by have:=q.o;omega
        have hI:(X:Int)<body.length:=by have:=b0;simp only at this;omega
        have hw:(0:Int)<=X:=wC
        clear g aQ ak hx c0 c1 c2 x3;refine qhv ?_ al fm fP dY dj cO eN aw aA fJ b6 bl;clear al fm fP dY dj cO eN aw aA fJ b6 bl;intro h8 dv c9 c6 dT eS fV fC fg er dX dA;go_wp2_with fail;refine fC.o.mono ?_;rintro e W6 ⟨vb,vn,rfl,ob,on,k6⟩;have iP:=k6.size;obtain⟨cc,bU,rfl⟩:=qj ob;obtain⟨cm,co,rfl⟩:=qj on;obtain⟨W7,ci⟩:=ex (W6.alloc (.cells #[.int .i64 (X:Int),.slice cc av.length bU,.slice cm aq.length co] 211));have k7:wG W6 W7:=by rw [←ci];exact kAl
        have z7:W7.heap.size=W6.heap.size+1:=by rw [←ci];simp
        have bD:=qh W6 (.cells #[.int .i64 (X:Int),.slice cc av.length bU,.slice cm aq.length co] 211);rw [ci]at bD;obtain⟨D,hD⟩:=ex (W6.heap.size);have az:Keep (fun b=>b<wc.heap.size) wc W7:=k6.trans k7.mt;have hy:N<W7.heap.size:=wC
        have e2:=az.cell d2 gP;have n0:=az.cell m0 aH;have n1:=az.cell m1 aH;have n2:=az.cell m2 aH;have n3:=az.cell m3 aH;have n4:=az.cell m4 aH;have n5:=az.cell m5 aH;have n6:=az.cell m6 aH;have eb:=qf ob k7 (fun _ _=>wH);have fG:=qf on k7 (fun _ _=>wH);rw [hD]at bD z7;have p0:=qb bD 0 _ rfl;have p1:=qb bD 1 _ rfl;have p2:=qb bD 2 _ rfl;simp only [zD]at p0 p1 p2;have fN:D<W7.heap.size:=wC
        have hm:b<W7.heap.size:=wC
        have iY:wc.heap.size<=D:=wC
        have dR:Keep (fun b=>b<N) w W7:=eS.o.trans (az.mono fun b _ h=>wC);have aC:=qqe W7.drew.heap.size s.rows ay.o.row x (.slice aP x.atom.args.length aR) ⟨(X:Int),av,aq⟩ (.slice cc av.length bU) (.slice cm aq.length co) l (.slice fz l.length et) R.o.2.1 dA.o er.o W7.drew ⟨_,_,_,rfl⟩ ⟨_,_,_,rfl⟩
         (SizesIn.wider (fx.o.keep ((dR.trans kDr).mono fun b _ h=>by have:=q.o;omega)) (by have:=q.o;simp;omega)) (qen (qf eb (Keep.drew (fun _=>True) _) (fun _ _=>wH)) (by simp only;omega)) (zG _)
        unfold qew qks at aC;simp only at aC;clear k6 k7 ob on d0 d1 d2 m0 m1 m2 m3 m4 m5 m6;refine hd8 ?_ ci hD bD az eb fG dR aC;clear ci hD bD az eb fG dR aC;intro fn gj gz eI di db h7 fD;go_wp2_with fail;rw [fn.o,gj.o]
        go_region_held3 (fun W=>W.cell? ⟨b,o+X*7,none⟩=some (.int .i64 x.kind)/\W.cell? ⟨b,o+X*7+1,none⟩=some (.string x.atom.pred)/\W.cell? ⟨b,o+X*7+2,none⟩=some (.slice aP x.atom.args.length aR)/\W.cell? ⟨b,o+X*7+3,none⟩=some (.bool x.left.var)/\W.cell? ⟨b,o+X*7+4,none⟩=some (.string x.left.text)/\W.cell? ⟨b,o+X*7+5,none⟩=some (.bool x.right.var)/\W.cell? ⟨b,o+X*7+6,none⟩=some (.string x.right.text)/\
       W.cell? ⟨D,0,none⟩=some (.int .i64 (X:Int))/\W.cell? ⟨D,1,none⟩=some (.slice cc av.length bU)/\W.cell? ⟨D,2,none⟩=some (.slice cm aq.length co)/\W.cell? ⟨N,2,none⟩=some (.slice (some ⟨b,o,none⟩) body.length cb))
         (first |(refine⟨?_,?_,?_,?_,?_,?_,?_,?_,?_,?_,?_⟩<;>assumption) |go_keep)
         ((go_at_call 148;refine fD.o.mono ?_;rintro e w2 ⟨rfl,hp⟩;have iv:=hp.cell n0 (by simp;omega);have iR:=hp.cell n1 (by simp;omega);have ix:=hp.cell n2 (by simp;omega);have iO:=hp.cell n3 (by simp;omega);have iX:=hp.cell n4 (by simp;omega);have iq:=hp.cell n5 (by simp;omega);have iK:=hp.cell n6 (by simp;omega);have ip:=hp.cell p0 (by simp;omega);have ii:=hp.cell p1 (by simp;omega);have iI:=hp.cell p2 (by simp;omega);have dW:=hp.cell e2 (by simp;omega);have zp:=hp.size;simp only [World.size_drew] at zp;clear n0 n1 n2 n3 n4 n5 n6 e2))
        have ch:Keep (fun b=>b<W7.heap.size) W7 w2:=kDr.trans (hp.mono fun b _ h=>h);have bM:Keep (fun b=>b<wc.heap.size) wc w2:=eI.o.trans (ch.mono fun b _ h=>wC);have ct:=bM.heap dv.o (by have:=qe dv.o;exact this);have eM:=bM.heap c9.o (by have:=qe c9.o;exact this);have fp:=c6.o.keep bM (by have:=c6.o.lt;exact this);have cX:=dT.o.keep bM (fun b cs t _ h _=>qe h);have dU:=(qf di.o ch (fun b hb=>(zE di.o b hb).2)).mono (show P+1+1+1<=wc.heap.size from wC);have d6:=(qf db.o ch (fun b hb=>(zE db.o b hb).2)).mono (show P+1+1+1<=wc.heap.size from wC);have eG:=ch.heap gz.o fN;have ey:Keep (fun b=>b<P) W3 w2:=fV.o.trans (bM.mono fun b _ h=>wC);have gO:X<(s.taken.map Value.bool).length:=by rw [zL,ay.o.len];exact b0
        have ew:=qb ct X _ (zB gO);have iT:=qg ct X;rw [zD]at ew;have gr:=qe ct;obtain⟨W9,cq⟩:=ex (w2.setCell ⟨P+1+1,X,none⟩ (.bool true));have k9:Keep (fun b=>b≠P+1+1) w2 W9:=by rw [←cq];exact kSc
        have z9:W9.heap.size=w2.heap.size:=by rw [←cq];simp [World.setCell]
        have cL:=qag X (.bool true) ct;rw [cq]at cL;have bd:(s.taken.map Value.bool).toArray.setIfInBounds X (.bool true)=((s.taken.set X true).map Value.bool).toArray:=by
         rw [yK,map_set]
        rw [bd]at cL;have d3:=k9.heap eM wC;have dB:=fp.keep k9 wC;have du:=cX.keep k9 (fun b cs t h _ _=>wC);have eY:=qf dU k9 (fun b hb=>by have:=(zE dU b hb).1;omega);have d9:=qf d6 k9 (fun b hb=>by have:=(zE d6 b hb).1;omega);have bP:=k9.heap eG wC;have fh:Keep (fun b=>b<P) W3 W9:=ey.trans (k9.mono fun b _ h=>wC);clear hp ch bM ct eM fp cX dU d6 eG ey p0 p1 p2 k9;have bn:=qsr W9.heap.size (P+1) s.K ⟨(X:Int),av,aq⟩ (.slice cc av.length bU) (.slice cm aq.length co) W9 dB (qbq d9 (by simp only;omega)) (zG _);unfold qks at bn;simp only at bn;have u0:=qb bP 0 _ rfl;have fA:=qb bP 1 _ rfl;have fF:=qb bP 2 _ rfl;simp only [zD]at u0 fA fF;have h0:=qe bP;have hv:=qe d3;clear fN;refine qhu ?_ cL d3 dB du eY d9 bP fh cq bd bn;clear cL d3 dB du eY d9 bP fh cq bd bn;intro fR eu hk dC dq cR fq fa eV gf dS;go_wp2_with fail;rw [eV.o];go_wp2_with fail;refine dS.o.mono ?_;rintro e fw ⟨rfl,df,aI⟩;have hu:=aI.size;have bp:=aI.heap eu.o wC;have dn:=aI.heap fR.o wC;have cv:=dC.o.keep aI (fun b cs t h _ _=>wC);have dm:=qf dq.o aI (fun b hb=>by have:=(zE dq.o b hb).1;omega);have cQ:=qf cR.o aI (fun b hb=>by have:=(zE cR.o b hb).1;omega);have aW:=aI.heap fq.o wC;have dd:Keep (fun b=>b<P) W3 fw:=fa.o.trans (aI.mono fun b _ h=>wC);obtain⟨v',cK,bm,bb,bx⟩:=cv.snoc ⟨(X:Int),av,aq⟩ _ _ dm cQ (by rw [z.o];omega) wC;obtain⟨hL,_,bj,_⟩:=cv;have ar: ∀b,some b=Value.ownBlock (.slice cG s.steps.length cN)->P+1+1+1<=b:=fun b hb=>(zE bj b hb.symm).1;have aV:=bx.heap bp (fun e=>by have:=ar _ e;omega);have dp:=bx.heap dn (fun e=>by have:=ar _ e;omega);have cS:=df.keep bx (fun e=>by have:=ar _ e;omega);have de:Keep (fun b=>b<P) W3 cK:=dd.trans (bx.mono fun b _ h e=>by have:=ar _ e;omega)
        obtain⟨cr,cd,rfl⟩:=bb.form;have aK:(s.steps++ [(⟨(X:Int),av,aq⟩:qds)]).length=j+1:=by rw [zR,z.o];rfl
        rw [aK]at bm;rw [z.o]at bm;have t0:=qb aV 3 _ rfl;have iN:=qg aV 3;have t1:=qb bp 3 _ rfl;have v0:=qb aW 0 _ rfl;have v1:=qb aW 1 _ rfl;have v2:=qb aW 2 _ rfl;simp only [zD]at t0 t1 v0 v1 v2;have gx:=qe aW;have gE:=qe bp;have g5:=qe aV;obtain⟨fu,bk⟩:=ex (cK.setCell ⟨P,3,none⟩ (.slice cr (j+1) cd));have bw:Keep (fun b=>b≠P) cK fu:=by rw [←bk];exact kSc
        have hX:=bw.size;have h5:=bx.size;have aZ:=qag 3 (.slice cr (j+1) cd) aV;rw [bk]at aZ;simp only [yK,set_cons_succ,set_cons_zero]at aZ;have cW:=bw.heap dp wC;have dr:=cS.keep bw wC;have a8:=bb.keep bw (fun b cs t h _ _=>wC);rw [aK]at a8;have ds:Keep (fun b=>b<P) W3 fu:=de.trans (bw.mono fun b _ h=>wC);have fS:qb3 ⟨⟨pr,args⟩,body⟩ l first (j+1)=⟨qdi s.K aq,s.taken.set X true,qdf s.rows x av l,s.steps++ [⟨(X:Int),av,aq⟩]⟩:=by
         show qik ⟨⟨pr,args⟩,body⟩ l (qhf ⟨⟨pr,args⟩,body⟩ l first j (qb3 ⟨⟨pr,args⟩,body⟩ l first j)) (qb3 ⟨⟨pr,args⟩,body⟩ l first j)=_;rw [dL.o,a7.o];unfold qik;simp only [Int.toNat_natCast];rw [fg.o,dX.o]
        have cw:=qqv (qb aZ 3 _ rfl);rw [zD]at cw;have dO:=qqv (qb b9.o 3 _ rfl);rw [zD]at dO;clear bp dn df bb dm cQ aW dd bx bj ar aV dp cS de bw aI u0 fA fF aK;refine qdz ?_ bm bk aZ cW dr a8 ds fS cw dO;clear bm bk aZ cW dr a8 ds fS cw dO;intro dD dG dQ dV dz cD ed bq dZ e3;go_wp2_with (at_builtin;refine qbu (v:=.slice cG j cN) (u:=.slice (some ⟨fw.heap.size,0,none⟩) 1 1) (v':=.slice cr (j+1) cd) (w':=cK) rfl (.tmp 132) (.tmp 134) 205 rfl rfl rfl dD.o ?_);rw [dG.o];refine⟨⟨j+1,_,wC,by rw [bq.o],ed.o,dQ.o,by rw [bq.o];exact dz.o,by rw [bq.o];exact dV.o,by rw [bq.o];exact cD.o,wC⟩,?_⟩;rw [dZ.o,e3.o];omega
     ·obtain rfl:j=body.length:=by omega
      have x0:=qb aD 0 _ rfl;have x1:=qb aD 1 _ rfl;have x2:=qb aD 2 _ rfl;have ra:=hK.heap gG.o (show N+1<P from wC);have r0:=qb ra 0 _ rfl;have r1:=qb ra 1 _ rfl;have r2:=qb ra 2 _ rfl;have r3:=qb ra 3 _ rfl;have f0:=qg ra 0;have f1:=qg ra 1;have f2:=qg ra 2;have f3:=qg ra 3;simp only [zD]at x0 x1 x2 r0 r1 r2 r3;have fb:N+1<wr.heap.size:=qe ra;have gR:=gU.o;have fE:=gy.o.keep (gA.o.trans (hK.mono fun b _ h=>wC)) (fun b _ h=>h);clear a5 gR;refine qhu ?_ hK aD hS hT bQ aX kw hs U ra fE;clear hK aD hS hT bQ aX kw hs U ra fE;intro fs b9 cI d4 cn ay a9 dL z iV fU;go_wp2_with fail;refine yA (v:=.tuple #[.agg #[.string pr,.slice bH args.length bu,.slice bF body.length bs,.slice cG body.length cN],.int .i64 0]) (by simp [results,Tryz.results120,go_sem,r0,r1,r2,r3,fb]) rfl ?_;have kS:Keep (fun b=>b≠N+1) wr ((((wr.setCell ⟨N+1,0,none⟩ (.string pr)).setCell ⟨N+1,1,none⟩ (.slice bH args.length bu)).setCell ⟨N+1,2,none⟩ (.slice bF body.length bs)).setCell ⟨N+1,3,none⟩ (.slice cG body.length cN)):=
       (((kSc).trans (kSc)).trans (kSc)).trans (kSc)
      have ia:=q.o;rw [aS.o,dL.o];refine⟨_,_,_,rfl,⟨(fU.o.keep kS (fun b h _=>wC)).mono wC,?_⟩,a9.o.trans (kS.mono fun b _ h=>wC) |>.mono fun b _ h=>wC⟩;have:=cn.o;rw [z.o]at this;exact(this.keep kS (fun b cs t h _ _=>wC)).mono wC
   ·have a6:qjr ⟨⟨pr,args⟩,body⟩ l first=(qnu,ea):=by
     rw [ec.o,ai.o,aL,zI bJ]
    have iG:(ea !=0)=true:=bne_iff_ne.2 bJ;clear aL bJ;refine hd2 ?_ a6 ad;clear a6 ad;intro aS cg;go_wp2_with fail;refine cg.o.mono ?_;rintro e W1 ⟨rfl,k1⟩;have gV:=k1.size;have aN:=k1.heap fr.o b1;have r0:=qb aN 0 _ rfl;have r1:=qb aN 1 _ rfl;have r2:=qb aN 2 _ rfl;have r3:=qb aN 3 _ rfl;have f0:=qg aN 0;have f1:=qg aN 1;have f2:=qg aN 2;have f3:=qg aN 3;simp only [zD]at r0 r1 r2 r3;have eE:N+1<W1.heap.size:=wC
    clear aN;refine hd1 ?_ k1;clear k1;intro cp;go_wp2_with fail;refine yA (v:=.tuple #[.agg #[.string ⟨#[]⟩,.slice none 0 0,.slice none 0 0,.slice none 0 0],.int .i64 ea]) (by simp [results,Tryz.results120,go_sem,r0,r1,r2,r3,eE]) rfl ?_;rw [aS.o];have kS:Keep (fun b=>b≠N+1) W1 ((((W1.setCell ⟨N+1,0,none⟩ (.string ⟨#[]⟩)).setCell ⟨N+1,1,none⟩ (.slice none 0 0)).setCell ⟨N+1,2,none⟩ (.slice none 0 0)).setCell ⟨N+1,3,none⟩ (.slice none 0 0)):=
     (((kSc).trans (kSc)).trans (kSc)).trans (kSc)
    exact⟨_,_,_,rfl,qqu _ _,((bz.o.trans (cp.o.mono fun b _ h=>wC)).trans (kS.mono fun b _ h=>wC)).mono fun b _ h=>by have:=q.o;omega⟩
  ·have a6:qjr ⟨⟨pr,args⟩,body⟩ l first=(qnu,2):=by
    have hE:qeh ⟨⟨pr,args⟩,body⟩ l true=2:=by unfold qeh;rw [Bool.or_true,zI rfl]
    rw [ec.o,ai.o,hE]
    rfl
   refine hd1 ?_ a6;clear a6;intro aS;go_wp2_with fail;refine yA (v:=.tuple #[.agg #[.string ⟨#[]⟩,.slice none 0 0,.slice none 0 0,.slice none 0 0],.int .i64 2]) (by simp [results,Tryz.results120,go_sem,r0,r1,r2,r3,b1]) rfl ?_;rw [aS.o];have kS:Keep (fun b=>b≠N+1) wc ((((wc.setCell ⟨N+1,0,none⟩ (.string ⟨#[]⟩)).setCell ⟨N+1,1,none⟩ (.slice none 0 0)).setCell ⟨N+1,2,none⟩ (.slice none 0 0)).setCell ⟨N+1,3,none⟩ (.slice none 0 0)):=
    (((kSc).trans (kSc)).trans (kSc)).trans (kSc)
   exact⟨_,_,_,rfl,qqu _ _,(bz.o.trans (kS.mono fun b _ h=>wC)).mono fun b _ h=>by have:=q.o;omega⟩
end Go.Proofs.P16
