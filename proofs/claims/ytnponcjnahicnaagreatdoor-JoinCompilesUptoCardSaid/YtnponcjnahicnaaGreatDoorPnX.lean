/- Parts of the proof. -/
import Derived.Test.YtnponcjnahicnaaGreatDoorPnVToPnW
import Derived.Deep.DeepCutAuto
set_option linter.unusedSimpArgs false
set_option linter.unusedVariables false
set_option maxRecDepth 100000
set_option maxHeartbeats 4000000
open Go.Proofs.Tryz(prog)
open List(map_set set_cons_succ set_cons_zero)
namespace Go.Proofs.P16
open Go.RowKit Go.Ink Go.Flt
attribute [local go_sem] Oper.semAt_some
def qk6 (q:qc5×Value×Value):List Value:= [.int .i64 q.1.lit,q.2.1,q.2.2]
def StepsOwn (base:Nat)(w:World)(v:Value)(ss:List qc5):Prop:=
 ∃qs:List (qc5×Value×Value),qs.map (·.1)=ss/\w.ownsRow base 251 3 v ss.length (qs.flatMap qk6)/\
  ∀q,q∈qs->w.ownsRow base 3 1 q.2.1 q.1.bound.length (q.1.bound.map (.int .i64))/\w.ownsRow base 9 1 q.2.2 q.1.new.length (q.1.new.map .string)
def q3b (n:Nat)(w:World)(b o:Nat)(s:qc5):Prop:= ∃bv nv,CellsE w b o [.int .i64 s.lit,bv,nv]/\qan n w bv s.bound/\qal n w nv s.new
abbrev StepsIn (n:Nat)(w:World)(v:Value)(ss:List qc5):Prop:=SliceIn n w 3 (q3b n) v ss
theorem StepsIn.keep {n:Nat}{w w':World}{v:Value}{ss:List qc5}(h:StepsIn n w v ss)(hK:Keep (fun k=>k<n) w w'):StepsIn n w' v ss:=
 h.mono fun b o s hb ⟨bv,nv,h1,h2,h3⟩=>⟨bv,nv,fun j v c=>hK.cell (h1 j v c) hb,qig h2 hK,qd2 h3 hK⟩
theorem StepsIn.wider {n c:Nat}{w:World}{v:Value}{ss:List qc5}(h:StepsIn n w v ss)(b:n<=c):StepsIn c w v ss:=
 SliceIn.wider h b fun _ _ _ _ ⟨bv,nv,h1,h2,h3⟩=>⟨bv,nv,h1,SliceIn.wider h2 b fun _ _ _ _ h=>h,qgi h3 b⟩
def q5j (ss:List qc5):Prop:=ss.length<=1073741824/\ ∀s,s∈ss->s.bound.length<=1073741824/\s.new.length<=1073741824
theorem StepsOwn.steps {base:Nat}{w:World}{v:Value}{ss:List qc5}(h:StepsOwn base w v ss)(i:q5j ss):StepsIn w.heap.size w v ss:=by
 obtain⟨r,m,ho,c⟩:=h;refine qed ho ss rfl i.1 (q3b w.heap.size) fun b k d t s=>?_;have hd2:(r.map (·.1))[k]?=some d:=by rw [m];exact t
 rw [zP]at hd2;obtain⟨q,e,rfl⟩:=xN.1 hd2;have g:=zH e;have f:q.1∈ss:=by rw [←m];exact yK.2 ⟨q,g,rfl⟩
 refine⟨q.2.1,q.2.2,fun j u p=>?_,qd5 (c q g).1 (i.2 _ f).1,qcc (c q g).2 (i.2 _ f).2⟩;have l:j<3:=(zA.1 p).1;rw [s j l,qas qk6 3 (fun _=>rfl) r k j q e l];exact p
theorem StepsOwn.keep {base:Nat}{w w':World}{v:Value}{ss:List qc5}{C:Nat->Prop}(h:StepsOwn base w v ss)(hK:Keep C w w')(g: ∀b cs t,base<=b->w.heap[b]?=some (.cells cs t (0,0))->t=251∨t=3∨t=9->C b):StepsOwn base w' v ss:=by
 obtain⟨j,i,ho,c⟩:=h;refine⟨j,i,qf ho hK (fun b d=>?_),fun q e=>⟨qf (c q e).1 hK (fun b d=>?_),qf (c q e).2 hK (fun b d=>?_)⟩⟩
 ·obtain⟨cs,f⟩:=qao ho d;exact g b cs _ (zE ho b d).1 f (.inl rfl)
 ·obtain⟨cs,f⟩:=qao (c q e).1 d;exact g b cs _ (zE (c q e).1 b d).1 f (.inr (.inl rfl))
 ·obtain⟨cs,f⟩:=qao (c q e).2 d;exact g b cs _ (zE (c q e).2 b d).1 f (.inr (.inr rfl))
theorem StepsOwn.mono {base b:Nat}{w:World}{v:Value}{ss:List qc5}(h:StepsOwn base w v ss)(d:b<=base):StepsOwn b w v ss:=by
 obtain⟨g,f,ho,c⟩:=h;exact⟨g,f,ho.mono d,fun q e=>⟨(c q e).1.mono d,(c q e).2.mono d⟩⟩
theorem StepsOwn.nil (base:Nat)(w:World):StepsOwn base w (.slice none 0 0) []:=⟨[],rfl,zj _ _ _ _,wB⟩
theorem StepsOwn.form {base:Nat}{w:World}{v:Value}{ss:List qc5}(h:StepsOwn base w v ss): ∃a c,v=.slice a ss.length c:=by
 obtain⟨e,d,ho,b⟩:=h;exact qi ho
theorem StepsOwn.snoc {base:Nat}{w:World}{v:Value}{ss:List qc5}(h:StepsOwn base w v ss)(s:qc5)(vb l:Value)(k:w.ownsRow base 3 1 vb s.bound.length (s.bound.map (.int .i64)))(y:w.ownsRow base 9 1 l s.new.length (s.new.map .string))(hl:ss.length<=1073741824)(f:base<=w.heap.size):
  ∃v' w',(Builtin.append_ #[245,245] 245 #[v,.slice (some ⟨w.heap.size,0,none⟩) 1 1]).run prog (w.alloc (.cells #[.int .i64 s.lit,vb,l] 251))=.ok v' w'/\StepsOwn base w' v' (ss++ [s])/\Keep (fun b=>some b≠v.ownBlock) w w':=by
 obtain⟨qs,X,ho,d⟩:=h;obtain⟨ab,cb,r⟩:=qi k;obtain⟨an,cn,t⟩:=qi y;obtain⟨v',w',Y,p,x,g,cap,hv,hg,U⟩:=qdd (P:=prog) q2c 245 ho [.int .i64 s.lit,vb,l] rfl (by rw [r,t];simp [Value.oneCell']) xz f;refine⟨v',w',Y,⟨qs++ [(s,vb,l)],by rw [zm,X];rfl,by rw [zR,yF];simpa [qk6] using p,fun q i=>?_⟩,x⟩;have c: ∀{e sz:Nat} {u:Value} {m:Nat} {xs:List Value},w.ownsRow base e sz u m xs->e≠251->w'.ownsRow base e sz u m xs:=fun j R=>qf j x (fun b k z=>by
  obtain⟨c1,t1⟩:=qao j k;obtain⟨c2,t2⟩:=qao ho z.symm;rw [t1]at t2;cases t2;exact R rfl)
 rcases zn.1 i with i |i
 ·exact⟨c (d q i).1 wC,c (d q i).2 wC⟩
 ·simp only [zl]at i;subst i;exact⟨c k wC,c y wC⟩
def qvv (base:Nat)(w:World)(vh vb vs:Value)(p:qrq):Prop:=RuleOwn base 79 77 w vh vb p.rule/\StepsOwn base w vs p.steps
def q3c (p:qrq)(vh vb vs:Value):Value:=.agg #[.string p.rule.head.pred,vh,vb,vs]
theorem qo3 (base:Nat)(w:World):qvv base w (.slice none 0 0) (.slice none 0 0) (.slice none 0 0) qmj:=
 ⟨⟨zj _ _ _ _,[],rfl,zj _ _ _ _,wB⟩,StepsOwn.nil _ _⟩
theorem qvw (n:Nat):madeCells #[.bool false] n=((List.replicate n false).map Value.bool).toArray:=by
 apply Array.ext
 ·simp [madeCells]
 ·intro i b c;simp [madeCells,Nat.mod_one]
theorem qz2:(prog.info? 4).map (fun i=>(i.zero,i.size,i.bytes))=some (some (.bool false),1,1):=wA
theorem qli (n:Nat)(h:n<=1073741824)(u:World):(Instr.makeSlice 29 (.int .i64 (n:Int)) (.int .i64 (n:Int))).run prog u=
  .ok (.slice (some ⟨u.heap.size,0,none⟩) n n) (u.alloc (.cells (madeCells #[.bool false] n) 4)):=by
 obtain⟨i0,hi,b,c,d⟩:=info_parts qz2;have h:=run_make (P:=prog) u 29 4 i0 (.bool false) Tryz.underlying29 hi b .i64 .i64 (n:Int) (n:Int) xz (Int.le_refl _) (by rw [d];omega) xz
 simpa [c,Value.cells]using h
def qpu (w:World)(a:Addr):Nat:=match w.cell? a with
 |some (.slice _ n _)=>n
 |_=>0
theorem qo4 {w:World}{a:Addr}{b:Option Addr}{n c:Nat}(h:w.cell? a=some (.slice b n c)):qpu w a=n:=by unfold qpu;rw [h]
theorem qo5 (K:List ByteArray)(ts:List TermD): ∀c,c∈qbg K ts->0<=c:=by
 intro c b;unfold qbg at b;obtain⟨p,_,rfl⟩:=yK.1 b;omega
theorem qu1 {r:RuleD}(h:qak r=true){L:LitD}(d:L∈r.body):L.kind=1∨L.kind=2∨L.kind=3:=by
 unfold qak at h;rw [zV,zV,yL]at h;have:=h.2 L d;unfold qb3 at this;by_cases b:L.kind=1∨L.kind=2
 ·omega
 ·rw [zF b]at this;by_cases c:L.kind=3
  ·omega
  ·rw [zF c]at this;cases this
theorem q2d (K:List ByteArray)(L:LitD)(i:Int):(qa7 K L i).bound.length<=L.atom.args.length/\(qa7 K L i).new.length<=L.atom.args.length/\ ∀c,c∈(qa7 K L i).bound->0<=c:=by
 unfold qa7;split
 ·simp
 ·exact⟨qk3 _ _,qk4 _ _,qo5 _ _⟩
theorem q2e (K:List ByteArray)(L:LitD)(i:Int):(qa7 K L i).lit=i:=by unfold qa7;split<;>rfl
theorem SizesIn.wider {n c:Nat}{w:World}{v:Value}{ss:List qaj}(h:SizesIn n w v ss)(b:n<=c):SizesIn c w v ss:=
 SliceIn.wider h b fun _ _ _ _ ⟨sv,h1,h2⟩=>⟨sv,h1,SliceIn.wider h2 b fun _ _ _ _ h=>h⟩
theorem q5k {a b:Nat}(c:a<=9094988921128908188)(d:b<=9094988921128908188):(FloatKind.f64.format.order a b==some .lt)=decide (a<b):=by
 have:FloatKind.f64.format.order a b=some (compare a b):=qr6 xz xz;rw [this];have e:compare a b=if a<b then .lt else if a=b then .eq else .gt:=rfl
 rw [e];rcases Nat.lt_trichotomy a b with h |h |h
 ·rw [zI h,zS h];rfl
 ·rw [zF (show ¬a<b from xz),zI h,zM xz];rfl
 ·rw [zF (show ¬a<b from xz),zF (show ¬a=b from xz),zM xz];rfl
theorem qxi {K:List ByteArray}{rows:Nat}{sizes:List qaj}{ls:List LitD}{tk:List Bool}{i:Nat}(b:(qbd K rows sizes ls tk i).2.2=false)(c:tk.getD i true=true):qbd K rows sizes ls tk (i+1)=qbd K rows sizes ls tk i:=by
 rw [show qbd K rows sizes ls tk (i+1)=_ from rfl];simp only [qbd,b,c,yg,zy,yx]
theorem qz3 {K:List ByteArray}{rows:Nat}{sizes:List qaj}{ls:List LitD}{tk:List Bool}{i:Nat}{x:LitD}(b:(qbd K rows sizes ls tk i).2.2=false)(c:tk.getD i true=false)(e:ls.getD i default=x)(d:x.kind≠1):
  qbd K rows sizes ls tk (i+1)=if qcj K x then ((i:Int),(qbd K rows sizes ls tk i).2.1,true) else qbd K rows sizes ls tk i:=by
 rw [show qbd K rows sizes ls tk (i+1)=_ from rfl];simp only [qbd,b,c,e,d,ne_eq,not_false_eq_true,yg,zy,yx]
theorem q2f {K:List ByteArray}{rows:Nat}{sizes:List qaj}{ls:List LitD}{tk:List Bool}{i:Nat}{x:LitD}(b:(qbd K rows sizes ls tk i).2.2=false)(c:tk.getD i true=false)(e:ls.getD i default=x)(d:x.kind=1):
  qbd K rows sizes ls tk (i+1)=if (qbd K rows sizes ls tk i).1<0∨qcq rows x (qa7 K x i).bound sizes<(qbd K rows sizes ls tk i).2.1 then ((i:Int),qcq rows x (qa7 K x i).bound sizes,false) else qbd K rows sizes ls tk i:=by
 rw [show qbd K rows sizes ls tk (i+1)=_ from rfl];simp only [qbd,b,c,e,d,ne_eq,not_true_eq_false,zy,yx]
theorem q2g (n:Nat)(r:RuleD)(sh sb:Value)(l:List qaj)(sv:Value)(first:Int)(w:World)(hr:RuleIn n w sh sb r)(hl:SizesIn n w sv l)(hn:n<=w.heap.size):
  Calls prog 158 #[qaz r sh sb,sv,.int .i64 first] w fun e w'=> ∃vh vb vs,e=.returned (.tuple #[q3c (qis r l first).1 vh vb vs,.int .i64 (qis r l first).2])/\qvv w.heap.size w' vh vb vs (qis r l first).1/\Keep (fun b=>b<w.heap.size) w w':=by
 have aL:=qjf hr;have hM:qis r l first=if qdq r l (qa9 r first)≠0 then (qmj,qdq r l (qa9 r first)) else (⟨r,(qbm r l first r.body.length).steps⟩,0):=rfl
 have am:=fun W (hK:Keep (fun b=>b<w.heap.size) w W)=>qzx n r sh sb l sv W (hr.keep (hK.mono fun b _ h=>xz)) (hl.keep (hK.mono fun b _ h=>xz)) (by have:=hK.size;omega);have af:=fun W (hK:Keep (fun b=>b<w.heap.size) w W)=>qxg n r sh sb W (hr.keep (hK.mono fun b _ h=>xz)) (by have:=hK.size;omega);obtain⟨hh,hb⟩:=id hr;obtain⟨⟨pr,args⟩,body⟩:=r;unfold qaz at am af⊢;simp only at hh hb aL am af⊢;obtain⟨aa,ca,rfl,iy,-,-⟩:=id hh;obtain⟨ab,cb,rfl,gN,iq,fo⟩:=id hb;obtain⟨eV,eY,rfl,d5,-,-⟩:=id hl;obtain⟨N,hN⟩:=ex (w.heap.size);obtain⟨cF,dh⟩: ∃b,qa9 ⟨⟨pr,args⟩,body⟩ first=b:=⟨_,rfl⟩
 clear hh hb;refine hd9 ?_ hM am af fo hl aL dh hN hr;clear hM am af fo hl aL dh hN hr;intro dC b0 bu b4 eJ eP ah p eN
 go_enter Tryz.func158,Tryz.ntmps158
 go_upto_region 1 with fail
 refine qj9 (fun W=>Keep (fun b=>b<w.heap.size) w W/\W.heap.size=w.heap.size+1+1/\W.heap[w.heap.size]?=some (.cells #[.string pr,.slice aa args.length ca,.slice ab body.length cb] 27 (0,0))/\
  W.heap[w.heap.size+1]?=some (.cells #[.string ⟨#[]⟩,.slice none 0 0,.slice none 0 0,.slice none 0 0] 247 (0,0))) ⟨kAl.trans kAl,wB,by simp only [qah,zO];simp,by simp only [qah,zO];simp⟩ ?_
 rintro W0 ⟨k0,z0,a1,a2⟩;rw [p.o]at k0 z0 a1 a2⊢;have c0:=qb a1 0 _ rfl;have c1:=qb a1 1 _ rfl;have c2:=qb a1 2 _ rfl;have r0:=qb a2 0 _ rfl;have r1:=qb a2 1 _ rfl;have r2:=qb a2 2 _ rfl;have r3:=qb a2 3 _ rfl;have f0:=qg a2 0;have f1:=qg a2 1;have f2:=qg a2 2;have f3:=qg a2 3;simp only [zD]at c0 c1 c2 r0 r1 r2 r3;have cH:N<W0.heap.size:=xz
 have ci:N+1<W0.heap.size:=xz
 refine hd3 ?_ k0 a1 a2;clear k0 a1 a2;intro bw gf es
 go_cut [40] from 19 to 40 (fun c wx=>c=.bool cF/\wx=W0)
 case first=>
  have hB:=ah.o;unfold qa9 at hB;by_cases h1:first< -1
  ·rw [zS h1,Bool.true_or,Bool.true_or]at hB;subst hB;go_wp2_with fail
   go_meet
   exact⟨rfl,rfl⟩
  ·rw [zM h1,xG]at hB;by_cases h2:(body.length:Int)<=first
   ·simp only [zS h2,Bool.true_or]at hB;subst hB;go_wp2_with fail
    go_meet
    exact⟨rfl,rfl⟩
   ·simp only [zM h2,xG]at hB;by_cases h3:0<=first
    ·obtain⟨k,rfl⟩: ∃k:Nat,first=k:=⟨first.toNat,xz⟩
     rw [zS h3,yT,Int.toNat_natCast]at hB;obtain⟨x,hx⟩: ∃x,body[k]?=some x:=⟨_,zB xz⟩;obtain⟨b,o,rfl,io,sa,aX,ak⟩:=b4.o k x hx;have d0:=bw.o.cell (aX 0 _ rfl) (show b<N by have:=p.o;omega);simp only [Nat.add_zero]at d0;have aI:b<W0.heap.size:=by have:=p.o;omega
     have ar:body.getD k default=x:=by rw [zJ,hx];rfl
     rw [ar]at hB;have fq:(x.kind !=1)=cF:=by rw [←hB];by_cases h:x.kind=1<;>simp [h]
     clear hB aX ak hx ar;cases cF
     all_goals go_wp2_with fail
     all_goals go_meet
     all_goals exact⟨rfl,rfl⟩
    ·rw [zM h3,yY]at hB;subst hB;go_wp2_with fail
     go_meet
     exact⟨rfl,rfl⟩
 case rest=>
  obtain⟨rfl,bN⟩:=hcut;subst bN;cases cF
  ·have Y:=b0.o wc (bw.o.mono fun b _ h=>by have:=p.o;omega);obtain⟨ea,aJ⟩: ∃e,qdq ⟨⟨pr,args⟩,body⟩ l false=e:=⟨_,rfl⟩;rw [aJ]at Y;by_cases bK:ea=0
   ·have aT:qis ⟨⟨pr,args⟩,body⟩ l first=(⟨⟨⟨pr,args⟩,body⟩,(qbm ⟨⟨pr,args⟩,body⟩ l first body.length).steps⟩,0):=by
     rw [dC.o,ah.o,aJ,bK];rfl
    have co:qak ⟨⟨pr,args⟩,body⟩=true/\qbo l=true/\qds ⟨⟨pr,args⟩,body⟩=true:=by
     rw [bK]at aJ;unfold qdq at aJ;cases h1:qak ⟨⟨pr,args⟩,body⟩<;>cases h2:qbo l<;>cases h3:qds ⟨⟨pr,args⟩,body⟩<;>rw [h1,h2,h3] at aJ<;>first |exact⟨rfl,rfl,rfl⟩ |(exfalso;revert aJ;decide)
    subst bK;clear aJ;refine hd3 ?_ aT Y co;clear aT Y co;intro aP b5 z;go_wp2_with fail;refine b5.o.mono ?_;rintro e W1 ⟨rfl,k1⟩;have gU:=k1.size;have e0:=k1.cell c0 cH;have e1:=k1.cell c1 cH;have e2:=k1.cell c2 cH;have cL:N<W1.heap.size:=xz
    have fn:=bu.o W1 ((bw.o.trans (k1.mono fun b _ h=>xz)).mono fun b _ h=>by have:=p.o;omega);clear c0 c1 c2 r0 r1 r2 r3 f0 f1 f2 f3;refine hd2 ?_ k1 fn;clear k1 fn;intro b9 eG;go_wp2_with fail;refine eG.o.mono ?_;rintro e W2 ⟨vh,vb,rfl,ho,k2⟩;have iD:=k2.size;have g0:=k2.cell e0 cL;have g1:=k2.cell e1 cL;have g2:=k2.cell e2 cL;have gM:N<W2.heap.size:=xz
    obtain⟨bz,bH,rfl⟩:=qi ho.1;obtain⟨bx,bG,rfl⟩: ∃a c,vb=.slice a body.length c:=by
     obtain⟨ps,iA,h,_⟩:=ho.2;exact qi h
    have gS:=fun w=>qne w;have gR:=fun u=>qli body.length gN u;clear e0 e1 e2;refine hd2 ?_ ho k2;clear ho k2;intro gn dT;go_wp2_with fail;refine qj9 (fun W=>Keep (fun b=>b<W2.heap.size) W2 W/\W.heap.size=W2.heap.size+1+1+1/\W.heap[W2.heap.size]?=some (.cells #[.string pr,.slice bz args.length bH,.slice bx body.length bG,.slice none 0 0] 247 (0,0))/\
     SetIn W (W2.heap.size+1) []/\W.heap[W2.heap.size+1+1]?=some (.cells ((List.replicate body.length false).map Value.bool).toArray 4 (0,0)))
     ⟨(kAl.trans kAl).trans kAl,wB,by simp only [qah,zO];simp;omega,by
      refine(SetIn.keep (w:=(W2.alloc (.cells #[.string pr,.slice bz args.length bH,.slice bx body.length bG,.slice none 0 0] 247)).alloc (.map #[] 0)) ?_ (Keep.alloc (fun _=>True) _ _) wE);have:=qlx (W2.alloc (.cells #[.string pr,.slice bz args.length bH,.slice bx body.length bG,.slice none 0 0] 247))
      simpa using this,by rw [qvw];simp only [qah,zO];simp⟩ ?_
    rintro W3 ⟨k3,z3,p1,s1,t1⟩;clear gS gR g0 g1 g2;have b2:W2.heap[N]?=some (.cells #[.string pr,.slice aa args.length ca,.slice ab body.length cb] 27 (0,0)):=dT.o.heap (b9.o.heap gf.o cH) cL;have b3:W2.heap[N+1]?=some (.cells #[.string ⟨#[]⟩,.slice none 0 0,.slice none 0 0,.slice none 0 0] 247 (0,0)):=dT.o.heap (b9.o.heap es.o ci) xz;have a3:=k3.heap b2 gM;have a4:=k3.heap b3 (show N+1<W2.heap.size from xz);have fz:Keep (fun b=>b<N) w W3:=((bw.o.trans (b9.o.mono fun b _ h=>xz)).trans (dT.o.mono fun b _ h=>xz)).trans (k3.mono fun b _ h=>xz);obtain⟨P,hP⟩:=ex (W2.heap.size);rw [hP]at z3 p1 s1 t1⊢;have ik:N+1<P:=xz
    have hA:W1.heap.size<=P:=xz
    have ip:W1.heap.size≥N:=xz
    clear b2 b3;refine hd8 ?_ p1 s1 t1 a3 a4 fz k3 hP;clear p1 s1 t1 a3 a4 fz k3 hP;intro gq gr gs gg gh eS gp gk
    go_loopw [12] (fun ha wr=> ∃(j:Nat) (vs:Value),j<=body.length/\ha=.float .f64 (qbm ⟨⟨pr,args⟩,body⟩ l first j).rows/\Keep (fun b=>b<P) W3 wr/\
     wr.heap[P]?=some (.cells #[.string pr,.slice bz args.length bH,.slice bx body.length bG,vs] 247 (0,0))/\SetIn wr (P+1) (qbm ⟨⟨pr,args⟩,body⟩ l first j).K/\
     wr.heap[P+1+1]?=some (.cells ((qbm ⟨⟨pr,args⟩,body⟩ l first j).taken.map Value.bool).toArray 4 (0,0))/\StepsOwn (P+1+1+1) wr vs (qbm ⟨⟨pr,args⟩,body⟩ l first j).steps/\P+1+1+1<=wr.heap.size) (fun _ wr=>body.length-qpu wr ⟨P,3,none⟩)
    case atStart=>exact⟨0,_,xz,rfl,Keep.refl _ _,gq.o,gr.o,gs.o,StepsOwn.nil _ _,xz⟩
    case round=>
     obtain⟨j,vs,hj,rfl,hK,aC,hS,hT,bM,iB⟩:=hrel;have aZ:=qmz (first:=first) z.o.2.1 z.o.2.2 ah.o j hj;obtain⟨cE,cG,rfl⟩:=bM.form;rw [aZ.stp]at aC;have iv:(0:Int)<=j:=xz
     have x3:=qb aC 3 _ rfl;have a5:=hK.heap gg.o (show N<P from xz);have c0:=qb a5 0 _ rfl;have c1:=qb a5 1 _ rfl;have c2:=qb a5 2 _ rfl;simp only [zD]at x3 c0 c1 c2;have il:=qe aC;have ij:N<wr.heap.size:=xz
     have kw:Keep (fun b=>b<N) w wr:=eS.o.trans (hK.mono fun b _ h=>xz);have R:=aZ.stp;obtain⟨s,hs⟩:=ex (qbm ⟨⟨pr,args⟩,body⟩ l first j);rw [hs]at hS hT bM aZ R⊢;by_cases gO:j<body.length
     ·have hL:(j:Int)<body.length:=by omega
      have gJ:=qib (sizes:=l) z.o.2.2 ah.o gO aZ (fun h=>by subst h;rw [←hs];rfl);obtain⟨U,dj,cp,dk,dl⟩:=gJ;clear a5;refine qho ?_ hK aC hS hT bM aZ kw hs R dj dk dl;clear hK aC hS hT bM aZ kw hs R dj dk dl;intro eu bW cB dF b7 ap a9 dN q a7 gl gm
      go_upto_region 12 with fail
      go_cut [72] from 57 to 136 (fun c wx=>c=.bool (decide (0<j∨first<0))/\wx=wr)
      case first=>
       by_cases gI:0<j
       ·have iw:0<(j:Int):=by omega
        have cn:decide (0<j∨first<0)=true:=zS (.inl gI);refine hd1 ?_ cn;clear cn;intro b1;go_wp2_with fail
        go_meet
        exact⟨by rw [b1.o],rfl⟩
       ·obtain rfl:j=0:=by omega
        have cn:decide (0<0∨first<0)=decide (first<0):=by rw [yi];omega
        refine hd1 ?_ cn;clear cn;intro b1;go_wp2_with fail
        go_meet
        exact⟨by rw [b1.o],rfl⟩
      case rest=>
       obtain⟨rfl,bN⟩:=hcut;have bN:=bN.symm;subst bN;obtain⟨bc,d3⟩: ∃b,decide (0<j∨first<0)=b:=⟨_,rfl⟩;rw [d3];refine hd1 ?_ d3;clear d3;intro cV;obtain⟨Wo,gH⟩: ∃W,W=wr:=⟨_,rfl⟩;subst gH
       go_upto_if 72 with fail
       go_cut [13,14,15,16,17] from 57 to 136 (fun c iX iY iZ i1 wx=>c=.int .i64 (U:Int)/\wD Wo wx)
       case first=>
        cases bc
        ·have gL:first=(U:Int):=by
          have h1:=a7.o;unfold qgq at h1
          rwa [zF (xS cV.o)] at h1
         subst gL;go_wp2_with fail
         go_meet
         exact⟨rfl,Keep.refl _ _⟩
        ·have fs:(qbd s.K s.rows l body s.taken body.length).1=(U:Int):=by
          have h1:=a7.o;unfold qgq at h1;rw [zI (yD cV.o)]at h1;exact h1
         have bp:=fun(i:Nat) (x:LitD) (hx:body[i]?=some x) sa (ak:qad n w sa x.atom.args) W (hK:wD Wo W)=>qqo n (P+1) s.K x sa W (cB.o.keep hK wE) (qq ak (a9.o.trans hK.mt |>.mono fun b _ h=>by have:=p.o;omega)) (by have:=hK.size;have:=p.o;omega);have aM:=fun(i:Nat) (x:LitD) (hx:body[i]?=some x) W (hK:wD Wo W)=>qnz n (P+1) s.K ⟨⟨pr,args⟩,body⟩ (.slice aa args.length ca) (.slice ab body.length cb) i x hx W (cB.o.keep hK wE) (eN.o.keep (a9.o.trans hK.mt |>.mono fun b _ h=>by have:=p.o;omega)) (by have:=hK.size;have:=p.o;omega);have di:=fun(x:LitD) (Y:x.kind=1) sa (ak: ∃y m c,sa=.slice y m c) (st:qc5) (hpos: ∀c,c∈st.bound->0<=c) bv nv W (hK:wD Wo W) (hnv: ∃y m c,nv=.slice y m c) (hb:qan W.heap.size W bv st.bound)=>
          qon W.heap.size s.rows ap.o.row x sa st bv nv l (.slice eV l.length eY) z.o.2.1 hpos (.inl Y) W ak hnv (SizesIn.wider (eJ.o.keep (a9.o.trans hK.mt |>.mono fun b _ h=>by have:=p.o;omega)) (by have:=hK.size;have:=p.o;omega)) hb (zG _)
         unfold qaz at aM;simp only at aM;have d5:=fun i=>qxh (K:=s.K) ap.o.row z.o.2.1 (ls:=body) (tk:=s.taken) i;refine hd5 ?_ fs bp aM di d5;clear fs bp aM di d5;intro cW b6 cD dI eL;go_wp2_with fail
         go_step3
         go_wp2_with fail
         go_step3
         go_wp2_with fail
         go_loopw [13,14,76] (fun hc he hf wq=> ∃i:Nat,i<=body.length/\hf=.int .i64 (i:Int)/\hc=.int .i64 (qbd s.K s.rows l body s.taken i).1/\he=.float .f64 (qbd s.K s.rows l body s.taken i).2.1/\(qbd s.K s.rows l body s.taken i).2.2=false/\wD Wo wq) (fun _ _ i _=>body.length-(intOf i).toNat)
         case atStart=>exact⟨0,xz,rfl,rfl,rfl,rfl,Keep.refl _ _⟩
         case round=>
          obtain⟨i,hi,rfl,rfl,rfl,ae,X⟩:=hrel;have iG:=X.size;have ii:N<wr.heap.size:=xz
          have d0:=X.cell c0 trivial;have d1:=X.cell c1 trivial;have d2:=X.cell c2 trivial;have cJ:=X.heap dF.o trivial;by_cases dp:i<body.length
          ·have gP:(i:Int)<body.length:=by omega
           have ir:(0:Int)<=i:=xz
           obtain⟨x,hx⟩: ∃x,body[i]?=some x:=⟨_,zB dp⟩;obtain⟨b,o,rfl,hb,sa,aX,ak⟩:=b4.o i x hx;obtain⟨tb,al⟩: ∃t,s.taken.getD i true=t:=⟨_,rfl⟩;have fx:wr.cell? ⟨P+1+1,i,none⟩=some (.bool tb):=by
            have aF:i<s.taken.length:=by rw [ap.o.len];exact dp
            have:=qb cJ i (.bool tb) (by rw [zP,zB aF,←al,zJ,zB aF];rfl)
            rwa [zD] at this
           have gG:=qe cJ;have ar:body.getD i default=x:=by rw [zJ,hx];rfl
           have ct:=b6.o i x hx sa ak;have av:=cD.o i x hx;have aE:=fun Y=>dI.o x Y sa;obtain⟨aQ,aS,rfl,gQ,-,-⟩:=id ak;have fA:Keep (fun b=>b<N) w wr:=a9.o.trans X.mt;have g: ∀j v,(qu x (.slice aQ x.atom.args.length aS))[j]?=some v->wr.cell? ⟨b,o+i*7+j,none⟩=some v:=fun j v h=>fA.cell (aX j v h) (show b<N by have:=p.o;omega);have m0:=g 0 _ rfl;have m1:=g 1 _ rfl;have m2:=g 2 _ rfl;have m3:=g 3 _ rfl;have m4:=g 4 _ rfl;have m5:=g 5 _ rfl;have m6:=g 6 _ rfl;simp only [Nat.add_zero]at m0;have aI:b<wr.heap.size:=by have:=p.o;omega
           obtain⟨W5,aD⟩:=ex (wr.alloc (.cells #[.int .i64 x.kind,.string x.atom.pred,.slice aQ x.atom.args.length aS,.bool x.left.var,.string x.left.text,.bool x.right.var,.string x.right.text] 79));have k5:wD wr W5:=by rw [←aD];exact kAl
           have aB:=X.trans k5;have iE:=k5.size;have aH:W5.heap[wr.heap.size]?=some (.cells #[.int .i64 x.kind,.string x.atom.pred,.slice aQ x.atom.args.length aS,.bool x.left.var,.string x.left.text,.bool x.right.var,.string x.right.text] 79 (0,0)):=by rw [←aD];exact qh _ _
           have ix:=qe aH;have q0:=qb aH 0 _ rfl;have q1:=qb aH 1 _ rfl;have q2:=qb aH 2 _ rfl;have q3:=qb aH 3 _ rfl;have q4:=qb aH 4 _ rfl;have q5:=qb aH 5 _ rfl;have q6:=qb aH 6 _ rfl;simp only [zD]at q0 q1 q2 q3 q4 q5 q6;have e0:=k5.cell d0 trivial;have e1:=k5.cell d1 trivial;have e2:=k5.cell d2 trivial;unfold qd0 at ct aE;clear g aX ak cJ aH fA;cases tb
           ·by_cases Y:x.kind=1
            ·have d:=q2f (sizes:=l) (rows:=s.rows) ae al ar Y;have fv:(qa7 s.K x i).bound=qbg s.K x.atom.args:=by unfold qa7;rw [zF xz]
             have fw:(qa7 s.K x i).new=qbt s.K x.atom.args:=by unfold qa7;rw [zF xz]
             have br:=av W5.drew (aB.trans kDr);have hI:=qk3 s.K x.atom.args;have hJ:=qk4 s.K x.atom.args;have aW:=aE Y ⟨_,_,_,rfl⟩ ⟨(i:Int),qbg s.K x.atom.args,qbt s.K x.atom.args⟩ (qo5 _ _);unfold qjv at aW;simp only at aW;have ft:=ql2 ap.o.row x (qbg s.K x.atom.args) z.o.2.1;rw [fv]at d br;rw [fw]at br;have fq:(x.kind !=1)=false:=by simp [Y]
             obtain⟨nb,dq⟩:=ex (qcq s.rows x (qbg s.K x.atom.args) l);simp only [dq]at d aW ft;have dm:=eL.o i;obtain⟨bi,cK⟩:=ex ((qbd s.K s.rows l body s.taken i).1);obtain⟨li,cq⟩:=ex ((qbd s.K s.rows l body s.taken i).2.1);rw [cK,cq]at d;rw [cq]at dm;rw [cK,cq];have dn:=q5k ft dm;clear Y ar hx ct av aE fv fw dq;refine qho ?_ d ae X br aW al aD k5 aB cK cq dn;clear d ae X br aW al aD k5 aB cK cq dn;intro f aq aO dR dJ b8 an dU ai eE eK ao;go_wp2_with fail;rw [an.o]
             go_region_held3 (fun W=>W.cell? ⟨wr.heap.size,0,none⟩=some (.int .i64 x.kind)/\W.cell? ⟨wr.heap.size,1,none⟩=some (.string x.atom.pred)/\W.cell? ⟨wr.heap.size,2,none⟩=some (.slice aQ x.atom.args.length aS)/\W.cell? ⟨wr.heap.size,3,none⟩=some (.bool x.left.var)/\W.cell? ⟨wr.heap.size,4,none⟩=some (.string x.left.text)/\W.cell? ⟨wr.heap.size,5,none⟩=some (.bool x.right.var)/\W.cell? ⟨wr.heap.size,6,none⟩=some (.string x.right.text)/\
       W.cell? ⟨N,0,none⟩=some (.string pr)/\W.cell? ⟨N,1,none⟩=some (.slice aa args.length ca)/\W.cell? ⟨N,2,none⟩=some (.slice (some ⟨b,o,none⟩) body.length cb))
              (first |(refine⟨?_,?_,?_,?_,?_,?_,?_,?_,?_,?_⟩<;>assumption) |go_keep)
              (first
               |(go_at_call 211;refine dR.o.mono ?_;rintro e w1 ⟨vb,vn,rfl,ob,on,hq⟩;have fD:=hq.cell q0 (by simp;omega);have fF:=hq.cell q1 (by simp;omega);have fH:=hq.cell q2 (by simp;omega);have fJ:=hq.cell q3 (by simp;omega);have fL:=hq.cell q4 (by simp;omega);have fN:=hq.cell q5 (by simp;omega);have fP:=hq.cell q6 (by simp;omega);have e4:=hq.cell e0 (by simp;omega);have e7:=hq.cell e1 (by simp;omega);have dW:=hq.cell e2 (by simp;omega);have zq:=hq.size;simp only [World.size_drew] at zq;clear q0 q1 q2 q3 q4 q5 q6 e0 e1 e2)
               |(go_at_call 210;refine(dJ.o vb vn w1 ((ai.o.trans kDr).trans (hq.mono fun b hb _=>hb)) (by obtain⟨ax,cx,hx⟩:=qi on;exact⟨_,_,_,hx⟩) (qd5 ob xz)).mono ?_;rintro e w2 ⟨rfl,hp⟩;have fE:=hp.cell fD (by simp;omega);have fG:=hp.cell fF (by simp;omega);have fI:=hp.cell fH (by simp;omega);have fK:=hp.cell fJ (by simp;omega);have fM:=hp.cell fL (by simp;omega);have fO:=hp.cell fN (by simp;omega);have fQ:=hp.cell fP (by simp;omega);have e5:=hp.cell e4 (by simp;omega);have e8:=hp.cell e7 (by simp;omega);have e9:=hp.cell dW (by simp;omega);have zp:=hp.size;clear fD fF fH fJ fL fN fP e4 e7 dW))
             have fc:wD Wo w2:=((ai.o.trans kDr).trans (hq.mono fun b hb _=>hb)).trans (hp.mono fun b hb _=>hb);have d:=f.o;clear hq hp ob on fE fG fI fK fM fO fQ e5 e8 e9 f m0 m1 m2 m3 m4 m5 m6 d0 d1 d2;refine hd1 ?_ fc;clear fc;intro bV;by_cases fm:bi<0
             ·rw [zI (.inl fm)]at d;clear ao;refine hd1 ?_ d;clear d;intro f;go_wp2_with fail;go_roundw
              case rel=>exact⟨i+1,xz,by go_num,by rw [f.o],by rw [f.o],by rw [f.o],bV.o⟩
              case measure=>simp [intOf];omega
             ·by_cases bL:nb<li
              ·rw [zI (.inr bL)]at d;have aF:=ao.o;rw [zS bL]at aF;clear ao bL;refine hd1 ?_ d;clear d;intro f;go_wp2_with fail;go_roundw
               case rel=>exact⟨i+1,xz,by go_num,by rw [f.o],by rw [f.o],by rw [f.o],bV.o⟩
               case measure=>simp [intOf];omega
              ·rw [zF (fun h=>h.elim fm bL)]at d;have aF:=ao.o;rw [zM bL]at aF;clear ao bL;refine hd1 ?_ d;clear d;intro f;go_wp2_with fail;go_roundw
               case rel=>exact⟨i+1,xz,by go_num,by rw [f.o,eE.o],by rw [f.o,eK.o],by rw [f.o];exact aq.o,bV.o⟩
               case measure=>simp [intOf];omega
            ·have d:=qz3 (sizes:=l) ae al ar Y;have fq:(x.kind !=1)=true:=bne_iff_ne.2 Y;have a0:=ct W5 aB;obtain⟨rb,cr⟩: ∃b,qcj s.K x=b:=⟨_,rfl⟩;rw [cr]at d a0;clear Y ar hx ct av aE;cases rb
             ·simp only [zy,yx]at d;rw [←d];rw [←d]at ae;refine hd9 ?_ d ae X a0 cr al aD k5 aB;clear d ae X a0 cr al aD k5 aB;intro f aq aO a8 eO b8 an dU ai;go_wp2_with fail;rw [an.o];refine a8.o.mono ?_;rintro e W6 ⟨rfl,k6⟩;go_wp2_with fail;go_roundw
              case rel=>exact⟨i+1,xz,by go_num,rfl,rfl,aq.o,ai.o.trans (k6.mono fun b hb _=>hb)⟩
              case measure=>simp [intOf];omega
             ·simp only [yg]at d;have aY:(i:Int)=(U:Int):=by
               have h1:=qzy (i:=i+1) (K:=s.K) (rows:=s.rows) (sizes:=l) (ls:=body) (tk:=s.taken) (by rw [d]) body.length xz;rw [←cW.o,h1,d]
              refine qc9 ?_ d ae X a0 cr al aD k5 aB aY;clear d ae X a0 cr al aD k5 aB aY;intro f aq aO a8 eO b8 an dU ai a6;go_wp2_with fail;rw [an.o];refine a8.o.mono ?_;rintro e W6 ⟨rfl,k6⟩;go_wp2_with fail;refine Met.intro ?_
              go_step
              go_meet
              exact⟨by rw [a6.o],ai.o.trans (k6.mono fun b hb _=>hb)⟩
           ·have d:=qxi (rows:=s.rows) (sizes:=l) (ls:=body) ae al;rw [←d];rw [←d]at ae;clear ar hx ct av aE;refine hd7 ?_ d ae X al aD k5 aB;clear d ae X al aD k5 aB;intro f aq aO b8 an dU ai;go_wp2_with fail;rw [an.o];go_roundw
            case rel=>exact⟨i+1,xz,by go_num,rfl,rfl,aq.o,ai.o⟩
            case measure=>simp [intOf];omega
          ·obtain rfl:i=body.length:=by omega
           have aY:=cW.o;clear cJ;refine hd3 ?_ ae X aY;clear ae X aY;intro aq aO a6;go_wp2_with fail;refine Met.intro ?_
           go_step
           go_meet
           exact⟨by rw [a6.o],aO.o⟩
       case rest=>
        obtain⟨rfl,aj⟩:=hcut;clear bN;have iH:=aj.size;have gB:N<wc.heap.size:=xz
        have d0:=aj.cell c0 trivial;have d1:=aj.cell c1 trivial;have d2:=aj.cell c2 trivial;have fl:=aj.heap dF.o trivial;have fi:=aj.heap bW.o trivial;have dZ:=cB.o.keep aj trivial;have dv:=b7.o.keep aj (fun _ _ _ _ _ _=>wE);have cM:Keep (fun b=>b<N) w wc:=a9.o.trans aj.mt;have fe:Keep (fun b=>b<P) W3 wc:=eu.o.trans aj.mt;obtain⟨x,hx⟩: ∃x,body[U]?=some x:=⟨_,zB cp⟩;obtain⟨b,o,rfl,hb,sa,aX,ak⟩:=b4.o U x hx;have av:=qnz n (P+1) s.K ⟨⟨pr,args⟩,body⟩ (.slice aa args.length ca) (.slice (some ⟨b,o,none⟩) body.length cb) U x hx wc dZ (eN.o.keep (cM.mono fun b _ h=>by have:=p.o;omega)) (by have:=p.o;omega);unfold qaz at av;simp only at av;have ar:body.getD U default=x:=by rw [zJ,hx];rfl
        have fr:=qu1 z.o.1 (zH hx);obtain⟨dr,ds,bq⟩:=q2d s.K x U;have bb:=q2e s.K x U;obtain⟨st,cv⟩:=ex (qa7 s.K x U);rw [cv]at av dr ds bq bb;obtain⟨hZ,ay,az⟩:=st;simp only at av dr ds bq bb;subst bb;obtain⟨aQ,aS,rfl,gQ,-,-⟩:=id ak;have g: ∀j v,(qu x (.slice aQ x.atom.args.length aS))[j]?=some v->wc.cell? ⟨b,o+U*7+j,none⟩=some v:=fun j v h=>cM.cell (aX j v h) (show b<N by have:=p.o;omega);have m0:=g 0 _ rfl;have m1:=g 1 _ rfl;have m2:=g 2 _ rfl;have m3:=g 3 _ rfl;have m4:=g 4 _ rfl;have m5:=g 5 _ rfl;have m6:=g 6 _ rfl;simp only [Nat.add_zero]at m0;have aI:b<wc.heap.size:=by have:=p.o;omega
        have im:b<N:=by have:=p.o;omega
        have hH:(U:Int)<body.length:=by have:=cp;simp only at this;omega
        have hG:(0:Int)<=U:=xz
        clear g aX ak hx c0 c1 c2 x3;refine qho ?_ aj fl fi dZ dv cM fe av ar fr cv bq;clear aj fl fi dZ dv cM fe av ar fr cv bq;intro hk cU cS cT dQ eT ey eQ eH eI dS dO;go_wp2_with fail;refine eQ.o.mono ?_;rintro e W6 ⟨vb,vn,rfl,ob,on,k6⟩;have iF:=k6.size;obtain⟨cc,cf,rfl⟩:=qi ob;obtain⟨cd,cg,rfl⟩:=qi on;obtain⟨W7,ck⟩:=ex (W6.alloc (.cells #[.int .i64 (U:Int),.slice cc ay.length cf,.slice cd az.length cg] 251));have k7:wD W6 W7:=by rw [←ck];exact kAl
        have z7:W7.heap.size=W6.heap.size+1:=by rw [←ck];simp
        have bD:=qh W6 (.cells #[.int .i64 (U:Int),.slice cc ay.length cf,.slice cd az.length cg] 251);rw [ck]at bD;obtain⟨D,hD⟩:=ex (W6.heap.size);have aw:Keep (fun b=>b<wc.heap.size) wc W7:=k6.trans k7.mt;have hz:N<W7.heap.size:=xz
        have e2:=aw.cell d2 gB;have n0:=aw.cell m0 aI;have n1:=aw.cell m1 aI;have n2:=aw.cell m2 aI;have n3:=aw.cell m3 aI;have n4:=aw.cell m4 aI;have n5:=aw.cell m5 aI;have n6:=aw.cell m6 aI;have eb:=qf ob k7 (fun _ _=>wE);have fC:=qf on k7 (fun _ _=>wE);rw [hD]at bD z7;have p0:=qb bD 0 _ rfl;have p1:=qb bD 1 _ rfl;have p2:=qb bD 2 _ rfl;simp only [zD]at p0 p1 p2;have fa:D<W7.heap.size:=xz
        have hF:b<W7.heap.size:=xz
        have ie:wc.heap.size<=D:=xz
        have d8:Keep (fun b=>b<N) w W7:=eT.o.trans (aw.mono fun b _ h=>xz);have aE:=qon W7.drew.heap.size s.rows ap.o.row x (.slice aQ x.atom.args.length aS) ⟨(U:Int),ay,az⟩ (.slice cc ay.length cf) (.slice cd az.length cg) l (.slice eV l.length eY) z.o.2.1 dO.o eI.o W7.drew ⟨_,_,_,rfl⟩ ⟨_,_,_,rfl⟩
         (SizesIn.wider (eJ.o.keep ((d8.trans kDr).mono fun b _ h=>by have:=p.o;omega)) (by have:=p.o;simp;omega)) (qd5 (qf eb (Keep.drew (fun _=>True) _) (fun _ _=>wE)) (by simp only;omega)) (zG _)
        unfold qd0 qjv at aE;simp only at aE;clear k6 k7 ob on d0 d1 d2 m0 m1 m2 m3 m4 m5 m6;refine hd8 ?_ ck hD bD aw eb fC d8 aE;clear ck hD bD aw eb fC d8 aE;intro eB gj gi eR cX cZ hm eD;go_wp2_with fail;rw [eB.o,gj.o]
        go_region_held3 (fun W=>W.cell? ⟨b,o+U*7,none⟩=some (.int .i64 x.kind)/\W.cell? ⟨b,o+U*7+1,none⟩=some (.string x.atom.pred)/\W.cell? ⟨b,o+U*7+2,none⟩=some (.slice aQ x.atom.args.length aS)/\W.cell? ⟨b,o+U*7+3,none⟩=some (.bool x.left.var)/\W.cell? ⟨b,o+U*7+4,none⟩=some (.string x.left.text)/\W.cell? ⟨b,o+U*7+5,none⟩=some (.bool x.right.var)/\W.cell? ⟨b,o+U*7+6,none⟩=some (.string x.right.text)/\
       W.cell? ⟨D,0,none⟩=some (.int .i64 (U:Int))/\W.cell? ⟨D,1,none⟩=some (.slice cc ay.length cf)/\W.cell? ⟨D,2,none⟩=some (.slice cd az.length cg)/\W.cell? ⟨N,2,none⟩=some (.slice (some ⟨b,o,none⟩) body.length cb))
         (first |(refine⟨?_,?_,?_,?_,?_,?_,?_,?_,?_,?_,?_⟩<;>assumption) |go_keep)
         ((go_at_call 210;refine eD.o.mono ?_;rintro e w2 ⟨rfl,hp⟩;have iJ:=hp.cell n0 (by simp;omega);have iK:=hp.cell n1 (by simp;omega);have iL:=hp.cell n2 (by simp;omega);have iM:=hp.cell n3 (by simp;omega);have iN:=hp.cell n4 (by simp;omega);have iO:=hp.cell n5 (by simp;omega);have iP:=hp.cell n6 (by simp;omega);have iR:=hp.cell p0 (by simp;omega);have iS:=hp.cell p1 (by simp;omega);have iT:=hp.cell p2 (by simp;omega);have dW:=hp.cell e2 (by simp;omega);have zp:=hp.size;simp only [World.size_drew] at zp;clear n0 n1 n2 n3 n4 n5 n6 e2))
        have cw:Keep (fun b=>b<W7.heap.size) W7 w2:=kDr.trans (hp.mono fun b _ h=>h);have bR:Keep (fun b=>b<wc.heap.size) wc w2:=eR.o.trans (cw.mono fun b _ h=>xz);have cj:=bR.heap cU.o (by have:=qe cU.o;exact this);have fh:=bR.heap cS.o (by have:=qe cS.o;exact this);have fk:=cT.o.keep bR (by have:=cT.o.lt;exact this);have dt:=dQ.o.keep bR (fun b cs t _ h _=>qe h);have d9:=(qf cX.o cw (fun b hb=>(zE cX.o b hb).2)).mono (show P+1+1+1<=wc.heap.size from xz);have ec:=(qf cZ.o cw (fun b hb=>(zE cZ.o b hb).2)).mono (show P+1+1+1<=wc.heap.size from xz);have eW:=cw.heap gi.o fa;have fb:Keep (fun b=>b<P) W3 w2:=ey.o.trans (bR.mono fun b _ h=>xz);have gT:U<(s.taken.map Value.bool).length:=by rw [zL,ap.o.len];exact cp
        have fx:=qb cj U _ (zB gT);have iC:=qg cj U;rw [zD]at fx;have gG:=qe cj;obtain⟨W9,cl⟩:=ex (w2.setCell ⟨P+1+1,U,none⟩ (.bool true));have k9:Keep (fun b=>b≠P+1+1) w2 W9:=by rw [←cl];exact kSc
        have z9:W9.heap.size=w2.heap.size:=by rw [←cl];simp [World.setCell]
        have cI:=qz U (.bool true) cj;rw [cl]at cI;have ba:(s.taken.map Value.bool).toArray.setIfInBounds U (.bool true)=((s.taken.set U true).map Value.bool).toArray:=by
         rw [yJ,map_set]
        rw [ba]at cI;have dX:=k9.heap fh xz;have dY:=fk.keep k9 xz;have du:=dt.keep k9 (fun b cs t h _ _=>xz);have fB:=qf d9 k9 (fun b hb=>by have:=(zE d9 b hb).1;omega);have ed:=qf ec k9 (fun b hb=>by have:=(zE ec b hb).1;omega);have bF:=k9.heap eW xz;have fd:Keep (fun b=>b<P) W3 W9:=fb.trans (k9.mono fun b _ h=>xz);clear hp cw bR cj fh fk dt d9 ec eW fb p0 p1 p2 k9;have bl:=qqq W9.heap.size (P+1) s.K ⟨(U:Int),ay,az⟩ (.slice cc ay.length cf) (.slice cd az.length cg) W9 dY (qcc ed (by simp only;omega)) (zG _);unfold qjv at bl;simp only at bl;have u0:=qb bF 0 _ rfl;have fS:=qb bF 1 _ rfl;have fT:=qb bF 2 _ rfl;simp only [zD]at u0 fS fT;have hv:=qe bF;have hC:=qe dX;clear fa;refine qg5 ?_ cI dX dY du fB ed bF fd cl ba bl;clear cI dX dY du fB ed bF fd cl ba bl;intro eA ez hg dP cY c3 et ew eC fW dL;go_wp2_with fail;rw [eC.o];go_wp2_with fail;refine dL.o.mono ?_;rintro e eo ⟨rfl,db,aN⟩;have hO:=aN.size;have bj:=aN.heap ez.o xz;have de:=aN.heap eA.o xz;have cu:=dP.o.keep aN (fun b cs t h _ _=>xz);have dx:=qf cY.o aN (fun b hb=>by have:=(zE cY.o b hb).1;omega);have dy:=qf c3.o aN (fun b hb=>by have:=(zE c3.o b hb).1;omega);have aR:=aN.heap et.o xz;have c8:Keep (fun b=>b<P) W3 eo:=ew.o.trans (aN.mono fun b _ h=>xz);obtain⟨v',cA,bo,bf,bO⟩:=cu.snoc ⟨(U:Int),ay,az⟩ _ _ dx dy (by rw [q.o];omega) xz;obtain⟨hY,_,bm,_⟩:=cu;have au: ∀b,some b=Value.ownBlock (.slice cE s.steps.length cG)->P+1+1+1<=b:=fun b hb=>(zE bm b hb.symm).1;have aU:=bO.heap bj (fun e=>by have:=au _ e;omega);have df:=bO.heap de (fun e=>by have:=au _ e;omega);have dc:=db.keep bO (fun e=>by have:=au _ e;omega);have c9:Keep (fun b=>b<P) W3 cA:=c8.trans (bO.mono fun b _ h e=>by have:=au _ e;omega)
        obtain⟨ce,ch,rfl⟩:=bf.form;have aK:(s.steps++ [(⟨(U:Int),ay,az⟩:qc5)]).length=j+1:=by rw [zR,q.o];rfl
        rw [aK]at bo;rw [q.o]at bo;have t0:=qb aU 3 _ rfl;have iV:=qg aU 3;have t1:=qb bj 3 _ rfl;have v0:=qb aR 0 _ rfl;have v1:=qb aR 1 _ rfl;have v2:=qb aR 2 _ rfl;simp only [zD]at t0 t1 v0 v1 v2;have gA:=qe aR;have gE:=qe bj;have gF:=qe aU;obtain⟨ep,bk⟩:=ex (cA.setCell ⟨P,3,none⟩ (.slice ce (j+1) ch));have bP:Keep (fun b=>b≠P) cA ep:=by rw [←bk];exact kSc
        have hR:=bP.size;have hQ:=bO.size;have aV:=qz 3 (.slice ce (j+1) ch) aU;rw [bk]at aV;simp only [yJ,set_cons_succ,set_cons_zero]at aV;have dg:=bP.heap df xz;have dd:=dc.keep bP xz;have bg:=bf.keep bP (fun b cs t h _ _=>xz);rw [aK]at bg;have da:Keep (fun b=>b<P) W3 ep:=c9.trans (bP.mono fun b _ h=>xz);have fp:qbm ⟨⟨pr,args⟩,body⟩ l first (j+1)=⟨qcs s.K az,s.taken.set U true,qcq s.rows x ay l,s.steps++ [⟨(U:Int),ay,az⟩]⟩:=by
         show qhw ⟨⟨pr,args⟩,body⟩ l (qgq ⟨⟨pr,args⟩,body⟩ l first j (qbm ⟨⟨pr,args⟩,body⟩ l first j)) (qbm ⟨⟨pr,args⟩,body⟩ l first j)=_;rw [dN.o,a7.o];unfold qhw;simp only [Int.toNat_natCast];rw [eH.o,dS.o]
        have cm:=qo4 (qb aV 3 _ rfl);rw [zD]at cm;have d4:=qo4 (qb bW.o 3 _ rfl);rw [zD]at d4;clear bj de db bf dx dy aR c8 bO bm au aU df dc c9 bP aN u0 fS fT aK;refine qc9 ?_ bo bk aV dg dd bg da fp cm d4;clear bo bk aV dg dd bg da fp cm d4;intro dM dH dD dG dE cC dB bh dK eF;go_wp2_with (at_builtin;refine qcd (v:=.slice cE j cG) (u:=.slice (some ⟨eo.heap.size,0,none⟩) 1 1) (v':=.slice ce (j+1) ch) (w':=cA) rfl (.tmp 132) (.tmp 134) 245 rfl rfl rfl dM.o ?_);rw [dH.o];refine⟨⟨j+1,_,xz,by rw [bh.o],dB.o,dD.o,by rw [bh.o];exact dE.o,by rw [bh.o];exact dG.o,by rw [bh.o];exact cC.o,xz⟩,?_⟩;rw [dK.o,eF.o];omega
     ·obtain rfl:j=body.length:=by omega
      have x0:=qb aC 0 _ rfl;have x1:=qb aC 1 _ rfl;have x2:=qb aC 2 _ rfl;have ra:=hK.heap gh.o (show N+1<P from xz);have r0:=qb ra 0 _ rfl;have r1:=qb ra 1 _ rfl;have r2:=qb ra 2 _ rfl;have r3:=qb ra 3 _ rfl;have f0:=qg ra 0;have f1:=qg ra 1;have f2:=qg ra 2;have f3:=qg ra 3;simp only [zD]at x0 x1 x2 r0 r1 r2 r3;have fg:N+1<wr.heap.size:=qe ra;have gD:=gk.o;have fu:=gn.o.keep (gp.o.trans (hK.mono fun b _ h=>xz)) (fun b _ h=>h);clear a5 gD;refine qg5 ?_ hK aC hS hT bM aZ kw hs R ra fu;clear hK aC hS hT bM aZ kw hs R ra fu;intro eu bW cB dF b7 ap a9 dN q h6 eM;go_wp2_with fail;refine zz (v:=.tuple #[.agg #[.string pr,.slice bz args.length bH,.slice bx body.length bG,.slice cE body.length cG],.int .i64 0]) (by simp [results,Tryz.results158,go_sem,r0,r1,r2,r3,fg]) rfl ?_;have kS:Keep (fun b=>b≠N+1) wr ((((wr.setCell ⟨N+1,0,none⟩ (.string pr)).setCell ⟨N+1,1,none⟩ (.slice bz args.length bH)).setCell ⟨N+1,2,none⟩ (.slice bx body.length bG)).setCell ⟨N+1,3,none⟩ (.slice cE body.length cG)):=
       (((kSc).trans (kSc)).trans (kSc)).trans (kSc)
      have ih:=p.o;rw [aP.o,dN.o];refine⟨_,_,_,rfl,⟨(eM.o.keep kS (fun b h _=>xz)).mono xz,?_⟩,a9.o.trans (kS.mono fun b _ h=>xz) |>.mono fun b _ h=>xz⟩;have:=b7.o;rw [q.o]at this;exact(this.keep kS (fun b cs t h _ _=>xz)).mono xz
   ·have aT:qis ⟨⟨pr,args⟩,body⟩ l first=(qmj,ea):=by
     rw [dC.o,ah.o,aJ,zI bK]
    have iz:(ea !=0)=true:=bne_iff_ne.2 bK;clear aJ bK;refine hd2 ?_ aT Y;clear aT Y;intro aP b5;go_wp2_with fail;refine b5.o.mono ?_;rintro e W1 ⟨rfl,k1⟩;have gU:=k1.size;have aG:=k1.heap es.o ci;have r0:=qb aG 0 _ rfl;have r1:=qb aG 1 _ rfl;have r2:=qb aG 2 _ rfl;have r3:=qb aG 3 _ rfl;have f0:=qg aG 0;have f1:=qg aG 1;have f2:=qg aG 2;have f3:=qg aG 3;simp only [zD]at r0 r1 r2 r3;have ff:N+1<W1.heap.size:=xz
    clear aG;refine hd1 ?_ k1;clear k1;intro b9;go_wp2_with fail;refine zz (v:=.tuple #[.agg #[.string ⟨#[]⟩,.slice none 0 0,.slice none 0 0,.slice none 0 0],.int .i64 ea]) (by simp [results,Tryz.results158,go_sem,r0,r1,r2,r3,ff]) rfl ?_;rw [aP.o];have kS:Keep (fun b=>b≠N+1) W1 ((((W1.setCell ⟨N+1,0,none⟩ (.string ⟨#[]⟩)).setCell ⟨N+1,1,none⟩ (.slice none 0 0)).setCell ⟨N+1,2,none⟩ (.slice none 0 0)).setCell ⟨N+1,3,none⟩ (.slice none 0 0)):=
     (((kSc).trans (kSc)).trans (kSc)).trans (kSc)
    exact⟨_,_,_,rfl,qo3 _ _,((bw.o.trans (b9.o.mono fun b _ h=>xz)).trans (kS.mono fun b _ h=>xz)).mono fun b _ h=>by have:=p.o;omega⟩
  ·have aT:qis ⟨⟨pr,args⟩,body⟩ l first=(qmj,2):=by
    have hE:qdq ⟨⟨pr,args⟩,body⟩ l true=2:=by unfold qdq;rw [Bool.or_true,zI rfl]
    rw [dC.o,ah.o,hE]
    rfl
   refine hd1 ?_ aT;clear aT;intro aP;go_wp2_with fail;refine zz (v:=.tuple #[.agg #[.string ⟨#[]⟩,.slice none 0 0,.slice none 0 0,.slice none 0 0],.int .i64 2]) (by simp [results,Tryz.results158,go_sem,r0,r1,r2,r3,ci]) rfl ?_;rw [aP.o];have kS:Keep (fun b=>b≠N+1) wc ((((wc.setCell ⟨N+1,0,none⟩ (.string ⟨#[]⟩)).setCell ⟨N+1,1,none⟩ (.slice none 0 0)).setCell ⟨N+1,2,none⟩ (.slice none 0 0)).setCell ⟨N+1,3,none⟩ (.slice none 0 0)):=
    (((kSc).trans (kSc)).trans (kSc)).trans (kSc)
   exact⟨_,_,_,rfl,qo3 _ _,(bw.o.trans (kS.mono fun b _ h=>xz)).mono fun b _ h=>by have:=p.o;omega⟩
end Go.Proofs.P16
