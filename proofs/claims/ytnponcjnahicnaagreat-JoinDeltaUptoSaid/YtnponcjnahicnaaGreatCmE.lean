/- Parts of the proof. -/
import Derived.Test.YtnponcjnahicnaaGreatCmCToCmD
set_option linter.unusedSimpArgs false
set_option linter.unusedVariables false
set_option maxRecDepth 100000
set_option maxHeartbeats 4000000
open Go.Proofs.Tryz(prog)
open List(length_cons length_nil)
namespace Go.Proofs
open Go.RowKit Go.Ink Go.Flt R4 P16
attribute [local go_sem] Oper.semAt_some
def qea (r:RuleD):Int:=if qaq r=true then (if S12.looseOf r=none then 0 else 14) else 2
def qp5:Prop:= ∀(n:Nat) (r:RuleD) (sh sb:Value) (w:World),RuleIn n w sh sb r->n<=w.heap.size->Calls prog 40 #[qam r sh sb] w fun e w'=>e=.returned (.bool (qaq r))/\Keep (fun b=>b<w.heap.size) w w'
theorem q4l {r:RuleD}(h:qaq r=true):(r.body.flatMap LitD.uses).length<=1073741824:=by
 unfold qaq at h;rw [zV,zV,zT,yM]at h;have c: ∀L,L∈r.body->L.uses.length<=16:=fun L b=>by
  have b:=h.2 L b;unfold LitD.uses;rw [zL];refine zW (yf _ _) ?_;unfold qcq at b;unfold LitD.terms;split at b
  ·rename_i hk;rw [zI hk];unfold qc4 at b;simp only [zV,zT]at b;exact b.1.1.1.2
  ·rename_i hk;rw [zF hk];split
   ·simp
   ·simp
 have d: ∀l:List LitD,(∀L,L∈l->L.uses.length<=16)->(l.flatMap LitD.uses).length<=16*l.length:=by
  intro l
  induction l with
  |nil=>intro _;simp
  |cons L l ih=>
   intro e;rw [yF,zR,length_cons];have m:=e L (yJ ..);have p:=ih fun x g=>e x (yD _ g);omega
 have:=d r.body c;omega
theorem qcc {r:RuleD}(h:qaq r=true):r.body.length<=256/\qc4 r.head=true/\ ∀L,L∈r.body->qcq L=true:=by
 unfold qaq at h;rw [zV,zV,zT,yM]at h;exact⟨h.1.1,h.1.2,h.2⟩
theorem qon {t:TermD}(h:qbi t=true):t.text.size<=1073741824:=by
 unfold qbi at h;split at h
 ·unfold qh0 qb0 at h;simp only [zV,zT]at h;omega
 ·unfold qg8 at h;have:=yE h;omega
theorem qgj {a:qcn}(h:qc4 a=true):qdq a.pred=true/\a.args.length<=16/\ ∀t,t∈a.args->qbi t=true:=by
 unfold qc4 at h;rw [zV,zV,zT,yM]at h;exact⟨h.1.1,h.1.2,h.2⟩
theorem qmw {L:LitD}(h:qcq L=true):(qq L).length<=16/\ ∀t,t∈qq L->qbi t=true:=by
 unfold qcq at h;unfold qq;split at h
 ·rename_i hk;rw [zF wC];simp only [zV]at h;obtain⟨-,c,d⟩:=qgj h.1.1;exact⟨c,d⟩
 ·split at h
  ·rename_i hk;rw [zI hk];simp only [zV]at h;refine⟨wE,fun t b=>?_⟩;simp only [zw,yU,yi]at b;rcases b with rfl |rfl
   ·exact h.1.2
   ·exact h.2
  ·cases h
theorem qtv {r:RuleD}(h:qaq r=true): ∀L,L∈r.body->(qq L).length<=16:=fun L b=>(qmw ((qcc h).2.2 L b)).1
theorem qht {r:RuleD}(h:qaq r=true):r.head.args.length<=16:=(qgj (qcc h).2.1).2.1
theorem qe0 {r:RuleD}(h:qaq r=true):r.body.length<=256:=(qcc h).1
theorem qp6 {r:RuleD}(h:qaq r=true): ∀L,L∈r.body-> ∀t,t∈qq L->t.text.size<=1073741824:=fun L b t c=>qon ((qmw ((qcc h).2.2 L b)).2 t c)
theorem qyz {r:RuleD}(h:qaq r=true): ∀t,t∈r.head.args->t.text.size<=1073741824:=fun t b=>qon ((qgj (qcc h).2.1).2.2 t b)
theorem qgx {r:RuleD}(h:qaq r=true): ∀i,i<=r.body.length->(qb1 r i).length<=16+16*i:=by
 intro i
 induction i with
 |zero=>
  intro _;have c:=(qec r.head.args []).2.2.2.2;have d:=qht h;show(qbe [] r.head.args).length<=_;simp only [length_nil]at c;omega
 |succ i ih=>
  intro hi;obtain⟨L,b⟩: ∃L,r.body[i]?=some L:=⟨_,zB wC⟩;rw [qi4 r b];have c:=(qec (qq L) (qb1 r i)).2.2.2.2;have d:=qtv h L (zH b);have e:=ih wC;omega
theorem qwo (bw:qp5){n:Nat}{r:RuleD}{sh sb:Value}{w:World}(hr:RuleIn n w sh sb r)(hn:n<=w.heap.size):
  Calls prog 9 #[qam r sh sb] w fun e w'=>Keep (fun b=>b<w.heap.size) w w'/\((qea r≠0/\e=.returned (.tuple #[.pointer none,.int .i64 (qea r)]))∨(qea r=0/\ ∃J vha vb vv va vt vh,e=.returned (.tuple #[qi J,.int .i64 0])/\
   JoinAt (fun b=>w.heap.size<=b/\b<w'.heap.size) w'.heap.size w' J r (qb1 r r.body.length) (qd2 r.body r.body.length) vha vb vv va vt vh)):=by
 obtain⟨aa,ca,rfl,gB,f9,dn⟩:=id hr.1;obtain⟨ab,cb,rfl,gQ,gV,dq⟩:=id hr.2;obtain⟨N,hN⟩:=ex (w.heap.size);obtain⟨W1,ck⟩:=ex (w.alloc (.cells #[.string r.head.pred,.slice aa r.head.args.length ca,.slice ab r.body.length cb] 27));have k1:wG w W1:=by rw [←ck];exact kAl
 have z1:W1.heap.size=N+1:=by rw [←ck,←hN];simp
 have b1:W1.heap[N]?=some (.cells #[.string r.head.pred,.slice aa r.head.args.length ca,.slice ab r.body.length cb] 27 (0,0)):=by rw [←ck,←hN];exact qh _ _
 have bo: ∀X,Keep (fun b=>b<N) w X->RuleIn n X (.slice aa r.head.args.length ca) (.slice ab r.body.length cb) r:=fun X hX=>hr.keep (hX.mono fun b _ h=>wC);have eB: ∀X,Keep (fun b=>b<W1.heap.size) W1 X->X.cell? ⟨N,0,none⟩=some (.string r.head.pred)/\X.cell? ⟨N,1,none⟩=some (.slice aa r.head.args.length ca)/\X.cell? ⟨N,2,none⟩=some (.slice ab r.body.length cb)/\N<X.heap.size:=fun X hX=>by
  have q:=hX.heap b1 (show N<W1.heap.size from wC);have q0:=qb q 0 _ rfl;have q1:=qb q 1 _ rfl;have q2:=qb q 2 _ rfl;simp only [zD]at q0 q1 q2;exact⟨q0,q1,q2,qe q⟩
 have dK:=bw n r _ _ W1 (bo W1 k1.mt) (by have:=k1.size;omega);unfold qam at dK⊢;refine qhv ?_ hr hn dn dq hN ck k1 b1 bo eB dK bw;clear hr hn dn dq hN ck k1 b1 bo eB dK bw;intro fG dx dv dR a7 eA dJ gN aX cB ei fg;refine qbr Tryz.func9 rfl ?_;simp only [Tryz.ntmps9,qd0,Nat.reduceAdd,Nat.reduceSub];gi_wp2;rw [eA.o,a7.o];refine⟨wH,rfl,(zU.2 ei.o).mono ?_⟩;rintro e W2 ⟨rfl,k2⟩;have b4:Keep (fun b=>b<N) w W2:=dJ.o.mt.trans (k2.mono fun b _ (h:b<N)=>wC);obtain⟨fb,br⟩:=ex (qaq r);rw [br];obtain⟨q0,q1,q2,q3⟩:=cB.o W2 k2;cases fb with
 |false=>
  have hc:qea r=2:=by unfold qea;rw [br];rfl
  refine hd4 ?_ k2 b4 br hc;clear k2 b4 br hc;intro dO c6 bI bz;gi_wp2;refine yA (v:=.tuple #[.pointer none,.int .i64 2]) (by simp [results,Tryz.results9,go_sem]) rfl ⟨by rw [a7.o];exact c6.o,.inl ⟨by rw [bz.o];decide,by rw [bz.o]⟩⟩
 |true=>
  have eM:=S12.rule_any r _ _ W2 ((aX.o W2 b4).wider (by have:=b4.size;have:=dx.o;omega)) (q4l br);refine hd4 ?_ k2 b4 br eM;clear k2 b4 br eM;intro dO c6 bI eI;gi_wp2;refine⟨wH,rfl,(zU.2 eI.o).mono ?_⟩;rintro e W3 ⟨rfl,k3⟩;have bR:Keep (fun b=>b<W1.heap.size) W1 W3:=dO.o.trans (k3.mono fun b _ (h:b<W1.heap.size)=>by have:=dO.o.size;omega);have b2:Keep (fun b=>b<N) w W3:=dJ.o.mt.trans (bR.mono fun b _ (h:b<N)=>wC);clear q0 q1 q2 q3;obtain⟨q0,q1,q2,q3⟩:=cB.o W3 bR;cases hl:S12.looseOf r with
  |some x=>
   have hc:qea r=14:=by unfold qea;rw [bI.o,zI rfl,hl,zF wE]
   unfold S12.ruleAns;refine hd5 ?_ bR b2 hl hc k3;clear bR b2 hl hc k3;intro cc cH ft bz fx;gi_wp2;refine yA (v:=.tuple #[.pointer none,.int .i64 14]) (by simp [results,Tryz.results9,go_sem]) rfl ⟨by rw [a7.o];exact cH.o,.inl ⟨by rw [bz.o];decide,by rw [bz.o]⟩⟩
  |none=>
   have hc:qea r=0:=by unfold qea;rw [bI.o,zI rfl,hl,zI rfl]
   have dT:=qrm n r _ _ W3 (aX.o W3 b2) (by have:=b2.size;have:=dx.o;omega);unfold S12.ruleAns;unfold qam at dT;refine hd6 ?_ bR b2 hl hc k3 dT;clear bR b2 hl hc k3 dT;intro cc cH ft bz fx eH;gi_wp2;refine⟨wH,rfl,(zU.2 eH.o).mono ?_⟩;rintro e W4 ⟨vh,vb,rfl,bQ,k4⟩;obtain⟨ah,ch,rfl⟩: ∃a c,vh=.slice a r.head.args.length c:=qj bQ.1;obtain⟨aA,az,rfl⟩: ∃a c,vb=.slice a r.body.length c:=by
    obtain⟨ps,h1,h2,-⟩:=bQ.2;exact qj h2
   have eW:Keep (fun b=>b<W1.heap.size) W1 W4:=cc.o.trans (k4.mono fun b _ (h:b<W1.heap.size)=>by have:=cc.o.size;omega);refine hd3 ?_ bQ k4 eW;clear bQ k4 eW;intro dI gs cu;have d9:=cH.o;refine hd1 ?_ d9;clear d9;intro ef;clear q0 q1 q2 q3;have fl:= @run_makeMap prog;have cP:=cB.o W4 cu.o;have dD:Keep (fun b=>b<N) w W4:=dJ.o.mt.trans (cu.o.mono fun b _ (h:b<N)=>wC);obtain⟨Z,hZ⟩:=ex (W4.heap.size);have gK:N+1<=Z:=by have:=cu.o.size;omega
   have gq:n<=N:=by have:=dx.o;have:=a7.o;omega
   have es:=qps fG.o;have au:=bI.o;have cp: ∀L,L∈r.body->(qq L).length<=16:=qtv au;have cs:r.head.args.length<=16:=qht au;have cf:r.body.length<=256:=qe0 au;have en: ∀i,i<=r.body.length->(qb1 r i).length<=16+16*i:=qgx au;have dj:=qp6 au;have cd:=qyz au;have eR:=qj4 au;obtain⟨W5,cU⟩:=ex ((((W4.alloc (.cells #[.string r.head.pred,.slice ah r.head.args.length ch,.slice aA r.body.length az,.slice none 0 0,.slice none 0 0,.slice none 0 0,.slice none 0 0] 90)).alloc (.cells #[.pointer (some ⟨Z,0,none⟩)] 31)).alloc (.map #[] 0)).alloc (.cells #[.map (some (Z+1+1))] 91));have dB:wG W4 W5:=by rw [←cU];exact((kAl.trans kAl).trans kAl).trans kAl
   have cv:CmAt W5 (Z+1+1+1) (Z+1+1) (Z+1) Z (.string r.head.pred) (.slice ah r.head.args.length ch) (.slice aA r.body.length az) (.slice none 0 0) (.slice none 0 0) (.slice none 0 0) (.slice none 0 0) []:=by
    have p1:=qh W4 (.cells #[.string r.head.pred,.slice ah r.head.args.length ch,.slice aA r.body.length az,.slice none 0 0,.slice none 0 0,.slice none 0 0,.slice none 0 0] 90);have p2:=qh (W4.alloc (.cells #[.string r.head.pred,.slice ah r.head.args.length ch,.slice aA r.body.length az,.slice none 0 0,.slice none 0 0,.slice none 0 0,.slice none 0 0] 90)) (.cells #[.pointer (some ⟨Z,0,none⟩)] 31);have p3:=qh7 (P:=prog) (K:=9) (ek:=Value.string) (ev:=qui) ((W4.alloc (.cells #[.string r.head.pred,.slice ah r.head.args.length ch,.slice aA r.body.length az,.slice none 0 0,.slice none 0 0,.slice none 0 0,.slice none 0 0] 90)).alloc (.cells #[.pointer (some ⟨Z,0,none⟩)] 31));have p4:=qh (((W4.alloc (.cells #[.string r.head.pred,.slice ah r.head.args.length ch,.slice aA r.body.length az,.slice none 0 0,.slice none 0 0,.slice none 0 0,.slice none 0 0] 90)).alloc (.cells #[.pointer (some ⟨Z,0,none⟩)] 31)).alloc (.map #[] 0)) (.cells #[.map (some (Z+1+1))] 91);simp only [zO,hZ]at p1 p2 p3 p4;rw [←cU];exact⟨p4,p3.keep (Keep.alloc (fun _=>True) _ _) wH,((Keep.alloc (fun _=>True) _ _).trans kAl).heap p2 wH,(((Keep.alloc (fun _=>True) _ _).trans kAl).trans kAl).heap p1 wH,zj _ _ _ _⟩
   have bo: ∀X,Keep (fun b=>b<Z) W4 X->RuleIn n X (.slice aa r.head.args.length ca) (.slice ab r.body.length cb) r/\X.cell? ⟨N,1,none⟩=some (.slice aa r.head.args.length ca)/\X.cell? ⟨N,2,none⟩=some (.slice ab r.body.length cb)/\N<X.heap.size:=fun X hX=>
    ⟨aX.o X (dD.trans (hX.mono fun b _ (h:b<N)=>wC)),hX.cell cP.2.1 (show N<Z from wC),hX.cell cP.2.2.1 (show N<Z from wC),by have:=hX.size;omega⟩
   have cA: ∀X,Keep (fun b=>b<Z) W4 X->RuleOwn N 64 60 X (.slice ah r.head.args.length ch) (.slice aA r.body.length az) r:=fun X hX=>by
    have gU:=ef.o.size;obtain⟨h1,ps,h2,h3,h4⟩:=dI.o;exact⟨(qf h1 hX (fun b hb=>by have:=(zE h1 b hb).2;omega)).mono (by have:=a7.o;omega),ps,h2,(qf h3 hX (fun b hb=>by have:=(zE h3 b hb).2;omega)).mono (by have:=a7.o;omega),fun p hp=>(qf (h4 p hp) hX (fun b hb=>by have:=(zE (h4 p hp) b hb).2;omega)).mono (by have:=a7.o;omega)⟩
   obtain⟨Wd,dG⟩:=ex (W5.drew);have cW:wG W5 Wd:=by rw [←dG];exact kDr
   have a8:=cv.all cW;have cO:Keep (fun b=>b<Z) W4 Wd:=(dB.trans cW).mt;have eN:Z+4<=Wd.heap.size:=by have:=qe a8.bm;omega
   have dN: ∀a' n' c',Value.slice aa r.head.args.length ca=.slice (some a') n' c'->0<r.head.args.length->a'.block<N:=fun a' n' c' e h0=>by
    injection e with e1 e2 e3
    obtain⟨t,ht⟩: ∃t,r.head.args[0]?=some t:=⟨_,zB h0⟩;obtain⟨b,o,hb,fF,-⟩:=dv.o 0 t ht;rw [e1]at hb;injection hb with hb
    rw [hb];simp only;omega
   have aM:=qko (Bm:=Z+1+1+1) (M:=Z+1+1) (Bjj:=Z+1) (J:=Z) (a:=none) (c:=0) (vars:= []) a8 (bo Wd cO).1.1 wC (fun a' n' c' e h0=>by have:=dN a' n' c' e h0;exact⟨wC,wC,by simp [Value.ownBlock]⟩) cd (by simp;omega);have hS: ∀X,X.heap[Z+1]?=some (.cells #[qi Z] 31 (0,0))->Keep (fun b=>b<Z) W4 X->X.cell? ⟨Z+1,0,none⟩=some (qi Z)/\X.cell? ⟨N,1,none⟩=some (.slice aa r.head.args.length ca):=fun X h1 h2=>by
    have q:=qb h1 0 _ rfl;simp only [zD]at q;exact⟨q,(bo X h2).2.1⟩
   have aR:=hS Wd a8.bj cO;refine qb5 ?_ cP dD hZ es au cp cs cf en dj cd eR cU dB cv bo;clear cP dD hZ es au cp cs cf en dj cd eR cU dB cv bo;intro fV bH fy e8 fk bG fi bM dr dz fK ed ec f5 fC aX;refine hd9 ?_ cA dG cW a8 cO dN aM hS aR;clear cA dG cW a8 cO dN aM hS aR;intro cR d8 fU fN d7 f1 aQ fm aO;gi_wp2;rw [fy.o];rw [ec.o];refine qae ?_;refine qw rfl (fun X=>X.cell? ⟨Z+1,0,none⟩=some (qi Z)/\X.cell? ⟨N,1,none⟩=some (.slice aa r.head.args.length ca)) [8] ?_;rw [d8.o];clear fl;refine qy [0,1,2,3,4] ?_
   iterate 5
    refine tkR (v:=?_) rfl aO.o ?_ ?_;rotate_left
    ·rintro Wq ⟨x1,x2⟩;go_simp
     try with_reducible rfl
    try simp only [qz]
   refine qm ?_;refine hoR 5 rfl fun K bL=>?_;gi_wp2;refine⟨wH,rfl,(zU.2 aQ.o).mono ?_⟩;rintro e W6 ⟨vo,cT,rfl,aj,d,k6,ai⟩;obtain⟨ao,co,rfl⟩:=qj aj;have aq:Keep (fun b=>b<Z) W4 W6:=d7.o.trans (k6.mono fun b _ (h:b<Z)=>⟨wC,wC,by simp [Value.ownBlock]⟩);have aP:=fm.o W6 d.bj aq;obtain⟨W7,cN⟩:=ex (W6.setCell ⟨Z,6,none⟩ (.slice ao r.head.args.length co));have k7:Keep (fun b=>b≠Z) W6 W7:=by rw [←cN];exact kSc
   have b7:=qag 6 (.slice ao r.head.args.length co) d.box;rw [cN]at b7;obtain⟨⟨n1,n2,n3,n4,n5⟩,eZ⟩:=d.apart;have dm:CmSt Z W7 (Z+1+1+1) (Z+1+1) (Z+1) Z (.string r.head.pred) (.slice ah r.head.args.length ch) (.slice aA r.body.length az) cT (.slice none 0 0) (.slice none 0 0) (.slice ao r.head.args.length co) r (qb1 r 0) 0 0:=by
    refine⟨⟨k7.heap d.bm n4,d.nums.keep k7 n3.symm,k7.heap d.bj n5,b7,qf d.own k7 (fun b hb=>(eZ b hb).2.2.2)⟩,⟨zG _,wC,fun b hb=>?_⟩,zj _ _ _ _,⟨[],rfl,zj _ _ _ _,fun k u L hu=>by simp at hu⟩,?_,fun t ht hv=>(qec _ _).2.2.2.1 t ht hv,fun L t hL=>by simp at hL⟩
    ·rcases ai b hb with h1 |h1
     ·simp [Value.ownBlock]at h1
     ·omega
    ·exact(qf aj k7 (fun b hb e=>by subst e;exact qfa aj d.box wF hb)).mono wC
   have eE:Keep (fun b=>b<Z) W4 W7:=aq.trans (k7.mono fun b _ (h:b<Z)=>wC);have fD:=qg d.box 6;have eJ:=qb d.box 6 _ rfl;have fH:=qe d.box;simp only [zD]at eJ;obtain⟨-,-,r2,r3⟩:=aX.o W6 aq;have fJ:Z+4<=W7.heap.size:=by have:=k6.size;have:=k7.size;omega
   clear b7 n1 n2 n3 n4 n5 eZ k6 d k7 aj ai;refine hd5 ?_ aP cN dm eE aq;clear aP cN dm eE aq;intro an ep dH de f7;gi_wp2;refine bL.o _ _ (fun _=>an.o) ?_;refine hoR 6 rfl fun K U=>?_;gi_wp2;refine U.o _ _ (fun _=>an.o) ?_;refine hoR 7 rfl fun K af=>?_;gi_wp2;refine af.o _ _ (fun _=>an.o) ?_;refine hoR 8 rfl fun K ae=>?_;gi_wp2;rw [ep.o];refine ae.o _ _ (fun h=>absurd h wF) ?_;refine ql wD (qo ?_);clear bL U af ae fD eJ fH r2 r3;obtain⟨-,-,r2,r3⟩:=aX.o W7 de.o;gi_wp2;clear r2 r3;gi_loopw [38] (fun i' X=> ∃(i:Nat) (vv dP ct:Value),i<=r.body.length/\i'=.int .i64 (i:Int)/\CmSt Z X (Z+1+1+1) (Z+1+1) (Z+1) Z (.string r.head.pred) (.slice ah r.head.args.length ch) (.slice aA r.body.length az) vv dP ct (.slice ao r.head.args.length co) r (qb1 r i) i i/\Keep (fun b=>b<Z) W4 X/\Z+4<=X.heap.size) (fun i _=>r.body.length-(intOf i).toNat)
   case atStart=>exact⟨0,_,_,_,wC,rfl,dH.o,de.o,fJ⟩
   case round=>
    obtain⟨i,vv,dP,ct,hi,rfl,hC,hK,gH⟩:=hrel;by_cases dC:i<r.body.length
    ·skip
     have f3:(i:Int)<r.body.length:=wC
     have gv:(0:Int)<=i:=wC
     have fq:i<=256:=by have:=bM.o;omega
     obtain⟨L,hL⟩: ∃L,r.body[i]?=some L:=⟨_,zB dC⟩;have dE:=ed.o i dC;have aY:=qkn hL;rw [aY]at dE;obtain⟨zb,zo,fp,gE,sa,a4,aH⟩:=dR.o i L hL;subst fp;have bn:Keep (fun b=>b<N) w wr:=bH.o.trans (hK.mono fun b _ (h:b<N)=>wC);have bv:zb<N:=wC
     have d0:=bn.cell (a4 0 _ rfl) bv;have d1:=bn.cell (a4 1 _ rfl) bv;have d2:=bn.cell (a4 2 _ rfl) bv;have d3:=bn.cell (a4 3 _ rfl) bv;have d4:=bn.cell (a4 4 _ rfl) bv;have d5:=bn.cell (a4 5 _ rfl) bv;have d6:=bn.cell (a4 6 _ rfl) bv;have gu:zb<wr.heap.size:=wC
     obtain⟨ax,aB,rfl,eT,e6,db⟩:=id aH;have a1: ∀a' n' c',Value.slice ax L.atom.args.length aB=.slice (some a') n' c'->0<L.atom.args.length->a'.block<N:=fun a' n' c' e h0=>by
      injection e with e1 e2 e3
      obtain⟨t,ht⟩: ∃t,L.atom.args[0]?=some t:=⟨_,zB h0⟩;obtain⟨b,o,hb,fF,-⟩:=db 0 t ht;rw [e1]at hb;injection hb with hb
      rw [hb];simp only;omega
     have am:=dz.o L (zH hL);have aD:=bG.o L (zH hL);have gL:=dr.o i hi;have R:=qi4 r hL;obtain⟨aZ,aI,a0,rfl⟩: ∃a n c,ct=.slice a n c:=by
      obtain⟨us,-,e2,-⟩:=hC.acc;obtain⟨a,c,e⟩:=qj e2;exact⟨a,_,c,e⟩
     obtain⟨cI,bu,ce,rfl⟩: ∃a n c,dP=.slice a n c:=by
      obtain⟨a,c,e⟩:=qj hC.pos;exact⟨a,_,c,e⟩
     obtain⟨fr,fI,rfl⟩:=qj hC.cm.own;obtain⟨k,⟨pr,args⟩,⟨lv,lt⟩,⟨rv,rt⟩⟩:=L;simp only at d0 d1 d2 d3 d4 d5 d6 a1 eT e6 dE aY aH;simp only [Nat.add_zero]at d0;obtain⟨B,hB⟩:=ex (wr.heap.size);obtain⟨Wr,a3⟩:=ex (wr.alloc (.cells #[.int .i64 k,.string pr,.slice ax args.length aB,.bool lv,.string lt,.bool rv,.string rt] 64));have dM:Wr.heap[B]?=some (.cells #[.int .i64 k,.string pr,.slice ax args.length aB,.bool lv,.string lt,.bool rv,.string rt] 64 (0,0)):=by rw [←a3,←hB];exact qh _ _
     have kr:wG wr Wr:=by rw [←a3];exact kAl
     have cV:=hC.all kr;have cS:Keep (fun b=>b<Z) W4 Wr:=hK.trans kr.mt;have gz:Z+4<=Wr.heap.size:=by have:=kr.size;omega
     have gO:Z+4<=B:=wC
     clear a4 db hC hK bn kr;rcases dE with h |h |h
     ·subst h;obtain⟨aG,aL⟩:=ex (Wr.drew);have aK:wG Wr aG:=by rw [←aL];exact kDr
      have ar:=cV.all aK;have bx:=aK.heap dM trivial;have dt:Keep (fun b=>b<Z) W4 aG:=cS.trans aK.mt;have eN:Z+4<=aG.heap.size:=by have:=aK.size;omega
      obtain⟨Y1,g1,c7,ey,et,er,ez,bF,c4⟩:=ar.at wC aY wC;have aN:=bF _ _ _ ar.cm.box wF;have dg:=bF _ _ _ ar.cm.bj wF;have dp:=bF _ _ _ bx wF;obtain⟨cy,bO⟩:=ex (Y1.setCell ⟨Z,4,none⟩ (.slice (some ⟨g1,0,none⟩) (bu+1) c7));rw [bO]at c4;have c0:Keep (fun b=>b≠Z) Y1 cy:=by rw [←bO];exact kSc
      have eL:=c0.heap dp wC;have eu:Keep (fun b=>b<Z) W4 cy:=(dt.trans ez).trans (c0.mono fun b _ (h:b<Z)=>wC);have gG:Z+4<=cy.heap.size:=by have:=c0.size;omega
      have cD: ∀X:World,∀{c3 c5:Value},X.heap[Z+1]?=some (.cells #[qi Z] 31 (0,0))->X.heap[Z]?=some (.cells #[.string r.head.pred,.slice ah r.head.args.length ch,.slice aA r.body.length az,c3,.slice cI bu ce,c5,.slice ao r.head.args.length co] 90 (0,0))->(X.cell? ⟨Z+1,0,none⟩=some (qi Z)/\X.cell? ⟨Z,4,none⟩=some (.slice cI bu ce)):=fun X c3 c5 q1 q2=>by
       have r1:=qb q1 0 _ rfl;have r2:=qb q2 4 _ rfl;simp only [zD]at r1 r2;exact⟨r1,r2⟩
      have dA:wG aG (aG.alloc (.cells #[.int .i64 (i:Int)] 3)):=kAl;have el:=cD aG ar.cm.bj ar.cm.box;have e7:=cD _ (dA.heap ar.cm.bj wH) (dA.heap ar.cm.box wH);have eh:=cD Y1 dg aN;have gF:=qg aN 4;have fw:=qb aN 4 _ rfl;have gM:=qe aN;simp only [zD]at fw;clear aK ar bx dt ez bF aN dg dp c0 dA cV cS;have al: ∀X:World,∀{c3:Value},X.heap[Z+1]?=some (.cells #[qi Z] 31 (0,0))->X.heap[Z]?=some (.cells #[.string r.head.pred,.slice ah r.head.args.length ch,.slice aA r.body.length az,c3,.slice (some ⟨g1,0,none⟩) (bu+1) c7,.slice aZ aI a0,.slice ao r.head.args.length co] 90 (0,0))->X.heap[B]?=some (.cells #[.int .i64 1,.string pr,.slice ax args.length aB,.bool lv,.string lt,.bool rv,.string rt] 64 (0,0))->(X.cell? ⟨Z+1,0,none⟩=some (qi Z)/\X.cell? ⟨Z,5,none⟩=some (.slice aZ aI a0)/\X.cell? ⟨B,2,none⟩=some (.slice ax args.length aB)):=fun X c3 q1 q2 q3=>by
       have r1:=qb q1 0 _ rfl;have r2:=qb q2 5 _ rfl;have s2:=qb q3 2 _ rfl;simp only [zD]at r1 r2 s2;exact⟨r1,r2,s2⟩
      obtain⟨We,bt⟩:=ex (cy.drew);have ay:wG cy We:=by rw [←bt];exact kDr
      have g:=(c4).all ay;have ak:=ay.heap (eL) trivial;have aV:Keep (fun b=>b<Z) W4 We:=(eu).trans ay.mt;have e0:Z+4<=We.heap.size:=by have:=ay.size;omega
      have aM:=qko g.cm (qak aH ((bH.o.trans (aV.mono fun b _ (h:b<N)=>wC)).mono fun b _ h=>wC)) wC (fun a' n' c' e h0=>by have:=a1 a' n' c' e h0;exact⟨wC,wC,fun e=>by have:=g.z.2.2 _ e;omega⟩) am (by have:=aD;simp only [qq] at this;rw [zF wF] at this;omega);have aR:=al We g.cm.bj g.cm.box ak;have fB:=qe ak;refine qb5 ?_ el e7 eh ey bO aL a3 et er aY bt ay aM aR aH a1;clear el e7 eh ey bO aL a3 et er aY bt ay aM aR aH a1;intro ea ew cC eQ dS bs bq gj gi bK cJ eY aQ aO bP df;refine hd5 ?_ am aD R hB hL;clear am aD R hB hL;intro cq cj aT cz cg;gi_wp2;rw [bq.o,cz.o];refine qae ?_;refine qw rfl (fun X=>(X.cell? ⟨Z+1,0,none⟩=some (qi Z)/\X.cell? ⟨Z,4,none⟩=some (.slice cI bu ce))) [10] ?_;rw [bs.o];refine qy [0,1,2,3,4,5] ?_
      iterate 6
       refine tkR (v:=?_) rfl ea.o ?_ ?_;rotate_left
       ·rintro Wq ⟨x1,x2⟩;go_simp
        try with_reducible rfl
       try simp only [qz]
      refine qm ?_;refine hoR 6 rfl fun K dc=>?_;gi_wp2;refine dc.o _ _ (fun _=>ew.o) ?_;refine hoR 7 rfl fun K c9=>?_;refine qck rfl (.tmp 69) (.tmp 71) 86 rfl rfl rfl eQ.o ?_;gi_wp2;refine c9.o _ _ (fun _=>cC.o) ?_;refine hoR 8 rfl fun K dl=>?_;gi_wp2;refine dl.o _ _ (fun _=>cC.o) ?_;refine hoR 9 rfl fun K ds=>?_;gi_wp2;refine ds.o _ _ (fun _=>cC.o) ?_;refine hoR 10 rfl fun K di=>?_;gi_wp2;rw [dS.o];refine di.o _ _ (fun h=>absurd h wF) ?_;refine ql wD (qo ?_);clear dc c9 dl ds di;gi_wp2;refine qae ?_;refine qw rfl (fun X=>(X.cell? ⟨Z+1,0,none⟩=some (qi Z)/\X.cell? ⟨Z,5,none⟩=some (.slice aZ aI a0)/\X.cell? ⟨B,2,none⟩=some (.slice ax args.length aB))) [14] ?_;rw [cJ.o];refine qy [0,1,2,3,4,5,6,7,8] ?_
      iterate 9
       refine tkR (v:=?_) rfl aO.o ?_ ?_;rotate_left
       ·rintro Wq ⟨x1,x2,x3⟩;go_simp
        try with_reducible rfl
       try simp only [qz]
      refine qm ?_;refine hoR 9 rfl fun K l=>?_;gi_wp2;have aH:=bP.o;have R:=aT.o;have hL:=cg.o;refine⟨wH,rfl,(zU.2 aQ.o).mono ?_⟩;rintro e W6 ⟨vo,cT,rfl,aj,d,k6,ai⟩;obtain⟨cE,cF,rfl⟩: ∃a c,vo=.slice a args.length c:=qj aj;have s:=g.slots hL wC d k6 ai;have cx:=g.cm.apart;have av:W6.heap[B]?=some (.cells #[.int .i64 1,.string pr,.slice ax args.length aB,.bool lv,.string lt,.bool rv,.string rt] 64 (0,0)):=k6.heap ak ⟨wC,wC,fun e=>qfa g.cm.own ak wF e⟩;have aq:Keep (fun b=>b<Z) W4 W6:=aV.trans (k6.mono fun b _ (h:b<Z)=>⟨wC,wC,fun e=>by have:=g.z.2.2 _ e;omega⟩);have eD:Z+4<=W6.heap.size:=by have:=k6.size;omega
      have bd:=aj.mono (show Z<=We.heap.size from wC);obtain⟨bi,Y,g9,bk,a5,bl,bb,ba,y,aS⟩:=s.term hL wC (by rw [R];exact bd) wC rfl;have m:=y _ _ _ s.cm.box wF;have bg:=y _ _ _ s.cm.bj wF;have a9:=y _ _ _ av wF;obtain⟨Wf,ag⟩:=ex (Y.setCell ⟨Z,5,none⟩ (.slice (some ⟨g9,0,none⟩) (aI+1) bk));rw [ag]at aS;have kf:Keep (fun b=>b<Z) W4 Wf:=(aq.trans ba).trans (by rw [←ag];exact kSc);have zf:Z+4<=Wf.heap.size:=by
       have e:Wf.heap.size=Y.heap.size:=by rw [←ag];simp [World.setCell]
       omega
      have ap:wG W6 (W6.alloc (.cells #[.slice cE args.length cF] 88)):=kAl;have aP:=al W6 s.cm.bj s.cm.box av;have bp:=al _ (ap.heap s.cm.bj wH) (ap.heap s.cm.box wH) (ap.heap av wH);have a6:=al Y bg m a9;have fY:=qg m 5;have cY:=qb m 5 _ rfl;have lY:=qe m;simp only [zD]at cY;clear bd aj d k6 ai s cx av aq ba y m bg a9 ap g ak aV;refine qdz ?_ aP bp a6 a5 aS kf ag bl bb bi;clear aP bp a6 a5 aS kf ag bl bb bi;intro an bh ad a2 bf cG bc da c8 dd;gi_wp2;refine l.o _ _ (fun _=>an.o) ?_;refine hoR 10 rfl fun K U=>?_;gi_wp2;refine U.o _ _ (fun _=>bh.o) ?_;refine hoR 11 rfl fun K af=>?_;refine qck rfl (.tmp 79) (.tmp 85) 87 rfl rfl rfl a2.o ?_;gi_wp2;refine af.o _ _ (fun _=>ad.o) ?_;refine hoR 12 rfl fun K ae=>?_;gi_wp2;refine ae.o _ _ (fun _=>ad.o) ?_;refine hoR 13 rfl fun K aF=>?_;gi_wp2;refine aF.o _ _ (fun _=>ad.o) ?_;refine hoR 14 rfl fun K aE=>?_;gi_wp2;rw [bc.o];refine aE.o _ _ (fun h=>absurd h wF) ?_;refine ql wD (qo ?_);clear l U af ae aF aE;gi_wp2;go_roundw
      case rel=>exact⟨i+1,_,_,_,wC,by go_num,bf.o,cG.o,zf⟩
      case measure=>simp [intOf];omega
     ·subst h;have al: ∀X:World,∀{c3:Value},X.heap[Z+1]?=some (.cells #[qi Z] 31 (0,0))->X.heap[Z]?=some (.cells #[.string r.head.pred,.slice ah r.head.args.length ch,.slice aA r.body.length az,c3,.slice cI bu ce,.slice aZ aI a0,.slice ao r.head.args.length co] 90 (0,0))->X.heap[B]?=some (.cells #[.int .i64 2,.string pr,.slice ax args.length aB,.bool lv,.string lt,.bool rv,.string rt] 64 (0,0))->(X.cell? ⟨Z+1,0,none⟩=some (qi Z)/\X.cell? ⟨Z,5,none⟩=some (.slice aZ aI a0)/\X.cell? ⟨B,2,none⟩=some (.slice ax args.length aB)):=fun X c3 q1 q2 q3=>by
       have r1:=qb q1 0 _ rfl;have r2:=qb q2 5 _ rfl;have s2:=qb q3 2 _ rfl;simp only [zD]at r1 r2 s2;exact⟨r1,r2,s2⟩
      obtain⟨We,bt⟩:=ex (Wr.drew);have ay:wG Wr We:=by rw [←bt];exact kDr
      have g:=(cV).all ay;have ak:=ay.heap (dM) trivial;have aV:Keep (fun b=>b<Z) W4 We:=(cS).trans ay.mt;have e0:Z+4<=We.heap.size:=by have:=ay.size;omega
      have aM:=qko g.cm (qak aH ((bH.o.trans (aV.mono fun b _ (h:b<N)=>wC)).mono fun b _ h=>wC)) wC (fun a' n' c' e h0=>by have:=a1 a' n' c' e h0;exact⟨wC,wC,fun e=>by have:=g.z.2.2 _ e;omega⟩) am (by have:=aD;simp only [qq] at this;rw [zF wF] at this;omega);have aR:=al We g.cm.bj g.cm.box ak;have fB:=qe ak;refine qm6 ?_ a3 aY bt ay aM aR aH a1 am aD R hB hL;clear a3 aY bt ay aM aR aH a1 am aD R hB hL;intro bq bK cJ eY aQ aO bP df cq cj aT cz cg;gi_wp2;rw [bq.o,cz.o];refine qae ?_;refine qw rfl (fun X=>(X.cell? ⟨Z+1,0,none⟩=some (qi Z)/\X.cell? ⟨Z,5,none⟩=some (.slice aZ aI a0)/\X.cell? ⟨B,2,none⟩=some (.slice ax args.length aB))) [14] ?_;rw [cJ.o];refine qy [0,1,2,3,4,5,6,7,8] ?_
      iterate 9
       refine tkR (v:=?_) rfl aO.o ?_ ?_;rotate_left
       ·rintro Wq ⟨x1,x2,x3⟩;go_simp
        try with_reducible rfl
       try simp only [qz]
      refine qm ?_;refine hoR 9 rfl fun K l=>?_;gi_wp2;have aH:=bP.o;have R:=aT.o;have hL:=cg.o;refine⟨wH,rfl,(zU.2 aQ.o).mono ?_⟩;rintro e W6 ⟨vo,cT,rfl,aj,d,k6,ai⟩;obtain⟨cE,cF,rfl⟩: ∃a c,vo=.slice a args.length c:=qj aj;have s:=g.slots hL wC d k6 ai;have cx:=g.cm.apart;have av:W6.heap[B]?=some (.cells #[.int .i64 2,.string pr,.slice ax args.length aB,.bool lv,.string lt,.bool rv,.string rt] 64 (0,0)):=k6.heap ak ⟨wC,wC,fun e=>qfa g.cm.own ak wF e⟩;have aq:Keep (fun b=>b<Z) W4 W6:=aV.trans (k6.mono fun b _ (h:b<Z)=>⟨wC,wC,fun e=>by have:=g.z.2.2 _ e;omega⟩);have eD:Z+4<=W6.heap.size:=by have:=k6.size;omega
      have bd:=aj.mono (show Z<=We.heap.size from wC);obtain⟨bi,Y,g9,bk,a5,bl,bb,ba,y,aS⟩:=s.term hL wC (by rw [R];exact bd) wC rfl;have m:=y _ _ _ s.cm.box wF;have bg:=y _ _ _ s.cm.bj wF;have a9:=y _ _ _ av wF;obtain⟨Wf,ag⟩:=ex (Y.setCell ⟨Z,5,none⟩ (.slice (some ⟨g9,0,none⟩) (aI+1) bk));rw [ag]at aS;have kf:Keep (fun b=>b<Z) W4 Wf:=(aq.trans ba).trans (by rw [←ag];exact kSc);have zf:Z+4<=Wf.heap.size:=by
       have e:Wf.heap.size=Y.heap.size:=by rw [←ag];simp [World.setCell]
       omega
      have ap:wG W6 (W6.alloc (.cells #[.slice cE args.length cF] 88)):=kAl;have aP:=al W6 s.cm.bj s.cm.box av;have bp:=al _ (ap.heap s.cm.bj wH) (ap.heap s.cm.box wH) (ap.heap av wH);have a6:=al Y bg m a9;have fY:=qg m 5;have cY:=qb m 5 _ rfl;have lY:=qe m;simp only [zD]at cY;clear bd aj d k6 ai s cx av aq ba y m bg a9 ap g ak aV;refine qdz ?_ aP bp a6 a5 aS kf ag bl bb bi;clear aP bp a6 a5 aS kf ag bl bb bi;intro an bh ad a2 bf cG bc da c8 dd;gi_wp2;refine l.o _ _ (fun _=>an.o) ?_;refine hoR 10 rfl fun K U=>?_;gi_wp2;refine U.o _ _ (fun _=>bh.o) ?_;refine hoR 11 rfl fun K af=>?_;refine qck rfl (.tmp 79) (.tmp 85) 87 rfl rfl rfl a2.o ?_;gi_wp2;refine af.o _ _ (fun _=>ad.o) ?_;refine hoR 12 rfl fun K ae=>?_;gi_wp2;refine ae.o _ _ (fun _=>ad.o) ?_;refine hoR 13 rfl fun K aF=>?_;gi_wp2;refine aF.o _ _ (fun _=>ad.o) ?_;refine hoR 14 rfl fun K aE=>?_;gi_wp2;rw [bc.o];refine aE.o _ _ (fun h=>absurd h wF) ?_;refine ql wD (qo ?_);clear l U af ae aF aE;gi_wp2;go_roundw
      case rel=>exact⟨i+1,_,_,_,wC,by go_num,(bf.o.notpos (by rw [bK.o];decide)),cG.o,zf⟩
      case measure=>simp [intOf];omega
     ·subst h;have al: ∀X:World,∀{c3:Value},X.heap[Z+1]?=some (.cells #[qi Z] 31 (0,0))->X.heap[Z]?=some (.cells #[.string r.head.pred,.slice ah r.head.args.length ch,.slice aA r.body.length az,c3,.slice cI bu ce,.slice aZ aI a0,.slice ao r.head.args.length co] 90 (0,0))->X.heap[B]?=some (.cells #[.int .i64 3,.string pr,.slice ax args.length aB,.bool lv,.string lt,.bool rv,.string rt] 64 (0,0))->(X.cell? ⟨Z+1,0,none⟩=some (qi Z)/\X.cell? ⟨Z,5,none⟩=some (.slice aZ aI a0)/\X.cell? ⟨B,3,none⟩=some (.bool lv)/\X.cell? ⟨B,4,none⟩=some (.string lt)/\X.cell? ⟨B,5,none⟩=some (.bool rv)/\X.cell? ⟨B,6,none⟩=some (.string rt)):=fun X c3 q1 q2 q3=>by
       have r1:=qb q1 0 _ rfl;have r2:=qb q2 5 _ rfl;have s3:=qb q3 3 _ rfl;have s4:=qb q3 4 _ rfl;have s5:=qb q3 5 _ rfl;have s6:=qb q3 6 _ rfl;simp only [zD]at r1 r2 s3 s4 s5 s6;exact⟨r1,r2,s3,s4,s5,s6⟩
      obtain⟨aG,aL⟩:=ex (Wr.drew);obtain⟨Tt,dy⟩:=ex (aG.heap.size);obtain⟨Wt,cQ⟩:=ex (aG.alloc (.cells #[.bool lv,.string lt,.bool rv,.string rt] 60));have aK:wG Wr aG:=by rw [←aL];exact kDr
      have cl:wG aG Wt:=by rw [←cQ];exact kAl
      have b0:Wt.heap[Tt]?=some (.cells #[.bool lv,.string lt,.bool rv,.string rt] 60 (0,0)):=by rw [←cQ,←dy];exact qh _ _
      have ar:=cV.all aK;have g:=ar.all cl;have bx:=aK.heap dM trivial;have ak:=cl.heap bx trivial;have aV:Keep (fun b=>b<Z) W4 Wt:=(cS.trans aK.mt).trans cl.mt;have eN:Z+4<=Tt:=by have:=aK.size;omega
      have e0:Z+4<=Wt.heap.size:=by have:=cl.size;omega
      have gP:=qe b0;have eX:qai (Tt+1) Wt (.slice (some ⟨Tt,0,none⟩) 2 2) [⟨lv,lt⟩,⟨rv,rt⟩]:=by
       have t0:=qb b0 0 _ rfl;have t1:=qb b0 1 _ rfl;have t2:=qb b0 2 _ rfl;have t3:=qb b0 3 _ rfl;simp only [zD]at t0 t1 t2 t3;refine⟨_,2,rfl,wE,⟨wE,by simp [maxLen]⟩,fun k x hx=>⟨Tt,0,rfl,wC,?_⟩⟩;rw [zD]
       match k,hx with
       |0,hx=>cases hx;exact⟨t0,t1⟩
       |1,hx=>cases hx;exact⟨t2,t3⟩
       |k+2,hx=>simp at hx
      have ej:(Value.slice fr (qb1 r i).length fI).ownBlock≠some Tt:=fun e=>by have:=(zE ar.cm.own Tt e).2;omega
      have aM:=qko g.cm eX wC (fun a' n' c' e h0=>by injection e with e1;injection e1 with e1;subst e1;exact⟨by simp only;omega,by simp only;omega,ej⟩) (fun t ht=>am t ht) (by simp;omega);have aR:=al aG ar.cm.bj ar.cm.box bx;have eC:=al Wt g.cm.bj g.cm.box ak;have gA:=qe bx;clear aK cl b0 ar bx eX ej;refine qro ?_ aY aL dy cQ aM aR eC aH a1 am aD R hB a3 hL;clear aY aL dy cQ aM aR eC aH a1 am aD R hB a3 hL;intro bK bs em eU aQ aO eG bP df cq cj aT cz bq cg;gi_wp2;rw [bq.o,cz.o];refine qae ?_;refine qw rfl (fun X=>(X.cell? ⟨Z+1,0,none⟩=some (qi Z)/\X.cell? ⟨Z,5,none⟩=some (.slice aZ aI a0)/\X.cell? ⟨B,3,none⟩=some (.bool lv)/\X.cell? ⟨B,4,none⟩=some (.string lt)/\X.cell? ⟨B,5,none⟩=some (.bool rv)/\X.cell? ⟨B,6,none⟩=some (.string rt))) [16] ?_;rw [bs.o];refine qy [0,1,2,3,4,5,6,7,8,9] ?_
      iterate 10
       refine tkR (v:=?_) rfl aO.o ?_ ?_;rotate_left
       ·rintro Wq ⟨x1,x2,x3,x4,x5,x6⟩;go_simp
        try with_reducible rfl
       try simp only [qz]
      refine qm ?_;refine hoR 10 rfl fun K bL=>?_;gi_wp2;rw [eU.o,em.o];refine bL.o _ _ (fun _=>eG.o) ?_;refine hoR 11 rfl fun K l=>?_;gi_wp2;have R:=aT.o;have hL:=cg.o;refine⟨wH,rfl,(zU.2 aQ.o).mono ?_⟩;rintro e W6 ⟨vo,cT,rfl,aj,d,k6,ai⟩;obtain⟨cE,cF,rfl⟩: ∃a c,vo=.slice a 2 c:=qj aj;have s:=g.slots hL wC d k6 ai;have cx:=g.cm.apart;have av:W6.heap[B]?=some (.cells #[.int .i64 3,.string pr,.slice ax args.length aB,.bool lv,.string lt,.bool rv,.string rt] 64 (0,0)):=k6.heap ak ⟨wC,wC,fun e=>qfa g.cm.own ak wF e⟩;have aq:Keep (fun b=>b<Z) W4 W6:=aV.trans (k6.mono fun b _ (h:b<Z)=>⟨wC,wC,fun e=>by have:=g.z.2.2 _ e;omega⟩);have eD:Z+4<=W6.heap.size:=by have:=k6.size;omega
      have bd:=aj.mono (show Z<=Wt.heap.size from wC);obtain⟨bi,Y,g9,bk,a5,bl,bb,ba,y,aS⟩:=s.term hL wC (by rw [R];exact bd) wC rfl;have m:=y _ _ _ s.cm.box wF;have bg:=y _ _ _ s.cm.bj wF;have a9:=y _ _ _ av wF;obtain⟨Wf,ag⟩:=ex (Y.setCell ⟨Z,5,none⟩ (.slice (some ⟨g9,0,none⟩) (aI+1) bk));rw [ag]at aS;have kf:Keep (fun b=>b<Z) W4 Wf:=(aq.trans ba).trans (by rw [←ag];exact kSc);have zf:Z+4<=Wf.heap.size:=by
       have e:Wf.heap.size=Y.heap.size:=by rw [←ag];simp [World.setCell]
       omega
      have ap:wG W6 (W6.alloc (.cells #[.slice cE 2 cF] 88)):=kAl;have aP:=al W6 s.cm.bj s.cm.box av;have bp:=al _ (ap.heap s.cm.bj wH) (ap.heap s.cm.box wH) (ap.heap av wH);have a6:=al Y bg m a9;have fY:=qg m 5;have cY:=qb m 5 _ rfl;have lY:=qe m;simp only [zD]at cY;clear bd aj d k6 ai s cx av aq ba y m bg a9 ap g ak aV;refine qdz ?_ aP bp a6 a5 aS kf ag bl bb bi;clear aP bp a6 a5 aS kf ag bl bb bi;intro an bh ad a2 bf cG bc da c8 dd;gi_wp2;refine l.o _ _ (fun _=>an.o) ?_;refine hoR 12 rfl fun K U=>?_;gi_wp2;refine U.o _ _ (fun _=>bh.o) ?_;refine hoR 13 rfl fun K af=>?_;refine qck rfl (.tmp 50) (.tmp 58) 87 rfl rfl rfl a2.o ?_;gi_wp2;refine af.o _ _ (fun _=>ad.o) ?_;refine hoR 14 rfl fun K ae=>?_;gi_wp2;refine ae.o _ _ (fun _=>ad.o) ?_;refine hoR 15 rfl fun K aF=>?_;gi_wp2;refine aF.o _ _ (fun _=>ad.o) ?_;refine hoR 16 rfl fun K aE=>?_;gi_wp2;rw [bc.o];refine aE.o _ _ (fun h=>absurd h wF) ?_;refine ql wD (qo ?_);clear l U af ae aF aE;gi_wp2;go_roundw
      case rel=>exact⟨i+1,_,_,_,wC,by go_num,(bf.o.notpos (by rw [bK.o];decide)),cG.o,zf⟩
      case measure=>simp [intOf];omega
    ·obtain rfl:i=r.body.length:=by omega
     have hj:=hC.join (N:=N) wC (cR.o wr hK) e8.o (by have:=dr.o _ (zG _);have:=bM.o;omega) (fun L hL=>by have:=bG.o L hL;omega);have q:=qb hC.cm.bj 0 _ rfl;have lq:=qe hC.cm.bj;simp only [zD]at q;have eO:Keep (fun b=>b<N) w wr:=bH.o.trans (hK.mono fun b _ (h:b<N)=>wC);clear dC hC;refine hd3 ?_ hj hK eO;clear hj hK eO;intro fM gC eb;gi_wp2;refine yA (v:=.tuple #[qi Z,.int .i64 0]) (by simp [results,Tryz.results9,go_sem]) rfl ?_;rw [a7.o];exact⟨eb.o,.inr ⟨bz.o,_,_,_,_,_,_,_,rfl,fM.o⟩⟩
end Go.Proofs
