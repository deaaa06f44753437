/- Parts of the proof. -/
import Derived.Test.YtnponcjnahicnaaGreatDoorCmCToCmD
import Derived.Lib.OthersKept
set_option linter.unusedSimpArgs false
set_option linter.unusedVariables false
set_option maxRecDepth 100000
set_option maxHeartbeats 4000000
open Go.Proofs.Tryz(prog)
open List(length_cons length_nil)
namespace Go.Proofs
open Go.RowKit Go.Ink Go.Flt R4 P16
attribute [local go_sem] Oper.semAt_some
def qds (r:RuleD):Int:=if qat r=true then (if S12.looseOf r=none then 0 else 14) else 2
def qp0:Prop:= ∀(n:Nat) (r:RuleD) (sh sb:Value) (w:World),RuleIn n w sh sb r->n<=w.heap.size->Calls prog 57 #[qaq r sh sb] w fun e w'=>e=.returned (.bool (qat r))/\Keep (fun b=>b<w.heap.size) w w'
theorem q41 {r:RuleD}(h:qat r=true):(r.body.flatMap LitD.uses).length<=1073741824:=by
 unfold qat at h;rw [zV,zV,zT,yM]at h;have c: ∀L,L∈r.body->L.uses.length<=16:=fun L b=>by
  have b:=h.2 L b;unfold LitD.uses;rw [zL];refine zW (yd _ _) ?_;unfold qcj at b;unfold LitD.terms;split at b
  ·rename_i hk;rw [zI hk];unfold qcz at b;simp only [zV,zT]at b;exact b.1.1.1.2
  ·rename_i hk;rw [zF hk];split
   ·simp
   ·simp
 have d: ∀l:List LitD,(∀L,L∈l->L.uses.length<=16)->(l.flatMap LitD.uses).length<=16*l.length:=by
  intro l
  induction l with
  |nil=>intro _;simp
  |cons L l ih=>
   intro e;rw [yF,zR,length_cons];have m:=e L (yJ ..);have p:=ih fun x g=>e x (yD _ g);omega
 have:=d r.body c;omega
theorem qb5 {r:RuleD}(h:qat r=true):r.body.length<=256/\qcz r.head=true/\ ∀L,L∈r.body->qcj L=true:=by
 unfold qat at h;rw [zV,zV,zT,yM]at h;exact⟨h.1.1,h.1.2,h.2⟩
theorem qol {t:TermD}(h:qbc t=true):t.text.size<=1073741824:=by
 unfold qbc at h;split at h
 ·unfold qh3 qbv at h;simp only [zV,zT]at h;omega
 ·unfold qg4 at h;have:=yE h;omega
theorem qgg {a:qcg}(h:qcz a=true):qdk a.pred=true/\a.args.length<=16/\ ∀t,t∈a.args->qbc t=true:=by
 unfold qcz at h;rw [zV,zV,zT,yM]at h;exact⟨h.1.1,h.1.2,h.2⟩
theorem qmy {L:LitD}(h:qcj L=true):(qm L).length<=16/\ ∀t,t∈qm L->qbc t=true:=by
 unfold qcj at h;unfold qm;split at h
 ·rename_i hk;rw [zF wA];simp only [zV]at h;obtain⟨-,c,d⟩:=qgg h.1.1;exact⟨c,d⟩
 ·split at h
  ·rename_i hk;rw [zI hk];simp only [zV]at h;refine⟨wC,fun t b=>?_⟩;simp only [zw,yS,yf]at b;rcases b with rfl |rfl
   ·exact h.1.2
   ·exact h.2
  ·cases h
theorem qtv {r:RuleD}(h:qat r=true): ∀L,L∈r.body->(qm L).length<=16:=fun L b=>(qmy ((qb5 h).2.2 L b)).1
theorem qjv {r:RuleD}(h:qat r=true):r.head.args.length<=16:=(qgg (qb5 h).2.1).2.1
theorem qgw {r:RuleD}(h:qat r=true):r.body.length<=256:=(qb5 h).1
theorem qp1 {r:RuleD}(h:qat r=true): ∀L,L∈r.body-> ∀t,t∈qm L->t.text.size<=1073741824:=fun L b t c=>qol ((qmy ((qb5 h).2.2 L b)).2 t c)
theorem qy4 {r:RuleD}(h:qat r=true): ∀t,t∈r.head.args->t.text.size<=1073741824:=fun t b=>qol ((qgg (qb5 h).2.1).2.2 t b)
theorem qiq {r:RuleD}(h:qat r=true): ∀i,i<=r.body.length->(qbw r i).length<=16+16*i:=by
 intro i
 induction i with
 |zero=>
  intro _;have b:=(qd5 r.head.args []).2.2.2.2;have d:=qjv h;show(qa8 [] r.head.args).length<=_;simp only [length_nil]at b;omega
 |succ i ih=>
  intro hi;obtain⟨L,c⟩: ∃L,r.body[i]?=some L:=⟨_,zB wA⟩;rw [qi3 r c];have b:=(qd5 (qm L) (qbw r i)).2.2.2.2;have d:=qtv h L (zH c);have e:=ih wA;omega
theorem qwo (bv:qp0){n:Nat}{r:RuleD}{sh sb:Value}{w:World}(hr:RuleIn n w sh sb r)(hn:n<=w.heap.size):
  Calls prog 9 #[qaq r sh sb] w fun e w'=>Keep (fun b=>b<w.heap.size) w w'/\((qds r≠0/\e=.returned (.tuple #[.pointer none,.int .i64 (qds r)]))∨(qds r=0/\ ∃J vha vb vv va vt vh,e=.returned (.tuple #[qk J,.int .i64 0])/\
   JoinAt (fun b=>w.heap.size<=b/\b<w'.heap.size) w'.heap.size w' J r (qbw r r.body.length) (qex r.body r.body.length) vha vb vv va vt vh)):=by
 obtain⟨aa,ca,rfl,gy,fZ,dl⟩:=id hr.1;obtain⟨ab,cb,rfl,gz,gw,dm⟩:=id hr.2;obtain⟨N,hN⟩:=ex (w.heap.size);obtain⟨W1,cB⟩:=ex (w.alloc (.cells #[.string r.head.pred,.slice aa r.head.args.length ca,.slice ab r.body.length cb] 27));have k1:wE w W1:=by rw [←cB];exact kAl
 have z1:W1.heap.size=N+1:=by rw [←cB,←hN];simp
 have b1:W1.heap[N]?=some (.cells #[.string r.head.pred,.slice aa r.head.args.length ca,.slice ab r.body.length cb] 27 (0,0)):=by rw [←cB,←hN];exact qh _ _
 have bn: ∀X,Keep (fun b=>b<N) w X->RuleIn n X (.slice aa r.head.args.length ca) (.slice ab r.body.length cb) r:=fun X hX=>hr.keep (hX.mono fun b _ h=>wA);have eI: ∀X,Keep (fun b=>b<W1.heap.size) W1 X->X.cell? ⟨N,0,none⟩=some (.string r.head.pred)/\X.cell? ⟨N,1,none⟩=some (.slice aa r.head.args.length ca)/\X.cell? ⟨N,2,none⟩=some (.slice ab r.body.length cb)/\N<X.heap.size:=fun X hX=>by
  have q:=hX.heap b1 (show N<W1.heap.size from wA);have q0:=qb q 0 _ rfl;have q1:=qb q 1 _ rfl;have q2:=qb q 2 _ rfl;simp only [zD]at q0 q1 q2;exact⟨q0,q1,q2,qe q⟩
 have dL:=bv n r _ _ W1 (bn W1 k1.mt) (by have:=k1.size;omega);unfold qaq at dL⊢;refine qhw ?_ hr hn dl dm hN cB k1 b1 bn eI dL bv;clear hr hn dl dm hN cB k1 b1 bn eI dL bv;intro fo dA dy dz a3 eg dE gh aX ck en fd;refine qbr Tryz.func9 rfl ?_;simp only [Tryz.ntmps9,qdy,Nat.reduceAdd,Nat.reduceSub];gi_wp2;rw [eg.o,a3.o];refine⟨wF,rfl,(zU.2 en.o).mono ?_⟩;rintro e W2 ⟨rfl,k2⟩;have bV:Keep (fun b=>b<N) w W2:=dE.o.mt.trans (k2.mono fun b _ (h:b<N)=>wA);obtain⟨fb,bu⟩:=ex (qat r);rw [bu];obtain⟨q0,q1,q2,q3⟩:=ck.o W2 k2;cases fb with
 |false=>
  have hc:qds r=2:=by unfold qds;rw [bu];rfl
  refine hd4 ?_ k2 bV bu hc;clear k2 bV bu hc;intro dF de bI bs;gi_wp2;refine yA (v:=.tuple #[.pointer none,.int .i64 2]) (by simp [results,Tryz.results9,go_sem]) rfl ⟨by rw [a3.o];exact de.o,.inl ⟨by rw [bs.o];decide,by rw [bs.o]⟩⟩
 |true=>
  have eO:=S12.rule_any r _ _ W2 ((aX.o W2 bV).wider (by have:=bV.size;have:=dA.o;omega)) (q41 bu);refine hd4 ?_ k2 bV bu eO;clear k2 bV bu eO;intro dF de bI er;gi_wp2;refine⟨wF,rfl,(zU.2 er.o).mono ?_⟩;rintro e W3 ⟨rfl,k3⟩;have bU:Keep (fun b=>b<W1.heap.size) W1 W3:=dF.o.trans (k3.mono fun b _ (h:b<W1.heap.size)=>by have:=dF.o.size;omega);have bW:Keep (fun b=>b<N) w W3:=dE.o.mt.trans (bU.mono fun b _ (h:b<N)=>wA);clear q0 q1 q2 q3;obtain⟨q0,q1,q2,q3⟩:=ck.o W3 bU;cases hl:S12.looseOf r with
  |some x=>
   have hc:qds r=14:=by unfold qds;rw [bI.o,zI rfl,hl,zF wC]
   unfold S12.ruleAns;refine hd5 ?_ bU bW hl hc k3;clear bU bW hl hc k3;intro cp cs fn bs fq;gi_wp2;refine yA (v:=.tuple #[.pointer none,.int .i64 14]) (by simp [results,Tryz.results9,go_sem]) rfl ⟨by rw [a3.o];exact cs.o,.inl ⟨by rw [bs.o];decide,by rw [bs.o]⟩⟩
  |none=>
   have hc:qds r=0:=by unfold qds;rw [bI.o,zI rfl,hl,zI rfl]
   have dK:=qri n r _ _ W3 (aX.o W3 bW) (by have:=bW.size;have:=dA.o;omega);unfold S12.ruleAns;unfold qaq at dK;refine hd6 ?_ bU bW hl hc k3 dK;clear bU bW hl hc k3 dK;intro cp cs fn bs fq em;gi_wp2;refine⟨wF,rfl,(zU.2 em.o).mono ?_⟩;rintro e W4 ⟨vh,vb,rfl,bO,k4⟩;obtain⟨ah,ch,rfl⟩: ∃a c,vh=.slice a r.head.args.length c:=qi bO.1;obtain⟨ay,aA,rfl⟩: ∃a c,vb=.slice a r.body.length c:=by
    obtain⟨ps,h1,h2,-⟩:=bO.2;exact qi h2
   have eX:Keep (fun b=>b<W1.heap.size) W1 W4:=cp.o.trans (k4.mono fun b _ (h:b<W1.heap.size)=>by have:=cp.o.size;omega);refine hd3 ?_ bO k4 eX;clear bO k4 eX;intro dB gj cq;have d7:=cs.o;refine hd1 ?_ d7;clear d7;intro eb;clear q0 q1 q2 q3;have fF:= @run_makeMap prog;have cU:=ck.o W4 cq.o;have du:Keep (fun b=>b<N) w W4:=dE.o.mt.trans (cq.o.mono fun b _ (h:b<N)=>wA);obtain⟨Z,hZ⟩:=ex (W4.heap.size);have gv:N+1<=Z:=by have:=cq.o.size;omega
   have gA:n<=N:=by have:=dA.o;have:=a3.o;omega
   have eP:=qpk fo.o;have aq:=bI.o;have cF: ∀L,L∈r.body->(qm L).length<=16:=qtv aq;have cC:r.head.args.length<=16:=qjv aq;have cD:r.body.length<=256:=qgw aq;have eS: ∀i,i<=r.body.length->(qbw r i).length<=16+16*i:=qiq aq;have dn:=qp1 aq;have cH:=qy4 aq;have eL:=qj4 aq;obtain⟨W5,cR⟩:=ex ((((W4.alloc (.cells #[.string r.head.pred,.slice ah r.head.args.length ch,.slice ay r.body.length aA,.slice none 0 0,.slice none 0 0,.slice none 0 0,.slice none 0 0] 129)).alloc (.cells #[.pointer (some ⟨Z,0,none⟩)] 35)).alloc (.map #[] 0)).alloc (.cells #[.map (some (Z+1+1))] 130));have dR:wE W4 W5:=by rw [←cR];exact((kAl.trans kAl).trans kAl).trans kAl
   have cE:CmAt W5 (Z+1+1+1) (Z+1+1) (Z+1) Z (.string r.head.pred) (.slice ah r.head.args.length ch) (.slice ay r.body.length aA) (.slice none 0 0) (.slice none 0 0) (.slice none 0 0) (.slice none 0 0) []:=by
    have p1:=qh W4 (.cells #[.string r.head.pred,.slice ah r.head.args.length ch,.slice ay r.body.length aA,.slice none 0 0,.slice none 0 0,.slice none 0 0,.slice none 0 0] 129);have p2:=qh (W4.alloc (.cells #[.string r.head.pred,.slice ah r.head.args.length ch,.slice ay r.body.length aA,.slice none 0 0,.slice none 0 0,.slice none 0 0,.slice none 0 0] 129)) (.cells #[.pointer (some ⟨Z,0,none⟩)] 35);have p3:=qh4 (P:=prog) (K:=9) (ek:=Value.string) (ev:=qv8) ((W4.alloc (.cells #[.string r.head.pred,.slice ah r.head.args.length ch,.slice ay r.body.length aA,.slice none 0 0,.slice none 0 0,.slice none 0 0,.slice none 0 0] 129)).alloc (.cells #[.pointer (some ⟨Z,0,none⟩)] 35));have p4:=qh (((W4.alloc (.cells #[.string r.head.pred,.slice ah r.head.args.length ch,.slice ay r.body.length aA,.slice none 0 0,.slice none 0 0,.slice none 0 0,.slice none 0 0] 129)).alloc (.cells #[.pointer (some ⟨Z,0,none⟩)] 35)).alloc (.map #[] 0)) (.cells #[.map (some (Z+1+1))] 130);simp only [zO,hZ]at p1 p2 p3 p4;rw [←cR];exact⟨p4,p3.keep (Keep.alloc (fun _=>True) _ _) wF,((Keep.alloc (fun _=>True) _ _).trans kAl).heap p2 wF,(((Keep.alloc (fun _=>True) _ _).trans kAl).trans kAl).heap p1 wF,zj _ _ _ _⟩
   have bn: ∀X,Keep (fun b=>b<Z) W4 X->RuleIn n X (.slice aa r.head.args.length ca) (.slice ab r.body.length cb) r/\X.cell? ⟨N,1,none⟩=some (.slice aa r.head.args.length ca)/\X.cell? ⟨N,2,none⟩=some (.slice ab r.body.length cb)/\N<X.heap.size:=fun X hX=>
    ⟨aX.o X (du.trans (hX.mono fun b _ (h:b<N)=>wA)),hX.cell cU.2.1 (show N<Z from wA),hX.cell cU.2.2.1 (show N<Z from wA),by have:=hX.size;omega⟩
   have cG: ∀X,Keep (fun b=>b<Z) W4 X->RuleOwn N 79 77 X (.slice ah r.head.args.length ch) (.slice ay r.body.length aA) r:=fun X hX=>by
    have gE:=eb.o.size;obtain⟨h1,ps,h2,h3,h4⟩:=dB.o;exact⟨(qf h1 hX (fun b hb=>by have:=(zE h1 b hb).2;omega)).mono (by have:=a3.o;omega),ps,h2,(qf h3 hX (fun b hb=>by have:=(zE h3 b hb).2;omega)).mono (by have:=a3.o;omega),fun p hp=>(qf (h4 p hp) hX (fun b hb=>by have:=(zE (h4 p hp) b hb).2;omega)).mono (by have:=a3.o;omega)⟩
   obtain⟨Wd,dJ⟩:=ex (W5.drew);have cW:wE W5 Wd:=by rw [←dJ];exact kDr
   have bf:=cE.all cW;have cV:Keep (fun b=>b<Z) W4 Wd:=(dR.trans cW).mt;have eV:Z+4<=Wd.heap.size:=by have:=qe bf.bm;omega
   have dM: ∀a' n' c',Value.slice aa r.head.args.length ca=.slice (some a') n' c'->0<r.head.args.length->a'.block<N:=fun a' n' c' e h0=>by
    injection e with e1 e2 e3
    obtain⟨t,ht⟩: ∃t,r.head.args[0]?=some t:=⟨_,zB h0⟩;obtain⟨b,o,hb,fD,-⟩:=dy.o 0 t ht;rw [e1]at hb;injection hb with hb
    rw [hb];simp only;omega
   have aS:=qkl (Bm:=Z+1+1+1) (M:=Z+1+1) (Bjj:=Z+1) (J:=Z) (a:=none) (c:=0) (vars:= []) bf (bn Wd cV).1.1 wA (fun a' n' c' e h0=>by have:=dM a' n' c' e h0;exact⟨wA,wA,by simp [Value.ownBlock]⟩) cH (by simp;omega);have hS: ∀X,X.heap[Z+1]?=some (.cells #[qk Z] 35 (0,0))->Keep (fun b=>b<Z) W4 X->X.cell? ⟨Z+1,0,none⟩=some (qk Z)/\X.cell? ⟨N,1,none⟩=some (.slice aa r.head.args.length ca):=fun X h1 h2=>by
    have q:=qb h1 0 _ rfl;simp only [zD]at q;exact⟨q,(bn X h2).2.1⟩
   have aP:=hS Wd bf.bj cV;refine qby ?_ cU du hZ eP aq cF cC cD eS dn cH eL cR dR cE bn;clear cU du hZ eP aq cF cC cD eS dn cH eL cR dR cE bn;intro fL bF fi es fl bK fc bH db dC fp eo eh fP fj aX;refine hd9 ?_ cG dJ cW bf cV dM aS hS aP;clear cG dJ cW bf cV dM aS hS aP;intro cM ej fR fk et fM aL fh aK;gi_wp2;rw [fi.o];rw [eh.o];refine qag ?_;refine qw rfl (fun X=>X.cell? ⟨Z+1,0,none⟩=some (qk Z)/\X.cell? ⟨N,1,none⟩=some (.slice aa r.head.args.length ca)) [8] ?_;rw [ej.o];clear fF;refine qq [0,1,2,3,4] ?_
   iterate 5
    refine tkB rfl aK.o ?_
    try simp only [qr]
   refine ql ?_;refine hoR 5 rfl fun K bG=>?_;gi_wp2;refine⟨wF,rfl,(zU.2 aL.o).mono ?_⟩;rintro e W6 ⟨vo,c0,rfl,aj,d,k6,ai⟩;obtain⟨ao,co,rfl⟩:=qi aj;have au:Keep (fun b=>b<Z) W4 W6:=et.o.trans (k6.mono fun b _ (h:b<Z)=>⟨wA,wA,by simp [Value.ownBlock]⟩);have aQ:=fh.o W6 d.bj au;obtain⟨W7,cS⟩:=ex (W6.setCell ⟨Z,6,none⟩ (.slice ao r.head.args.length co));have k7:Keep (fun b=>b≠Z) W6 W7:=by rw [←cS];exact kSc
   have b7:=qaj 6 (.slice ao r.head.args.length co) d.box;rw [cS]at b7;obtain⟨⟨n1,n2,n3,n4,n5⟩,e6⟩:=d.apart;have dp:CmSt Z W7 (Z+1+1+1) (Z+1+1) (Z+1) Z (.string r.head.pred) (.slice ah r.head.args.length ch) (.slice ay r.body.length aA) c0 (.slice none 0 0) (.slice none 0 0) (.slice ao r.head.args.length co) r (qbw r 0) 0 0:=by
    refine⟨⟨k7.heap d.bm n4,d.nums.keep k7 n3.symm,k7.heap d.bj n5,b7,qf d.own k7 (fun b hb=>(e6 b hb).2.2.2)⟩,⟨zG _,wA,fun b hb=>?_⟩,zj _ _ _ _,⟨[],rfl,zj _ _ _ _,fun k u L hu=>by simp at hu⟩,?_,fun t ht hv=>(qd5 _ _).2.2.2.1 t ht hv,fun L t hL=>by simp at hL⟩
    ·rcases ai b hb with h1 |h1
     ·simp [Value.ownBlock]at h1
     ·omega
    ·exact(qf aj k7 (fun b hb e=>by subst e;exact qe4 aj d.box wD hb)).mono wA
   have eZ:Keep (fun b=>b<Z) W4 W7:=au.trans (k7.mono fun b _ (h:b<Z)=>wA);have fz:=qg d.box 6;have ey:=qb d.box 6 _ rfl;have fJ:=qe d.box;simp only [zD]at ey;obtain⟨-,-,r2,r3⟩:=aX.o W6 au;have fG:Z+4<=W7.heap.size:=by have:=k6.size;have:=k7.size;omega
   clear b7 n1 n2 n3 n4 n5 e6 k6 d k7 aj ai;refine hd5 ?_ aQ cS dp eZ au;clear aQ cS dp eZ au;intro an ei dD dd fQ;gi_wp2;refine bG.o _ _ (fun _=>an.o) ?_;refine hoR 6 rfl fun K U=>?_;gi_wp2;refine U.o _ _ (fun _=>an.o) ?_;refine hoR 7 rfl fun K ad=>?_;gi_wp2;refine ad.o _ _ (fun _=>an.o) ?_;refine hoR 8 rfl fun K ae=>?_;gi_wp2;rw [ei.o];refine ae.o _ _ (fun h=>absurd h wD) ?_;refine qz wB (qah ?_);clear bG U ad ae fz ey fJ r2 r3;obtain⟨-,-,r2,r3⟩:=aX.o W7 dd.o;gi_wp2;clear r2 r3;gi_loopw [38] (fun i' X=> ∃(i:Nat) (vv dG ct:Value),i<=r.body.length/\i'=.int .i64 (i:Int)/\CmSt Z X (Z+1+1+1) (Z+1+1) (Z+1) Z (.string r.head.pred) (.slice ah r.head.args.length ch) (.slice ay r.body.length aA) vv dG ct (.slice ao r.head.args.length co) r (qbw r i) i i/\Keep (fun b=>b<Z) W4 X/\Z+4<=X.heap.size) (fun i _=>r.body.length-(intOf i).toNat)
   case atStart=>exact⟨0,_,_,_,wA,rfl,dD.o,dd.o,fG⟩
   case round=>
    obtain⟨i,vv,dG,ct,hi,rfl,hC,hK,gF⟩:=hrel;by_cases dO:i<r.body.length
    ·skip
     have f1:(i:Int)<r.body.length:=wA
     have gx:(0:Int)<=i:=wA
     have fE:i<=256:=by have:=bH.o;omega
     obtain⟨L,hL⟩: ∃L,r.body[i]?=some L:=⟨_,zB dO⟩;have dN:=eo.o i dO;have a1:=qkj hL;rw [a1]at dN;obtain⟨zb,zo,fC,gG,sa,bd,aH⟩:=dz.o i L hL;subst fC;have bp:Keep (fun b=>b<N) w wr:=bF.o.trans (hK.mono fun b _ (h:b<N)=>wA);have bw:zb<N:=wA
     have d0:=bp.cell (bd 0 _ rfl) bw;have d1:=bp.cell (bd 1 _ rfl) bw;have d2:=bp.cell (bd 2 _ rfl) bw;have d3:=bp.cell (bd 3 _ rfl) bw;have d4:=bp.cell (bd 4 _ rfl) bw;have d5:=bp.cell (bd 5 _ rfl) bw;have d6:=bp.cell (bd 6 _ rfl) bw;have gI:zb<wr.heap.size:=wA
     obtain⟨ax,az,rfl,eH,eG,dk⟩:=id aH;have a0: ∀a' n' c',Value.slice ax L.atom.args.length az=.slice (some a') n' c'->0<L.atom.args.length->a'.block<N:=fun a' n' c' e h0=>by
      injection e with e1 e2 e3
      obtain⟨t,ht⟩: ∃t,L.atom.args[0]?=some t:=⟨_,zB h0⟩;obtain⟨b,o,hb,fD,-⟩:=dk 0 t ht;rw [e1]at hb;injection hb with hb
      rw [hb];simp only;omega
     have ar:=dC.o L (zH hL);have aF:=bK.o L (zH hL);have gD:=db.o i hi;have R:=qi3 r hL;obtain⟨aY,aI,aZ,rfl⟩: ∃a n c,ct=.slice a n c:=by
      obtain⟨us,-,e2,-⟩:=hC.acc;obtain⟨a,c,e⟩:=qi e2;exact⟨a,_,c,e⟩
     obtain⟨cu,bx,cx,rfl⟩: ∃a n c,dG=.slice a n c:=by
      obtain⟨a,c,e⟩:=qi hC.pos;exact⟨a,_,c,e⟩
     obtain⟨fs,fx,rfl⟩:=qi hC.cm.own;obtain⟨k,⟨pr,args⟩,⟨lv,lt⟩,⟨rv,rt⟩⟩:=L;simp only at d0 d1 d2 d3 d4 d5 d6 a0 eH eG dN a1 aH;simp only [Nat.add_zero]at d0;obtain⟨B,hB⟩:=ex (wr.heap.size);obtain⟨Wr,bc⟩:=ex (wr.alloc (.cells #[.int .i64 k,.string pr,.slice ax args.length az,.bool lv,.string lt,.bool rv,.string rt] 79));have dT:Wr.heap[B]?=some (.cells #[.int .i64 k,.string pr,.slice ax args.length az,.bool lv,.string lt,.bool rv,.string rt] 79 (0,0)):=by rw [←bc,←hB];exact qh _ _
     have kr:wE wr Wr:=by rw [←bc];exact kAl
     have cQ:=hC.all kr;have cZ:Keep (fun b=>b<Z) W4 Wr:=hK.trans kr.mt;have gH:Z+4<=Wr.heap.size:=by have:=kr.size;omega
     have gu:Z+4<=B:=wA
     clear bd dk hC hK bp kr;rcases dN with h |h |h
     ·subst h;obtain⟨aG,aR⟩:=ex (Wr.drew);have aT:wE Wr aG:=by rw [←aR];exact kDr
      have ap:=cQ.all aT;have bz:=aT.heap dT trivial;have dq:Keep (fun b=>b<Z) W4 aG:=cZ.trans aT.mt;have eV:Z+4<=aG.heap.size:=by have:=aT.size;omega
      obtain⟨Y1,g1,dg,eN,eJ,eT,eK,bN,di⟩:=ap.at wA a1 wA;have aN:=bN _ _ _ ap.cm.box wD;have df:=bN _ _ _ ap.cm.bj wD;have dt:=bN _ _ _ bz wD;obtain⟨ce,bM⟩:=ex (Y1.setCell ⟨Z,4,none⟩ (.slice (some ⟨g1,0,none⟩) (bx+1) dg));rw [bM]at di;have cX:Keep (fun b=>b≠Z) Y1 ce:=by rw [←bM];exact kSc
      have e5:=cX.heap dt wA;have e0:Keep (fun b=>b<Z) W4 ce:=(dq.trans eK).trans (cX.mono fun b _ (h:b<Z)=>wA);have gN:Z+4<=ce.heap.size:=by have:=cX.size;omega
      have cA: ∀X:World,∀{c3 c5:Value},X.heap[Z+1]?=some (.cells #[qk Z] 35 (0,0))->X.heap[Z]?=some (.cells #[.string r.head.pred,.slice ah r.head.args.length ch,.slice ay r.body.length aA,c3,.slice cu bx cx,c5,.slice ao r.head.args.length co] 129 (0,0))->(X.cell? ⟨Z+1,0,none⟩=some (qk Z)/\X.cell? ⟨Z,4,none⟩=some (.slice cu bx cx)):=fun X c3 c5 q1 q2=>by
       have r1:=qb q1 0 _ rfl;have r2:=qb q2 4 _ rfl;simp only [zD]at r1 r2;exact⟨r1,r2⟩
      have dS:wE aG (aG.alloc (.cells #[.int .i64 (i:Int)] 3)):=kAl;have eD:=cA aG ap.cm.bj ap.cm.box;have eE:=cA _ (dS.heap ap.cm.bj wF) (dS.heap ap.cm.box wF);have eF:=cA Y1 df aN;have gr:=qg aN 4;have fv:=qb aN 4 _ rfl;have gM:=qe aN;simp only [zD]at fv;clear aT ap bz dq eK bN aN df dt cX dS cQ cZ;have al: ∀X:World,∀{c3:Value},X.heap[Z+1]?=some (.cells #[qk Z] 35 (0,0))->X.heap[Z]?=some (.cells #[.string r.head.pred,.slice ah r.head.args.length ch,.slice ay r.body.length aA,c3,.slice (some ⟨g1,0,none⟩) (bx+1) dg,.slice aY aI aZ,.slice ao r.head.args.length co] 129 (0,0))->X.heap[B]?=some (.cells #[.int .i64 1,.string pr,.slice ax args.length az,.bool lv,.string lt,.bool rv,.string rt] 79 (0,0))->(X.cell? ⟨Z+1,0,none⟩=some (qk Z)/\X.cell? ⟨Z,5,none⟩=some (.slice aY aI aZ)/\X.cell? ⟨B,2,none⟩=some (.slice ax args.length az)):=fun X c3 q1 q2 q3=>by
       have r1:=qb q1 0 _ rfl;have r2:=qb q2 5 _ rfl;have s2:=qb q3 2 _ rfl;simp only [zD]at r1 r2 s2;exact⟨r1,r2,s2⟩
      obtain⟨We,bt⟩:=ex (ce.drew);have aB:wE ce We:=by rw [←bt];exact kDr
      have g:=(di).all aB;have ak:=aB.heap (e5) trivial;have aV:Keep (fun b=>b<Z) W4 We:=(e0).trans aB.mt;have eW:Z+4<=We.heap.size:=by have:=aB.size;omega
      have aS:=qkl g.cm (qan aH ((bF.o.trans (aV.mono fun b _ (h:b<N)=>wA)).mono fun b _ h=>wA)) wA (fun a' n' c' e h0=>by have:=a0 a' n' c' e h0;exact⟨wA,wA,fun e=>by have:=g.z.2.2 _ e;omega⟩) ar (by have:=aF;simp only [qm] at this;rw [zF wD] at this;omega);have aP:=al We g.cm.bj g.cm.box ak;have fI:=qe ak;refine qby ?_ eD eE eF eN bM aR bc eJ eT a1 bt aB aS aP aH a0;clear eD eE eF eN bM aR bc eJ eT a1 bt aB aS aP aH a0;intro ee ef ci ep dx br a6 fN fO bJ cj eu aL aK bL c8;refine hd5 ?_ ar aF R hB hL;clear ar aF R hB hL;intro cn cl aM cf cg;gi_wp2;rw [a6.o,cf.o];refine qag ?_;refine qw rfl (fun X=>(X.cell? ⟨Z+1,0,none⟩=some (qk Z)/\X.cell? ⟨Z,4,none⟩=some (.slice cu bx cx))) [10] ?_;rw [br.o];refine qq [0,1,2,3,4,5] ?_
      iterate 6
       refine tkB rfl ee.o ?_
       try simp only [qr]
      refine ql ?_;refine hoR 6 rfl fun K c1=>?_;gi_wp2;refine c1.o _ _ (fun _=>ef.o) ?_;refine hoR 7 rfl fun K c2=>?_;refine qcd rfl (.tmp 69) (.tmp 71) 125 rfl rfl rfl ep.o ?_;gi_wp2;refine c2.o _ _ (fun _=>ci.o) ?_;refine hoR 8 rfl fun K c4=>?_;gi_wp2;refine c4.o _ _ (fun _=>ci.o) ?_;refine hoR 9 rfl fun K c6=>?_;gi_wp2;refine c6.o _ _ (fun _=>ci.o) ?_;refine hoR 10 rfl fun K c7=>?_;gi_wp2;rw [dx.o];refine c7.o _ _ (fun h=>absurd h wD) ?_;refine qz wB (qah ?_);clear c1 c2 c4 c6 c7;gi_wp2;refine qag ?_;refine qw rfl (fun X=>(X.cell? ⟨Z+1,0,none⟩=some (qk Z)/\X.cell? ⟨Z,5,none⟩=some (.slice aY aI aZ)/\X.cell? ⟨B,2,none⟩=some (.slice ax args.length az))) [14] ?_;rw [cj.o];refine qq [0,1,2,3,4,5,6,7,8] ?_
      iterate 9
       refine tkB rfl aK.o ?_
       try simp only [qr]
      refine ql ?_;refine hoR 9 rfl fun K l=>?_;gi_wp2;have aH:=bL.o;have R:=aM.o;have hL:=cg.o;refine⟨wF,rfl,(zU.2 aL.o).mono ?_⟩;rintro e W6 ⟨vo,c0,rfl,aj,d,k6,ai⟩;obtain⟨cv,cy,rfl⟩: ∃a c,vo=.slice a args.length c:=qi aj;have s:=g.slots hL wA d k6 ai;have cz:=g.cm.apart;have aw:W6.heap[B]?=some (.cells #[.int .i64 1,.string pr,.slice ax args.length az,.bool lv,.string lt,.bool rv,.string rt] 79 (0,0)):=k6.heap ak ⟨wA,wA,fun e=>qe4 g.cm.own ak wD e⟩;have au:Keep (fun b=>b<Z) W4 W6:=aV.trans (k6.mono fun b _ (h:b<Z)=>⟨wA,wA,fun e=>by have:=g.z.2.2 _ e;omega⟩);have eU:Z+4<=W6.heap.size:=by have:=k6.size;omega
      have bk:=aj.mono (show Z<=We.heap.size from wA);obtain⟨bi,Y,g9,a9,bl,bg,bo,bh,y,aO⟩:=s.term hL wA (by rw [R];exact bk) wA rfl;have m:=y _ _ _ s.cm.box wD;have a8:=y _ _ _ s.cm.bj wD;have bq:=y _ _ _ aw wD;obtain⟨Wf,ag⟩:=ex (Y.setCell ⟨Z,5,none⟩ (.slice (some ⟨g9,0,none⟩) (aI+1) a9));rw [ag]at aO;have kf:Keep (fun b=>b<Z) W4 Wf:=(au.trans bh).trans (by rw [←ag];exact kSc);have zf:Z+4<=Wf.heap.size:=by
       have e:Wf.heap.size=Y.heap.size:=by rw [←ag];simp [World.setCell]
       omega
      have av:wE W6 (W6.alloc (.cells #[.slice cv args.length cy] 127)):=kAl;have aQ:=al W6 s.cm.bj s.cm.box aw;have ba:=al _ (av.heap s.cm.bj wF) (av.heap s.cm.box wF) (av.heap aw wF);have bb:=al Y a8 m bq;have fY:=qg m 5;have cY:=qb m 5 _ rfl;have lY:=qe m;simp only [zD]at cY;clear bk aj d k6 ai s cz aw au bh y m a8 bq av g ak aV;refine qdx ?_ aQ ba bb bl aO kf ag bg bo bi;clear aQ ba bb bl aO kf ag bg bo bi;intro an a4 af a7 a2 cr a5 c9 dc da;gi_wp2;refine l.o _ _ (fun _=>an.o) ?_;refine hoR 10 rfl fun K U=>?_;gi_wp2;refine U.o _ _ (fun _=>a4.o) ?_;refine hoR 11 rfl fun K ad=>?_;refine qcd rfl (.tmp 79) (.tmp 85) 126 rfl rfl rfl a7.o ?_;gi_wp2;refine ad.o _ _ (fun _=>af.o) ?_;refine hoR 12 rfl fun K ae=>?_;gi_wp2;refine ae.o _ _ (fun _=>af.o) ?_;refine hoR 13 rfl fun K aD=>?_;gi_wp2;refine aD.o _ _ (fun _=>af.o) ?_;refine hoR 14 rfl fun K aE=>?_;gi_wp2;rw [a5.o];refine aE.o _ _ (fun h=>absurd h wD) ?_;refine qz wB (qah ?_);clear l U ad ae aD aE;gi_wp2;go_roundw
      case rel=>exact⟨i+1,_,_,_,wA,by go_num,a2.o,cr.o,zf⟩
      case measure=>simp [intOf];omega
     ·subst h;have al: ∀X:World,∀{c3:Value},X.heap[Z+1]?=some (.cells #[qk Z] 35 (0,0))->X.heap[Z]?=some (.cells #[.string r.head.pred,.slice ah r.head.args.length ch,.slice ay r.body.length aA,c3,.slice cu bx cx,.slice aY aI aZ,.slice ao r.head.args.length co] 129 (0,0))->X.heap[B]?=some (.cells #[.int .i64 2,.string pr,.slice ax args.length az,.bool lv,.string lt,.bool rv,.string rt] 79 (0,0))->(X.cell? ⟨Z+1,0,none⟩=some (qk Z)/\X.cell? ⟨Z,5,none⟩=some (.slice aY aI aZ)/\X.cell? ⟨B,2,none⟩=some (.slice ax args.length az)):=fun X c3 q1 q2 q3=>by
       have r1:=qb q1 0 _ rfl;have r2:=qb q2 5 _ rfl;have s2:=qb q3 2 _ rfl;simp only [zD]at r1 r2 s2;exact⟨r1,r2,s2⟩
      obtain⟨We,bt⟩:=ex (Wr.drew);have aB:wE Wr We:=by rw [←bt];exact kDr
      have g:=(cQ).all aB;have ak:=aB.heap (dT) trivial;have aV:Keep (fun b=>b<Z) W4 We:=(cZ).trans aB.mt;have eW:Z+4<=We.heap.size:=by have:=aB.size;omega
      have aS:=qkl g.cm (qan aH ((bF.o.trans (aV.mono fun b _ (h:b<N)=>wA)).mono fun b _ h=>wA)) wA (fun a' n' c' e h0=>by have:=a0 a' n' c' e h0;exact⟨wA,wA,fun e=>by have:=g.z.2.2 _ e;omega⟩) ar (by have:=aF;simp only [qm] at this;rw [zF wD] at this;omega);have aP:=al We g.cm.bj g.cm.box ak;have fI:=qe ak;refine qlx ?_ bc a1 bt aB aS aP aH a0 ar aF R hB hL;clear bc a1 bt aB aS aP aH a0 ar aF R hB hL;intro a6 bJ cj eu aL aK bL c8 cn cl aM cf cg;gi_wp2;rw [a6.o,cf.o];refine qag ?_;refine qw rfl (fun X=>(X.cell? ⟨Z+1,0,none⟩=some (qk Z)/\X.cell? ⟨Z,5,none⟩=some (.slice aY aI aZ)/\X.cell? ⟨B,2,none⟩=some (.slice ax args.length az))) [14] ?_;rw [cj.o];refine qq [0,1,2,3,4,5,6,7,8] ?_
      iterate 9
       refine tkB rfl aK.o ?_
       try simp only [qr]
      refine ql ?_;refine hoR 9 rfl fun K l=>?_;gi_wp2;have aH:=bL.o;have R:=aM.o;have hL:=cg.o;refine⟨wF,rfl,(zU.2 aL.o).mono ?_⟩;rintro e W6 ⟨vo,c0,rfl,aj,d,k6,ai⟩;obtain⟨cv,cy,rfl⟩: ∃a c,vo=.slice a args.length c:=qi aj;have s:=g.slots hL wA d k6 ai;have cz:=g.cm.apart;have aw:W6.heap[B]?=some (.cells #[.int .i64 2,.string pr,.slice ax args.length az,.bool lv,.string lt,.bool rv,.string rt] 79 (0,0)):=k6.heap ak ⟨wA,wA,fun e=>qe4 g.cm.own ak wD e⟩;have au:Keep (fun b=>b<Z) W4 W6:=aV.trans (k6.mono fun b _ (h:b<Z)=>⟨wA,wA,fun e=>by have:=g.z.2.2 _ e;omega⟩);have eU:Z+4<=W6.heap.size:=by have:=k6.size;omega
      have bk:=aj.mono (show Z<=We.heap.size from wA);obtain⟨bi,Y,g9,a9,bl,bg,bo,bh,y,aO⟩:=s.term hL wA (by rw [R];exact bk) wA rfl;have m:=y _ _ _ s.cm.box wD;have a8:=y _ _ _ s.cm.bj wD;have bq:=y _ _ _ aw wD;obtain⟨Wf,ag⟩:=ex (Y.setCell ⟨Z,5,none⟩ (.slice (some ⟨g9,0,none⟩) (aI+1) a9));rw [ag]at aO;have kf:Keep (fun b=>b<Z) W4 Wf:=(au.trans bh).trans (by rw [←ag];exact kSc);have zf:Z+4<=Wf.heap.size:=by
       have e:Wf.heap.size=Y.heap.size:=by rw [←ag];simp [World.setCell]
       omega
      have av:wE W6 (W6.alloc (.cells #[.slice cv args.length cy] 127)):=kAl;have aQ:=al W6 s.cm.bj s.cm.box aw;have ba:=al _ (av.heap s.cm.bj wF) (av.heap s.cm.box wF) (av.heap aw wF);have bb:=al Y a8 m bq;have fY:=qg m 5;have cY:=qb m 5 _ rfl;have lY:=qe m;simp only [zD]at cY;clear bk aj d k6 ai s cz aw au bh y m a8 bq av g ak aV;refine qdx ?_ aQ ba bb bl aO kf ag bg bo bi;clear aQ ba bb bl aO kf ag bg bo bi;intro an a4 af a7 a2 cr a5 c9 dc da;gi_wp2;refine l.o _ _ (fun _=>an.o) ?_;refine hoR 10 rfl fun K U=>?_;gi_wp2;refine U.o _ _ (fun _=>a4.o) ?_;refine hoR 11 rfl fun K ad=>?_;refine qcd rfl (.tmp 79) (.tmp 85) 126 rfl rfl rfl a7.o ?_;gi_wp2;refine ad.o _ _ (fun _=>af.o) ?_;refine hoR 12 rfl fun K ae=>?_;gi_wp2;refine ae.o _ _ (fun _=>af.o) ?_;refine hoR 13 rfl fun K aD=>?_;gi_wp2;refine aD.o _ _ (fun _=>af.o) ?_;refine hoR 14 rfl fun K aE=>?_;gi_wp2;rw [a5.o];refine aE.o _ _ (fun h=>absurd h wD) ?_;refine qz wB (qah ?_);clear l U ad ae aD aE;gi_wp2;go_roundw
      case rel=>exact⟨i+1,_,_,_,wA,by go_num,(a2.o.notpos (by rw [bJ.o];decide)),cr.o,zf⟩
      case measure=>simp [intOf];omega
     ·subst h;have al: ∀X:World,∀{c3:Value},X.heap[Z+1]?=some (.cells #[qk Z] 35 (0,0))->X.heap[Z]?=some (.cells #[.string r.head.pred,.slice ah r.head.args.length ch,.slice ay r.body.length aA,c3,.slice cu bx cx,.slice aY aI aZ,.slice ao r.head.args.length co] 129 (0,0))->X.heap[B]?=some (.cells #[.int .i64 3,.string pr,.slice ax args.length az,.bool lv,.string lt,.bool rv,.string rt] 79 (0,0))->(X.cell? ⟨Z+1,0,none⟩=some (qk Z)/\X.cell? ⟨Z,5,none⟩=some (.slice aY aI aZ)/\X.cell? ⟨B,3,none⟩=some (.bool lv)/\X.cell? ⟨B,4,none⟩=some (.string lt)/\X.cell? ⟨B,5,none⟩=some (.bool rv)/\X.cell? ⟨B,6,none⟩=some (.string rt)):=fun X c3 q1 q2 q3=>by
       have r1:=qb q1 0 _ rfl;have r2:=qb q2 5 _ rfl;have s3:=qb q3 3 _ rfl;have s4:=qb q3 4 _ rfl;have s5:=qb q3 5 _ rfl;have s6:=qb q3 6 _ rfl;simp only [zD]at r1 r2 s3 s4 s5 s6;exact⟨r1,r2,s3,s4,s5,s6⟩
      obtain⟨aG,aR⟩:=ex (Wr.drew);obtain⟨Tt,dI⟩:=ex (aG.heap.size);obtain⟨Wt,cT⟩:=ex (aG.alloc (.cells #[.bool lv,.string lt,.bool rv,.string rt] 77));have aT:wE Wr aG:=by rw [←aR];exact kDr
      have cI:wE aG Wt:=by rw [←cT];exact kAl
      have b2:Wt.heap[Tt]?=some (.cells #[.bool lv,.string lt,.bool rv,.string rt] 77 (0,0)):=by rw [←cT,←dI];exact qh _ _
      have ap:=cQ.all aT;have g:=ap.all cI;have bz:=aT.heap dT trivial;have ak:=cI.heap bz trivial;have aV:Keep (fun b=>b<Z) W4 Wt:=(cZ.trans aT.mt).trans cI.mt;have eV:Z+4<=Tt:=by have:=aT.size;omega
      have eW:Z+4<=Wt.heap.size:=by have:=cI.size;omega
      have gL:=qe b2;have eQ:qak (Tt+1) Wt (.slice (some ⟨Tt,0,none⟩) 2 2) [⟨lv,lt⟩,⟨rv,rt⟩]:=by
       have t0:=qb b2 0 _ rfl;have t1:=qb b2 1 _ rfl;have t2:=qb b2 2 _ rfl;have t3:=qb b2 3 _ rfl;simp only [zD]at t0 t1 t2 t3;refine⟨_,2,rfl,wC,⟨wC,by simp [maxLen]⟩,fun k x hx=>⟨Tt,0,rfl,wA,?_⟩⟩;rw [zD]
       match k,hx with
       |0,hx=>cases hx;exact⟨t0,t1⟩
       |1,hx=>cases hx;exact⟨t2,t3⟩
       |k+2,hx=>simp at hx
      have eR:(Value.slice fs (qbw r i).length fx).ownBlock≠some Tt:=fun e=>by have:=(zE ap.cm.own Tt e).2;omega
      have aS:=qkl g.cm eQ wA (fun a' n' c' e h0=>by injection e with e1;injection e1 with e1;subst e1;exact⟨by simp only;omega,by simp only;omega,eR⟩) (fun t ht=>ar t ht) (by simp;omega);have aP:=al aG ap.cm.bj ap.cm.box bz;have eC:=al Wt g.cm.bj g.cm.box ak;have gK:=qe bz;clear aT cI b2 ap bz eQ eR;refine qub ?_ a1 aR dI cT aS aP eC aH a0 ar aF R hB bc hL;clear a1 aR dI cT aS aP eC aH a0 ar aF R hB bc hL;intro bJ br ed el aL aK ec bL c8 cn cl aM cf a6 cg;gi_wp2;rw [a6.o,cf.o];refine qag ?_;refine qw rfl (fun X=>(X.cell? ⟨Z+1,0,none⟩=some (qk Z)/\X.cell? ⟨Z,5,none⟩=some (.slice aY aI aZ)/\X.cell? ⟨B,3,none⟩=some (.bool lv)/\X.cell? ⟨B,4,none⟩=some (.string lt)/\X.cell? ⟨B,5,none⟩=some (.bool rv)/\X.cell? ⟨B,6,none⟩=some (.string rt))) [16] ?_;rw [br.o];refine qq [0,1,2,3,4,5,6,7,8,9] ?_
      iterate 10
       refine tkB rfl aK.o ?_
       try simp only [qr]
      refine ql ?_;refine hoR 10 rfl fun K bG=>?_;gi_wp2;rw [el.o,ed.o];refine bG.o _ _ (fun _=>ec.o) ?_;refine hoR 11 rfl fun K l=>?_;gi_wp2;have R:=aM.o;have hL:=cg.o;refine⟨wF,rfl,(zU.2 aL.o).mono ?_⟩;rintro e W6 ⟨vo,c0,rfl,aj,d,k6,ai⟩;obtain⟨cv,cy,rfl⟩: ∃a c,vo=.slice a 2 c:=qi aj;have s:=g.slots hL wA d k6 ai;have cz:=g.cm.apart;have aw:W6.heap[B]?=some (.cells #[.int .i64 3,.string pr,.slice ax args.length az,.bool lv,.string lt,.bool rv,.string rt] 79 (0,0)):=k6.heap ak ⟨wA,wA,fun e=>qe4 g.cm.own ak wD e⟩;have au:Keep (fun b=>b<Z) W4 W6:=aV.trans (k6.mono fun b _ (h:b<Z)=>⟨wA,wA,fun e=>by have:=g.z.2.2 _ e;omega⟩);have eU:Z+4<=W6.heap.size:=by have:=k6.size;omega
      have bk:=aj.mono (show Z<=Wt.heap.size from wA);obtain⟨bi,Y,g9,a9,bl,bg,bo,bh,y,aO⟩:=s.term hL wA (by rw [R];exact bk) wA rfl;have m:=y _ _ _ s.cm.box wD;have a8:=y _ _ _ s.cm.bj wD;have bq:=y _ _ _ aw wD;obtain⟨Wf,ag⟩:=ex (Y.setCell ⟨Z,5,none⟩ (.slice (some ⟨g9,0,none⟩) (aI+1) a9));rw [ag]at aO;have kf:Keep (fun b=>b<Z) W4 Wf:=(au.trans bh).trans (by rw [←ag];exact kSc);have zf:Z+4<=Wf.heap.size:=by
       have e:Wf.heap.size=Y.heap.size:=by rw [←ag];simp [World.setCell]
       omega
      have av:wE W6 (W6.alloc (.cells #[.slice cv 2 cy] 127)):=kAl;have aQ:=al W6 s.cm.bj s.cm.box aw;have ba:=al _ (av.heap s.cm.bj wF) (av.heap s.cm.box wF) (av.heap aw wF);have bb:=al Y a8 m bq;have fY:=qg m 5;have cY:=qb m 5 _ rfl;have lY:=qe m;simp only [zD]at cY;clear bk aj d k6 ai s cz aw au bh y m a8 bq av g ak aV;refine qdx ?_ aQ ba bb bl aO kf ag bg bo bi;clear aQ ba bb bl aO kf ag bg bo bi;intro an a4 af a7 a2 cr a5 c9 dc da;gi_wp2;refine l.o _ _ (fun _=>an.o) ?_;refine hoR 12 rfl fun K U=>?_;gi_wp2;refine U.o _ _ (fun _=>a4.o) ?_;refine hoR 13 rfl fun K ad=>?_;refine qcd rfl (.tmp 50) (.tmp 58) 126 rfl rfl rfl a7.o ?_;gi_wp2;refine ad.o _ _ (fun _=>af.o) ?_;refine hoR 14 rfl fun K ae=>?_;gi_wp2;refine ae.o _ _ (fun _=>af.o) ?_;refine hoR 15 rfl fun K aD=>?_;gi_wp2;refine aD.o _ _ (fun _=>af.o) ?_;refine hoR 16 rfl fun K aE=>?_;gi_wp2;rw [a5.o];refine aE.o _ _ (fun h=>absurd h wD) ?_;refine qz wB (qah ?_);clear l U ad ae aD aE;gi_wp2;go_roundw
      case rel=>exact⟨i+1,_,_,_,wA,by go_num,(a2.o.notpos (by rw [bJ.o];decide)),cr.o,zf⟩
      case measure=>simp [intOf];omega
    ·obtain rfl:i=r.body.length:=by omega
     have hj:=hC.join (N:=N) wA (cM.o wr hK) es.o (by have:=db.o _ (zG _);have:=bH.o;omega) (fun L hL=>by have:=bK.o L hL;omega);have q:=qb hC.cm.bj 0 _ rfl;have lq:=qe hC.cm.bj;simp only [zD]at q;have e4:Keep (fun b=>b<N) w wr:=bF.o.trans (hK.mono fun b _ (h:b<N)=>wA);clear dO hC;refine hd3 ?_ hj hK e4;clear hj hK e4;intro fm gi ew;gi_wp2;refine yA (v:=.tuple #[qk Z,.int .i64 0]) (by simp [results,Tryz.results9,go_sem]) rfl ?_;rw [a3.o];exact⟨ew.o,.inr ⟨bs.o,_,_,_,_,_,_,_,rfl,fm.o⟩⟩
end Go.Proofs
namespace Go.Proofs
open Go.RowKit Go.Ink P16
attribute [local go_sem] Oper.semAt_some
def okR (low:Bool)(k:Nat)(c:Int):Bool:=if k=0 then (if low=true then qgr c else qfw c) else qcb c
def qcm (s:ByteArray)(low:Bool):Bool:=qbv s&&(if low=true then qgr (qez s) else qfw (qez s))
theorem qtw {s:ByteArray}{c:Int}(h:(qcq s)[0]?=some c):qez s=c:=by
 unfold qez;cases b:qcq s with
 |nil=>rw [b] at h;cases h
 |cons x xs=>rw [b] at h;cases h;rfl
theorem qtx {c:Int}(h:qgr c=true):qcb c=true:=by unfold qcb;rw [h];rfl
theorem qty {c:Int}(h:qfw c=true):qcb c=true:=by unfold qcb;rw [h];simp
theorem q1i {s:ByteArray}{low:Bool}{k:Nat}{c:Int}(h:(qcq s)[k]?=some c)(b:okR low k c=false):qcm s low=false:=by
 unfold qcm;unfold okR at b;by_cases d:k=0
 ·subst d;rw [zI rfl]at b;rw [qtw h,b,yO]
 ·rw [zF d]at b;unfold qbv;rw [qju _ _ h b]
  rfl
theorem qy5 {s:ByteArray}{low:Bool}(b:0<s.size)(d:s.size<=64)(h: ∀(k:Nat) (c:Int),(qcq s)[k]?=some c->okR low k c=true):qcm s low=true:=by
 unfold qcm qbv;have e:=h 0 _ (qgb s b);unfold okR at e;rw [zI rfl]at e;rw [qtw (qgb s b),e,zS (show 1<=s.size from b),zS d,xK,xK,xK,yM];intro c g;obtain⟨k,l⟩:=zy.1 g;have:=h k c l;unfold okR at this;split at this
 ·split at this
  ·exact qtx this
  ·exact qty this
 ·exact this
theorem qtz {low:Bool}{k:Nat}{c:Int}(h:128<=c):okR low k c=false:=by
 have b:qgr c=false:=by unfold qgr;rw [zM (show ¬c<=122 from wA),yO]
 have d:qfw c=false:=by unfold qfw;rw [zM (show ¬c<=90 from wA),yO]
 have e:qi0 c=false:=by unfold qi0;rw [zM (show ¬c<=57 from wA),yO]
 unfold okR qcb;rw [b,d,e,zM (show ¬c=95 from wA)];split<;>simp
theorem q1j (s:ByteArray)(low:Bool)(k:Nat)(b:k<s.size):okR low k ((Utf8.decode s k).1:Int)=okR low k ((s[k].toNat:Nat):Int)/\(okR low k ((Utf8.decode s k).1:Int)=true->(Utf8.decode s k).2=1):=by
 by_cases h:(s[k]'b).toNat<128
 ·rw [decode_ascii s k b h];exact⟨rfl,fun _=>rfl⟩
 ·have e:=(decode_high s k b wA).1;have d:=qtz (low:=low) (k:=k) (c:=((Utf8.decode s k).1:Int)) wA;rw [d,qtz wA];exact⟨rfl,fun h=>(by cases h)⟩
theorem qy6 {s:ByteArray}(h:s.toList.isEmpty=true):s=⟨#[]⟩:=by
 by_cases c:s=⟨#[]⟩
 ·exact c
 ·have b:=(show(s.toList==(⟨#[]⟩:ByteArray).toList)=false from by rw [←beq_toListBytes];simpa using c);cases e:s.toList with
  |nil=>rw [e,show(⟨#[]⟩:ByteArray).toList= [] from by first |rfl |simp] at b;simp at b
  |cons x xs=>rw [e] at h;cases h
theorem qmm (s:ByteArray)(low:Bool)(w:World):Calls prog 202 #[.string s,.bool low] w fun e w'=>e=.returned (.bool (qcm s low))/\wE w w':=by
 by_cases h0:s.size=0
 ·have hs:s=⟨#[]⟩:=by
   obtain⟨⟨l⟩⟩:=s;have:l.length=0:=h0;cases l with
   |nil=>rfl
   |cons x xs=>cases this
  have t:qcm s low=false:=by unfold qcm qbv;rw [zM (show ¬1<=s.size from wA),yZ,yO,yZ]
  rw [t];subst hs;clear t h0
  go_enter Tryz.func202,Tryz.ntmps202
  go_wp2;go_ret;exact⟨rfl,Keep.refl _ _⟩
 have aQ:s.toList.isEmpty=false:=by
  cases h:s.toList.isEmpty with
  |false=>rfl
  |true=>have:=qy6 h;subst this;exact absurd rfl h0
 rcases yY 64 s.size with h64 |h64
 ·have t:qcm s low=false:=by
   unfold qcm qbv;rw [zM (show ¬s.size<=64 from wA),yO,yO,yZ]
  have ai:(64:Int)<s.size:=wA
  rw [t];clear t h64
  go_enter Tryz.func202,Tryz.ntmps202
  go_wp2;go_ret;exact⟨rfl,Keep.refl _ _⟩
 have ai: ¬((64:Int)<s.size):=wA
 obtain⟨N,hN⟩:=ex (w.heap.size);refine hd1 ?_ hN;clear hN;intro y
 go_enter Tryz.func202,Tryz.ntmps202
 go_wp2;rw [y.o]
 go_loopw [] (fun wr=> ∃k:Nat,k<=s.size/\wr.heap[N]?=some (.stringIter s k)/\Keep (fun b=>b<N) w wr/\ ∀(j:Nat) (c:Int),j<k->(qcq s)[j]?=some c->okR low j c=true) (fun wr=>s.size-wr.iterPos N)
 case atStart=>exact⟨0,wA,by rw [←y.o];exact World.iter_heap w s 0,kAl,fun j c hj=>wA⟩
 case round=>
  obtain⟨k,hk,q,hK,p⟩:=hrel;have ad:wr.iterPos N=k:=by simp [World.iterPos,q]
  by_cases v:k<s.size
  ·have am: ∀ty,(Instr.next (.pointer (some ⟨N,0,none⟩)) true ty).run prog wr=_:=fun ty=>Lib.run_next_any_at wr N s k ty q v;have d:=Lib.iterAt_heap wr N s k (k+(Utf8.decode s k).2) q;have R:Keep (fun b=>b<N) w (wr.iterAt N s (k+(Utf8.decode s k).2)):=hK.trans ⟨rfl,rfl,rfl,by rw [Lib.iterAt_size];exact zG _,fun i _ hi=>Lib.iterAt_other wr N i s _ wA⟩;obtain⟨W1,aj⟩: ∃W1,W1=wr.iterAt N s (k+(Utf8.decode s k).2):=⟨_,rfl⟩;obtain⟨Y,aa⟩:=q1j s low k v;have ax:=decode_le s k;have m:=qgb s v;obtain⟨wd,an⟩:=ex ((Utf8.decode s k).2);obtain⟨c,hc⟩:=ex ((Utf8.decode s k).1);rw [←aj]at am d R;rw [hc]at am Y aa ax;rw [an]at aa d;have u:okR low k (c:Int)=true-> ∃k':Nat,k'<=s.size/\W1.heap[N]?=some (.stringIter s k')/\Keep (fun b=>b<N) w W1/\(∀(j:Nat) (c:Int),j<k'->(qcq s)[j]?=some c->okR low j c=true)/\W1.iterPos N=k+1:=fun h=>by
    have e:=aa h;subst e;refine⟨k+1,wA,d,R,fun j c' hj g=>?_,by simp [World.iterPos,d]⟩;by_cases ay:j<k
    ·exact p j c' ay g
    ·obtain rfl:j=k:=by omega
     rw [m]at g;cases g;rw [←Y];exact h
   have ab:okR low k (c:Int)=false->qcm s low=false:=fun h=>q1i m (by rw [←Y];exact h);clear q d hK p Y aa m an aj hc;refine hd3 ?_ u ab R;clear u ab R;intro z af ah;have ak:0<k-> ¬((k:Int)=0):=fun h=>wA
   have al:0<k->(0:Int)<k:=fun h=>wA
   have U:0<k-> ¬k=0:=fun h=>wA
   by_cases f0:(97:Int)<=(c:Int)<;>by_cases f1:(c:Int)<=122<;>by_cases f2:(65:Int)<=(c:Int)<;>by_cases f3:(c:Int)<=90<;>by_cases f4:(48:Int)<=(c:Int)<;>by_cases f5:(c:Int)<=57<;>by_cases f6:(c:Int)=95
   all_goals try (exfalso;omega)
   all_goals rcases Bool.eq_false_or_eq_true (okR low k (c:Int)) with g |g
   all_goals rcases Nat.eq_zero_or_pos k with hk0 |hk0
   all_goals first |subst hk0 |(have ak:=ak hk0;have al:=al hk0;have U:=U hk0)
   all_goals cases low
   all_goals try (simp [okR,qcb,qgr,qfw,qi0,f0,f1,f2,f3,f4,f5,f6,U] at g;done)
   all_goals clear U
   all_goals first
    |have t:=af.o g
     clear g;refine hd1 ?_ t;clear t;intro ae;go_wp2;go_ret;exact⟨by rw [ae.o];rfl,ah.o.mono fun b g _=>by have:=y.o;omega⟩
    |obtain⟨k',g1,g2,g3,g4,g5⟩:=z.o g
     clear g;refine hd4 ?_ g2 g3 g4 g5;clear g2 g3 g4 g5;intro ap aq ar au;go_wp2;go_roundw
     case rel=>exact⟨k',g1,ap.o,aq.o,ar.o⟩
     case measure=>rw [au.o,ad];omega
  ·obtain rfl:k=s.size:=by omega
   have aF: ∀ty,(Instr.next (.pointer (some ⟨N,0,none⟩)) true ty).run prog wr=_:=fun ty=>Lib.run_next_end_at wr N s s.size ty q v;have t:qcm s low=true:=qy5 wA h64 (fun j c g=>p j c (by have:=(zA.1 g).1;rw [qjc] at this;exact this) g);clear p q v ad;refine hd2 ?_ t hK;clear t hK;intro ae av;go_wp2;go_ret;exact⟨by rw [ae.o];rfl,av.o.mono fun b g _=>by have:=y.o;omega⟩
end Go.Proofs
