/- Parts of the proof. -/
import Derived.Test.YtnponcjnahicnaaGreatDoorCmCToCmD
set_option linter.unusedSimpArgs false
set_option linter.unusedVariables false
set_option maxRecDepth 100000
set_option maxHeartbeats 4000000
open Go.Proofs.Tryz(prog)
open List(length_cons length_nil)
namespace Go.Proofs
open Go.RowKit Go.Ink Go.Flt R4 P16
attribute [local go_sem] Oper.semAt_some
def qcy (r:RuleD):Int:=if qak r=true then (if S12.looseOf r=none then 0 else 14) else 2
def qoe:Prop:= ∀(n:Nat) (r:RuleD) (sh sb:Value) (w:World),RuleIn n w sh sb r->n<=w.heap.size->Calls prog 57 #[qaz r sh sb] w fun e w'=>e=.returned (.bool (qak r))/\Keep (fun b=>b<w.heap.size) w w'
theorem q09 {r:RuleD}(h:qak r=true):(r.body.flatMap LitD.uses).length<=1073741824:=by
 unfold qak at h;rw [zV,zV,zT,yL]at h;have c: ∀L,L∈r.body->L.uses.length<=16:=fun L b=>by
  have b:=h.2 L b;unfold LitD.uses;rw [zL];refine zW (yd _ _) ?_;unfold qb3 at b;unfold LitD.terms;split at b
  ·rename_i hk;rw [zI hk];unfold qch at b;simp only [zV,zT]at b;exact b.1.1.1.2
  ·rename_i hk;rw [zF hk];split
   ·simp
   ·simp
 have d: ∀l:List LitD,(∀L,L∈l->L.uses.length<=16)->(l.flatMap LitD.uses).length<=16*l.length:=by
  intro l
  induction l with
  |nil=>intro _;simp
  |cons L l ih=>
   intro e;rw [yE,zR,length_cons];have g:=e L (yI ..);have i:=ih fun x f=>e x (yC _ f);omega
 have:=d r.body c;omega
theorem qbr {r:RuleD}(h:qak r=true):r.body.length<=256/\qch r.head=true/\ ∀L,L∈r.body->qb3 L=true:=by
 unfold qak at h;rw [zV,zV,zT,yL]at h;exact⟨h.1.1,h.1.2,h.2⟩
theorem qm2 {t:TermD}(h:qa4 t=true):t.text.size<=1073741824:=by
 unfold qa4 at h;split at h
 ·unfold qg9 qbi at h;simp only [zV,zT]at h;omega
 ·unfold qga at h;have:=yD h;omega
theorem qfl {a:qfx}(h:qch a=true):qdi a.pred=true/\a.args.length<=16/\ ∀t,t∈a.args->qa4 t=true:=by
 unfold qch at h;rw [zV,zV,zT,yL]at h;exact⟨h.1.1,h.1.2,h.2⟩
theorem qlu {L:LitD}(h:qb3 L=true):(ql L).length<=16/\ ∀t,t∈ql L->qa4 t=true:=by
 unfold qb3 at h;unfold ql;split at h
 ·rename_i hk;rw [zF xz];simp only [zV]at h;obtain⟨-,c,d⟩:=qfl h.1.1;exact⟨c,d⟩
 ·split at h
  ·rename_i hk;rw [zI hk];simp only [zV]at h;refine⟨wB,fun t b=>?_⟩;simp only [zt,yR,yf]at b;rcases b with rfl |rfl
   ·exact h.1.2
   ·exact h.2
  ·cases h
theorem qrt {r:RuleD}(h:qak r=true): ∀L,L∈r.body->(ql L).length<=16:=fun L b=>(qlu ((qbr h).2.2 L b)).1
theorem qnm {r:RuleD}(h:qak r=true):r.head.args.length<=16:=(qfl (qbr h).2.1).2.1
theorem qru {r:RuleD}(h:qak r=true):r.body.length<=256:=(qbr h).1
theorem qof {r:RuleD}(h:qak r=true): ∀L,L∈r.body-> ∀t,t∈ql L->t.text.size<=1073741824:=fun L b t c=>qm2 ((qlu ((qbr h).2.2 L b)).2 t c)
theorem qv9 {r:RuleD}(h:qak r=true): ∀t,t∈r.head.args->t.text.size<=1073741824:=fun t b=>qm2 ((qfl (qbr h).2.1).2.2 t b)
theorem qrv {r:RuleD}(h:qak r=true): ∀i,i<=r.body.length->(qbj r i).length<=16+16*i:=by
 intro i
 induction i with
 |zero=>
  intro _;have b:=(qdl r.head.args []).2.2.2.2;have d:=qnm h;show(qa0 [] r.head.args).length<=_;simp only [length_nil]at b;omega
 |succ i ih=>
  intro hi;obtain⟨L,c⟩: ∃L,r.body[i]?=some L:=⟨_,zB xz⟩;rw [qia r c];have b:=(qdl (ql L) (qbj r i)).2.2.2.2;have d:=qrt h L (zH c);have e:=ih xz;omega
theorem qub (bv:qoe){n:Nat}{r:RuleD}{sh sb:Value}{w:World}(hr:RuleIn n w sh sb r)(hn:n<=w.heap.size):
  Calls prog 9 #[qaz r sh sb] w fun e w'=>Keep (fun b=>b<w.heap.size) w w'/\((qcy r≠0/\e=.returned (.tuple #[.pointer none,.int .i64 (qcy r)]))∨(qcy r=0/\ ∃J vha vb vv va vt vh,e=.returned (.tuple #[qj J,.int .i64 0])/\
   JoinAt (fun b=>w.heap.size<=b/\b<w'.heap.size) w'.heap.size w' J r (qbj r r.body.length) (qcg r.body r.body.length) vha vb vv va vt vh)):=by
 obtain⟨aa,ca,rfl,gz,fZ,dl⟩:=id hr.1;obtain⟨ab,cb,rfl,gA,gx,dm⟩:=id hr.2;obtain⟨N,hN⟩:=ex (w.heap.size);obtain⟨W1,cB⟩:=ex (w.alloc (.cells #[.string r.head.pred,.slice aa r.head.args.length ca,.slice ab r.body.length cb] 27));have k1:wD w W1:=by rw [←cB];exact kAl
 have z1:W1.heap.size=N+1:=by rw [←cB,←hN];simp
 have b1:W1.heap[N]?=some (.cells #[.string r.head.pred,.slice aa r.head.args.length ca,.slice ab r.body.length cb] 27 (0,0)):=by rw [←cB,←hN];exact qh _ _
 have bl: ∀X,Keep (fun b=>b<N) w X->RuleIn n X (.slice aa r.head.args.length ca) (.slice ab r.body.length cb) r:=fun X hX=>hr.keep (hX.mono fun b _ h=>xz);have eI: ∀X,Keep (fun b=>b<W1.heap.size) W1 X->X.cell? ⟨N,0,none⟩=some (.string r.head.pred)/\X.cell? ⟨N,1,none⟩=some (.slice aa r.head.args.length ca)/\X.cell? ⟨N,2,none⟩=some (.slice ab r.body.length cb)/\N<X.heap.size:=fun X hX=>by
  have q:=hX.heap b1 (show N<W1.heap.size from xz);have q0:=qb q 0 _ rfl;have q1:=qb q 1 _ rfl;have q2:=qb q 2 _ rfl;simp only [zD]at q0 q1 q2;exact⟨q0,q1,q2,qe q⟩
 have dL:=bv n r _ _ W1 (bl W1 k1.mt) (by have:=k1.size;omega);unfold qaz at dL⊢;refine qho ?_ hr hn dl dm hN cB k1 b1 bl eI dL bv;clear hr hn dl dm hN cB k1 b1 bl eI dL bv;intro fo dA dy dz a1 eg dE gi aV ck en fd;refine qbl Tryz.func9 rfl ?_;simp only [Tryz.ntmps9,qdm,Nat.reduceAdd,Nat.reduceSub];gi_wp2;rw [eg.o,a1.o];refine⟨wE,rfl,(zU.2 en.o).mono ?_⟩;rintro e W2 ⟨rfl,k2⟩;have bV:Keep (fun b=>b<N) w W2:=dE.o.mt.trans (k2.mono fun b _ (h:b<N)=>xz);obtain⟨fb,bu⟩:=ex (qak r);rw [bu];obtain⟨q0,q1,q2,q3⟩:=ck.o W2 k2;cases fb with
 |false=>
  have hc:qcy r=2:=by unfold qcy;rw [bu];rfl
  refine hd4 ?_ k2 bV bu hc;clear k2 bV bu hc;intro dF de bI br;gi_wp2;refine zz (v:=.tuple #[.pointer none,.int .i64 2]) (by simp [results,Tryz.results9,go_sem]) rfl ⟨by rw [a1.o];exact de.o,.inl ⟨by rw [br.o];decide,by rw [br.o]⟩⟩
 |true=>
  have eO:=S12.rule_any r _ _ W2 ((aV.o W2 bV).wider (by have:=bV.size;have:=dA.o;omega)) (q09 bu);refine hd4 ?_ k2 bV bu eO;clear k2 bV bu eO;intro dF de bI er;gi_wp2;refine⟨wE,rfl,(zU.2 er.o).mono ?_⟩;rintro e W3 ⟨rfl,k3⟩;have bU:Keep (fun b=>b<W1.heap.size) W1 W3:=dF.o.trans (k3.mono fun b _ (h:b<W1.heap.size)=>by have:=dF.o.size;omega);have bW:Keep (fun b=>b<N) w W3:=dE.o.mt.trans (bU.mono fun b _ (h:b<N)=>xz);clear q0 q1 q2 q3;obtain⟨q0,q1,q2,q3⟩:=ck.o W3 bU;cases hl:S12.looseOf r with
  |some x=>
   have hc:qcy r=14:=by unfold qcy;rw [bI.o,zI rfl,hl,zF wB]
   unfold S12.ruleAns;refine hd5 ?_ bU bW hl hc k3;clear bU bW hl hc k3;intro cp cs fn br fq;gi_wp2;refine zz (v:=.tuple #[.pointer none,.int .i64 14]) (by simp [results,Tryz.results9,go_sem]) rfl ⟨by rw [a1.o];exact cs.o,.inl ⟨by rw [br.o];decide,by rw [br.o]⟩⟩
  |none=>
   have hc:qcy r=0:=by unfold qcy;rw [bI.o,zI rfl,hl,zI rfl]
   have dK:=qj8 n r _ _ W3 (aV.o W3 bW) (by have:=bW.size;have:=dA.o;omega);unfold S12.ruleAns;unfold qaz at dK;refine hd6 ?_ bU bW hl hc k3 dK;clear bU bW hl hc k3 dK;intro cp cs fn br fq em;gi_wp2;refine⟨wE,rfl,(zU.2 em.o).mono ?_⟩;rintro e W4 ⟨vh,vb,rfl,bO,k4⟩;obtain⟨ah,ch,rfl⟩: ∃a c,vh=.slice a r.head.args.length c:=qi bO.1;obtain⟨aw,ay,rfl⟩: ∃a c,vb=.slice a r.body.length c:=by
    obtain⟨ps,h1,h2,-⟩:=bO.2;exact qi h2
   have eX:Keep (fun b=>b<W1.heap.size) W1 W4:=cp.o.trans (k4.mono fun b _ (h:b<W1.heap.size)=>by have:=cp.o.size;omega);refine hd3 ?_ bO k4 eX;clear bO k4 eX;intro dB gk cq;have d7:=cs.o;refine hd1 ?_ d7;clear d7;intro eb;clear q0 q1 q2 q3;have fF:= @run_makeMap prog;have cU:=ck.o W4 cq.o;have du:Keep (fun b=>b<N) w W4:=dE.o.mt.trans (cq.o.mono fun b _ (h:b<N)=>xz);obtain⟨Z,hZ⟩:=ex (W4.heap.size);have gw:N+1<=Z:=by have:=cq.o.size;omega
   have gB:n<=N:=by have:=dA.o;have:=a1.o;omega
   have eP:=qjf fo.o;have an:=bI.o;have cF: ∀L,L∈r.body->(ql L).length<=16:=qrt an;have cC:r.head.args.length<=16:=qnm an;have cD:r.body.length<=256:=qru an;have eS: ∀i,i<=r.body.length->(qbj r i).length<=16+16*i:=qrv an;have dn:=qof an;have cH:=qv9 an;have eL:=qi7 an;obtain⟨W5,cR⟩:=ex ((((W4.alloc (.cells #[.string r.head.pred,.slice ah r.head.args.length ch,.slice aw r.body.length ay,.slice none 0 0,.slice none 0 0,.slice none 0 0,.slice none 0 0] 129)).alloc (.cells #[.pointer (some ⟨Z,0,none⟩)] 35)).alloc (.map #[] 0)).alloc (.cells #[.map (some (Z+1+1))] 130));have dR:wD W4 W5:=by rw [←cR];exact((kAl.trans kAl).trans kAl).trans kAl
   have cE:CmAt W5 (Z+1+1+1) (Z+1+1) (Z+1) Z (.string r.head.pred) (.slice ah r.head.args.length ch) (.slice aw r.body.length ay) (.slice none 0 0) (.slice none 0 0) (.slice none 0 0) (.slice none 0 0) []:=by
    have p1:=qh W4 (.cells #[.string r.head.pred,.slice ah r.head.args.length ch,.slice aw r.body.length ay,.slice none 0 0,.slice none 0 0,.slice none 0 0,.slice none 0 0] 129);have p2:=qh (W4.alloc (.cells #[.string r.head.pred,.slice ah r.head.args.length ch,.slice aw r.body.length ay,.slice none 0 0,.slice none 0 0,.slice none 0 0,.slice none 0 0] 129)) (.cells #[.pointer (some ⟨Z,0,none⟩)] 35);have p3:=qhf (P:=prog) (K:=9) (ek:=Value.string) (ev:=qsn) ((W4.alloc (.cells #[.string r.head.pred,.slice ah r.head.args.length ch,.slice aw r.body.length ay,.slice none 0 0,.slice none 0 0,.slice none 0 0,.slice none 0 0] 129)).alloc (.cells #[.pointer (some ⟨Z,0,none⟩)] 35));have p4:=qh (((W4.alloc (.cells #[.string r.head.pred,.slice ah r.head.args.length ch,.slice aw r.body.length ay,.slice none 0 0,.slice none 0 0,.slice none 0 0,.slice none 0 0] 129)).alloc (.cells #[.pointer (some ⟨Z,0,none⟩)] 35)).alloc (.map #[] 0)) (.cells #[.map (some (Z+1+1))] 130);simp only [zO,hZ]at p1 p2 p3 p4;rw [←cR];exact⟨p4,p3.keep (Keep.alloc (fun _=>True) _ _) wE,((Keep.alloc (fun _=>True) _ _).trans kAl).heap p2 wE,(((Keep.alloc (fun _=>True) _ _).trans kAl).trans kAl).heap p1 wE,zj _ _ _ _⟩
   have bl: ∀X,Keep (fun b=>b<Z) W4 X->RuleIn n X (.slice aa r.head.args.length ca) (.slice ab r.body.length cb) r/\X.cell? ⟨N,1,none⟩=some (.slice aa r.head.args.length ca)/\X.cell? ⟨N,2,none⟩=some (.slice ab r.body.length cb)/\N<X.heap.size:=fun X hX=>
    ⟨aV.o X (du.trans (hX.mono fun b _ (h:b<N)=>xz)),hX.cell cU.2.1 (show N<Z from xz),hX.cell cU.2.2.1 (show N<Z from xz),by have:=hX.size;omega⟩
   have cG: ∀X,Keep (fun b=>b<Z) W4 X->RuleOwn N 79 77 X (.slice ah r.head.args.length ch) (.slice aw r.body.length ay) r:=fun X hX=>by
    have gF:=eb.o.size;obtain⟨h1,ps,h2,h3,h4⟩:=dB.o;exact⟨(qf h1 hX (fun b hb=>by have:=(zE h1 b hb).2;omega)).mono (by have:=a1.o;omega),ps,h2,(qf h3 hX (fun b hb=>by have:=(zE h3 b hb).2;omega)).mono (by have:=a1.o;omega),fun p hp=>(qf (h4 p hp) hX (fun b hb=>by have:=(zE (h4 p hp) b hb).2;omega)).mono (by have:=a1.o;omega)⟩
   obtain⟨Wd,dJ⟩:=ex (W5.drew);have cW:wD W5 Wd:=by rw [←dJ];exact kDr
   have bc:=cE.all cW;have cV:Keep (fun b=>b<Z) W4 Wd:=(dR.trans cW).mt;have eV:Z+4<=Wd.heap.size:=by have:=qe bc.bm;omega
   have dM: ∀a' n' c',Value.slice aa r.head.args.length ca=.slice (some a') n' c'->0<r.head.args.length->a'.block<N:=fun a' n' c' e h0=>by
    injection e with e1 e2 e3
    obtain⟨t,ht⟩: ∃t,r.head.args[0]?=some t:=⟨_,zB h0⟩;obtain⟨b,o,hb,fD,-⟩:=dy.o 0 t ht;rw [e1]at hb;injection hb with hb
    rw [hb];simp only;omega
   have aQ:=qjn (Bm:=Z+1+1+1) (M:=Z+1+1) (Bjj:=Z+1) (J:=Z) (a:=none) (c:=0) (vars:= []) bc (bl Wd cV).1.1 xz (fun a' n' c' e h0=>by have:=dM a' n' c' e h0;exact⟨xz,xz,by simp [Value.ownBlock]⟩) cH (by simp;omega);have hS: ∀X,X.heap[Z+1]?=some (.cells #[qj Z] 35 (0,0))->Keep (fun b=>b<Z) W4 X->X.cell? ⟨Z+1,0,none⟩=some (qj Z)/\X.cell? ⟨N,1,none⟩=some (.slice aa r.head.args.length ca):=fun X h1 h2=>by
    have q:=qb h1 0 _ rfl;simp only [zD]at q;exact⟨q,(bl X h2).2.1⟩
   have aN:=hS Wd bc.bj cV;refine qde ?_ cU du hZ eP an cF cC cD eS dn cH eL cR dR cE bl;clear cU du hZ eP an cF cC cD eS dn cH eL cR dR cE bl;intro fL bF fi es fl bK fc bH db dC fp eo eh fP fj aV;refine hd9 ?_ cG dJ cW bc cV dM aQ hS aN;clear cG dJ cW bc cV dM aQ hS aN;intro cM ej fR fk et fM aJ fh aI;gi_wp2;rw [fi.o];rw [eh.o];refine qag ?_;refine qw rfl (fun X=>X.cell? ⟨Z+1,0,none⟩=some (qj Z)/\X.cell? ⟨N,1,none⟩=some (.slice aa r.head.args.length ca)) [8] ?_;rw [ej.o];clear fF;refine qab [0,1,2,3,4] ?_
   iterate 5
    refine tkB rfl aI.o ?_
    try simp only [qac]
   refine qk ?_;refine hoR 5 rfl fun K bG=>?_;gi_wp2;refine⟨wE,rfl,(zU.2 aJ.o).mono ?_⟩;rintro e W6 ⟨vo,c0,rfl,ag,d,k6,af⟩;obtain⟨ao,co,rfl⟩:=qi ag;have aq:Keep (fun b=>b<Z) W4 W6:=et.o.trans (k6.mono fun b _ (h:b<Z)=>⟨xz,xz,by simp [Value.ownBlock]⟩);have aO:=fh.o W6 d.bj aq;obtain⟨W7,cS⟩:=ex (W6.setCell ⟨Z,6,none⟩ (.slice ao r.head.args.length co));have k7:Keep (fun b=>b≠Z) W6 W7:=by rw [←cS];exact kSc
   have b7:=qz 6 (.slice ao r.head.args.length co) d.box;rw [cS]at b7;obtain⟨⟨n1,n2,n3,n4,n5⟩,e6⟩:=d.apart;have dp:CmSt Z W7 (Z+1+1+1) (Z+1+1) (Z+1) Z (.string r.head.pred) (.slice ah r.head.args.length ch) (.slice aw r.body.length ay) c0 (.slice none 0 0) (.slice none 0 0) (.slice ao r.head.args.length co) r (qbj r 0) 0 0:=by
    refine⟨⟨k7.heap d.bm n4,d.nums.keep k7 n3.symm,k7.heap d.bj n5,b7,qf d.own k7 (fun b hb=>(e6 b hb).2.2.2)⟩,⟨zG _,xz,fun b hb=>?_⟩,zj _ _ _ _,⟨[],rfl,zj _ _ _ _,fun k u L hu=>by simp at hu⟩,?_,fun t ht hv=>(qdl _ _).2.2.2.1 t ht hv,fun L t hL=>by simp at hL⟩
    ·rcases af b hb with h1 |h1
     ·simp [Value.ownBlock]at h1
     ·omega
    ·exact(qf ag k7 (fun b hb e=>by subst e;exact qeb ag d.box wC hb)).mono xz
   have eZ:Keep (fun b=>b<Z) W4 W7:=aq.trans (k7.mono fun b _ (h:b<Z)=>xz);have fz:=qg d.box 6;have ey:=qb d.box 6 _ rfl;have fJ:=qe d.box;simp only [zD]at ey;obtain⟨-,-,r2,r3⟩:=aV.o W6 aq;have fG:Z+4<=W7.heap.size:=by have:=k6.size;have:=k7.size;omega
   clear b7 n1 n2 n3 n4 n5 e6 k6 d k7 ag af;refine hd5 ?_ aO cS dp eZ aq;clear aO cS dp eZ aq;intro al ei dD dd fQ;gi_wp2;refine bG.o _ _ (fun _=>al.o) ?_;refine hoR 6 rfl fun K y=>?_;gi_wp2;refine y.o _ _ (fun _=>al.o) ?_;refine hoR 7 rfl fun K R=>?_;gi_wp2;refine R.o _ _ (fun _=>al.o) ?_;refine hoR 8 rfl fun K U=>?_;gi_wp2;rw [ei.o];refine U.o _ _ (fun h=>absurd h wC) ?_;refine qx wA (qai ?_);clear bG y R U fz ey fJ r2 r3;obtain⟨-,-,r2,r3⟩:=aV.o W7 dd.o;gi_wp2;clear r2 r3;gi_loopw [38] (fun i' X=> ∃(i:Nat) (vv dG ct:Value),i<=r.body.length/\i'=.int .i64 (i:Int)/\CmSt Z X (Z+1+1+1) (Z+1+1) (Z+1) Z (.string r.head.pred) (.slice ah r.head.args.length ch) (.slice aw r.body.length ay) vv dG ct (.slice ao r.head.args.length co) r (qbj r i) i i/\Keep (fun b=>b<Z) W4 X/\Z+4<=X.heap.size) (fun i _=>r.body.length-(intOf i).toNat)
   case atStart=>exact⟨0,_,_,_,xz,rfl,dD.o,dd.o,fG⟩
   case round=>
    obtain⟨i,vv,dG,ct,hi,rfl,hC,hK,gG⟩:=hrel;by_cases dO:i<r.body.length
    ·skip
     have f1:(i:Int)<r.body.length:=xz
     have gy:(0:Int)<=i:=xz
     have fE:i<=256:=by have:=bH.o;omega
     obtain⟨L,hL⟩: ∃L,r.body[i]?=some L:=⟨_,zB dO⟩;have dN:=eo.o i dO;have aZ:=qjp hL;rw [aZ]at dN;obtain⟨zb,zo,fC,gH,sa,bb,aF⟩:=dz.o i L hL;subst fC;have bo:Keep (fun b=>b<N) w wr:=bF.o.trans (hK.mono fun b _ (h:b<N)=>xz);have bw:zb<N:=xz
     have d0:=bo.cell (bb 0 _ rfl) bw;have d1:=bo.cell (bb 1 _ rfl) bw;have d2:=bo.cell (bb 2 _ rfl) bw;have d3:=bo.cell (bb 3 _ rfl) bw;have d4:=bo.cell (bb 4 _ rfl) bw;have d5:=bo.cell (bb 5 _ rfl) bw;have d6:=bo.cell (bb 6 _ rfl) bw;have gJ:zb<wr.heap.size:=xz
     obtain⟨av,ax,rfl,eH,eG,dk⟩:=id aF;have aY: ∀a' n' c',Value.slice av L.atom.args.length ax=.slice (some a') n' c'->0<L.atom.args.length->a'.block<N:=fun a' n' c' e h0=>by
      injection e with e1 e2 e3
      obtain⟨t,ht⟩: ∃t,L.atom.args[0]?=some t:=⟨_,zB h0⟩;obtain⟨b,o,hb,fD,-⟩:=dk 0 t ht;rw [e1]at hb;injection hb with hb
      rw [hb];simp only;omega
     have ap:=dC.o L (zH hL);have aD:=bK.o L (zH hL);have gE:=db.o i hi;have s:=qia r hL;obtain⟨aW,aG,aX,rfl⟩: ∃a n c,ct=.slice a n c:=by
      obtain⟨us,-,e2,-⟩:=hC.acc;obtain⟨a,c,e⟩:=qi e2;exact⟨a,_,c,e⟩
     obtain⟨cu,bx,cx,rfl⟩: ∃a n c,dG=.slice a n c:=by
      obtain⟨a,c,e⟩:=qi hC.pos;exact⟨a,_,c,e⟩
     obtain⟨fs,fx,rfl⟩:=qi hC.cm.own;obtain⟨k,⟨pr,args⟩,⟨lv,lt⟩,⟨rv,rt⟩⟩:=L;simp only at d0 d1 d2 d3 d4 d5 d6 aY eH eG dN aZ aF;simp only [Nat.add_zero]at d0;obtain⟨B,hB⟩:=ex (wr.heap.size);obtain⟨Wr,ba⟩:=ex (wr.alloc (.cells #[.int .i64 k,.string pr,.slice av args.length ax,.bool lv,.string lt,.bool rv,.string rt] 79));have dT:Wr.heap[B]?=some (.cells #[.int .i64 k,.string pr,.slice av args.length ax,.bool lv,.string lt,.bool rv,.string rt] 79 (0,0)):=by rw [←ba,←hB];exact qh _ _
     have kr:wD wr Wr:=by rw [←ba];exact kAl
     have cQ:=hC.all kr;have cZ:Keep (fun b=>b<Z) W4 Wr:=hK.trans kr.mt;have gI:Z+4<=Wr.heap.size:=by have:=kr.size;omega
     have gv:Z+4<=B:=xz
     clear bb dk hC hK bo kr;rcases dN with h |h |h
     ·subst h;obtain⟨aE,aP⟩:=ex (Wr.drew);have aR:wD Wr aE:=by rw [←aP];exact kDr
      have am:=cQ.all aR;have bz:=aR.heap dT trivial;have dq:Keep (fun b=>b<Z) W4 aE:=cZ.trans aR.mt;have eV:Z+4<=aE.heap.size:=by have:=aR.size;omega
      obtain⟨Y1,g1,dg,eN,eJ,eT,eK,bN,di⟩:=am.at xz aZ xz;have aL:=bN _ _ _ am.cm.box wC;have df:=bN _ _ _ am.cm.bj wC;have dt:=bN _ _ _ bz wC;obtain⟨ce,bM⟩:=ex (Y1.setCell ⟨Z,4,none⟩ (.slice (some ⟨g1,0,none⟩) (bx+1) dg));rw [bM]at di;have cX:Keep (fun b=>b≠Z) Y1 ce:=by rw [←bM];exact kSc
      have e5:=cX.heap dt xz;have e0:Keep (fun b=>b<Z) W4 ce:=(dq.trans eK).trans (cX.mono fun b _ (h:b<Z)=>xz);have gO:Z+4<=ce.heap.size:=by have:=cX.size;omega
      have cA: ∀X:World,∀{c3 c5:Value},X.heap[Z+1]?=some (.cells #[qj Z] 35 (0,0))->X.heap[Z]?=some (.cells #[.string r.head.pred,.slice ah r.head.args.length ch,.slice aw r.body.length ay,c3,.slice cu bx cx,c5,.slice ao r.head.args.length co] 129 (0,0))->(X.cell? ⟨Z+1,0,none⟩=some (qj Z)/\X.cell? ⟨Z,4,none⟩=some (.slice cu bx cx)):=fun X c3 c5 q1 q2=>by
       have r1:=qb q1 0 _ rfl;have r2:=qb q2 4 _ rfl;simp only [zD]at r1 r2;exact⟨r1,r2⟩
      have dS:wD aE (aE.alloc (.cells #[.int .i64 (i:Int)] 3)):=kAl;have eD:=cA aE am.cm.bj am.cm.box;have eE:=cA _ (dS.heap am.cm.bj wE) (dS.heap am.cm.box wE);have eF:=cA Y1 df aL;have gs:=qg aL 4;have fv:=qb aL 4 _ rfl;have gN:=qe aL;simp only [zD]at fv;clear aR am bz dq eK bN aL df dt cX dS cQ cZ;have aj: ∀X:World,∀{c3:Value},X.heap[Z+1]?=some (.cells #[qj Z] 35 (0,0))->X.heap[Z]?=some (.cells #[.string r.head.pred,.slice ah r.head.args.length ch,.slice aw r.body.length ay,c3,.slice (some ⟨g1,0,none⟩) (bx+1) dg,.slice aW aG aX,.slice ao r.head.args.length co] 129 (0,0))->X.heap[B]?=some (.cells #[.int .i64 1,.string pr,.slice av args.length ax,.bool lv,.string lt,.bool rv,.string rt] 79 (0,0))->(X.cell? ⟨Z+1,0,none⟩=some (qj Z)/\X.cell? ⟨Z,5,none⟩=some (.slice aW aG aX)/\X.cell? ⟨B,2,none⟩=some (.slice av args.length ax)):=fun X c3 q1 q2 q3=>by
       have r1:=qb q1 0 _ rfl;have r2:=qb q2 5 _ rfl;have s2:=qb q3 2 _ rfl;simp only [zD]at r1 r2 s2;exact⟨r1,r2,s2⟩
      obtain⟨We,bt⟩:=ex (ce.drew);have az:wD ce We:=by rw [←bt];exact kDr
      have f:=(di).all az;have ai:=az.heap (e5) trivial;have aT:Keep (fun b=>b<Z) W4 We:=(e0).trans az.mt;have eW:Z+4<=We.heap.size:=by have:=az.size;omega
      have aQ:=qjn f.cm (qq aF ((bF.o.trans (aT.mono fun b _ (h:b<N)=>xz)).mono fun b _ h=>xz)) xz (fun a' n' c' e h0=>by have:=aY a' n' c' e h0;exact⟨xz,xz,fun e=>by have:=f.z.2.2 _ e;omega⟩) ap (by have:=aD;simp only [ql] at this;rw [zF wC] at this;omega);have aN:=aj We f.cm.bj f.cm.box ai;have fI:=qe ai;refine qde ?_ eD eE eF eN bM aP ba eJ eT aZ bt az aQ aN aF aY;clear eD eE eF eN bM aP ba eJ eT aZ bt az aQ aN aF aY;intro ee ef ci ep dx bq a4 fN fO bJ cj eu aJ aI bL c8;refine hd5 ?_ ap aD s hB hL;clear ap aD s hB hL;intro cn cl aK cf cg;gi_wp2;rw [a4.o,cf.o];refine qag ?_;refine qw rfl (fun X=>(X.cell? ⟨Z+1,0,none⟩=some (qj Z)/\X.cell? ⟨Z,4,none⟩=some (.slice cu bx cx))) [10] ?_;rw [bq.o];refine qab [0,1,2,3,4,5] ?_
      iterate 6
       refine tkB rfl ee.o ?_
       try simp only [qac]
      refine qk ?_;refine hoR 6 rfl fun K c1=>?_;gi_wp2;refine c1.o _ _ (fun _=>ef.o) ?_;refine hoR 7 rfl fun K c2=>?_;refine qby rfl (.tmp 69) (.tmp 71) 125 rfl rfl rfl ep.o ?_;gi_wp2;refine c2.o _ _ (fun _=>ci.o) ?_;refine hoR 8 rfl fun K c4=>?_;gi_wp2;refine c4.o _ _ (fun _=>ci.o) ?_;refine hoR 9 rfl fun K c6=>?_;gi_wp2;refine c6.o _ _ (fun _=>ci.o) ?_;refine hoR 10 rfl fun K c7=>?_;gi_wp2;rw [dx.o];refine c7.o _ _ (fun h=>absurd h wC) ?_;refine qx wA (qai ?_);clear c1 c2 c4 c6 c7;gi_wp2;refine qag ?_;refine qw rfl (fun X=>(X.cell? ⟨Z+1,0,none⟩=some (qj Z)/\X.cell? ⟨Z,5,none⟩=some (.slice aW aG aX)/\X.cell? ⟨B,2,none⟩=some (.slice av args.length ax))) [14] ?_;rw [cj.o];refine qab [0,1,2,3,4,5,6,7,8] ?_
      iterate 9
       refine tkB rfl aI.o ?_
       try simp only [qac]
      refine qk ?_;refine hoR 9 rfl fun K g=>?_;gi_wp2;have aF:=bL.o;have s:=aK.o;have hL:=cg.o;refine⟨wE,rfl,(zU.2 aJ.o).mono ?_⟩;rintro e W6 ⟨vo,c0,rfl,ag,d,k6,af⟩;obtain⟨cv,cy,rfl⟩: ∃a c,vo=.slice a args.length c:=qi ag;have l:=f.slots hL xz d k6 af;have cz:=f.cm.apart;have au:W6.heap[B]?=some (.cells #[.int .i64 1,.string pr,.slice av args.length ax,.bool lv,.string lt,.bool rv,.string rt] 79 (0,0)):=k6.heap ai ⟨xz,xz,fun e=>qeb f.cm.own ai wC e⟩;have aq:Keep (fun b=>b<Z) W4 W6:=aT.trans (k6.mono fun b _ (h:b<Z)=>⟨xz,xz,fun e=>by have:=f.z.2.2 _ e;omega⟩);have eU:Z+4<=W6.heap.size:=by have:=k6.size;omega
      have bi:=ag.mono (show Z<=We.heap.size from xz);obtain⟨bh,Y,g9,a7,bk,bf,bn,bg,m,aM⟩:=l.term hL xz (by rw [s];exact bi) xz rfl;have j:=m _ _ _ l.cm.box wC;have a6:=m _ _ _ l.cm.bj wC;have bp:=m _ _ _ au wC;obtain⟨Wf,ae⟩:=ex (Y.setCell ⟨Z,5,none⟩ (.slice (some ⟨g9,0,none⟩) (aG+1) a7));rw [ae]at aM;have kf:Keep (fun b=>b<Z) W4 Wf:=(aq.trans bg).trans (by rw [←ae];exact kSc);have zf:Z+4<=Wf.heap.size:=by
       have e:Wf.heap.size=Y.heap.size:=by rw [←ae];simp [World.setCell]
       omega
      have ar:wD W6 (W6.alloc (.cells #[.slice cv args.length cy] 127)):=kAl;have aO:=aj W6 l.cm.bj l.cm.box au;have a8:=aj _ (ar.heap l.cm.bj wE) (ar.heap l.cm.box wE) (ar.heap au wE);have a9:=aj Y a6 j bp;have fY:=qg j 5;have cY:=qb j 5 _ rfl;have lY:=qe j;simp only [zD]at cY;clear bi ag d k6 af l cz au aq bg m j a6 bp ar f ai aT;refine qc9 ?_ aO a8 a9 bk aM kf ae bf bn bh;clear aO a8 a9 bk aM kf ae bf bn bh;intro al a2 ad a5 a0 cr a3 c9 dc da;gi_wp2;refine g.o _ _ (fun _=>al.o) ?_;refine hoR 10 rfl fun K y=>?_;gi_wp2;refine y.o _ _ (fun _=>a2.o) ?_;refine hoR 11 rfl fun K R=>?_;refine qby rfl (.tmp 79) (.tmp 85) 126 rfl rfl rfl a5.o ?_;gi_wp2;refine R.o _ _ (fun _=>ad.o) ?_;refine hoR 12 rfl fun K U=>?_;gi_wp2;refine U.o _ _ (fun _=>ad.o) ?_;refine hoR 13 rfl fun K aB=>?_;gi_wp2;refine aB.o _ _ (fun _=>ad.o) ?_;refine hoR 14 rfl fun K aC=>?_;gi_wp2;rw [a3.o];refine aC.o _ _ (fun h=>absurd h wC) ?_;refine qx wA (qai ?_);clear g y R U aB aC;gi_wp2;go_roundw
      case rel=>exact⟨i+1,_,_,_,xz,by go_num,a0.o,cr.o,zf⟩
      case measure=>simp [intOf];omega
     ·subst h;have aj: ∀X:World,∀{c3:Value},X.heap[Z+1]?=some (.cells #[qj Z] 35 (0,0))->X.heap[Z]?=some (.cells #[.string r.head.pred,.slice ah r.head.args.length ch,.slice aw r.body.length ay,c3,.slice cu bx cx,.slice aW aG aX,.slice ao r.head.args.length co] 129 (0,0))->X.heap[B]?=some (.cells #[.int .i64 2,.string pr,.slice av args.length ax,.bool lv,.string lt,.bool rv,.string rt] 79 (0,0))->(X.cell? ⟨Z+1,0,none⟩=some (qj Z)/\X.cell? ⟨Z,5,none⟩=some (.slice aW aG aX)/\X.cell? ⟨B,2,none⟩=some (.slice av args.length ax)):=fun X c3 q1 q2 q3=>by
       have r1:=qb q1 0 _ rfl;have r2:=qb q2 5 _ rfl;have s2:=qb q3 2 _ rfl;simp only [zD]at r1 r2 s2;exact⟨r1,r2,s2⟩
      obtain⟨We,bt⟩:=ex (Wr.drew);have az:wD Wr We:=by rw [←bt];exact kDr
      have f:=(cQ).all az;have ai:=az.heap (dT) trivial;have aT:Keep (fun b=>b<Z) W4 We:=(cZ).trans az.mt;have eW:Z+4<=We.heap.size:=by have:=az.size;omega
      have aQ:=qjn f.cm (qq aF ((bF.o.trans (aT.mono fun b _ (h:b<N)=>xz)).mono fun b _ h=>xz)) xz (fun a' n' c' e h0=>by have:=aY a' n' c' e h0;exact⟨xz,xz,fun e=>by have:=f.z.2.2 _ e;omega⟩) ap (by have:=aD;simp only [ql] at this;rw [zF wC] at this;omega);have aN:=aj We f.cm.bj f.cm.box ai;have fI:=qe ai;refine qsd ?_ ba aZ bt az aQ aN aF aY ap aD s hB hL;clear ba aZ bt az aQ aN aF aY ap aD s hB hL;intro a4 bJ cj eu aJ aI bL c8 cn cl aK cf cg;gi_wp2;rw [a4.o,cf.o];refine qag ?_;refine qw rfl (fun X=>(X.cell? ⟨Z+1,0,none⟩=some (qj Z)/\X.cell? ⟨Z,5,none⟩=some (.slice aW aG aX)/\X.cell? ⟨B,2,none⟩=some (.slice av args.length ax))) [14] ?_;rw [cj.o];refine qab [0,1,2,3,4,5,6,7,8] ?_
      iterate 9
       refine tkB rfl aI.o ?_
       try simp only [qac]
      refine qk ?_;refine hoR 9 rfl fun K g=>?_;gi_wp2;have aF:=bL.o;have s:=aK.o;have hL:=cg.o;refine⟨wE,rfl,(zU.2 aJ.o).mono ?_⟩;rintro e W6 ⟨vo,c0,rfl,ag,d,k6,af⟩;obtain⟨cv,cy,rfl⟩: ∃a c,vo=.slice a args.length c:=qi ag;have l:=f.slots hL xz d k6 af;have cz:=f.cm.apart;have au:W6.heap[B]?=some (.cells #[.int .i64 2,.string pr,.slice av args.length ax,.bool lv,.string lt,.bool rv,.string rt] 79 (0,0)):=k6.heap ai ⟨xz,xz,fun e=>qeb f.cm.own ai wC e⟩;have aq:Keep (fun b=>b<Z) W4 W6:=aT.trans (k6.mono fun b _ (h:b<Z)=>⟨xz,xz,fun e=>by have:=f.z.2.2 _ e;omega⟩);have eU:Z+4<=W6.heap.size:=by have:=k6.size;omega
      have bi:=ag.mono (show Z<=We.heap.size from xz);obtain⟨bh,Y,g9,a7,bk,bf,bn,bg,m,aM⟩:=l.term hL xz (by rw [s];exact bi) xz rfl;have j:=m _ _ _ l.cm.box wC;have a6:=m _ _ _ l.cm.bj wC;have bp:=m _ _ _ au wC;obtain⟨Wf,ae⟩:=ex (Y.setCell ⟨Z,5,none⟩ (.slice (some ⟨g9,0,none⟩) (aG+1) a7));rw [ae]at aM;have kf:Keep (fun b=>b<Z) W4 Wf:=(aq.trans bg).trans (by rw [←ae];exact kSc);have zf:Z+4<=Wf.heap.size:=by
       have e:Wf.heap.size=Y.heap.size:=by rw [←ae];simp [World.setCell]
       omega
      have ar:wD W6 (W6.alloc (.cells #[.slice cv args.length cy] 127)):=kAl;have aO:=aj W6 l.cm.bj l.cm.box au;have a8:=aj _ (ar.heap l.cm.bj wE) (ar.heap l.cm.box wE) (ar.heap au wE);have a9:=aj Y a6 j bp;have fY:=qg j 5;have cY:=qb j 5 _ rfl;have lY:=qe j;simp only [zD]at cY;clear bi ag d k6 af l cz au aq bg m j a6 bp ar f ai aT;refine qc9 ?_ aO a8 a9 bk aM kf ae bf bn bh;clear aO a8 a9 bk aM kf ae bf bn bh;intro al a2 ad a5 a0 cr a3 c9 dc da;gi_wp2;refine g.o _ _ (fun _=>al.o) ?_;refine hoR 10 rfl fun K y=>?_;gi_wp2;refine y.o _ _ (fun _=>a2.o) ?_;refine hoR 11 rfl fun K R=>?_;refine qby rfl (.tmp 79) (.tmp 85) 126 rfl rfl rfl a5.o ?_;gi_wp2;refine R.o _ _ (fun _=>ad.o) ?_;refine hoR 12 rfl fun K U=>?_;gi_wp2;refine U.o _ _ (fun _=>ad.o) ?_;refine hoR 13 rfl fun K aB=>?_;gi_wp2;refine aB.o _ _ (fun _=>ad.o) ?_;refine hoR 14 rfl fun K aC=>?_;gi_wp2;rw [a3.o];refine aC.o _ _ (fun h=>absurd h wC) ?_;refine qx wA (qai ?_);clear g y R U aB aC;gi_wp2;go_roundw
      case rel=>exact⟨i+1,_,_,_,xz,by go_num,(a0.o.notpos (by rw [bJ.o];decide)),cr.o,zf⟩
      case measure=>simp [intOf];omega
     ·subst h;have aj: ∀X:World,∀{c3:Value},X.heap[Z+1]?=some (.cells #[qj Z] 35 (0,0))->X.heap[Z]?=some (.cells #[.string r.head.pred,.slice ah r.head.args.length ch,.slice aw r.body.length ay,c3,.slice cu bx cx,.slice aW aG aX,.slice ao r.head.args.length co] 129 (0,0))->X.heap[B]?=some (.cells #[.int .i64 3,.string pr,.slice av args.length ax,.bool lv,.string lt,.bool rv,.string rt] 79 (0,0))->(X.cell? ⟨Z+1,0,none⟩=some (qj Z)/\X.cell? ⟨Z,5,none⟩=some (.slice aW aG aX)/\X.cell? ⟨B,3,none⟩=some (.bool lv)/\X.cell? ⟨B,4,none⟩=some (.string lt)/\X.cell? ⟨B,5,none⟩=some (.bool rv)/\X.cell? ⟨B,6,none⟩=some (.string rt)):=fun X c3 q1 q2 q3=>by
       have r1:=qb q1 0 _ rfl;have r2:=qb q2 5 _ rfl;have s3:=qb q3 3 _ rfl;have s4:=qb q3 4 _ rfl;have s5:=qb q3 5 _ rfl;have s6:=qb q3 6 _ rfl;simp only [zD]at r1 r2 s3 s4 s5 s6;exact⟨r1,r2,s3,s4,s5,s6⟩
      obtain⟨aE,aP⟩:=ex (Wr.drew);obtain⟨Tt,dI⟩:=ex (aE.heap.size);obtain⟨Wt,cT⟩:=ex (aE.alloc (.cells #[.bool lv,.string lt,.bool rv,.string rt] 77));have aR:wD Wr aE:=by rw [←aP];exact kDr
      have cI:wD aE Wt:=by rw [←cT];exact kAl
      have b2:Wt.heap[Tt]?=some (.cells #[.bool lv,.string lt,.bool rv,.string rt] 77 (0,0)):=by rw [←cT,←dI];exact qh _ _
      have am:=cQ.all aR;have f:=am.all cI;have bz:=aR.heap dT trivial;have ai:=cI.heap bz trivial;have aT:Keep (fun b=>b<Z) W4 Wt:=(cZ.trans aR.mt).trans cI.mt;have eV:Z+4<=Tt:=by have:=aR.size;omega
      have eW:Z+4<=Wt.heap.size:=by have:=cI.size;omega
      have gM:=qe b2;have eQ:qad (Tt+1) Wt (.slice (some ⟨Tt,0,none⟩) 2 2) [⟨lv,lt⟩,⟨rv,rt⟩]:=by
       have t0:=qb b2 0 _ rfl;have t1:=qb b2 1 _ rfl;have t2:=qb b2 2 _ rfl;have t3:=qb b2 3 _ rfl;simp only [zD]at t0 t1 t2 t3;refine⟨_,2,rfl,wB,⟨wB,by simp [maxLen]⟩,fun k x hx=>⟨Tt,0,rfl,xz,?_⟩⟩;rw [zD]
       match k,hx with
       |0,hx=>cases hx;exact⟨t0,t1⟩
       |1,hx=>cases hx;exact⟨t2,t3⟩
       |k+2,hx=>simp at hx
      have eR:(Value.slice fs (qbj r i).length fx).ownBlock≠some Tt:=fun e=>by have:=(zE am.cm.own Tt e).2;omega
      have aQ:=qjn f.cm eQ xz (fun a' n' c' e h0=>by injection e with e1;injection e1 with e1;subst e1;exact⟨by simp only;omega,by simp only;omega,eR⟩) (fun t ht=>ap t ht) (by simp;omega);have aN:=aj aE am.cm.bj am.cm.box bz;have eC:=aj Wt f.cm.bj f.cm.box ai;have gL:=qe bz;clear aR cI b2 am bz eQ eR;refine q1q ?_ aZ aP dI cT aQ aN eC aF aY ap aD s hB ba hL;clear aZ aP dI cT aQ aN eC aF aY ap aD s hB ba hL;intro bJ bq ed el aJ aI ec bL c8 cn cl aK cf a4 cg;gi_wp2;rw [a4.o,cf.o];refine qag ?_;refine qw rfl (fun X=>(X.cell? ⟨Z+1,0,none⟩=some (qj Z)/\X.cell? ⟨Z,5,none⟩=some (.slice aW aG aX)/\X.cell? ⟨B,3,none⟩=some (.bool lv)/\X.cell? ⟨B,4,none⟩=some (.string lt)/\X.cell? ⟨B,5,none⟩=some (.bool rv)/\X.cell? ⟨B,6,none⟩=some (.string rt))) [16] ?_;rw [bq.o];refine qab [0,1,2,3,4,5,6,7,8,9] ?_
      iterate 10
       refine tkB rfl aI.o ?_
       try simp only [qac]
      refine qk ?_;refine hoR 10 rfl fun K bG=>?_;gi_wp2;rw [el.o,ed.o];refine bG.o _ _ (fun _=>ec.o) ?_;refine hoR 11 rfl fun K g=>?_;gi_wp2;have s:=aK.o;have hL:=cg.o;refine⟨wE,rfl,(zU.2 aJ.o).mono ?_⟩;rintro e W6 ⟨vo,c0,rfl,ag,d,k6,af⟩;obtain⟨cv,cy,rfl⟩: ∃a c,vo=.slice a 2 c:=qi ag;have l:=f.slots hL xz d k6 af;have cz:=f.cm.apart;have au:W6.heap[B]?=some (.cells #[.int .i64 3,.string pr,.slice av args.length ax,.bool lv,.string lt,.bool rv,.string rt] 79 (0,0)):=k6.heap ai ⟨xz,xz,fun e=>qeb f.cm.own ai wC e⟩;have aq:Keep (fun b=>b<Z) W4 W6:=aT.trans (k6.mono fun b _ (h:b<Z)=>⟨xz,xz,fun e=>by have:=f.z.2.2 _ e;omega⟩);have eU:Z+4<=W6.heap.size:=by have:=k6.size;omega
      have bi:=ag.mono (show Z<=Wt.heap.size from xz);obtain⟨bh,Y,g9,a7,bk,bf,bn,bg,m,aM⟩:=l.term hL xz (by rw [s];exact bi) xz rfl;have j:=m _ _ _ l.cm.box wC;have a6:=m _ _ _ l.cm.bj wC;have bp:=m _ _ _ au wC;obtain⟨Wf,ae⟩:=ex (Y.setCell ⟨Z,5,none⟩ (.slice (some ⟨g9,0,none⟩) (aG+1) a7));rw [ae]at aM;have kf:Keep (fun b=>b<Z) W4 Wf:=(aq.trans bg).trans (by rw [←ae];exact kSc);have zf:Z+4<=Wf.heap.size:=by
       have e:Wf.heap.size=Y.heap.size:=by rw [←ae];simp [World.setCell]
       omega
      have ar:wD W6 (W6.alloc (.cells #[.slice cv 2 cy] 127)):=kAl;have aO:=aj W6 l.cm.bj l.cm.box au;have a8:=aj _ (ar.heap l.cm.bj wE) (ar.heap l.cm.box wE) (ar.heap au wE);have a9:=aj Y a6 j bp;have fY:=qg j 5;have cY:=qb j 5 _ rfl;have lY:=qe j;simp only [zD]at cY;clear bi ag d k6 af l cz au aq bg m j a6 bp ar f ai aT;refine qc9 ?_ aO a8 a9 bk aM kf ae bf bn bh;clear aO a8 a9 bk aM kf ae bf bn bh;intro al a2 ad a5 a0 cr a3 c9 dc da;gi_wp2;refine g.o _ _ (fun _=>al.o) ?_;refine hoR 12 rfl fun K y=>?_;gi_wp2;refine y.o _ _ (fun _=>a2.o) ?_;refine hoR 13 rfl fun K R=>?_;refine qby rfl (.tmp 50) (.tmp 58) 126 rfl rfl rfl a5.o ?_;gi_wp2;refine R.o _ _ (fun _=>ad.o) ?_;refine hoR 14 rfl fun K U=>?_;gi_wp2;refine U.o _ _ (fun _=>ad.o) ?_;refine hoR 15 rfl fun K aB=>?_;gi_wp2;refine aB.o _ _ (fun _=>ad.o) ?_;refine hoR 16 rfl fun K aC=>?_;gi_wp2;rw [a3.o];refine aC.o _ _ (fun h=>absurd h wC) ?_;refine qx wA (qai ?_);clear g y R U aB aC;gi_wp2;go_roundw
      case rel=>exact⟨i+1,_,_,_,xz,by go_num,(a0.o.notpos (by rw [bJ.o];decide)),cr.o,zf⟩
      case measure=>simp [intOf];omega
    ·obtain rfl:i=r.body.length:=by omega
     have hj:=hC.join (N:=N) xz (cM.o wr hK) es.o (by have:=db.o _ (zG _);have:=bH.o;omega) (fun L hL=>by have:=bK.o L hL;omega);have q:=qb hC.cm.bj 0 _ rfl;have lq:=qe hC.cm.bj;simp only [zD]at q;have e4:Keep (fun b=>b<N) w wr:=bF.o.trans (hK.mono fun b _ (h:b<N)=>xz);clear dO hC;refine hd3 ?_ hj hK e4;clear hj hK e4;intro fm gj ew;gi_wp2;refine zz (v:=.tuple #[qj Z,.int .i64 0]) (by simp [results,Tryz.results9,go_sem]) rfl ?_;rw [a1.o];exact⟨ew.o,.inr ⟨br.o,_,_,_,_,_,_,_,rfl,fm.o⟩⟩
end Go.Proofs
