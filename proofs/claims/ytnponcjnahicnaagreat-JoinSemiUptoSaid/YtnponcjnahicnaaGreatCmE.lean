/- Parts of the proof. -/
import Derived.Test.YtnponcjnahicnaaGreatProg
import Derived.Test.YtnponcjnahicnaaGreatCmD
import Derived.Test.YtnponcjnahicnaaGreatSetToRule
import Derived.Test.YtnponcjnahicnaaGreatHdToKp
import Derived.Test.YtnponcjnahicnaaGreatHoistToRowC
set_option linter.unusedSimpArgs false
set_option linter.unusedVariables false
open Go.Proofs.Tryz(prog)
open List(all_eq_true flatMap_cons getElem?_eq_getElem length_append length_cons length_filter_le length_map length_nil mem_cons mem_cons_of_mem mem_cons_self mem_of_getElem? not_mem_nil)
namespace Go.Proofs
open Go.RowKit Go.Ink Go.Flt R4 P16
attribute [local go_sem] Oper.semAt_some
def qff (r:RuleD):Int:=if qax r=true then (if S12.looseOf r=none then 0 else 14) else 2
def qpa:Prop:= ∀(n:Nat) (r:RuleD) (sh sb:Value) (w:World),RuleIn n w sh sb r->n<=w.heap.size->Calls prog 40 #[qbf r sh sb] w fun e w'=>e=.returned (.bool (qax r))/\Keep (fun b=>b<w.heap.size) w w'
theorem q22 {r:RuleD}(h:qax r=true):(r.body.flatMap LitD.uses).length<=1073741824:=by
 unfold qax at h;rw [Bool.and_eq_true,Bool.and_eq_true,decide_eq_true_eq,all_eq_true]at h;have hone: ∀L,L∈r.body->L.uses.length<=16:=fun L hL=>by
  have hL:=h.2 L hL;unfold LitD.uses;rw [length_map];refine Nat.le_trans (length_filter_le _ _) ?_;unfold qdp at hL;unfold LitD.terms;split at hL
  ·rename_i hk;rw [if_pos hk];unfold qes at hL;simp only [Bool.and_eq_true,decide_eq_true_eq]at hL;exact hL.1.1.1.2
  ·rename_i hk;rw [if_neg hk];split
   ·simp
   ·simp
 have hsum: ∀l:List LitD,(∀L,L∈l->L.uses.length<=16)->(l.flatMap LitD.uses).length<=16*l.length:=by
  intro l
  induction l with
  |nil=>intro _;simp
  |cons L l ih=>
   intro hl;rw [flatMap_cons,length_append,length_cons];have h1:=hl L (mem_cons_self ..);have h2:=ih fun x hx=>hl x (mem_cons_of_mem _ hx);omega
 have:=hsum r.body hone;omega
theorem qdw {r:RuleD}(h:qax r=true):r.body.length<=256/\qes r.head=true/\ ∀L,L∈r.body->qdp L=true:=by
 unfold qax at h;rw [Bool.and_eq_true,Bool.and_eq_true,decide_eq_true_eq,all_eq_true]at h;exact⟨h.1.1,h.1.2,h.2⟩
theorem qnw {t:TermD}(h:qb9 t=true):t.text.size<=1073741824:=by
 unfold qb9 at h;split at h
 ·unfold qjy qb8 at h;simp only [Bool.and_eq_true,decide_eq_true_eq]at h;omega
 ·unfold qis at h;have:=of_decide_eq_true h;omega
theorem qg6 {a:qed}(h:qes a=true):qe2 a.pred=true/\a.args.length<=16/\ ∀t,t∈a.args->qb9 t=true:=by
 unfold qes at h;rw [Bool.and_eq_true,Bool.and_eq_true,decide_eq_true_eq,all_eq_true]at h;exact⟨h.1.1,h.1.2,h.2⟩
theorem qq9 {L:LitD}(h:qdp L=true):(qv L).length<=16/\ ∀t,t∈qv L->qb9 t=true:=by
 unfold qdp at h;unfold qv;split at h
 ·rename_i hk;rw [if_neg (by omega)];simp only [Bool.and_eq_true]at h;obtain⟨-,h1,h2⟩:=qg6 h.1.1;exact⟨h1,h2⟩
 ·split at h
  ·rename_i hk;rw [if_pos hk];simp only [Bool.and_eq_true]at h;refine⟨by simp,fun t ht=>?_⟩;simp only [mem_cons,not_mem_nil,or_false]at ht;rcases ht with rfl |rfl
   ·exact h.1.2
   ·exact h.2
  ·cases h
theorem qs0 {r:RuleD}(h:qax r=true): ∀L,L∈r.body->(qv L).length<=16:=fun L hL=>(qq9 ((qdw h).2.2 L hL)).1
theorem qjg {r:RuleD}(h:qax r=true):r.head.args.length<=16:=(qg6 (qdw h).2.1).2.1
theorem qjh {r:RuleD}(h:qax r=true):r.body.length<=256:=(qdw h).1
theorem qpb {r:RuleD}(h:qax r=true): ∀L,L∈r.body-> ∀t,t∈qv L->t.text.size<=1073741824:=fun L hL t ht=>qnw ((qq9 ((qdw h).2.2 L hL)).2 t ht)
theorem qxn {r:RuleD}(h:qax r=true): ∀t,t∈r.head.args->t.text.size<=1073741824:=fun t ht=>qnw ((qg6 (qdw h).2.1).2.2 t ht)
theorem qlf {r:RuleD}(h:qax r=true): ∀i,i<=r.body.length->(qbo r i).length<=16+16*i:=by
 intro i
 induction i with
 |zero=>
  intro _;have h1:=(qdy r.head.args []).2.2.2.2;have h2:=qjg h;show(qa8 [] r.head.args).length<=_;simp only [length_nil]at h1;omega
 |succ i ih=>
  intro hi;obtain⟨L,hL⟩: ∃L,r.body[i]?=some L:=⟨_,getElem?_eq_getElem (by omega)⟩;rw [qih r hL];have h1:=(qdy (qv L) (qbo r i)).2.2.2.2;have h2:=qs0 h L (mem_of_getElem? hL);have h3:=ih (by omega);omega
set_option maxRecDepth 100000 in
set_option maxHeartbeats 4000000 in
theorem qvj (hform:qpa){n:Nat}{r:RuleD}{sh sb:Value}{w:World}(hr:RuleIn n w sh sb r)(hn:n<=w.heap.size):
  Calls prog 9 #[qbf r sh sb] w fun e w'=>Keep (fun b=>b<w.heap.size) w w'/\((qff r≠0/\e=.returned (.tuple #[.pointer none,.int .i64 (qff r)]))∨(qff r=0/\ ∃J vha vb vv va vt vh,e=.returned (.tuple #[qj J,.int .i64 0])/\
   JoinAt (fun b=>w.heap.size<=b/\b<w'.heap.size) w'.heap.size w' J r (qbo r r.body.length) (qdr r.body r.body.length) vha vb vv va vt vh)):=by
 obtain⟨aa,ca,rfl,hla,hcaa,hela⟩:=id hr.1;obtain⟨ab,cb,rfl,hlb,hcb,helb⟩:=id hr.2;obtain⟨N,hN⟩:=ex (w.heap.size);obtain⟨W1,hW1⟩:=ex (w.alloc (.cells #[.string r.head.pred,.slice aa r.head.args.length ca,.slice ab r.body.length cb] 27));have k1:Keep (fun _=>True) w W1:=by rw [←hW1];exact kAl
 have z1:W1.heap.size=N+1:=by rw [←hW1,←hN];simp
 have b1:W1.heap[N]?=some (.cells #[.string r.head.pred,.slice aa r.head.args.length ca,.slice ab r.body.length cb] 27 (0,0)):=by rw [←hW1,←hN];exact qh _ _
 have hrX: ∀X,Keep (fun b=>b<N) w X->RuleIn n X (.slice aa r.head.args.length ca) (.slice ab r.body.length cb) r:=fun X hX=>hr.keep (hX.mono fun b _ h=>by omega);have hbX: ∀X,Keep (fun b=>b<W1.heap.size) W1 X->X.cell? ⟨N,0,none⟩=some (.string r.head.pred)/\X.cell? ⟨N,1,none⟩=some (.slice aa r.head.args.length ca)/\X.cell? ⟨N,2,none⟩=some (.slice ab r.body.length cb)/\N<X.heap.size:=fun X hX=>by
  have q:=hX.heap b1 (show N<W1.heap.size by omega);have q0:=qb q 0 _ rfl;have q1:=qb q 1 _ rfl;have q2:=qb q 2 _ rfl;simp only [Nat.zero_add]at q0 q1 q2;exact⟨q0,q1,q2,qe q⟩
 have hf1:=hform n r _ _ W1 (hrX W1 (k1.mono fun _ _ _=>trivial)) (by have:=k1.size;omega);unfold qbf at hf1⊢;refine qhe ?_ hr hn hela helb hN hW1 k1 b1 hrX hbX hf1 hform;clear hr hn hela helb hN hW1 k1 b1 hrX hbX hf1 hform;intro Xhr Xhn Xhela Xhelb XhN XhW1 Xk1 Xb1 XhrX XhbX Xhf1 Xhform;refine qbp Tryz.func9 rfl ?_;simp only [Tryz.ntmps9,qdz,Nat.reduceAdd,Nat.reduceSub];gi_wp2;rw [XhW1.o,XhN.o];refine⟨trivial,rfl,(callsIn_wide.2 Xhf1.o).mono ?_⟩;rintro e W2 ⟨rfl,k2⟩;have kw2:Keep (fun b=>b<N) w W2:=(Xk1.o.mono fun _ _ _=>trivial).trans (k2.mono fun b _ (h:b<N)=>by omega);obtain⟨fb,hfb⟩:=ex (qax r);rw [hfb];obtain⟨q0,q1,q2,q3⟩:=XhbX.o W2 k2;cases fb with
 |false=>
  have hc:qff r=2:=by unfold qff;rw [hfb];rfl
  refine hd4 ?_ k2 kw2 hfb hc;clear k2 kw2 hfb hc;intro Xk2 Xkw2 Xhfb Xhc;gi_wp2;refine bodyPost_ret (v:=.tuple #[.pointer none,.int .i64 2]) (by simp [results,Tryz.results9,go_sem]) rfl ⟨by rw [XhN.o];exact Xkw2.o,.inl ⟨by rw [Xhc.o];decide,by rw [Xhc.o]⟩⟩
 |true=>
  have hs2:=S12.rule_any r _ _ W2 ((XhrX.o W2 kw2).wider (by have:=kw2.size;have:=Xhn.o;omega)) (q22 hfb);refine hd4 ?_ k2 kw2 hfb hs2;clear k2 kw2 hfb hs2;intro Xk2 Xkw2 Xhfb Xhs2;gi_wp2;refine⟨trivial,rfl,(callsIn_wide.2 Xhs2.o).mono ?_⟩;rintro e W3 ⟨rfl,k3⟩;have k13:Keep (fun b=>b<W1.heap.size) W1 W3:=Xk2.o.trans (k3.mono fun b _ (h:b<W1.heap.size)=>by have:=Xk2.o.size;omega);have kw3:Keep (fun b=>b<N) w W3:=(Xk1.o.mono fun _ _ _=>trivial).trans (k13.mono fun b _ (h:b<N)=>by omega);clear q0 q1 q2 q3;obtain⟨q0,q1,q2,q3⟩:=XhbX.o W3 k13;cases hl:S12.looseOf r with
  |some x=>
   have hc:qff r=14:=by unfold qff;rw [Xhfb.o,if_pos rfl,hl,if_neg (by simp)]
   unfold S12.ruleAns;refine hd5 ?_ k13 kw3 hl hc k3;clear k13 kw3 hl hc k3;intro Xk13 Xkw3 Xhl Xhc Xk3;gi_wp2;refine bodyPost_ret (v:=.tuple #[.pointer none,.int .i64 14]) (by simp [results,Tryz.results9,go_sem]) rfl ⟨by rw [XhN.o];exact Xkw3.o,.inl ⟨by rw [Xhc.o];decide,by rw [Xhc.o]⟩⟩
  |none=>
   have hc:qff r=0:=by unfold qff;rw [Xhfb.o,if_pos rfl,hl,if_pos rfl]
   have hcp:=qqo n r _ _ W3 (XhrX.o W3 kw3) (by have:=kw3.size;have:=Xhn.o;omega);unfold S12.ruleAns;unfold qbf at hcp;refine hd6 ?_ k13 kw3 hl hc k3 hcp;clear k13 kw3 hl hc k3 hcp;intro Xk13 Xkw3 Xhl Xhc Xk3 Xhcp;gi_wp2;refine⟨trivial,rfl,(callsIn_wide.2 Xhcp.o).mono ?_⟩;rintro e W4 ⟨vh,vb,rfl,hown,k4⟩;obtain⟨ah,ch,rfl⟩: ∃a c,vh=.slice a r.head.args.length c:=qi hown.1;obtain⟨abb,cbb,rfl⟩: ∃a c,vb=.slice a r.body.length c:=by
    obtain⟨ps,h1,h2,-⟩:=hown.2;exact qi h2
   have k14:Keep (fun b=>b<W1.heap.size) W1 W4:=Xk13.o.trans (k4.mono fun b _ (h:b<W1.heap.size)=>by have:=Xk13.o.size;omega);refine hd3 ?_ hown k4 k14;clear hown k4 k14;intro Xhown Xk4 Xk14;have KW3:=Xkw3.o;refine hd1 ?_ KW3;clear KW3;intro XKW3;clear q0 q1 q2 q3;have hmm:= @run_makeMap prog;have hbe:=XhbX.o W4 Xk14.o;have KW4:Keep (fun b=>b<N) w W4:=(Xk1.o.mono fun _ _ _=>trivial).trans (Xk14.o.mono fun b _ (h:b<N)=>by omega);obtain⟨Z,hZ⟩:=ex (W4.heap.size);have hNZ:N+1<=Z:=by have:=Xk14.o.size;omega
   have hnN:n<=N:=by have:=Xhn.o;have:=XhN.o;omega
   have hsz:=qov Xhr.o;have hfrm:=Xhfb.o;have hlt16: ∀L,L∈r.body->(qv L).length<=16:=qs0 hfrm;have hat16:r.head.args.length<=16:=qjg hfrm;have hb256:r.body.length<=256:=qjh hfrm;have hvl: ∀i,i<=r.body.length->(qbo r i).length<=16+16*i:=qlf hfrm;have hsmL:=qpb hfrm;have hsmH:=qxn hfrm;have hkd:=qjr hfrm;obtain⟨W5,hW5⟩:=ex ((((W4.alloc (.cells #[.string r.head.pred,.slice ah r.head.args.length ch,.slice abb r.body.length cbb,.slice none 0 0,.slice none 0 0,.slice none 0 0,.slice none 0 0] 90)).alloc (.cells #[.pointer (some ⟨Z,0,none⟩)] 31)).alloc (.map #[] 0)).alloc (.cells #[.map (some (Z+1+1))] 91));have k45:Keep (fun _=>True) W4 W5:=by rw [←hW5];exact((kAl.trans kAl).trans kAl).trans kAl
   have hcm5:CmAt W5 (Z+1+1+1) (Z+1+1) (Z+1) Z (.string r.head.pred) (.slice ah r.head.args.length ch) (.slice abb r.body.length cbb) (.slice none 0 0) (.slice none 0 0) (.slice none 0 0) (.slice none 0 0) []:=by
    have p1:=qh W4 (.cells #[.string r.head.pred,.slice ah r.head.args.length ch,.slice abb r.body.length cbb,.slice none 0 0,.slice none 0 0,.slice none 0 0,.slice none 0 0] 90);have p2:=qh (W4.alloc (.cells #[.string r.head.pred,.slice ah r.head.args.length ch,.slice abb r.body.length cbb,.slice none 0 0,.slice none 0 0,.slice none 0 0,.slice none 0 0] 90)) (.cells #[.pointer (some ⟨Z,0,none⟩)] 31);have p3:=qho (P:=prog) (K:=9) (ek:=Value.string) (ev:=qu7) ((W4.alloc (.cells #[.string r.head.pred,.slice ah r.head.args.length ch,.slice abb r.body.length cbb,.slice none 0 0,.slice none 0 0,.slice none 0 0,.slice none 0 0] 90)).alloc (.cells #[.pointer (some ⟨Z,0,none⟩)] 31));have p4:=qh (((W4.alloc (.cells #[.string r.head.pred,.slice ah r.head.args.length ch,.slice abb r.body.length cbb,.slice none 0 0,.slice none 0 0,.slice none 0 0,.slice none 0 0] 90)).alloc (.cells #[.pointer (some ⟨Z,0,none⟩)] 31)).alloc (.map #[] 0)) (.cells #[.map (some (Z+1+1))] 91);simp only [World.size_alloc,hZ]at p1 p2 p3 p4;rw [←hW5];exact⟨p4,p3.keep (Keep.alloc (fun _=>True) _ _) trivial,((Keep.alloc (fun _=>True) _ _).trans kAl).heap p2 trivial,(((Keep.alloc (fun _=>True) _ _).trans kAl).trans kAl).heap p1 trivial,World.ownsRow_nil _ _ _ _⟩
   have hrX: ∀X,Keep (fun b=>b<Z) W4 X->RuleIn n X (.slice aa r.head.args.length ca) (.slice ab r.body.length cb) r/\X.cell? ⟨N,1,none⟩=some (.slice aa r.head.args.length ca)/\X.cell? ⟨N,2,none⟩=some (.slice ab r.body.length cb)/\N<X.heap.size:=fun X hX=>
    ⟨XhrX.o X (KW4.trans (hX.mono fun b _ (h:b<N)=>by omega)),hX.cell hbe.2.1 (show N<Z by omega),hX.cell hbe.2.2.1 (show N<Z by omega),by have:=hX.size;omega⟩
   have hownX: ∀X,Keep (fun b=>b<Z) W4 X->RuleOwn N 64 60 X (.slice ah r.head.args.length ch) (.slice abb r.body.length cbb) r:=fun X hX=>by
    have hz3:=XKW3.o.size;obtain⟨h1,ps,h2,h3,h4⟩:=Xhown.o;exact⟨(qg h1 hX (fun b hb=>by have:=(World.ownsRow.lt h1 b hb).2;omega)).mono (by have:=XhN.o;omega),ps,h2,(qg h3 hX (fun b hb=>by have:=(World.ownsRow.lt h3 b hb).2;omega)).mono (by have:=XhN.o;omega),fun p hp=>(qg (h4 p hp) hX (fun b hb=>by have:=(World.ownsRow.lt (h4 p hp) b hb).2;omega)).mono (by have:=XhN.o;omega)⟩
   obtain⟨Wd,hWd⟩:=ex (W5.drew);have k5d:Keep (fun _=>True) W5 Wd:=by rw [←hWd];exact kDr
   have hcmd:=hcm5.all k5d;have k4d:Keep (fun b=>b<Z) W4 Wd:=(k45.trans k5d).mono fun _ _ _=>trivial;have hzd:Z+4<=Wd.heap.size:=by have:=qe hcmd.bm;omega
   have hfH: ∀a' n' c',Value.slice aa r.head.args.length ca=.slice (some a') n' c'->0<r.head.args.length->a'.block<N:=fun a' n' c' e h0=>by
    injection e with e1 e2 e3
    obtain⟨t,ht⟩: ∃t,r.head.args[0]?=some t:=⟨_,getElem?_eq_getElem h0⟩;obtain⟨b,o,hb,hbn,-⟩:=Xhela.o 0 t ht;rw [e1]at hb;injection hb with hb
    rw [hb];simp only;omega
   have hsl:=qkc (Bm:=Z+1+1+1) (M:=Z+1+1) (Bjj:=Z+1) (J:=Z) (a:=none) (c:=0) (vars:= []) hcmd (hrX Wd k4d).1.1 (by omega) (fun a' n' c' e h0=>by have:=hfH a' n' c' e h0;exact⟨by omega,by omega,by simp [Value.ownBlock]⟩) hsmH (by simp;omega);have hS: ∀X,X.heap[Z+1]?=some (.cells #[qj Z] 31 (0,0))->Keep (fun b=>b<Z) W4 X->X.cell? ⟨Z+1,0,none⟩=some (qj Z)/\X.cell? ⟨N,1,none⟩=some (.slice aa r.head.args.length ca):=fun X h1 h2=>by
    have q:=qb h1 0 _ rfl;simp only [Nat.zero_add]at q;exact⟨q,(hrX X h2).2.1⟩
   have hT0:=hS Wd hcmd.bj k4d;refine qc5 ?_ hbe KW4 hZ hsz hfrm hlt16 hat16 hb256 hvl hsmL hsmH hkd hW5 k45 hcm5 hrX;clear hbe KW4 hZ hsz hfrm hlt16 hat16 hb256 hvl hsmL hsmH hkd hW5 k45 hcm5 hrX;intro Xhbe XKW4 XhZ Xhsz Xhfrm Xhlt16 Xhat16 Xhb256 Xhvl XhsmL XhsmH Xhkd XhW5 Xk45 Xhcm5 XhrX;refine hd9 ?_ hownX hWd k5d hcmd k4d hfH hsl hS hT0;clear hownX hWd k5d hcmd k4d hfH hsl hS hT0;intro XhownX XhWd Xk5d Xhcmd Xk4d XhfH Xhsl XhS XhT0;gi_wp2;rw [XhZ.o];rw [XhW5.o];refine qab ?_;refine qx rfl (fun X=>X.cell? ⟨Z+1,0,none⟩=some (qj Z)/\X.cell? ⟨N,1,none⟩=some (.slice aa r.head.args.length ca)) [8] ?_;rw [XhWd.o];clear hmm;refine qam [0,1,2,3,4] ?_
   iterate 5
    refine tkR (v:=?_) rfl XhT0.o ?_ ?_;rotate_left
    ·rintro Wq ⟨x1,x2⟩;go_simp
     try with_reducible rfl
    try simp only [qan]
   refine qu ?_;refine hoR 5 rfl fun K XhK0=>?_;gi_wp2;refine⟨trivial,rfl,(callsIn_wide.2 Xhsl.o).mono ?_⟩;rintro e W6 ⟨vo,vv6,rfl,ho6,hcm6,k6,hvv6⟩;obtain⟨ao,co,rfl⟩:=qi ho6;have k46:Keep (fun b=>b<Z) W4 W6:=Xk4d.o.trans (k6.mono fun b _ (h:b<Z)=>⟨by omega,by omega,by simp [Value.ownBlock]⟩);have hT6:=XhS.o W6 hcm6.bj k46;obtain⟨W7,hW7⟩:=ex (W6.setCell ⟨Z,6,none⟩ (.slice ao r.head.args.length co));have k7:Keep (fun b=>b≠Z) W6 W7:=by rw [←hW7];exact kSc
   have b7:=q8 6 (.slice ao r.head.args.length co) hcm6.box;rw [hW7]at b7;obtain⟨⟨n1,n2,n3,n4,n5⟩,nvv⟩:=hcm6.apart;have hst7:CmSt Z W7 (Z+1+1+1) (Z+1+1) (Z+1) Z (.string r.head.pred) (.slice ah r.head.args.length ch) (.slice abb r.body.length cbb) vv6 (.slice none 0 0) (.slice none 0 0) (.slice ao r.head.args.length co) r (qbo r 0) 0 0:=by
    refine⟨⟨k7.heap hcm6.bm n4,hcm6.nums.keep k7 n3.symm,k7.heap hcm6.bj n5,b7,qg hcm6.own k7 (fun b hb=>(nvv b hb).2.2.2)⟩,⟨Nat.le_refl _,by omega,fun b hb=>?_⟩,World.ownsRow_nil _ _ _ _,⟨[],rfl,World.ownsRow_nil _ _ _ _,fun k u L hu=>by simp at hu⟩,?_,fun t ht hv=>(qdy _ _).2.2.2.1 t ht hv,fun L t hL=>by simp at hL⟩
    ·rcases hvv6 b hb with h1 |h1
     ·simp [Value.ownBlock]at h1
     ·omega
    ·exact(qg ho6 k7 (fun b hb e=>by subst e;exact qey ho6 hcm6.box (by decide) hb)).mono (by omega)
   have k47:Keep (fun b=>b<Z) W4 W7:=k46.trans (k7.mono fun b _ (h:b<Z)=>by omega);have fJ6:=qf hcm6.box 6;have cJ6:=qb hcm6.box 6 _ rfl;have lJ6:=qe hcm6.box;simp only [Nat.zero_add]at cJ6;obtain⟨-,-,r2,r3⟩:=XhrX.o W6 k46;have hz7:Z+4<=W7.heap.size:=by have:=k6.size;have:=k7.size;omega
   clear b7 n1 n2 n3 n4 n5 nvv k6 hcm6 k7 ho6 hvv6;refine hd5 ?_ hT6 hW7 hst7 k47 k46;clear hT6 hW7 hst7 k47 k46;intro XhT6 XhW7 Xhst7 Xk47 Xk46;gi_wp2;refine XhK0.o _ _ (fun _=>XhT6.o) ?_;refine hoR 6 rfl fun K XhK1=>?_;gi_wp2;refine XhK1.o _ _ (fun _=>XhT6.o) ?_;refine hoR 7 rfl fun K XhK2=>?_;gi_wp2;refine XhK2.o _ _ (fun _=>XhT6.o) ?_;refine hoR 8 rfl fun K XhK3=>?_;gi_wp2;rw [XhW7.o];refine XhK3.o _ _ (fun h=>absurd h (by decide)) ?_;refine qk (by kernel_rfl) (qm ?_);clear XhK0 XhK1 XhK2 XhK3 fJ6 cJ6 lJ6 r2 r3;obtain⟨-,-,r2,r3⟩:=XhrX.o W7 Xk47.o;gi_wp2;clear r2 r3;gi_loopw [38] (fun i' X=> ∃(i:Nat) (vv ca' ct:Value),i<=r.body.length/\i'=.int .i64 (i:Int)/\CmSt Z X (Z+1+1+1) (Z+1+1) (Z+1) Z (.string r.head.pred) (.slice ah r.head.args.length ch) (.slice abb r.body.length cbb) vv ca' ct (.slice ao r.head.args.length co) r (qbo r i) i i/\Keep (fun b=>b<Z) W4 X/\Z+4<=X.heap.size) (fun i _=>r.body.length-(intOf i).toNat)
   case atStart=>exact⟨0,_,_,_,by omega,rfl,Xhst7.o,Xk47.o,hz7⟩
   case round=>
    obtain⟨i,vv,ca',ct,hi,rfl,hC,hK,hzX⟩:=hrel;by_cases hlt:i<r.body.length
    ·skip
     have hlt1:(i:Int)<r.body.length:=by omega
     have hi0:(0:Int)<=i:=by omega
     have hi256:i<=256:=by have:=Xhb256.o;omega
     obtain⟨L,hL⟩: ∃L,r.body[i]?=some L:=⟨_,getElem?_eq_getElem hlt⟩;have hkk:=Xhkd.o i hlt;have hkl:=qmk hL;rw [hkl]at hkk;obtain⟨zb,zo,hab,hzb,sa,hcl,hta⟩:=Xhelb.o i L hL;subst hab;have kwr:Keep (fun b=>b<N) w wr:=XKW4.o.trans (hK.mono fun b _ (h:b<N)=>by omega);have hzN:zb<N:=by omega
     have d0:=kwr.cell (hcl 0 _ rfl) hzN;have d1:=kwr.cell (hcl 1 _ rfl) hzN;have d2:=kwr.cell (hcl 2 _ rfl) hzN;have d3:=kwr.cell (hcl 3 _ rfl) hzN;have d4:=kwr.cell (hcl 4 _ rfl) hzN;have d5:=kwr.cell (hcl 5 _ rfl) hzN;have d6:=kwr.cell (hcl 6 _ rfl) hzN;have hzw:zb<wr.heap.size:=by omega
     obtain⟨aa2,ca2,rfl,hal2,hac2,hea2⟩:=id hta;have hfA: ∀a' n' c',Value.slice aa2 L.atom.args.length ca2=.slice (some a') n' c'->0<L.atom.args.length->a'.block<N:=fun a' n' c' e h0=>by
      injection e with e1 e2 e3
      obtain⟨t,ht⟩: ∃t,L.atom.args[0]?=some t:=⟨_,getElem?_eq_getElem h0⟩;obtain⟨b,o,hb,hbn,-⟩:=hea2 0 t ht;rw [e1]at hb;injection hb with hb
      rw [hb];simp only;omega
     have hsmT:=XhsmL.o L (mem_of_getElem? hL);have hl16:=Xhlt16.o L (mem_of_getElem? hL);have hvi:=Xhvl.o i hi;have hsnv:=qih r hL;obtain⟨at1,nt1,ct1,rfl⟩: ∃a n c,ct=.slice a n c:=by
      obtain⟨us,-,e2,-⟩:=hC.acc;obtain⟨a,c,e⟩:=qi e2;exact⟨a,_,c,e⟩
     obtain⟨aa1,na1,cc1,rfl⟩: ∃a n c,ca'=.slice a n c:=by
      obtain⟨a,c,e⟩:=qi hC.pos;exact⟨a,_,c,e⟩
     obtain⟨avv,cvv,rfl⟩:=qi hC.cm.own;obtain⟨k,⟨pr,args⟩,⟨lv,lt⟩,⟨rv,rt⟩⟩:=L;simp only at d0 d1 d2 d3 d4 d5 d6 hfA hal2 hac2 hkk hkl hta;simp only [Nat.add_zero]at d0;obtain⟨B,hB⟩:=ex (wr.heap.size);obtain⟨Wr,hWr⟩:=ex (wr.alloc (.cells #[.int .i64 k,.string pr,.slice aa2 args.length ca2,.bool lv,.string lt,.bool rv,.string rt] 64));have nbB:Wr.heap[B]?=some (.cells #[.int .i64 k,.string pr,.slice aa2 args.length ca2,.bool lv,.string lt,.bool rv,.string rt] 64 (0,0)):=by rw [←hWr,←hB];exact qh _ _
     have kr:Keep (fun _=>True) wr Wr:=by rw [←hWr];exact kAl
     have hC1:=hC.all kr;have kr4:Keep (fun b=>b<Z) W4 Wr:=hK.trans (kr.mono fun _ _ _=>trivial);have hzr:Z+4<=Wr.heap.size:=by have:=kr.size;omega
     have hBZ:Z+4<=B:=by omega
     clear hcl hea2 hC hK kwr kr;rcases hkk with h |h |h
     ·subst h;obtain⟨Wd1,hWd1⟩:=ex (Wr.drew);have krd:Keep (fun _=>True) Wr Wd1:=by rw [←hWd1];exact kDr
      have hCd:=hC1.all krd;have nbd:=krd.heap nbB trivial;have k4d1:Keep (fun b=>b<Z) W4 Wd1:=kr4.trans (krd.mono fun _ _ _=>trivial);have hzd:Z+4<=Wd1.heap.size:=by have:=krd.size;omega
      obtain⟨Y1,g1,cap1,hr1,hg1,hz1,hk1,hkb1,hCf1⟩:=hCd.at (by omega) hkl (by omega);have boxY1:=hkb1 _ _ _ hCd.cm.box (by decide);have bjY1:=hkb1 _ _ _ hCd.cm.bj (by decide);have nbY1:=hkb1 _ _ _ nbd (by decide);obtain⟨Wf1,hWf1⟩:=ex (Y1.setCell ⟨Z,4,none⟩ (.slice (some ⟨g1,0,none⟩) (na1+1) cap1));rw [hWf1]at hCf1;have kf1:Keep (fun b=>b≠Z) Y1 Wf1:=by rw [←hWf1];exact kSc
      have nbf1:=kf1.heap nbY1 (by omega);have k4f1:Keep (fun b=>b<Z) W4 Wf1:=(k4d1.trans hk1).trans (kf1.mono fun b _ (h:b<Z)=>by omega);have zf1:Z+4<=Wf1.heap.size:=by have:=kf1.size;omega
      have hS16: ∀X:World,∀{c3 c5:Value},X.heap[Z+1]?=some (.cells #[qj Z] 31 (0,0))->X.heap[Z]?=some (.cells #[.string r.head.pred,.slice ah r.head.args.length ch,.slice abb r.body.length cbb,c3,.slice aa1 na1 cc1,c5,.slice ao r.head.args.length co] 90 (0,0))->(X.cell? ⟨Z+1,0,none⟩=some (qj Z)/\X.cell? ⟨Z,4,none⟩=some (.slice aa1 na1 cc1)):=fun X c3 c5 q1 q2=>by
       have r1:=qb q1 0 _ rfl;have r2:=qb q2 4 _ rfl;simp only [Nat.zero_add]at r1 r2;exact⟨r1,r2⟩
      have ka1:Keep (fun _=>True) Wd1 (Wd1.alloc (.cells #[.int .i64 (i:Int)] 3)):=kAl;have hU0:=hS16 Wd1 hCd.cm.bj hCd.cm.box;have hU1:=hS16 _ (ka1.heap hCd.cm.bj trivial) (ka1.heap hCd.cm.box trivial);have hU2:=hS16 Y1 bjY1 boxY1;have fY1:=qf boxY1 4;have cY1:=qb boxY1 4 _ rfl;have lY1:=qe boxY1;simp only [Nat.zero_add]at cY1;clear krd hCd nbd k4d1 hk1 hkb1 boxY1 bjY1 nbY1 kf1 ka1 hC1 kr4;have hSx: ∀X:World,∀{c3:Value},X.heap[Z+1]?=some (.cells #[qj Z] 31 (0,0))->X.heap[Z]?=some (.cells #[.string r.head.pred,.slice ah r.head.args.length ch,.slice abb r.body.length cbb,c3,.slice (some ⟨g1,0,none⟩) (na1+1) cap1,.slice at1 nt1 ct1,.slice ao r.head.args.length co] 90 (0,0))->X.heap[B]?=some (.cells #[.int .i64 1,.string pr,.slice aa2 args.length ca2,.bool lv,.string lt,.bool rv,.string rt] 64 (0,0))->(X.cell? ⟨Z+1,0,none⟩=some (qj Z)/\X.cell? ⟨Z,5,none⟩=some (.slice at1 nt1 ct1)/\X.cell? ⟨B,2,none⟩=some (.slice aa2 args.length ca2)):=fun X c3 q1 q2 q3=>by
       have r1:=qb q1 0 _ rfl;have r2:=qb q2 5 _ rfl;have s2:=qb q3 2 _ rfl;simp only [Nat.zero_add]at r1 r2 s2;exact⟨r1,r2,s2⟩
      obtain⟨We,hWe⟩:=ex (Wf1.drew);have kse:Keep (fun _=>True) Wf1 We:=by rw [←hWe];exact kDr
      have hCq:=(hCf1).all kse;have nbq:=kse.heap (nbf1) trivial;have k4q:Keep (fun b=>b<Z) W4 We:=(k4f1).trans (kse.mono fun _ _ _=>trivial);have hzq:Z+4<=We.heap.size:=by have:=kse.size;omega
      have hsl:=qkc hCq.cm (qas hta ((XKW4.o.trans (k4q.mono fun b _ (h:b<N)=>by omega)).mono fun b _ h=>by omega)) (by omega) (fun a' n' c' e h0=>by have:=hfA a' n' c' e h0;exact⟨by omega,by omega,fun e=>by have:=hCq.z.2.2 _ e;omega⟩) hsmT (by have:=hl16;simp only [qv] at this;rw [if_neg (by decide)] at this;omega);have hT0:=hSx We hCq.cm.bj hCq.cm.box nbq;have lBe:=qe nbq;refine qc5 ?_ hU0 hU1 hU2 hr1 hWf1 hWd1 hWr hg1 hz1 hkl hWe kse hsl hT0 hta hfA;clear hU0 hU1 hU2 hr1 hWf1 hWd1 hWr hg1 hz1 hkl hWe kse hsl hT0 hta hfA;intro XhU0 XhU1 XhU2 Xhr1 XhWf1 XhWd1 XhWr Xhg1 Xhz1 Xhkl XhWe Xkse Xhsl XhT0 Xhta XhfA;refine hd5 ?_ hsmT hl16 hsnv hB hL;clear hsmT hl16 hsnv hB hL;intro XhsmT Xhl16 Xhsnv XhB XhL;gi_wp2;rw [XhWr.o,XhB.o];refine qab ?_;refine qx rfl (fun X=>(X.cell? ⟨Z+1,0,none⟩=some (qj Z)/\X.cell? ⟨Z,4,none⟩=some (.slice aa1 na1 cc1))) [10] ?_;rw [XhWd1.o];refine qam [0,1,2,3,4,5] ?_
      iterate 6
       refine tkR (v:=?_) rfl XhU0.o ?_ ?_;rotate_left
       ·rintro Wq ⟨x1,x2⟩;go_simp
        try with_reducible rfl
       try simp only [qan]
      refine qu ?_;refine hoR 6 rfl fun K XhJ1=>?_;gi_wp2;refine XhJ1.o _ _ (fun _=>XhU1.o) ?_;refine hoR 7 rfl fun K XhJ2=>?_;refine qch rfl (.tmp 69) (.tmp 71) 86 rfl rfl rfl Xhr1.o ?_;gi_wp2;refine XhJ2.o _ _ (fun _=>XhU2.o) ?_;refine hoR 8 rfl fun K XhJ3=>?_;gi_wp2;refine XhJ3.o _ _ (fun _=>XhU2.o) ?_;refine hoR 9 rfl fun K XhJ4=>?_;gi_wp2;refine XhJ4.o _ _ (fun _=>XhU2.o) ?_;refine hoR 10 rfl fun K XhJ5=>?_;gi_wp2;rw [XhWf1.o];refine XhJ5.o _ _ (fun h=>absurd h (by decide)) ?_;refine qk (by kernel_rfl) (qm ?_);clear XhJ1 XhJ2 XhJ3 XhJ4 XhJ5;gi_wp2;refine qab ?_;refine qx rfl (fun X=>(X.cell? ⟨Z+1,0,none⟩=some (qj Z)/\X.cell? ⟨Z,5,none⟩=some (.slice at1 nt1 ct1)/\X.cell? ⟨B,2,none⟩=some (.slice aa2 args.length ca2))) [14] ?_;rw [XhWe.o];refine qam [0,1,2,3,4,5,6,7,8] ?_
      iterate 9
       refine tkR (v:=?_) rfl XhT0.o ?_ ?_;rotate_left
       ·rintro Wq ⟨x1,x2,x3⟩;go_simp
        try with_reducible rfl
       try simp only [qan]
      refine qu ?_;refine hoR 9 rfl fun K XhKcall=>?_;gi_wp2;have hta:=Xhta.o;have hsnv:=Xhsnv.o;have hL:=XhL.o;refine⟨trivial,rfl,(callsIn_wide.2 Xhsl.o).mono ?_⟩;rintro e W6 ⟨vo,vv6,rfl,ho6,hcm6,k6,hvv6⟩;obtain⟨ao6,co6,rfl⟩: ∃a c,vo=.slice a args.length c:=qi ho6;have hC6:=hCq.slots hL (by omega) hcm6 k6 hvv6;have hBq:=hCq.cm.apart;have nb6:W6.heap[B]?=some (.cells #[.int .i64 1,.string pr,.slice aa2 args.length ca2,.bool lv,.string lt,.bool rv,.string rt] 64 (0,0)):=k6.heap nbq ⟨by omega,by omega,fun e=>qey hCq.cm.own nbq (by decide) e⟩;have k46:Keep (fun b=>b<Z) W4 W6:=k4q.trans (k6.mono fun b _ (h:b<Z)=>⟨by omega,by omega,fun e=>by have:=hCq.z.2.2 _ e;omega⟩);have hz6:Z+4<=W6.heap.size:=by have:=k6.size;omega
      have hoZ:=ho6.mono (show Z<=We.heap.size by omega);obtain⟨hnt,Y,g9,cap9,hr9,hg9,hz9,hk9,hkb9,hC9⟩:=hC6.term hL (by omega) (by rw [hsnv];exact hoZ) (by omega) rfl;have boxY:=hkb9 _ _ _ hC6.cm.box (by decide);have bjY:=hkb9 _ _ _ hC6.cm.bj (by decide);have nbY:=hkb9 _ _ _ nb6 (by decide);obtain⟨Wf,hWf⟩:=ex (Y.setCell ⟨Z,5,none⟩ (.slice (some ⟨g9,0,none⟩) (nt1+1) cap9));rw [hWf]at hC9;have kf:Keep (fun b=>b<Z) W4 Wf:=(k46.trans hk9).trans (by rw [←hWf];exact kSc);have zf:Z+4<=Wf.heap.size:=by
       have e:Wf.heap.size=Y.heap.size:=by rw [←hWf];simp [World.setCell]
       omega
      have ka6:Keep (fun _=>True) W6 (W6.alloc (.cells #[.slice ao6 args.length co6] 88)):=kAl;have hT6:=hSx W6 hC6.cm.bj hC6.cm.box nb6;have hT7:=hSx _ (ka6.heap hC6.cm.bj trivial) (ka6.heap hC6.cm.box trivial) (ka6.heap nb6 trivial);have hT8:=hSx Y bjY boxY nbY;have fY:=qf boxY 5;have cY:=qb boxY 5 _ rfl;have lY:=qe boxY;simp only [Nat.zero_add]at cY;clear hoZ ho6 hcm6 k6 hvv6 hC6 hBq nb6 k46 hk9 hkb9 boxY bjY nbY ka6 hCq nbq k4q;refine qd9 ?_ hT6 hT7 hT8 hr9 hC9 kf hWf hg9 hz9 hnt;clear hT6 hT7 hT8 hr9 hC9 kf hWf hg9 hz9 hnt;intro XhT6 XhT7 XhT8 Xhr9 XhC9 Xkf XhWf Xhg9 Xhz9 Xhnt;gi_wp2;refine XhKcall.o _ _ (fun _=>XhT6.o) ?_;refine hoR 10 rfl fun K XhK1=>?_;gi_wp2;refine XhK1.o _ _ (fun _=>XhT7.o) ?_;refine hoR 11 rfl fun K XhK2=>?_;refine qch rfl (.tmp 79) (.tmp 85) 87 rfl rfl rfl Xhr9.o ?_;gi_wp2;refine XhK2.o _ _ (fun _=>XhT8.o) ?_;refine hoR 12 rfl fun K XhK3=>?_;gi_wp2;refine XhK3.o _ _ (fun _=>XhT8.o) ?_;refine hoR 13 rfl fun K XhK4=>?_;gi_wp2;refine XhK4.o _ _ (fun _=>XhT8.o) ?_;refine hoR 14 rfl fun K XhK5=>?_;gi_wp2;rw [XhWf.o];refine XhK5.o _ _ (fun h=>absurd h (by decide)) ?_;refine qk (by kernel_rfl) (qm ?_);clear XhKcall XhK1 XhK2 XhK3 XhK4 XhK5;gi_wp2;go_roundw
      case rel=>exact⟨i+1,_,_,_,by omega,by go_num,XhC9.o,Xkf.o,zf⟩
      case measure=>simp [intOf];omega
     ·subst h;have hSx: ∀X:World,∀{c3:Value},X.heap[Z+1]?=some (.cells #[qj Z] 31 (0,0))->X.heap[Z]?=some (.cells #[.string r.head.pred,.slice ah r.head.args.length ch,.slice abb r.body.length cbb,c3,.slice aa1 na1 cc1,.slice at1 nt1 ct1,.slice ao r.head.args.length co] 90 (0,0))->X.heap[B]?=some (.cells #[.int .i64 2,.string pr,.slice aa2 args.length ca2,.bool lv,.string lt,.bool rv,.string rt] 64 (0,0))->(X.cell? ⟨Z+1,0,none⟩=some (qj Z)/\X.cell? ⟨Z,5,none⟩=some (.slice at1 nt1 ct1)/\X.cell? ⟨B,2,none⟩=some (.slice aa2 args.length ca2)):=fun X c3 q1 q2 q3=>by
       have r1:=qb q1 0 _ rfl;have r2:=qb q2 5 _ rfl;have s2:=qb q3 2 _ rfl;simp only [Nat.zero_add]at r1 r2 s2;exact⟨r1,r2,s2⟩
      obtain⟨We,hWe⟩:=ex (Wr.drew);have kse:Keep (fun _=>True) Wr We:=by rw [←hWe];exact kDr
      have hCq:=(hC1).all kse;have nbq:=kse.heap (nbB) trivial;have k4q:Keep (fun b=>b<Z) W4 We:=(kr4).trans (kse.mono fun _ _ _=>trivial);have hzq:Z+4<=We.heap.size:=by have:=kse.size;omega
      have hsl:=qkc hCq.cm (qas hta ((XKW4.o.trans (k4q.mono fun b _ (h:b<N)=>by omega)).mono fun b _ h=>by omega)) (by omega) (fun a' n' c' e h0=>by have:=hfA a' n' c' e h0;exact⟨by omega,by omega,fun e=>by have:=hCq.z.2.2 _ e;omega⟩) hsmT (by have:=hl16;simp only [qv] at this;rw [if_neg (by decide)] at this;omega);have hT0:=hSx We hCq.cm.bj hCq.cm.box nbq;have lBe:=qe nbq;refine qoh ?_ hWr hkl hWe kse hsl hT0 hta hfA hsmT hl16 hsnv hB hL;clear hWr hkl hWe kse hsl hT0 hta hfA hsmT hl16 hsnv hB hL;intro XhWr Xhkl XhWe Xkse Xhsl XhT0 Xhta XhfA XhsmT Xhl16 Xhsnv XhB XhL;gi_wp2;rw [XhWr.o,XhB.o];refine qab ?_;refine qx rfl (fun X=>(X.cell? ⟨Z+1,0,none⟩=some (qj Z)/\X.cell? ⟨Z,5,none⟩=some (.slice at1 nt1 ct1)/\X.cell? ⟨B,2,none⟩=some (.slice aa2 args.length ca2))) [14] ?_;rw [XhWe.o];refine qam [0,1,2,3,4,5,6,7,8] ?_
      iterate 9
       refine tkR (v:=?_) rfl XhT0.o ?_ ?_;rotate_left
       ·rintro Wq ⟨x1,x2,x3⟩;go_simp
        try with_reducible rfl
       try simp only [qan]
      refine qu ?_;refine hoR 9 rfl fun K XhKcall=>?_;gi_wp2;have hta:=Xhta.o;have hsnv:=Xhsnv.o;have hL:=XhL.o;refine⟨trivial,rfl,(callsIn_wide.2 Xhsl.o).mono ?_⟩;rintro e W6 ⟨vo,vv6,rfl,ho6,hcm6,k6,hvv6⟩;obtain⟨ao6,co6,rfl⟩: ∃a c,vo=.slice a args.length c:=qi ho6;have hC6:=hCq.slots hL (by omega) hcm6 k6 hvv6;have hBq:=hCq.cm.apart;have nb6:W6.heap[B]?=some (.cells #[.int .i64 2,.string pr,.slice aa2 args.length ca2,.bool lv,.string lt,.bool rv,.string rt] 64 (0,0)):=k6.heap nbq ⟨by omega,by omega,fun e=>qey hCq.cm.own nbq (by decide) e⟩;have k46:Keep (fun b=>b<Z) W4 W6:=k4q.trans (k6.mono fun b _ (h:b<Z)=>⟨by omega,by omega,fun e=>by have:=hCq.z.2.2 _ e;omega⟩);have hz6:Z+4<=W6.heap.size:=by have:=k6.size;omega
      have hoZ:=ho6.mono (show Z<=We.heap.size by omega);obtain⟨hnt,Y,g9,cap9,hr9,hg9,hz9,hk9,hkb9,hC9⟩:=hC6.term hL (by omega) (by rw [hsnv];exact hoZ) (by omega) rfl;have boxY:=hkb9 _ _ _ hC6.cm.box (by decide);have bjY:=hkb9 _ _ _ hC6.cm.bj (by decide);have nbY:=hkb9 _ _ _ nb6 (by decide);obtain⟨Wf,hWf⟩:=ex (Y.setCell ⟨Z,5,none⟩ (.slice (some ⟨g9,0,none⟩) (nt1+1) cap9));rw [hWf]at hC9;have kf:Keep (fun b=>b<Z) W4 Wf:=(k46.trans hk9).trans (by rw [←hWf];exact kSc);have zf:Z+4<=Wf.heap.size:=by
       have e:Wf.heap.size=Y.heap.size:=by rw [←hWf];simp [World.setCell]
       omega
      have ka6:Keep (fun _=>True) W6 (W6.alloc (.cells #[.slice ao6 args.length co6] 88)):=kAl;have hT6:=hSx W6 hC6.cm.bj hC6.cm.box nb6;have hT7:=hSx _ (ka6.heap hC6.cm.bj trivial) (ka6.heap hC6.cm.box trivial) (ka6.heap nb6 trivial);have hT8:=hSx Y bjY boxY nbY;have fY:=qf boxY 5;have cY:=qb boxY 5 _ rfl;have lY:=qe boxY;simp only [Nat.zero_add]at cY;clear hoZ ho6 hcm6 k6 hvv6 hC6 hBq nb6 k46 hk9 hkb9 boxY bjY nbY ka6 hCq nbq k4q;refine qd9 ?_ hT6 hT7 hT8 hr9 hC9 kf hWf hg9 hz9 hnt;clear hT6 hT7 hT8 hr9 hC9 kf hWf hg9 hz9 hnt;intro XhT6 XhT7 XhT8 Xhr9 XhC9 Xkf XhWf Xhg9 Xhz9 Xhnt;gi_wp2;refine XhKcall.o _ _ (fun _=>XhT6.o) ?_;refine hoR 10 rfl fun K XhK1=>?_;gi_wp2;refine XhK1.o _ _ (fun _=>XhT7.o) ?_;refine hoR 11 rfl fun K XhK2=>?_;refine qch rfl (.tmp 79) (.tmp 85) 87 rfl rfl rfl Xhr9.o ?_;gi_wp2;refine XhK2.o _ _ (fun _=>XhT8.o) ?_;refine hoR 12 rfl fun K XhK3=>?_;gi_wp2;refine XhK3.o _ _ (fun _=>XhT8.o) ?_;refine hoR 13 rfl fun K XhK4=>?_;gi_wp2;refine XhK4.o _ _ (fun _=>XhT8.o) ?_;refine hoR 14 rfl fun K XhK5=>?_;gi_wp2;rw [XhWf.o];refine XhK5.o _ _ (fun h=>absurd h (by decide)) ?_;refine qk (by kernel_rfl) (qm ?_);clear XhKcall XhK1 XhK2 XhK3 XhK4 XhK5;gi_wp2;go_roundw
      case rel=>exact⟨i+1,_,_,_,by omega,by go_num,(XhC9.o.notpos (by rw [Xhkl.o];decide)),Xkf.o,zf⟩
      case measure=>simp [intOf];omega
     ·subst h;have hSx: ∀X:World,∀{c3:Value},X.heap[Z+1]?=some (.cells #[qj Z] 31 (0,0))->X.heap[Z]?=some (.cells #[.string r.head.pred,.slice ah r.head.args.length ch,.slice abb r.body.length cbb,c3,.slice aa1 na1 cc1,.slice at1 nt1 ct1,.slice ao r.head.args.length co] 90 (0,0))->X.heap[B]?=some (.cells #[.int .i64 3,.string pr,.slice aa2 args.length ca2,.bool lv,.string lt,.bool rv,.string rt] 64 (0,0))->(X.cell? ⟨Z+1,0,none⟩=some (qj Z)/\X.cell? ⟨Z,5,none⟩=some (.slice at1 nt1 ct1)/\X.cell? ⟨B,3,none⟩=some (.bool lv)/\X.cell? ⟨B,4,none⟩=some (.string lt)/\X.cell? ⟨B,5,none⟩=some (.bool rv)/\X.cell? ⟨B,6,none⟩=some (.string rt)):=fun X c3 q1 q2 q3=>by
       have r1:=qb q1 0 _ rfl;have r2:=qb q2 5 _ rfl;have s3:=qb q3 3 _ rfl;have s4:=qb q3 4 _ rfl;have s5:=qb q3 5 _ rfl;have s6:=qb q3 6 _ rfl;simp only [Nat.zero_add]at r1 r2 s3 s4 s5 s6;exact⟨r1,r2,s3,s4,s5,s6⟩
      obtain⟨Wd1,hWd1⟩:=ex (Wr.drew);obtain⟨Tt,hTt⟩:=ex (Wd1.heap.size);obtain⟨Wt,hWt⟩:=ex (Wd1.alloc (.cells #[.bool lv,.string lt,.bool rv,.string rt] 60));have krd:Keep (fun _=>True) Wr Wd1:=by rw [←hWd1];exact kDr
      have kdt:Keep (fun _=>True) Wd1 Wt:=by rw [←hWt];exact kAl
      have nbt:Wt.heap[Tt]?=some (.cells #[.bool lv,.string lt,.bool rv,.string rt] 60 (0,0)):=by rw [←hWt,←hTt];exact qh _ _
      have hCd:=hC1.all krd;have hCq:=hCd.all kdt;have nbd:=krd.heap nbB trivial;have nbq:=kdt.heap nbd trivial;have k4q:Keep (fun b=>b<Z) W4 Wt:=(kr4.trans (krd.mono fun _ _ _=>trivial)).trans (kdt.mono fun _ _ _=>trivial);have hzd:Z+4<=Tt:=by have:=krd.size;omega
      have hzq:Z+4<=Wt.heap.size:=by have:=kdt.size;omega
      have lTt:=qe nbt;have htt:qaj (Tt+1) Wt (.slice (some ⟨Tt,0,none⟩) 2 2) [⟨lv,lt⟩,⟨rv,rt⟩]:=by
       have t0:=qb nbt 0 _ rfl;have t1:=qb nbt 1 _ rfl;have t2:=qb nbt 2 _ rfl;have t3:=qb nbt 3 _ rfl;simp only [Nat.zero_add]at t0 t1 t2 t3;refine⟨_,2,rfl,by simp,⟨by simp,by simp [maxLen]⟩,fun k x hx=>⟨Tt,0,rfl,by omega,?_⟩⟩;rw [Nat.zero_add]
       match k,hx with
       |0,hx=>cases hx;exact⟨t0,t1⟩
       |1,hx=>cases hx;exact⟨t2,t3⟩
       |k+2,hx=>simp at hx
      have hvT:(Value.slice avv (qbo r i).length cvv).ownBlock≠some Tt:=fun e=>by have:=(World.ownsRow.lt hCd.cm.own Tt e).2;omega
      have hsl:=qkc hCq.cm htt (by omega) (fun a' n' c' e h0=>by injection e with e1;injection e1 with e1;subst e1;exact⟨by simp only;omega,by simp only;omega,hvT⟩) (fun t ht=>hsmT t ht) (by simp;omega);have hT0:=hSx Wd1 hCd.cm.bj hCd.cm.box nbd;have hT1:=hSx Wt hCq.cm.bj hCq.cm.box nbq;have lBd:=qe nbd;clear krd kdt nbt hCd nbd htt hvT;refine qxu ?_ hkl hWd1 hTt hWt hsl hT0 hT1 hta hfA hsmT hl16 hsnv hB hWr hL;clear hkl hWd1 hTt hWt hsl hT0 hT1 hta hfA hsmT hl16 hsnv hB hWr hL;intro Xhkl XhWd1 XhTt XhWt Xhsl XhT0 XhT1 Xhta XhfA XhsmT Xhl16 Xhsnv XhB XhWr XhL;gi_wp2;rw [XhWr.o,XhB.o];refine qab ?_;refine qx rfl (fun X=>(X.cell? ⟨Z+1,0,none⟩=some (qj Z)/\X.cell? ⟨Z,5,none⟩=some (.slice at1 nt1 ct1)/\X.cell? ⟨B,3,none⟩=some (.bool lv)/\X.cell? ⟨B,4,none⟩=some (.string lt)/\X.cell? ⟨B,5,none⟩=some (.bool rv)/\X.cell? ⟨B,6,none⟩=some (.string rt))) [16] ?_;rw [XhWd1.o];refine qam [0,1,2,3,4,5,6,7,8,9] ?_
      iterate 10
       refine tkR (v:=?_) rfl XhT0.o ?_ ?_;rotate_left
       ·rintro Wq ⟨x1,x2,x3,x4,x5,x6⟩;go_simp
        try with_reducible rfl
       try simp only [qan]
      refine qu ?_;refine hoR 10 rfl fun K XhK0=>?_;gi_wp2;rw [XhWt.o,XhTt.o];refine XhK0.o _ _ (fun _=>XhT1.o) ?_;refine hoR 11 rfl fun K XhKcall=>?_;gi_wp2;have hsnv:=Xhsnv.o;have hL:=XhL.o;refine⟨trivial,rfl,(callsIn_wide.2 Xhsl.o).mono ?_⟩;rintro e W6 ⟨vo,vv6,rfl,ho6,hcm6,k6,hvv6⟩;obtain⟨ao6,co6,rfl⟩: ∃a c,vo=.slice a 2 c:=qi ho6;have hC6:=hCq.slots hL (by omega) hcm6 k6 hvv6;have hBq:=hCq.cm.apart;have nb6:W6.heap[B]?=some (.cells #[.int .i64 3,.string pr,.slice aa2 args.length ca2,.bool lv,.string lt,.bool rv,.string rt] 64 (0,0)):=k6.heap nbq ⟨by omega,by omega,fun e=>qey hCq.cm.own nbq (by decide) e⟩;have k46:Keep (fun b=>b<Z) W4 W6:=k4q.trans (k6.mono fun b _ (h:b<Z)=>⟨by omega,by omega,fun e=>by have:=hCq.z.2.2 _ e;omega⟩);have hz6:Z+4<=W6.heap.size:=by have:=k6.size;omega
      have hoZ:=ho6.mono (show Z<=Wt.heap.size by omega);obtain⟨hnt,Y,g9,cap9,hr9,hg9,hz9,hk9,hkb9,hC9⟩:=hC6.term hL (by omega) (by rw [hsnv];exact hoZ) (by omega) rfl;have boxY:=hkb9 _ _ _ hC6.cm.box (by decide);have bjY:=hkb9 _ _ _ hC6.cm.bj (by decide);have nbY:=hkb9 _ _ _ nb6 (by decide);obtain⟨Wf,hWf⟩:=ex (Y.setCell ⟨Z,5,none⟩ (.slice (some ⟨g9,0,none⟩) (nt1+1) cap9));rw [hWf]at hC9;have kf:Keep (fun b=>b<Z) W4 Wf:=(k46.trans hk9).trans (by rw [←hWf];exact kSc);have zf:Z+4<=Wf.heap.size:=by
       have e:Wf.heap.size=Y.heap.size:=by rw [←hWf];simp [World.setCell]
       omega
      have ka6:Keep (fun _=>True) W6 (W6.alloc (.cells #[.slice ao6 2 co6] 88)):=kAl;have hT6:=hSx W6 hC6.cm.bj hC6.cm.box nb6;have hT7:=hSx _ (ka6.heap hC6.cm.bj trivial) (ka6.heap hC6.cm.box trivial) (ka6.heap nb6 trivial);have hT8:=hSx Y bjY boxY nbY;have fY:=qf boxY 5;have cY:=qb boxY 5 _ rfl;have lY:=qe boxY;simp only [Nat.zero_add]at cY;clear hoZ ho6 hcm6 k6 hvv6 hC6 hBq nb6 k46 hk9 hkb9 boxY bjY nbY ka6 hCq nbq k4q;refine qd9 ?_ hT6 hT7 hT8 hr9 hC9 kf hWf hg9 hz9 hnt;clear hT6 hT7 hT8 hr9 hC9 kf hWf hg9 hz9 hnt;intro XhT6 XhT7 XhT8 Xhr9 XhC9 Xkf XhWf Xhg9 Xhz9 Xhnt;gi_wp2;refine XhKcall.o _ _ (fun _=>XhT6.o) ?_;refine hoR 12 rfl fun K XhK1=>?_;gi_wp2;refine XhK1.o _ _ (fun _=>XhT7.o) ?_;refine hoR 13 rfl fun K XhK2=>?_;refine qch rfl (.tmp 50) (.tmp 58) 87 rfl rfl rfl Xhr9.o ?_;gi_wp2;refine XhK2.o _ _ (fun _=>XhT8.o) ?_;refine hoR 14 rfl fun K XhK3=>?_;gi_wp2;refine XhK3.o _ _ (fun _=>XhT8.o) ?_;refine hoR 15 rfl fun K XhK4=>?_;gi_wp2;refine XhK4.o _ _ (fun _=>XhT8.o) ?_;refine hoR 16 rfl fun K XhK5=>?_;gi_wp2;rw [XhWf.o];refine XhK5.o _ _ (fun h=>absurd h (by decide)) ?_;refine qk (by kernel_rfl) (qm ?_);clear XhKcall XhK1 XhK2 XhK3 XhK4 XhK5;gi_wp2;go_roundw
      case rel=>exact⟨i+1,_,_,_,by omega,by go_num,(XhC9.o.notpos (by rw [Xhkl.o];decide)),Xkf.o,zf⟩
      case measure=>simp [intOf];omega
    ·obtain rfl:i=r.body.length:=by omega
     have hj:=hC.join (N:=N) (by omega) (XhownX.o wr hK) Xhsz.o (by have:=Xhvl.o _ (Nat.le_refl _);have:=Xhb256.o;omega) (fun L hL=>by have:=Xhlt16.o L hL;omega);have q:=qb hC.cm.bj 0 _ rfl;have lq:=qe hC.cm.bj;simp only [Nat.zero_add]at q;have kw9:Keep (fun b=>b<N) w wr:=XKW4.o.trans (hK.mono fun b _ (h:b<N)=>by omega);clear hlt hC;refine hd3 ?_ hj hK kw9;clear hj hK kw9;intro Xhj XhK Xkw9;gi_wp2;refine bodyPost_ret (v:=.tuple #[qj Z,.int .i64 0]) (by simp [results,Tryz.results9,go_sem]) rfl ?_;rw [XhN.o];exact⟨Xkw9.o,.inr ⟨Xhc.o,_,_,_,_,_,_,_,rfl,Xhj.o⟩⟩
end Go.Proofs
