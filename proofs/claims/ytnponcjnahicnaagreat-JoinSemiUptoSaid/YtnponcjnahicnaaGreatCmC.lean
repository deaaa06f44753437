/- Parts of the proof. -/
import Derived.Test.YtnponcjnahicnaaGreatProg
import Derived.Test.YtnponcjnahicnaaGreatEcDToCmB
import Derived.Test.YtnponcjnahicnaaGreatPnVToPnW
import Derived.Test.YtnponcjnahicnaaGreatHdToKp
import Derived.Test.YtnponcjnahicnaaGreatHoistToRowC
set_option linter.unusedSimpArgs false
set_option linter.unusedVariables false
open Go.Proofs.Tryz(prog)
open List(append_assoc append_nil drop_eq_getElem_cons drop_eq_nil_of_le getElem?_append_right getElem?_eq_getElem getElem?_map getElem_cons_succ getElem_cons_zero getElem_toArray length_append length_drop length_map map_append mem_append mem_cons mem_of_getElem? mem_singleton not_mem_nil setIfInBounds_toArray set_cons_succ set_cons_zero take_add_one take_length)
namespace Go.Proofs
open Go.RowKit Go.Ink Go.Flt R4 P16
attribute [local go_sem] Oper.semAt_some
set_option maxRecDepth 100000 in
set_option maxHeartbeats 4000000 in
theorem qqo (n:Nat)(r:RuleD)(sh sb:Value)(w:World)(hr:RuleIn n w sh sb r)(hn:n<=w.heap.size):
  Calls prog 42 #[qbf r sh sb] w fun e w'=> ∃vh vb,e=.returned (qbf r vh vb)/\RuleOwn w.heap.size 64 60 w' vh vb r/\Keep (fun b=>b<w.heap.size) w w':=by
 obtain⟨⟨pr,args⟩,body⟩:=r;obtain⟨hh,hb⟩:=id hr;unfold qbf;simp only at hh hb⊢;obtain⟨aa,ca,rfl,hla,hcaa,-⟩:=id hh;obtain⟨ab,cb,rfl,hlb,hcb,-⟩:=id hb;obtain⟨hs1,hs2⟩:=qgr hh;obtain⟨ps,hps,hpt,hp1,hp2⟩:=qpu hb;have hplen:ps.length=body.length:=by have:=congrArg List.length hps;rwa [length_map] at this
 have hone:=qub hpt;obtain⟨N,hN⟩:=ex (w.heap.size);have hc1:=fun W (hK:Keep (fun b=>b<w.heap.size) w W)=>qgx aa args.length ca (qac args) W (qf4 args) (fun b hb j u hj=>hK.cell (hs1 b hb j u hj) (World.block_lt_of_cell? w _ (hs1 b hb j u hj))) hs2 (qhc args) hla;have hc2:=fun W (hK:Keep (fun b=>b<w.heap.size) w W)=>qmb ab body.length cb (ps.flatMap qc2) W (by rw [qa0 qc2 7 (fun _=>rfl),hplen]) (fun b hb j u hj=>hK.cell (hp1 b hb j u hj) (World.block_lt_of_cell? w _ (hp1 b hb j u hj))) hp2 hone hlb;have hc3:=fun p (hp:p∈ps) W (hK:Keep (fun b=>b<w.heap.size) w W)=>show∀a c,p.2=.slice a p.1.atom.args.length c->_ from fun a c e=>
  have hs:=qgr (e▸hpt p hp)
  qgx a p.1.atom.args.length c (qac p.1.atom.args) W (qf4 _) (fun b hb j u hj=>hK.cell (hs.1 b hb j u hj) (World.block_lt_of_cell? w _ (hs.1 b hb j u hj))) hs.2 (qhc _) (by obtain⟨_,_,_,h,_⟩:=hpt p hp;exact h)
 clear hh hb hr hs1 hs2 hp1 hp2 hone;refine hd7 ?_ hc1 hc2 hc3 hps hpt hplen hN;clear hc1 hc2 hc3 hps hpt hplen hN;intro Xhc1 Xhc2 Xhc3 Xhps Xhpt Xhplen XhN;obtain⟨W0,hW0⟩:=ex ((w.alloc (.cells #[.string pr,.slice aa args.length ca,.slice ab body.length cb] 27)).alloc (.cells #[.string ⟨#[]⟩,.slice none 0 0,.slice none 0 0] 27));have k0:Keep (fun _=>True) w W0:=by rw [←hW0];exact kAl.trans kAl
 have z0:W0.heap.size=N+2:=by rw [←hW0,←XhN.o];simp
 have g1:W0.heap[N]?=some (.cells #[.string pr,.slice aa args.length ca,.slice ab body.length cb] 27 (0,0)):=by rw [←hW0,←XhN.o];exact(Keep.alloc (fun _=>True) _ _).heap (qh w _) trivial
 have g2:W0.heap[N+1]?=some (.cells #[.string ⟨#[]⟩,.slice none 0 0,.slice none 0 0] 27 (0,0)):=by
  rw [←hW0,←XhN.o];have:=qh (w.alloc (.cells #[.string pr,.slice aa args.length ca,.slice ab body.length cb] 27)) (.cells #[.string ⟨#[]⟩,.slice none 0 0,.slice none 0 0] 27);rw [World.size_alloc]at this;exact this
 have hS: ∀X,Keep (fun _=>True) W0 X->(X.cell? ⟨N,0,none⟩=some (.string pr)/\X.cell? ⟨N,1,none⟩=some (.slice aa args.length ca)/\X.cell? ⟨N,2,none⟩=some (.slice ab body.length cb)):=fun X hX=>by
  have q:=hX.heap g1 trivial;have q0:=qb q 0 _ rfl;have q1:=qb q 1 _ rfl;have q2:=qb q 2 _ rfl;simp only [Nat.zero_add]at q0 q1 q2;exact⟨q0,q1,q2⟩
 have kc0:Keep (fun _=>True) W0 W0.drew:=kDr;have hT0:=hS _ kc0;refine hd7 ?_ hW0 k0 g1 g2 hS kc0 hT0;clear hW0 k0 g1 g2 hS kc0 hT0;intro XhW0 Xk0 Xg1 Xg2 XhS Xkc0 XhT0;refine qbp Tryz.func42 rfl ?_;simp only [Tryz.ntmps42,qdz,Nat.reduceAdd,Nat.reduceSub];gi_wp2;rw [XhW0.o,XhN.o];refine wpIn_mono (Q:=qsu fun a X=> ∃B avh cvh avb cvb u5 u6 u7 u8 u9 u10 u11 u12 u13 u14 u15 u16,(X.heap[B]?=some (.cells #[.string pr,.slice avh args.length cvh,.slice avb body.length cvb] 27 (0,0))/\N+2<=B/\Keep (fun _=>True) W0 X/\X.ownsRow (N+2) 60 2 (.slice avh args.length cvh) args.length (qac args)/\X.ownsRow (N+2) 64 7 (.slice avb body.length cvb) body.length (ps.flatMap qc2))/\a=⟨#[.agg #[.string pr,.slice aa args.length ca,.slice ab body.length cb],.pointer (some ⟨N,0,none⟩),.pointer (some ⟨N+1,0,none⟩),.pointer (some ⟨B,0,none⟩),undef,u5,u6,u7,u8,u9,u10,u11,u12,u13,u14,u15,u16,undef,undef,undef,undef,undef,undef,undef,undef,undef,undef,undef,undef,undef,undef,undef,undef,undef,undef,undef,undef,undef,undef],[]⟩) ?_ ?_
 ·refine qx rfl (fun X=>(X.cell? ⟨N,0,none⟩=some (.string pr)/\X.cell? ⟨N,1,none⟩=some (.slice aa args.length ca)/\X.cell? ⟨N,2,none⟩=some (.slice ab body.length cb))) [13] ?_;obtain⟨Wc0,hWc0⟩:=ex (W0.drew);have kcc:=Xkc0.o;rw [hWc0]at kcc⊢;have hTc:=XhS.o _ kcc;refine hd3 ?_ kcc hTc hWc0;clear kcc hTc hWc0;intro Xkcc XhTc XhWc0;refine qam [0,1,2,3,4,5,8,9] ?_
  iterate 8
   refine tkR (v:=?_) rfl XhTc.o ?_ ?_;rotate_left
   ·rintro Wq ⟨x1,x2,x3⟩;go_simp
    try with_reducible rfl
   try simp only [qan]
  refine qu ?_;refine qar (l:= [6,12]) (by kernel_rfl) (by simp) (fun i hi=>?_);simp only [mem_cons,not_mem_nil,or_false]at hi;rcases hi with rfl |rfl
  ·refine⟨_,rfl,fun K hK=>?_⟩;have XhK0:=Lib.hid hK;clear hK;gi_wp2;refine⟨trivial,rfl,(callsIn_wide.2 (Xhc1.o _ ((Xk0.o.trans Xkcc.o).mono fun _ _ _=>trivial))).mono ?_⟩;rintro e Wc1 ⟨vh,rfl,oh,kq0⟩;obtain⟨avh,cvh,rfl⟩:=qi oh;have kd0:=Xkcc.o.trans kq0;have ohb:=oh.mono (show N+2<=_ from Nat.le_trans (by omega) Xkcc.o.size);clear oh kq0;refine hd2 ?_ kd0 ohb;clear kd0 ohb;intro Xkd0 Xohb;gi_wp2;refine XhK0.o _ _ (fun _=>XhS.o _ Xkd0.o) ?_;clear XhK0;have hT1:=XhS.o _ Xkd0.o;refine hd1 ?_ hT1;clear hT1;intro XhT1;refine qam [7] ?_
   iterate 1
    refine tkR (v:=?_) rfl XhT1.o ?_ ?_;rotate_left
    ·rintro Wq ⟨x1,x2,x3⟩;go_simp
     try with_reducible rfl
    try simp only [qan]
   refine qu ?_;refine qar (l:= [10,12]) (by kernel_rfl) (by simp) (fun i hi=>?_);simp only [mem_cons,not_mem_nil,or_false]at hi;rcases hi with rfl |rfl
   ·refine⟨_,rfl,fun K hK=>?_⟩;have XhK1:=Lib.hid hK;clear hK;gi_wp2;refine⟨trivial,rfl,(callsIn_wide.2 (Xhc2.o _ ((Xk0.o.trans Xkd0.o).mono fun _ _ _=>trivial))).mono ?_⟩;rintro e Wc2 ⟨vb,rfl,ob,kq1⟩;obtain⟨avb,cvb,rfl⟩:=qi ob;have kd1:=Xkd0.o.trans kq1;have obb:=ob.mono (show N+2<=_ from Nat.le_trans (by omega) Xkd0.o.size);have ohb2:=qg Xohb.o kq1 (fun _ _=>trivial);clear Xohb;have ohb:=ohb2;clear ohb2;clear ob kq1;refine hd3 ?_ kd1 obb ohb;clear kd1 obb ohb;intro Xkd1 Xobb Xohb;gi_wp2;refine XhK1.o _ _ (fun _=>XhS.o _ Xkd1.o) ?_;clear XhK1;have hT2:=XhS.o _ Xkd1.o;refine hd1 ?_ hT2;clear hT2;intro XhT2;refine qam [11] ?_
    iterate 1
     refine tkR (v:=?_) rfl XhT2.o ?_ ?_;rotate_left
     ·rintro Wq ⟨x1,x2,x3⟩;go_simp
      try with_reducible rfl
     try simp only [qan]
    refine qu ?_;refine hoR 12 rfl fun K XhK2=>?_;obtain⟨Wc3,hWq2⟩: ∃Wq,Wc2.alloc (.cells #[.string ⟨#[]⟩,.slice none 0 0,.slice none 0 0] 27)=Wq:=⟨_,rfl⟩;obtain⟨B,hB⟩:=ex (Wc2.heap.size);have nbB:Wc3.heap[B]?=some (.cells #[.string ⟨#[]⟩,.slice none 0 0,.slice none 0 0] 27 (0,0)):=by rw [←hWq2,←hB];exact qh _ _
    have kq2:Keep (fun _=>True) Wc2 Wc3:=by rw [←hWq2];exact kAl
    have kd2:=Xkd1.o.trans kq2;have hBN:N+2<=B:=by rw [←hB];exact Nat.le_trans (by omega) Xkd1.o.size
    have ohb2:=qg Xohb.o kq2 (fun _ _=>trivial);clear Xohb;have ohb:=ohb2;clear ohb2;have obb2:=qg Xobb.o kq2 (fun _ _=>trivial);clear Xobb;have obb:=obb2;clear obb2;clear kq2;refine hd6 ?_ kd2 nbB hWq2 hB ohb obb;clear kd2 nbB hWq2 hB ohb obb;intro Xkd2 XnbB XhWq2 XhB Xohb Xobb;gi_wp2;rw [XhWq2.o,XhB.o];refine XhK2.o _ _ (fun _=>XhS.o _ Xkd2.o) ?_;clear XhK2;refine hoR 13 rfl fun K XhK3=>?_;have cB0:=qb XnbB.o 0 _ rfl;have cB1:=qb XnbB.o 1 _ rfl;have cB2:=qb XnbB.o 2 _ rfl;have fB0:=qf XnbB.o 0;have fB1:=qf XnbB.o 1;have fB2:=qf XnbB.o 2;have lBB:=qe XnbB.o;simp only [Nat.zero_add]at cB0 cB1 cB2;obtain⟨W9,hW9⟩:=ex (((Wc3.setCell ⟨B,0,none⟩ (.string pr)).setCell ⟨B,1,none⟩ (.slice avh args.length cvh)).setCell ⟨B,2,none⟩ (.slice avb body.length cvb));have k9:Keep (fun b=>b≠B) Wc3 W9:=by rw [←hW9];exact((kSc).trans (kSc)).trans (kSc)
    have b9:W9.heap[B]?=some (.cells #[.string pr,.slice avh args.length cvh,.slice avb body.length cvb] 27 (0,0)):=by rw [←hW9];exact q8 2 _ (q8 1 _ (q8 0 _ XnbB.o))
    have kW9:Keep (fun _=>True) W0 W9:=(((Xkd2.o.mono fun _ _ _=>trivial).trans k9).mono fun b hb _=>by omega);have oh9:=qg Xohb.o k9 (fun b hb e=>by subst e;obtain⟨cs,hcs⟩:=qav Xohb.o hb;rw [XnbB.o] at hcs;injection hcs with hcs;injection hcs with _ h2 _;revert h2;decide);have ob9:=qg Xobb.o k9 (fun b hb e=>by subst e;obtain⟨cs,hcs⟩:=qav Xobb.o hb;rw [XnbB.o] at hcs;injection hcs with hcs;injection hcs with _ h2 _;revert h2;decide);clear k9;refine hd5 ?_ hW9 b9 kW9 oh9 ob9;clear hW9 b9 kW9 oh9 ob9;intro XhW9 Xb9 XkW9 Xoh9 Xob9;gi_wp2;rw [XhW9.o];refine XhK3.o _ _ (fun h=>absurd h (by decide)) ?_;refine qk (by kernel_rfl) (qm ?_);exact⟨B,avh,cvh,avb,cvb,_,_,_,_,_,_,_,_,_,_,_,_,⟨Xb9.o,hBN,XkW9.o,Xoh9.o,Xob9.o⟩,rfl⟩
   ·refine⟨_,rfl,fun K hK=>?_⟩;have XhK1:=Lib.hid hK;clear hK;obtain⟨Wc2,hWq1⟩: ∃Wq,Wc1.alloc (.cells #[.string ⟨#[]⟩,.slice none 0 0,.slice none 0 0] 27)=Wq:=⟨_,rfl⟩;obtain⟨B,hB⟩:=ex (Wc1.heap.size);have nbB:Wc2.heap[B]?=some (.cells #[.string ⟨#[]⟩,.slice none 0 0,.slice none 0 0] 27 (0,0)):=by rw [←hWq1,←hB];exact qh _ _
    have kq1:Keep (fun _=>True) Wc1 Wc2:=by rw [←hWq1];exact kAl
    have kd1:=Xkd0.o.trans kq1;have hBN:N+2<=B:=by rw [←hB];exact Nat.le_trans (by omega) Xkd0.o.size
    have ohb2:=qg Xohb.o kq1 (fun _ _=>trivial);clear Xohb;have ohb:=ohb2;clear ohb2;clear kq1;refine hd5 ?_ kd1 nbB hWq1 hB ohb;clear kd1 nbB hWq1 hB ohb;intro Xkd1 XnbB XhWq1 XhB Xohb;gi_wp2;rw [XhWq1.o,XhB.o];refine XhK1.o _ _ (fun _=>XhS.o _ Xkd1.o) ?_;clear XhK1;refine hoR 10 rfl fun K XhK2=>?_;gi_wp2;refine⟨trivial,rfl,(callsIn_wide.2 (Xhc2.o _ ((Xk0.o.trans Xkd1.o).mono fun _ _ _=>trivial))).mono ?_⟩;rintro e Wc3 ⟨vb,rfl,ob,kq2⟩;obtain⟨avb,cvb,rfl⟩:=qi ob;have kd2:=Xkd1.o.trans kq2;have obb:=ob.mono (show N+2<=_ from Nat.le_trans (by omega) Xkd1.o.size);have ohb2:=qg Xohb.o kq2 (fun _ _=>trivial);clear Xohb;have ohb:=ohb2;clear ohb2;have nbB2:=kq2.heap XnbB.o trivial;clear XnbB;have nbB:=nbB2;clear nbB2;clear ob kq2;refine hd4 ?_ kd2 obb ohb nbB;clear kd2 obb ohb nbB;intro Xkd2 Xobb Xohb XnbB;gi_wp2;refine XhK2.o _ _ (fun _=>XhS.o _ Xkd2.o) ?_;clear XhK2;have hT3:=XhS.o _ Xkd2.o;refine hd1 ?_ hT3;clear hT3;intro XhT3;refine qam [11] ?_
    iterate 1
     refine tkR (v:=?_) rfl XhT3.o ?_ ?_;rotate_left
     ·rintro Wq ⟨x1,x2,x3⟩;go_simp
      try with_reducible rfl
     try simp only [qan]
    refine qu ?_;refine hoR 13 rfl fun K XhK3=>?_;have cB0:=qb XnbB.o 0 _ rfl;have cB1:=qb XnbB.o 1 _ rfl;have cB2:=qb XnbB.o 2 _ rfl;have fB0:=qf XnbB.o 0;have fB1:=qf XnbB.o 1;have fB2:=qf XnbB.o 2;have lBB:=qe XnbB.o;simp only [Nat.zero_add]at cB0 cB1 cB2;obtain⟨W9,hW9⟩:=ex (((Wc3.setCell ⟨B,0,none⟩ (.string pr)).setCell ⟨B,1,none⟩ (.slice avh args.length cvh)).setCell ⟨B,2,none⟩ (.slice avb body.length cvb));have k9:Keep (fun b=>b≠B) Wc3 W9:=by rw [←hW9];exact((kSc).trans (kSc)).trans (kSc)
    have b9:W9.heap[B]?=some (.cells #[.string pr,.slice avh args.length cvh,.slice avb body.length cvb] 27 (0,0)):=by rw [←hW9];exact q8 2 _ (q8 1 _ (q8 0 _ XnbB.o))
    have kW9:Keep (fun _=>True) W0 W9:=(((Xkd2.o.mono fun _ _ _=>trivial).trans k9).mono fun b hb _=>by omega);have oh9:=qg Xohb.o k9 (fun b hb e=>by subst e;obtain⟨cs,hcs⟩:=qav Xohb.o hb;rw [XnbB.o] at hcs;injection hcs with hcs;injection hcs with _ h2 _;revert h2;decide);have ob9:=qg Xobb.o k9 (fun b hb e=>by subst e;obtain⟨cs,hcs⟩:=qav Xobb.o hb;rw [XnbB.o] at hcs;injection hcs with hcs;injection hcs with _ h2 _;revert h2;decide);clear k9;refine hd5 ?_ hW9 b9 kW9 oh9 ob9;clear hW9 b9 kW9 oh9 ob9;intro XhW9 Xb9 XkW9 Xoh9 Xob9;gi_wp2;rw [XhW9.o];refine XhK3.o _ _ (fun h=>absurd h (by decide)) ?_;refine qk (by kernel_rfl) (qm ?_);exact⟨B,avh,cvh,avb,cvb,_,_,_,_,_,_,_,_,_,_,_,_,⟨Xb9.o,hBN,XkW9.o,Xoh9.o,Xob9.o⟩,rfl⟩
  ·refine⟨_,rfl,fun K hK=>?_⟩;have XhK0:=Lib.hid hK;clear hK;obtain⟨Wc1,hWq0⟩: ∃Wq,Wc0.alloc (.cells #[.string ⟨#[]⟩,.slice none 0 0,.slice none 0 0] 27)=Wq:=⟨_,rfl⟩;obtain⟨B,hB⟩:=ex (Wc0.heap.size);have nbB:Wc1.heap[B]?=some (.cells #[.string ⟨#[]⟩,.slice none 0 0,.slice none 0 0] 27 (0,0)):=by rw [←hWq0,←hB];exact qh _ _
   have kq0:Keep (fun _=>True) Wc0 Wc1:=by rw [←hWq0];exact kAl
   have kd0:=Xkcc.o.trans kq0;have hBN:N+2<=B:=by rw [←hB];exact Nat.le_trans (by omega) Xkcc.o.size
   clear kq0;refine hd4 ?_ kd0 nbB hWq0 hB;clear kd0 nbB hWq0 hB;intro Xkd0 XnbB XhWq0 XhB;gi_wp2;rw [XhWq0.o,XhB.o];refine XhK0.o _ _ (fun _=>XhS.o _ Xkd0.o) ?_;clear XhK0;refine hoR 6 rfl fun K XhK1=>?_;gi_wp2;refine⟨trivial,rfl,(callsIn_wide.2 (Xhc1.o _ ((Xk0.o.trans Xkd0.o).mono fun _ _ _=>trivial))).mono ?_⟩;rintro e Wc2 ⟨vh,rfl,oh,kq1⟩;obtain⟨avh,cvh,rfl⟩:=qi oh;have kd1:=Xkd0.o.trans kq1;have ohb:=oh.mono (show N+2<=_ from Nat.le_trans (by omega) Xkd0.o.size);have nbB2:=kq1.heap XnbB.o trivial;clear XnbB;have nbB:=nbB2;clear nbB2;clear oh kq1;refine hd3 ?_ kd1 ohb nbB;clear kd1 ohb nbB;intro Xkd1 Xohb XnbB;gi_wp2;refine XhK1.o _ _ (fun _=>XhS.o _ Xkd1.o) ?_;clear XhK1;have hT2:=XhS.o _ Xkd1.o;refine hd1 ?_ hT2;clear hT2;intro XhT2;refine qam [7] ?_
   iterate 1
    refine tkR (v:=?_) rfl XhT2.o ?_ ?_;rotate_left
    ·rintro Wq ⟨x1,x2,x3⟩;go_simp
     try with_reducible rfl
    try simp only [qan]
   refine qu ?_;refine hoR 10 rfl fun K XhK2=>?_;gi_wp2;refine⟨trivial,rfl,(callsIn_wide.2 (Xhc2.o _ ((Xk0.o.trans Xkd1.o).mono fun _ _ _=>trivial))).mono ?_⟩;rintro e Wc3 ⟨vb,rfl,ob,kq2⟩;obtain⟨avb,cvb,rfl⟩:=qi ob;have kd2:=Xkd1.o.trans kq2;have obb:=ob.mono (show N+2<=_ from Nat.le_trans (by omega) Xkd1.o.size);have ohb2:=qg Xohb.o kq2 (fun _ _=>trivial);clear Xohb;have ohb:=ohb2;clear ohb2;have nbB2:=kq2.heap XnbB.o trivial;clear XnbB;have nbB:=nbB2;clear nbB2;clear ob kq2;refine hd4 ?_ kd2 obb ohb nbB;clear kd2 obb ohb nbB;intro Xkd2 Xobb Xohb XnbB;gi_wp2;refine XhK2.o _ _ (fun _=>XhS.o _ Xkd2.o) ?_;clear XhK2;have hT3:=XhS.o _ Xkd2.o;refine hd1 ?_ hT3;clear hT3;intro XhT3;refine qam [11] ?_
   iterate 1
    refine tkR (v:=?_) rfl XhT3.o ?_ ?_;rotate_left
    ·rintro Wq ⟨x1,x2,x3⟩;go_simp
     try with_reducible rfl
    try simp only [qan]
   refine qu ?_;refine hoR 13 rfl fun K XhK3=>?_;have cB0:=qb XnbB.o 0 _ rfl;have cB1:=qb XnbB.o 1 _ rfl;have cB2:=qb XnbB.o 2 _ rfl;have fB0:=qf XnbB.o 0;have fB1:=qf XnbB.o 1;have fB2:=qf XnbB.o 2;have lBB:=qe XnbB.o;simp only [Nat.zero_add]at cB0 cB1 cB2;obtain⟨W9,hW9⟩:=ex (((Wc3.setCell ⟨B,0,none⟩ (.string pr)).setCell ⟨B,1,none⟩ (.slice avh args.length cvh)).setCell ⟨B,2,none⟩ (.slice avb body.length cvb));have k9:Keep (fun b=>b≠B) Wc3 W9:=by rw [←hW9];exact((kSc).trans (kSc)).trans (kSc)
   have b9:W9.heap[B]?=some (.cells #[.string pr,.slice avh args.length cvh,.slice avb body.length cvb] 27 (0,0)):=by rw [←hW9];exact q8 2 _ (q8 1 _ (q8 0 _ XnbB.o))
   have kW9:Keep (fun _=>True) W0 W9:=(((Xkd2.o.mono fun _ _ _=>trivial).trans k9).mono fun b hb _=>by omega);have oh9:=qg Xohb.o k9 (fun b hb e=>by subst e;obtain⟨cs,hcs⟩:=qav Xohb.o hb;rw [XnbB.o] at hcs;injection hcs with hcs;injection hcs with _ h2 _;revert h2;decide);have ob9:=qg Xobb.o k9 (fun b hb e=>by subst e;obtain⟨cs,hcs⟩:=qav Xobb.o hb;rw [XnbB.o] at hcs;injection hcs with hcs;injection hcs with _ h2 _;revert h2;decide);clear k9;refine hd5 ?_ hW9 b9 kW9 oh9 ob9;clear hW9 b9 kW9 oh9 ob9;intro XhW9 Xb9 XkW9 Xoh9 Xob9;gi_wp2;rw [XhW9.o];refine XhK3.o _ _ (fun h=>absurd h (by decide)) ?_;refine qk (by kernel_rfl) (qm ?_);exact⟨B,avh,cvh,avb,cvb,_,_,_,_,_,_,_,_,_,_,_,_,⟨Xb9.o,hBN,XkW9.o,Xoh9.o,Xob9.o⟩,rfl⟩
 ·rintro e act X hR;cases e with
  |normal=>
   obtain⟨B,avh,cvh,avb,cvb,u5,u6,u7,u8,u9,u10,u11,u12,u13,u14,u15,u16,⟨b4,hBN,kW4,oh4,ob4⟩,rfl⟩:=hR
   dsimp only
   obtain⟨W4,hW4⟩: ∃W4,W4=X:=⟨_,rfl⟩;subst hW4;have r4:=kW4.heap Xg2.o trivial;have kw4:Keep (fun b=>b<N) w W4:=(Xk0.o.trans kW4).mono fun _ _ _=>trivial;have c2':=qb b4 2 _ rfl;simp only [Nat.zero_add]at c2';have hl4:B<W4.heap.size:=qe b4;refine hd5 ?_ b4 oh4 ob4 kw4 r4;clear b4 oh4 ob4 kw4 r4;intro Xb4 Xoh4 Xob4 Xkw4 Xr4;gi_wp2;clear c2';gi_loopw [20] (fun i' wr=> ∃(k:Nat) (qs:List (LitD×Value)),k<=body.length/\i'=.int .i64 (k:Int)/\wr.heap[B]?=some (.cells #[.string pr,.slice avh args.length cvh,.slice avb body.length cvb] 27 (0,0))/\Keep (fun b=>b<N+2) W4 wr/\qs.length=k/\qs.map (·.1)=body.take k/\
    wr.ownsRow (N+2) 64 7 (.slice avb body.length cvb) body.length ((qs++ps.drop k).flatMap qc2)/\wr.ownsRow (N+2) 60 2 (.slice avh args.length cvh) args.length (qac args)/\
    (∀p,p∈qs->wr.ownsRow (N+2) 60 2 p.2 p.1.atom.args.length (qac p.1.atom.args))) (fun i _=>body.length-(intOf i).toNat)
   case atStart=>exact⟨0,[],by omega,rfl,Xb4.o,Keep.refl _ _,rfl,rfl,Xob4.o,Xoh4.o,by simp⟩
   case round=>
    obtain⟨k,qs,hk,rfl,bx,hK,hql,hqm,hob,hoh,hqo⟩:=hrel;have hsz:=hK.size;have c2:=qb bx 2 _ rfl;simp only [Nat.zero_add]at c2;have hNl:B<wr.heap.size:=qe bx;have kw:Keep (fun b=>b<w.heap.size) w wr:=(Xkw4.o.mono fun b _ h=>by have:=XhN.o;omega).trans (hK.mono fun b _ h=>by have:=XhN.o;omega);by_cases hlt:k<body.length
    ·have hlt1:(k:Int)<body.length:=by omega
     have hk0:(0:Int)<=k:=by omega
     obtain⟨p,hp⟩: ∃p,ps[k]?=some p:=⟨_,getElem?_eq_getElem (by rw [Xhplen.o];exact hlt)⟩;obtain⟨g,rfl⟩: ∃g,avb=some ⟨g,0,none⟩:=by
      rcases hob.2 with ⟨h1,h2⟩ |⟨g,_,_,h1,_⟩
      ·omega
      ·cases h1;exact⟨g,rfl⟩
     have hdrop:ps.drop k=p::ps.drop (k+1):=by
      have hkk:=(List.getElem?_eq_some_iff.1 hp).1;have:=drop_eq_getElem_cons hkk;rw [(List.getElem?_eq_some_iff.1 hp).2]at this;exact this
     have hpm:=mem_of_getElem? hp;obtain⟨apa,cpa,hpv,-,-,-⟩:=id (Xhpt.o p hpm);have hcl:=Xhc3.o p hpm wr.drew (kw.trans kDr) apa cpa hpv;have hel:wr.cell? ⟨g,k*7+2,none⟩=some p.2:=by
      have:=qb7 hob (k*7+2) p.2 (by rw [hdrop,qbc qc2 7 (fun _=>rfl) (qs++p::ps.drop (k+1)) k 2 p (by rw [getElem?_append_right (by omega),hql];simp) (by omega)];rfl);exact this
     rw [hpv]at hel;have hgl:=(qkz hob);have hpk:body[k]?=some p.1:=by rw [←Xhps.o,getElem?_map,hp];rfl
     have hxl:(k*7+2)<((qs++ps.drop k).flatMap qc2).length:=by
      rw [qa0 qc2 7 (fun _=>rfl),length_append,length_drop,hql,Xhplen.o];omega
     have hgw:g<wr.heap.size:=hgl.2.2.1;clear hp;refine qoi ?_ hK hql hqm hob hoh hqo bx kw hdrop hpm hcl hpk hpv hxl;clear hK hql hqm hob hoh hqo bx kw hdrop hpm hcl hpk hpv hxl;intro XhK Xhql Xhqm Xhob Xhoh Xhqo Xbx Xkw Xhdrop Xhpm Xhcl Xhpk Xhpv Xhxl;gi_wp2;refine qab ?_;refine qx rfl (fun W=>W.cell? ⟨B,2,none⟩=some (.slice (some ⟨g,0,none⟩) body.length cvb)/\W.cell? ⟨g,k*7+2,none⟩=some (.slice apa p.1.atom.args.length cpa)) [14] ?_;have XhS0:=Lib.hid (And.intro c2 hel);refine qam [0,1,2,3,4,5,6,7,8,9] ?_
     iterate 10
      refine tkR (v:=?_) rfl XhS0.o ?_ ?_;rotate_left
      ·rintro Wq ⟨s0,s1⟩;go_simp
       try with_reducible rfl
      try simp only [qan]
     refine qu ?_;refine qfv (i:=10) rfl (by kernel_rfl) (fun KK hKK=>?_);have XhR0:=Lib.hid hKK;clear hKK;simp only [getElem_toArray,getElem_cons_zero,getElem_cons_succ,Act.put,setIfInBounds_toArray,set_cons_zero,set_cons_succ,Nat.zero_add];gi_wp2;refine⟨trivial,rfl,(callsIn_wide.2 Xhcl.o).mono ?_⟩;rintro e W5 ⟨v',rfl,o5,k5⟩;have n0:=k5.cell (show wr.drew.cell? ⟨B,2,none⟩=_ from c2) trivial;have n1:=k5.cell (show wr.drew.cell? ⟨g,k*7+2,none⟩=_ from hel) trivial;have hz5:=k5.size;simp only [World.size_drew]at hz5;obtain⟨av5,cv5,rfl⟩:=qi o5;gi_wp2;refine XhR0.o _ _ (fun _=>⟨n0,n1⟩) ?_;refine qfv (i:=11) rfl (by kernel_rfl) (fun KK hKK=>?_);have XhR1:=Lib.hid hKK;clear hKK;gi_wp2;refine XhR1.o _ _ (fun _=>⟨n0,n1⟩) ?_;refine qfv (i:=12) rfl (by kernel_rfl) (fun KK hKK=>?_);have XhR2:=Lib.hid hKK;clear hKK;gi_wp2;refine XhR2.o _ _ (fun _=>⟨n0,n1⟩) ?_;refine qfv (i:=13) rfl (by kernel_rfl) (fun KK hKK=>?_);have XhR3:=Lib.hid hKK;clear hKK;gi_wp2;refine XhR3.o _ _ (fun _=>⟨n0,n1⟩) ?_;refine qfv (i:=14) rfl (by kernel_rfl) (fun KK hKK=>?_);have XhR4:=Lib.hid hKK;clear hKK;have k05:Keep (fun _=>True) wr W5:=kDr.trans k5;have hob5:=qg Xhob.o k05 (fun _ _=>trivial);obtain⟨cs5,ht5⟩:=qav hob5 (b:=g) rfl;have n1f:=qf ht5 (k*7+2);have hg5:=qe ht5;obtain⟨W6,hW6⟩:=ex (W5.setCell ⟨g,k*7+2,none⟩ (.slice av5 p.1.atom.args.length cv5));have k6:Keep (fun b=>b≠g) W5 W6:=by rw [←hW6];exact kSc
     have hob6:=qjf hob5 (k*7+2) (.slice av5 p.1.atom.args.length cv5) Xhxl.o;rw [hW6,Xhdrop.o]at hob6;have hset:=qw7 qs (ps.drop (k+1)) p (.slice av5 p.1.atom.args.length cv5);rw [Xhql.o]at hset;rw [hset]at hob6;have notg: ∀(base:Nat) (v:Value) (m:Nat) (xs:List Value),W5.ownsRow base 60 2 v m xs-> ∀b,v.ownBlock=some b->b≠g:=fun base v m xs h b hb e=>by
      obtain⟨c2,t2⟩:=qav h hb;rw [e,ht5]at t2;cases t2
     have hoh5:=qg Xhoh.o k05 (fun _ _=>trivial);have hoh6:=qg hoh5 k6 (notg _ _ _ _ hoh5);have bx6:W6.heap[B]?=some (.cells #[.string pr,.slice avh args.length cvh,.slice (some ⟨g,0,none⟩) body.length cvb] 27 (0,0)):=k6.heap (k05.heap Xbx.o trivial) (fun e=>by subst e;have h9:=k05.heap Xbx.o trivial;rw [ht5] at h9;injection h9 with h9;injection h9 with _ h2 _;revert h2;decide);have hK6:Keep (fun b=>b<N+2) W4 W6:=(XhK.o.trans (k05.mono fun _ _ _=>trivial)).trans (k6.mono fun b _ h=>by omega);have o6:=(qg o5 k6 (notg _ _ _ _ o5)).mono (show N+2<=wr.heap.size by omega);have hqo6: ∀q,q∈qs++ [(p.1,Value.slice av5 p.1.atom.args.length cv5)]->W6.ownsRow (N+2) 60 2 q.2 q.1.atom.args.length (qac q.1.atom.args):=fun q hq=>by
      rcases mem_append.1 hq with h |h
      ·have h1:=qg (Xhqo.o q h) k05 (fun _ _=>trivial);exact qg h1 k6 (notg _ _ _ _ h1)
      ·simp only [mem_singleton]at h;subst h;exact o6
     have hqm6:(qs++ [(p.1,Value.slice av5 p.1.atom.args.length cv5)]).map (·.1)=body.take (k+1):=by
      rw [map_append,Xhqm.o,take_add_one,Xhpk.o];rfl
     have hql6:(qs++ [(p.1,Value.slice av5 p.1.atom.args.length cv5)]).length=k+1:=by rw [length_append,Xhql.o];rfl
     have hob6':W6.ownsRow (N+2) 64 7 (.slice (some ⟨g,0,none⟩) body.length cvb) body.length (((qs++ [(p.1,Value.slice av5 p.1.atom.args.length cv5)])++ps.drop (k+1)).flatMap qc2):=by
      rw [append_assoc];exact hob6
     clear k05 hob5 ht5 k6 hob6 hset notg hoh5 k5 o5 o6;refine hd8 ?_ bx6 hW6 hob6' hoh6 hK6 hqo6 hqm6 hql6;clear bx6 hW6 hob6' hoh6 hK6 hqo6 hqm6 hql6;intro Xbx6 XhW6 Xhob6' Xhoh6 XhK6 Xhqo6 Xhqm6 Xhql6;gi_wp2;refine XhR4.o _ _ (fun h=>absurd h (by decide)) ?_;refine qk (by kernel_rfl) (qm ?_);clear XhS0 XhR0 XhR1 XhR2 XhR3 XhR4 n0 n1 n1f;rw [XhW6.o];gi_wp2;go_roundw
     case rel=>exact⟨k+1,_,by omega,by go_num,Xbx6.o,XhK6.o,Xhql6.o,Xhqm6.o,Xhob6'.o,Xhoh6.o,Xhqo6.o⟩
     case measure=>simp [intOf];omega
    ·obtain rfl:k=body.length:=by omega
     have hd0:ps.drop body.length= []:=by rw [drop_eq_nil_of_le (by rw [Xhplen.o];exact Nat.le_refl _)]
     rw [hd0,append_nil]at hob;rw [take_length]at hqm;have c0:=qb bx 0 _ rfl;have c1:=qb bx 1 _ rfl;have rx:=hK.heap Xr4.o (show N+1<N+2 by omega);have d0:=qb rx 0 _ rfl;have d1:=qb rx 1 _ rfl;have d2:=qb rx 2 _ rfl;have f0:=qf rx 0;have f1:=qf rx 1;have f2:=qf rx 2;simp only [Nat.zero_add]at c0 c1 d0 d1 d2;have hNr:N+1<wr.heap.size:=qe rx;clear hd0;refine hd9 ?_ hK hql hqm hob hoh hqo bx kw rx;clear hK hql hqm hob hoh hqo bx kw rx;intro XhK Xhql Xhqm Xhob Xhoh Xhqo Xbx Xkw Xrx;gi_wp2;refine bodyPost_ret (v:=.agg #[.string pr,.slice avh args.length cvh,.slice avb body.length cvb]) (by simp [results,Tryz.results42,go_sem,d0,d1,d2,hNr]) rfl ?_;have kS:Keep (fun b=>b≠N+1) wr (((wr.setCell ⟨N+1,0,none⟩ (.string pr)).setCell ⟨N+1,1,none⟩ (.slice avh args.length cvh)).setCell ⟨N+1,2,none⟩ (.slice avb body.length cvb)):=
      ((kSc).trans (kSc)).trans (kSc)
     have hNe:=XhN.o;refine⟨_,_,rfl,⟨(qg Xhoh.o kS (fun b hb=>by have:=(World.ownsRow.lt Xhoh.o b hb).1;omega)).mono (by omega),qs,Xhqm.o,(qg Xhob.o kS (fun b hb=>by have:=(World.ownsRow.lt Xhob.o b hb).1;omega)).mono (by omega),fun q hq=>?_⟩,Xkw.o.trans (kS.mono fun b _ h=>by omega)⟩;have h1:=Xhqo.o q hq;exact(qg h1 kS (fun b hb=>by have:=(World.ownsRow.lt h1 b hb).1;omega)).mono (by omega)
  |ret=>exact hR.elim
  |exit _=>exact hR.elim
  |goto _=>exact hR.elim
  |panic _=>exact hR.elim
  |outgrown=>exact hR.elim
end Go.Proofs
