/- Parts of the proof. -/
import Derived.Test.YtnponcjnahicnaaGreatProg
import Derived.Test.YtnponcjnahicnaaGreatKtAToRfB
import Derived.Test.YtnponcjnahicnaaGreatHdToKp
import Derived.Test.YtnponcjnahicnaaGreatHoistToRowC
set_option linter.unusedSimpArgs false
set_option linter.unusedVariables false
open Go.Proofs.Tryz(prog)
open List(append_assoc drop_eq_getElem_cons drop_length ext_getElem? filter_append filter_cons_of_neg filter_cons_of_pos filter_map flatMap_append flatMap_cons flatMap_map foldl_append getD_eq_getElem?_getD getElem?_append_left getElem?_append_right getElem?_eq_getElem getElem?_eq_none getElem?_map getElem?_range length_append length_filter_le length_map length_take map_append map_cons map_map mem_append mem_cons_of_mem mem_cons_self mem_flatMap mem_of_getElem? mem_singleton take_add_one take_append_drop take_length take_sublist)
namespace Go.Proofs
open Go.RowKit Go.Ink Go.Flt R4 P16
attribute [local go_sem] Oper.semAt_some
theorem q1u {ts l:List ByteArray}{k:Nat}{t:ByteArray}(h:ts[k]?=some t):(ts.take (k+1)).foldl qq l=qq ((ts.take k).foldl qq l) t:=by
 rw [take_add_one,h,foldl_append];rfl
theorem qh6 {w:World}{base:Nat}{e:TypeId}{sz:Nat}{v:Value}{n:Nat}{xs:List Value}(h:w.ownsRow base e sz v n xs){b:Nat}(hb:b<base):some b≠v.ownBlock:=fun he=>by
 have:=(World.ownsRow.lt h b he.symm).1;omega
set_option maxRecDepth 100000 in
set_option maxHeartbeats 1000000 in
theorem quq {w:World}{base:Nat}{v vf:Value}{l ts:List ByteArray}{n:Nat}(p:ByteArray)(ho:w.ownsRow base 9 1 v l.length (l.map .string))(hf:qae n w vf ts)(hn:n<=base)(hb:base<=w.heap.size)(hl:l.length+ts.length<=1073741824):
  Calls prog 36 #[v,.agg #[.string p,vf]] w fun e w'=> ∃v',e=.returned v'/\Keep (fun b=>b<base) w w'/\w'.ownsRow base 9 1 v' (ts.foldl qq l).length ((ts.foldl qq l).map .string):=by
 obtain⟨af,cf,rfl,hlf,hcf,hef⟩:=id hf;obtain⟨N,hN⟩:=ex (w.heap.size);obtain⟨W0,hW0⟩:=ex (w.alloc (.cells #[.string p,.slice af ts.length cf] 52));have k0:Keep (fun _=>True) w W0:=by rw [←hW0];exact kAl
 have p0:W0.heap[N]?=some (.cells #[.string p,.slice af ts.length cf] 52 (0,0)):=by rw [←hW0,←hN];exact qh _ _
 have z0:W0.heap.size=N+1:=by rw [←hW0,←hN];simp
 have o0:=qg ho k0 (fun _ _=>trivial);have g0: ∀g,v.ownBlock=some g->g≠N:=fun g h=>by have:=(World.ownsRow.lt ho g h).2;omega
 have hf0:=qbr hf (k0.mono fun _ _ _=>trivial);have hlen:=qe9 ts l;refine qd9 ?_ ho hf hef hN hW0 k0 p0 o0 g0 hf0;clear ho hf hef hN hW0 k0 p0 o0 g0 hf0;intro Xho Xhf Xhef XhN XhW0 Xk0 Xp0 Xo0 Xg0 Xhf0
 go_enter Tryz.func36,Tryz.ntmps36
 go_wp2_with fail;rw [XhW0.o,XhN.o]
 go_loopw [0,5] (fun v0 ix wr=> ∃k:Nat,k<=ts.length/\ix=.int .i64 (k:Int)/\Keep (fun b=>b<base∨b=N) W0 wr/\(∀g,v0.ownBlock=some g->g≠N)/\wr.ownsRow base 9 1 v0 ((ts.take k).foldl qq l).length (((ts.take k).foldl qq l).map .string)) (fun _ i _=>ts.length-(intOf i).toNat)
 case atStart=>exact⟨0,by omega,rfl,Keep.refl _ _,Xg0.o,Xo0.o⟩
 case round=>
  obtain⟨k,hk,rfl,hK,hg,hO⟩:=hrel;have hbx:=hK.heap Xp0.o (.inr rfl);have d0:=qb hbx 0 _ rfl;have d1:=qb hbx 1 _ rfl;have hbl:=qe hbx;simp only [Nat.zero_add]at d0 d1;have hszk:=hK.size;by_cases hlt:k<ts.length
  ·obtain⟨x,hx⟩: ∃x,ts[k]?=some x:=⟨_,getElem?_eq_getElem hlt⟩;obtain⟨b,off,rfl,hb',he⟩:=Xhef.o k x hx;have f0:=hK.cell (Xk0.o.cell he trivial) (show b<base∨b=N from .inl (by omega));simp only [Nat.mul_one]at f0;have hbw:b<wr.heap.size:=by have:=XhN.o;omega
   have hlt1:(k:Int)<ts.length:=by omega
   have hk0:(0:Int)<=k:=by omega
   have htk:=q1u (l:=l) hx;have hll:=qe9 (ts.take k) l;rw [length_take]at hll;have hS:=qcn hO (by omega);obtain⟨ss,hss⟩:=ex ((ts.take k).foldl qq l);rw [hss]at hO htk hll hS;clear hss hx he;refine hd6 ?_ hK hO htk hS hg hbx;clear hK hO htk hS hg hbx;intro XhK XhO Xhtk XhS Xhg Xhbx;go_wp2_with fail;refine(qrm wr.heap.size _ ss x _ XhS.o (Nat.le_refl _)).mono ?_;rintro e W1 ⟨i,rfl,hw1,hi1,hi2,hin⟩;subst hw1;by_cases hneg:i<0
   ·have hout:=hin.1 hneg;have htk2:(ts.take (k+1)).foldl qq l=ss++ [x]:=Xhtk.o.trans (if_neg hout);obtain⟨v',W2,hr2,ho2,hk2,g2,cap2,hv2,hg2,hl2⟩:=qc4 qga 46 XhO.o [.string x] rfl (by simp [Value.oneCell']) (by omega) (by have:=XhN.o;omega);subst hv2;have kW:=XhK.o.trans (hk2.mono fun b _ (h:b<base∨b=N)=>by
     rcases h with h |rfl
     ·exact qh6 XhO.o h
     ·exact fun e=>Xhg.o _ e.symm rfl)
    have ho3:W2.ownsRow base 9 1 (.slice (some ⟨g2,0,none⟩) (ss.length+1) cap2) ((ts.take (k+1)).foldl qq l).length (((ts.take (k+1)).foldl qq l).map .string):=by
     rw [htk2]
     simpa using ho2
    have hg3: ∀g,(Value.slice (some ⟨g2,0,none⟩) (ss.length+1) cap2).ownBlock=some g->g≠N:=fun g h=>by
     simp [Value.ownBlock]at h;rcases hg2 with h2 |h2
     ·rw [←h];exact Xhg.o _ h2
     ·have:=XhN.o;omega
    clear hin hout htk2 ho2 hk2 hg2 hl2;refine hd4 ?_ hr2 kW ho3 hg3;clear hr2 kW ho3 hg3;intro Xhr2 XkW Xho3 Xhg3;go_wp2_with (at_builtin;refine qcq rfl _ _ _ rfl rfl rfl Xhr2.o ?_);go_roundw
    case rel=>exact⟨k+1,by omega,by go_num,XkW.o,Xhg3.o,Xho3.o⟩
    case measure=>simp [intOf];omega
   ·have hout:x∈ss:=by
     by_cases h:x∈ss
     ·exact h
     ·exact absurd (hin.2 h) hneg
    have htk2:(ts.take (k+1)).foldl qq l=ss:=Xhtk.o.trans (if_pos hout);clear hin hout;refine hd1 ?_ htk2;clear htk2;intro Xhtk2;go_wp2_with fail;go_roundw
    case rel=>exact⟨k+1,by omega,by go_num,XhK.o,Xhg.o,by rw [Xhtk2.o];exact XhO.o⟩
    case measure=>simp [intOf];omega
  ·obtain rfl:k=ts.length:=by omega
   rw [take_length]at hO;have hE:Keep (fun b=>b<base) w wr:=(Xk0.o.mono fun _ _ _=>trivial).trans (hK.mono fun b _ h=>.inl h);refine hd5 ?_ hK hO hg hbx hE;clear hK hO hg hbx hE;intro XhK XhO Xhg Xhbx XhE;go_wp2_with fail;go_ret;exact⟨_,rfl,XhE.o,XhO.o⟩
def qca (body:List LitD):List qed:=(body.filter fun L=>L.kind==1).map (·.atom)
theorem qur {body:List LitD}{k:Nat}{L:LitD}(h:body[k]?=some L)(hk:(L.kind==1)=true):qca (body.take (k+1))=qca (body.take k)++ [L.atom]:=by
 unfold qca;rw [take_add_one,h,filter_append,map_append];simp [hk]
theorem qwc {body:List LitD}{k:Nat}{L:LitD}(h:body[k]?=some L)(hk:(L.kind==1)=false):qca (body.take (k+1))=qca (body.take k):=by
 unfold qca;rw [take_add_one,h,filter_append,map_append];simp [hk]
theorem qnf (body:List LitD):(qca body).length<=body.length:=by
 unfold qca;rw [length_map];exact length_filter_le _ _
def qd4 (p:qed×Value):List Value:= [.string p.1.pred,p.2]
theorem q4f:qce prog 99 24 2 40:=qcx (z:=.agg #[.string ⟨#[]⟩,.slice none 0 0]) (by kernel_rfl) (by kernel_rfl) rfl (by decide) (by decide)
set_option maxRecDepth 100000 in
set_option maxHeartbeats 1000000 in
theorem qsm {n:Nat}{r:RuleD}{sh sb:Value}{w:World}(hr:RuleIn n w sh sb r)(hn:n<=w.heap.size):
  Calls prog 45 #[qbf r sh sb] w fun e w'=> ∃(v:Value) (ps:List (qed×Value)),e=.returned v/\Keep (fun b=>b<w.heap.size) w w'/\ps.map (·.1)=qca r.body/\(∀p,p∈ps->qaj n w' p.2 p.1.args)/\w'.ownsRow w.heap.size 24 2 v ps.length (ps.flatMap qd4):=by
 obtain⟨⟨ah,capH,rfl,hlenh,hcaph,helh⟩,⟨ab,capB,rfl,hlenb,hcapb,helb⟩⟩:=id hr;unfold qbf;obtain⟨N,hN⟩:=ex (w.heap.size);obtain⟨W0,hW0⟩:=ex (w.alloc (.cells #[.string r.head.pred,.slice ah r.head.args.length capH,.slice ab r.body.length capB] 27));have k0:Keep (fun _=>True) w W0:=by rw [←hW0];exact kAl
 have p0:W0.heap[N]?=some (.cells #[.string r.head.pred,.slice ah r.head.args.length capH,.slice ab r.body.length capB] 27 (0,0)):=by rw [←hW0,←hN];exact qh _ _
 have z0:W0.heap.size=N+1:=by rw [←hW0,←hN];simp
 refine hd7 ?_ hr helh helb hN hW0 k0 p0;clear hr helh helb hN hW0 k0 p0;intro Xhr Xhelh Xhelb XhN XhW0 Xk0 Xp0
 go_enter Tryz.func45,Tryz.ntmps45
 go_wp2_with fail;rw [XhW0.o,XhN.o]
 go_loopw [3,4] (fun v3 ix wr=> ∃(k:Nat) (ps:List (qed×Value)),k<=r.body.length/\ix=.int .i64 (k:Int)/\Keep (fun b=>b<N+1) W0 wr/\ps.map (·.1)=qca (r.body.take k)/\(∀p,p∈ps->qaj n wr p.2 p.1.args)/\wr.ownsRow (N+1) 24 2 v3 ps.length (ps.flatMap qd4)) (fun _ i _=>r.body.length-(intOf i).toNat)
 case atStart=>exact⟨0,[],by omega,rfl,Keep.refl _ _,rfl,fun p h=>(by cases h),World.ownsRow_nil _ _ _ _⟩
 case round=>
  obtain⟨k,ps,hk,rfl,hK,hps,hT,hO⟩:=hrel;have hbx:=hK.heap Xp0.o (by omega);have d0:=qb hbx 0 _ rfl;have d1:=qb hbx 1 _ rfl;have d2:=qb hbx 2 _ rfl;have hbl:=qe hbx;simp only [Nat.zero_add]at d0 d1 d2;have hszk:=hK.size;by_cases hlt:k<r.body.length
  ·obtain⟨L,hL⟩: ∃L,r.body[k]?=some L:=⟨_,getElem?_eq_getElem hlt⟩;obtain⟨b,off,rfl,hb,sa,hcl,hts⟩:=Xhelb.o k L hL;have kw:Keep (fun b=>b<n) w wr:=(Xk0.o.mono fun _ _ _=>trivial).trans (hK.mono fun b _ h=>by have:=XhN.o;omega);have f0:=kw.cell (hcl 0 _ rfl) hb;have f1:=kw.cell (hcl 1 _ rfl) hb;have f2:=kw.cell (hcl 2 _ rfl) hb;have htr:=qas hts kw;have hbw:b<wr.heap.size:=by have:=XhN.o;omega
   have hlt1:(k:Int)<r.body.length:=by omega
   have hk0:(0:Int)<=k:=by omega
   simp only [Nat.add_zero]at f0;have hpl:ps.length<=k:=by
    have h1:=congrArg List.length hps;rw [length_map]at h1;have h2:=qnf (r.body.take k);rw [length_take]at h2;omega
   cases hkind:(L.kind==1) with
   |false=>
    have hps2:=hps.trans (qwc hL hkind).symm;clear hps hL hcl hts htr kw;refine hd5 ?_ hK hO hT hps2 hbx;clear hK hO hT hps2 hbx;intro XhK XhO XhT Xhps2 Xhbx;go_wp2_with fail;go_roundw
    case rel=>exact⟨k+1,ps,by omega,by go_num,XhK.o,Xhps2.o,XhT.o,XhO.o⟩
    case measure=>simp [intOf];omega
   |true=>
    have hps2:(ps++ [(L.atom,sa)]).map (·.1)=qca (r.body.take (k+1)):=by rw [map_append,hps,qur hL hkind];rfl
    obtain⟨asa,csa,rfl,hsl,hsc,hse⟩:=id htr;obtain⟨v',W2,hr2,ho2,hk2,g2,cap2,hv2,hg2,hl2⟩:=qc4 q4f 99 hO (qd4 (L.atom,.slice asa L.atom.args.length csa)) rfl (by simp [qd4,Value.oneCell']) (by omega) (by omega);subst hv2;have kW:=hK.trans (hk2.mono fun b _ h=>qh6 hO h);have ho3:W2.ownsRow (N+1) 24 2 (.slice (some ⟨g2,0,none⟩) (ps.length+1) cap2) (ps++ [(L.atom,Value.slice asa L.atom.args.length csa)]).length ((ps++ [(L.atom,Value.slice asa L.atom.args.length csa)]).flatMap qd4):=by
     simpa using ho2
    have hkn:Keep (fun b=>b<n) wr W2:=hk2.mono fun b _ h=>qh6 hO (by have:=XhN.o;omega);have hT2: ∀p,p∈ps++ [(L.atom,Value.slice asa L.atom.args.length csa)]->qaj n W2 p.2 p.1.args:=fun p hp=>by
     rcases mem_append.1 hp with h |h
     ·exact qas (hT p h) hkn
     ·cases mem_singleton.1 h;exact qas htr hkn
    simp only [qd4]at hr2;clear hps hL hcl hts htr kw hse hT ho2 hk2 hg2 hl2 hkn;refine hd8 ?_ hK hO hT2 hps2 hbx hr2 kW ho3;clear hK hO hT2 hps2 hbx hr2 kW ho3;intro XhK XhO XhT2 Xhps2 Xhbx Xhr2 XkW Xho3;go_wp2_with (at_builtin;refine qcq rfl _ _ _ rfl rfl rfl Xhr2.o ?_);go_roundw
    case rel=>exact⟨k+1,_,by omega,by go_num,XkW.o,Xhps2.o,XhT2.o,Xho3.o⟩
    case measure=>simp [intOf];omega
  ·obtain rfl:k=r.body.length:=by omega
   rw [take_length]at hps;have hE:Keep (fun b=>b<N) w wr:=(Xk0.o.mono fun _ _ _=>trivial).trans (hK.mono fun b _ h=>by omega);clear hlt;refine hd6 ?_ hK hO hT hps hE hbx;clear hK hO hT hps hE hbx;intro XhK XhO XhT Xhps XhE Xhbx;go_wp2_with fail;go_ret;exact⟨_,ps,rfl,XhN.o▸XhE.o,Xhps.o,XhT.o,XhO.o.mono (by have:=XhN.o;omega)⟩
def qhl (ats:List qed):List ByteArray:=ats.flatMap fun a=>qba a.args
theorem q6c (body:List LitD):(qhl (qca body)).length<=(body.flatMap LitD.uses).length:=by
 induction body with
 |nil=>simp [qhl,qca]
 |cons L ls ih=>
  unfold qhl qca at ih⊢;rw [flatMap_cons,length_append];by_cases h:(L.kind==1)=true
  ·rw [filter_cons_of_pos (by simpa using h),map_cons,flatMap_cons,length_append];have hk:L.kind=1:=by simpa using h
   have:(qba L.atom.args).length=L.uses.length:=by unfold qba LitD.uses LitD.terms;rw [if_pos (.inl hk)]
   omega
  ·rw [filter_cons_of_neg (by simpa using h)];omega
theorem q1v (r:RuleD):(qhl (qca r.body)).length<=r.stands.length:=by
 have h1:=q6c r.body;have h2:r.names.length=r.stands.length:=by unfold RuleD.names;rw [length_map]
 rw [qlg,length_append]at h2;omega
theorem q7e (body:List LitD):qw body (qag body)=qhl (qca body):=by
 have hb:body=(List.range body.length).map (fun i=>body.getD i default):=by
  refine ext_getElem? fun i=>?_;rw [getElem?_map];by_cases h:i<body.length
  ·rw [getElem?_range h,getElem?_eq_getElem h];simp [getD_eq_getElem?_getD,getElem?_eq_getElem h]
  ·rw [getElem?_eq_none (by omega),getElem?_eq_none (by simp;omega)];rfl
 have h2:qhl (qca body)=(qag body).flatMap fun i=>qba (body.getD i default).atom.args:=by
  unfold qhl qca
  conv=>lhs;rw [hb]
  rw [filter_map,map_map,flatMap_map]
  rfl
 rw [h2];unfold qw;have: ∀(l:List Nat),(∀i,i∈l->qbm body i=1)->(l.flatMap fun i=>if (body.getD i default).kind=3∨(body.getD i default).kind=2 then [] else qba (body.getD i default).atom.args)=l.flatMap fun i=>qba (body.getD i default).atom.args:=by
  intro l
  induction l with
  |nil=>intro _;rfl
  |cons i l ih=>
   intro h;have hi:=h i (mem_cons_self ..);unfold qbm at hi;rw [flatMap_cons,flatMap_cons,ih fun j hj=>h j (mem_cons_of_mem _ hj),if_neg (by omega)]
 exact this _ fun i hi=>(qc8 hi).2
theorem qus {many:Nat}{xs:List ByteArray}{j:Nat}(h:j<xs.length)(n:Nat):qfo many (xs.drop j) n=if 20000<n*many then true else qfo many (xs.drop (j+1)) (n*many):=by
 rw [drop_eq_getElem_cons h];rfl
def qep (ats:List qed)(i:Nat):List ByteArray:=qhl (ats.take i)
theorem qmd {ats:List qed}{i:Nat}{a:qed}(h:ats[i]?=some a):qep ats (i+1)=qep ats i++qba a.args:=by
 unfold qep qhl;rw [take_add_one,h,flatMap_append];simp
theorem q1w {ts:List TermD}{k:Nat}{t:TermD}(h:ts[k]?=some t)(hv:t.var=true):qba (ts.take (k+1))=qba (ts.take k)++ [t.text]:=by
 unfold qba;rw [take_add_one,h,filter_append,map_append];simp [hv]
theorem q4g {ts:List TermD}{k:Nat}{t:TermD}(h:ts[k]?=some t)(hv:t.var=false):qba (ts.take (k+1))=qba (ts.take k):=by
 unfold qba;rw [take_add_one,h,filter_append,map_append];simp [hv]
theorem qut (ats:List qed)(i:Nat):(qep ats i).length<=(qhl ats).length:=by
 unfold qep qhl
 conv=>rhs;rw [←take_append_drop i ats,flatMap_append,length_append]
 omega
theorem qq3 (ts:List TermD)(k:Nat):(qba (ts.take k)).length<=(qba ts).length:=by
 unfold qba;rw [length_map,length_map];exact((take_sublist _ _).filter _).length_le
abbrev q6d (n:Nat)(w:World)(v:Value)(ps:List (qed×Value)):Prop:=SliceIn n w 2 (fun w b o p=>CellsE w b o (qd4 p)) v ps
theorem q1x {w:World}{base:Nat}{e:TypeId}{v:Value}{n:Nat}{ps:List (qed×Value)}(h:w.ownsRow base e 2 v n (ps.flatMap qd4))(hn:n=ps.length)(hb:ps.length<=1073741824):q6d w.heap.size w v ps:=
 qdx h ps hn hb _ fun b k p hp hc=>fun j u hj=>by
  have hj2:j<2:=by
   have:=(List.getElem?_eq_some_iff.1 hj).1
   simpa [qd4]using this
  have hk:=qbc qd4 2 (fun _=>rfl) _ k j p hp hj2;have:=hc j hj2;rw [hk,hj]at this;exact this
set_option maxRecDepth 100000 in
set_option maxHeartbeats 2000000 in
theorem qwd {n:Nat}{r:RuleD}{sh sb:Value}{w:World}(hr:RuleIn n w sh sb r)(hn:n<=w.heap.size)(hN1:r.stands.length<=1073741824){many:Nat}(hm:many<=1000000):
  Calls prog 37 #[qbf r sh sb,.int .i64 (many:Int)] w fun e w'=>e=.returned (.bool (qel r many))/\Keep (fun b=>b<w.heap.size) w w':=by
 have hdef:qel r many=qfo many ((qhl (qca r.body)).foldl qq []) 1:=by unfold qel qe8;rw [q7e]
 have hpn:=q1v r;unfold qbf;obtain⟨N,hN⟩:=ex (w.heap.size);obtain⟨W0,hW0⟩:=ex (w.alloc (.cells #[.string r.head.pred,sh,sb] 27));have k0:Keep (fun _=>True) w W0:=by rw [←hW0];exact kAl
 have p0:W0.heap[N]?=some (.cells #[.string r.head.pred,sh,sb] 27 (0,0)):=by rw [←hW0,←hN];exact qh _ _
 have z0:W0.heap.size=N+1:=by rw [←hW0,←hN];simp
 have hpos:=qsm (w:=W0) (hr.keep (k0.mono fun _ _ _=>trivial)) (by omega);have d0:=qb p0 0 _ rfl;have d1:=qb p0 1 _ rfl;have d2:=qb p0 2 _ rfl;have hbl:=qe p0;simp only [Nat.zero_add]at d0 d1 d2;unfold qbf at hpos;obtain⟨⟨ah,capH,rfl,hlenh,hcaph,helh⟩,⟨ab,capB,rfl,hlenb,hcapb,helb⟩⟩:=id hr;refine hd9 ?_ hr hN hW0 k0 p0 hpos hdef helh helb;clear hr hN hW0 k0 p0 hpos hdef helh helb;intro Xhr XhN XhW0 Xk0 Xp0 Xhpos Xhdef Xhelh Xhelb
 go_enter Tryz.func37,Tryz.ntmps37
 go_wp2_with fail;rw [XhW0.o,XhN.o];refine Xhpos.o.mono ?_;rintro e W1 ⟨v,ps,rfl,k1,hps,hT,hO⟩;have z1:=k1.size;have hplen:ps.length<=1073741824:=by
  have h1:=congrArg List.length hps;rw [length_map]at h1;have h2:=qnf r.body;omega
 have hA:=q1x hO rfl hplen;obtain⟨av,cv,rfl,-,hcv,hel⟩:=id hA;obtain⟨M,hM⟩:=ex (W1.heap.size);have hdef2:=Xhdef.o;rw [←hps]at hdef2 hpn;obtain⟨A,hAe⟩:=ex (ps.map (·.1));rw [hAe]at hdef2 hpn;have hatA: ∀(k:Nat) (p:qed×Value),ps[k]?=some p->A[k]?=some p.1:=fun k p h=>by rw [←hAe,getElem?_map,h];rfl
 have hAl:A.length=ps.length:=by rw [←hAe,length_map]
 have hnM:n<=M:=by have:=XhN.o;omega
 have hNM:N+1<=M:=by have:=XhN.o;omega
 clear hO hA hps hAe;rw [hM]at hel;refine hd7 ?_ k1 hT hel hM hdef2 hatA hAl;clear k1 hT hel hM hdef2 hatA hAl;intro Xk1 XhT Xhel XhM Xhdef2 XhatA XhAl;go_wp2_with fail
 go_loopw [5,7] (fun v5 ix wr=> ∃(k:Nat),k<=ps.length/\ix=.int .i64 (k:Int)/\Keep (fun b=>b<M) W1 wr/\wr.ownsRow M 9 1 v5 ((qep A k).foldl qq []).length (((qep A k).foldl qq []).map .string)) (fun _ i _=>ps.length-(intOf i).toNat)
 case atStart=>exact⟨0,by omega,rfl,Keep.refl _ _,World.ownsRow_nil _ _ _ _⟩
 case round=>
  obtain⟨k,hk,rfl,hK,hO⟩:=hrel;have hszk:=hK.size;have hk0:(0:Int)<=k:=by omega
  by_cases hlt:k<ps.length
  ·have hlt1:(k:Int)<ps.length:=by omega
   obtain⟨p,hp⟩: ∃p,ps[k]?=some p:=⟨_,getElem?_eq_getElem hlt⟩;obtain⟨b,off,rfl,hb,hcl⟩:=Xhel.o k p hp;have hAk:=XhatA.o k p hp;obtain⟨ap,cp,hp2,hlp,hcp,hep⟩:=id (XhT.o p (mem_of_getElem? hp));have hc1:=hcl 1 _ (show(qd4 p)[1]?=some p.2 from rfl);rw [hp2]at hc1;have htot:(qep A k).length+(qba p.1.args).length<=1073741824:=by
    have h1:=qut A (k+1);rw [qmd hAk,length_append]at h1;omega
   have hsn:=qmd hAk;obtain⟨vk,hvk⟩:=ex (qep A k);rw [hvk]at hO htot hsn;obtain⟨W2,hW2⟩: ∃W2,W2=wr:=⟨_,rfl⟩;rw [←hW2]at hK hO hszk⊢;have g1:=hK.cell hc1 hb;have hbw:b<W2.heap.size:=by have:=XhM.o;omega
   clear hcl hvk hW2 hp hp2;refine hd6 ?_ hK hO hep hsn hAk hc1;clear hK hO hep hsn hAk hc1;intro XhK XhO Xhep Xhsn XhAk Xhc1;go_wp2_with fail
   go_loopw [5,8] (fun v5 ix wr=> ∃(j:Nat),j<=p.1.args.length/\ix=.int .i64 (j:Int)/\Keep (fun b=>b<M) W1 wr/\wr.ownsRow M 9 1 v5 ((vk++qba (p.1.args.take j)).foldl qq []).length (((vk++qba (p.1.args.take j)).foldl qq []).map .string)) (fun _ i _=>p.1.args.length-(intOf i).toNat)
   case atStart=>exact⟨0,by omega,rfl,XhK.o,by rw [show vk++qba (p.1.args.take 0)=vk from by simp [qba]];exact XhO.o⟩
   case round=>
    obtain⟨j,hj,rfl,hJ,hO2⟩:=hrel;have hszj:=hJ.size;have hj0:(0:Int)<=j:=by omega
    clear g1;have g1:=hJ.cell Xhc1.o hb;have hbw2:b<wr.heap.size:=by have:=XhM.o;omega
    by_cases hjt:j<p.1.args.length
    ·have hjt1:(j:Int)<p.1.args.length:=by omega
     obtain⟨u,hu⟩: ∃u,p.1.args[j]?=some u:=⟨_,getElem?_eq_getElem hjt⟩;obtain⟨bt,ot,rfl,hbt,ht0,ht1⟩:=Xhep.o j u hu;have q0:=hJ.cell ht0 (show bt<M by omega);have q1:=hJ.cell ht1 (show bt<M by omega);have hbtw:bt<wr.heap.size:=by have:=XhM.o;omega
     have hll:=qe9 (vk++qba (p.1.args.take j)) [];rw [length_append]at hll;have hvl:=qq3 p.1.args j;have hl0:([]:List ByteArray).length=0:=rfl;cases huv:u.var with
     |false=>
      rw [huv]at q0;have hno:=q4g hu huv;clear ht0 ht1 hu huv;refine hd3 ?_ hJ hO2 hno;clear hJ hO2 hno;intro XhJ XhO2 Xhno;go_wp2_with fail;go_roundw
      case rel=>exact⟨j+1,by omega,by go_num,XhJ.o,by rw [Xhno.o];exact XhO2.o⟩
      case measure=>simp [intOf];omega
     |true=>
      rw [huv]at q0;have hyes:(vk++qba (p.1.args.take (j+1))).foldl qq []=qq ((vk++qba (p.1.args.take j)).foldl qq []) u.text:=by rw [q1w hu huv,←append_assoc,foldl_append];rfl
      have hS:=qcn hO2 (by omega);obtain⟨ss,hss⟩:=ex ((vk++qba (p.1.args.take j)).foldl qq []);rw [hss]at hO2 hyes hS hll;clear ht0 ht1 hu huv hss;refine hd4 ?_ hJ hO2 hyes hS;clear hJ hO2 hyes hS;intro XhJ XhO2 Xhyes XhS;go_wp2_with fail;refine(qrm wr.heap.size _ ss u.text _ XhS.o (Nat.le_refl _)).mono ?_;rintro e W3 ⟨i,rfl,hw3,hi1,hi2,hin⟩;subst hw3;by_cases hneg:i<0
      ·have hout:=hin.1 hneg;have htk2:(vk++qba (p.1.args.take (j+1))).foldl qq []=ss++ [u.text]:=Xhyes.o.trans (if_neg hout);obtain⟨v',W4,hr2,ho2,hk2,g2,cap2,hv2,hg2,hl2⟩:=qc4 qga 46 XhO2.o [.string u.text] rfl (by simp [Value.oneCell']) (by omega) (by have:=XhM.o;omega);subst hv2;have kW:=XhJ.o.trans (hk2.mono fun b _ (h:b<M)=>qh6 XhO2.o h);have ho3:W4.ownsRow M 9 1 (.slice (some ⟨g2,0,none⟩) (ss.length+1) cap2) ((vk++qba (p.1.args.take (j+1))).foldl qq []).length (((vk++qba (p.1.args.take (j+1))).foldl qq []).map .string):=by
        rw [htk2]
        simpa using ho2
       clear hin hout htk2 ho2 hk2 hg2 hl2;refine hd3 ?_ hr2 kW ho3;clear hr2 kW ho3;intro Xhr2 XkW Xho3;go_wp2_with (at_builtin;refine qcq rfl _ _ _ rfl rfl rfl Xhr2.o ?_);go_roundw
       case rel=>exact⟨j+1,by omega,by go_num,XkW.o,Xho3.o⟩
       case measure=>simp [intOf];omega
      ·have hout:u.text∈ss:=by
        by_cases h:u.text∈ss
        ·exact h
        ·exact absurd (hin.2 h) hneg
       have htk2:(vk++qba (p.1.args.take (j+1))).foldl qq []=ss:=Xhyes.o.trans (if_pos hout);clear hin hout;refine hd1 ?_ htk2;clear htk2;intro Xhtk2;go_wp2_with fail;go_roundw
       case rel=>exact⟨j+1,by omega,by go_num,XhJ.o,by rw [Xhtk2.o];exact XhO2.o⟩
       case measure=>simp [intOf];omega
    ·obtain rfl:j=p.1.args.length:=by omega
     rw [take_length,←Xhsn.o]at hO2;clear hjt;refine hd2 ?_ hJ hO2;clear hJ hO2;intro XhJ XhO2;go_wp2_with fail;go_roundw
     case rel=>exact⟨k+1,by omega,by go_num,XhJ.o,XhO2.o⟩
     case measure=>simp [intOf];omega
  ·obtain rfl:k=ps.length:=by omega
   have hall:qep A ps.length=qhl A:=by unfold qep;rw [←XhAl.o,take_length]
   rw [hall]at hO;have hll:=qe9 (qhl A) [];obtain⟨l,hl⟩:=ex ((qhl A).foldl qq []);have hdef3:=Xhdef2.o;rw [hl]at hO hll hdef3;obtain⟨al,cl,rfl⟩:=qi hO;have hl0:([]:List ByteArray).length=0:=rfl;have hE:Keep (fun b=>b<w.heap.size) w wr:=(Xk0.o.mono fun _ _ _=>trivial).trans ((Xk1.o.trans (hK.mono fun b _ h=>by omega)).mono fun b _ h=>by have:=XhN.o;omega);obtain⟨W5,hW5⟩: ∃W5,W5=wr:=⟨_,rfl⟩;rw [←hW5]at hE⊢;clear hlt hall hl hK hO hW5;refine hd2 ?_ hdef3 hE;clear hdef3 hE;intro Xhdef3 XhE;go_wp2_with fail
   go_loopw [9,10] (fun v9 ix wr=> ∃(j n:Nat),j<=l.length/\ix=.int .i64 (j:Int)/\v9=.int .i64 (n:Int)/\n<=20000/\wr=W5/\qel r many=qfo many (l.drop j) n) (fun _ i _=>l.length-(intOf i).toNat)
   case atStart=>exact⟨0,1,by omega,rfl,rfl,by omega,rfl,Xhdef3.o⟩
   case round=>
    obtain⟨j,m,hj,rfl,rfl,hm2,rfl,hg⟩:=hrel;have hj0:(0:Int)<=j:=by omega
    by_cases hjt:j<l.length
    ·have hjt1:(j:Int)<l.length:=by omega
     rw [qus hjt]at hg;have hb1:m*many<=20000*1000000:=Nat.mul_le_mul hm2 hm;obtain⟨c,hc⟩:=ex (m*many);have hmul:(m:Int)*(many:Int)=(c:Int):=by rw [←hc];simp
     rw [hc]at hg hb1;by_cases hbig:20000<c
     ·rw [if_pos hbig]at hg;have hbig1:(20000:Int)<c:=by omega
      clear hc;refine hd1 ?_ hg;clear hg;intro Xhg;go_wp2_with fail;go_ret;exact⟨by rw [Xhg.o];try rfl,XhE.o⟩
     ·rw [if_neg hbig]at hg;have hbig1:(c:Int)<=20000:=by omega
      clear hc;refine hd1 ?_ hg;clear hg;intro Xhg;go_wp2_with fail;go_roundw
      case rel=>exact⟨j+1,c,by omega,by go_num,by go_num,by omega,trivial,Xhg.o⟩
      case measure=>simp [intOf];omega
    ·obtain rfl:j=l.length:=by omega
     rw [drop_length]at hg;have hg2:qel r many=false:=hg;clear hjt hg;refine hd1 ?_ hg2;clear hg2;intro Xhg2;go_wp2_with fail;go_ret;exact⟨by rw [Xhg2.o];try rfl,XhE.o⟩
theorem qsn (a b:List TermD):qac (a++b)=qac a++qac b:=by unfold qac;rw [flatMap_append]
theorem q4h {α:Type}{f:α->List Value}{sz:Nat}(hf: ∀x,(f x).length=sz): ∀{xs:List α} {j:Nat} {u:Value},(xs.flatMap f)[j]?=some u-> ∃k i x,j=k*sz+i/\xs[k]?=some x/\(f x)[i]?=some u:=by
 intro xs
 induction xs with
 |nil=>intro j u h;simp at h
 |cons x xs ih=>
  intro j u h;rw [flatMap_cons]at h;by_cases hj:j<sz
  ·rw [getElem?_append_left (by rw [hf];exact hj)]at h;exact⟨0,j,x,by omega,rfl,h⟩
  ·rw [getElem?_append_right (by rw [hf];omega),hf]at h;obtain⟨k,i,y,h1,h2,h3⟩:=ih h;exact⟨k+1,i,y,by rw [Nat.succ_mul];omega,h2,h3⟩
theorem q1y {α:Type}{n sz:Nat}{w:World}{E:World->Nat->Nat->α->Prop}{f:α->List Value}(hf: ∀x,(f x).length=sz){a:Option Addr}{c:Nat}{xs:List α}(h:SliceIn n w sz E (.slice a xs.length c) xs)
  (hE: ∀b o x,E w b o x-> ∀j u,(f x)[j]?=some u->w.cell? ⟨b,o+j,none⟩=some u):
  (∀b,a=some b-> ∀j u,(xs.flatMap f)[j]?=some u->w.cell? (b.add j)=some u)/\(a=none->xs.length=0):=by
 obtain⟨a',c',hv,hl,hc,he⟩:=h;injection hv with h1 h2 h3
 subst h1;refine⟨fun b hb j u hj=>?_,fun h=>?_⟩
 ·obtain⟨k,i,x,rfl,h2,h3⟩:=q4h hf hj;obtain⟨b',o,e,hb',hs⟩:=he k x h2;rw [hb]at e;cases e;rw [show((⟨b',o,none⟩:Addr).add (k*sz+i))=⟨b',o+k*sz+i,none⟩ from by unfold Addr.add;split<;>simp_all [Nat.add_assoc]];exact hE _ _ _ hs _ _ h3
 ·cases hts:xs with
  |nil=>rfl
  |cons x xs=>
   obtain⟨b,o,e,-⟩:=he 0 x (by rw [hts];rfl);rw [h]at e;cases e
theorem qgr {m:Nat}{w:World}{a:Option Addr}{c:Nat}{ts:List TermD}(h:qaj m w (.slice a ts.length c) ts):(∀b,a=some b-> ∀j u,(qac ts)[j]?=some u->w.cell? (b.add j)=some u)/\(a=none->ts.length=0):=
 q1y (f:=fun(t:TermD)=> [.bool t.var,.string t.text]) (fun _=>rfl) h fun b o x hx j u hj=>by
  match j,hj with
  |0,hj=>cases hj;exact hx.1
  |1,hj=>cases hj;exact hx.2
theorem q1z (ts:List TermD): ∀u∈qac ts,u.oneCell'=true:=fun u hu=>by
 unfold qac at hu;obtain⟨t,-,ht⟩:=mem_flatMap.1 hu;simp at ht;rcases ht with rfl |rfl<;>simp [Value.oneCell']
theorem qhr {w:World}{base:Nat}{e:TypeId}{v:Value}{n:Nat}{ts:List TermD}(h:w.ownsRow base e 2 v n (qac ts))(hn:n=ts.length)(hb:ts.length<=1073741824):qaj w.heap.size w v ts:=
 qdx h ts hn hb TermE fun b k t ht hc=>by
  have hk: ∀j,j<2->(qac ts)[k*2+j]?=([Value.bool t.var,.string t.text]:List Value)[j]?:=fun j hj=>qbc (fun(t:TermD)=> [Value.bool t.var,.string t.text]) 2 (fun _=>rfl) _ k j t ht hj;exact⟨by have:=hc 0 (by omega);rw [hk 0 (by omega)] at this;exact this,by have:=hc 1 (by omega);rw [hk 1 (by omega)] at this;exact this⟩
end Go.Proofs
