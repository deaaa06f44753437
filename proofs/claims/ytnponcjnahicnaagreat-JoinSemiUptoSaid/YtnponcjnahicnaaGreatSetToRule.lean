/- Parts of the proof. -/
import Derived.Test.YtnponcjnahicnaaGreatProg
import Derived.Test.YtnponcjnahicnaaGreatTermsToVars
import Derived.Deep.Onto
import Derived.Test.YtnponcjnahicnaaGreatHdToKp
set_option linter.unusedSimpArgs false
set_option linter.unusedVariables false
open Go.Proofs.Tryz(prog)
open List(append_nil filter_cons find?_eq_none flatMap_cons getElem?_eq_getElem length_append length_map mem_append mem_singleton take_add_one take_length take_of_length_le)
namespace Go.Proofs.S12
open Go.RowKit Go.Ink
attribute [local go_sem] Oper.semAt_some
theorem qo1 (n:Int)(w:World):(Instr.makeMap 144 (some (.int .i64 n))).run prog w=.ok (.map (some w.heap.size)) (w.alloc (.map #[] 0)):=by
 simp [Instr.makeMap,Sem.run_bind,run_underlying Tryz.underlying144,Result.andThen,asInt,asIntOf,run_newObj_alloc]
set_option maxRecDepth 100000 in
set_option maxHeartbeats 1000000 in
theorem q6h (n0:Nat)(v:Value)(ss:List ByteArray)(w:World)(hs:qae n0 w v ss)(hn:n0<=w.heap.size):
  Calls prog 78 #[v] w fun e w'=>e=.returned (.map (some w.heap.size))/\Keep (fun k=>k<w.heap.size) w w'/\SetIn w' w.heap.size (qa9 ss):=by
 obtain⟨a,cap,rfl,hlen,hcap,hel⟩:=id hs;have hmm:=fun w=>qo1 ss.length w;refine hd2 ?_ hs hel;clear hs hel;intro Xhs Xhel
 go_enter Tryz.func78,Tryz.ntmps78
 go_wp2
 go_loopw [11] (fun i wr=> ∃k:Nat,k<=ss.length/\i=.int .i64 k/\Keep (fun j=>j<w.heap.size) w wr/\SetIn wr w.heap.size (qa9 (ss.take k))) (fun i _=>ss.length-(intOf i).toNat)
 case atStart=>exact⟨0,by omega,rfl,kAl,qmm w⟩
 case round=>
  obtain⟨k,hk,rfl,hK,hS⟩:=hrel;by_cases hlt:k<ss.length
  ·obtain⟨s,hsk⟩: ∃s,ss[k]?=some s:=⟨_,getElem?_eq_getElem hlt⟩;obtain⟨b,off,rfl,hb,he⟩:=Xhel.o k s hsk;have hc:=hK.cell he (show b<w.heap.size by omega);simp only [Nat.mul_one]at hc;obtain⟨W1,hr1,hs1,hk1,hz1⟩:=qia (P:=prog) (T:=144) (K:=9) (E:=4) Tryz.underlying144 Tryz.underlying9 hS s;rw [←qhs,show ss.take k++ [s]=ss.take (k+1) from by rw [take_add_one,hsk];rfl]at hs1;have hK1:Keep (fun j=>j<w.heap.size) w W1:=hK.trans (hk1.mono fun b _ h=>by omega);clear he hmm hk1 hz1;refine hd5 ?_ hK hS hs1 hK1 hsk;clear hK hS hs1 hK1 hsk;intro XhK XhS Xhs1 XhK1 Xhsk;go_wp2;go_roundw
   case rel=>exact⟨k+1,by omega,by go_num,XhK1.o,Xhs1.o⟩
   case measure=>simp [intOf];omega
  ·obtain rfl:k=ss.length:=by omega
   rw [take_length]at hS;clear hmm;refine hd2 ?_ hK hS;clear hK hS;intro XhK XhS;go_wp2;go_ret;exact⟨rfl,XhK.o,XhS.o⟩
theorem qk5:qce prog 25 64 7 96:=qcx (z:=.agg #[.int .i64 0,.string ⟨#[]⟩,.slice none 0 0,.bool false,.string ⟨#[]⟩,.bool false,.string ⟨#[]⟩]) (by kernel_rfl) (by kernel_rfl) rfl (by decide) (by decide)
theorem qwg (l:List LitD)(k:Nat)(L:LitD)(h:l[k]?=some L):(l.take (k+1)).filter (fun L=>L.kind==1)=(l.take k).filter (fun L=>L.kind==1)++if L.kind==1 then [L] else []:=by
 rw [take_add_one,h];simp [filter_cons]
set_option maxRecDepth 100000 in
set_option maxHeartbeats 1000000 in
theorem q2a (n0:Nat)(v:Value)(body:List LitD)(w:World)(hs:qf3 n0 w v body)(hn:n0<=w.heap.size)(hN:(body.flatMap LitD.uses).length<=1073741824):
  Calls prog 79 #[v] w fun e w'=> ∃v',e=.returned v'/\Keep (fun k=>k<w.heap.size) w w'/\w'.ownsRow w.heap.size 9 1 v' (qcp body).length ((qcp body).map .string):=by
 obtain⟨a,cap,rfl,hlen,hcap,hel⟩:=id hs;refine hd2 ?_ hs hel;clear hs hel;intro Xhs Xhel;refine qbp Tryz.func79 rfl ?_;simp only [Tryz.ntmps79,qdz,Nat.reduceAdd,Nat.reduceSub];gi_wp2;gi_loopw [3,8] (fun v3 i wr=> ∃(k:Nat) (ps:List (LitD×Value)),k<=body.length/\i=.int .i64 k/\Keep (fun j=>j<w.heap.size) w wr/\wr.ownsRow w.heap.size 64 7 v3 ps.length (ps.flatMap fun p=>qaf p.1 p.2)/\
   ps.map (·.1)=(body.take k).filter (fun L=>L.kind==1)/\ps.length<=k/\ ∀p,p∈ps->qaj n0 w p.2 p.1.atom.args) (fun _ i _=>body.length-(intOf i).toNat)
 case atStart=>exact⟨0,[],by omega,rfl,Keep.refl _ _,World.ownsRow_nil _ _ _ _,rfl,by simp,by simp⟩
 case round=>
  obtain⟨k,ps,hk,rfl,hK,hO,hps,hpl,hpt⟩:=hrel;have hws:=hK.size;by_cases hlt:k<body.length
  ·obtain⟨L,hL⟩: ∃L,body[k]?=some L:=⟨_,getElem?_eq_getElem hlt⟩;obtain⟨b,off,rfl,hb,sa,hcl,hts⟩:=Xhel.o k L hL;have g: ∀j v,(qaf L sa)[j]?=some v->wr.cell? ⟨b,off+k*7+j,none⟩=some v:=fun j v h=>hK.cell (hcl j v h) (show b<w.heap.size by omega);have hfs:=qwg body k L hL;obtain⟨aa,caps,rfl,hlens,hcaps,hels⟩:=id hts;have d0:=g 0 _ rfl;have d1:=g 1 _ rfl;have d2:=g 2 _ rfl;have d3:=g 3 _ rfl;have d4:=g 4 _ rfl;have d5:=g 5 _ rfl;have d6:=g 6 _ rfl;simp only [Nat.add_zero]at d0;by_cases hk1:L.kind=1
   ·have hkb:(L.kind==1)=true:=by simp [hk1]
    rw [hkb,if_pos rfl,←hps]at hfs;have hO1:=qg hO (Keep.alloc (fun _=>True) wr (.cells (qaf L (.slice aa L.atom.args.length caps)).toArray 64)) (fun _ _=>trivial);obtain⟨v2,W2,hr2,ho2,hk2,g2,cap2,hv2,hg2,hl2⟩:=qc4 qk5 25 hO1 (qaf L (.slice aa L.atom.args.length caps)) rfl (by simp [qaf,Value.oneCell']) (by omega) (by simp;omega);subst hv2;have hK2:Keep (fun j=>j<w.heap.size) w W2:=(hK.trans kAl).trans (hk2.mono fun b hb h e=>by have:=(World.ownsRow.lt hO1 b e.symm).1;omega);have hpt2: ∀p,p∈ps++ [(L,.slice aa L.atom.args.length caps)]->qaj n0 w p.2 p.1.atom.args:=fun p hp=>by
     rcases mem_append.1 hp with h |h
     ·exact hpt p h
     ·simp only [mem_singleton]at h;subst h;exact hts
    have ho3:W2.ownsRow w.heap.size 64 7 (.slice (some ⟨g2,0,none⟩) (ps.length+1) cap2) (ps++ [(L,Value.slice aa L.atom.args.length caps)]).length ((ps++ [(L,Value.slice aa L.atom.args.length caps)]).flatMap fun p=>qaf p.1 p.2):=by
     simpa using ho2
    have hps2:(ps++ [(L,Value.slice aa L.atom.args.length caps)]).map (·.1)=(body.take (k+1)).filter (fun L=>L.kind==1):=by rw [hfs];simp
    simp only [World.size_alloc,qaf]at hr2;clear g hcl hels hO hO1 ho2 hk2 hpt hps hL hfs hg2 hk1 hts;refine hd6 ?_ hK hr2 hK2 hpt2 ho3 hps2;clear hK hr2 hK2 hpt2 ho3 hps2;intro XhK Xhr2 XhK2 Xhpt2 Xho3 Xhps2
    gi_wp2_with (gi_at_builtin;refine qch rfl _ _ _ rfl rfl rfl Xhr2.o ?_)
    go_roundw
    case rel=>exact⟨k+1,ps++ [(L,.slice aa L.atom.args.length caps)],by omega,by go_num,XhK2.o,Xho3.o,Xhps2.o,by simp;omega,Xhpt2.o⟩
    case measure=>simp [intOf];omega
   ·have hkb:(L.kind==1)=false:=by simp [hk1]
    rw [hkb,if_neg (by simp),←hps,append_nil]at hfs;have hK2:Keep (fun j=>j<w.heap.size) w (wr.alloc (.cells (qaf L (.slice aa L.atom.args.length caps)).toArray 64)):=hK.trans kAl;have hO1:=qg hO (Keep.alloc (fun _=>True) wr (.cells (qaf L (.slice aa L.atom.args.length caps)).toArray 64)) (fun _ _=>trivial);clear g hcl hels hO hps hL hk1 hts;refine hd5 ?_ hK hK2 hpt hO1 hfs;clear hK hK2 hpt hO1 hfs;intro XhK XhK2 Xhpt XhO1 Xhfs;gi_wp2;go_roundw
    case rel=>exact⟨k+1,ps,by omega,by go_num,XhK2.o,XhO1.o,Xhfs.o.symm,by omega,Xhpt.o⟩
    case measure=>simp [intOf];omega
  ·obtain rfl:k=body.length:=by omega
   rw [take_length]at hps;have hLs:=qs2 (n0:=n0) hO (by omega) (by omega) (fun p hp=>qas (hpt p hp) (hK.mono fun b _ h=>by omega));rw [hps]at hLs;obtain⟨a3,cap3,rfl,hl3,hc3,he3⟩:=id hLs;have hrule:RuleIn wr.heap.size wr (.slice none 0 0) (.slice a3 (body.filter fun L=>L.kind==1).length cap3) ⟨⟨⟨#[]⟩,[]⟩,body.filter fun L=>L.kind==1⟩:=⟨⟨none,0,rfl,by simp,by simp [maxLen],by simp⟩,hLs⟩;have hnm:RuleD.names ⟨⟨⟨#[]⟩,[]⟩,body.filter fun L=>L.kind==1⟩=(body.filter fun L=>L.kind==1).flatMap LitD.uses:=by rw [qlg];simp [RuleD.headLit,LitD.uses,LitD.terms]
   have hsub: ∀l:List LitD,((l.filter fun L=>L.kind==1).flatMap LitD.uses).length<=(l.flatMap LitD.uses).length:=by
    intro l
    induction l with
    |nil=>simp
    |cons L l ih=>
     by_cases h:(L.kind==1)=true
     ·simp only [filter_cons,h,if_true,flatMap_cons,length_append];omega
     ·simp only [filter_cons,h,if_false,flatMap_cons,length_append,Bool.false_eq_true];omega
   have hst:(RuleD.stands ⟨⟨⟨#[]⟩,[]⟩,body.filter fun L=>L.kind==1⟩).length<=1073741824:=by
    have:=congrArg List.length hnm;simp only [RuleD.names,length_map]at this;have:=hsub body;omega
   clear hpt hps hLs hsub he3;refine hd5 ?_ hK hO hrule hnm hst;clear hK hO hrule hnm hst;intro XhK XhO Xhrule Xhnm Xhst;gi_wp2;refine⟨trivial,rfl,(callsIn_wide.2 (q4w _ _ _ _ Xhrule.o Xhst.o)).mono ?_⟩;rintro e w' ⟨v',rfl,hk',ho'⟩;rw [Xhnm.o]at ho';refine hd2 ?_ hk' ho';clear hk' ho';intro Xhk' Xho';gi_wp2;go_ret;exact⟨_,rfl,XhK.o.trans (Xhk'.o.mono fun b _ h=>by omega),Xho'.o.mono hws⟩
def looseOf (r:RuleD):Option ByteArray:=r.names.find? fun x=>decide (x∉qcp r.body)
def ruleAns:Option ByteArray->Value
 |none=>.tuple #[.string ⟨#[]⟩,.bool true]
 |some x=>.tuple #[.string x,.bool false]
structure RuleSt (n1 Bs Bb Bm M:Nat)(w:World)(s:List ByteArray)(W:World):Prop where
 sbox: ∃u,W.heap[Bs]?=some (.cells #[.string u] 9 (0,0))
 bbox: ∃u,W.heap[Bb]?=some (.cells #[.bool u] 4 (0,0))
 mbox:W.heap[Bm]?=some (.cells #[.map (some M)] 144 (0,0))
 set:SetIn W M s
 old:Keep (fun k=>k<n1) w W
theorem RuleSt.keep {n1 Bs Bb Bm M:Nat}{w:World}{s:List ByteArray}{W W':World}{C:Nat->Prop}(h:RuleSt n1 Bs Bb Bm M w s W)(hK:Keep C W W')
  (h1:C Bs) (h2:C Bb) (h3:C Bm) (h4:C M) (hn: ∀b,b<n1->C b):RuleSt n1 Bs Bb Bm M w s W':=by
 obtain⟨⟨u,a⟩,⟨u',b⟩,c,d,e⟩:=h;exact⟨⟨u,hK.heap a h1⟩,⟨u',hK.heap b h2⟩,hK.heap c h3,d.keep hK h4,e.trans (hK.mono fun b _ hb=>hn b hb)⟩
set_option maxRecDepth 100000 in
set_option maxHeartbeats 2000000 in
theorem rule_any (r:RuleD)(sh sb:Value)(w:World)(hr:RuleIn w.heap.size w sh sb r)(hN:(r.body.flatMap LitD.uses).length<=1073741824):
  Calls prog 41 #[.agg #[.string r.head.pred,sh,sb]] w fun e w'=>e=.returned (ruleAns (looseOf r))/\Keep (fun k=>k<w.heap.size) w w':=by
 refine qfu Tryz.func41 rfl ?_;simp only [Tryz.ntmps41,qdz,Nat.reduceAdd,Nat.reduceSub];obtain⟨⟨ah,capH,rfl,hlenh,hcaph,helh⟩,⟨ab,capB,rfl,hlenb,hcapb,helb⟩⟩:=id hr;have hmm:= @run_makeMap prog;refine hd3 ?_ hr helh helb;clear hr helh helb;intro Xhr Xhelh Xhelb;gi_wp2;refine⟨trivial,rfl,qvp (fun W0=>Keep (fun _=>True) w W0/\W0.heap.size=w.heap.size+1+1+1/\W0.heap[w.heap.size]?=some (.cells (qcj r (.slice ah r.head.args.length capH) (.slice ab r.body.length capB)).toArray 27 (0,0))/\
   W0.heap[w.heap.size+1]?=some (.cells #[.string ⟨#[]⟩] 9 (0,0))/\W0.heap[w.heap.size+1+1]?=some (.cells #[.bool false] 4 (0,0)))
   ⟨(kAl.trans kAl).trans kAl,by simp,by simp only [qah,World.size_alloc,Nat.add_assoc];simp [qcj],by simp only [qah,World.size_alloc,Nat.add_assoc];simp [qcj],by simp only [qah,World.size_alloc,Nat.add_assoc];simp [qcj]⟩ ?_⟩
 rintro W0 ⟨k0,s0,a1,a2,a3⟩;have hr0:=Xhr.o.keep (k0.mono fun _ _ _=>trivial);refine(callsIn_wide.2 (q2a w.heap.size _ _ W0 hr0.2 (by omega) hN)).mono ?_;rintro e W1 ⟨v1,rfl,k1,o1⟩;have hb1:(qcp r.body).length<=1073741824:=by
  refine Nat.le_trans (qml _) (Nat.le_trans ?_ hN);have hsub: ∀l:List LitD,((l.filter fun L=>L.kind==1).flatMap LitD.uses).length<=(l.flatMap LitD.uses).length:=by
   intro l
   induction l with
   |nil=>simp
   |cons L l ih=>
    by_cases h:(L.kind==1)=true
    ·simp only [filter_cons,h,if_true,flatMap_cons,length_append];omega
    ·simp only [filter_cons,h,if_false,flatMap_cons,length_append,Bool.false_eq_true];omega
  exact hsub _
 have st1:=qcn o1 hb1;have z1:=k1.size;clear o1;refine hd8 ?_ hr0 k0 a1 a2 a3 k1 st1 hb1;clear hr0 k0 a1 a2 a3 k1 st1 hb1;intro Xhr0 Xk0 Xa1 Xa2 Xa3 Xk1 Xst1 Xhb1;gi_wp2;refine⟨trivial,rfl,(callsIn_wide.2 (q6h _ _ _ W1 Xst1.o (Nat.le_refl _))).mono ?_⟩;rintro e W2 ⟨rfl,k2,hS⟩;have z2:=k2.size;have b1:=k2.heap (Xk1.o.heap Xa1.o (by omega)) (by omega);have b2:=k2.heap (Xk1.o.heap Xa2.o (by omega)) (by omega);have b3:=k2.heap (Xk1.o.heap Xa3.o (by omega)) (by omega);have c0:=qb b1 0 _ rfl;have c1:=qb b1 1 _ rfl;have c2:=qb b1 2 _ rfl;simp only [Nat.zero_add,Nat.add_zero]at c0 c1 c2;have kk:Keep (fun k=>k<w.heap.size) w W2:=((Xk0.o.mono fun _ _ _=>trivial).trans (Xk1.o.mono fun b _ h=>by omega)).trans (k2.mono fun b _ h=>by omega);refine hd6 ?_ b1 b2 b3 kk k2 hS;clear b1 b2 b3 kk k2 hS;intro Xb1 Xb2 Xb3 Xkk Xk2 XhS;have hlt:w.heap.size<W2.heap.size:=by omega
 gi_wp2;refine⟨trivial,rfl,(callsIn_wide.2 (qqk r _ _ _ _ _ _ _)).mono ?_⟩;rintro e w' ⟨rfl,rfl⟩;gi_wp2;refine qoj (fun Wr=>Keep (fun _=>True) W2 Wr/\Wr.heap.size=W2.heap.size+1+1/\Wr.heap[W2.heap.size]?=some (.cells #[.map (some W1.heap.size)] 144 (0,0))/\
   Wr.heap[W2.heap.size+1]?=some (.cells (qcj r (.slice ah r.head.args.length capH) (.slice ab r.body.length capB)).toArray 27 (0,0)))
  ⟨kAl.trans kAl,by simp,by simp only [qah,World.size_alloc,Nat.add_assoc];simp [qcj],by simp only [qah,World.size_alloc,Nat.add_assoc];simp [qcj]⟩ ?_
 rintro Wr ⟨kW,sW,h1,h2⟩;have hrW:=Xhr.o.keep (w':=Wr) (Xkk.o.trans (kW.mono fun _ _ _=>trivial));have hM:=SetIn.lt XhS.o;have hst0:RuleSt w.heap.size (w.heap.size+1) (w.heap.size+1+1) W2.heap.size W1.heap.size w (qcp r.body) Wr:=by
  refine⟨⟨_,kW.heap Xb2.o trivial⟩,⟨_,kW.heap Xb3.o trivial⟩,h1,?_,Xkk.o.trans (kW.mono fun _ _ _=>trivial)⟩;have:=XhS.o.keep kW trivial
  rwa [qcp,qxp] at this
 refine qkq (gf:=114) (lb:= #[.pointer (some ⟨W2.heap.size+1,0,none⟩)]) rfl (qc6 Tryz.func114 (by kernel_rfl) rfl)
  (qnj w.heap.size (W2.heap.size+1) Wr r _ _ hrW.1 hrW.2 (by omega) (by omega)) (fun _=>rfl) (fun _ h=>h.elim)
  ⟨h2,Keep.refl _ _⟩ (fun X Y hv hK=>qck hv hK (fun k hk=>by omega) (by omega))
  (fun k O X=>RuleSt w.heap.size (w.heap.size+1) (w.heap.size+1+1) W2.heap.size W1.heap.size w (qcp r.body) X/\ ∀x,x∈r.names.take k->x∈qcp r.body)
  (fun c k O X=>qst c/\Keep (fun k=>k<w.heap.size) w X/\ ∃x,looseOf r=some x/\X.heap[w.heap.size+1]?=some (.cells #[.string x] 9 (0,0))/\X.heap[w.heap.size+1+1]?=some (.cells #[.bool false] 4 (0,0))) ?hI ?hIx ?h0 ?round ?done ?stop
 case hI=>
  rintro k O X Y ⟨h,hh⟩ hK;exact⟨h.keep hK (.inl ⟨by omega,fun h=>h⟩) (.inl ⟨by omega,fun h=>h⟩) (.inl ⟨by omega,fun h=>h⟩) (.inl ⟨by omega,fun h=>h⟩) (fun b hb=>.inl ⟨by omega,fun h=>h⟩),hh⟩
 case hIx=>
  rintro c k O X Y ⟨hc,hk,x,h1,h2,h3⟩ hK;exact⟨hc,hk.trans (hK.mono fun b _ hb=>.inl ⟨by omega,fun h=>h⟩),x,h1,hK.heap h2 (.inl ⟨by omega,fun h=>h⟩),hK.heap h3 (.inl ⟨by omega,fun h=>h⟩)⟩
 case h0=>exact⟨hst0,by simp⟩
 case round=>
  intro lr k O X hBl hlX hOl hk hI hV hsz;obtain⟨s,hs⟩:=ex ((r.stands.getD k default).2);have hs':r.names[k]?=some s:=by simp [RuleD.names,←hs,List.getD,getElem?_eq_getElem hk]
  rw [hs];clear h1 h2 kW hmm c0 c1 c2 hst0;refine hd7 ?_ hI hs hs' hV hk hOl hrW;clear hI hs hs' hV hk hOl hrW;intro XhI Xhs Xhs' XhV Xhk XhOl XhrW;gi_wp2;refine⟨Keep.refl _ _,fun Y hY hYs hYl=>?_⟩;have hIY:=XhI.o.1.keep hY (by omega) (by omega) (by omega) (by omega) (fun b hb=>by omega);have hVY:=qck XhV.o hY (fun b hb=>by omega) (by omega);obtain⟨⟨us,p1⟩,⟨ub,p2⟩,p3,p4,p5⟩:=id hIY;have d2:=qbn p3;have hlk:=qh9 (P:=prog) (T:=144) (K:=9) (E:=4) Tryz.underlying144 Tryz.underlying9 (fun _=>by kernel_rfl) p4 s;have htk:r.names.take (k+1)=r.names.take k++ [s]:=by rw [take_add_one,Xhs'.o];rfl
  by_cases hin:s∈qcp r.body
  ·have hin':decide (s∈qcp r.body)=true:=by simpa using hin
   rw [hin']at hlk;have hf:qeh Wr.heap.size X.heap.size (qgb w.heap.size (W2.heap.size+1) Wr (qcj r (.slice ah r.head.args.length capH) (.slice ab r.body.length capB)).toArray) O Y Y
     (fun O'=>RuleSt w.heap.size (w.heap.size+1) (w.heap.size+1+1) W2.heap.size W1.heap.size w (qcp r.body) Y/\ ∀x,x∈r.names.take (k+1)->x∈qcp r.body):=
    ⟨O,fun _ h=>h,fun _ h=>.inl h,Keep.refl _ _,hVY,hIY,fun x hx=>by
     rw [htk]at hx;rcases mem_append.1 hx with h |h
     ·exact XhI.o.2 x h
     ·simp at h;subst h;exact hin⟩
   clear hIY hVY p1 p2 p3 p4 p5 htk hin hin' hY hYs hYl;refine hd1 ?_ hf;clear hf;intro Xhf;gi_wp2;exact Xhf.o
  ·have hin':decide (s∈qcp r.body)=false:=by simpa using hin
   rw [hin']at hlk;have hloose:looseOf r=some s:=by
    exact q5e (fun x hx=>by simpa using XhI.o.2 x hx) Xhs'.o (by simpa using hin)
   have d3:=qbn p1;have d3f:=qf p1 0;have d4:=qbn p2;have d4f:=qf p2 0;have k3:Keep (fun b=>b≠w.heap.size+1/\b≠w.heap.size+1+1) Y ((Y.setCell ⟨w.heap.size+1,0,none⟩ (.string s)).setCell ⟨w.heap.size+1+1,0,none⟩ (.bool false)):=(kSc).trans (kSc);have hf:qeh Wr.heap.size X.heap.size (qgb w.heap.size (W2.heap.size+1) Wr (qcj r (.slice ah r.head.args.length capH) (.slice ab r.body.length capB)).toArray) O Y ((Y.setCell ⟨w.heap.size+1,0,none⟩ (.string s)).setCell ⟨w.heap.size+1+1,0,none⟩ (.bool false))
     (fun O'=>qst .ret/\Keep (fun k=>k<w.heap.size) w ((Y.setCell ⟨w.heap.size+1,0,none⟩ (.string s)).setCell ⟨w.heap.size+1+1,0,none⟩ (.bool false))/\ ∃x,looseOf r=some x/\((Y.setCell ⟨w.heap.size+1,0,none⟩ (.string s)).setCell ⟨w.heap.size+1+1,0,none⟩ (.bool false)).heap[w.heap.size+1]?=some (.cells #[.string x] 9 (0,0))/\
      ((Y.setCell ⟨w.heap.size+1,0,none⟩ (.string s)).setCell ⟨w.heap.size+1+1,0,none⟩ (.bool false)).heap[w.heap.size+1+1]?=some (.cells #[.bool false] 4 (0,0))):=
    ⟨O,fun _ h=>h,fun _ h=>.inl h,k3.mono (fun b _ h=>by omega),qck hVY k3 (fun b hb=>by omega) (by omega),rfl,p5.trans (k3.mono fun b _ h=>by omega),s,hloose,
     (Keep.setCell (C:=fun b=>b≠w.heap.size+1+1) _ _ _ (by simp)).heap (qgu _ p1) (by omega),qgu _ ((Keep.setCell (C:=fun b=>b≠w.heap.size+1) _ _ _ (by simp)).heap p2 (by omega))⟩
   have hbs:w.heap.size+1<Y.heap.size:=qe p1;clear hIY hVY p1 p2 p3 p4 p5 htk hin hin' hY hYs hYl k3;refine hd2 ?_ hf hloose;clear hf hloose;intro Xhf Xhloose;gi_wp2;exact Xhf.o
 case done=>
  rintro D O W hD hOD hWD hsd ⟨hI,hall⟩ hV;have hloose:looseOf r=none:=by
   unfold looseOf;rw [find?_eq_none];intro x hx;have:=hall x (by rw [take_of_length_le (by simp [RuleD.names])];exact hx)
   simpa using this
  obtain⟨⟨us,p1⟩,⟨ub,p2⟩,p3,p4,p5⟩:=id hI;have d3:=qbn p1;have d3f:=qf p1 0;have d4:=qbn p2;have d4f:=qf p2 0;have hbs:w.heap.size+1<W.heap.size:=qe p1;clear h1 h2 kW hmm c0 c1 c2 hst0;refine qhe ?_ hI p1 p2 p3 p4 p5 hV hOD hWD hrW hall hloose;clear hI p1 p2 p3 p4 p5 hV hOD hWD hrW hall hloose;intro XhI Xp1 Xp2 Xp3 Xp4 Xp5 XhV XhOD XhWD XhrW Xhall Xhloose;gi_wp2;have k3:Keep (fun b=>b≠w.heap.size+1/\b≠w.heap.size+1+1) W ((W.setCell ⟨w.heap.size+1,0,none⟩ (.string ⟨#[]⟩)).setCell ⟨w.heap.size+1+1,0,none⟩ (.bool true)):=(kSc).trans (kSc);refine qgl [D] _ (by simp) (fun E hE=>by simp at hE;subst hE;exact k3.heap XhWD.o (by omega)) (fun w' hK hs=>?_);have q1:=qbn (hK.heap ((Keep.setCell (C:=fun b=>b≠w.heap.size+1+1) _ _ _ (by simp)).heap (qgu (.string ⟨#[]⟩) Xp1.o) (by omega)) (by simp;omega));have q2:=qbn (hK.heap (qgu (.bool true) ((Keep.setCell (C:=fun b=>b≠w.heap.size+1) _ _ (.string ⟨#[]⟩) (by simp)).heap Xp2.o (by omega))) (by simp;omega));refine qbx (v:=.tuple #[.string ⟨#[]⟩,.bool true]) (by simp [results,Tryz.results41,go_sem,q1,q2]) ⟨by rw [Xhloose.o];rfl,?_⟩;exact(Xp5.o.trans (k3.mono fun b _ h=>by omega)).trans (hK.mono fun b _ h=>by simp;omega)
 case stop=>
  rintro D c k O W hD hOD hWD hsd hk ⟨hret,hK,x,hl,q1,q2⟩ hV;obtain rfl:c=.ret:=hret;clear h1 h2 kW hmm c0 c1 c2 hst0;refine hd8 ?_ hK q1 q2 hV hOD hWD hrW hl;clear hK q1 q2 hV hOD hWD hrW hl;intro XhK Xq1 Xq2 XhV XhOD XhWD XhrW Xhl;gi_wp2;refine qgl [D] _ (by simp) (fun E hE=>by simp at hE;subst hE;exact XhWD.o) (fun w' hK hs=>?_);have q1:=qbn (hK.heap Xq1.o (by simp;omega));have q2:=qbn (hK.heap Xq2.o (by simp;omega));refine qbx (v:=.tuple #[.string x,.bool false]) (by simp [results,Tryz.results41,go_sem,q1,q2]) ⟨by rw [Xhl.o];rfl,?_⟩;exact XhK.o.trans (hK.mono fun b _ h=>by simp;omega)
end Go.Proofs.S12
