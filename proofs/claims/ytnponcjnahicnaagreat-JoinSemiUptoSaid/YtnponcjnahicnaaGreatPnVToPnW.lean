/- Parts of the proof. -/
import Derived.Test.YtnponcjnahicnaaGreatProg
import Derived.Test.YtnponcjnahicnaaGreatPnQToPnU
import Derived.Test.YtnponcjnahicnaaGreatHoistToRowC
import Derived.Test.YtnponcjnahicnaaGreatHdToKp
import Derived.Test.YtnponcjnahicnaaGreatFltBToPnO
set_option linter.unusedSimpArgs false
set_option linter.unusedVariables false
open Go.Proofs.Tryz(prog)
open List(all_eq_true append_assoc append_nil drop_eq_getElem_cons drop_eq_nil_of_le filter_cons filter_replicate foldl_cons getD_cons_succ getD_eq_getElem?_getD getElem?_append_right getElem?_eq_getElem getElem?_map getElem?_replicate getElem?_set_ne getElem_cons_succ getElem_cons_zero getElem_mem getElem_toArray length_append length_cons length_drop length_map length_set length_singleton map_append mem_append mem_cons mem_of_getElem? mem_singleton setIfInBounds_toArray set_cons_succ set_cons_zero take_add_one take_length)
namespace Go.Proofs.P16
open Go.RowKit Go.Ink
attribute [local go_sem] Oper.semAt_some
set_option maxRecDepth 100000 in
set_option maxHeartbeats 2000000 in
theorem qyo (n:Nat)(r:RuleD)(sh sb:Value)(w:World)(hr:RuleIn n w sh sb r)(hn:n<=w.heap.size):
  Calls prog 146 #[qbf r sh sb] w fun e w'=> ∃vh vb,e=.returned (qbf r vh vb)/\RuleOwn w.heap.size 64 60 w' vh vb r/\Keep (fun b=>b<w.heap.size) w w':=by
 obtain⟨⟨pr,args⟩,body⟩:=r;obtain⟨hh,hb⟩:=id hr;unfold qbf;simp only at hh hb⊢;obtain⟨aa,ca,rfl,hla,hcaa,-⟩:=id hh;obtain⟨ab,cb,rfl,hlb,hcb,-⟩:=id hb;obtain⟨hs1,hs2⟩:=qgr hh;obtain⟨ps,hps,hpt,hp1,hp2⟩:=qpu hb;have hplen:ps.length=body.length:=by have:=congrArg List.length hps;rwa [length_map] at this
 have hone:=qub hpt;obtain⟨N,hN⟩:=ex (w.heap.size);have hc1:=fun W (hK:Keep (fun b=>b<w.heap.size) w W)=>qgx aa args.length ca (qac args) W (qf4 args) (fun b hb j u hj=>hK.cell (hs1 b hb j u hj) (World.block_lt_of_cell? w _ (hs1 b hb j u hj))) hs2 (qhc args) hla;have hc2:=fun W (hK:Keep (fun b=>b<w.heap.size) w W)=>qmb ab body.length cb (ps.flatMap qc2) W (by rw [qa0 qc2 7 (fun _=>rfl),hplen]) (fun b hb j u hj=>hK.cell (hp1 b hb j u hj) (World.block_lt_of_cell? w _ (hp1 b hb j u hj))) hp2 hone hlb;have hc3:=fun p (hp:p∈ps) W (hK:Keep (fun b=>b<w.heap.size) w W)=>show∀a c,p.2=.slice a p.1.atom.args.length c->_ from fun a c e=>
  have hs:=qgr (e▸hpt p hp)
  qgx a p.1.atom.args.length c (qac p.1.atom.args) W (qf4 _) (fun b hb j u hj=>hK.cell (hs.1 b hb j u hj) (World.block_lt_of_cell? w _ (hs.1 b hb j u hj))) hs.2 (qhc _) (by obtain⟨_,_,_,h,_⟩:=hpt p hp;exact h)
 clear hh hb hr hs1 hs2 hp1 hp2 hone;refine hd7 ?_ hc1 hc2 hc3 hps hpt hplen hN;clear hc1 hc2 hc3 hps hpt hplen hN;intro Xhc1 Xhc2 Xhc3 Xhps Xhpt Xhplen XhN
 go_enter Tryz.func146,Tryz.ntmps146
 go_wp2_with fail;refine qxy (fun W=>Keep (fun b=>b<w.heap.size) w W/\W.heap.size=w.heap.size+1+1/\W.heap[w.heap.size]?=some (.cells #[.string pr,.slice aa args.length ca,.slice ab body.length cb] 27 (0,0))/\
  W.heap[w.heap.size+1]?=some (.cells #[.string ⟨#[]⟩,.slice none 0 0,.slice none 0 0] 27 (0,0))) ⟨kAl.trans kAl,by simp,by simp only [qah,World.size_alloc];simp,by simp only [qah,World.size_alloc];simp⟩ ?_
 rintro W0 ⟨k0,z0,g1,g2⟩;have hcc1:=Xhc1.o W0 k0;rw [XhN.o]at k0 z0 g1 g2⊢;have h1c:=qb g1 1 _ rfl;have h2c:=qb g1 2 _ rfl;simp only [Nat.zero_add]at h1c h2c;refine hd3 ?_ k0 g1 g2;clear k0 g1 g2;intro Xk0 Xg1 Xg2;refine hcc1.mono ?_;rintro e W1 ⟨vh,rfl,oh,k1⟩;obtain⟨avh,cvh,rfl⟩:=qi oh;have e1:=k1.cell h1c trivial;have e2:=k1.cell h2c trivial;have b1:=k1.heap Xg1.o trivial;have e1f:=qf b1 1;have hz1:=k1.size;have hl1:N<W1.heap.size:=by omega
 obtain⟨W2,hW2⟩:=ex (W1.setCell ⟨N,1,none⟩ (.slice avh args.length cvh));have k2:Keep (fun b=>b≠N) W1 W2:=by rw [←hW2];exact kSc
 have z2:W2.heap.size=W1.heap.size:=by rw [←hW2];simp [World.setCell]
 have b2:=q8 1 (.slice avh args.length cvh) b1;rw [hW2]at b2;simp only [setIfInBounds_toArray,set_cons_succ,set_cons_zero]at b2;have oh2:=qg oh k2 (fun b hb=>by have:=(World.ownsRow.lt oh b hb).1;omega);have kw2:Keep (fun b=>b<N) w W2:=(Xk0.o.trans (k1.mono fun _ _ _=>trivial)).trans (k2.mono fun b _ h=>by omega);have r2:=k2.heap (k1.heap Xg2.o trivial) (show N+1≠N by omega);have hcc2:=Xhc2.o W2 (kw2.mono fun b _ h=>by have:=XhN.o;omega);have q2:=qb b2 2 _ rfl;simp only [Nat.zero_add]at q2;have hl2:N<W2.heap.size:=by omega
 clear h1c h2c hcc1 oh k1 k2 b1;refine hd6 ?_ hW2 b2 oh2 kw2 r2 hcc2;clear hW2 b2 oh2 kw2 r2 hcc2;intro XhW2 Xb2 Xoh2 Xkw2 Xr2 Xhcc2;go_wp2_with fail;rw [XhW2.o];refine Xhcc2.o.mono ?_;rintro e W3 ⟨vb,rfl,ob,k3⟩;have hz3:=k3.size;obtain⟨avb,cvb,rfl⟩:=qi ob;have b3:=k3.heap Xb2.o trivial;have q3:=qb b3 2 _ rfl;have q3f:=qf b3 2;simp only [Nat.zero_add]at q3;have hl3:N<W3.heap.size:=by omega
 obtain⟨W4,hW4⟩:=ex (W3.setCell ⟨N,2,none⟩ (.slice avb body.length cvb));have k4:Keep (fun b=>b≠N) W3 W4:=by rw [←hW4];exact kSc
 have z4:W4.heap.size=W3.heap.size:=by rw [←hW4];simp [World.setCell]
 have b4:=q8 2 (.slice avb body.length cvb) b3;rw [hW4]at b4;simp only [setIfInBounds_toArray,set_cons_succ,set_cons_zero]at b4;have k34:Keep (fun b=>b≠N) W2 W4:=(k3.mono fun _ _ _=>trivial).trans k4;have oh4:=qg Xoh2.o k34 (fun b hb=>by have:=(World.ownsRow.lt Xoh2.o b hb).1;omega);have ob4:=(qg ob k4 (fun b hb=>by have:=(World.ownsRow.lt ob b hb).1;omega)).mono (show N+2<=W2.heap.size by omega);have oh4:=oh4.mono (show N+2<=W0.heap.size by omega);have kw4:Keep (fun b=>b<N) w W4:=Xkw2.o.trans (k34.mono fun b _ h=>by omega);have r4:=k34.heap Xr2.o (show N+1≠N by omega);have q4:=qb b4 2 _ rfl;simp only [Nat.zero_add]at q4;have hl4:N<W4.heap.size:=by omega
 clear q2 ob k3 k4 k34 b3;refine hd6 ?_ hW4 b4 oh4 ob4 kw4 r4;clear hW4 b4 oh4 ob4 kw4 r4;intro XhW4 Xb4 Xoh4 Xob4 Xkw4 Xr4;go_wp2_with fail;rw [XhW4.o];clear q3 q3f q4
 go_loopw [17] (fun i' wr=> ∃(k:Nat) (qs:List (LitD×Value)),k<=body.length/\i'=.int .i64 (k:Int)/\Keep (fun b=>b<N+2) W4 wr/\qs.length=k/\qs.map (·.1)=body.take k/\
  wr.ownsRow (N+2) 64 7 (.slice avb body.length cvb) body.length ((qs++ps.drop k).flatMap qc2)/\wr.ownsRow (N+2) 60 2 (.slice avh args.length cvh) args.length (qac args)/\
  (∀p,p∈qs->wr.ownsRow (N+2) 60 2 p.2 p.1.atom.args.length (qac p.1.atom.args))) (fun i _=>body.length-(intOf i).toNat)
 case atStart=>exact⟨0,[],by omega,rfl,Keep.refl _ _,rfl,rfl,Xob4.o,Xoh4.o,by simp⟩
 case round=>
  obtain⟨k,qs,hk,rfl,hK,hql,hqm,hob,hoh,hqo⟩:=hrel;have hsz:=hK.size;have bx:=hK.heap Xb4.o (show N<N+2 by omega);have c2:=qb bx 2 _ rfl;simp only [Nat.zero_add]at c2;have hNl:N<wr.heap.size:=by omega
  have kw:Keep (fun b=>b<w.heap.size) w wr:=(Xkw4.o.mono fun b _ h=>by have:=XhN.o;omega).trans (hK.mono fun b _ h=>by have:=XhN.o;omega);by_cases hlt:k<body.length
  ·have hlt1:(k:Int)<body.length:=by omega
   have hk0:(0:Int)<=k:=by omega
   obtain⟨p,hp⟩: ∃p,ps[k]?=some p:=⟨_,getElem?_eq_getElem (by rw [Xhplen.o];exact hlt)⟩;obtain⟨g,rfl⟩: ∃g,avb=some ⟨g,0,none⟩:=by
    rcases hob.2 with ⟨h1,h2⟩ |⟨g,_,_,h1,_⟩
    ·omega
    ·cases h1;exact⟨g,rfl⟩
   have hdrop:ps.drop k=p::ps.drop (k+1):=by
    have hkk:=(List.getElem?_eq_some_iff.1 hp).1;have:=drop_eq_getElem_cons hkk;rw [(List.getElem?_eq_some_iff.1 hp).2]at this;exact this
   have hpm:=mem_of_getElem? hp;obtain⟨apa,cpa,hpv,-,-,-⟩:=id (Xhpt.o p hpm);have hcl:=Xhc3.o p hpm wr.drew (kw.trans kDr) apa cpa hpv;have hel:wr.cell? ⟨g,k*7+2,none⟩=some p.2:=by
    have:=qb7 hob (k*7+2) p.2 (by rw [hdrop,qbc qc2 7 (fun _=>rfl) (qs++p::ps.drop (k+1)) k 2 p (by rw [getElem?_append_right (by omega),hql];simp) (by omega)];rfl);exact this
   rw [hpv]at hel;have hgl:=(qkz hob);have hpk:body[k]?=some p.1:=by rw [←Xhps.o,getElem?_map,hp];rfl
   have hxl:(k*7+2)<((qs++ps.drop k).flatMap qc2).length:=by
    rw [qa0 qc2 7 (fun _=>rfl),length_append,length_drop,hql,Xhplen.o];omega
   have hgw:g<wr.heap.size:=hgl.2.2.1;clear hp;refine qoi ?_ hK hql hqm hob hoh hqo bx kw hdrop hpm hcl hpk hpv hxl;clear hK hql hqm hob hoh hqo bx kw hdrop hpm hcl hpk hpv hxl;intro XhK Xhql Xhqm Xhob Xhoh Xhqo Xbx Xkw Xhdrop Xhpm Xhcl Xhpk Xhpv Xhxl;go_wp2_with fail;refine qc7 rfl (fun W=>W.cell? ⟨N,2,none⟩=some (.slice (some ⟨g,0,none⟩) body.length cvb)/\W.cell? ⟨g,k*7+2,none⟩=some (.slice apa p.1.atom.args.length cpa)) [14] ?_;have XhS0:=Lib.hid (And.intro c2 hel);refine qam [0,1,2,3,4,5,6,7,8,9] ?_
   iterate 10
    refine tkN (v:=?_) rfl XhS0.o ?_ ?_;rotate_left
    ·rintro Wq ⟨s0,s1⟩;go_simp
     try with_reducible rfl
    try simp only [qan]
   refine qu ?_;refine qhn (i:=10) rfl (by kernel_rfl) (fun KK hKK=>?_);have XhR0:=Lib.hid hKK;clear hKK;simp only [getElem_toArray,getElem_cons_zero,getElem_cons_succ,Act.put,setIfInBounds_toArray,set_cons_zero,set_cons_succ,Nat.zero_add];go_wp2_with fail;refine Xhcl.o.mono ?_;rintro e W5 ⟨v',rfl,o5,k5⟩;have n0:=k5.cell (show wr.drew.cell? ⟨N,2,none⟩=_ from c2) trivial;have n1:=k5.cell (show wr.drew.cell? ⟨g,k*7+2,none⟩=_ from hel) trivial;have hz5:=k5.size;simp only [World.size_drew]at hz5;obtain⟨av5,cv5,rfl⟩:=qi o5;go_wp2_with fail;refine XhR0.o _ _ (fun _=>⟨n0,n1⟩) ?_;refine qhn (i:=11) rfl (by kernel_rfl) (fun KK hKK=>?_);have XhR1:=Lib.hid hKK;clear hKK;go_wp2_with fail;refine XhR1.o _ _ (fun _=>⟨n0,n1⟩) ?_;refine qhn (i:=12) rfl (by kernel_rfl) (fun KK hKK=>?_);have XhR2:=Lib.hid hKK;clear hKK;go_wp2_with fail;refine XhR2.o _ _ (fun _=>⟨n0,n1⟩) ?_;refine qhn (i:=13) rfl (by kernel_rfl) (fun KK hKK=>?_);have XhR3:=Lib.hid hKK;clear hKK;go_wp2_with fail;refine XhR3.o _ _ (fun _=>⟨n0,n1⟩) ?_;refine qhn (i:=14) rfl (by kernel_rfl) (fun KK hKK=>?_);have XhR4:=Lib.hid hKK;clear hKK;have k05:Keep (fun _=>True) wr W5:=kDr.trans k5;have hob5:=qg Xhob.o k05 (fun _ _=>trivial);obtain⟨cs5,ht5⟩:=qav hob5 (b:=g) rfl;have n1f:=qf ht5 (k*7+2);have hg5:=qe ht5;obtain⟨W6,hW6⟩:=ex (W5.setCell ⟨g,k*7+2,none⟩ (.slice av5 p.1.atom.args.length cv5));have k6:Keep (fun b=>b≠g) W5 W6:=by rw [←hW6];exact kSc
   have hob6:=qjf hob5 (k*7+2) (.slice av5 p.1.atom.args.length cv5) Xhxl.o;rw [hW6,Xhdrop.o]at hob6;have hset:=qw7 qs (ps.drop (k+1)) p (.slice av5 p.1.atom.args.length cv5);rw [Xhql.o]at hset;rw [hset]at hob6;have notg: ∀(base:Nat) (v:Value) (m:Nat) (xs:List Value),W5.ownsRow base 60 2 v m xs-> ∀b,v.ownBlock=some b->b≠g:=fun base v m xs h b hb e=>by
    obtain⟨c2,t2⟩:=qav h hb;rw [e,ht5]at t2;cases t2
   have hoh5:=qg Xhoh.o k05 (fun _ _=>trivial);have hoh6:=qg hoh5 k6 (notg _ _ _ _ hoh5);have hK6:Keep (fun b=>b<N+2) W4 W6:=(XhK.o.trans (k05.mono fun _ _ _=>trivial)).trans (k6.mono fun b _ h=>by omega);have o6:=(qg o5 k6 (notg _ _ _ _ o5)).mono (show N+2<=wr.heap.size by omega);have hqo6: ∀q,q∈qs++ [(p.1,Value.slice av5 p.1.atom.args.length cv5)]->W6.ownsRow (N+2) 60 2 q.2 q.1.atom.args.length (qac q.1.atom.args):=fun q hq=>by
    rcases mem_append.1 hq with h |h
    ·have h1:=qg (Xhqo.o q h) k05 (fun _ _=>trivial);exact qg h1 k6 (notg _ _ _ _ h1)
    ·simp only [mem_singleton]at h;subst h;exact o6
   have hqm6:(qs++ [(p.1,Value.slice av5 p.1.atom.args.length cv5)]).map (·.1)=body.take (k+1):=by
    rw [map_append,Xhqm.o,take_add_one,Xhpk.o];rfl
   have hql6:(qs++ [(p.1,Value.slice av5 p.1.atom.args.length cv5)]).length=k+1:=by rw [length_append,Xhql.o];rfl
   have hob6':W6.ownsRow (N+2) 64 7 (.slice (some ⟨g,0,none⟩) body.length cvb) body.length (((qs++ [(p.1,Value.slice av5 p.1.atom.args.length cv5)])++ps.drop (k+1)).flatMap qc2):=by
    rw [append_assoc];exact hob6
   clear k05 hob5 ht5 k6 hob6 hset notg hoh5 k5 o5 o6;refine hd7 ?_ hW6 hob6' hoh6 hK6 hqo6 hqm6 hql6;clear hW6 hob6' hoh6 hK6 hqo6 hqm6 hql6;intro XhW6 Xhob6' Xhoh6 XhK6 Xhqo6 Xhqm6 Xhql6;go_wp2_with fail;refine XhR4.o _ _ (fun h=>by simp at h) ?_;refine qee (by kernel_rfl) ?_;clear XhS0 XhR0 XhR1 XhR2 XhR3 XhR4 n0 n1 n1f;rw [XhW6.o];go_wp2_with fail;go_roundw
   case rel=>exact⟨k+1,_,by omega,by go_num,XhK6.o,Xhql6.o,Xhqm6.o,Xhob6'.o,Xhoh6.o,Xhqo6.o⟩
   case measure=>simp [intOf];omega
  ·obtain rfl:k=body.length:=by omega
   have hd0:ps.drop body.length= []:=by rw [drop_eq_nil_of_le (by rw [Xhplen.o];exact Nat.le_refl _)]
   rw [hd0,append_nil]at hob;rw [take_length]at hqm;have c0:=qb bx 0 _ rfl;have c1:=qb bx 1 _ rfl;have rx:=hK.heap Xr4.o (show N+1<N+2 by omega);have d0:=qb rx 0 _ rfl;have d1:=qb rx 1 _ rfl;have d2:=qb rx 2 _ rfl;have f0:=qf rx 0;have f1:=qf rx 1;have f2:=qf rx 2;simp only [Nat.zero_add]at c0 c1 d0 d1 d2;have hNr:N+1<wr.heap.size:=qe rx;clear hd0;refine hd9 ?_ hK hql hqm hob hoh hqo bx kw rx;clear hK hql hqm hob hoh hqo bx kw rx;intro XhK Xhql Xhqm Xhob Xhoh Xhqo Xbx Xkw Xrx;go_wp2_with fail;refine bodyPost_ret (v:=.agg #[.string pr,.slice avh args.length cvh,.slice avb body.length cvb]) (by simp [results,Tryz.results146,go_sem,d0,d1,d2,hNr]) rfl ?_;have kS:Keep (fun b=>b≠N+1) wr (((wr.setCell ⟨N+1,0,none⟩ (.string pr)).setCell ⟨N+1,1,none⟩ (.slice avh args.length cvh)).setCell ⟨N+1,2,none⟩ (.slice avb body.length cvb)):=
    ((kSc).trans (kSc)).trans (kSc)
   have hNe:=XhN.o;refine⟨_,_,rfl,⟨(qg Xhoh.o kS (fun b hb=>by have:=(World.ownsRow.lt Xhoh.o b hb).1;omega)).mono (by omega),qs,Xhqm.o,(qg Xhob.o kS (fun b hb=>by have:=(World.ownsRow.lt Xhob.o b hb).1;omega)).mono (by omega),fun q hq=>?_⟩,Xkw.o.trans (kS.mono fun b _ h=>by omega)⟩;have h1:=Xhqo.o q hq;exact(qg h1 kS (fun b hb=>by have:=(World.ownsRow.lt h1 b hb).1;omega)).mono (by omega)
end Go.Proofs.P16
namespace Go.Proofs.P16
open Go.RowKit Go.Ink Go.Flt
structure MkS where
 K:List ByteArray
 taken:List Bool
 rows:Nat
 steps:List qdd
def qbi (K:List ByteArray)(rows:Nat)(sizes:List qai)(ls:List LitD)(tk:List Bool):Nat->Int×Nat×Bool
 |0=>(-1,0,false)
 |i+1=>
  let p:=qbi K rows sizes ls tk i
  if p.2.2 then p
  else if tk.getD i true then p
  else if (ls.getD i default).kind≠1 then (if qcm K (ls.getD i default) then ((i:Int),p.2.1,true) else p)
  else if p.1<0∨qcy rows (ls.getD i default) (qbe K (ls.getD i default) i).bound sizes<p.2.1 then ((i:Int),qcy rows (ls.getD i default) (qbe K (ls.getD i default) i).bound sizes,false)
  else p
def q46 (r:RuleD)(sizes:List qai)(s:MkS):Int:=(qbi s.K s.rows sizes r.body s.taken r.body.length).1
def qh1 (r:RuleD)(sizes:List qai)(n:Int)(s:MkS):MkS:=
 let L:=r.body.getD n.toNat default
 let x:=qbe s.K L n
 ⟨qc0 s.K x.new,s.taken.set n.toNat true,qcy s.rows L x.bound sizes,s.steps++ [x]⟩
def qgy (r:RuleD)(sizes:List qai)(first:Int)(j:Nat)(s:MkS):Int:=if 0<j∨first<0 then q46 r sizes s else first
def qbs (r:RuleD)(sizes:List qai)(first:Int):Nat->MkS
 |0=>⟨[],List.replicate r.body.length false,4607182418800017408,[]⟩
 |j+1=>qh1 r sizes (qgy r sizes first j (qbs r sizes first j)) (qbs r sizes first j)
structure qsw where
 rule:RuleD
 steps:List qdd
def qm9:qsw:=⟨⟨⟨⟨#[]⟩,[]⟩,[]⟩,[]⟩
def qaz (r:RuleD)(first:Int):Bool:=decide (first< -1) ||decide ((r.body.length:Int)<=first) ||(decide (0<=first)&&decide ((r.body.getD first.toNat default).kind≠1))
def qi7 (r:RuleD)(sizes:List qai)(first:Int):qsw×Int:=
 if qd3 r sizes (qaz r first)≠0 then (qm9,qd3 r sizes (qaz r first)) else (⟨r,(qbs r sizes first r.body.length).steps⟩,0)
theorem q1a {K:List ByteArray}{rows:Nat}{sizes:List qai}{ls:List LitD}{tk:List Bool}{i:Nat}(h:(qbi K rows sizes ls tk i).2.2=true): ∀j,i<=j->qbi K rows sizes ls tk j=qbi K rows sizes ls tk i:=by
 intro j hj
 induction j with
 |zero=>rw [show i=0 by omega]
 |succ j ih=>
  rcases Nat.lt_or_ge j i with hl |hg
  ·rw [show i=j+1 by omega]
  ·have ih:=ih hg;rw [show qbi K rows sizes ls tk (j+1)=_ from rfl];simp only [qbi,ih,h,if_true]
theorem qyp {K:List ByteArray}{rows:Nat}(hr:rows<=9094988921128908188){sizes:List qai}(hu:qbu sizes=true){ls:List LitD}{tk:List Bool}(i:Nat):(qbi K rows sizes ls tk i).2.1<=9094988921128908188:=by
 induction i with
 |zero=>simp [qbi]
 |succ i ih=>
  simp only [qbi];split
  ·exact ih
  ·split
   ·exact ih
   ·split
    ·split
     ·exact ih
     ·exact ih
    ·split
     ·exact qmq hr _ _ hu
     ·exact ih
theorem q1b {K:List ByteArray}{rows:Nat}{sizes:List qai}{ls:List LitD}{tk:List Bool}(i:Nat):(qbi K rows sizes ls tk i).1= -1∨ ∃k:Nat,(qbi K rows sizes ls tk i).1=(k:Int)/\k<i/\tk.getD k true=false/\((ls.getD k default).kind=1∨qcm K (ls.getD k default)=true):=by
 induction i with
 |zero=>exact .inl rfl
 |succ i ih=>
  have ih2:(qbi K rows sizes ls tk i).1= -1∨ ∃k:Nat,(qbi K rows sizes ls tk i).1=(k:Int)/\k<i+1/\tk.getD k true=false/\((ls.getD k default).kind=1∨qcm K (ls.getD k default)=true):=by
   rcases ih with h |⟨k,h1,h2,h3⟩
   ·exact .inl h
   ·exact .inr ⟨k,h1,by omega,h3⟩
  simp only [qbi];split
  ·exact ih2
  ·split
   ·exact ih2
   ·rename_i ht;rw [Bool.not_eq_true]at ht;split
    ·split
     ·rename_i hr;exact .inr ⟨i,rfl,by omega,ht,.inr hr⟩
     ·exact ih2
    ·rename_i hk;split
     ·exact .inr ⟨i,rfl,by omega,ht,.inl (by omega)⟩
     ·exact ih2
theorem q1c {K:List ByteArray}{rows:Nat}{sizes:List qai}{ls:List LitD}{tk:List Bool}(i:Nat)(h:(qbi K rows sizes ls tk i).1= -1): ∀k,k<i->tk.getD k true=false->(ls.getD k default).kind≠1/\qcm K (ls.getD k default)=false:=by
 induction i with
 |zero=>intro k hk;omega
 |succ i ih=>
  simp only [qbi]at h;intro k hk ht;by_cases hd:(qbi K rows sizes ls tk i).2.2=true
  ·rw [if_pos hd]at h;exfalso;have: ∀j,(qbi K rows sizes ls tk j).2.2=true->(qbi K rows sizes ls tk j).1≠ -1:=by
    intro j
    induction j with
    |zero=>intro h;simp [qbi] at h
    |succ j ihj=>
     simp only [qbi];split
     ·exact ihj
     ·rename_i hn;split
      ·intro h;exact absurd h hn
      ·split
       ·split
        ·intro _;simp only;omega
        ·intro h;exact absurd h hn
       ·split
        ·intro h;simp at h
        ·intro h;exact absurd h hn
   exact this i hd h
  ·rw [if_neg hd]at h;rcases Nat.lt_or_ge k i with hl |hg
   ·refine ih ?_ k hl ht
    revert h
    split
    ·exact id
    ·split
     ·split
      ·simp only;omega
      ·exact id
     ·split
      ·simp only;omega
      ·exact id
   ·obtain rfl:k=i:=by omega
    rw [if_neg (by rw [ht];simp)]at h;by_cases hk1:(ls.getD k default).kind≠1
    ·rw [if_pos hk1]at h;refine⟨hk1,?_⟩;by_cases hr:qcm K (ls.getD k default)=true
     ·rw [if_pos hr]at h;simp only at h;omega
     ·simpa using hr
    ·rw [if_neg hk1]at h;by_cases hb:(qbi K rows sizes ls tk k).1<0∨qcy rows (ls.getD k default) (qbe K (ls.getD k default) k).bound sizes<(qbi K rows sizes ls tk k).2.1
     ·rw [if_pos hb]at h;simp only at h;omega
     ·rw [if_neg hb]at h;exfalso;exact hb (.inl (by omega))
structure q68 (r:RuleD)(j:Nat)(s:MkS):Prop where
 len:s.taken.length=r.body.length
 cnt:(s.taken.filter id).length=j
 stp:s.steps.length=j
 row:s.rows<=9094988921128908188
 bnd: ∀k,k<r.body.length->s.taken.getD k true=true->(r.body.getD k default).kind=1-> ∀x,x∈qi6 (r.body.getD k default).atom.args->x∈s.K
theorem qv3 {K K':List ByteArray}{L:LitD}(h: ∀x,x∈K->x∈K')(hr:qcm K L=true):qcm K' L=true:=by
 unfold qcm at hr⊢;rw [Bool.or_eq_true]at hr⊢;rcases hr with h1 |h2
 ·exact .inl h1
 ·right;rw [←qym,all_eq_true]at h2⊢
  intro x hx;have:=h2 x hx;simp only [decide_eq_true_eq]at this⊢;exact h x this
theorem qry {K new:List ByteArray}{x:ByteArray}:x∈qc0 K new↔x∈K∨x∈new:=by
 have h: ∀(new K:List ByteArray),x∈qc0 K new↔x∈K∨x∈new:=by
  intro new
  induction new with
  |nil=>intro K;simp [qc0]
  |cons y r ih=>
   intro K;unfold qc0;rw [foldl_cons];have:=ih (if y∈K then K else K++ [y]);unfold qc0 at this;rw [this];by_cases hy:y∈K
   ·rw [if_pos hy,mem_cons];constructor
    ·rintro(h |h)
     ·exact .inl h
     ·exact .inr (.inr h)
    ·rintro(h |rfl |h)
     ·exact .inl h
     ·exact .inl hy
     ·exact .inr h
   ·rw [if_neg hy,mem_append,mem_singleton,mem_cons,or_assoc]
 exact h new K
theorem q1d {l:List Bool}{k:Nat}(h:l.getD k true=false):((l.set k true).filter id).length=(l.filter id).length+1:=by
 induction l generalizing k with
 |nil=>simp at h
 |cons b r ih=>
  cases k with
  |zero=>
   simp at h;subst h;simp
  |succ k=>
   simp only [getD_cons_succ]at h;have:=ih h;cases b<;>simp [this]
theorem qv4 {l:List Bool}(h:(l.filter id).length<l.length): ∃k,k<l.length/\l.getD k true=false:=by
 induction l with
 |nil=>simp at h
 |cons b r ih=>
  cases b with
  |false=>exact⟨0,by simp,rfl⟩
  |true=>
   obtain⟨k,h1,h2⟩:=ih (by rw [filter_cons,if_pos (show id true=true from rfl),length_cons,length_cons] at h;omega);exact⟨k+1,by simp;omega,by simpa using h2⟩
theorem qik {r:RuleD}{sizes:List qai}{first:Int}(hs:qd6 r=true)(hf:qaz r first=false){j:Nat}{s:MkS}(hj:j<r.body.length)(h:q68 r j s)(h0:j=0->s.taken=List.replicate r.body.length false):
  ∃k:Nat,qgy r sizes first j s=(k:Int)/\k<r.body.length/\s.taken.getD k true=false/\((r.body.getD k default).kind=1∨qcm s.K (r.body.getD k default)=true):=by
 unfold qgy;by_cases hc:0<j∨first<0
 ·rw [if_pos hc];unfold q46;rcases q1b (K:=s.K) (rows:=s.rows) (sizes:=sizes) (ls:=r.body) (tk:=s.taken) r.body.length with hn |⟨k,h1,h2,h3,h4⟩
  ·exfalso;have hall:=q1c _ hn;obtain⟨k,hk1,hk2⟩:=qv4 (l:=s.taken) (by rw [h.cnt,h.len];exact hj);rw [h.len]at hk1;have hk3:=hall k hk1 hk2;have hK: ∀x,x∈qbl r.body->x∈s.K:=by
    intro x hx;rw [←q08]at hx;have: ∀i,i<=r.body.length->x∈qh0 (r.body.take i)->x∈s.K:=by
     intro i
     induction i with
     |zero=>intro _ hx;simp [qh0] at hx
     |succ i ih=>
      intro hi hx;have hL:=getElem?_eq_getElem (show i<r.body.length by omega);rw [qn9 r.body hL]at hx;have hgd:r.body.getD i default=r.body[i]'(by omega):=by rw [getD_eq_getElem?_getD,hL];rfl
      split at hx
      ·rename_i hk1';rcases mem_append.1 hx with hx |hx
       ·exact ih (by omega) hx
       ·by_cases ht:s.taken.getD i true=true
        ·exact h.bnd i (by omega) ht (by rw [hgd];exact hk1') x (by rw [hgd];exact hx)
        ·exact absurd (by rw [hgd];exact hk1') (hall i (by omega) (by simpa using ht)).1
      ·exact ih (by omega) hx
    exact this r.body.length (Nat.le_refl _) (by rwa [take_length])
   unfold qd6 at hs;rw [Bool.and_eq_true,all_eq_true]at hs;have hgd:r.body.getD k default=r.body[k]:=by rw [getD_eq_getElem?_getD,getElem?_eq_getElem hk1];rfl
   have:=qv3 hK (hs.2 (r.body.getD k default) (by rw [hgd];exact getElem_mem _));rw [hk3.2]at this;cases this
  ·exact⟨k,h1,h2,h3,h4⟩
 ·rw [if_neg hc];unfold qaz at hf;rw [Bool.or_eq_false_iff,Bool.or_eq_false_iff,decide_eq_false_iff_not,decide_eq_false_iff_not]at hf;have h3:=hf.2;rw [decide_eq_true (show 0<=first by omega),Bool.true_and,decide_eq_false_iff_not,Classical.not_not]at h3;refine⟨first.toNat,by omega,by omega,?_,.inl h3⟩;rw [h0 (by omega),getD_eq_getElem?_getD,getElem?_replicate,if_pos (by omega)]
  rfl
theorem qns {r:RuleD}{sizes:List qai}{first:Int}(hu:qbu sizes=true)(hs:qd6 r=true)(hf:qaz r first=false)(j:Nat)(hj:j<=r.body.length):q68 r j (qbs r sizes first j):=by
 induction j with
 |zero=>
  refine⟨by simp [qbs],by simp [qbs,filter_replicate],rfl,by simp only [qbs];decide,?_⟩;intro k hk ht;simp only [qbs]at ht;rw [getD_eq_getElem?_getD,getElem?_replicate,if_pos hk]at ht;cases ht
 |succ j ih=>
  have ih:=ih (by omega);obtain⟨k,hk1,hk2,hk3,hk4⟩:=qik (sizes:=sizes) hs hf (show j<r.body.length by omega) ih (fun h=>by subst h;rfl);have e:qbs r sizes first (j+1)=qh1 r sizes (k:Int) (qbs r sizes first j):=by
   show qh1 r sizes (qgy r sizes first j (qbs r sizes first j)) (qbs r sizes first j)=_;rw [hk1]
  rw [e];unfold qh1;simp only [Int.toNat_natCast];refine⟨by simp only [length_set];exact ih.len,?_,?_,qmq ih.row _ _ hu,?_⟩
  ·rw [q1d hk3,ih.cnt]
  ·simp only [length_append,length_singleton];rw [ih.stp]
  ·intro i hi ht h1 x hx;rw [qry];by_cases hik:i=k
   ·subst hik;have hnew:(qbe (qbs r sizes first j).K (r.body.getD i default) (i:Int)).new=qb1 (qbs r sizes first j).K (r.body.getD i default).atom.args:=by unfold qbe;rw [if_neg (by omega)]
    rw [hnew,qlu];by_cases hxK:x∈(qbs r sizes first j).K
    ·exact .inl hxK
    ·exact .inr ⟨hx,hxK⟩
   ·left;refine ih.bnd i hi ?_ h1 x hx
    rwa [getD_eq_getElem?_getD,getElem?_set_ne (fun e=>hik e.symm),←getD_eq_getElem?_getD] at ht
end Go.Proofs.P16
