/- Parts of the proof. -/
import Derived.Test.YtnponcjnahicnaaGreatProg
import Derived.Test.YtnponcjnahicnaaGreatSmAToSmE
import Derived.Test.YtnponcjnahicnaaGreatLwHToSmC
import Derived.Sort.CutIn
import Derived.Test.YtnponcjnahicnaaGreatHdToKp
import Derived.Test.YtnponcjnahicnaaGreatHoistToRowC
set_option linter.unusedSimpArgs false
set_option linter.unusedVariables false
open Go.Proofs.Tryz(prog)
open List(getElem?_eq_getElem length_append length_filter_le length_map length_range length_take map_append mem_append_left mem_append_right mem_cons mem_map mem_of_getElem? not_mem_nil take_length)
namespace Go.Proofs
open Go.RowKit Go.Ink Go.Flt R4 P16
attribute [local go_sem] Oper.semAt_some
abbrev CutIn (n:Nat)(w:World)(v:Value)(bs:List Bool):Prop:=SliceIn n w 1 (fun w b o x=>w.cell? ⟨b,o,none⟩=some (.bool x)) v bs
structure q5b (r:RuleD)(fa fn:List ql):Prop where
 stands:r.stands.length<=1073741824
 tup: ∀f,f∈fa++fn->f.tuple.length<=1073741424
 pred: ∀f,f∈fa++fn->f.pred.size<=1073741824
 txt: ∀f,f∈fa++fn-> ∀s,s∈f.tuple->s.size<=1073741824
 tot:(fa++fn).length<=1073741824
set_option maxRecDepth 100000 in
set_option maxHeartbeats 2000000 in
theorem q4q {n:Nat}{r:RuleD}{sh sb vk vo vd va vn vc:Value}{fa fn:List ql}{cut:List Bool}{w:World}(hr:RuleIn n w sh sb r)(hf:FactsIn n w va fa)(hf2:FactsIn n w vn fn)(hc:CutIn n w vc cut)(hn:n<=w.heap.size)(hsm:q5b r fa fn):
  Calls prog 6 #[.agg #[.string r.head.pred,sh,sb,vk,vo,vd,va,vn,vc]] w fun e w'=>e=.returned (.bool true)/\Keep (fun b=>b<w.heap.size) w w':=by
 obtain⟨N,hN⟩:=ex (w.heap.size);obtain⟨F,hFe⟩:=ex (fa++fn);obtain⟨W0,hW0⟩:=ex (w.alloc (.cells #[.string r.head.pred,sh,sb,vk,vo,vd,va,vn,vc] 70));have k0:Keep (fun _=>True) w W0:=by rw [←hW0];exact kAl
 have p0:W0.heap[N]?=some (.cells #[.string r.head.pred,sh,sb,vk,vo,vd,va,vn,vc] 70 (0,0)):=by rw [←hW0,←hN];exact qh _ _
 have z0:W0.heap.size=N+1:=by rw [←hW0,←hN];simp
 have c0:=qb p0 0 _ rfl;have c1:=qb p0 1 _ rfl;have c2:=qb p0 2 _ rfl;have c6:=qb p0 6 _ rfl;have c7:=qb p0 7 _ rfl;have c8:=qb p0 8 _ rfl;simp only [Nat.zero_add]at c0 c1 c2 c6 c7 c8;obtain⟨ash,csh,rfl,-,-,-⟩:=id hr.1;obtain⟨asb,csb,rfl,-,-,-⟩:=id hr.2;obtain⟨af,cf,rfl,-,-,-⟩:=id hf;obtain⟨an,cn,rfl,-,-,-⟩:=id hf2;obtain⟨ac,cc,rfl,-,-,-⟩:=id hc;have hNd:N<W0.heap.size:=by omega
 obtain⟨W1,hW1⟩:=ex ((W0.alloc (.cells #[.string r.head.pred,.slice ash r.head.args.length csh,.slice asb r.body.length csb] 27)).drew);have k1:Keep (fun _=>True) W0 W1:=by rw [←hW1];exact kAl.trans kDr
 have p1:W1.heap[N+1]?=some (.cells #[.string r.head.pred,.slice ash r.head.args.length csh,.slice asb r.body.length csb] 27 (0,0)):=by rw [←hW1,←z0];exact(Keep.drew (fun _=>True) _).heap (qh W0 _) trivial
 have z1:W1.heap.size=N+2:=by rw [←hW1];simp [z0]
 obtain⟨We,hWe⟩:=ex (W1.drew);have ke:Keep (fun _=>True) W1 We:=by rw [←hWe];exact kDr
 have pe:We.heap[N+1]?=some (.cells #[.string r.head.pred,.slice ash r.head.args.length csh,.slice asb r.body.length csb] 27 (0,0)):=ke.heap p1 trivial;have ze:We.heap.size=N+2:=by rw [←hWe,←z1];rfl
 obtain⟨Wb,hWb⟩:=ex (We.alloc (.cells #[.slice af fa.length cf,.slice an fn.length cn] 28));have kb:Keep (fun _=>True) We Wb:=by rw [←hWb];exact kAl
 have zb:Wb.heap.size=N+3:=by rw [←hWb];simp [ze]
 have pb:Wb.heap[N+2]?=some (.cells #[.slice af fa.length cf,.slice an fn.length cn] 28 (0,0)):=by rw [←hWb,←ze];exact qh _ _
 have hS: ∀X,Keep (fun b=>b<N+2) We X->X.cell? ⟨N+1,0,none⟩=some (.string r.head.pred)/\X.cell? ⟨N+1,1,none⟩=some (.slice ash r.head.args.length csh)/\X.cell? ⟨N+1,2,none⟩=some (.slice asb r.body.length csb):=fun X hX=>by
  have q:=hX.heap pe (by omega);have q0:=qb q 0 _ rfl;have q1:=qb q 1 _ rfl;have q2:=qb q 2 _ rfl;simp only [Nat.zero_add]at q0 q1 q2;exact⟨q0,q1,q2⟩
 have kwe:Keep (fun b=>b<N) w We:=((k0.trans k1).trans ke).mono fun _ _ _=>trivial;have kwb:Keep (fun _=>True) w Wb:=((k0.trans k1).trans ke).trans kb;have hls:SliceIn (N+3) Wb 1 (qyc n) (.slice (some ⟨N+2,0,none⟩) 2 2) [fa,fn]:=by
  refine⟨_,2,rfl,by simp,⟨by simp,by decide⟩,fun k l hk=>⟨N+2,0,rfl,by omega,?_⟩⟩
  match k,hk with
  |0,hk=>cases hk;exact⟨_,by have:=qb pb 0 _ rfl;simpa using this,hf.keep (kwb.mono fun _ _ _=>trivial)⟩
  |1,hk=>cases hk;exact⟨_,by have:=qb pb 1 _ rfl;simpa using this,hf2.keep (kwb.mono fun _ _ _=>trivial)⟩
 have hfa:=q14 hls (by omega) (by omega) (by simpa using hsm.tot);rw [show([fa,fn].flatten:List ql)=F by rw [←hFe];simp]at hfa;have hS0:=hS We (Keep.refl _ _);have hS1:=hS Wb (kb.mono fun _ _ _=>trivial);have hNe:N+1<We.heap.size:=by omega
 refine qc5 ?_ hFe hr hf hf2 hc hsm hN hW0 k0 p0 z0 hW1 k1 p1 z1 hWe;clear hFe hr hf hf2 hc hsm hN hW0 k0 p0 z0 hW1 k1 p1 z1 hWe;intro XhFe Xhr Xhf Xhf2 Xhc Xhsm XhN XhW0 Xk0 Xp0 Xz0 XhW1 Xk1 Xp1 Xz1 XhWe;refine qoi ?_ ke pe ze hWb kb zb pb hS kwe kwb hls hfa hS0 hS1;clear ke pe ze hWb kb zb pb hS kwe kwb hls hfa hS0 hS1;intro Xke Xpe Xze XhWb Xkb Xzb Xpb XhS Xkwe Xkwb Xhls Xhfa XhS0 XhS1
 go_enter Tryz.func6,Tryz.ntmps6
 go_wp2_with fail;rw [XhW0.o,XhN.o]
 go_region
 rw [XhW1.o,Xz0.o];go_wp2_with fail;refine qc7 rfl (fun X=>X.cell? ⟨N+1,0,none⟩=some (.string r.head.pred)/\X.cell? ⟨N+1,1,none⟩=some (.slice ash r.head.args.length csh)/\X.cell? ⟨N+1,2,none⟩=some (.slice asb r.body.length csb)) [] ?_;rw [XhWe.o];refine qam [0,1,2] ?_
 iterate 3
  refine tkN (v:=?_) rfl XhS0.o ?_ ?_;rotate_left
  ·rintro Wq ⟨x1,x2,x3⟩;go_simp
   try with_reducible rfl
  try simp only [qan]
 refine qu ?_;refine ho 3 rfl fun K XhK0=>?_;go_wp2_with fail;rw [XhWb.o,Xze.o];refine XhK0.o _ _ (fun _=>XhS1.o) ?_;refine ho 4 rfl fun K XhK1=>?_;go_wp2_with fail;refine Xhfa.o.mono ?_;rintro e W2 ⟨v2,rfl,k2,hF2⟩;have k02:Keep (fun b=>b<N+2) We W2:=(Xkb.o.mono fun _ _ _=>trivial).trans (k2.mono fun b _ h=>by have:=Xzb.o;omega);have z2:=k2.size;have kw2:Keep (fun b=>b<N) w W2:=Xkwe.o.trans (k02.mono fun b _ h=>by omega);have hS2:=XhS.o W2 k02;have hN2:n<=W2.heap.size:=by have:=Xzb.o;have:=XhN.o;omega
 have hva:=q4i (n:=W2.heap.size) ((Xhr.o.keep (kw2.mono fun b _ h=>by have:=XhN.o;omega)).wider hN2) hF2 (Nat.le_refl _) Xhsm.o.stands (by rw [←XhFe.o];exact Xhsm.o.tup);obtain⟨a2,c2,rfl,-,-,-⟩:=id hF2;unfold qbf at hva;obtain⟨bv,hbv⟩:=ex (qgh r F);rw [hbv]at hva;clear hF2;refine hd6 ?_ k2 k02 kw2 hS2 hva hbv;clear k2 k02 kw2 hS2 hva hbv;intro Xk2 Xk02 Xkw2 XhS2 Xhva Xhbv;go_wp2_with fail;refine XhK1.o _ _ (fun _=>XhS2.o) ?_;refine ho 5 rfl fun K XhK2=>?_;go_wp2_with fail;refine Xhva.o.mono ?_;rintro e W3 ⟨rfl,k3⟩;have k03:Keep (fun b=>b<N+2) We W3:=Xk02.o.trans (k3.mono fun b _ h=>by have:=Xzb.o;omega);have hS3:=XhS.o W3 k03;have kw3:Keep (fun b=>b<N) w W3:=Xkwe.o.trans (k03.mono fun b _ h=>by omega);have hN3:N+1<W3.heap.size:=by have:=k3.size;have:=Xzb.o;omega
 refine hd4 ?_ k3 k03 hS3 kw3;clear k3 k03 hS3 kw3;intro Xk3 Xk03 XhS3 Xkw3;go_wp2_with fail;refine XhK2.o _ _ (fun _=>XhS3.o) ?_;refine qee (by kernel_rfl) ?_;clear XhK0 XhK1 XhK2;cases bv with
 |true=>
  go_wp2_with fail;refine(qmx W3).mono ?_;rintro e W9 ⟨rfl,k9⟩;refine hd1 ?_ k9;clear k9;intro Xk9;go_wp2_with fail;go_ret;rw [XhN.o];exact⟨rfl,Xkw3.o.trans (Xk9.o.mono fun b _ h=>by omega)⟩
 |false=>
  obtain⟨s3a,s3b,s3c⟩:=XhS3.o;have hr3:=Xhr.o.keep (Xkw3.o.mono fun b _ h=>by have:=XhN.o;omega);have hcp:=qvr hr3 (by have:=XhN.o;omega);unfold qbf at hcp;refine hd2 ?_ hr3 hcp;clear hr3 hcp;intro Xhr3 Xhcp;go_wp2_with fail;refine Xhcp.o.mono ?_;rintro e W4 ⟨vh4,vb4,rfl,hR4,k4⟩;have hri4:=hR4.rule (qov Xhr3.o);obtain⟨ah4,ch4,rfl⟩:=qi hR4.1;obtain⟨ps4,hps4,ho4,-⟩:=id hR4.2;obtain⟨ab4,cb4,rfl⟩:=qi ho4;have hcm:=qkk hri4 (Nat.le_refl _);unfold qbf at hcm;clear hR4 ho4 hps4;refine hd3 ?_ hri4 k4 hcm;clear hri4 k4 hcm;intro Xhri4 Xk4 Xhcm;go_wp2_with fail;refine Xhcm.o.mono ?_;rintro e W5 ⟨k5,⟨h0,rfl⟩ |⟨hro,J,vha,vbb,vv,va,vt,vhh,rfl,hj⟩⟩
  ·have h0':((qff r:Int) !=0)=true:=by simp [h0]
   have hz5:=k5.size;have hz4:=Xk4.o.size;refine hd1 ?_ k5;clear k5;intro Xk5;go_wp2_with fail;refine(qqt _ _).mono ?_;rintro e w9 ⟨rfl,hw9⟩;have hw9:=hw9.symm;subst hw9;go_wp2_with fail;refine(qmx W5).mono ?_;rintro e W9 ⟨rfl,k9⟩;refine hd1 ?_ k9;clear k9;intro Xk9;go_wp2_with fail;go_ret;rw [XhN.o];exact⟨rfl,Xkw3.o.trans ((Xk4.o.mono fun b _ h=>by omega).trans ((Xk5.o.mono fun b _ h=>by omega).trans (Xk9.o.mono fun b _ h=>by omega)))⟩
  ·have hJ5:=qpm (qnp W4) hj;have z4:=Xk4.o.size;have z5:=k5.size;have kw5:Keep (fun b=>b<N) w W5:=Xkw3.o.trans ((Xk4.o.mono fun b _ h=>by omega).trans (k5.mono fun b _ h=>by omega));have hN5:N+1<W5.heap.size:=by omega
   have hF4:F.length<=400:=(qi5 Xhbv.o).1;have hFl:fa.length+fn.length<=400:=by rw [←XhFe.o,length_append] at hF4;exact hF4
   have hpa: ∀f,f∈fa->f.pred.size<=1073741824:=fun f hf=>Xhsm.o.pred f (mem_append_left _ hf);have hpn: ∀f,f∈fn->f.pred.size<=1073741824:=fun f hf=>Xhsm.o.pred f (mem_append_right _ hf);have hst1:=qjs (n0:=0) (qnp W5) (Xhf.o.keep (kw5.mono fun b _ h=>by have:=XhN.o;omega)) (by have:=XhN.o;omega) (fun b _=>qid b) hpa (by omega);clear hj s3a s3b s3c;refine hd7 ?_ k5 hro hJ5 kw5 hpa hpn hst1;clear k5 hro hJ5 kw5 hpa hpn hst1;intro Xk5 Xhro XhJ5 Xkw5 Xhpa Xhpn Xhst1;go_wp2_with fail;refine(qqt _ _).mono ?_;rintro e w9 ⟨rfl,hw9⟩;have hw9:=hw9.symm;subst hw9;go_wp2_with fail;refine Xhst1.o.mono ?_;rintro e Z1 ⟨Sa,g1,rfl,s1,t1,-,hSa⟩;have q1:=qqv s1;have fr1: ∀b,b<W5.heap.size->g1.free b:=fun b hb=>s1.new b hb (qid b);have e1a:g1.st Sa=some (qbb okF fa):=by rw [t1];unfold Gh.with;simp
   have hzq1:=q1.size;have hst2:=qjs (n0:=0) s1.inv (Xhf2.o.keep ((Xkw5.o.trans (q1.mono fun b _ h=>trivial)).mono fun b _ h=>by have:=XhN.o;omega)) (by have:=XhN.o;omega) (fun b hb=>fr1 b (by have:=XhN.o;omega)) Xhpn.o (by omega);have lSa:Sa<Z1.heap.size:=by
    obtain⟨T,M,MX,vx,xs,rl,hP⟩:=s1.inv.store Sa _ e1a;exact qe hP.box
   refine hd6 ?_ s1 q1 fr1 t1 e1a hst2;clear s1 q1 fr1 t1 e1a hst2;intro Xs1 Xq1 Xfr1 Xt1 Xe1a Xhst2;go_wp2_with fail;refine Xhst2.o.mono ?_;rintro e Z2 ⟨Sb,g2,rfl,s2,t2,-,hSb⟩;have e2b:g2.st Sb=some (qbb okF fn):=by rw [t2];unfold Gh.with;simp
   have e2a:g2.st Sa=some (qbb okF fa):=by rw [t2];unfold Gh.with;rw [if_neg (by omega)];exact Xe1a.o
   have lSb:Sb<Z2.heap.size:=by
    obtain⟨T,M,MX,vx,xs,rl,hP⟩:=s2.inv.store Sb _ e2b;exact qe hP.box
   have hz2:=s2.keep.size;have hst3:=qnh (n0:=0) s2.inv;refine hd5 ?_ s2 t2 e2a e2b hst3;clear s2 t2 e2a e2b hst3;intro Xs2 Xt2 Xe2a Xe2b Xhst3;go_wp2_with fail;refine Xhst3.o.mono ?_;rintro e Z3 ⟨So,g3,rfl,s3,t3,-,hSo⟩;have e3o:g3.st So=some []:=by rw [t3];unfold Gh.with;simp
   have e3a:g3.st Sa=some (qbb okF fa):=by rw [t3];unfold Gh.with;rw [if_neg (by omega)];exact Xe2a.o
   have e3b:g3.st Sb=some (qbb okF fn):=by rw [t3];unfold Gh.with;rw [if_neg (by omega)];exact Xe2b.o
   have lSo:So<Z3.heap.size:=by
    obtain⟨T,M,MX,vx,xs,rl,hP⟩:=s3.inv.store So _ e3o;exact qe hP.box
   have hz3:=s3.keep.size;have hst4:=qnh (n0:=0) s3.inv;refine hd6 ?_ s3 t3 e3a e3b e3o hst4;clear s3 t3 e3a e3b e3o hst4;intro Xs3 Xt3 Xe3a Xe3b Xe3o Xhst4;go_wp2_with fail;refine Xhst4.o.mono ?_;rintro e Z4 ⟨Sf,g4,rfl,s4,t4,-,hSf⟩;have e4f:g4.st Sf=some []:=by rw [t4];unfold Gh.with;simp
   have e4o:g4.st So=some []:=by rw [t4];unfold Gh.with;rw [if_neg (by omega)];exact Xe3o.o
   have e4a:g4.st Sa=some (qbb okF fa):=by rw [t4];unfold Gh.with;rw [if_neg (by omega)];exact Xe3a.o
   have e4b:g4.st Sb=some (qbb okF fn):=by rw [t4];unfold Gh.with;rw [if_neg (by omega)];exact Xe3b.o
   have hz4:=s4.keep.size;have s04:=((Xs1.o.trans Xs2.o).trans Xs3.o).trans s4;have hJ4:=XhJ5.o.step ((GStep.refl (n0:=0) (qnp W5)).trans s04);have fr4: ∀b,b<W5.heap.size->g4.free b:=fun b hb=>s04.new b hb (qid b);have kw4:Keep (fun b=>b<N) w Z4:=Xkw5.o.trans ((qqv s04).mono fun _ _ _=>trivial);have i4:=s4.inv;have hdist:Sa≠Sb/\Sa≠So/\Sa≠Sf/\Sb≠So/\Sb≠Sf/\So≠Sf:=⟨by omega,by omega,by omega,by omega,by omega,by omega⟩;refine qhe ?_ s4 t4 e4f e4o e4a e4b s04 hJ4 fr4 kw4 i4 hdist;clear s4 t4 e4f e4o e4a e4b s04 hJ4 fr4 kw4 i4 hdist;intro Xs4 Xt4 Xe4f Xe4o Xe4a Xe4b Xs04 XhJ4 Xfr4 Xkw4 Xi4 Xhdist;go_wp2_with fail
   go_loopw [13] (fun ix X=> ∃(k:Nat) (g':Gh) (O Fr:List ql),k<=fa.length/\ix=.int .i64 (k:Int)/\GStep 0 g4 Z4 g' X/\g'.st Sa=some (qbb okF fa)/\g'.st Sb=some (qbb okF fn)/\g'.st So=some O/\g'.st Sf=some Fr/\SplitF O Fr (qbb okF (fa.take k))) (fun i _=>fa.length-(intOf i).toNat)
   case atStart=>exact⟨0,g4,[],[],by omega,rfl,GStep.refl Xi4.o,Xe4a.o,Xe4b.o,Xe4o.o,Xe4f.o,q0r⟩
   case round=>
    obtain⟨k,g',O,Fr,hk,rfl,hs,ea,eb,eo,ef,hsp⟩:=hrel;have hzr:=hs.keep.size;have hk0:(0:Int)<=k:=by omega
    by_cases hlt:k<fa.length
    ·as_aux_lemma=>
      have hlt1:(k:Int)<fa.length:=by omega
      obtain⟨f,hfk⟩: ∃f,fa[k]?=some f:=⟨_,getElem?_eq_getElem hlt⟩;obtain⟨a',c',haf,hl',hc',he'⟩:=id Xhf.o;obtain⟨b,o,hbo,hb,sv,hcl,hsv⟩:=he' k f hfk;injection haf with h1 h2 h3
      subst h1;subst hbo;have kn:Keep (fun b=>b<n) Z4 wr:=hs.keep.mono fun b _ h=>Xfr4.o b (by have:=XhN.o;omega);have kwr:Keep (fun b=>b<n) w wr:=(Xkw4.o.mono fun b _ h=>by have:=XhN.o;omega).trans kn;have d0:=kwr.cell (hcl 0 _ rfl) hb;have d1:=kwr.cell (hcl 1 _ rfl) hb;have hbw:b<wr.heap.size:=by have:=kwr.size;have:=XhN.o;omega
      have hsvr:=qgk hsv kwr;obtain⟨sa,sc,rfl,hsl,-,-⟩:=id hsv;have hpf:=Xhsm.o.pred f (mem_append_left _ (mem_of_getElem? hfk));have htx:=Xhsm.o.txt f (mem_append_left _ (mem_of_getElem? hfk));have hho:=qrq (hs.inv.store So O eo) f hpf n _ hsvr (by have:=kwr.size;have:=XhN.o;omega) htx;have hsn:=qpk hfk;simp only [Nat.add_zero]at d0;clear hcl hsv he' hc' h2 h3 hfk;by_cases hfo:f∈O
      ·rw [decide_eq_true hfo]at hho;have hnext:SplitF O Fr (qbb okF (fa.take (k+1))):=by rw [hsn];exact hsp.skip (.inl hfo)
       refine qhe ?_ hs ea eb eo ef hsp hho hsn hnext hsvr kwr kn;clear hs ea eb eo ef hsp hho hsn hnext hsvr kwr kn;intro Xhs Xea Xeb Xeo Xef Xhsp Xhho Xhsn Xhnext Xhsvr Xkwr Xkn;go_wp2_with fail;refine Xhho.o.mono ?_;rintro e X1 ⟨rfl,kX1⟩;have hs1:=Xhs.o.trans (GStep.own Xhs.o.inv kX1);refine hd2 ?_ hs1 kX1;clear hs1 kX1;intro Xhs1 XkX1;go_wp2_with fail;go_roundw
       case rel=>exact⟨k+1,g',O,Fr,by omega,by go_num,Xhs1.o,Xea.o,Xeb.o,Xeo.o,Xef.o,Xhnext.o⟩
       case measure=>simp [intOf];omega
      ·rw [decide_eq_false hfo]at hho;refine qiz ?_ hs ea eb eo ef hsp hho hsn hsvr kwr kn;clear hs ea eb eo ef hsp hho hsn hsvr kwr kn;intro Xhs Xea Xeb Xeo Xef Xhsp Xhho Xhsn Xhsvr Xkwr Xkn;go_wp2_with fail;refine Xhho.o.mono ?_;rintro e X1 ⟨rfl,kX1⟩;have hs1:=Xhs.o.trans (GStep.own Xhs.o.inv kX1);have g0:=kX1.cell d0 trivial;have g1':=kX1.cell d1 trivial;have hb1:b<X1.heap.size:=Nat.lt_of_lt_of_le hbw kX1.size;have hsv1:=qgk Xhsvr.o (kX1.mono fun _ _ _=>trivial);have hn1:n<=X1.heap.size:=by have:=kX1.size;have:=Xkwr.o.size;have:=XhN.o;omega
       have hhf:=qrq (hs1.inv.store Sf Fr Xef.o) f hpf n _ hsv1 hn1 htx;clear d0 d1;by_cases hff:f∈Fr
       ·rw [decide_eq_true hff]at hhf;have hnext:SplitF O Fr (qbb okF (fa.take (k+1))):=by rw [Xhsn.o];exact Xhsp.o.skip (.inr hff)
        refine hd5 ?_ hs1 kX1 hsv1 hhf hnext;clear hs1 kX1 hsv1 hhf hnext;intro Xhs1 XkX1 Xhsv1 Xhhf Xhnext;go_wp2_with fail;refine Xhhf.o.mono ?_;rintro e X2 ⟨rfl,kX2⟩;have hs2:=Xhs1.o.trans (GStep.own Xhs1.o.inv kX2);refine hd2 ?_ hs2 kX2;clear hs2 kX2;intro Xhs2 XkX2;go_wp2_with fail;go_roundw
        case rel=>exact⟨k+1,g',O,Fr,by omega,by go_num,Xhs2.o,Xea.o,Xeb.o,Xeo.o,Xef.o,Xhnext.o⟩
        case measure=>simp [intOf];omega
       ·rw [decide_eq_false hff]at hhf;refine hd4 ?_ hs1 kX1 hsv1 hhf;clear hs1 kX1 hsv1 hhf;intro Xhs1 XkX1 Xhsv1 Xhhf;go_wp2_with fail;refine Xhhf.o.mono ?_;rintro e X2 ⟨rfl,kX2⟩;have hs2:=Xhs1.o.trans (GStep.own Xhs1.o.inv kX2);have m0:=kX2.cell g0 trivial;have m1:=kX2.cell g1' trivial;have hb2:b<X2.heap.size:=Nat.lt_of_lt_of_le hb1 kX2.size;have hsv2:=qgk Xhsv1.o (kX2.mono fun _ _ _=>trivial);have hcp:=qn1 f.pred hsv2 (by have:=kX2.size;omega);have hadd: ∀(S:Nat) (c:List ql) (X3:World) (v':Value),g'.st S=some c->c.length<=400->Keep (fun _=>True) X2 X3->X3.ownsRow X2.heap.size 9 1 v' f.tuple.length (f.tuple.map .string)->Calls prog 16 #[qj S,.agg #[.string f.pred,v']] X3 fun e w'=> ∃g2,e=.returned (.tuple #[.bool (decide (okF f=true/\f∉c)),.int .i64 (if okF f=true then 0 else 2)])/\GStep 0 g4 Z4 g2 w'/\g2.st=g'.with S (qcl okF c f):=fun S c X3 v' hS hc k3 o3=>by
         have hs3:=hs2.trans (GStep.own hs2.inv k3);refine(qsb (n0:=0) hs3.inv hS f X3.heap.size _ (qcn o3 (by omega)) (Nat.le_refl _) hpf (by omega) (fun a' n' c' e=>?_)).mono ?_
         ·subst e;have h1:=(World.ownsRow.lt o3 a'.block (by simp [Value.ownBlock])).1;cases ht:g'.tag a'.block with
          |none=>rfl
          |some T=>have:=hs2.inv.lt _ _ ht;omega
         ·rintro e w' ⟨g2,rfl,h2,h3,-⟩;exact⟨g2,rfl,hs3.trans h2,h3⟩
        have hlO:O.length<=400/\Fr.length<=400:=by
         have:=Xhsp.o.len;have:=qmv (fa.take k);rw [length_take]at this;omega
        have kwx:Keep (fun b=>b<n) w X2:=Xkwr.o.trans ((XkX1.o.trans kX2).mono fun _ _ _=>trivial);clear g0 g1';by_cases hkc:k<cut.length
        ·have hkc1:(k:Int)<cut.length:=by omega
         obtain⟨cv,hcv⟩: ∃cv,cut[k]?=some cv:=⟨_,getElem?_eq_getElem hkc⟩;obtain⟨ab',cb',hab',-,-,hce⟩:=id Xhc.o;obtain⟨b3,o3',hb3,hb3n,hcell⟩:=hce k cv hcv;injection hab' with h1 h2 h3
         rw [←h1]at hb3;have m3:=kwx.cell hcell hb3n;have l3:b3<X2.heap.size:=World.block_lt_of_cell? _ _ m3;simp only [Nat.mul_one]at m3;clear hce hcell h1 h2 h3 hcv;subst hb3;cases cv with
         |true=>
          as_aux_lemma=>
           have hnext:SplitF O (qcl okF Fr f) (qbb okF (fa.take (k+1))):=by rw [Xhsn.o];exact Xhsp.o.fresh hfo hff
           refine hd5 ?_ hs2 hsv2 hcp hadd hnext;clear hs2 hsv2 hcp hadd hnext;intro Xhs2 Xhsv2 Xhcp Xhadd Xhnext;go_wp2_with fail;refine Xhcp.o.mono ?_;rintro e X3 ⟨v',rfl,o3,k3⟩;obtain⟨a3,c3,rfl⟩:=qi o3;have had:=Xhadd.o Sf Fr X3 _ Xef.o hlO.2 k3 o3;clear o3;refine hd2 ?_ had k3;clear had k3;intro Xhad Xk3;go_wp2_with fail;refine Xhad.o.mono ?_;rintro e X4 ⟨g5,rfl,h5,t5⟩;obtain⟨n1,n2,n3,n4,n5,n6⟩:=Xhdist.o;have a5:g5.st Sa=some (qbb okF fa):=by rw [t5];unfold Gh.with;rw [if_neg (by omega)];exact Xea.o
           have b5:g5.st Sb=some (qbb okF fn):=by rw [t5];unfold Gh.with;rw [if_neg (by omega)];exact Xeb.o
           have o5:g5.st So=some O:=by rw [t5];unfold Gh.with;rw [if_neg (by omega)];exact Xeo.o
           have f5:g5.st Sf=some (qcl okF Fr f):=by rw [t5];unfold Gh.with;rw [if_pos rfl]
           clear n1 n2 n3 n4 n5 n6 t5;refine hd5 ?_ h5 a5 b5 o5 f5;clear h5 a5 b5 o5 f5;intro Xh5 Xa5 Xb5 Xo5 Xf5;go_wp2_with fail;go_roundw
           case rel=>exact⟨k+1,g5,_,_,by omega,by go_num,Xh5.o,Xa5.o,Xb5.o,Xo5.o,Xf5.o,Xhnext.o⟩
           case measure=>simp [intOf];omega
         |false=>
          as_aux_lemma=>
           have hnext:SplitF (qcl okF O f) Fr (qbb okF (fa.take (k+1))):=by rw [Xhsn.o];exact Xhsp.o.old hfo hff
           refine hd5 ?_ hs2 hsv2 hcp hadd hnext;clear hs2 hsv2 hcp hadd hnext;intro Xhs2 Xhsv2 Xhcp Xhadd Xhnext;go_wp2_with fail;refine Xhcp.o.mono ?_;rintro e X3 ⟨v',rfl,o3,k3⟩;obtain⟨a3,c3,rfl⟩:=qi o3;have had:=Xhadd.o So O X3 _ Xeo.o hlO.1 k3 o3;clear o3;refine hd2 ?_ had k3;clear had k3;intro Xhad Xk3;go_wp2_with fail;refine Xhad.o.mono ?_;rintro e X4 ⟨g5,rfl,h5,t5⟩;obtain⟨n1,n2,n3,n4,n5,n6⟩:=Xhdist.o;have a5:g5.st Sa=some (qbb okF fa):=by rw [t5];unfold Gh.with;rw [if_neg (by omega)];exact Xea.o
           have b5:g5.st Sb=some (qbb okF fn):=by rw [t5];unfold Gh.with;rw [if_neg (by omega)];exact Xeb.o
           have o5:g5.st So=some (qcl okF O f):=by rw [t5];unfold Gh.with;rw [if_pos rfl]
           have f5:g5.st Sf=some Fr:=by rw [t5];unfold Gh.with;rw [if_neg (by omega)];exact Xef.o
           clear n1 n2 n3 n4 n5 n6 t5;refine hd5 ?_ h5 a5 b5 o5 f5;clear h5 a5 b5 o5 f5;intro Xh5 Xa5 Xb5 Xo5 Xf5;go_wp2_with fail;go_roundw
           case rel=>exact⟨k+1,g5,_,_,by omega,by go_num,Xh5.o,Xa5.o,Xb5.o,Xo5.o,Xf5.o,Xhnext.o⟩
           case measure=>simp [intOf];omega
        ·as_aux_lemma=>
          have hkc1: ¬(k:Int)<cut.length:=by omega
          have hnext:SplitF (qcl okF O f) Fr (qbb okF (fa.take (k+1))):=by rw [Xhsn.o];exact Xhsp.o.old hfo hff
          refine hd5 ?_ hs2 hsv2 hcp hadd hnext;clear hs2 hsv2 hcp hadd hnext;intro Xhs2 Xhsv2 Xhcp Xhadd Xhnext;go_wp2_with fail;refine Xhcp.o.mono ?_;rintro e X3 ⟨v',rfl,o3,k3⟩;obtain⟨a3,c3,rfl⟩:=qi o3;have had:=Xhadd.o So O X3 _ Xeo.o hlO.1 k3 o3;clear o3;refine hd2 ?_ had k3;clear had k3;intro Xhad Xk3;go_wp2_with fail;refine Xhad.o.mono ?_;rintro e X4 ⟨g5,rfl,h5,t5⟩;obtain⟨n1,n2,n3,n4,n5,n6⟩:=Xhdist.o;have a5:g5.st Sa=some (qbb okF fa):=by rw [t5];unfold Gh.with;rw [if_neg (by omega)];exact Xea.o
          have b5:g5.st Sb=some (qbb okF fn):=by rw [t5];unfold Gh.with;rw [if_neg (by omega)];exact Xeb.o
          have o5:g5.st So=some (qcl okF O f):=by rw [t5];unfold Gh.with;rw [if_pos rfl]
          have f5:g5.st Sf=some Fr:=by rw [t5];unfold Gh.with;rw [if_neg (by omega)];exact Xef.o
          clear n1 n2 n3 n4 n5 n6 t5;refine hd5 ?_ h5 a5 b5 o5 f5;clear h5 a5 b5 o5 f5;intro Xh5 Xa5 Xb5 Xo5 Xf5;go_wp2_with fail;go_roundw
          case rel=>exact⟨k+1,g5,_,_,by omega,by go_num,Xh5.o,Xa5.o,Xb5.o,Xo5.o,Xf5.o,Xhnext.o⟩
          case measure=>simp [intOf];omega
    ·as_aux_lemma=>
      obtain rfl:k=fa.length:=by omega
      rw [take_length]at hsp;clear hlt;obtain⟨A,hA⟩:=ex (qbb okF fa);obtain⟨B,hB⟩:=ex (qbb okF fn);obtain⟨np,hnp⟩:=ex ((qag r.body).length);have hAok: ∀x,x∈A->okF x=true:=by rw [←hA];exact qom fa
      have hBok: ∀x,x∈B->okF x=true:=by rw [←hB];exact qom fn
      have hAF: ∀f,f∈A->f∈F:=fun f hf=>by rw [←XhFe.o];exact mem_append_left _ (qx5 (by rw [hA];exact hf))
      have hAl:A.length<=400:=by have:=qmv fa;rw [hA] at this;omega
      rw [hA]at hsp ea;rw [hB]at eb;clear hA hB;have hOA: ∀f,f∈O->f∈A:=fun f hf=>(hsp.mem f).2 (.inl hf);have hFA: ∀f,f∈Fr->f∈A:=fun f hf=>(hsp.mem f).2 (.inr hf);have hOl:O.length+Fr.length=A.length:=hsp.len;have hss:qeq [Sa,Sb,So,Sf] g':=fun S hS=>by
       simp only [mem_cons,not_mem_nil,or_false]at hS;rcases hS with h |h |h |h
       ·rw [h];exact⟨_,ea,hAok⟩
       ·rw [h];exact⟨_,eb,hBok⟩
       ·rw [h];exact⟨_,eo,fun x hx=>hAok x (hOA x hx)⟩
       ·rw [h];exact⟨_,ef,fun x hx=>hAok x (hFA x hx)⟩
      have hcnt: ∀γ:Gh,γ.st=g'.st->qcg γ (some Sa)=A/\qcg γ (some Sb)=B/\qcg γ (some So)=O/\qcg γ (some Sf)=Fr:=fun γ h=>by
       unfold qcg;simp only [h,ea,eb,eo,ef,Option.getD_some,and_self]
      have hm1: ∀S,some Sa=some S->S∈ [Sa,Sb,So,Sf]:=fun S h=>by cases h;simp
      have hm2: ∀S,some Sb=some S->S∈ [Sa,Sb,So,Sf]:=fun S h=>by cases h;simp
      have hm3: ∀S,some So=some S->S∈ [Sa,Sb,So,Sf]:=fun S h=>by cases h;simp
      have hm4: ∀S,some Sf=some S->S∈ [Sa,Sb,So,Sf]:=fun S h=>by cases h;simp
      have hj:=XhJ4.o.step hs;have fr: ∀b,b<W5.heap.size->g'.free b:=fun b hb=>hs.new b (by omega) (Xfr4.o b hb);have kw:Keep (fun b=>b<N) w wr:=Xkw4.o.trans (hs.keep.mono fun b _ h=>Xfr4.o b (by omega));have nO:O.Nodup:=by have:=qip hs.inv (some So);rw [(hcnt g' rfl).2.2.1] at this;exact this
      have nF:Fr.Nodup:=by have:=qip hs.inv (some Sf);rw [(hcnt g' rfl).2.2.2] at this;exact this
      have nA:A.Nodup:=by have:=qip hs.inv (some Sa);rw [(hcnt g' rfl).1] at this;exact this
      have hlaw:=q3s (r:=r) (N:=B) hsp.mem hsp.dis nO nF nA (rk:=qby r.body) (fun i j hi hj h=>q3u hi hj h) (np:=np) (fun i hi=>by rw [←hnp];exact q5v hi) (fun k hk=>q5w (by rw [hnp];exact hk));have hfewD: ∀k,(qcv (qem r.body O Fr A B (qby r.body) k) r).length<=20000:=fun k=>q2e nO nF nA (fun f hf=>hAF f (hOA f hf)) (fun f hf=>hAF f (hFA f hf)) hAF Xhbv.o _ k;have hnp2:np<=256:=by
       have h1:=qjh Xhro.o.formed;have h2:(qag r.body).length<=r.body.length:=by
        unfold qag;exact Nat.le_trans (length_filter_le _ _) (by rw [length_range];exact Nat.le_refl _)
       omega
      have hpl:(qdr r.body r.body.length).length=np:=by rw [qrr,length_map];exact hnp
      have hea:=qjj J (some Sa) (some Sb) wr;unfold qz at hea;simp only [Option.map_some]at hea;have i0:=hs.inv;have hfewA:=qqu i0 ea (some Sb) Xhro.o hAF Xhbv.o;have hfewP:=qqu i0 eo (some Sb) Xhro.o (fun f hf=>hAF f (hOA f hf)) Xhbv.o;refine qc5 ?_ hs ea eb eo ef hsp hss hcnt hm1 hm2 hm3 hm4 hj fr kw hlaw;clear hs ea eb eo ef hsp hss hcnt hm1 hm2 hm3 hm4 hj fr kw hlaw;intro Xhs Xea Xeb Xeo Xef Xhsp Xhss Xhcnt Xhm1 Xhm2 Xhm3 Xhm4 Xhj Xfr Xkw Xhlaw;refine qxu ?_ hfewD hpl hea i0 hfewA hfewP nO nF nA hAF hOA hFA hAok hBok hnp;clear hfewD hpl hea i0 hfewA hfewP nO nF nA hAF hOA hFA hAok hBok hnp;intro XhfewD Xhpl Xhea Xi0 XhfewA XhfewP XnO XnF XnA XhAF XhOA XhFA XhAok XhBok Xhnp;go_wp2_with fail;refine Xhea.o.mono ?_;rintro e X1 ⟨rfl,b1,b2,b3,z1',k1'⟩;have s1:=GStep.own (n0:=0) Xi0.o k1';have hga:=qjv (n0:=0) (Ss:= [Sa,Sb,So,Sf]) s1.inv Xhss.o (Nat.zero_le _) Xhro.o (Xhj.o.step s1) (s:=some Sa) (sN:=some Sb) Xhm1.o Xhm2.o b1 (by unfold qz;exact b2) (by unfold qz;exact b3) (qb0 Xi0.o (Nat.le_refl _)) (qb0 Xi0.o (by omega)) (qb0 Xi0.o (by omega)) (by have:=XhfewA.o;omega);clear b1 b2 b3;refine hd4 ?_ z1' k1' s1 hga;clear z1' k1' s1 hga;intro Xz1' Xk1' Xs1 Xhga;go_wp2_with fail;refine Xhga.o.mono ?_;rintro e X2 ⟨gA,vA,qA,rfl,sA,tA,mA,rA⟩;have s2:=Xs1.o.trans sA;have tdA:TdAt (fun b=>gA.free b) X2 vA qA:=mA.td.keep (Keep.refl (fun _=>True) _) (fun b _ hp=>⟨trivial,hp.1⟩);have rA2:qA.map (·.1)=qcv (qcc r.body (fun _=>A) B) r:=by
       rw [rA];unfold qij;rw [(Xhcnt.o g' rfl).1,(Xhcnt.o g' rfl).2.1]
      have i2:=s2.inv;have hss2:qeq [Sa,Sb,So,Sf] gA:=fun S hS=>by rw [tA];exact Xhss.o S hS
      have hj2:=Xhj.o.step s2;have hea:=qjj J (some So) (some Sb) X2;unfold qz at hea;simp only [Option.map_some]at hea;have lA:qA.length<=20000:=by
       have h1:=congrArg List.length rA;have h2:=congrArg List.length (qnn Xs1.o.inv (some Sa) (some Sb) Xhro.o);have h3:=XhfewA.o;rw [length_map]at h1;rw [qgp,length_map]at h2;omega
      clear mA rA;refine hd9 ?_ s2 tdA rA2 i2 hss2 hj2 hea tA sA;clear s2 tdA rA2 i2 hss2 hj2 hea tA sA;intro Xs2 XtdA XrA2 Xi2 Xhss2 Xhj2 Xhea XtA XsA;go_wp2_with fail;refine Xhea.o.mono ?_;rintro e X3 ⟨rfl,b1,b2,b3,z3',k3'⟩;have s3:=GStep.own (n0:=0) Xi2.o k3';have hfew3:(qju gA (some So) (some Sb) r (-1)).length<=20000:=qqu s3.inv (by rw [XtA.o];exact Xeo.o) (some Sb) Xhro.o (fun f hf=>XhAF.o f (XhOA.o f hf)) Xhbv.o;have hga:=qjv (n0:=0) (Ss:= [Sa,Sb,So,Sf]) s3.inv Xhss2.o (Nat.zero_le _) Xhro.o (Xhj2.o.step s3) (s:=some So) (sN:=some Sb) Xhm3.o Xhm2.o b1 (by unfold qz;exact b2) (by unfold qz;exact b3) (qb0 Xi2.o (Nat.le_refl _)) (qb0 Xi2.o (by omega)) (qb0 Xi2.o (by omega)) (by omega);clear b1 b2 b3;refine hd4 ?_ z3' k3' s3 hga;clear z3' k3' s3 hga;intro Xz3' Xk3' Xs3 Xhga;go_wp2_with fail;refine Xhga.o.mono ?_;rintro e X4 ⟨gB,vB,qB,rfl,sB,tB,mB,rB⟩;have s34:=Xs3.o.trans sB;have s4:=Xs2.o.trans s34;have tB':gB.st=g'.st:=tB.trans XtA.o;have tdA4:TdAt (fun b=>gB.free b) X4 vA qA:=XtdA.o.keep s34.keep (fun b hb hp=>⟨hp,s34.new b hb hp⟩);have tdB:TdAt (fun b=>gB.free b) X4 vB qB:=mB.td.keep (Keep.refl (fun _=>True) _) (fun b _ hp=>⟨trivial,hp.1⟩);have rB2:qB.map (·.1)=qcv (qcc r.body (fun _=>O) B) r:=by
       rw [rB];unfold qij;rw [(Xhcnt.o gA XtA.o).2.2.1,(Xhcnt.o gA XtA.o).2.1]
      have lB:qB.length<=20000:=by
       have h1:=congrArg List.length rB;have h2:=congrArg List.length (qnn Xs3.o.inv (some So) (some Sb) Xhro.o);rw [length_map]at h1;rw [qgp,length_map]at h2;omega
      have hj4:=Xhj.o.step s4;have i4:=s4.inv;have k4:Keep (fun b=>b<N) w X4:=Xkw.o.trans (s4.keep.mono fun b _ h=>Xfr.o b (by omega));have z4':wr.heap.size<=X4.heap.size:=s4.keep.size;have fr4': ∀b,b<W5.heap.size->gB.free b:=fun b hb=>s4.new b (by omega) (Xfr.o b hb);obtain⟨aA,cA,rfl⟩:=qi tdA4.own;obtain⟨aB,cB,rfl⟩:=qi tdB.own;clear mB rB;refine qhe ?_ s34 s4 tB tB' tdA4 tdB rB2 hj4 i4 k4 sB fr4';clear s34 s4 tB tB' tdA4 tdB rB2 hj4 i4 k4 sB fr4';intro Xs34 Xs4 XtB XtB' XtdA4 XtdB XrB2 Xhj4 Xi4 Xk4 XsB Xfr4';go_wp2_with fail
      go_loopw [16,17] (fun vt ix X=> ∃(k:Nat) (γ:Gh) (qs:List MQ),k<=np/\ix=.int .i64 (k:Int)/\GStep 0 gB X4 γ X/\γ.st=g'.st/\TdAt (fun b=>γ.free b/\X4.heap.size<=b) X vt qs/\qs.map (·.1)=qgi r O Fr A B (qby r.body) k/\qs.length<=k*20000) (fun _ i _=>np-(intOf i).toNat)
      case atStart=>exact⟨0,gB,[],by omega,rfl,GStep.refl Xi4.o,XtB'.o,q7g _,rfl,by simp⟩
      case round=>
       obtain⟨k,γ,qs,hk,rfl,hs2,ht2,htd,hql,hqn⟩:=hrel;have hzr2:=hs2.keep.size;have hjk:=Xhj4.o.step hs2;obtain⟨ja,jb,jc,jd,je,jf,hjA⟩:=id hjk;have hpos:=qny hjA;rw [Xhpl.o]at hpos;clear hjA;have hk0:(0:Int)<=k:=by omega
       have i5:=hs2.inv;by_cases hlt:k<np
       ·as_aux_lemma=>
         have hlt1:(k:Int)<np:=by omega
         have hde:=qsk J (k:Int) (some So) (some Sf) (some Sa) (some Sb) wr;unfold qz at hde;simp only [Option.map_some]at hde;obtain⟨at',ct,rfl⟩:=qi htd.own;refine hd8 ?_ hs2 ht2 htd hql hjk hpos i5 hde;clear hs2 ht2 htd hql hjk hpos i5 hde;intro Xhs2 Xht2 Xhtd Xhql Xhjk Xhpos Xi5 Xhde;go_wp2_with fail;refine Xhpos.o.mono ?_;rintro e w9 ⟨rfl,hw9⟩;have hw9:=hw9.symm;subst hw9;go_wp2_with fail;refine Xhde.o.mono ?_;rintro e Y1 ⟨rfl,b1,b2,b3,b4,b5,b6,zY,kY⟩;have sY:=GStep.own (n0:=0) Xi5.o kY;have hssY:qeq [Sa,Sb,So,Sf] γ:=fun S hS=>by rw [Xht2.o];exact Xhss.o S hS
         have hcY:=Xhcnt.o γ Xht2.o;have hga:=qqw (n0:=0) (Ss:= [Sa,Sb,So,Sf]) sY.inv hssY (Nat.zero_le _) Xhro.o (Xhjk.o.step sY) (k:=k) (by rw [Xhnp.o];exact hlt) (so:=some So) (sd:=some Sf) (sa:=some Sa) (sN:=some Sb) Xhm3.o Xhm4.o Xhm1.o Xhm2.o b1 b2 (by unfold qz;exact b3) (by unfold qz;exact b4) (by unfold qz;exact b5) (by unfold qz;exact b6)
          (qb0 Xi5.o (Nat.le_refl _)) (qb0 Xi5.o (by omega)) (qb0 Xi5.o (by omega)) (qb0 Xi5.o (by omega)) (qb0 Xi5.o (by omega)) (qb0 Xi5.o (by omega)) (l:=F) (fun s f hs hf=>by
           rcases hs with rfl |rfl |rfl
           ·rw [hcY.2.2.1]at hf;exact XhAF.o f (XhOA.o f hf)
           ·rw [hcY.2.2.2]at hf;exact XhAF.o f (XhFA.o f hf)
           ·rw [hcY.1]at hf;exact XhAF.o f hf) Xhbv.o
         rw [hcY.1,hcY.2.1,hcY.2.2.1,hcY.2.2.2]at hga;clear b1 b2 b3 b4 b5 b6 hssY hcY;refine hd4 ?_ zY kY sY hga;clear zY kY sY hga;intro XzY XkY XsY Xhga;go_wp2_with fail;refine Xhga.o.mono ?_;rintro e Y2 ⟨γ2,v2,q2,rfl,s2,t2,m2,r2⟩;have l2:q2.length<=20000:=by
          have h1:=congrArg List.length r2;rw [length_map]at h1;have:=XhfewD.o k;omega
         have sY2:=XsY.o.trans s2;have hsT:=Xhs2.o.trans sY2;have htd2:TdAt (fun b=>γ2.free b/\X4.heap.size<=b) Y2 (.slice at' qs.length ct) qs:=Xhtd.o.keep sY2.keep (fun b hb hp=>⟨hp.1,sY2.new b hb hp.1,hp.2⟩);have hm2':TdAt (fun b=>γ2.free b/\X4.heap.size<=b) Y2 v2 q2:=m2.td.keep (Keep.refl (fun _=>True) _) (fun b _ hp=>⟨trivial,hp.1,by have:=XkY.o.size;omega⟩);have hzT:=hsT.keep.size;have hkn:qs.length<=5120000:=by
          have:k*20000<=256*20000:=Nat.mul_le_mul_right _ (by omega);omega
         obtain⟨v3,Y3,hr3,td3,hk3⟩:=htd2.app hm2' (by omega) (fun b hb=>⟨qb0 s2.inv hb,by omega⟩);obtain⟨a2,c2,rfl⟩:=qi hm2'.own;have i3:GInv γ2 Y3:=s2.inv.keep (hk3.mono fun b hb h e=>h (htd2.blk b e).1);have hs3:=hsT.stay hk3 (fun b hb e=>by have:=(htd2.blk b e).2;omega) i3;have ht3:γ2.st=g'.st:=t2.trans Xht2.o;have hq3:(qs++q2).map (·.1)=qgi r O Fr A B (qby r.body) (k+1):=by rw [map_append,Xhql.o,r2,q2f]
         have hl3:(qs++q2).length<=(k+1)*20000:=by rw [length_append];omega
         obtain⟨a3,c3,rfl⟩:=qi td3.own;have td4:TdAt (fun b=>γ2.free b/\X4.heap.size<=b) Y3 (.slice a3 (qs.length+q2.length) c3) (qs++q2):=by rw [←length_append];exact td3
         clear m2 r2 hm2' htd2 hsT sY2 s2 t2 hk3 i3;clear td3;refine hd5 ?_ hr3 td4 hs3 ht3 hq3;clear hr3 td4 hs3 ht3 hq3;intro Xhr3 Xtd4 Xhs3 Xht3 Xhq3;go_wp2_with (at_builtin;refine qcq rfl _ _ _ rfl rfl rfl Xhr3.o ?_);go_roundw
         case rel=>exact⟨k+1,γ2,qs++q2,by omega,by go_num,Xhs3.o,Xht3.o,Xtd4.o,Xhq3.o,hl3⟩
         case measure=>simp [intOf];omega
       ·as_aux_lemma=>
         obtain rfl:k=np:=by omega
         have hlt1: ¬(k:Int)<k:=by omega
         have hkn:qs.length<=5120000:=by
          have:k*20000<=256*20000:=Nat.mul_le_mul_right _ (by omega);omega
         obtain⟨hin,hok⟩:=htd.mq (by omega) (fun q hq=>qy9 Xhro.o q.1 (by rw [←hql];exact mem_map.2 ⟨q,hq,rfl⟩));have hso:=qqa hin hok (Nat.le_refl _) (Nat.le_refl _) (by omega);have k5:Keep (fun b=>b<N) w wr:=Xk4.o.trans (hs2.keep.mono fun b _ h=>Xfr4'.o b (by omega));have tdA5:TdAt (fun b=>γ.free b) wr (.slice aA qA.length cA) qA:=XtdA4.o.keep hs2.keep (fun b hb hp=>⟨hp,hs2.new b hb hp⟩);have tdB5:TdAt (fun b=>γ.free b) wr (.slice aB qB.length cB) qB:=XtdB.o.keep hs2.keep (fun b hb hp=>⟨hp,hs2.new b hb hp⟩);obtain⟨at',ct,rfl⟩:=qi htd.own;have e5o:γ.st So=some O:=by rw [ht2];exact Xeo.o
         have e5f:γ.st Sf=some Fr:=by rw [ht2];exact Xef.o
         have e5a:γ.st Sa=some A:=by rw [ht2];exact Xea.o
         clear hlt hqn htd hin;refine qoi ?_ hs2 ht2 hql hjk hpos i5 hok hso k5 tdA5 tdB5 e5o e5f e5a;clear hs2 ht2 hql hjk hpos i5 hok hso k5 tdA5 tdB5 e5o e5f e5a;intro Xhs2 Xht2 Xhql Xhjk Xhpos Xi5 Xhok Xhso Xk5 XtdA5 XtdB5 Xe5o Xe5f Xe5a;go_wp2_with fail;refine Xhpos.o.mono ?_;rintro e w9 ⟨rfl,hw9⟩;have hw9:=hw9.symm;subst hw9;go_wp2_with fail;refine Xhso.o.mono ?_;rintro e Y1 ⟨v',rfl,hK,os,ho,hsd,hp⟩;have zK:=hK.size;have tdA6:TdAt (fun b=>γ.free b) Y1 (.slice aA qA.length cA) qA:=XtdA5.o.keep hK (fun b hb hp=>⟨hb,hp⟩);have tdB6:TdAt (fun b=>γ.free b) Y1 (.slice aB qB.length cB) qB:=XtdB5.o.keep hK (fun b hb hp=>⟨hb,hp⟩);have hol:os.length=qs.length:=hp.length_eq;obtain⟨at6,ct6,rfl⟩:=qi ho;have hmT:=ql4 (qp9 ho rfl (by omega)) zK (fun q hq=>(Xhok.o q (hp.mem_iff.1 hq)).keep hK);rw [hsd,Xhql.o]at hmT;obtain⟨hinA,hokA⟩:=tdA6.mq (by omega) (fun q hq=>qmy Xhro.o q.1 (by rw [←XrA2.o];exact mem_map.2 ⟨q,hq,rfl⟩));obtain⟨hinB,hokB⟩:=tdB6.mq (by omega) (fun q hq=>qmy Xhro.o q.1 (by rw [←XrB2.o];exact mem_map.2 ⟨q,hq,rfl⟩));have hmA:=ql4 hinA (Nat.le_refl _) hokA;have hmB:=ql4 hinB (Nat.le_refl _) hokB;obtain⟨law1,law2,law3,law4,law5⟩:=Xhlaw.o;rw [←XrA2.o]at law1 law2 law3 law4;rw [←XrB2.o]at law2 law3;obtain⟨T,hT⟩:=ex (qd5 (qgi r O Fr A B (qby r.body) k));obtain⟨MA,hMA⟩:=ex (qA.map (·.1));obtain⟨MB,hMB⟩:=ex (qB.map (·.1));have hTl:os.length=T.length:=by rw [←hT,←Xhql.o,←hsd,length_map]
         have hAl2:qA.length=MA.length:=by rw [←hMA,length_map]
         have hBl2:qB.length=MB.length:=by rw [←hMB,length_map]
         rw [hT]at hmT law1 law3 law5;rw [hMA]at hmA law1 law2 law3 law4;rw [hMB]at hmB law2 law3;rw [hTl]at hmT⊢;rw [hAl2]at hmA⊢;rw [hBl2]at hmB⊢;have i6:=Xi5.o.keep (hK.mono fun b hb _=>hb);have hn1:=qkb (i6.store So O Xe5o.o);have k6:Keep (fun b=>b<N) w Y1:=Xk5.o.trans (hK.mono fun b _ h=>by omega);clear hT hMA hMB hTl ho hsd hp hinA hokA hinB hokB tdA6 tdB6;refine qhe ?_ hK hmT hmA hmB law1 law2 law3 law4 law5 i6 hn1 k6;clear hK hmT hmA hmB law1 law2 law3 law4 law5 i6 hn1 k6;intro XhK XhmT XhmA XhmB Xlaw1 Xlaw2 Xlaw3 Xlaw4 Xlaw5 Xi6 Xhn1 Xk6;go_wp2_with fail;refine Xhn1.o.mono ?_;rintro e Y2 ⟨rfl,kY2⟩;have hn2:=qkb ((Xi6.o.keep (kY2.mono fun _ _ _=>trivial)).store Sf Fr Xe5f.o);refine hd2 ?_ kY2 hn2;clear kY2 hn2;intro XkY2 Xhn2;go_wp2_with fail;refine Xhn2.o.mono ?_;rintro e Y3 ⟨rfl,kY3⟩;have kT3:=XkY2.o.trans kY3;have hn3:=qkb ((Xi6.o.keep (kT3.mono fun _ _ _=>trivial)).store Sa A Xe5a.o);refine hd3 ?_ kY3 kT3 hn3;clear kY3 kT3 hn3;intro XkY3 XkT3 Xhn3;go_wp2_with fail;refine Xhn3.o.mono ?_;rintro e Y4 ⟨rfl,kY4⟩;have kT4:=XkT3.o.trans kY4;have hw1:=qu2 (XhmA.o.keep (kT4.mono fun _ _ _=>trivial)) kT4.size (qu1 Xlaw4.o);have hOl1:(O.length:Int)+(Fr.length:Int)=(A.length:Int):=by omega
         refine hd3 ?_ kY4 kT4 hw1;clear kY4 kT4 hw1;intro XkY4 XkT4 Xhw1;go_wp2_with fail;refine Xhw1.o.mono ?_;rintro e Y5 ⟨rfl,kY5⟩;have kT5:=XkT4.o.trans kY5;have hw2:=qu2 (XhmT.o.keep (kT5.mono fun _ _ _=>trivial)) kT5.size (qu1 Xlaw5.o);refine hd3 ?_ kY5 kT5 hw2;clear kY5 kT5 hw2;intro XkY5 XkT5 Xhw2;go_wp2_with fail;refine Xhw2.o.mono ?_;rintro e Y6 ⟨rfl,kY6⟩;have kT6:=XkT5.o.trans kY6;have hw3:=qja (XhmT.o.keep (kT6.mono fun _ _ _=>trivial)) (XhmA.o.keep (kT6.mono fun _ _ _=>trivial)) kT6.size;rw [qqe Xlaw1.o]at hw3;refine hd3 ?_ kY6 kT6 hw3;clear kY6 kT6 hw3;intro XkY6 XkT6 Xhw3;go_wp2_with fail;refine Xhw3.o.mono ?_;rintro e Y7 ⟨rfl,m7,hY7⟩;have kT7:Keep (fun _=>True) Y1 Y7:=by rw [hY7];exact XkT6.o.trans (Keep.drewN' _ _ _)
         have hw4:=qja (XhmB.o.keep (kT7.mono fun _ _ _=>trivial)) (XhmA.o.keep (kT7.mono fun _ _ _=>trivial)) kT7.size;rw [qqe Xlaw2.o]at hw4;refine hd3 ?_ hY7 kT7 hw4;clear hY7 kT7 hw4;intro XhY7 XkT7 Xhw4;go_wp2_with fail;refine Xhw4.o.mono ?_;rintro e Y8 ⟨rfl,m8,hY8⟩;have kT8:Keep (fun _=>True) Y1 Y8:=by rw [hY8];exact XkT7.o.trans (Keep.drewN' _ _ _)
         have hA8:=XhmA.o.keep (kT8.mono fun _ _ _=>trivial);have hB8:=XhmB.o.keep (kT8.mono fun _ _ _=>trivial);have hT8:=XhmT.o.keep (kT8.mono fun _ _ _=>trivial);have zT8:=kT8.size;have hMl:MA.length<=20000:=by omega
         obtain⟨aA',cA',eA',-,hcA,heA⟩:=id hA8;injection eA' with e1 e2 e3
         subst e1;subst e3;refine hd6 ?_ hY8 kT8 hA8 hB8 hT8 heA;clear hY8 kT8 hA8 hB8 hT8 heA;intro XhY8 XkT8 XhA8 XhB8 XhT8 XheA;go_wp2_with fail
         go_loopw [18] (fun ix X=> ∃i:Nat,i<=MA.length/\ix=.int .i64 (i:Int)/\ ∃m,X=Y8.drewN m) (fun ix _=>MA.length-(intOf ix).toNat)
         case atStart=>exact⟨0,by omega,rfl,0,rfl⟩
         case round=>
          obtain⟨i,hi,rfl,hM⟩:=hrel;have hKr:Keep (fun _=>True) Y8 wr:=by obtain⟨m,rfl⟩:=hM;exact Keep.drewN' _ _ _
          have hi0:(0:Int)<=i:=by omega
          by_cases hlt2:i<MA.length
          ·as_aux_lemma=>
            have hlt3:(i:Int)<MA.length:=by omega
            obtain⟨m,hmi⟩: ∃m,MA[i]?=some m:=⟨_,getElem?_eq_getElem hlt2⟩;obtain⟨b,o,hbo,hb,hme⟩:=XheA.o i m hmi;subst hbo;have hmem:=mem_of_getElem? hmi;have hl3:=Xlaw3.o m hmem;have kj: ∀j,Keep (fun _=>True) Y8 (wr.drewN j):=fun j=>hKr.trans (Keep.drewN' _ _ _);have hs1: ∀j,MatchesIn Y1.heap.size (wr.drewN j) (.slice (some ⟨b,o+i*2,none⟩) 1 (cA-i)) [m]:=fun j=>q6i (XhA8.o.keep ((kj j).mono fun _ _ _=>trivial)) hmi;have hc1: ∀j,Calls prog 35 #[.slice (some ⟨b,o+i*2,none⟩) 1 (cA-i),.slice aB MB.length cB] (wr.drewN j) fun e w'=>e=.returned (.bool (decide (m∈MB)))/\ ∃m',w'=(wr.drewN j).drewN m':=fun j=>by
             have:=qja (hs1 j) (XhB8.o.keep ((kj j).mono fun _ _ _=>trivial)) (Nat.le_trans zT8 (kj j).size);rw [qqf]at this;exact this
            have hc2: ∀j,Calls prog 35 #[.slice (some ⟨b,o+i*2,none⟩) 1 (cA-i),.slice at6 T.length ct6] (wr.drewN j) fun e w'=>e=.returned (.bool (decide (m∈T)))/\ ∃m',w'=(wr.drewN j).drewN m':=fun j=>by
             have:=qja (hs1 j) (XhT8.o.keep ((kj j).mono fun _ _ _=>trivial)) (Nat.le_trans zT8 (kj j).size);rw [qqf]at this;exact this
            have hcap:(i:Int)+1<=cA:=by omega
            have hlen1:(i:Int)+1<=MA.length:=by omega
            have hbw:b<wr.heap.size:=by have:=hKr.size;omega
            by_cases hmB2:m∈MB
            ·as_aux_lemma=>
              have hmT2:m∉T:=hl3.1 hmB2;simp only [decide_eq_true hmB2,decide_eq_false hmT2]at hc1 hc2;clear hmB2 hmT2 hl3 hmem hmi hme hs1 kj;refine hd4 ?_ hM hKr hc1 hc2;clear hM hKr hc1 hc2;intro XhM XhKr Xhc1 Xhc2;go_wp2_with fail
              go_quiet ((go_at_call 35;first |with_reducible exact Calls.quiet_of (Xhc1.o _) |with_reducible exact Calls.quiet_of (Xhc2.o _)))
              go_wp2_with fail;go_roundw
              case rel=>exact⟨i+1,by omega,by go_num,(by obtain⟨m,h⟩:=XhM.o;rw [h,World.drewN_drewN];exact⟨_,rfl⟩)⟩
              case measure=>simp [intOf];omega
            ·as_aux_lemma=>
              have hmT2:m∈T:=Classical.byContradiction fun h=>hmB2 (hl3.2 h);simp only [decide_eq_false hmB2,decide_eq_true hmT2]at hc1 hc2;clear hmB2 hmT2 hl3 hmem hmi hme hs1 kj;refine hd4 ?_ hM hKr hc1 hc2;clear hM hKr hc1 hc2;intro XhM XhKr Xhc1 Xhc2;go_wp2_with fail
              go_quiet ((go_at_call 35;first |with_reducible exact Calls.quiet_of (Xhc1.o _) |with_reducible exact Calls.quiet_of (Xhc2.o _)))
              go_wp2_with fail;go_roundw
              case rel=>exact⟨i+1,by omega,by go_num,(by obtain⟨m,h⟩:=XhM.o;rw [h,World.drewN_drewN];exact⟨_,rfl⟩)⟩
              case measure=>simp [intOf];omega
          ·as_aux_lemma=>
            have hlt3: ¬(i:Int)<MA.length:=by omega
            refine hd2 ?_ hM hKr;clear hM hKr;intro XhM XhKr;go_wp2_with fail;refine(qmx wr).mono ?_;rintro e Y9 ⟨rfl,k9⟩;refine hd1 ?_ k9;clear k9;intro Xk9;go_wp2_with fail;go_ret;rw [XhN.o];exact⟨rfl,Xk6.o.trans (((XkT8.o.trans XhKr.o).mono fun _ _ _=>trivial).trans (Xk9.o.mono fun b _ h=>by have:=XhKr.o.size;omega))⟩
end Go.Proofs
