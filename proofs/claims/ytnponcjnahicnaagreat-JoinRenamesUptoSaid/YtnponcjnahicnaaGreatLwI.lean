/- Parts of the proof. -/
import Derived.Test.YtnponcjnahicnaaGreatProg
import Derived.Test.YtnponcjnahicnaaGreatLwGToLwH
import Derived.Sort.CutIn
import Derived.Test.YtnponcjnahicnaaGreatHdToKp
import Derived.Test.YtnponcjnahicnaaGreatHoistToRowC
set_option linter.unusedSimpArgs false
set_option linter.unusedVariables false
open Go.Proofs.Tryz(prog)
open List(append_assoc append_nil drop_eq_getElem_cons drop_eq_nil_of_le getElem?_append_right getElem?_eq_getElem getElem?_map getElem?_reverse length_append length_map length_reverse length_set map_append mem_append mem_append_left mem_append_right mem_cons mem_map mem_of_getElem? mem_singleton take_add_one take_of_length_le)
namespace Go.Proofs
open Go.RowKit Go.Ink Go.Flt R4 P16
attribute [local go_sem] Oper.semAt_some
structure q5d (r:RuleD)(fs fn:List qm):Prop where
 stands:r.stands.length<=1073741824
 terms:(qc3 r).length<=1073741824
 tup: ∀f,f∈fs++fn->f.tuple.length<=1073741424
 pred: ∀f,f∈fs++fn->f.pred.size<=1073741824
 tot:(fs++fn).length<=1073741824
set_option maxRecDepth 100000 in
set_option maxHeartbeats 2000000 in
theorem qv9 {n:Nat}{r:RuleD}{sh sb vs vn:Value}{fs fn:List qm}{w:World}(hr:RuleIn n w sh sb r)(hf:FactsIn n w vs fs)(hf2:FactsIn n w vn fn)(hn:n<=w.heap.size)(hsm:q5d r fs fn):
  Calls prog 4 #[qav r sh sb,vs,vn] w fun e w'=>e=.returned (.bool true)/\Keep (fun b=>b<w.heap.size) w w':=by
 obtain⟨N,hN⟩:=ex (w.heap.size);obtain⟨F,hFe⟩:=ex (fs++fn);obtain⟨W0,hW0⟩:=ex (w.alloc (.cells #[.string r.head.pred,sh,sb] 27));have k0:Keep (fun _=>True) w W0:=by rw [←hW0];exact kAl
 have p0:W0.heap[N]?=some (.cells #[.string r.head.pred,sh,sb] 27 (0,0)):=by rw [←hW0,←hN];exact qh _ _
 have z0:W0.heap.size=N+1:=by rw [←hW0,←hN];simp
 obtain⟨Wd,hWd⟩:=ex (W0.drew);have kd:Keep (fun _=>True) W0 Wd:=by rw [←hWd];exact kDr
 have zd:Wd.heap.size=N+1:=by rw [←hWd,←z0];rfl
 obtain⟨Wb,hWb⟩:=ex (Wd.alloc (.cells #[vs,vn] 28));have kb:Keep (fun _=>True) Wd Wb:=by rw [←hWb];exact kAl
 have zb:Wb.heap.size=N+2:=by rw [←hWb];simp [zd]
 have pb:Wb.heap[N+1]?=some (.cells #[vs,vn] 28 (0,0)):=by rw [←hWb,←zd];exact qh _ _
 have hS: ∀X,Keep (fun b=>b<N+1) W0 X->X.cell? ⟨N,0,none⟩=some (.string r.head.pred)/\X.cell? ⟨N,1,none⟩=some sh/\X.cell? ⟨N,2,none⟩=some sb:=fun X hX=>by
  have q:=hX.heap p0 (by omega);have q0:=qb q 0 _ rfl;have q1:=qb q 1 _ rfl;have q2:=qb q 2 _ rfl;simp only [Nat.zero_add]at q0 q1 q2;exact⟨q0,q1,q2⟩
 have kwb:Keep (fun _=>True) w Wb:=(k0.trans kd).trans kb;have hls:SliceIn (N+2) Wb 1 (qyn n) (.slice (some ⟨N+1,0,none⟩) 2 2) [fs,fn]:=by
  refine⟨_,2,rfl,by simp,⟨by simp,by decide⟩,fun k l hk=>⟨N+1,0,rfl,by omega,?_⟩⟩
  match k,hk with
  |0,hk=>cases hk;exact⟨vs,by have:=qb pb 0 _ rfl;simpa using this,hf.keep (kwb.mono fun _ _ _=>trivial)⟩
  |1,hk=>cases hk;exact⟨vn,by have:=qb pb 1 _ rfl;simpa using this,hf2.keep (kwb.mono fun _ _ _=>trivial)⟩
 have hfa:=q2e hls (by omega) (by omega) (by simpa using hsm.tot);rw [show([fs,fn].flatten:List qm)=F by rw [←hFe];simp]at hfa;have hS0:=hS Wd (kd.mono fun _ _ _=>trivial);have hS1:=hS Wb ((kd.trans kb).mono fun _ _ _=>trivial);have hNd:N<Wd.heap.size:=by omega
 obtain⟨ash,csh,rfl,-,-,-⟩:=id hr.1;obtain⟨asb,csb,rfl,-,-,-⟩:=id hr.2;obtain⟨af,cf,rfl,-,-,-⟩:=id hf;obtain⟨an,cn,rfl,-,-,-⟩:=id hf2;unfold qav;refine qc9 ?_ hFe hr hf hf2 hsm hN hW0 k0 p0 z0 hWd kd zd hWb kb zb;clear hFe hr hf hf2 hsm hN hW0 k0 p0 z0 hWd kd zd hWb kb zb;intro XhFe Xhr Xhf Xhf2 Xhsm XhN XhW0 Xk0 Xp0 Xz0 XhWd Xkd Xzd XhWb Xkb Xzb;refine hd7 ?_ pb hS kwb hls hfa hS0 hS1;clear pb hS kwb hls hfa hS0 hS1;intro Xpb XhS Xkwb Xhls Xhfa XhS0 XhS1;refine qbj Tryz.func4 rfl ?_;simp only [Tryz.ntmps4,qdo,Nat.reduceAdd,Nat.reduceSub];gi_wp2;rw [XhW0.o,XhN.o];refine qaa ?_;refine qy rfl (fun X=>X.cell? ⟨N,0,none⟩=some (.string r.head.pred)/\X.cell? ⟨N,1,none⟩=some (.slice ash r.head.args.length csh)/\X.cell? ⟨N,2,none⟩=some (.slice asb r.body.length csb)) [] ?_;rw [XhWd.o];refine qag [0,1,2] ?_
 iterate 3
  refine tkR (v:=?_) rfl XhS0.o ?_ ?_;rotate_left
  ·rintro Wq ⟨x1,x2,x3⟩;go_simp
   try with_reducible rfl
  try simp only [qah]
 refine qw ?_;refine hoR 3 rfl fun K XhK0=>?_;gi_wp2;rw [XhWb.o,Xzd.o];refine XhK0.o _ _ (fun _=>XhS1.o) ?_;refine hoR 4 rfl fun K XhK1=>?_;gi_wp2;refine⟨trivial,rfl,(callsIn_wide.2 Xhfa.o).mono ?_⟩;rintro e W2 ⟨v2,rfl,k2,hF2⟩;have k02:Keep (fun b=>b<N+1) W0 W2:=((Xkd.o.trans Xkb.o).mono fun _ _ _=>trivial).trans (k2.mono fun b _ h=>by have:=Xzb.o;omega);have z2:=k2.size;have kw2:Keep (fun b=>b<N) w W2:=(Xk0.o.mono fun _ _ _=>trivial).trans (k02.mono fun b _ h=>by omega);have hS2:=XhS.o W2 k02;have hN2:n<=W2.heap.size:=by have:=Xzb.o;have:=XhN.o;omega
 have hva:=q4s (n:=W2.heap.size) ((Xhr.o.keep (kw2.mono fun b _ h=>by have:=XhN.o;omega)).wider hN2) hF2 (Nat.le_refl _) Xhsm.o.stands (by rw [←XhFe.o];exact Xhsm.o.tup);obtain⟨a2,c2,rfl,-,-,-⟩:=id hF2;unfold qav at hva;obtain⟨bv,hbv⟩:=ex (qh7 r F);rw [hbv]at hva;clear hF2;refine hd6 ?_ k2 k02 kw2 hS2 hva hbv;clear k2 k02 kw2 hS2 hva hbv;intro Xk2 Xk02 Xkw2 XhS2 Xhva Xhbv;gi_wp2;refine XhK1.o _ _ (fun _=>XhS2.o) ?_;refine hoR 5 rfl fun K XhK2=>?_;gi_wp2;refine⟨trivial,rfl,(callsIn_wide.2 Xhva.o).mono ?_⟩;rintro e W3 ⟨rfl,k3⟩;have k03:Keep (fun b=>b<N+1) W0 W3:=Xk02.o.trans (k3.mono fun b _ h=>by have:=Xzb.o;omega);have hS3:=XhS.o W3 k03;have kw3:Keep (fun b=>b<N) w W3:=(Xk0.o.mono fun _ _ _=>trivial).trans (k03.mono fun b _ h=>by omega);have hN3:N<W3.heap.size:=by have:=k3.size;have:=Xzb.o;omega
 refine hd4 ?_ k3 k03 hS3 kw3;clear k3 k03 hS3 kw3;intro Xk3 Xk03 XhS3 Xkw3;gi_wp2;refine XhK2.o _ _ (fun _=>XhS3.o) ?_;refine qj (by kernel_rfl) (ql ?_);clear XhK0 XhK1 XhK2;cases bv with
 |true=>
  gi_wp2;refine⟨trivial,rfl,(callsIn_wide.2 (qkr W3)).mono ?_⟩;rintro e W9 ⟨rfl,k9⟩;refine hd1 ?_ k9;clear k9;intro Xk9;gi_wp2;refine bodyPost_ret (v:=.bool true) (by simp [results,Tryz.results4,go_sem]) rfl ⟨rfl,?_⟩;rw [XhN.o];exact Xkw3.o.trans (Xk9.o.mono fun b _ h=>by omega)
 |false=>
  obtain⟨s3a,s3b,s3c⟩:=XhS3.o;have hr3:=Xhr.o.keep (Xkw3.o.mono fun b _ h=>by have:=XhN.o;omega);have hcp:=qk7 hr3 (by have:=XhN.o;omega);unfold qav at hcp;refine hd2 ?_ hr3 hcp;clear hr3 hcp;intro Xhr3 Xhcp;gi_wp2;refine⟨trivial,rfl,(callsIn_wide.2 Xhcp.o).mono ?_⟩;rintro e W4 ⟨vh4,vb4,rfl,hR4,k4⟩;have hri4:=hR4.rule (qma Xhr3.o);obtain⟨ah4,ch4,rfl⟩:=qi hR4.1;obtain⟨ps4,hps4,ho4,-⟩:=id hR4.2;obtain⟨ab4,cb4,rfl⟩:=qi ho4;have hcm:=qij hri4 (Nat.le_refl _);unfold qav at hcm;clear hR4 ho4 hps4;refine hd3 ?_ hri4 k4 hcm;clear hri4 k4 hcm;intro Xhri4 Xk4 Xhcm;gi_wp2;refine⟨trivial,rfl,(callsIn_wide.2 Xhcm.o).mono ?_⟩;rintro e W5 ⟨k5,⟨h0,rfl⟩ |⟨hro,J,vha,vbb,vv,va,vt,vhh,rfl,hj⟩⟩
  ·have h0':((qdj r:Int) !=0)=true:=by simp [h0]
   have hz5:=k5.size;have hz4:=Xk4.o.size;refine hd1 ?_ k5;clear k5;intro Xk5;gi_wp2;refine⟨trivial,rfl,(callsIn_wide.2 (qle _ _)).mono ?_⟩;rintro e w9 ⟨rfl,hw9⟩;have hw9:=hw9.symm;subst hw9;gi_wp2;refine⟨trivial,rfl,(callsIn_wide.2 (qkr W5)).mono ?_⟩;rintro e W9 ⟨rfl,k9⟩;refine hd1 ?_ k9;clear k9;intro Xk9;gi_wp2;refine bodyPost_ret (v:=.bool true) (by simp [results,Tryz.results4,go_sem]) rfl ⟨rfl,?_⟩;rw [XhN.o];exact Xkw3.o.trans ((Xk4.o.mono fun b _ h=>by omega).trans ((Xk5.o.mono fun b _ h=>by omega).trans (Xk9.o.mono fun b _ h=>by omega)))
  ·have hJ5:=qlz (qlf W4) hj;have z4:=Xk4.o.size;have z5:=k5.size;have k05:Keep (fun b=>b<N+1) W0 W5:=Xk03.o.trans ((Xk4.o.mono fun b _ h=>by omega).trans (k5.mono fun b _ h=>by omega));have kw5:Keep (fun b=>b<N) w W5:=(Xk0.o.mono fun _ _ _=>trivial).trans (k05.mono fun b _ h=>by omega);obtain⟨s5a,s5b,s5c⟩:=XhS.o W5 k05;have hN5:N<W5.heap.size:=by omega
   have hr5:=Xhr.o.keep (kw5.mono fun b _ h=>by have:=XhN.o;omega);have hcp5:=qk7 hr5 (by have:=XhN.o;omega);obtain⟨hlh,hlb,hla⟩:=qma hr5;unfold qav at hcp5;clear hj s3a s3b s3c;refine hd8 ?_ k5 hro hJ5 k05 kw5 hr5 hcp5 hla;clear k5 hro hJ5 k05 kw5 hr5 hcp5 hla;intro Xk5 Xhro XhJ5 Xk05 Xkw5 Xhr5 Xhcp5 Xhla;gi_wp2;refine⟨trivial,rfl,(callsIn_wide.2 (qle _ _)).mono ?_⟩;rintro e w9 ⟨rfl,hw9⟩;have hw9:=hw9.symm;subst hw9;gi_wp2;refine⟨trivial,rfl,(callsIn_wide.2 Xhcp5.o).mono ?_⟩;rintro e W6 ⟨vh6,vb6,rfl,hR6,k6⟩;obtain⟨ho6,ps6,hps6,hq6,-⟩:=id hR6;obtain⟨ah6,ch6,rfl⟩:=qi ho6;obtain⟨ab6,cb6,rfl⟩:=qi hq6;obtain⟨Q,hQ⟩:=ex (W6.heap.size);obtain⟨W7,hW7⟩:=ex (W6.alloc (.cells #[.string r.head.pred,.slice ah6 r.head.args.length ch6,.slice ab6 r.body.length cb6] 27));have k7:Keep (fun _=>True) W6 W7:=by rw [←hW7];exact kAl
   have p7:W7.heap[Q]?=some (.cells #[.string r.head.pred,.slice ah6 r.head.args.length ch6,.slice ab6 r.body.length cb6] 27 (0,0)):=by rw [←hW7,←hQ];exact qh _ _
   have z7:W7.heap.size=Q+1:=by rw [←hW7,←hQ];simp
   have o7:=qg ho6 k7 (fun _ _=>trivial);have q7:=qg hq6 k7 (fun _ _=>trivial);have hQ5:W5.heap.size<=Q:=by have:=k6.size;omega
   rw [←qjp r.head.args]at o7;rw [qjp]at o7;clear hR6 ho6 hq6;refine hd9 ?_ k6 hps6 hQ hW7 k7 p7 z7 o7 q7;clear k6 hps6 hQ hW7 k7 p7 z7 o7 q7;intro Xk6 Xhps6 XhQ XhW7 Xk7 Xp7 Xz7 Xo7 Xq7;gi_wp2;rw [XhW7.o,XhQ.o];gi_loopw [10] (fun ix X=> ∃k:Nat,k<=r.head.args.length/\ix=.int .i64 (k:Int)/\Keep (fun b=>b<W5.heap.size) W7 X/\X.heap[Q]?=some (.cells #[.string r.head.pred,.slice ah6 r.head.args.length ch6,.slice ab6 r.body.length cb6] 27 (0,0))/\
    X.ownsRow W5.heap.size 60 2 (.slice ah6 r.head.args.length ch6) r.head.args.length (qo (qg2 r.head.args k))/\X.ownsRow W5.heap.size 64 7 (.slice ab6 r.body.length cb6) r.body.length (ps6.flatMap qbn)) (fun i _=>r.head.args.length-(intOf i).toNat)
   case atStart=>exact⟨0,by omega,rfl,Keep.refl _ _,Xp7.o,by rw [qjp];exact Xo7.o,Xq7.o⟩
   case round=>
    obtain⟨k,hk,rfl,hK,hbx,hO,hB⟩:=hrel;have e1:=qb hbx 1 _ rfl;have lQ:=qe hbx;simp only [Nat.zero_add]at e1;have hk0:(0:Int)<=k:=by omega
    by_cases hlt:k<r.head.args.length
    ·have hlt1:(k:Int)<r.head.args.length:=by omega
     obtain⟨t,ht⟩: ∃t,r.head.args[k]?=some t:=⟨_,getElem?_eq_getElem hlt⟩;obtain⟨r1,r2,r3⟩:=qud ht;obtain⟨gh,cap,hvh,hgb,hgl,hcap1,hcap2,hcell,hfr⟩:=qh0 hO (by omega);injection hvh with q1 q2 q3
     subst q1 q3;have g0:wr.cell? ⟨gh,k*2,none⟩=some (.bool t.var):=hcell _ _ (by rw [r1];have:= @qub ((r.head.args.take k).map qa8) (r.head.args.drop (k+1)) t;rw [r3] at this;exact this);have g1:wr.cell? ⟨gh,k*2+1,none⟩=some (.string t.text):=hcell _ _ (by rw [r1];have:= @quc ((r.head.args.take k).map qa8) (r.head.args.drop (k+1)) t;rw [r3] at this;exact this);obtain⟨Xd,hXd⟩:=ex (wr.drew);have kX:Keep (fun _=>True) wr Xd:=by rw [←hXd];exact kDr
     have hren:=qi0 t (qpv Xhro.o.formed t (mem_of_getElem? ht)) Xd;have hS0:Xd.cell? ⟨Q,1,none⟩=some (.slice (some ⟨gh,0,none⟩) r.head.args.length ch6)/\Xd.cell? ⟨gh,k*2,none⟩=some (.bool t.var)/\Xd.cell? ⟨gh,k*2+1,none⟩=some (.string t.text):=⟨kX.cell e1 trivial,kX.cell g0 trivial,kX.cell g1 trivial⟩;have lQd:Q<Xd.heap.size:=by have:=kX.size;omega
     have lgd:gh<Xd.heap.size:=by have:=kX.size;omega
     clear hcell g0 g1 ht;refine qjg ?_ hK hbx hO hB r1 r2 r3 hXd kX hren hS0 hfr;clear hK hbx hO hB r1 r2 r3 hXd kX hren hS0 hfr;intro XhK Xhbx XhO XhB Xr1 Xr2 Xr3 XhXd XkX Xhren XhS0 Xhfr;gi_wp2;refine qaa ?_;refine qy rfl (fun X=>X.cell? ⟨Q,1,none⟩=some (.slice (some ⟨gh,0,none⟩) r.head.args.length ch6)/\X.cell? ⟨gh,k*2,none⟩=some (.bool t.var)/\X.cell? ⟨gh,k*2+1,none⟩=some (.string t.text)) [12] ?_;rw [XhXd.o];refine qag [0,1,2,3,4,5,6,7,8,9] ?_
     iterate 10
      refine tkR (v:=?_) rfl XhS0.o ?_ ?_;rotate_left
      ·rintro Wq ⟨x1,x2,x3⟩;go_simp
       try with_reducible rfl
      try simp only [qah]
     refine qw ?_;refine hoR 10 rfl fun K XhK0=>?_;gi_wp2;refine⟨trivial,rfl,(callsIn_wide.2 Xhren.o).mono ?_⟩;rintro e X1 ⟨rfl,kX1⟩;obtain⟨s1,s2,s3⟩:=XhS0.o;have m1:=kX1.cell s1 trivial;have m2:=kX1.cell s2 trivial;have m3:=kX1.cell s3 trivial;have hS1:=And.intro m1 (And.intro m2 m3);have kwX:Keep (fun _=>True) wr X1:=XkX.o.trans kX1;have hO1:=qg XhO.o kwX (fun _ _=>trivial);have hB1:=qg XhB.o kwX (fun _ _=>trivial);have hbx1:=kwX.heap Xhbx.o trivial;obtain⟨g9,cap',hv',_,lg1,_,_,_,fr1⟩:=qh0 hO1 (by omega);injection hv' with q1 q2 q3
     injection q1 with q1
     injection q1 with q1
     subst q1;clear q2 q3;have f2:=fr1 (k*2);have f3:=fr1 (k*2+1);obtain⟨X2,hX2⟩:=ex ((X1.setCell ⟨gh,k*2,none⟩ (.bool (qa8 t).var)).setCell ⟨gh,k*2+1,none⟩ (.string (qa8 t).text));have k2X:Keep (fun b=>b≠gh) X1 X2:=by rw [←hX2];exact(kSc).trans (kSc)
     have hO2:X2.ownsRow W5.heap.size 60 2 (.slice (some ⟨gh,0,none⟩) r.head.args.length ch6) r.head.args.length (qo (qg2 r.head.args (k+1))):=by
      have h1:=qc2 (qc2 hO1 (k*2) (.bool (qa8 t).var) (by rw [qa9,qks];omega)) (k*2+1) (.string (qa8 t).text) (by rw [length_set,qa9,qks];omega);rw [hX2]at h1;have h2:=qua ((r.head.args.take k).map qa8) (r.head.args.drop (k+1)) t (qa8 t);rw [Xr3.o,←Xr1.o,←Xr2.o]at h2;rw [h2]at h1;exact h1
     have tne:(64:TypeId)≠60:=by decide
     have hB2:=qg hB1 k2X (fun u hu e=>qf9 hB1 hO1 tne hu (by rw [e];rfl));have hbx2:=k2X.heap hbx1 (fun e=>qde hO1 hbx1 (by decide) rfl e.symm);have hK2:Keep (fun b=>b<W5.heap.size) W7 X2:=XhK.o.trans ((kwX.mono fun _ _ _=>trivial).trans (k2X.mono fun b _ h=>by omega));clear hO1 hB1 hbx1 kwX kX1 fr1 k2X s1 s2 s3 tne;refine hd6 ?_ hX2 hO2 hB2 hbx2 hK2 hS1;clear hX2 hO2 hB2 hbx2 hK2 hS1;intro XhX2 XhO2 XhB2 Xhbx2 XhK2 XhS1;gi_wp2;refine XhK0.o _ _ (fun _=>⟨m1,m2,m3⟩) ?_;refine qag [11] ?_
     iterate 1
      refine tkR (v:=?_) rfl XhS1.o ?_ ?_;rotate_left
      ·rintro Wq ⟨x1,x2,x3⟩;go_simp
       try with_reducible rfl
      try simp only [qah]
     refine qw ?_;refine hoR 12 rfl fun K XhK1=>?_;gi_wp2;rw [XhX2.o];refine XhK1.o _ _ (fun h=>absurd h (by decide)) ?_;refine qj (by kernel_rfl) (ql ?_);clear XhK0 XhK1;gi_wp2;go_roundw
     case rel=>exact⟨k+1,by omega,by go_num,XhK2.o,Xhbx2.o,XhO2.o,XhB2.o⟩
     case measure=>simp [intOf];omega
    ·obtain rfl:k=r.head.args.length:=by omega
     rw [qr2]at hO;obtain⟨W8,hW8⟩: ∃W,W=wr:=⟨_,rfl⟩;have hz8:W5.heap.size<=W8.heap.size:=by rw [hW8];have:=hK.size;have:=Xz7.o;omega
     rw [←hW8]at hK hbx hO hB lQ e1⊢;have k58:Keep (fun b=>b<W5.heap.size) W5 W8:=(Xk6.o.trans (Xk7.o.mono fun _ _ _=>trivial)).trans hK;clear hlt hW8 hk hk0;refine hd5 ?_ hK hbx hO hB k58;clear hK hbx hO hB k58;intro XhK Xhbx XhO XhB Xk58;gi_wp2;gi_loopw [11] (fun ix X=> ∃(k:Nat) (news:List PL),k<=r.body.length/\ix=.int .i64 (k:Int)/\Keep (fun b=>b<W5.heap.size) W8 X/\X.heap[Q]?=some (.cells #[.string r.head.pred,.slice ah6 r.head.args.length ch6,.slice ab6 r.body.length cb6] 27 (0,0))/\
      X.ownsRow W5.heap.size 60 2 (.slice ah6 r.head.args.length ch6) r.head.args.length (qo (r.head.args.map qa8))/\X.ownsRow W5.heap.size 64 7 (.slice ab6 r.body.length cb6) r.body.length ((news++ps6.drop k).flatMap qbn)/\
      news.length=k/\news.map (·.1)=(r.body.map qes).reverse.take k/\ ∀p,p∈news->X.ownsRow W5.heap.size 60 2 p.2 p.1.atom.args.length (qo p.1.atom.args)) (fun i _=>r.body.length-(intOf i).toNat)
     case atStart=>exact⟨0,[],by omega,rfl,Keep.refl _ _,Xhbx.o,XhO.o,XhB.o,rfl,rfl,fun p hp=>by cases hp⟩
     case round=>
      obtain⟨k,news,hk,rfl,hK2,hbx2,hO2,hB2,hnl,hnm,hnr⟩:=hrel;obtain⟨Wr,hWr⟩: ∃W,W=wr:=⟨_,rfl⟩;rw [←hWr]at hK2 hbx2 hO2 hB2⊢;simp only [←hWr]at hnr;clear hWr;have e0:=qb hbx2 2 _ rfl;have lQ2:=qe hbx2;simp only [Nat.zero_add]at e0;have hk0:(0:Int)<=k:=by omega
      have hzr:=hK2.size;have k5r:Keep (fun b=>b<W5.heap.size) W5 Wr:=Xk58.o.trans hK2;by_cases hlt:k<r.body.length
      ·have hlt1:(k:Int)<r.body.length:=by omega
       obtain⟨idx,hidx⟩: ∃idx:Nat,idx=r.body.length-1-k:=⟨_,rfl⟩;have hi1:((r.body.length:Int)-1)-k=(idx:Int):=by omega
       have hi2:idx<r.body.length:=by omega
       have hi3:(idx:Int)<r.body.length:=by omega
       have hi4:(0:Int)<=idx:=by omega
       obtain⟨M,hM⟩: ∃M,r.body[idx]?=some M:=⟨_,getElem?_eq_getElem hi2⟩;have hrk:(r.body.map qes).reverse[k]?=some (qes M):=by
        rw [getElem?_reverse (by rw [length_map];exact hlt),length_map,getElem?_map,←hidx,hM];rfl
       obtain⟨p0,hp0⟩: ∃p0,ps6[k]?=some p0:=⟨_,getElem?_eq_getElem (by have:=congrArg List.length Xhps6.o;rw [length_map] at this;omega)⟩;obtain⟨Xd,hXd⟩:=ex (Wr.drew);have kX:Keep (fun _=>True) Wr Xd:=by rw [←hXd];exact kDr
       have hNX: ∀X,Keep (fun b=>b<Wr.heap.size) Wr X->X.cell? ⟨N,0,none⟩=some (.string r.head.pred)/\X.cell? ⟨N,1,none⟩=some (.slice ash r.head.args.length csh)/\X.cell? ⟨N,2,none⟩=some (.slice asb r.body.length csb):=fun X hX=>by
        refine XhS.o X (Xk05.o.trans ((k5r.mono fun b _ h=>by omega).trans (hX.mono fun b _ h=>by omega)))
       have hcX: ∀X,Keep (fun b=>b<Wr.heap.size) Wr X->Calls prog 10 #[qav r (.slice ash r.head.args.length csh) (.slice asb r.body.length csb)] X fun e w'=> ∃vh gb cap sa ps,e=.returned (.agg #[.string r.head.pred,vh,.slice (some ⟨gb,0,none⟩) r.body.length cap])/\Keep (fun b=>b<X.heap.size) X w'/\gb<w'.heap.size/\r.body.length<=cap/\cap<=maxLen/\
         (∀j u,(qae M sa)[j]?=some u->w'.cell? ⟨gb,idx*7+j,none⟩=some u)/\w'.ownsRow X.heap.size 60 2 sa M.atom.args.length (qo M.atom.args)/\vh=ps:=fun X hX=>by
        refine(qk7 (Xhr5.o.keep ((k5r.trans (hX.mono fun b _ h=>by omega)).mono fun b _ h=>by have:=XhN.o;omega)) (by have:=XhN.o;have:=hX.size;omega)).mono ?_;rintro e w' ⟨vh,vb,rfl,⟨h1,ps,h2,h3,h4⟩,h5⟩;obtain⟨gb,cap,rfl,q1,q2,q3,q4,q5,-⟩:=qh0 h3 (by omega);obtain⟨p,hp⟩: ∃p,ps[idx]?=some p:=⟨_,getElem?_eq_getElem (by have:=congrArg List.length h2;rw [length_map] at this;omega)⟩;have hpM:p.1=M:=by
         have:=congrArg (fun l=>l[idx]?) h2;simp only [getElem?_map,hp,hM,Option.map_some,Option.some.injEq]at this;exact this
        refine⟨vh,gb,cap,p.2,vh,rfl,h5,q2,q3,q4,fun j u hj=>q5 _ _ (qi5 hp j (by unfold qbn;rw [hpM];exact hj)),?_,rfl⟩;have:=h4 p (mem_of_getElem? hp);rw [hpM]at this;exact this
       unfold qav at hcX;have hcD:=hcX Xd (kX.mono fun _ _ _=>trivial);obtain⟨Xa,hXa⟩:=ex (Xd.alloc (.cells #[.int .i64 0,.string ⟨#[]⟩,.slice none 0 0,.bool false,.string ⟨#[]⟩,.bool false,.string ⟨#[]⟩] 64));have kXa:Keep (fun _=>True) Xd Xa:=by rw [←hXa];exact kAl
       have hcA:=hcX Xa ((kX.trans kXa).mono fun _ _ _=>trivial);have hS0:=hNX Xd (kX.mono fun _ _ _=>trivial);have hS1:=hNX Xa ((kX.trans kXa).mono fun _ _ _=>trivial);have hNd2:N<Xd.heap.size:=by have:=kX.size;omega
       clear hidx;refine qc9 ?_ hM hK2 hbx2 hO2 hB2 hnm hnr k5r hrk hp0 hXd kX hNX hcX hcD hXa;clear hM hK2 hbx2 hO2 hB2 hnm hnr k5r hrk hp0 hXd kX hNX hcX hcD hXa;intro XhM XhK2 Xhbx2 XhO2 XhB2 Xhnm Xhnr Xk5r Xhrk Xhp0 XhXd XkX XhNX XhcX XhcD XhXa;refine hd5 ?_ kXa hcA hS0 hS1 hnl;clear kXa hcA hS0 hS1 hnl;intro XkXa XhcA XhS0 XhS1 Xhnl;gi_wp2;refine qaa ?_;refine qy rfl (fun X=>X.cell? ⟨N,0,none⟩=some (.string r.head.pred)/\X.cell? ⟨N,1,none⟩=some (.slice ash r.head.args.length csh)/\X.cell? ⟨N,2,none⟩=some (.slice asb r.body.length csb)) [12] ?_;rw [XhXd.o];refine qag [0,3,4,5,6,7,8] ?_
       iterate 7
        refine tkR (v:=?_) rfl XhS0.o ?_ ?_;rotate_left
        ·rintro Wq ⟨x1,x2,x3⟩;go_simp
         try with_reducible rfl
        try simp only [qah]
       refine qw ?_;refine qzz (i:=1) (j:=11) rfl rfl (by kernel_rfl) (fun K hK=>?wayA) (fun K hK=>?wayB)
       case' wayA=>
        have XhK0:=Lib.hid hK;clear hK;gi_wp2;refine⟨trivial,rfl,(callsIn_wide.2 XhcD.o).mono ?_⟩;rintro e X1 ⟨vh9,gb,cap,sa,ps9,rfl,k9,hgb,hc1,hc2,hlc,hoa,-⟩;have kd1:Keep (fun b=>b<Wr.heap.size) Wr X1:=(XkX.o.mono fun _ _ _=>trivial).trans (k9.mono fun b _ h=>by have:=XkX.o.size;omega);obtain⟨asa,csa,rfl⟩:=qi hoa;have hfld: ∀u,(Instr.field 27 (.agg #[.string r.head.pred,vh9,.slice (some ⟨gb,0,none⟩) r.body.length cap]) 1).run prog u=.ok (.slice (some ⟨gb,0,none⟩) r.body.length cap) u:=fun _=>by kernel_rfl
        have hT:(fun X:World=>(X.cell? ⟨N,0,none⟩=some (.string r.head.pred)/\X.cell? ⟨N,1,none⟩=some (.slice ash r.head.args.length csh)/\X.cell? ⟨N,2,none⟩=some (.slice asb r.body.length csb))/\X.cell? ⟨gb,idx*7,none⟩=some (.int .i64 M.kind)/\X.cell? ⟨gb,idx*7+1,none⟩=some (.string M.atom.pred)/\X.cell? ⟨gb,idx*7+2,none⟩=some (.slice asa M.atom.args.length csa)/\
          X.cell? ⟨gb,idx*7+3,none⟩=some (.bool M.left.var)/\X.cell? ⟨gb,idx*7+4,none⟩=some (.string M.left.text)/\X.cell? ⟨gb,idx*7+5,none⟩=some (.bool M.right.var)/\X.cell? ⟨gb,idx*7+6,none⟩=some (.string M.right.text)) X1:=
         ⟨XhNX.o X1 kd1,hlc 0 _ rfl,hlc 1 _ rfl,hlc 2 _ rfl,hlc 3 _ rfl,hlc 4 _ rfl,hlc 5 _ rfl,hlc 6 _ rfl⟩
        obtain⟨L,hL⟩:=ex (X1.heap.size);obtain⟨X2,hX2⟩:=ex (X1.alloc (.cells #[.int .i64 0,.string ⟨#[]⟩,.slice none 0 0,.bool false,.string ⟨#[]⟩,.bool false,.string ⟨#[]⟩] 64));have k2:Keep (fun _=>True) X1 X2:=by rw [←hX2];exact kAl
        have b2:X2.heap[L]?=some (.cells #[.int .i64 0,.string ⟨#[]⟩,.slice none 0 0,.bool false,.string ⟨#[]⟩,.bool false,.string ⟨#[]⟩] 64 (0,0)):=by rw [←hX2,←hL];exact qh _ _
        have hT2:=And.intro (XhNX.o X2 (kd1.trans (k2.mono fun _ _ _=>trivial))) (And.intro (k2.cell hT.2.1 trivial) (And.intro (k2.cell hT.2.2.1 trivial) (And.intro (k2.cell hT.2.2.2.1 trivial) (And.intro (k2.cell hT.2.2.2.2.1 trivial) (And.intro (k2.cell hT.2.2.2.2.2.1 trivial) (And.intro (k2.cell hT.2.2.2.2.2.2.1 trivial) (k2.cell hT.2.2.2.2.2.2.2 trivial)))))));have n0:=qb b2 0 _ rfl;have n1:=qb b2 1 _ rfl;have n2:=qb b2 2 _ rfl;have n3:=qb b2 3 _ rfl;have n4:=qb b2 4 _ rfl;have n5:=qb b2 5 _ rfl;have n6:=qb b2 6 _ rfl;have f0:=qf b2 0;have f1:=qf b2 1;have f2:=qf b2 2;have f3:=qf b2 3;have f4:=qf b2 4;have f5:=qf b2 5;have f6:=qf b2 6;have lL:=qe b2;simp only [Nat.zero_add]at n0 n1 n2 n3 n4 n5 n6;obtain⟨X3,hX3⟩:=ex (((((((X2.setCell ⟨L,0,none⟩ (.int .i64 M.kind)).setCell ⟨L,1,none⟩ (.string M.atom.pred)).setCell ⟨L,2,none⟩ (.slice asa M.atom.args.length csa)).setCell ⟨L,3,none⟩ (.bool M.left.var)).setCell ⟨L,4,none⟩ (.string M.left.text)).setCell ⟨L,5,none⟩ (.bool M.right.var)).setCell ⟨L,6,none⟩ (.string M.right.text));have k3:Keep (fun b=>b≠L) X2 X3:=by rw [←hX3];exact((((((kSc).trans (kSc)).trans (kSc)).trans (kSc)).trans (kSc)).trans (kSc)).trans (kSc)
        have b3:X3.heap[L]?=some (.cells #[.int .i64 M.kind,.string M.atom.pred,.slice asa M.atom.args.length csa,.bool M.left.var,.string M.left.text,.bool M.right.var,.string M.right.text] 64 (0,0)):=by rw [←hX3];exact qv 6 _ (qv 5 _ (qv 4 _ (qv 3 _ (qv 2 _ (qv 1 _ (qv 0 (.int .i64 M.kind) b2))))))
        have hend:(fun W=>Keep (fun b=>b<Wr.heap.size) Wr W/\W.heap[L]?=some (.cells #[.int .i64 M.kind,.string M.atom.pred,.slice asa M.atom.args.length csa,.bool M.left.var,.string M.left.text,.bool M.right.var,.string M.right.text] 64 (0,0))/\Wr.heap.size<=L/\W.ownsRow Wr.heap.size 60 2 (.slice asa M.atom.args.length csa) M.atom.args.length (qo M.atom.args)) X3:=⟨kd1.trans ((k2.mono fun _ _ _=>trivial).trans (k3.mono fun b hb h=>by have:=kd1.size;have:=k2.size;omega)),b3,by have:=kd1.size;omega,(qg (qg hoa k2 (fun _ _=>trivial)) k3 (fun u hu=>by have:=(World.ownsRow.lt hoa u hu).2;omega)).mono (by have:=XkX.o.size;omega)⟩;clear k3 b3 k2 b2 hlc hoa k9;refine hd8 ?_ kd1 hfld hT hL hX2 hT2 hX3 hend;clear kd1 hfld hT hL hX2 hT2 hX3 hend;intro Xkd1 Xhfld XhT XhL XhX2 XhT2 XhX3 Xhend;gi_wp2;refine XhK0.o _ _ (fun _=>XhT.o.1) ?_;refine ql2 (fun X:World=>(X.cell? ⟨N,0,none⟩=some (.string r.head.pred)/\X.cell? ⟨N,1,none⟩=some (.slice ash r.head.args.length csh)/\X.cell? ⟨N,2,none⟩=some (.slice asb r.body.length csb))/\X.cell? ⟨gb,idx*7,none⟩=some (.int .i64 M.kind)/\X.cell? ⟨gb,idx*7+1,none⟩=some (.string M.atom.pred)/\X.cell? ⟨gb,idx*7+2,none⟩=some (.slice asa M.atom.args.length csa)/\
          X.cell? ⟨gb,idx*7+3,none⟩=some (.bool M.left.var)/\X.cell? ⟨gb,idx*7+4,none⟩=some (.string M.left.text)/\X.cell? ⟨gb,idx*7+5,none⟩=some (.bool M.right.var)/\X.cell? ⟨gb,idx*7+6,none⟩=some (.string M.right.text)) (fun _ h=>h.1) ?_
        refine qag [2,9,10] ?_
        iterate 3
         refine tkR (v:=?_) rfl XhT.o ?_ ?_;rotate_left
         ·rintro Wq ⟨⟨x1,x2,x3⟩,y0,y1,y2,y3,y4,y5,y6⟩;go_simp
          try simp only [Xhfld.o,Result.andThen_ok]
          try with_reducible rfl
         try simp only [qah]
        refine qw ?_;refine hoR 11 rfl fun K XhK1=>?_;gi_wp2;rw [XhX2.o,XhL.o];refine XhK1.o _ _ (fun _=>XhT2.o) ?_;refine hoR 12 rfl fun K XhK2=>?_;gi_wp2;rw [XhX3.o];refine XhK2.o _ _ (fun h=>absurd h (by decide)) ?_;refine qj (by kernel_rfl) (ql ?_);refine qxi (fun W=>Keep (fun b=>b<Wr.heap.size) Wr W/\W.heap[L]?=some (.cells #[.int .i64 M.kind,.string M.atom.pred,.slice asa M.atom.args.length csa,.bool M.left.var,.string M.left.text,.bool M.right.var,.string M.right.text] 64 (0,0))/\Wr.heap.size<=L/\W.ownsRow Wr.heap.size 60 2 (.slice asa M.atom.args.length csa) M.atom.args.length (qo M.atom.args)) Xhend.o ?_;clear XhK0 XhK1 XhK2 XhX3 Xhend XhX2 XhL XhT XhT2 Xhfld Xkd1 n0 n1 n2 n3 n4 n5 n6 f0 f1 f2 f3 f4 f5 f6 lL hgb
       case' wayB=>
        have XhK0:=Lib.hid hK;clear hK;gi_wp2;rw [XhXa.o];refine XhK0.o _ _ (fun _=>XhS1.o) ?_;refine hoR 1 rfl fun K XhK1=>?_;gi_wp2;refine⟨trivial,rfl,(callsIn_wide.2 XhcA.o).mono ?_⟩;rintro e X1 ⟨vh9,gb,cap,sa,ps9,rfl,k9,hgb,hc1,hc2,hlc,hoa,-⟩;have kd1:Keep (fun b=>b<Wr.heap.size) Wr X1:=((XkX.o.trans XkXa.o).mono fun _ _ _=>trivial).trans (k9.mono fun b _ h=>by have:=XkX.o.size;have:=XkXa.o.size;omega);obtain⟨asa,csa,rfl⟩:=qi hoa;have hfld: ∀u,(Instr.field 27 (.agg #[.string r.head.pred,vh9,.slice (some ⟨gb,0,none⟩) r.body.length cap]) 1).run prog u=.ok (.slice (some ⟨gb,0,none⟩) r.body.length cap) u:=fun _=>by kernel_rfl
        have hT:(fun X:World=>(X.cell? ⟨N,0,none⟩=some (.string r.head.pred)/\X.cell? ⟨N,1,none⟩=some (.slice ash r.head.args.length csh)/\X.cell? ⟨N,2,none⟩=some (.slice asb r.body.length csb))/\X.cell? ⟨gb,idx*7,none⟩=some (.int .i64 M.kind)/\X.cell? ⟨gb,idx*7+1,none⟩=some (.string M.atom.pred)/\X.cell? ⟨gb,idx*7+2,none⟩=some (.slice asa M.atom.args.length csa)/\
          X.cell? ⟨gb,idx*7+3,none⟩=some (.bool M.left.var)/\X.cell? ⟨gb,idx*7+4,none⟩=some (.string M.left.text)/\X.cell? ⟨gb,idx*7+5,none⟩=some (.bool M.right.var)/\X.cell? ⟨gb,idx*7+6,none⟩=some (.string M.right.text)) X1:=
         ⟨XhNX.o X1 kd1,hlc 0 _ rfl,hlc 1 _ rfl,hlc 2 _ rfl,hlc 3 _ rfl,hlc 4 _ rfl,hlc 5 _ rfl,hlc 6 _ rfl⟩
        obtain⟨L,hL⟩:=ex (Xd.heap.size);have zXa:Xa.heap.size=L+1:=by rw [←XhXa.o,←hL];simp
        have b2:X1.heap[L]?=some (.cells #[.int .i64 0,.string ⟨#[]⟩,.slice none 0 0,.bool false,.string ⟨#[]⟩,.bool false,.string ⟨#[]⟩] 64 (0,0)):=k9.heap (by rw [←XhXa.o,←hL];exact qh _ _) (show L<Xa.heap.size by omega);have n0:=qb b2 0 _ rfl;have n1:=qb b2 1 _ rfl;have n2:=qb b2 2 _ rfl;have n3:=qb b2 3 _ rfl;have n4:=qb b2 4 _ rfl;have n5:=qb b2 5 _ rfl;have n6:=qb b2 6 _ rfl;have f0:=qf b2 0;have f1:=qf b2 1;have f2:=qf b2 2;have f3:=qf b2 3;have f4:=qf b2 4;have f5:=qf b2 5;have f6:=qf b2 6;have lL:=qe b2;simp only [Nat.zero_add]at n0 n1 n2 n3 n4 n5 n6;obtain⟨X3,hX3⟩:=ex (((((((X1.setCell ⟨L,0,none⟩ (.int .i64 M.kind)).setCell ⟨L,1,none⟩ (.string M.atom.pred)).setCell ⟨L,2,none⟩ (.slice asa M.atom.args.length csa)).setCell ⟨L,3,none⟩ (.bool M.left.var)).setCell ⟨L,4,none⟩ (.string M.left.text)).setCell ⟨L,5,none⟩ (.bool M.right.var)).setCell ⟨L,6,none⟩ (.string M.right.text));have k3:Keep (fun b=>b≠L) X1 X3:=by rw [←hX3];exact((((((kSc).trans (kSc)).trans (kSc)).trans (kSc)).trans (kSc)).trans (kSc)).trans (kSc)
        have b3:X3.heap[L]?=some (.cells #[.int .i64 M.kind,.string M.atom.pred,.slice asa M.atom.args.length csa,.bool M.left.var,.string M.left.text,.bool M.right.var,.string M.right.text] 64 (0,0)):=by rw [←hX3];exact qv 6 _ (qv 5 _ (qv 4 _ (qv 3 _ (qv 2 _ (qv 1 _ (qv 0 (.int .i64 M.kind) b2))))))
        have hend:(fun W=>Keep (fun b=>b<Wr.heap.size) Wr W/\W.heap[L]?=some (.cells #[.int .i64 M.kind,.string M.atom.pred,.slice asa M.atom.args.length csa,.bool M.left.var,.string M.left.text,.bool M.right.var,.string M.right.text] 64 (0,0))/\Wr.heap.size<=L/\W.ownsRow Wr.heap.size 60 2 (.slice asa M.atom.args.length csa) M.atom.args.length (qo M.atom.args)) X3:=⟨kd1.trans (k3.mono fun b hb h=>by have:=XkX.o.size;omega),b3,by have:=XkX.o.size;omega,(qg hoa k3 (fun u hu=>by have:=(World.ownsRow.lt hoa u hu).1;omega)).mono (by have:=XkX.o.size;have:=XkXa.o.size;omega)⟩;clear k3 b3 b2 hlc hoa k9;refine hd7 ?_ kd1 hfld hT hL hX3 hend zXa;clear kd1 hfld hT hL hX3 hend zXa;intro Xkd1 Xhfld XhT XhL XhX3 Xhend XzXa;gi_wp2;rw [XhL.o];refine XhK1.o _ _ (fun _=>XhT.o.1) ?_;refine ql2 (fun X:World=>(X.cell? ⟨N,0,none⟩=some (.string r.head.pred)/\X.cell? ⟨N,1,none⟩=some (.slice ash r.head.args.length csh)/\X.cell? ⟨N,2,none⟩=some (.slice asb r.body.length csb))/\X.cell? ⟨gb,idx*7,none⟩=some (.int .i64 M.kind)/\X.cell? ⟨gb,idx*7+1,none⟩=some (.string M.atom.pred)/\X.cell? ⟨gb,idx*7+2,none⟩=some (.slice asa M.atom.args.length csa)/\
          X.cell? ⟨gb,idx*7+3,none⟩=some (.bool M.left.var)/\X.cell? ⟨gb,idx*7+4,none⟩=some (.string M.left.text)/\X.cell? ⟨gb,idx*7+5,none⟩=some (.bool M.right.var)/\X.cell? ⟨gb,idx*7+6,none⟩=some (.string M.right.text)) (fun _ h=>h.1) ?_
        refine qag [2,9,10] ?_
        iterate 3
         refine tkR (v:=?_) rfl XhT.o ?_ ?_;rotate_left
         ·rintro Wq ⟨⟨x1,x2,x3⟩,y0,y1,y2,y3,y4,y5,y6⟩;go_simp
          try simp only [Xhfld.o,Result.andThen_ok]
          try with_reducible rfl
         try simp only [qah]
        refine qw ?_;refine hoR 12 rfl fun K XhK2=>?_;gi_wp2;rw [XhX3.o];refine XhK2.o _ _ (fun h=>absurd h (by decide)) ?_;refine qj (by kernel_rfl) (ql ?_);refine qxi (fun W=>Keep (fun b=>b<Wr.heap.size) Wr W/\W.heap[L]?=some (.cells #[.int .i64 M.kind,.string M.atom.pred,.slice asa M.atom.args.length csa,.bool M.left.var,.string M.left.text,.bool M.right.var,.string M.right.text] 64 (0,0))/\Wr.heap.size<=L/\W.ownsRow Wr.heap.size 60 2 (.slice asa M.atom.args.length csa) M.atom.args.length (qo M.atom.args)) Xhend.o ?_;clear XhK0 XhK1 XhK2 XhX3 Xhend XhL XzXa XhT Xhfld Xkd1 n0 n1 n2 n3 n4 n5 n6 f0 f1 f2 f3 f4 f5 f6 lL hgb
       all_goals
        rintro Y ⟨kY,bY,hL1,oY⟩;obtain⟨hMt,hMl,hMr⟩:=q05 ((qcr Xhro.o.formed).2.2 M (mem_of_getElem? XhM.o));have hMn:M.atom.args.length<=1073741824:=Xhla.o M (mem_of_getElem? XhM.o);refine hd6 ?_ kY bY oY hMt hMl hMr;clear kY bY oY hMt hMl hMr;intro XkY XbY XoY XhMt XhMl XhMr;gi_wp2;gi_loopw [13] (fun ix X=> ∃j:Nat,j<=M.atom.args.length/\ix=.int .i64 (j:Int)/\Keep (fun b=>b<Wr.heap.size) Wr X/\X.heap[L]?=some (.cells #[.int .i64 M.kind,.string M.atom.pred,.slice asa M.atom.args.length csa,.bool M.left.var,.string M.left.text,.bool M.right.var,.string M.right.text] 64 (0,0))/\
         X.ownsRow Wr.heap.size 60 2 (.slice asa M.atom.args.length csa) M.atom.args.length (qo (qg2 M.atom.args j))) (fun i _=>M.atom.args.length-(intOf i).toNat)
        case atStart=>exact⟨0,by omega,rfl,XkY.o,XbY.o,by rw [qjp];exact XoY.o⟩
        case round=>
         obtain⟨j,hj,rfl,hK3,hL3,hO3⟩:=hrel;have e2:=qb hL3 2 _ rfl;have lL:=qe hL3;simp only [Nat.zero_add]at e2;have hj0:(0:Int)<=j:=by omega
         by_cases hjt:j<M.atom.args.length
         ·have hjt1:(j:Int)<M.atom.args.length:=by omega
          obtain⟨t,ht⟩: ∃t,M.atom.args[j]?=some t:=⟨_,getElem?_eq_getElem hjt⟩;obtain⟨r1,r2,r3⟩:=qud ht;obtain⟨gh,cap9,hvh,hgb,hgl,hcap1,hcap2,hcell,hfr⟩:=qh0 hO3 (by omega);injection hvh with q1 q2 q3
          subst q1 q3;have g0:wr.cell? ⟨gh,j*2,none⟩=some (.bool t.var):=hcell _ _ (by rw [r1];have:= @qub ((M.atom.args.take j).map qa8) (M.atom.args.drop (j+1)) t;rw [r3] at this;exact this);have g1:wr.cell? ⟨gh,j*2+1,none⟩=some (.string t.text):=hcell _ _ (by rw [r1];have:= @quc ((M.atom.args.take j).map qa8) (M.atom.args.drop (j+1)) t;rw [r3] at this;exact this);obtain⟨Yd,hYd⟩:=ex (wr.drew);have kY9:Keep (fun _=>True) wr Yd:=by rw [←hYd];exact kDr
          have hren:=qi0 t (XhMt.o t (mem_of_getElem? ht)) Yd;have hS0:Yd.cell? ⟨L,2,none⟩=some (.slice (some ⟨gh,0,none⟩) M.atom.args.length csa)/\Yd.cell? ⟨gh,j*2,none⟩=some (.bool t.var)/\Yd.cell? ⟨gh,j*2+1,none⟩=some (.string t.text):=⟨kY9.cell e2 trivial,kY9.cell g0 trivial,kY9.cell g1 trivial⟩;have lQd:L<Yd.heap.size:=by have:=kY9.size;omega
          have lgd:gh<Yd.heap.size:=by have:=kY9.size;omega
          clear hcell g0 g1 ht;refine qjf ?_ hK3 hL3 hO3 r1 r2 r3 hYd kY9 hren hS0 hfr;clear hK3 hL3 hO3 r1 r2 r3 hYd kY9 hren hS0 hfr;intro XhK3 XhL3 XhO3 Xr1 Xr2 Xr3 XhYd XkY9 Xhren XhS0 Xhfr;gi_wp2;refine qaa ?_;refine qy rfl (fun X=>X.cell? ⟨L,2,none⟩=some (.slice (some ⟨gh,0,none⟩) M.atom.args.length csa)/\X.cell? ⟨gh,j*2,none⟩=some (.bool t.var)/\X.cell? ⟨gh,j*2+1,none⟩=some (.string t.text)) [12] ?_;rw [XhYd.o];refine qag [0,1,2,3,4,5,6,7,8,9] ?_
          iterate 10
           refine tkR (v:=?_) rfl XhS0.o ?_ ?_;rotate_left
           ·rintro Wq ⟨x1,x2,x3⟩;go_simp
            try with_reducible rfl
           try simp only [qah]
          refine qw ?_;refine hoR 10 rfl fun K XhK0=>?_;gi_wp2;refine⟨trivial,rfl,(callsIn_wide.2 Xhren.o).mono ?_⟩;rintro e Y1 ⟨rfl,kX1⟩;obtain⟨s1,s2,s3⟩:=XhS0.o;have m1:=kX1.cell s1 trivial;have m2:=kX1.cell s2 trivial;have m3:=kX1.cell s3 trivial;have hS1:=And.intro m1 (And.intro m2 m3);have kwX:Keep (fun _=>True) wr Y1:=XkY9.o.trans kX1;have hO1:=qg XhO3.o kwX (fun _ _=>trivial);have hbx1:=kwX.heap XhL3.o trivial;obtain⟨g9,cap',hv',_,lg1,_,_,_,fr1⟩:=qh0 hO1 (by omega);injection hv' with q1 q2 q3
          injection q1 with q1
          injection q1 with q1
          subst q1;clear q2 q3;have f2:=fr1 (j*2);have f3:=fr1 (j*2+1);obtain⟨Y2,hY2⟩:=ex ((Y1.setCell ⟨gh,j*2,none⟩ (.bool (qa8 t).var)).setCell ⟨gh,j*2+1,none⟩ (.string (qa8 t).text));have k2X:Keep (fun b=>b≠gh) Y1 Y2:=by rw [←hY2];exact(kSc).trans (kSc)
          have hO2:Y2.ownsRow Wr.heap.size 60 2 (.slice (some ⟨gh,0,none⟩) M.atom.args.length csa) M.atom.args.length (qo (qg2 M.atom.args (j+1))):=by
           have h1:=qc2 (qc2 hO1 (j*2) (.bool (qa8 t).var) (by rw [qa9,qks];omega)) (j*2+1) (.string (qa8 t).text) (by rw [length_set,qa9,qks];omega);rw [hY2]at h1;have h2:=qua ((M.atom.args.take j).map qa8) (M.atom.args.drop (j+1)) t (qa8 t);rw [Xr3.o,←Xr1.o,←Xr2.o]at h2;rw [h2]at h1;exact h1
          have hbx2:=k2X.heap hbx1 (fun e=>qde hO1 hbx1 (by decide) rfl e.symm);have hK2:Keep (fun b=>b<Wr.heap.size) Wr Y2:=XhK3.o.trans ((kwX.mono fun _ _ _=>trivial).trans (k2X.mono fun b _ h=>by omega));clear hO1 hbx1 kwX kX1 fr1 k2X s1 s2 s3;refine hd5 ?_ hY2 hO2 hbx2 hK2 hS1;clear hY2 hO2 hbx2 hK2 hS1;intro XhY2 XhO2 Xhbx2 XhK2 XhS1;gi_wp2;refine XhK0.o _ _ (fun _=>⟨m1,m2,m3⟩) ?_;refine qag [11] ?_
          iterate 1
           refine tkR (v:=?_) rfl XhS1.o ?_ ?_;rotate_left
           ·rintro Wq ⟨x1,x2,x3⟩;go_simp
            try with_reducible rfl
           try simp only [qah]
          refine qw ?_;refine hoR 12 rfl fun K XhK1=>?_;gi_wp2;rw [XhY2.o];refine XhK1.o _ _ (fun h=>absurd h (by decide)) ?_;refine qj (by kernel_rfl) (ql ?_);clear XhK0 XhK1;gi_wp2;go_roundw
          case rel=>exact⟨j+1,by omega,by go_num,XhK2.o,Xhbx2.o,XhO2.o⟩
          case measure=>simp [intOf];omega
         ·obtain rfl:j=M.atom.args.length:=by omega
          rw [qr2]at hO3;obtain⟨Z0,hZ0⟩: ∃W,W=wr:=⟨_,rfl⟩;rw [←hZ0]at hK3 hL3 hO3 lL e2⊢;clear hjt hZ0 hj hj0;have a3:=qb hL3 3 _ rfl;have a4:=qb hL3 4 _ rfl;simp only [Nat.zero_add]at a3 a4;have hrl:=qi0 M.left XhMl.o Z0;refine hd4 ?_ hK3 hL3 hO3 hrl;clear hK3 hL3 hO3 hrl;intro XhK3 XhL3 XhO3 Xhrl;gi_wp2;refine⟨trivial,rfl,(callsIn_wide.2 Xhrl.o).mono ?_⟩;rintro e Z1 ⟨rfl,kZ1⟩;have b1:=kZ1.heap XhL3.o trivial;have c3:=qb b1 3 _ rfl;have c4:=qb b1 4 _ rfl;have d3:=qf b1 3;have d4:=qf b1 4;have l1:=qe b1;simp only [Nat.zero_add]at c3 c4;obtain⟨Z2,hZ2⟩:=ex ((Z1.setCell ⟨L,3,none⟩ (.bool (qa8 M.left).var)).setCell ⟨L,4,none⟩ (.string (qa8 M.left).text));have kZ2:Keep (fun b=>b≠L) Z1 Z2:=by rw [←hZ2];exact(kSc).trans (kSc)
          have b2:Z2.heap[L]?=some (.cells #[.int .i64 M.kind,.string M.atom.pred,.slice asa M.atom.args.length csa,.bool (qa8 M.left).var,.string (qa8 M.left).text,.bool M.right.var,.string M.right.text] 64 (0,0)):=by rw [←hZ2];exact qv 4 _ (qv 3 _ b1)
          have a5:=qb b2 5 _ rfl;have a6:=qb b2 6 _ rfl;have l2:=qe b2;simp only [Nat.zero_add]at a5 a6;have hrr:=qi0 M.right XhMr.o Z2;refine hd6 ?_ kZ1 b1 hZ2 kZ2 b2 hrr;clear kZ1 b1 hZ2 kZ2 b2 hrr;intro XkZ1 Xb1 XhZ2 XkZ2 Xb2 Xhrr
          gi_upto_region 20 with fail
          rw [XhZ2.o];gi_wp2;refine⟨trivial,rfl,(callsIn_wide.2 Xhrr.o).mono ?_⟩;rintro e Z3 ⟨rfl,kZ3⟩;have b3:=kZ3.heap Xb2.o trivial;have c5:=qb b3 5 _ rfl;have c6:=qb b3 6 _ rfl;have d5:=qf b3 5;have d6:=qf b3 6;have l3:=qe b3;simp only [Nat.zero_add]at c5 c6;obtain⟨Z4,hZ4⟩:=ex ((Z3.setCell ⟨L,5,none⟩ (.bool (qa8 M.right).var)).setCell ⟨L,6,none⟩ (.string (qa8 M.right).text));have kZ4:Keep (fun b=>b≠L) Z3 Z4:=by rw [←hZ4];exact(kSc).trans (kSc)
          have b4:Z4.heap[L]?=some (.cells #[.int .i64 M.kind,.string M.atom.pred,.slice asa M.atom.args.length csa,.bool (qa8 M.left).var,.string (qa8 M.left).text,.bool (qa8 M.right).var,.string (qa8 M.right).text] 64 (0,0)):=by rw [←hZ4];exact qv 6 _ (qv 5 _ b3)
          have m0:=qb b4 0 _ rfl;have m1:=qb b4 1 _ rfl;have m2:=qb b4 2 _ rfl;have m3:=qb b4 3 _ rfl;have m4:=qb b4 4 _ rfl;have m5:=qb b4 5 _ rfl;have m6:=qb b4 6 _ rfl;have l4:=qe b4;simp only [Nat.zero_add]at m0 m1 m2 m3 m4 m5 m6;have kr4:Keep (fun b=>b<Wr.heap.size) Wr Z4:=XhK3.o.trans ((XkZ1.o.mono fun _ _ _=>trivial).trans ((XkZ2.o.mono fun b _ (h:b<Wr.heap.size)=>by omega).trans ((kZ3.mono fun _ _ _=>trivial).trans (kZ4.mono fun b _ (h:b<Wr.heap.size)=>by omega))));have hB4:=qg XhB2.o kr4 (fun u hu=>(World.ownsRow.lt XhB2.o u hu).2);have hQ4:=kr4.heap Xhbx2.o (show Q<Wr.heap.size by omega);have q2:=qb hQ4 2 _ rfl;have lQ4:=qe hQ4;simp only [Nat.zero_add]at q2;have hO4:=qg XhO3.o ((XkZ1.o.mono fun b _ (h:b≠L)=>trivial).trans (XkZ2.o.trans ((kZ3.mono fun _ _ _=>trivial).trans kZ4))) (fun u hu=>qde XhO3.o XhL3.o (by decide) hu);have hp4:(news++ps6.drop k)=news++p0::ps6.drop (k+1):=by
           obtain⟨h1,h2⟩:=List.getElem?_eq_some_iff.1 Xhp0.o;rw [drop_eq_getElem_cons h1,h2]
          have hpk:(news++ps6.drop k)[k]?=some p0:=by
           rw [hp4,getElem?_append_right (by rw [Xhnl.o];exact Nat.le_refl _),Xhnl.o,Nat.sub_self];rfl
          obtain⟨gB,capB,hvB,hgB1,hgB2,hcB1,hcB2,hcellB,hfrB⟩:=qh0 hB4 (by omega);injection hvB with r1 r2 r3
          subst r1 r3;have s0:=hcellB _ _ (qi5 hpk 0 rfl);have s1:=hcellB _ _ (qi5 hpk 1 rfl);have s2:=hcellB _ _ (qi5 hpk 2 rfl);have s3:=hcellB _ _ (qi5 hpk 3 rfl);have s4:=hcellB _ _ (qi5 hpk 4 rfl);have s5:=hcellB _ _ (qi5 hpk 5 rfl);have s6:=hcellB _ _ (qi5 hpk 6 rfl);have t0:=hfrB (k*7);have t1:=hfrB (k*7+1);have t2:=hfrB (k*7+2);have t3:=hfrB (k*7+3);have t4:=hfrB (k*7+4);have t5:=hfrB (k*7+5);have t6:=hfrB (k*7+6);simp only [Nat.add_zero]at s0;obtain⟨Z5,hZ5⟩:=ex (((((((Z4.setCell ⟨gB,k*7,none⟩ (.int .i64 M.kind)).setCell ⟨gB,k*7+1,none⟩ (.string M.atom.pred)).setCell ⟨gB,k*7+2,none⟩ (.slice asa M.atom.args.length csa)).setCell ⟨gB,k*7+3,none⟩ (.bool (qa8 M.left).var)).setCell ⟨gB,k*7+4,none⟩ (.string (qa8 M.left).text)).setCell ⟨gB,k*7+5,none⟩ (.bool (qa8 M.right).var)).setCell ⟨gB,k*7+6,none⟩ (.string (qa8 M.right).text));have kZ5:Keep (fun b=>b≠gB) Z4 Z5:=by rw [←hZ5];exact(((((((kSc).trans (kSc)).trans (kSc)).trans (kSc)).trans (kSc)).trans (kSc)).trans (kSc))
          have hB5:Z5.ownsRow W5.heap.size 64 7 (.slice (some ⟨gB,0,none⟩) r.body.length cb6) r.body.length (((news++ [((qes M,.slice asa M.atom.args.length csa):PL)])++ps6.drop (k+1)).flatMap qbn):=by
           have hlen:((news++ps6.drop k).flatMap qbn).length=r.body.length*7:=hB4.1;have h1:=qc2 (qc2 (qc2 (qc2 (qc2 (qc2 (qc2 hB4 (k*7) (.int .i64 M.kind) (by omega)) (k*7+1) (.string M.atom.pred) (by rw [length_set];omega)) (k*7+2) (.slice asa M.atom.args.length csa) (by simp only [length_set];omega)) (k*7+3) (.bool (qa8 M.left).var) (by simp only [length_set];omega)) (k*7+4) (.string (qa8 M.left).text) (by simp only [length_set];omega)) (k*7+5) (.bool (qa8 M.right).var) (by simp only [length_set];omega)) (k*7+6) (.string (qa8 M.right).text) (by simp only [length_set];omega);rw [hZ5,hp4]at h1;have h2:=q58 news (ps6.drop (k+1)) p0 ((qes M,.slice asa M.atom.args.length csa):PL);rw [Xhnl.o]at h2;simp only [qes]at h2;rw [h2]at h1;rw [append_assoc];exact h1
          have tne:(60:TypeId)≠64:=by decide
          have k5:Keep (fun b=>b<Wr.heap.size/\b≠gB) Wr Z5:=(kr4.mono fun b _ h=>h.1).trans (kZ5.mono fun b _ h=>h.2);have hQ5':=kZ5.heap hQ4 (fun e=>qde hB4 hQ4 (by decide) rfl e.symm);have hH5:=qg (qg XhO2.o kr4 (fun u hu=>(World.ownsRow.lt XhO2.o u hu).2)) kZ5 (fun u hu e=>qf9 (qg XhO2.o kr4 (fun u hu=>(World.ownsRow.lt XhO2.o u hu).2)) hB4 tne hu (by rw [e];rfl));have hK5:Keep (fun b=>b<W5.heap.size) W8 Z5:=XhK2.o.trans (k5.mono fun b _ h=>⟨by omega,by omega⟩);have hR5: ∀p,p∈news++ [((qes M,.slice asa M.atom.args.length csa):PL)]->Z5.ownsRow W5.heap.size 60 2 p.2 p.1.atom.args.length (qo p.1.atom.args):=fun p hp=>by
           rcases mem_append.1 hp with hp |hp
           ·have q4:=qg (Xhnr.o p hp) kr4 (fun u hu=>(World.ownsRow.lt (Xhnr.o p hp) u hu).2);exact qg q4 kZ5 (fun u hu e=>qf9 q4 hB4 tne hu (by rw [e];rfl))
           ·rw [mem_singleton.1 hp];have q4:=(qg hO4 kZ5 (fun u hu e=>qf9 hO4 hB4 tne hu (by rw [e];rfl))).mono (show W5.heap.size<=Wr.heap.size by omega);simp only [qes,length_map];exact q4
          have hm5:(news++ [((qes M,.slice asa M.atom.args.length csa):PL)]).map (·.1)=(r.body.map qes).reverse.take (k+1):=by
           rw [map_append,Xhnm.o,take_add_one,Xhrk.o];rfl
          have hl5:(news++ [((qes M,.slice asa M.atom.args.length csa):PL)]).length=k+1:=by rw [length_append,Xhnl.o];rfl
          clear hcellB hfrB kr4 hB4 hQ4 hO4 hp4 hpk tne k5 kZ5 b3 kZ3 kZ4 b4;refine hd9 ?_ hZ4 hZ5 hB5 hQ5' hH5 hK5 hR5 hm5 hl5;clear hZ4 hZ5 hB5 hQ5' hH5 hK5 hR5 hm5 hl5;intro XhZ4 XhZ5 XhB5 XhQ5' XhH5 XhK5 XhR5 Xhm5 Xhl5
          gi_upto_region 21 with fail
          rw [XhZ4.o];gi_wp2;rw [XhZ5.o];go_roundw
          case rel=>exact⟨k+1,_,by omega,by go_num,XhK5.o,XhQ5'.o,XhH5.o,XhB5.o,Xhl5.o,Xhm5.o,XhR5.o⟩
          case measure=>simp [intOf];omega
      ·obtain rfl:k=r.body.length:=by omega
       obtain⟨Z,hZ⟩: ∃W,W=Wr:=⟨_,rfl⟩;rw [←hZ]at hK2 hbx2 hO2 hB2 e0 lQ2⊢;simp only [←hZ]at hnr;clear hlt hZ;have hps:ps6.drop r.body.length= []:=by
        have:=congrArg List.length Xhps6.o;rw [length_map]at this;exact drop_eq_nil_of_le (by omega)
       rw [hps,append_nil]at hB2;rw [take_of_length_le (by simp)]at hnm;have kZ5:Keep (fun b=>b<W5.heap.size) W5 Z:=Xk58.o.trans hK2;have hqo:RuleOwn W5.heap.size 64 60 Z (.slice ah6 r.head.args.length ch6) (.slice ab6 r.body.length cb6) (qbb r):=by
        refine⟨?_,news,hnm,?_,hnr⟩
        ·unfold qbb;simp only [length_map];exact hO2
        ·unfold qbb;simp only [length_reverse,length_map];exact hB2
       have hqi:=hqo.rule (by
        refine⟨by unfold qbb;simpa using hlh,by unfold qbb;simpa using hlb,fun L hL=>?_⟩;obtain⟨M,hM,rfl⟩:=qff.1 hL
        simpa [qes]using Xhla.o M hM)
       have hcm2:=qij hqi (Nat.le_refl _);unfold qav at hcm2;rw [show(qbb r).head.pred=r.head.pred from rfl]at hcm2;have h3:=qb hbx2 0 _ rfl;have h4:=qb hbx2 1 _ rfl;simp only [Nat.zero_add]at h3 h4;clear hqo hqi hps hnm hnr hB2 hO2 hnl;refine hd4 ?_ hK2 hbx2 kZ5 hcm2;clear hK2 hbx2 kZ5 hcm2;intro XhK2 Xhbx2 XkZ5 Xhcm2;gi_wp2;refine⟨trivial,rfl,(callsIn_wide.2 Xhcm2.o).mono ?_⟩;have kN5:Keep (fun b=>b<N) w W5:=Xkw5.o;rintro e Z1 ⟨kZ1,⟨h0,rfl⟩ |⟨hro2,J2,jh,jb,jv,jq,jt,js,rfl,hj2⟩⟩
       ·have h0':((qdj (qbb r):Int) !=0)=true:=by simp [h0]
        have hlg:qhn (qg8 r)=true:=by
         cases hb:qhn (qg8 r) with
         |true=>rfl
         |false=>
          exfalso;exact h0 (q3x (q59 Xhro.o) hb)
        have k51:Keep (fun b=>b<W5.heap.size) W5 Z1:=XkZ5.o.trans (kZ1.mono fun b _ h=>by have:=XkZ5.o.size;omega);obtain⟨y0,y1,y2⟩:=XhS.o Z1 (Xk05.o.trans (k51.mono fun b _ h=>by omega));have yN:N<Z1.heap.size:=by have:=k51.size;omega
        have hlo:=q4r (Xhr5.o.keep (k51.mono fun b _ h=>by have:=XhN.o;omega)) (by have:=XhN.o;omega) Xhsm.o.terms;unfold qav at hlo;rw [hlg]at hlo;clear h0 hlg kZ1;refine hd2 ?_ k51 hlo;clear k51 hlo;intro Xk51 Xhlo;gi_wp2;refine⟨trivial,rfl,(callsIn_wide.2 (qle _ _)).mono ?_⟩;rintro e w9 ⟨rfl,hw9⟩;have hw9:=hw9.symm;subst hw9;gi_wp2;refine⟨trivial,rfl,(callsIn_wide.2 Xhlo.o).mono ?_⟩;rintro e Z2 ⟨rfl,kZ2⟩;refine hd1 ?_ kZ2;clear kZ2;intro XkZ2;gi_wp2;refine⟨trivial,rfl,(callsIn_wide.2 (qkr Z2)).mono ?_⟩;rintro e Z9 ⟨rfl,k9⟩;refine hd1 ?_ k9;clear k9;intro Xk9;gi_wp2;refine bodyPost_ret (v:=.bool true) (by simp [results,Tryz.results4,go_sem]) rfl ⟨rfl,?_⟩;rw [XhN.o];exact kN5.trans ((Xk51.o.mono fun b _ h=>by omega).trans ((XkZ2.o.mono fun b _ h=>by omega).trans (Xk9.o.mono fun b _ h=>by have:=XkZ2.o.size;omega)))
       ·have hji2:=qlz (qlf Z) hj2;have k51:Keep (fun b=>b<W5.heap.size) W5 Z1:=XkZ5.o.trans (kZ1.mono fun b _ h=>by have:=XkZ5.o.size;omega);have hji1:JoinIs gh0 Z1 J r:=XhJ5.o.step (GStep.below (n0:=0) (qlf W5) k51);have kN1:Keep (fun b=>b<N) w Z1:=kN5.trans (k51.mono fun b _ h=>by omega);have hZn:N<=Z1.heap.size:=by have:=k51.size;omega
        have hfsb: ∀f,f∈fs->f.pred.size<=1073741824:=fun f hf=>Xhsm.o.pred f (mem_append_left _ hf);have hfnb: ∀f,f∈fn->f.pred.size<=1073741824:=fun f hf=>Xhsm.o.pred f (mem_append_right _ hf);have hF4:F.length<=400:=(qp8 Xhbv.o).1;have hFl:fs.length+fn.length<=400:=by rw [←XhFe.o,length_append] at hF4;exact hF4
        have hst1:=qj5 (n0:=0) (qlf Z1) (Xhf.o.keep (kN1.mono fun b _ h=>by have:=XhN.o;omega)) (by have:=XhN.o;omega) (fun b _=>qj8 b) hfsb (by omega);clear hj2 kZ1 kN5;refine hd8 ?_ hro2 hji2 hji1 k51 kN1 hfsb hfnb hst1;clear hro2 hji2 hji1 k51 kN1 hfsb hfnb hst1;intro Xhro2 Xhji2 Xhji1 Xk51 XkN1 Xhfsb Xhfnb Xhst1;gi_wp2;refine⟨trivial,rfl,(callsIn_wide.2 (qle _ _)).mono ?_⟩;rintro e w9 ⟨rfl,hw9⟩;have hw9:=hw9.symm;subst hw9;gi_wp2;refine⟨trivial,rfl,(callsIn_wide.2 Xhst1.o).mono ?_⟩;rintro e Z2 ⟨S1,g1,rfl,s1,t1,-,hS1⟩;have q1:=qxh s1;have fr1: ∀b,b<Z1.heap.size->g1.free b:=fun b hb=>s1.new b hb (qj8 b);have hS1s:g1.st S1=some (qd1 okF fs):=by rw [t1];unfold Gh.with;simp
        have hS1l:S1<Z2.heap.size:=by
         obtain⟨T,M,MX,vx,xs,rl,hP⟩:=s1.inv.store S1 _ hS1s;exact qe hP.box
        have hzq1:=q1.size;have hst2:=qj5 (n0:=0) s1.inv (Xhf2.o.keep ((XkN1.o.trans (q1.mono fun _ _ _=>trivial)).mono fun b _ h=>by have:=XhN.o;omega)) (by have:=XhN.o;omega) (fun b hb=>fr1 b (by have:=XhN.o;omega)) Xhfnb.o (by omega);refine hd6 ?_ s1 q1 fr1 t1 hS1s hst2;clear s1 q1 fr1 t1 hS1s hst2;intro Xs1 Xq1 Xfr1 Xt1 XhS1s Xhst2;gi_wp2;refine⟨trivial,rfl,(callsIn_wide.2 Xhst2.o).mono ?_⟩;rintro e Z3 ⟨S2,g2,rfl,s2,t2,-,hS2⟩;have fr2: ∀b,b<Z1.heap.size->g2.free b:=fun b hb=>s2.new b (by omega) (Xfr1.o b hb);have e2:g2.st S2=some (qd1 okF fn):=by rw [t2];unfold Gh.with;simp
        have e1':g2.st S1=some (qd1 okF fs):=by rw [t2];unfold Gh.with;rw [if_neg (by omega)];exact XhS1s.o
        have hss:qfl [S1,S2] g2:=fun S hS=>by
         rcases mem_cons.1 hS with rfl |hS
         ·exact⟨_,e1',qo7 fs⟩
         ·rw [mem_singleton.1 hS];exact⟨_,e2,qo7 fn⟩
        have hz3:=s2.keep.size;have hjA:=(Xhji1.o.step Xs1.o).step s2;have hjB:=(Xhji2.o.step Xs1.o).step s2;have hea:=qjy J (some S1) (some S2) Z3;unfold qaz at hea;simp only [Option.map_some]at hea;have i2:=s2.inv;have hcs: ∀f,f∈qd1 okF fs->f∈F:=fun f hf=>by rw [←XhFe.o];exact mem_append_left _ (qyg hf)
        have hm1: ∀S,some S1=some S->S∈ [S1,S2]:=fun S h=>by cases h;simp
        have hm2: ∀S,some S2=some S->S∈ [S1,S2]:=fun S h=>by cases h;simp
        have hfewA: ∀(γ:Gh) (X:World),GInv γ X->γ.st=g2.st->(qen γ (some S1) (some S2) r (-1)).length<=20000:=fun γ X hi hst=>q5x hi (by rw [hst];exact e1') (some S2) Xhro.o hcs Xhbv.o;have hkj:=qip Xhro.o.formed;have hfewB: ∀(γ:Gh) (X:World),GInv γ X->γ.st=g2.st->(qen γ (some S1) (some S2) (qbb r) (-1)).length<=20000:=fun γ X hi hst=>by
         have h1:=hfewA γ X hi hst;have h2:=qxa (cN:=qdi γ (some S2)) (qnh hi (some S1)) hkj (qnd hkj);have h3:=congrArg List.length (qld hi (some S1) (some S2) Xhro.o);have h4:=congrArg List.length (qld hi (some S1) (some S2) Xhro2.o);rw [qhq,length_map]at h3 h4;have h5:(qd0 (qcn γ (some S1) (some S2) r.body) r).length=(qd0 (qcn γ (some S1) (some S2) (qbb r).body) (qbb r)).length:=h2;omega
        refine qc9 ?_ s2 t2 fr2 e2 e1' hss hjA hjB hea i2 hcs hm1 hm2 hfewA hkj hfewB;clear s2 t2 fr2 e2 e1' hss hjA hjB hea i2 hcs hm1 hm2 hfewA hkj hfewB;intro Xs2 Xt2 Xfr2 Xe2 Xe1' Xhss XhjA XhjB Xhea Xi2 Xhcs Xhm1 Xhm2 XhfewA Xhkj XhfewB;gi_wp2;refine⟨trivial,rfl,(callsIn_wide.2 Xhea.o).mono ?_⟩;rintro e Z4 ⟨rfl,b1,b2,b3,z4',k4'⟩;have s4:=GStep.own (n0:=0) Xi2.o k4';have hga:=qj7 (n0:=0) (Ss:= [S1,S2]) s4.inv Xhss.o (Nat.zero_le _) Xhro.o (XhjA.o.step s4) (s:=some S1) (sN:=some S2) Xhm1.o Xhm2.o b1 (by unfold qaz;exact b2) (by unfold qaz;exact b3) (qdp Xi2.o (Nat.le_refl _)) (qdp Xi2.o (by omega)) (qdp Xi2.o (by omega)) (by have:=XhfewA.o _ _ s4.inv rfl;omega);clear b1 b2 b3;refine hd4 ?_ z4' k4' s4 hga;clear z4' k4' s4 hga;intro Xz4' Xk4' Xs4 Xhga;gi_wp2;refine⟨trivial,rfl,(callsIn_wide.2 Xhga.o).mono ?_⟩;rintro e Z5 ⟨g5,v5,qA,rfl,s5,t5,mA,rA⟩;have hea2:=qjy J2 (some S1) (some S2) Z5;unfold qaz at hea2;simp only [Option.map_some]at hea2;have hss5:qfl [S1,S2] g5:=fun S hS=>by rw [t5];exact Xhss.o S hS
        have hz5:=s5.keep.size;have hz4:=Xk4'.o.size;have hjB5:=(XhjB.o.step Xs4.o).step s5;have hjA5:=(XhjA.o.step Xs4.o).step s5;have i5:=s5.inv;refine hd9 ?_ s5 t5 mA rA hea2 hss5 hjA5 hjB5 i5;clear s5 t5 mA rA hea2 hss5 hjA5 hjB5 i5;intro Xs5 Xt5 XmA XrA Xhea2 Xhss5 XhjA5 XhjB5 Xi5;gi_wp2;refine⟨trivial,rfl,(callsIn_wide.2 Xhea2.o).mono ?_⟩;rintro e Z6 ⟨rfl,b1,b2,b3,z6',k6'⟩;have s6:=GStep.own (n0:=0) Xi5.o k6';have hgb:=qj7 (n0:=0) (Ss:= [S1,S2]) s6.inv Xhss5.o (Nat.zero_le _) Xhro2.o (XhjB5.o.step s6) (s:=some S1) (sN:=some S2) Xhm1.o Xhm2.o b1 (by unfold qaz;exact b2) (by unfold qaz;exact b3) (qdp Xi5.o (Nat.le_refl _)) (qdp Xi5.o (by omega)) (qdp Xi5.o (by omega)) (by have:=XhfewB.o _ _ s6.inv Xt5.o;omega);clear b1 b2 b3;refine hd4 ?_ z6' k6' s6 hgb;clear z6' k6' s6 hgb;intro Xz6' Xk6' Xs6 Xhgb;gi_wp2;refine⟨trivial,rfl,(callsIn_wide.2 Xhgb.o).mono ?_⟩;rintro e Z7 ⟨g7,v7,qB,rfl,s7,t7,mB,rB⟩;have hz6:=Xk6'.o.size;have hz7:=s7.keep.size;have hlk: ∀body,qcn g5 (some S1) (some S2) body=qcn g2 (some S1) (some S2) body:=fun body=>by unfold qcn qdi;rw [Xt5.o]
        rw [hlk]at rB;have mA7:MqsAt (fun b=>g7.free b) Z7 v5 qA:=(XmA.o.keep (P':=fun b=>g5.free b) Xs6.o.keep (fun b hb hp=>⟨hp.1,hp.1⟩)).keep s7.keep (fun b hb hp=>⟨hp,s7.new b hb hp⟩);have hlA:qA.length<=20000:=by
         have h1:=congrArg List.length XrA.o;have h2:=congrArg List.length (qld Xi2.o (some S1) (some S2) Xhro.o);have h3:=XhfewA.o _ _ Xi2.o rfl;rw [length_map]at h1;rw [qhq,length_map]at h2;omega
        have hll:qA.length=qB.length:=by
         have h1:=congrArg List.length XrA.o;have h2:=congrArg List.length rB;have h3:=qxa (c:=qdi g2 (some S1)) (cN:=qdi g2 (some S2)) (qnh Xi2.o (some S1)) Xhkj.o (qnd Xhkj.o);rw [length_map]at h1 h2;exact h1.trans (h3.trans h2.symm)
        obtain⟨hinA,hokA⟩:=mA7.mq (by omega) (fun q hq=>qr3 Xhro.o q.1 (by rw [←XrA.o];exact mem_map.2 ⟨q,hq,rfl⟩));obtain⟨hinB,hokB⟩:=mB.mq (by omega) (fun q hq=>qr3 Xhro2.o q.1 (by rw [←rB];exact mem_map.2 ⟨q,hq,rfl⟩));have hmA:=qqr hinA (Nat.le_refl _) hokA;have hmB:=qqr hinB (Nat.le_refl _) hokB;have hh:=q0r (c:=qdi g2 (some S1)) (cN:=qdi g2 (some S2)) Xhkj.o (qnd Xhkj.o);rw [show qd0 (qcu r.body (fun _=>qdi g2 (some S1)) (qdi g2 (some S2))) r=qA.map (·.1) from XrA.o.symm,show qd0 (qcu (qbb r).body (fun _=>qdi g2 (some S1)) (qdi g2 (some S2))) (qbb r)=qB.map (·.1) from rB.symm]at hh;obtain⟨a5,c5,rfl⟩:=qi mA7.own;obtain⟨a7,c7,rfl⟩:=qi mB.own;obtain⟨ja,jb,jc,jd,je,jf,hjV⟩:=(XhjA5.o.step Xs6.o).step s7;obtain⟨ka,kb',kc,kd',ke,kf,hkV⟩:=(XhjB5.o.step Xs6.o).step s7;have hv1:=qjz hjV (Nat.le_refl _);have hvl:=q3y r;have kN7:Keep (fun b=>b<N) w Z7:=XkN1.o.trans ((Xq1.o.mono fun _ _ _=>trivial).trans ((Xs2.o.keep.mono fun b _ h=>Xfr1.o b (by omega)).trans ((Xs4.o.keep.mono fun b _ h=>Xfr2.o b (by omega)).trans ((Xs5.o.keep.mono fun b _ h=>Xfr2.o b (by omega)).trans ((Xs6.o.keep.mono fun b hb h=>Xs5.o.new b (by omega) (Xfr2.o b (by omega))).trans (s7.keep.mono fun b hb h=>Xs5.o.new b (by omega) (Xfr2.o b (by omega))))))));have hne:((qA.length:Int) !=qB.length)=false:=by rw [hll];simp
        have hne2:(((qad r).length:Int) !=(qad (qbb r)).length)=false:=by rw [hvl];simp
        have hZN:N<=Z7.heap.size:=by omega
        clear hinA hokA hinB hokB mA7 mB rB hlk s7 t7 hjV hll hvl hlA;refine hd6 ?_ hmA hmB hh hv1 kN7 hkV;clear hmA hmB hh hv1 kN7 hkV;intro XhmA XhmB Xhh Xhv1 XkN7 XhkV;gi_wp2;refine⟨trivial,rfl,(callsIn_wide.2 Xhv1.o).mono ?_⟩;rintro e Z8 ⟨vo1,rfl,ho1,k8⟩;obtain⟨ao1,co1,rfl⟩:=qi ho1;have hv2:=qjz (XhkV.o.keep k8 (fun _ _=>trivial) (fun b hb=>hb.1)) k8.size;clear ho1;refine hd2 ?_ k8 hv2;clear k8 hv2;intro Xk8 Xhv2;gi_wp2;refine⟨trivial,rfl,(callsIn_wide.2 Xhv2.o).mono ?_⟩;rintro e Z9 ⟨vo2,rfl,ho2,k9⟩;obtain⟨ao2,co2,rfl⟩:=qi ho2;have k79:=Xk8.o.trans k9;have hc1:=qsk (XhmA.o.keep (k79.mono fun _ _ _=>trivial)) (XhmB.o.keep (k79.mono fun _ _ _=>trivial)) k79.size;rw [Xhh.o.1]at hc1;clear ho2;refine hd3 ?_ k9 k79 hc1;clear k9 k79 hc1;intro Xk9 Xk79 Xhc1;gi_wp2;refine⟨trivial,rfl,(callsIn_wide.2 Xhc1.o).mono ?_⟩;rintro e ZA ⟨rfl,kA⟩;have k7A:=Xk79.o.trans kA;have hc2:=qsk (XhmB.o.keep (k7A.mono fun _ _ _=>trivial)) (XhmA.o.keep (k7A.mono fun _ _ _=>trivial)) k7A.size;rw [Xhh.o.2]at hc2;refine hd3 ?_ kA k7A hc2;clear kA k7A hc2;intro XkA Xk7A Xhc2;gi_wp2;refine⟨trivial,rfl,(callsIn_wide.2 Xhc2.o).mono ?_⟩;rintro e ZB ⟨rfl,kB⟩;refine hd1 ?_ kB;clear kB;intro XkB;gi_wp2;refine⟨trivial,rfl,(callsIn_wide.2 (qkr ZB)).mono ?_⟩;rintro e ZC ⟨rfl,kC⟩;refine hd1 ?_ kC;clear kC;intro XkC;gi_wp2;refine bodyPost_ret (v:=.bool true) (by simp [results,Tryz.results4,go_sem]) rfl ⟨rfl,?_⟩;rw [XhN.o];exact XkN7.o.trans (((Xk7A.o.trans XkB.o).mono fun _ _ _=>trivial).trans (XkC.o.mono fun b _ h=>by have:=Xk7A.o.size;have:=XkB.o.size;omega))
end Go.Proofs
