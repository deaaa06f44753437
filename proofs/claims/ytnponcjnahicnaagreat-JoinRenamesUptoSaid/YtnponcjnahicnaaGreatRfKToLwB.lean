/- Parts of the proof. -/
import Derived.Test.YtnponcjnahicnaaGreatProg
import Derived.Test.YtnponcjnahicnaaGreatRfIToRfJ
import Derived.Test.YtnponcjnahicnaaGreatHdToKp
import Derived.Test.YtnponcjnahicnaaGreatHoistToRowC
import Derived.Laws.Concat
set_option linter.unusedSimpArgs false
set_option linter.unusedVariables false
open Go.Proofs.Tryz(prog)
open List(any_append drop_eq_getElem_cons drop_length flatMap_append foldl_append getElem?_eq_getElem getElem?_map length_append length_map length_take map_append mem_append mem_of_getElem? mem_of_mem_take mem_singleton nil_append perm_append_singleton perm_middle take_add_one take_append_drop take_length take_of_length_le)
namespace Go.Proofs
open Go.RowKit Go.Ink Go.Flt R4 P16
attribute [local go_sem] Oper.semAt_some
def q7p (n:Nat)(w:World)(b o:Nat)(m:qat):Prop:= ∃vh vv,CellsE w b o [vh,vv]/\qaf n w vh m.head/\qaf n w vv m.vals
abbrev MatchesIn (n:Nat)(w:World)(v:Value)(ms:List qat):Prop:=SliceIn n w 2 (q7p n) v ms
theorem MatchesIn.keep {n:Nat}{w w':World}{v:Value}{ms:List qat}(h:MatchesIn n w v ms)(hK:Keep (fun k=>k<n) w w'):MatchesIn n w' v ms:=
 h.mono fun b o s hb ⟨vh,vv,h1,h2,h3⟩=>⟨vh,vv,fun j v hj=>hK.cell (h1 j v hj) hb,qck h2 hK,qck h3 hK⟩
theorem qqr {n m:Nat}{w:World}{v:Value}{qs:List MQ}(h:qzh m w v qs)(hn:n<=m)(hq: ∀q,q∈qs->MqOk n w q):MatchesIn m w v (qs.map (·.1)):=by
 obtain⟨a,c,hv,hl,hc,he⟩:=h;refine⟨a,c,by rw [length_map];exact hv,by rw [length_map];exact hl,by rw [length_map];exact hc,fun i f hf=>?_⟩;rw [getElem?_map]at hf;cases hp:qs[i]? with
 |none=>rw [hp] at hf;cases hf
 |some p=>
  rw [hp]at hf;cases hf;obtain⟨b,o,e1,hb1,hcl⟩:=he i p hp;have:=hq p (mem_of_getElem? hp);exact⟨b,o,e1,hb1,p.2.1,p.2.2,hcl,qe3 this.1 hn,qe3 this.2 hn⟩
theorem q4v {ms:List qat}{k:Nat}{m:qat}(h:ms[k]?=some m):(ms.take (k+1)).foldl qee []=qee ((ms.take k).foldl qee []) m:=by
 rw [take_add_one,h,foldl_append];rfl
set_option maxRecDepth 100000 in
set_option maxHeartbeats 2000000 in
theorem q4w {α:Type}(os:List α)(k:Nat)(x:α):(os.take k++x::os.drop k).Perm (os++ [x]):=by
 refine perm_middle.trans ?_;rw [take_append_drop];exact(perm_append_singleton x os).symm
theorem qzi {n m:Nat}{w:World}{v:Value}{qs:List MQ}(hv:qzh m w v qs)(hq: ∀q,q∈qs->MqOk n w q)(hn:n<=m)(hm:m<=w.heap.size)(hlen:qs.length<1073741824):
  Calls prog 20 #[v] w fun e w'=> ∃v',e=.returned v'/\Keep (fun b=>b<w.heap.size) w w'/\ ∃os:List MQ,w'.ownsRow w.heap.size 48 2 v' os.length (os.flatMap qau)/\os.map (·.1)=qgo (qs.map (·.1))/\os.Perm qs:=by
 obtain⟨al,cl,rfl,hll,hcl,hel⟩:=id hv;obtain⟨N,hN⟩:=ex (w.heap.size);obtain⟨W0,hW0⟩:=ex (w.alloc (.cells #[.string ⟨#[]⟩,.slice none 0 0,.slice none 0 0,.slice none 0 0,.slice none 0 0,.slice none 0 0,.pointer none,.slice none 0 0] 132));have k0:Keep (fun _=>True) w W0:=by rw [←hW0];exact kAl
 have p0:W0.heap[N]?=some (.cells #[.string ⟨#[]⟩,.slice none 0 0,.slice none 0 0,.slice none 0 0,.slice none 0 0,.slice none 0 0,.pointer none,.slice none 0 0] 132 (0,0)):=by rw [←hW0,←hN];exact qh _ _
 have z0:W0.heap.size=N+1:=by rw [←hW0,←hN];simp
 refine hd7 ?_ hv hel hq hN hW0 k0 p0;clear hv hel hq hN hW0 k0 p0;intro Xhv Xhel Xhq XhN XhW0 Xk0 Xp0
 go_enter Tryz.func20,Tryz.ntmps20
 go_wp2_with fail;rw [XhW0.o,XhN.o]
 go_loopw [4] (fun ix wr=> ∃(k:Nat) (vo:Value) (os:List MQ),k<=qs.length/\ix=.int .i64 (k:Int)/\Keep (fun b=>b<N) w wr/\wr.heap[N]?=some (.cells #[.string ⟨#[]⟩,.slice none 0 0,.slice none 0 0,.slice none 0 0,.slice none 0 0,.slice none 0 0,.pointer none,vo] 132 (0,0))/\
  wr.ownsRow (N+1) 48 2 vo os.length (os.flatMap qau)/\os.map (·.1)=((qs.map (·.1)).take k).foldl qee []/\os.Perm (qs.take k)) (fun i _=>qs.length-(intOf i).toNat)
 case atStart=>exact⟨0,.slice none 0 0,[],by omega,rfl,Xk0.o.mono fun _ _ _=>trivial,Xp0.o,World.ownsRow_nil _ _ _ _,rfl,.nil⟩
 case round=>
  obtain⟨k,vo,os,hk,rfl,hK,hB,hO,hsort,hpm⟩:=hrel;have hsub: ∀q,q∈os->q∈qs:=fun q h=>mem_of_mem_take (hpm.mem_iff.1 h);have hol:os.length=k:=by rw [hpm.length_eq,length_take];omega
  have hBw:=qe hB;have hk0:(0:Int)<=k:=by omega
  have hszk:=hK.size;by_cases hlt:k<qs.length
  ·have hlt1:(k:Int)<qs.length:=by omega
   obtain⟨q,hqk⟩: ∃q,qs[k]?=some q:=⟨_,getElem?_eq_getElem hlt⟩;obtain⟨b,o,rfl,hb,hcells⟩:=Xhel.o k q hqk;have hok:=Xhq.o q (mem_of_getElem? hqk);have hqm:=mem_of_getElem? hqk;have hbN:b<N:=by have:=XhN.o;omega
   have f0:=hK.cell (hcells 0 _ rfl) hbN;have f1:=hK.cell (hcells 1 _ rfl) hbN;simp only [Nat.add_zero]at f0;have hbw:b<wr.heap.size:=by omega
   obtain⟨m1,vh,vv⟩:=q;have kn:Keep (fun b=>b<n) w wr:=hK.mono fun b _ h=>by have:=XhN.o;omega
   have hcall:=q6q (n:=n) (base:=N+1) hB hO (by omega) (by have:=XhN.o;omega) (by omega) (fun q h=>(Xhq.o q (hsub q h)).keep kn) (hok.keep kn) (by omega);have hmk:(qs.map (·.1))[k]?=some m1:=by rw [getElem?_map,hqk];rfl
   have hsn:=q4v hmk;obtain⟨ah,ch,hvh,-,-,-⟩:=id hok.1;obtain⟨av,cv,hvv,-,-,-⟩:=id hok.2;simp only at hvh hvv f0 f1;subst hvh;subst hvv;clear hcells hok hmk kn hsub hol hqm;refine hd8 ?_ hcall hK hB hO hsort hpm hsn hqk;clear hcall hK hB hO hsort hpm hsn hqk;intro Xhcall XhK XhB XhO Xhsort Xhpm Xhsn Xhqk;go_wp2_with fail;refine Xhcall.o.mono ?_;rintro e W2 ⟨v0,vo',kk,rfl,hB2,hk2,hO2,hput⟩;have hK2:=XhK.o.trans (hk2.mono fun b _ h=>⟨by omega,by omega⟩);have hsort2:(os.take kk++((m1,.slice ah m1.head.length ch,.slice av m1.vals.length cv):MQ)::os.drop kk).map (·.1)=((qs.map (·.1)).take (k+1)).foldl qee []:=by
    rw [Xhsn.o,←Xhsort.o,hput]
   have hpm2:(os.take kk++((m1,.slice ah m1.head.length ch,.slice av m1.vals.length cv):MQ)::os.drop kk).Perm (qs.take (k+1)):=by
    rw [take_add_one,Xhqk.o];exact(q4w _ _ _).trans (Xhpm.o.append (.refl _))
   clear hk2 hput;refine hd5 ?_ hB2 hO2 hK2 hsort2 hpm2;clear hB2 hO2 hK2 hsort2 hpm2;intro XhB2 XhO2 XhK2 Xhsort2 Xhpm2;go_wp2_with fail;go_roundw
   case rel=>exact⟨k+1,_,_,by omega,by go_num,XhK2.o,XhB2.o,XhO2.o,Xhsort2.o,Xhpm2.o⟩
   case measure=>simp [intOf];omega
  ·obtain rfl:k=qs.length:=by omega
   have d7:=qb hB 7 _ rfl;simp only [Nat.zero_add]at d7;rw [take_of_length_le (by simp)]at hsort;rw [take_length]at hpm;obtain⟨ao,co,rfl⟩:=qi hO;have hO2:=hO.mono (show N<=N+1 by omega);clear hlt hsub;refine hd7 ?_ hK hB hO hsort hpm hO2 hol;clear hK hB hO hsort hpm hO2 hol;intro XhK XhB XhO Xhsort Xhpm XhO2 Xhol;go_wp2_with fail;go_ret;exact⟨.slice ao os.length co,rfl,by rw [XhN.o];exact XhK.o,os,by rw [XhN.o];exact XhO2.o,Xhsort.o,Xhpm.o⟩
set_option maxRecDepth 100000 in
set_option maxHeartbeats 2000000 in
theorem qop {w:World}{m:Nat}{v:Value}(p:ByteArray){ts:List TermD}(h:qak m w v ts)(hm:m<=w.heap.size):Calls prog 44 #[.agg #[.string p,v]] w fun e w'=> ∃v',e=.returned (.agg #[.string p,v'])/\w'.ownsRow w.heap.size 60 2 v' ts.length (qo ts)/\Keep (fun _=>True) w w':=by
 obtain⟨a,c,rfl,hl,hc,he⟩:=id h;obtain⟨N,hN⟩:=ex (w.heap.size);obtain⟨W0,hW0⟩:=ex ((w.alloc (.cells #[.string p,.slice a ts.length c] 24)).alloc (.cells #[.string ⟨#[]⟩,.slice none 0 0] 24));have k0:Keep (fun _=>True) w W0:=by rw [←hW0];exact kAl.trans kAl
 have z0:W0.heap.size=N+2:=by rw [←hW0,←hN];simp
 have p0:W0.heap[N]?=some (.cells #[.string p,.slice a ts.length c] 24 (0,0)):=by rw [←hW0,←hN];exact(Keep.alloc (fun _=>True) _ _).heap (qh w _) trivial
 have p1:W0.heap[N+1]?=some (.cells #[.string ⟨#[]⟩,.slice none 0 0] 24 (0,0)):=by
  rw [←hW0,←hN];have:=qh (w.alloc (.cells #[.string p,.slice a ts.length c] 24)) (.cells #[.string ⟨#[]⟩,.slice none 0 0] 24);rw [World.size_alloc]at this;exact this
 obtain⟨Wd,hWd⟩:=ex (W0.drew);have kd:Keep (fun _=>True) W0 Wd:=by rw [←hWd];exact kDr
 have hS: ∀X,Keep (fun b=>b<N+2) W0 X->X.cell? ⟨N,0,none⟩=some (.string p)/\X.cell? ⟨N,1,none⟩=some (.slice a ts.length c):=fun X hX=>by
  have q:=hX.heap p0 (by omega);have q0:=qb q 0 _ rfl;have q1:=qb q 1 _ rfl;simp only [Nat.zero_add]at q0 q1;exact⟨q0,q1⟩
 have hzd:=kd.size;obtain⟨Wb,hWb⟩:=ex (Wd.alloc (.cells #[] 60));have kb:Keep (fun _=>True) Wd Wb:=by rw [←hWb];exact kAl
 have ob:=qh4 Wd 60 2;rw [hWb]at ob;have hzb:=kb.size;have htb:=qam h ((k0.trans (kd.trans kb)).mono fun _ _ _=>trivial);obtain⟨v5,W5,hr5,ho5,hg5,hk5⟩:=qje (P:=prog) qhv 22 ob a ts.length c (qo ts) (qa9 _) (qd5 htb).1 (qd5 htb).2 (qkv _) (by omega) (by omega);rw [nil_append,Nat.zero_add]at ho5;obtain⟨a5,c5,rfl⟩:=qi ho5;have k5:Keep (fun b=>b<Wd.heap.size) Wb W5:=hk5.mono fun b _ h e=>by
  rcases hg5 b e with h1 |h1
  ·simp [Value.ownBlock]at h1;omega
  ·omega
 have k05:Keep (fun b=>b<N+2) W0 W5:=((kd.trans kb).mono fun _ _ _=>trivial).trans (k5.mono fun b _ h=>by omega);have b1:=k05.heap p1 (by omega);have d0:=qb b1 0 _ rfl;have d1:=qb b1 1 _ rfl;have f0:=qf b1 0;have f1:=qf b1 1;have l1:=qe b1;simp only [Nat.zero_add]at d0 d1;obtain⟨W6,hW6⟩:=ex ((W5.setCell ⟨N+1,0,none⟩ (.string p)).setCell ⟨N+1,1,none⟩ (.slice a5 ts.length c5));have k6:Keep (fun b=>b≠N+1) W5 W6:=by rw [←hW6];exact(kSc).trans (kSc)
 have b6:W6.heap[N+1]?=some (.cells #[.string p,.slice a5 ts.length c5] 24 (0,0)):=by rw [←hW6];exact qv 1 _ (qv 0 (.string p) b1)
 have e0:=qb b6 0 _ rfl;have e1:=qb b6 1 _ rfl;have l6:=qe b6;simp only [Nat.zero_add]at e0 e1;have o6:=qg ho5 k6 (fun b hb=>by have:=(World.ownsRow.lt ho5 b hb).1;omega);have hK:Keep (fun _=>True) w W6:=((k0.mono fun _ _ _=>trivial).trans ((k05.mono fun b _ (h:b<N)=>by omega).trans (k6.mono fun b _ (h:b<N)=>by omega))).mono fun b hb _=>by omega
 have hS0:=hS Wd (kd.mono fun _ _ _=>trivial);have hS1:=hS Wb ((kd.trans kb).mono fun _ _ _=>trivial);have hS2:=hS W5 k05;have hb6:Wd.heap.size≥N:=by omega
 clear hS k05 k5 kb k6 hg5 hk5 ho5 ob htb b1 b6 he;refine qc9 ?_ h hN hW0 k0 p0 p1 hWd kd hWb hW6 hr5 o6 hK hS0 hS1 hS2;clear h hN hW0 k0 p0 p1 hWd kd hWb hW6 hr5 o6 hK hS0 hS1 hS2;intro Xh XhN XhW0 Xk0 Xp0 Xp1 XhWd Xkd XhWb XhW6 Xhr5 Xo6 XhK XhS0 XhS1 XhS2;refine qbj Tryz.func44 rfl ?_;simp only [Tryz.ntmps44,qdo,Nat.reduceAdd,Nat.reduceSub];gi_wp2;rw [XhW0.o,XhN.o];refine qaa ?_;refine qy rfl (fun X=>X.cell? ⟨N,0,none⟩=some (.string p)/\X.cell? ⟨N,1,none⟩=some (.slice a ts.length c)) [7] ?_;rw [XhWd.o];refine qag [0,1,3,4] ?_
 iterate 4
  refine tkR (v:=?_) rfl XhS0.o ?_ ?_;rotate_left
  ·rintro Wq ⟨x1,x2⟩;go_simp
   try with_reducible rfl
  try simp only [qah]
 refine qw ?_;refine hoR 2 rfl fun K XhK0=>?_;gi_wp2;rw [XhWb.o];refine XhK0.o _ _ (fun _=>XhS1.o) ?_;refine hoR 5 rfl fun K XhK1=>?_;refine qb6 rfl (.tmp 5) (.tmp 7) 22 rfl rfl rfl Xhr5.o ?_;gi_wp2;refine XhK1.o _ _ (fun _=>XhS2.o) ?_;refine hoR 6 rfl fun K XhK2=>?_;gi_wp2;refine XhK2.o _ _ (fun _=>XhS2.o) ?_;refine hoR 7 rfl fun K XhK3=>?_;gi_wp2;rw [XhW6.o];refine XhK3.o _ _ (fun h=>absurd h (by decide)) ?_;refine qj (by kernel_rfl) (ql ?_);clear XhK0 XhK1 XhK2 XhK3;gi_wp2;refine bodyPost_ret (v:=.agg #[.string p,.slice a5 ts.length c5]) (by simp [results,Tryz.results44,go_sem,e0,e1,l6]) rfl ⟨_,rfl,Xo6.o.mono (by have:=XhN.o;omega),XhK.o⟩
theorem qf9 {w:World}{base base':Nat}{e e':TypeId}{sz sz' n n':Nat}{v v':Value}{xs xs':List Value}(h:w.ownsRow base e sz v n xs)(h':w.ownsRow base' e' sz' v' n' xs')(he:e≠e'){b:Nat}(hb:v.ownBlock=some b):some b≠v'.ownBlock:=fun hb'=>by
 obtain⟨c1,t1⟩:=qaw h hb;obtain⟨c2,t2⟩:=qaw h' hb'.symm;rw [t1]at t2;injection t2 with t2
 injection t2 with _ t2 _
 exact he t2
theorem qde {w:World}{base:Nat}{e t:TypeId}{sz n B:Nat}{v:Value}{xs:List Value}{cs:Array Value}(h:w.ownsRow base e sz v n xs)(hB:w.heap[B]?=some (.cells cs t (0,0)))(he:e≠t){b:Nat}(hb:v.ownBlock=some b):b≠B:=fun hb'=>by
 subst hb';obtain⟨c1,t1⟩:=qaw h hb;rw [t1]at hB;injection hB with hB
 injection hB with _ hB _
 exact he hB
set_option maxRecDepth 100000 in
set_option maxHeartbeats 4000000 in
theorem qk7 {w:World}{n:Nat}{r:RuleD}{sh sb:Value}(hr:RuleIn n w sh sb r)(hn:n<=w.heap.size):Calls prog 10 #[qav r sh sb] w fun e w'=> ∃vh vb,e=.returned (qav r vh vb)/\RuleOwn w.heap.size 64 60 w' vh vb r/\Keep (fun b=>b<w.heap.size) w w':=by
 unfold qav;obtain⟨N,hN⟩:=ex (w.heap.size);have hth:=hr.1;obtain⟨⟨ah,capH,rfl,hlenh,hcaph,helh⟩,⟨ab,capB,rfl,hlenb,hcapb,helb⟩⟩:=id hr;obtain⟨W0,hW0⟩:=ex ((w.alloc (.cells #[.string r.head.pred,.slice ah r.head.args.length capH,.slice ab r.body.length capB] 27)).alloc (.cells #[.string ⟨#[]⟩,.slice none 0 0,.slice none 0 0] 27));have k0:Keep (fun _=>True) w W0:=by rw [←hW0];exact kAl.trans kAl
 have z0:W0.heap.size=N+2:=by rw [←hW0,←hN];simp
 have p0:W0.heap[N]?=some (.cells #[.string r.head.pred,.slice ah r.head.args.length capH,.slice ab r.body.length capB] 27 (0,0)):=by rw [←hW0,←hN];exact(Keep.alloc (fun _=>True) _ _).heap (qh w _) trivial
 have p1:W0.heap[N+1]?=some (.cells #[.string ⟨#[]⟩,.slice none 0 0,.slice none 0 0] 27 (0,0)):=by
  rw [←hW0,←hN];have:=qh (w.alloc (.cells #[.string r.head.pred,.slice ah r.head.args.length capH,.slice ab r.body.length capB] 27)) (.cells #[.string ⟨#[]⟩,.slice none 0 0,.slice none 0 0] 27);rw [World.size_alloc]at this;exact this
 have d0:=qb p0 0 _ rfl;have d1:=qb p0 1 _ rfl;have d2:=qb p0 2 _ rfl;have l0:=qe p0;simp only [Nat.zero_add]at d0 d1 d2;have hcall:=qop (w:=W0) r.head.pred (qam hth (k0.mono fun _ _ _=>trivial)) (by omega);rw [z0]at hcall;refine qjf ?_ z0 hr hth helh helb hN hW0 k0 p0 p1 hcall;clear z0 hr hth helh helb hN hW0 k0 p0 p1 hcall;intro Xz0 Xhr Xhth Xhelh Xhelb XhN XhW0 Xk0 Xp0 Xp1 Xhcall
 go_enter Tryz.func10,Tryz.ntmps10
 go_wp2_with fail;rw [XhW0.o];refine Xhcall.o.mono ?_;rintro e W1 ⟨vh,rfl,oh,k1⟩;obtain⟨avh,cvh,rfl⟩:=qi oh;obtain⟨B,hB⟩:=ex (W1.heap.size);obtain⟨W2,hW2⟩:=ex (W1.alloc (.cells #[.string r.head.pred,.slice avh r.head.args.length cvh,.slice none 0 0] 27));have k2:Keep (fun _=>True) W1 W2:=by rw [←hW2];exact kAl
 have pB:W2.heap[B]?=some (.cells #[.string r.head.pred,.slice avh r.head.args.length cvh,.slice none 0 0] 27 (0,0)):=by rw [←hW2,←hB];exact qh _ _
 have z2:W2.heap.size=B+1:=by rw [←hW2,←hB];simp
 have hzB:N+2<=B:=by have:=k1.size;have:=Xz0.o;omega
 have oh2:=qg oh k2 (fun _ _=>trivial);have k02:Keep (fun _=>True) W0 W2:=k1.trans k2;clear k1 oh k2;refine hd6 ?_ hB hW2 pB oh2 k02 z2;clear hB hW2 pB oh2 k02 z2;intro XhB XhW2 XpB Xoh2 Xk02 Xz2;go_wp2_with fail;rw [XhW2.o,XhB.o,XhN.o]
 go_loopw [4] (fun ix wr=> ∃(k:Nat) (ps:List (LitD×Value)) (vb:Value),k<=r.body.length/\ix=.int .i64 (k:Int)/\Keep (fun b=>b<N+2) W0 wr/\wr.heap[B]?=some (.cells #[.string r.head.pred,.slice avh r.head.args.length cvh,vb] 27 (0,0))/\
  wr.ownsRow (N+2) 60 2 (.slice avh r.head.args.length cvh) r.head.args.length (qo r.head.args)/\wr.ownsRow (N+2) 64 7 vb ps.length (ps.flatMap qbn)/\ps.map (·.1)=r.body.take k/\ ∀p,p∈ps->wr.ownsRow (N+2) 60 2 p.2 p.1.atom.args.length (qo p.1.atom.args)) (fun i _=>r.body.length-(intOf i).toNat)
 case atStart=>exact⟨0,[],.slice none 0 0,by omega,rfl,Xk02.o.mono fun _ _ _=>trivial,XpB.o,Xoh2.o,World.ownsRow_nil _ _ _ _,rfl,fun p h=>(by cases h)⟩
 case round=>
  obtain⟨k,ps,vb,hk,rfl,hK,hbx,hoh,hob,hps,hT⟩:=hrel;have hr0:=hK.heap Xp0.o (by omega);have e0:=qb hr0 0 _ rfl;have e1:=qb hr0 1 _ rfl;have e2:=qb hr0 2 _ rfl;have hNw:=qe hr0;simp only [Nat.zero_add]at e0 e1 e2;have hszk:=hK.size;have hBw:=qe hbx;have hk0:(0:Int)<=k:=by omega
  have hpl:ps.length=k:=by
   have h1:=congrArg List.length hps;rw [length_map,length_take]at h1;omega
  by_cases hlt:k<r.body.length
  ·have hlt1:(k:Int)<r.body.length:=by omega
   obtain⟨L,hL⟩: ∃L,r.body[k]?=some L:=⟨_,getElem?_eq_getElem hlt⟩;obtain⟨b,off,rfl,hb,sa,hcl,hts⟩:=Xhelb.o k L hL;obtain⟨asa,csa,rfl,hsl,hsc,-⟩:=id hts;have kw:Keep (fun b=>b<n) w wr:=(Xk0.o.mono fun _ _ _=>trivial).trans (hK.mono fun b _ h=>by have:=XhN.o;omega);have f0:=kw.cell (hcl 0 _ rfl) hb;have f1:=kw.cell (hcl 1 _ rfl) hb;have f2:=kw.cell (hcl 2 _ rfl) hb;have f3:=kw.cell (hcl 3 _ rfl) hb;have f4:=kw.cell (hcl 4 _ rfl) hb;have f5:=kw.cell (hcl 5 _ rfl) hb;have f6:=kw.cell (hcl 6 _ rfl) hb;simp only [Nat.add_zero]at f0;have hbw:b<wr.heap.size:=by have:=XhN.o;omega
   obtain⟨M,hM⟩:=ex (wr.heap.size);obtain⟨Wl,hWl⟩:=ex (wr.alloc (.cells #[.int .i64 L.kind,.string L.atom.pred,.slice asa L.atom.args.length csa,.bool L.left.var,.string L.left.text,.bool L.right.var,.string L.right.text] 64));have kl:Keep (fun _=>True) wr Wl:=by rw [←hWl];exact kAl
   have pM:Wl.heap[M]?=some (.cells #[.int .i64 L.kind,.string L.atom.pred,.slice asa L.atom.args.length csa,.bool L.left.var,.string L.left.text,.bool L.right.var,.string L.right.text] 64 (0,0)):=by rw [←hWl,←hM];exact qh _ _
   have zl:Wl.heap.size=M+1:=by rw [←hWl,←hM];simp
   have hcall:=qop (w:=Wl) L.atom.pred (qam (qam hts kw) (kl.mono fun _ _ _=>trivial)) (by have:=XhN.o;omega);have g0:=qb pM 0 _ rfl;have g1:=qb pM 1 _ rfl;have g2:=qb pM 2 _ rfl;have g3:=qb pM 3 _ rfl;have g4:=qb pM 4 _ rfl;have g5:=qb pM 5 _ rfl;have g6:=qb pM 6 _ rfl;have hMl:=qe pM;simp only [Nat.zero_add]at g0 g1 g2 g3 g4 g5 g6;have hbM: ∀u,vb.ownBlock=some u->u<M:=fun u hu=>by have:=(World.ownsRow.lt hob u hu).2;omega
   obtain⟨avb,cvb,rfl⟩:=qi hob;have hps2: ∀v':Value,(ps++ [(L,v')]:List (LitD×Value)).map (·.1)=r.body.take (k+1):=fun v'=>by rw [map_append,hps,take_add_one,hL];rfl
   clear hcl hts kw hL hps;refine qq4 ?_ hK hbx hoh hob hT hr0 hM hWl kl pM hcall hbM hps2 hpl;clear hK hbx hoh hob hT hr0 hM hWl kl pM hcall hbM hps2 hpl;intro XhK Xhbx Xhoh Xhob XhT Xhr0 XhM XhWl Xkl XpM Xhcall XhbM Xhps2 Xhpl;go_wp2_with fail;rw [XhWl.o,XhM.o];refine Xhcall.o.mono ?_;rintro e W5 ⟨v',rfl,o5,k5⟩;obtain⟨a5,c5,rfl⟩:=qi o5;have kl5:Keep (fun _=>True) wr W5:=Xkl.o.trans k5;have pM5:=k5.heap XpM.o trivial;have m1:=qb pM5 1 _ rfl;have m2:=qb pM5 2 _ rfl;have mf1:=qf pM5 1;have mf2:=qf pM5 2;have mM5:=qe pM5;simp only [Nat.zero_add]at m1 m2;obtain⟨W6,hW6⟩:=ex ((W5.setCell ⟨M,1,none⟩ (.string L.atom.pred)).setCell ⟨M,2,none⟩ (.slice a5 L.atom.args.length c5));have k6:Keep (fun b=>b≠M) W5 W6:=by rw [←hW6];exact(kSc).trans (kSc)
   have pM6:W6.heap[M]?=some (.cells #[.int .i64 L.kind,.string L.atom.pred,.slice a5 L.atom.args.length c5,.bool L.left.var,.string L.left.text,.bool L.right.var,.string L.right.text] 64 (0,0)):=by rw [←hW6];exact qv 2 _ (qv 1 (.string L.atom.pred) pM5)
   have q0:=qb pM6 0 _ rfl;have q1:=qb pM6 1 _ rfl;have q2:=qb pM6 2 _ rfl;have q3:=qb pM6 3 _ rfl;have q4:=qb pM6 4 _ rfl;have q5:=qb pM6 5 _ rfl;have q6:=qb pM6 6 _ rfl;have qM:=qe pM6;simp only [Nat.zero_add]at q0 q1 q2 q3 q4 q5 q6;have kw6:Keep (fun b=>b<M) wr W6:=(kl5.mono fun _ _ _=>trivial).trans (k6.mono fun b _ h=>by omega);have hbx6:=kw6.heap Xhbx.o (by have:=XhM.o;omega);have s2:=qb hbx6 2 _ rfl;have hB6:=qe hbx6;simp only [Nat.zero_add]at s2;have hob6:=qg Xhob.o kw6 (fun u hu=>XhbM.o u hu);have hoh6:=qg Xhoh.o kw6 (fun u hu=>by have:=(World.ownsRow.lt Xhoh.o u hu).2;have:=XhM.o;omega);have hT6: ∀p,p∈ps->W6.ownsRow (N+2) 60 2 p.2 p.1.atom.args.length (qo p.1.atom.args):=fun p hp=>qg (XhT.o p hp) kw6 (fun u hu=>by have:=(World.ownsRow.lt (XhT.o p hp) u hu).2;have:=XhM.o;omega);have o6:=qg o5 k6 (fun u hu=>by have:=(World.ownsRow.lt o5 u hu).1;omega);obtain⟨v7,W7,hr7,ho7,hk7,g7,cap7,hv7,hg7,hl7⟩:=qc7 qlk 25 hob6 (qae L (.slice a5 L.atom.args.length c5)) rfl (by simp [qae,Value.oneCell']) (by have:=Xhpl.o;omega) (by omega);subst hv7;have tne:(60:TypeId)≠64:=by decide
   have lne:(64:TypeId)≠27:=by decide
   have tne2:(60:TypeId)≠27:=by decide
   have hbx7:=hk7.heap hbx6 (fun e=>qde hob6 hbx6 lne e.symm rfl);have t2:=qb hbx7 2 _ rfl;have ft2:=qf hbx7 2;have hB7:=qe hbx7;simp only [Nat.zero_add]at t2;have hoh7:=qg hoh6 hk7 (fun u hu=>qf9 hoh6 hob6 tne hu);have hT7: ∀p,p∈ps->W7.ownsRow (N+2) 60 2 p.2 p.1.atom.args.length (qo p.1.atom.args):=fun p hp=>qg (hT6 p hp) hk7 (fun u hu=>qf9 (hT6 p hp) hob6 tne hu);have o7:=qg o6 hk7 (fun u hu=>qf9 o6 hob6 tne hu);obtain⟨W8,hW8⟩:=ex (W7.setCell ⟨B,2,none⟩ (.slice (some ⟨g7,0,none⟩) (ps.length+1) cap7));have k8:Keep (fun b=>b≠B) W7 W8:=by rw [←hW8];exact kSc
   have hbx8:W8.heap[B]?=some (.cells #[.string r.head.pred,.slice avh r.head.args.length cvh,.slice (some ⟨g7,0,none⟩) (ps.length+1) cap7] 27 (0,0)):=by rw [←hW8];exact qv 2 _ hbx7
   have hoh8:=qg hoh7 k8 (fun u hu=>qde hoh7 hbx7 tne2 hu);have ho8:=qg ho7 k8 (fun u hu=>qde ho7 hbx7 lne hu);have hT8: ∀p,p∈ps++ [(L,Value.slice a5 L.atom.args.length c5)]->W8.ownsRow (N+2) 60 2 p.2 p.1.atom.args.length (qo p.1.atom.args):=fun p hp=>by
    rcases mem_append.1 hp with h |h
    ·exact qg (hT7 p h) k8 (fun u hu=>qde (hT7 p h) hbx7 tne2 hu)
    ·cases mem_singleton.1 h;exact(qg o7 k8 (fun u hu=>qde o7 hbx7 tne2 hu)).mono (by have:=XhM.o;omega)
   have hK8:Keep (fun b=>b<N+2) W0 W8:=XhK.o.trans ((kw6.mono fun b _ (h:b<N+2)=>by have:=XhM.o;omega).trans ((hk7.mono fun b _ (h:b<N+2)=>qfs hob6 h).trans (k8.mono fun b _ (h:b<N+2)=>by omega)));have ho9:W8.ownsRow (N+2) 64 7 (.slice (some ⟨g7,0,none⟩) (ps.length+1) cap7) (ps++ [(L,Value.slice a5 L.atom.args.length c5)]).length ((ps++ [(L,Value.slice a5 L.atom.args.length c5)]).flatMap qbn):=by
    rw [flatMap_append,length_append]
    simpa using ho8
   have hps9:=Xhps2.o (.slice a5 L.atom.args.length c5);simp only [qae]at hr7;clear k5 kl5 pM5 k6 pM6 kw6 hbx6 hob6 hoh6 hT6 o5 o6 ho7 hk7 hg7 hbx7 hoh7 hT7 o7 k8 ho8 tne lne tne2;refine hd8 ?_ hr7 hW8 hbx8 hoh8 ho9 hT8 hK8 hps9;clear hr7 hW8 hbx8 hoh8 ho9 hT8 hK8 hps9;intro Xhr7 XhW8 Xhbx8 Xhoh8 Xho9 XhT8 XhK8 Xhps9;go_wp2_with (at_builtin;refine qcs (v:=.slice avb ps.length cvb) (u:=.slice (some ⟨W6.heap.size,0,none⟩) 1 1) (v':=.slice (some ⟨g7,0,none⟩) (ps.length+1) cap7) (w':=W7) rfl (.tmp 27) (.tmp 29) 25 rfl rfl rfl Xhr7.o ?_);rw [XhW8.o];go_roundw
   case rel=>exact⟨k+1,_,_,by omega,by go_num,XhK8.o,Xhbx8.o,Xhoh8.o,Xho9.o,Xhps9.o,XhT8.o⟩
   case measure=>simp [intOf];omega
  ·obtain rfl:k=r.body.length:=by omega
   rw [take_length]at hps;have hr1:=hK.heap Xp1.o (by omega);have u0:=qb hr1 0 _ rfl;have u1:=qb hr1 1 _ rfl;have u2:=qb hr1 2 _ rfl;have fu0:=qf hr1 0;have fu1:=qf hr1 1;have fu2:=qf hr1 2;have hN1:=qe hr1;have v0:=qb hbx 0 _ rfl;have v1:=qb hbx 1 _ rfl;have v2:=qb hbx 2 _ rfl;simp only [Nat.zero_add]at u0 u1 u2 v0 v1 v2;obtain⟨avb,cvb,rfl⟩:=qi hob;rw [hpl]at hob v2;obtain⟨W8,hW8⟩:=ex (((wr.setCell ⟨N+1,0,none⟩ (.string r.head.pred)).setCell ⟨N+1,1,none⟩ (.slice avh r.head.args.length cvh)).setCell ⟨N+1,2,none⟩ (.slice avb r.body.length cvb));have k8:Keep (fun b=>b≠N+1) wr W8:=by rw [←hW8];exact((kSc).trans (kSc)).trans (kSc)
   have b8:W8.heap[N+1]?=some (.cells #[.string r.head.pred,.slice avh r.head.args.length cvh,.slice avb r.body.length cvb] 27 (0,0)):=by rw [←hW8];exact qv 2 _ (qv 1 _ (qv 0 (.string r.head.pred) hr1))
   have w0:=qb b8 0 _ rfl;have w1:=qb b8 1 _ rfl;have w2:=qb b8 2 _ rfl;have hw8:=qe b8;simp only [Nat.zero_add]at w0 w1 w2;have nn: ∀{base sz:Nat} {e:TypeId} {v:Value} {m:Nat} {xs:List Value},N+2<=base->wr.ownsRow base e sz v m xs-> ∀u,v.ownBlock=some u->u≠N+1:=fun hb h u hu=>by have:=(World.ownsRow.lt h u hu).1;omega
   have hoh8:=(qg hoh k8 (nn (Nat.le_refl _) hoh)).mono (show N<=N+2 by omega);have hob8:=(qg hob k8 (nn (Nat.le_refl _) hob)).mono (show N<=N+2 by omega);have hT8: ∀p,p∈ps->W8.ownsRow N 60 2 p.2 p.1.atom.args.length (qo p.1.atom.args):=fun p hp=>(qg (hT p hp) k8 (nn (Nat.le_refl _) (hT p hp))).mono (show N<=N+2 by omega);have hE:Keep (fun b=>b<N) w W8:=(Xk0.o.mono fun _ _ _=>trivial).trans ((hK.mono fun b _ h=>by omega).trans (k8.mono fun b _ h=>by omega));clear hlt hr1 hoh hob hT k8 b8 nn hpl;refine hd9 ?_ hK hbx hr0 hps hW8 hoh8 hob8 hT8 hE;clear hK hbx hr0 hps hW8 hoh8 hob8 hT8 hE;intro XhK Xhbx Xhr0 Xhps XhW8 Xhoh8 Xhob8 XhT8 XhE;go_wp2_with fail;rw [XhW8.o];refine bodyPost_ret (v:=.agg #[.string r.head.pred,.slice avh r.head.args.length cvh,.slice avb r.body.length cvb]) (by simp [results,Tryz.results10,go_sem,w0,w1,w2,hw8]) rfl ?_;refine⟨_,_,rfl,⟨by rw [XhN.o];exact Xhoh8.o,ps,Xhps.o,by rw [XhN.o];exact Xhob8.o,fun p hp=>by rw [XhN.o];exact XhT8.o p hp⟩,by rw [XhN.o];exact XhE.o⟩
def qd7 (x:ByteArray):ByteArray:=⟨#[82]⟩++x
def qa8 (t:TermD):TermD:=if t.var=true then ⟨true,qd7 t.text⟩ else t
set_option maxRecDepth 100000 in
theorem qi0 (t:TermD)(hz:t.text.size<=1073741824)(w:World):Calls prog 22 #[.agg #[.bool t.var,.string t.text]] w fun e w'=>e=.returned (.agg #[.bool (qa8 t).var,.string (qa8 t).text])/\Keep (fun _=>True) w w':=by
 obtain⟨v,x⟩:=t;simp only at hz;cases v with
 |false=>
  go_enter Tryz.func22,Tryz.ntmps22
  go_wp2_with fail;refine bodyPost_ret (v:=.agg #[.bool false,.string x]) (by simp [results,Tryz.results22,go_sem]) rfl ⟨rfl,kAl.trans kAl⟩
 |true=>
  have hadd: ∀w',(Op.stringOp .add ⟨#[82]⟩ x).run prog w'=.ok (.string (⟨#[82]⟩++x)) w':=fun w'=>by apply run_string_add_sum;show 1+x.size<=_;omega
  go_enter Tryz.func22,Tryz.ntmps22
  go_wp2_with fail;refine bodyPost_ret (v:=.agg #[.bool true,.string (⟨#[82]⟩++x)]) (by simp [results,Tryz.results22,go_sem]) rfl ⟨rfl,kAl.trans kAl⟩
def qii (h:List ByteArray)(bs:List qat):Bool:=bs.any fun b=>decide (h=b.head)
def qgb (ms bs:List qat):Bool:=ms.all fun a=>qii a.head bs
theorem qwt {h:List ByteArray}{bs:List qat}{k:Nat}{b:qat}(hb:bs[k]?=some b):qii h (bs.take (k+1))=(qii h (bs.take k) ||decide (h=b.head)):=by
 unfold qii;rw [take_add_one,hb,any_append];simp
theorem qzj {ms bs:List qat}{k:Nat}{a:qat}(ha:ms[k]?=some a):qgb (ms.drop k) bs=(qii a.head bs&&qgb (ms.drop (k+1)) bs):=by
 obtain⟨h1,e1⟩:=List.getElem?_eq_some_iff.1 ha;rw [drop_eq_getElem_cons h1,e1];rfl
set_option maxRecDepth 100000 in
set_option maxHeartbeats 2000000 in
theorem qsk {n:Nat}{w:World}{va vb:Value}{ms bs:List qat}(ha:MatchesIn n w va ms)(hb:MatchesIn n w vb bs)(hn:n<=w.heap.size):
  Calls prog 25 #[va,vb] w fun e w'=>e=.returned (.bool (qgb ms bs))/\Keep (fun _=>True) w w':=by
 obtain⟨aa,ca,rfl,hla,hca,hea⟩:=id ha;obtain⟨ab,cb,rfl,hlb,hcb,heb⟩:=id hb;refine hd4 ?_ ha hb hea heb;clear ha hb hea heb;intro Xha Xhb Xhea Xheb
 go_enter Tryz.func25,Tryz.ntmps25
 go_wp2_with fail
 go_loopw [5] (fun ix wr=> ∃k:Nat,k<=ms.length/\ix=.int .i64 (k:Int)/\Keep (fun _=>True) w wr/\qgb ms bs=qgb (ms.drop k) bs) (fun i _=>ms.length-(intOf i).toNat)
 case atStart=>exact⟨0,by omega,rfl,Keep.refl _ _,rfl⟩
 case round=>
  obtain⟨k,hk,rfl,hK,hall⟩:=hrel;have hk0:(0:Int)<=k:=by omega
  by_cases hlt:k<ms.length
  ·have hlt1:(k:Int)<ms.length:=by omega
   obtain⟨a,hak⟩: ∃a,ms[k]?=some a:=⟨_,getElem?_eq_getElem hlt⟩;obtain⟨b,o,rfl,hbn,xh,xv,hcl,hxh,hxv⟩:=Xhea.o k a hak;rw [qzj hak]at hall;obtain⟨ah,ch,rfl,-,-,-⟩:=id hxh;have c0:=hcl 0 _ rfl;simp only [Nat.add_zero]at c0;obtain⟨W1,hW1⟩: ∃W1,W1=wr:=⟨_,rfl⟩;rw [←hW1]at hK⊢;clear hak hcl hxv hW1;refine hd4 ?_ hK hall hxh c0;clear hK hall hxh c0;intro XhK Xhall Xhxh Xc0;go_wp2_with fail
   go_loopw [6,7] (fun vf ix wr=> ∃j:Nat,j<=bs.length/\ix=.int .i64 (j:Int)/\Keep (fun _=>True) w wr/\vf=.bool (qii a.head (bs.take j))) (fun _ i _=>bs.length-(intOf i).toNat)
   case atStart=>exact⟨0,by omega,rfl,XhK.o,rfl⟩
   case round=>
    obtain⟨j,hj,rfl,hJ,rfl⟩:=hrel;have hj0:(0:Int)<=j:=by omega
    have hs:=hJ.size;by_cases hjt:j<bs.length
    ·have hjt1:(j:Int)<bs.length:=by omega
     obtain⟨y,hyk⟩: ∃y,bs[j]?=some y:=⟨_,getElem?_eq_getElem hjt⟩;obtain⟨b2,o2,rfl,hb2,yh,yv,hcl2,hyh,hyv⟩:=Xheb.o j y hyk;have hsn:=qwt (h:=a.head) hyk;obtain⟨ah2,ch2,rfl,-,-,-⟩:=id hyh;have f0:=hJ.cell Xc0.o trivial;have f1:=hJ.cell (hcl2 0 _ rfl) trivial;simp only [Nat.add_zero]at f1;have hbw:b<wr.heap.size:=by omega
     have hbw2:b2<wr.heap.size:=by omega
     cases hfd:qii a.head (bs.take j) with
     |true=>
      rw [hfd,Bool.true_or]at hsn;clear hyk hcl2 hyh hyv hfd;refine hd2 ?_ hJ hsn;clear hJ hsn;intro XhJ Xhsn;go_wp2_with fail
      go_quiet (fail)
      go_wp2_with fail;go_roundw
      case rel=>exact⟨j+1,by omega,by go_num,XhJ.o.trans (Keep.drewN' _ _ _),by rw [Xhsn.o]⟩
      case measure=>simp [intOf];omega
     |false=>
      rw [hfd,Bool.false_or]at hsn;have hcall: ∀m,Calls prog 39 #[.slice ah a.head.length ch,.slice ah2 y.head.length ch2] (wr.drewN m) fun e w'=>e=.returned (.bool (decide (a.head=y.head)))/\ ∃m',w'=(wr.drewN m).drewN m':=fun m=>
       qhk n _ _ a.head y.head _ (qck Xhxh.o ((hJ.trans (Keep.drewN' _ _ _)).mono fun _ _ _=>trivial)) (qck hyh ((hJ.trans (Keep.drewN' _ _ _)).mono fun _ _ _=>trivial)) (by simp;omega)
      obtain⟨c,hc⟩:=ex (decide (a.head=y.head));simp only [hc]at hsn hcall;clear hyk hcl2 hyh hyv hfd hc;refine hd3 ?_ hJ hsn hcall;clear hJ hsn hcall;intro XhJ Xhsn Xhcall;go_wp2_with fail
      go_quiet ((go_at_call 39;exact Calls.quiet_of (Xhcall.o _)))
      go_wp2_with fail;go_roundw
      case rel=>exact⟨j+1,by omega,by go_num,XhJ.o.trans (Keep.drewN' _ _ _),by rw [Xhsn.o]⟩
      case measure=>simp [intOf];omega
    ·obtain rfl:j=bs.length:=by omega
     rw [take_length];cases hfd:qii a.head bs with
     |true=>
      have hall2:qgb ms bs=qgb (ms.drop (k+1)) bs:=by rw [Xhall.o,hfd];rfl
      clear hjt hfd;refine hd2 ?_ hJ hall2;clear hJ hall2;intro XhJ Xhall2;go_wp2_with fail;go_roundw
      case rel=>exact⟨k+1,by omega,by go_num,XhJ.o,Xhall2.o⟩
      case measure=>simp [intOf];omega
     |false=>
      have hall2:qgb ms bs=false:=by rw [Xhall.o,hfd];rfl
      clear hjt hfd;refine hd2 ?_ hJ hall2;clear hJ hall2;intro XhJ Xhall2;go_wp2_with fail;go_ret;exact⟨by rw [Xhall2.o];try rfl,XhJ.o⟩
  ·obtain rfl:k=ms.length:=by omega
   have hall2:qgb ms bs=true:=by rw [hall,drop_length];rfl
   clear hlt hall;refine hd2 ?_ hK hall2;clear hK hall2;intro XhK Xhall2;go_wp2_with fail;go_ret;exact⟨by rw [Xhall2.o];try rfl,XhK.o⟩
end Go.Proofs
