/- Parts of the proof. -/
import Derived.Test.YtnponcjnahicnaaGreatProg
import Derived.Test.YtnponcjnahicnaaGreatRfKToLwB
import Derived.Test.YtnponcjnahicnaaGreatHdToKp
import Derived.Test.YtnponcjnahicnaaGreatHoistToRowC
import Derived.Test.YtnponcjnahicnaaGreatEcDToCmB
set_option linter.unusedSimpArgs false
set_option linter.unusedVariables false
open Go.Proofs.Tryz(prog)
open List(append_nil flatMap_append getElem?_eq_getElem getElem?_map length_append length_map length_singleton map_append mem_append mem_cons mem_flatMap mem_of_getElem? mem_singleton not_mem_nil pairwise_append pairwise_pair take_add_one take_length)
namespace Go.Proofs
open Go.RowKit Go.Ink Go.Flt R4 P16
attribute [local go_sem] Oper.semAt_some
def qis (x:ByteArray):TermD:=⟨true,x⟩
def qj6 (x:ByteArray):Prop:=Op.bytesLess x.toList [65]=false/\(Op.bytesLess x.toList [90] ||x.toList== [90])=true
theorem q04 {xs:List ByteArray}{k:Nat}{x:ByteArray}(h:xs[k]?=some x):(xs.take (k+1)).map qis=(xs.take k).map qis++ [qis x]:=by
 rw [take_add_one,h,map_append];rfl
set_option maxRecDepth 100000 in
set_option maxHeartbeats 4000000 in
theorem qt9 {n:Nat}{w:World}{va:Value}{xs:List ByteArray}(pr:ByteArray)(ha:qaf n w va xs)(hn:n<=w.heap.size)(hx: ∀x,x∈xs->qj6 x):
  Calls prog 73 #[.string pr,va] w fun e w'=> ∃v,e=.returned (.agg #[.string pr,v])/\w'.ownsRow w.heap.size 60 2 v (xs.map qis).length (qo (xs.map qis))/\Keep (fun b=>b<w.heap.size) w w':=by
 obtain⟨N,hN⟩:=ex (w.heap.size);obtain⟨aa,ca,rfl,hla,hca,hea⟩:=id ha;obtain⟨W0,hW0⟩:=ex ((w.alloc (.cells #[.string ⟨#[]⟩,.slice none 0 0] 24)).alloc (.cells #[.string pr,.slice none 0 0] 24));have k0:Keep (fun _=>True) w W0:=by rw [←hW0];exact kAl.trans kAl
 have z0:W0.heap.size=N+2:=by rw [←hW0,←hN];simp
 have p0:W0.heap[N]?=some (.cells #[.string ⟨#[]⟩,.slice none 0 0] 24 (0,0)):=by rw [←hW0,←hN];exact(Keep.alloc (fun _=>True) _ _).heap (qh w _) trivial
 have p1:W0.heap[N+1]?=some (.cells #[.string pr,.slice none 0 0] 24 (0,0)):=by
  rw [←hW0,←hN];have:=qh (w.alloc (.cells #[.string ⟨#[]⟩,.slice none 0 0] 24)) (.cells #[.string pr,.slice none 0 0] 24);rw [World.size_alloc]at this;exact this
 refine hd8 ?_ ha hea hx hN hW0 k0 p0 p1;clear ha hea hx hN hW0 k0 p0 p1;intro Xha Xhea Xhx XhN XhW0 Xk0 Xp0 Xp1;refine qbj Tryz.func73 rfl ?_;simp only [Tryz.ntmps73,qdo,Nat.reduceAdd,Nat.reduceSub];gi_wp2;rw [XhW0.o,XhN.o];gi_loopw [6] (fun ix wr=> ∃(k:Nat) (vt:Value),k<=xs.length/\ix=.int .i64 (k:Int)/\Keep (fun b=>b<N+1) W0 wr/\wr.heap[N+1]?=some (.cells #[.string pr,vt] 24 (0,0))/\wr.ownsRow (N+2) 60 2 vt k (qo ((xs.take k).map qis))/\N+2<=wr.heap.size) (fun i _=>xs.length-(intOf i).toNat)
 case atStart=>exact⟨0,.slice none 0 0,by omega,rfl,Keep.refl _ _,Xp1.o,World.ownsRow_nil _ _ _ _,by omega⟩
 case round=>
  obtain⟨k,vt,hk,rfl,hK,hbx,hO,hz⟩:=hrel;have b1:=qb hbx 1 _ rfl;have hBw:=qe hbx;simp only [Nat.zero_add]at b1;have hk0:(0:Int)<=k:=by omega
  obtain⟨at3,ct3,rfl⟩:=qi hO;by_cases hlt:k<xs.length
  ·have hlt1:(k:Int)<xs.length:=by omega
   obtain⟨x,hxk⟩: ∃x,xs[k]?=some x:=⟨_,getElem?_eq_getElem hlt⟩;obtain⟨b,o,rfl,hb,hs⟩:=Xhea.o k x hxk;have hgr:=Xhx.o x (mem_of_getElem? hxk);obtain⟨g1,g2⟩:=hgr;have hs':w.cell? ⟨b,o+k,none⟩=some (.string x):=by have:=hs;unfold qgi at this;rw [Nat.mul_one] at this;exact this
   have f0:=hK.cell (Xk0.o.cell hs' trivial) (show b<N+1 by have:=XhN.o;omega);have hsn:=q04 hxk;have kd:Keep (fun _=>True) wr wr.drew:=kDr;obtain⟨Wd,hWd⟩:=ex (wr.drew);rw [hWd]at kd;have hzd:=kd.size;have hNd:N+1<Wd.heap.size:=by omega
   have hbd:b<Wd.heap.size:=by have:=XhN.o;omega
   have hbw:b<wr.heap.size:=by have:=XhN.o;omega
   have hOd:=qg hO kd (fun _ _=>trivial);obtain⟨v7,W7,hr7,ho7,hk7,g7,cap7,hv7,hg7,hl7⟩:=qc7 qhv 22 hOd [.bool true,.string x] rfl (by simp [Value.oneCell']) (by omega) (by omega);subst hv7;have tne:(60:TypeId)≠24:=by decide
   have hbxd:=kd.heap hbx trivial;have hbx7:=hk7.heap hbxd (fun e=>qde hOd hbxd tne e.symm rfl);have t1:=qb hbx7 1 _ rfl;have ft1:=qf hbx7 1;have hB7:=qe hbx7;simp only [Nat.zero_add]at t1;obtain⟨W8,hW8⟩:=ex (W7.setCell ⟨N+1,1,none⟩ (.slice (some ⟨g7,0,none⟩) (k+1) cap7));have k8:Keep (fun b=>b≠N+1) W7 W8:=by rw [←hW8];exact kSc
   have hbx8:W8.heap[N+1]?=some (.cells #[.string pr,.slice (some ⟨g7,0,none⟩) (k+1) cap7] 24 (0,0)):=by rw [←hW8];exact qv 1 _ hbx7
   have ho8:=qg ho7 k8 (fun u hu=>qde ho7 hbx7 tne hu);have ho9:W8.ownsRow (N+2) 60 2 (.slice (some ⟨g7,0,none⟩) (k+1) cap7) (k+1) (qo ((xs.take (k+1)).map qis)):=by
    rw [hsn,qjj];exact ho8
   have hK8:Keep (fun b=>b<N+1) W0 W8:=hK.trans ((kd.mono fun _ _ _=>trivial).trans ((hk7.mono fun b _ (h:b<N+1)=>qfs hOd (by omega)).trans (k8.mono fun b _ h=>by omega)));obtain⟨Wb,hWb⟩:=ex (Wd.alloc (.cells #[.bool true,.string x] 60));have kb:Keep (fun _=>True) Wd Wb:=by rw [←hWb];exact kAl
   have hz8:N+2<=W8.heap.size:=by have:=k8.size;have:=hk7.size;omega
   have hS0:Wd.cell? ⟨N+1,1,none⟩=some (.slice at3 k ct3)/\Wd.cell? ⟨b,o+k,none⟩=some (.string x):=⟨kd.cell b1 trivial,kd.cell f0 trivial⟩;have hS1:Wb.cell? ⟨N+1,1,none⟩=some (.slice at3 k ct3)/\Wb.cell? ⟨b,o+k,none⟩=some (.string x):=⟨kb.cell hS0.1 trivial,kb.cell hS0.2 trivial⟩;have hr7':(Builtin.append_ #[22,22] 22 #[.slice at3 k ct3,.slice (some ⟨Wd.heap.size,0,none⟩) 1 1]).run prog Wb=.ok (.slice (some ⟨g7,0,none⟩) (k+1) cap7) W7:=by rw [←hWb];exact hr7
   have hS2:W7.cell? ⟨N+1,1,none⟩=some (.slice at3 k ct3)/\W7.cell? ⟨b,o+k,none⟩=some (.string x):=⟨t1,hk7.cell hS0.2 (qfs hOd (show b<N+2 by have:=XhN.o;omega))⟩;clear hxk hs hs' hsn hOd ho7 hk7 hg7 hbxd hbx7 k8 ho8 tne kb hr7;refine q3n ?_ hK hbx hO hWd kd hWb hW8 hbx8 ho9 hK8 hS0 hS1 hS2 hr7' t1;clear hK hbx hO hWd kd hWb hW8 hbx8 ho9 hK8 hS0 hS1 hS2 hr7' t1;intro XhK Xhbx XhO XhWd Xkd XhWb XhW8 Xhbx8 Xho9 XhK8 XhS0 XhS1 XhS2 Xhr7' Xt1;gi_wp2;refine qaa ?_;refine qy rfl (fun X=>X.cell? ⟨N+1,1,none⟩=some (.slice at3 k ct3)/\X.cell? ⟨b,o+k,none⟩=some (.string x)) [22] ?_;rw [XhWd.o];refine qag [0,1,2,3,4,5,6,7,8,9,10,11,12,13,14,15,16,17,18] ?_
   iterate 19
    refine tkR (v:=?_) rfl XhS0.o ?_ ?_;rotate_left
    ·rintro Wq ⟨x1,x2⟩;go_simp
     try with_reducible rfl
    try simp only [qah]
   refine qw ?_;refine hoR 19 rfl fun K XhK0=>?_;gi_wp2;rw [XhWb.o];refine XhK0.o _ _ (fun _=>XhS1.o) ?_;refine hoR 20 rfl fun K XhK1=>?_;refine qb6 rfl (.tmp 16) (.tmp 34) 22 rfl rfl rfl Xhr7'.o ?_;gi_wp2;refine XhK1.o _ _ (fun _=>XhS2.o) ?_;refine hoR 21 rfl fun K XhK2=>?_;gi_wp2;refine XhK2.o _ _ (fun _=>XhS2.o) ?_;refine hoR 22 rfl fun K XhK3=>?_;have t1:=Xt1.o;gi_wp2;rw [XhW8.o];refine XhK3.o _ _ (fun h=>absurd h (by decide)) ?_;refine qj (by kernel_rfl) (ql ?_);clear XhK0 XhK1 XhK2 XhK3;gi_wp2;go_roundw
   case rel=>exact⟨k+1,_,by omega,by go_num,XhK8.o,Xhbx8.o,Xho9.o,hz8⟩
   case measure=>simp [intOf];omega
  ·obtain rfl:k=xs.length:=by omega
   rw [take_length]at hO;have hr1:=hK.heap Xp0.o (by omega);have u0:=qb hr1 0 _ rfl;have u1:=qb hr1 1 _ rfl;have fu0:=qf hr1 0;have fu1:=qf hr1 1;have hN1:=qe hr1;have b0:=qb hbx 0 _ rfl;simp only [Nat.zero_add]at u0 u1 b0;obtain⟨W8,hW8⟩:=ex ((wr.setCell ⟨N,0,none⟩ (.string pr)).setCell ⟨N,1,none⟩ (.slice at3 xs.length ct3));have k8:Keep (fun b=>b≠N) wr W8:=by rw [←hW8];exact(kSc).trans (kSc)
   have b8:W8.heap[N]?=some (.cells #[.string pr,.slice at3 xs.length ct3] 24 (0,0)):=by rw [←hW8];exact qv 1 _ (qv 0 (.string pr) hr1)
   have w0:=qb b8 0 _ rfl;have w1:=qb b8 1 _ rfl;have hw8:=qe b8;simp only [Nat.zero_add]at w0 w1;have hO8:=(qg hO k8 (fun u hu=>by have:=(World.ownsRow.lt hO u hu).1;omega)).mono (show N<=N+2 by omega);have hE:Keep (fun b=>b<N) w W8:=(Xk0.o.mono fun _ _ _=>trivial).trans ((hK.mono fun b _ h=>by omega).trans (k8.mono fun b _ h=>by omega));clear hlt hr1 hO k8 b8;refine hd5 ?_ hK hbx hW8 hO8 hE;clear hK hbx hW8 hO8 hE;intro XhK Xhbx XhW8 XhO8 XhE;gi_wp2;rw [XhW8.o];refine bodyPost_ret (v:=.agg #[.string pr,.slice at3 xs.length ct3]) (by simp [results,Tryz.results73,go_sem,w0,w1,hw8]) rfl ?_;refine⟨_,rfl,by rw [XhN.o,length_map];exact XhO8.o,by rw [XhN.o];exact XhE.o⟩
theorem ql1 {w:World}{B t:Nat}{xs:List ByteArray}(h:w.heap[B]?=some (.cells (xs.map Value.string).toArray t (0,0)))(hl:xs.length<=1073741824):qaf (B+1) w (.slice (some ⟨B,0,none⟩) xs.length xs.length) xs:=
 ⟨_,_,rfl,hl,⟨Nat.le_refl _,by unfold maxLen;omega⟩,fun k x hx=>⟨B,0,rfl,by omega,by
  have:=qb h k (.string x) (by rw [getElem?_map,hx];rfl);unfold qgi;rw [Nat.mul_one];exact this⟩⟩
def bX:ByteArray:=⟨#[88]⟩
def bY:ByteArray:=⟨#[89]⟩
def bZ:ByteArray:=⟨#[90]⟩
def bT:ByteArray:=⟨#[116]⟩
def bE:ByteArray:=⟨#[101]⟩
def noT:TermD:=⟨false,⟨#[]⟩⟩
def qhb:RuleD:=⟨⟨bT,[qis bX,qis bZ]⟩,[⟨1,⟨bE,[qis bX,qis bY]⟩,noT,noT⟩,⟨1,⟨bE,[qis bY,qis bZ]⟩,noT,noT⟩]⟩
theorem qxe:qj6 bX:=by unfold qj6;rw [ByteArray.toList_eq];decide
theorem qxf:qj6 bY:=by unfold qj6;rw [ByteArray.toList_eq];decide
theorem qxg:qj6 bZ:=by unfold qj6;rw [ByteArray.toList_eq];decide
set_option maxRecDepth 100000 in
set_option maxHeartbeats 4000000 in
theorem q54 (w:World):Calls prog 38 #[] w fun e w'=> ∃vh vb,e=.returned (qav qhb vh vb)/\RuleIn w'.heap.size w' vh vb qhb/\Keep (fun b=>b<w.heap.size) w w':=by
 obtain⟨N,hN⟩:=ex (w.heap.size);obtain⟨W0,hW0⟩:=ex (w.alloc (.cells #[.string ⟨#[]⟩,.slice none 0 0,.slice none 0 0] 27));have k0:Keep (fun _=>True) w W0:=by rw [←hW0];exact kAl
 have p0:W0.heap[N]?=some (.cells #[.string ⟨#[]⟩,.slice none 0 0,.slice none 0 0] 27 (0,0)):=by rw [←hW0,←hN];exact qh _ _
 have z0:W0.heap.size=N+1:=by rw [←hW0,←hN];simp
 obtain⟨W1,hW1⟩:=ex (W0.alloc (.cells #[.string ⟨#[88]⟩,.string ⟨#[90]⟩] 9));have k1:Keep (fun _=>True) W0 W1:=by rw [←hW1];exact kAl
 have p1:W1.heap[N+1]?=some (.cells #[.string ⟨#[88]⟩,.string ⟨#[90]⟩] 9 (0,0)):=by rw [←hW1,←z0];exact qh _ _
 have z1:W1.heap.size=N+2:=by rw [←hW1];simp [z0]
 have hc1:=qt9 (w:=W1) bT (ql1 (xs:= [bX,bZ]) p1 (by simp)) (by omega) (fun x hx=>by
  simp at hx;rcases hx with rfl |rfl
  ·exact qxe
  ·exact qxg)
 refine hd8 ?_ hN hW0 k0 p0 hW1 k1 p1 hc1;clear hN hW0 k0 p0 hW1 k1 p1 hc1;intro XhN XhW0 Xk0 Xp0 XhW1 Xk1 Xp1 Xhc1
 go_enter Tryz.func38,Tryz.ntmps38
 go_wp2_with fail;rw [XhW0.o,XhW1.o,XhN.o];refine Xhc1.o.mono ?_;rintro e W2 ⟨v1,rfl,o1,k2⟩;obtain⟨a1,c1,rfl⟩:=qi o1;have zb1:=k2.size;have Xk2:=Lib.hid k2;have Xo1:=Lib.hid o1;clear k2 o1;obtain⟨M3,hM3⟩: ∃M,W2.heap.size=M:=⟨_,rfl⟩;obtain⟨W3,hW3⟩: ∃W,W2.alloc (.cells #[.string ⟨#[88]⟩,.string ⟨#[89]⟩] 9)=W:=⟨_,rfl⟩;have ka3:Keep (fun _=>True) W2 W3:=by rw [←hW3];exact kAl
 have p3:W3.heap[M3]?=some (.cells #[.string ⟨#[88]⟩,.string ⟨#[89]⟩] 9 (0,0)):=by rw [←hW3,←hM3];exact qh _ _
 have za3:W3.heap.size=M3+1:=by rw [←hW3,←hM3];simp
 have hc3:=qt9 (w:=W3) bE (ql1 (xs:= [bX,bY]) p3 (by simp)) (by omega) (fun x hx=>by
  simp at hx;rcases hx with rfl |rfl
  ·exact qxe
  ·exact qxf)
 refine hd5 ?_ hM3 hW3 ka3 p3 hc3;clear hM3 hW3 ka3 p3 hc3;intro XhM3 XhW3 Xka3 Xp3 Xhc3;go_wp2_with fail;rw [XhW3.o,XhM3.o];refine Xhc3.o.mono ?_;rintro e W4 ⟨v3,rfl,o3,k4⟩;obtain⟨a3,c3,rfl⟩:=qi o3;have zb3:=k4.size;have Xk4:=Lib.hid k4;have Xo3:=Lib.hid o3;clear k4 o3;obtain⟨M5,hM5⟩: ∃M,W4.heap.size=M:=⟨_,rfl⟩;obtain⟨W5,hW5⟩: ∃W,W4.alloc (.cells #[.string ⟨#[89]⟩,.string ⟨#[90]⟩] 9)=W:=⟨_,rfl⟩;have ka5:Keep (fun _=>True) W4 W5:=by rw [←hW5];exact kAl
 have p5:W5.heap[M5]?=some (.cells #[.string ⟨#[89]⟩,.string ⟨#[90]⟩] 9 (0,0)):=by rw [←hW5,←hM5];exact qh _ _
 have za5:W5.heap.size=M5+1:=by rw [←hW5,←hM5];simp
 have hc5:=qt9 (w:=W5) bE (ql1 (xs:= [bY,bZ]) p5 (by simp)) (by omega) (fun x hx=>by
  simp at hx;rcases hx with rfl |rfl
  ·exact qxf
  ·exact qxg)
 refine hd5 ?_ hM5 hW5 ka5 p5 hc5;clear hM5 hW5 ka5 p5 hc5;intro XhM5 XhW5 Xka5 Xp5 Xhc5;go_wp2_with fail;rw [XhW5.o,XhM5.o];refine Xhc5.o.mono ?_;rintro e W6 ⟨v5,rfl,o5,k6⟩;obtain⟨a5,c5,rfl⟩:=qi o5;have zb5:=k6.size;have Xk6:=Lib.hid k6;have Xo5:=Lib.hid o5;clear k6 o5;obtain⟨M7,hM7⟩: ∃M,W6.heap.size=M:=⟨_,rfl⟩;obtain⟨W7,hW7⟩: ∃W,W6.alloc (.cells #[.int .i64 1,.string bE,.slice a3 2 c3,.bool false,.string ⟨#[]⟩,.bool false,.string ⟨#[]⟩,.int .i64 1,.string bE,.slice a5 2 c5,.bool false,.string ⟨#[]⟩,.bool false,.string ⟨#[]⟩] 64)=W:=⟨_,rfl⟩;have k7:Keep (fun _=>True) W6 W7:=by rw [←hW7];exact kAl
 have p7:W7.heap[M7]?=some (.cells #[.int .i64 1,.string bE,.slice a3 2 c3,.bool false,.string ⟨#[]⟩,.bool false,.string ⟨#[]⟩,.int .i64 1,.string bE,.slice a5 2 c5,.bool false,.string ⟨#[]⟩,.bool false,.string ⟨#[]⟩] 64 (0,0)):=by rw [←hW7,←hM7];exact qh _ _
 have z7:W7.heap.size=M7+1:=by rw [←hW7,←hM7];simp
 have kN:Keep (fun b=>b<N+1) W0 W7:=(Xk1.o.mono fun _ _ _=>trivial).trans ((Xk2.o.mono fun b _ h=>by omega).trans ((Xka3.o.mono fun _ _ _=>trivial).trans ((Xk4.o.mono fun b _ h=>by omega).trans ((Xka5.o.mono fun _ _ _=>trivial).trans ((Xk6.o.mono fun b _ h=>by omega).trans (k7.mono fun _ _ _=>trivial))))));have pN:=kN.heap Xp0.o (by omega);have d0:=qb pN 0 _ rfl;have d1:=qb pN 1 _ rfl;have d2:=qb pN 2 _ rfl;have f0:=qf pN 0;have f1:=qf pN 1;have f2:=qf pN 2;have lN:=qe pN;simp only [Nat.zero_add]at d0 d1 d2;obtain⟨W8,hW8⟩: ∃W,((W7.setCell ⟨N,0,none⟩ (.string bT)).setCell ⟨N,1,none⟩ (.slice a1 2 c1)).setCell ⟨N,2,none⟩ (.slice (some ⟨M7,0,none⟩) 2 2)=W:=⟨_,rfl⟩;have k8:Keep (fun b=>b≠N) W7 W8:=by rw [←hW8];exact((kSc).trans (kSc)).trans (kSc)
 have b8:W8.heap[N]?=some (.cells #[.string bT,.slice a1 2 c1,.slice (some ⟨M7,0,none⟩) 2 2] 27 (0,0)):=by rw [←hW8];exact qv 2 _ (qv 1 _ (qv 0 (.string bT) pN))
 have w0:=qb b8 0 _ rfl;have w1:=qb b8 1 _ rfl;have w2:=qb b8 2 _ rfl;have hw8:=qe b8;simp only [Nat.zero_add]at w0 w1 w2;have z8:=k8.size;have o1':=qg (qg Xo1.o (((Xka3.o.mono fun _ _ _=>trivial).trans ((Xk4.o.mono fun b _ (h:b<W2.heap.size)=>by have:=XhM3.o;omega).trans ((Xka5.o.mono fun _ _ _=>trivial).trans ((Xk6.o.mono fun b _ h=>by have:=XhM3.o;have:=XhM5.o;omega).trans (k7.mono fun _ _ _=>trivial)))))) (fun u hu=>(World.ownsRow.lt Xo1.o u hu).2)) k8 (fun u hu=>by have:=(World.ownsRow.lt Xo1.o u hu).1;omega);have o3':=qg (qg Xo3.o (((Xka5.o.mono fun _ _ _=>trivial).trans ((Xk6.o.mono fun b _ (h:b<W4.heap.size)=>by have:=XhM5.o;omega).trans (k7.mono fun _ _ _=>trivial)))) (fun u hu=>(World.ownsRow.lt Xo3.o u hu).2)) k8 (fun u hu=>by have:=(World.ownsRow.lt Xo3.o u hu).1;have:=XhM3.o;omega);have o5':=qg (qg Xo5.o k7 (fun _ _=>trivial)) k8 (fun u hu=>by have:=(World.ownsRow.lt Xo5.o u hu).1;have:=XhM3.o;have:=XhM5.o;omega);have b7:=k8.heap p7 (show M7≠N by have:=XhM3.o;have:=XhM5.o;omega);have hE:Keep (fun b=>b<N) w W8:=(Xk0.o.mono fun _ _ _=>trivial).trans ((kN.mono fun b _ h=>by omega).trans (k8.mono fun b _ h=>by omega));have hR:RuleIn W8.heap.size W8 (.slice a1 2 c1) (.slice (some ⟨M7,0,none⟩) 2 2) qhb:=by
  refine⟨qgx o1' rfl (by decide),some ⟨M7,0,none⟩,2,rfl,by simp [qhb],by simp [qhb,maxLen],fun k x hk=>⟨M7,0,rfl,by omega,?_⟩⟩
  match k,hk with
  |0,hk=>
   cases hk;refine⟨.slice a3 2 c3,fun j v hj=>?_,qgx o3' rfl (by decide)⟩
   match j,hj with
   |0,hj=>cases hj;exact qb b7 0 _ rfl
   |1,hj=>cases hj;exact qb b7 1 _ rfl
   |2,hj=>cases hj;exact qb b7 2 _ rfl
   |3,hj=>cases hj;exact qb b7 3 _ rfl
   |4,hj=>cases hj;exact qb b7 4 _ rfl
   |5,hj=>cases hj;exact qb b7 5 _ rfl
   |6,hj=>cases hj;exact qb b7 6 _ rfl
  |1,hk=>
   cases hk;refine⟨.slice a5 2 c5,fun j v hj=>?_,qgx o5' rfl (by decide)⟩
   match j,hj with
   |0,hj=>cases hj;exact qb b7 7 _ rfl
   |1,hj=>cases hj;exact qb b7 8 _ rfl
   |2,hj=>cases hj;exact qb b7 9 _ rfl
   |3,hj=>cases hj;exact qb b7 10 _ rfl
   |4,hj=>cases hj;exact qb b7 11 _ rfl
   |5,hj=>cases hj;exact qb b7 12 _ rfl
   |6,hj=>cases hj;exact qb b7 13 _ rfl
 clear k7 p7 kN pN k8 b8 o1' o3' o5' b7;refine hd3 ?_ hW8 hE hR;clear hW8 hE hR;intro XhW8 XhE XhR;go_wp2_with fail;rw [XhW8.o];refine bodyPost_ret (v:=.agg #[.string bT,.slice a1 2 c1,.slice (some ⟨M7,0,none⟩) 2 2]) (by simp [results,Tryz.results38,go_sem,w0,w1,w2,hw8]) rfl ?_;exact⟨_,_,rfl,XhR.o,by rw [XhN.o];exact XhE.o⟩
end Go.Proofs
namespace Go.Proofs
open Go.RowKit Go.Ink Go.Flt R4 P16
def ApartV (v u:Value):Prop:= ∀b,v.ownBlock=some b->u.ownBlock≠some b
theorem ApartV.symm {v u:Value}(h:ApartV v u):ApartV u v:=fun b hb hv=>h b hv hb
structure MqsAt (P:Nat->Prop)(w:World)(v:Value)(qs:List MQ):Prop where
 own:w.ownsRow 0 48 2 v qs.length (qs.flatMap qau)
 blk: ∀b,v.ownBlock=some b->P b
 rows: ∀q,q∈qs->w.ownsRow 0 9 1 q.2.1 q.1.head.length (q.1.head.map .string)/\w.ownsRow 0 9 1 q.2.2 q.1.vals.length (q.1.vals.map .string)
 blks: ∀q,q∈qs->(∀b,q.2.1.ownBlock=some b->P b)/\ ∀b,q.2.2.ownBlock=some b->P b
 apart:(qs.flatMap qau).Pairwise ApartV
theorem MqsAt.keep {P P' C:Nat->Prop}{w w':World}{v:Value}{qs:List MQ}(h:MqsAt P w v qs)(hK:Keep C w w')(hC: ∀b,b<w.heap.size->P b->C b/\P' b):MqsAt P' w' v qs:=
 ⟨qg h.own hK (fun b hb=>(hC b (World.ownsRow.lt h.own b hb).2 (h.blk b hb)).1),fun b hb=>(hC b (World.ownsRow.lt h.own b hb).2 (h.blk b hb)).2,
  fun q hq=>⟨qg (h.rows q hq).1 hK (fun b hb=>(hC b (World.ownsRow.lt (h.rows q hq).1 b hb).2 ((h.blks q hq).1 b hb)).1),qg (h.rows q hq).2 hK (fun b hb=>(hC b (World.ownsRow.lt (h.rows q hq).2 b hb).2 ((h.blks q hq).2 b hb)).1)⟩,
  fun q hq=>⟨fun b hb=>(hC b (World.ownsRow.lt (h.rows q hq).1 b hb).2 ((h.blks q hq).1 b hb)).2,fun b hb=>(hC b (World.ownsRow.lt (h.rows q hq).2 b hb).2 ((h.blks q hq).2 b hb)).2⟩,h.apart⟩
theorem q55 {P:Nat->Prop}(w:World):MqsAt P w (.slice none 0 0) []:=
 ⟨World.ownsRow_nil _ _ _ _,fun b hb=>(by simp [Value.ownBlock] at hb),fun q hq=>(by cases hq),fun q hq=>(by cases hq),.nil⟩
theorem MqsAt.lt {P:Nat->Prop}{w:World}{v:Value}{qs:List MQ}(h:MqsAt P w v qs): ∀x,x∈qs.flatMap qau-> ∀b,x.ownBlock=some b->b<w.heap.size:=fun x hx b hb=>by
 obtain⟨q,hq,hx⟩:=mem_flatMap.1 hx;unfold qau at hx;simp only [mem_cons,not_mem_nil,or_false]at hx;rcases hx with rfl |rfl
 ·exact(World.ownsRow.lt (h.rows q hq).1 b hb).2
 ·exact(World.ownsRow.lt (h.rows q hq).2 b hb).2
theorem MqsAt.mq {P:Nat->Prop}{w:World}{v:Value}{qs:List MQ}(h:MqsAt P w v qs)(hl:qs.length<=1073741824)(hr: ∀q,q∈qs->q.1.head.length<=1073741824/\q.1.vals.length<=1073741824):qzh w.heap.size w v qs/\ ∀q,q∈qs->MqOk w.heap.size w q:=
 ⟨q2g h.own rfl hl,fun q hq=>⟨qcw (h.rows q hq).1 (hr q hq).1,qcw (h.rows q hq).2 (hr q hq).2⟩⟩
theorem MqsAt.perm {P P':Nat->Prop}{w w':World}{v v':Value}{qs os:List MQ}{base:Nat}{C:Nat->Prop}(h:MqsAt P w v qs)(hK:Keep C w w')(hC: ∀b,b<w.heap.size->P b->C b/\P' b)(ho:w'.ownsRow base 48 2 v' os.length (os.flatMap qau))(hb: ∀b,base<=b->P' b)(hp:os.Perm qs):MqsAt P' w' v' os:=by
 have h':=h.keep hK hC;exact⟨ho.mono (Nat.zero_le _),fun b hv=>hb b (World.ownsRow.lt ho b hv).1,fun q hq=>h'.rows q (hp.mem_iff.1 hq),fun q hq=>h'.blks q (hp.mem_iff.1 hq),
  (List.Perm.pairwise_iff (fun h=>ApartV.symm h) (hp.flatMap_right qau)).2 h'.apart⟩
theorem MqsAt.snoc {P:Nat->Prop}{w:World}{v:Value}{qs:List MQ}(h:MqsAt P w v qs){m:qat}{vh vv:Value}{n:Nat}(h1:w.ownsRow n 9 1 vh m.head.length (m.head.map .string))(h2:w.ownsRow n 9 1 vv m.vals.length (m.vals.map .string))
  (hb1: ∀b,vh.ownBlock=some b->P b) (hb2: ∀b,vv.ownBlock=some b->P b) (hd: ∀b,vh.ownBlock=some b->vv.ownBlock≠some b) (hold: ∀x,x∈qs.flatMap qau-> ∀b,x.ownBlock=some b->b<n) (hl:qs.length<=1073741824) (hPn: ∀b,w.heap.size<=b->P b):
  ∃a c g cap W',v=.slice a qs.length c/\(Builtin.append_ #[41,41] 41 #[v,.slice (some ⟨w.heap.size,0,none⟩) 1 1]).run prog (w.alloc (.cells #[vh,vv] 48))=.ok (.slice (some ⟨g,0,none⟩) (qs.length+1) cap) W'/\
   MqsAt P W' (.slice (some ⟨g,0,none⟩) (qs.length+1) cap) (qs++ [(m,vh,vv)])/\Keep (fun b=>v.ownBlock≠some b) w W':=by
 obtain⟨v3,Y3,hr3,ho3,hk3,gb,cap,hv3,hgb,hgl⟩:=qc7 (P:=prog) qvb 41 h.own [vh,vv] rfl (by obtain⟨a,c,rfl⟩:=qi h1;obtain⟨a,c,rfl⟩:=qi h2;simp [Value.oneCell']) (by omega) (Nat.zero_le _);subst hv3;obtain⟨a,c,hv⟩:=qi h.own;refine⟨a,c,gb,cap,Y3,hv,hr3,⟨?_,fun b hb=>?_,fun q hq=>?_,fun q hq=>?_,?_⟩,hk3.mono fun b _ h e=>h e.symm⟩
 ·rw [length_append,length_singleton,flatMap_append];exact ho3
 ·have hb':gb=b:=by simpa [Value.ownBlock] using hb
  subst hb';rcases hgb with hg |hg
  ·exact h.blk _ hg
  ·exact hPn _ hg
 ·have key: ∀{x:Value} {t:List ByteArray} {base:Nat},w.ownsRow base 9 1 x t.length (t.map .string)->Y3.ownsRow 0 9 1 x t.length (t.map .string):=fun hx=>(qg hx hk3 (fun b hb e=>qdr hx h.own (by decide) hb e.symm)).mono (Nat.zero_le _);rcases mem_append.1 hq with hq |hq
  ·exact⟨key (h.rows q hq).1,key (h.rows q hq).2⟩
  ·rw [mem_singleton.1 hq];exact⟨key h1,key h2⟩
 ·rcases mem_append.1 hq with hq |hq
  ·exact h.blks q hq
  ·rw [mem_singleton.1 hq];exact⟨hb1,hb2⟩
 ·rw [flatMap_append,pairwise_append];refine⟨h.apart,?_,fun x hx y hy b hb hy'=>?_⟩
  ·show [vh,vv].Pairwise ApartV;rw [pairwise_pair];exact hd
  ·have h3:=hold x hx b hb;have hy2:y=vh∨y=vv:=by simpa [qau] using hy
   rcases hy2 with rfl |rfl
   ·have:=(World.ownsRow.lt h1 b hy').1;omega
   ·have:=(World.ownsRow.lt h2 b hy').1;omega
structure GWay (n0:Nat)(g:Gh)(w:World)(γ:Gh)(X:World):Prop where
 keep:Keep g.free w X
 new: ∀b,b<w.heap.size->g.free b->γ.free b
 held: ∀b,b<n0->γ.held b=g.held b
 st:γ.st=g.st
theorem GWay.refl {n0:Nat}{g:Gh}{w X:World}(h:Keep (fun _=>True) w X):GWay n0 g w g X:=⟨h.mono fun _ _ _=>trivial,fun _ _ h=>h,fun _ _=>rfl,rfl⟩
theorem GWay.stay {n0:Nat}{g γ:Gh}{w X Y:World}{C:Nat->Prop}(h:GWay n0 g w γ X)(hK:Keep C X Y)(hC: ∀b,b<w.heap.size->C b):GWay n0 g w γ Y:=
 ⟨⟨hK.os.trans h.keep.os,hK.tape.trans h.keep.tape,hK.output.trans h.keep.output,Nat.le_trans h.keep.size hK.size,fun k hk hf=>(hK.block k (Nat.lt_of_lt_of_le hk h.keep.size) (hC k hk)).trans (h.keep.block k hk hf)⟩,h.new,h.held,h.st⟩
theorem GWay.step {n0:Nat}{Ss:List Nat}{g γ γ':Gh}{w X Y:World}(h:GWay n0 g w γ X)(hs:(qbz n0 Ss).istep γ X γ' Y):GWay n0 g w γ' Y:=
 ⟨⟨hs.1.keep.os.trans h.keep.os,hs.1.keep.tape.trans h.keep.tape,hs.1.keep.output.trans h.keep.output,Nat.le_trans h.keep.size hs.1.keep.size,fun k hk hf=>(hs.1.keep.block k (Nat.lt_of_lt_of_le hk h.keep.size) (h.new k hk hf)).trans (h.keep.block k hk hf)⟩,
  fun b hb hf=>hs.1.new b (Nat.lt_of_lt_of_le hb h.keep.size) (h.new b hb hf),fun b hb=>(hs.1.held b hb).trans (h.held b hb),hs.2.trans h.st⟩
theorem GWay.gstep {n0:Nat}{g γ:Gh}{w X:World}(h:GWay n0 g w γ X)(hi:GInv γ X):GStep n0 g w γ X:=
 ⟨h.keep,fun S c hS=>⟨[],by rw [append_nil,h.st];exact hS⟩,h.new,h.held,hi⟩
theorem qdp {g:Gh}{w:World}(h:GInv g w){b:Nat}(hb:w.heap.size<=b):g.free b:=by
 refine⟨?_,?_⟩
 ·cases e:g.tag b with
  |none=>rfl
  |some T=>have:=h.lt b T e;omega
 ·cases e:g.held b with
  |none=>rfl
  |some o=>have:=qe (h.hold b o e);omega
end Go.Proofs
