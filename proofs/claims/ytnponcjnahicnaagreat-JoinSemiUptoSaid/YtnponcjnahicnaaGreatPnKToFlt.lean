/- Parts of the proof. -/
import Derived.Test.YtnponcjnahicnaaGreatProg
import Derived.Test.YtnponcjnahicnaaGreatPnDToPnJ
import Derived.Test.YtnponcjnahicnaaGreatHdToKp
import Derived.Test.YtnponcjnahicnaaGreatHoistToRowC
import Derived.Laws.FloatArith
set_option linter.unusedSimpArgs false
set_option linter.unusedVariables false
open Go.Proofs.Tryz(prog)
open List(all_eq_true any_eq_false append_nil eq_nil_of_length_eq_zero filter_append filter_cons filter_filter filter_map filter_nil foldl_append foldl_cons getElem?_eq_getElem length_append length_filter_le length_map length_take length_zipIdx map_append mem_append mem_filter mem_map mem_singleton nodup_cons setIfInBounds_toArray set_cons_succ set_cons_zero take_add_one take_length take_of_length_le zipIdx_append zipIdx_cons zipIdx_nil)
namespace Go.Proofs.P16
open Go.RowKit Go.Ink
attribute [local go_sem] Oper.semAt_some
theorem q50:qce prog 86 3 1 8:=qcx (z:=.int .i64 0) (by kernel_rfl) (by kernel_rfl) rfl (by decide) (by decide)
theorem qqy:qce prog 46 9 1 16:=qcx (z:=.string ⟨#[]⟩) (by kernel_rfl) (by kernel_rfl) rfl (by decide) (by decide)
def qbk (K:List ByteArray)(ts:List TermD):List Int:=(ts.zipIdx.filter fun p=>!qcf K p.1).map fun p=>(p.2:Int)
def qb1 (K:List ByteArray)(ts:List TermD):List ByteArray:=qa9 ((ts.filter (qcf K)).map (·.text))
theorem qv0 (K:List ByteArray)(ts:List TermD){k:Nat}{t:TermD}(h:ts[k]?=some t):qbk K (ts.take (k+1))=qbk K (ts.take k)++if qcf K t then [] else [(k:Int)]:=by
 have hl:(ts.take k).length=k:=by rw [length_take];have:=(List.getElem?_eq_some_iff.1 h).1;omega
 unfold qbk;rw [take_add_one,h,zipIdx_append,filter_append,map_append,hl];simp only [Option.toList_some,zipIdx_cons,zipIdx_nil,filter_cons,filter_nil];cases qcf K t<;>simp
theorem q0z (K:List ByteArray)(ts:List TermD){k:Nat}{t:TermD}(h:ts[k]?=some t):qb1 K (ts.take (k+1))=if qcf K t then (if t.text∈qb1 K (ts.take k) then qb1 K (ts.take k) else qb1 K (ts.take k)++ [t.text]) else qb1 K (ts.take k):=by
 unfold qb1;rw [take_add_one,h,filter_append,map_append];simp only [Option.toList_some,filter_cons,filter_nil];cases qcf K t
 ·simp
 ·simp [qhs]
theorem qls (K:List ByteArray)(ts:List TermD):(qbk K ts).length<=ts.length:=by
 unfold qbk;rw [length_map];refine Nat.le_trans (length_filter_le _ _) ?_;rw [length_zipIdx];exact Nat.le_refl _
theorem qlt (K:List ByteArray)(ts:List TermD):(qb1 K ts).length<=ts.length:=by
 unfold qb1;refine Nat.le_trans (qml _) ?_;rw [length_map];exact length_filter_le _ _
structure qdd where
 lit:Int
 bound:List Int
 new:List ByteArray
 deriving DecidableEq,Inhabited
def qbe (K:List ByteArray)(L:LitD)(i:Int):qdd:=if L.kind=3 then ⟨i,[],[]⟩ else ⟨i,qbk K L.atom.args,qb1 K L.atom.args⟩
def qkh (s:qdd)(bv nv:Value):Value:=.agg #[.int .i64 s.lit,bv,nv]
def qc0 (K:List ByteArray)(new:List ByteArray):List ByteArray:=new.foldl (fun acc x=>if x∈acc then acc else acc++ [x]) K
theorem qv1 (K l:List ByteArray){k:Nat}{x:ByteArray}(h:l[k]?=some x):qc0 K (l.take (k+1))=if x∈qc0 K (l.take k) then qc0 K (l.take k) else qc0 K (l.take k)++ [x]:=by
 unfold qc0;rw [take_add_one,h,foldl_append]
 rfl
theorem q51 {w:World}{M:Nat}{K:List ByteArray}(hS:SetIn w M K){b o:Nat}{v:Value}(h:w.cell? ⟨b,o,none⟩=some v):b≠M:=by
 rintro rfl;obtain⟨es,c,h1,-⟩:=hS;simp [World.cell?,h1]at h
set_option maxRecDepth 100000 in
theorem qrw (n M:Nat)(K:List ByteArray)(s:qdd)(bv nv:Value)(w:World)(hS:SetIn w M K)(hn:qae n w nv s.new)(hnw:n<=w.heap.size):
  Calls prog 150 #[.map (some M),qkh s bv nv] w fun e w'=>e=.returned (.tuple #[])/\SetIn w' M (qc0 K s.new)/\Keep (fun b=>b≠M) w w':=by
 obtain⟨i,bd,new⟩:=s;unfold qkh;simp only at hn⊢;obtain⟨a,c,rfl,hlen,hcap,hel⟩:=id hn;have hM:=hS.lt;clear hn;refine hd2 ?_ hel hS;clear hel hS;intro Xhel XhS
 go_enter Tryz.func150,Tryz.ntmps150
 go_wp2_with fail
 go_loopw [9] (fun i wr=> ∃k:Nat,k<=new.length/\i=.int .i64 (k:Int)/\Keep (fun b=>b≠M) w wr/\SetIn wr M (qc0 K (new.take k))) (fun i _=>new.length-(intOf i).toNat)
 case atStart=>exact⟨0,by omega,rfl,kAl,XhS.o.keep (Keep.alloc (fun _=>True) _ _) trivial⟩
 case round=>
  obtain⟨k,hk,rfl,hK,hs⟩:=hrel;have hsz:=hK.size;by_cases hlt:k<new.length
  ·have hlt1:(k:Int)<new.length:=by omega
   have hk0:(0:Int)<=k:=by omega
   obtain⟨x,hx⟩: ∃x,new[k]?=some x:=⟨_,getElem?_eq_getElem hlt⟩;obtain⟨b,o,rfl,hb,f1⟩:=Xhel.o k x hx;have hbM:=q51 XhS.o f1;have f2:=hK.cell f1 hbM;simp only [Nat.mul_one]at f2;have hbw:b<wr.heap.size:=by omega
   obtain⟨W1,hr1,hs1,hk1,hz1⟩:=qia (P:=prog) (T:=237) (K:=9) (E:=4) Tryz.underlying237 Tryz.underlying9 hs x;rw [←qv1 K new hx]at hs1;have hK1:=hK.trans hk1;clear f1 hk1 hx hs hz1;refine hd3 ?_ hK hs1 hK1;clear hK hs1 hK1;intro XhK Xhs1 XhK1;go_wp2_with fail;go_roundw
   case rel=>exact⟨k+1,by omega,by go_num,XhK1.o,Xhs1.o⟩
   case measure=>simp [intOf];omega
  ·obtain rfl:k=new.length:=by omega
   rw [take_length]at hs;refine hd2 ?_ hK hs;clear hK hs;intro XhK Xhs;go_wp2_with fail;refine bodyPost_end (results_none rfl _ _ _) rfl ?_;exact⟨rfl,Xhs.o,XhK.o⟩
theorem qav {w:World}{base:Nat}{e:TypeId}{sz n:Nat}{v:Value}{xs:List Value}(h:w.ownsRow base e sz v n xs){b:Nat}(hb:v.ownBlock=some b): ∃cs,w.heap[b]?=some (.cells cs e (0,0)):=by
 rcases h.2 with ⟨rfl,_⟩ |⟨g,cap,cur,rfl,_,hg,_⟩
 ·simp [Value.ownBlock]at hb
 ·simp [Value.ownBlock]at hb;subst hb;exact⟨_,hg⟩
set_option maxRecDepth 100000 in
set_option maxHeartbeats 1000000 in
theorem qos (n M:Nat)(K:List ByteArray)(r:RuleD)(sh sb:Value)(i:Nat)(L:LitD)(hL:r.body[i]?=some L)(w:World)(hS:SetIn w M K)(hr:RuleIn n w sh sb r)(hn:n<=w.heap.size):
  Calls prog 149 #[.map (some M),qbf r sh sb,.int .i64 (i:Int)] w fun e w'=> ∃vb vn,e=.returned (.agg #[.int .i64 (i:Int),vb,vn])/\
   w'.ownsRow w.heap.size 3 1 vb (qbe K L i).bound.length ((qbe K L i).bound.map (.int .i64))/\w'.ownsRow w.heap.size 9 1 vn (qbe K L i).new.length ((qbe K L i).new.map .string)/\Keep (fun b=>b<w.heap.size) w w':=by
 obtain⟨⟨pr,args⟩,body⟩:=r;obtain⟨hh,hb⟩:=hr;unfold qbf;simp only at hh hb hL⊢;have hM:=hS.lt;obtain⟨ah,ch,rfl,-,-,-⟩:=id hh;obtain⟨ab,cb,rfl,hlb,hcb,heb⟩:=id hb;obtain⟨b,o,rfl,hbn,sa,hcl,hsa⟩:=heb i L hL;obtain⟨aa,ca,rfl,hla,hca,hea⟩:=id hsa;have hi:i<body.length:=(List.getElem?_eq_some_iff.1 hL).1;have hi1:(i:Int)<body.length:=by omega
 have hi0:(0:Int)<=i:=by omega
 have hbw:b<w.heap.size:=by omega
 have hbw1:b<w.heap.size+1:=by omega
 have hbw2:b<w.heap.size+1+1:=by omega
 have d0:=hcl 0 _ rfl;have d1:=hcl 1 _ rfl;have d2:=hcl 2 _ rfl;have d3:=hcl 3 _ rfl;have d4:=hcl 4 _ rfl;have d5:=hcl 5 _ rfl;have d6:=hcl 6 _ rfl;simp only [Nat.add_zero]at d0;clear hcl hh hb hL;obtain⟨kd,⟨prL,argsL⟩,⟨lv,lt⟩,⟨rv,rt⟩⟩:=L;simp only at d0 d1 d2 d3 d4 d5 d6 hsa hla hca hea⊢;by_cases h3:kd=3
 ·have hE:qbe K ⟨kd,⟨prL,argsL⟩,⟨lv,lt⟩,⟨rv,rt⟩⟩ i=⟨i,[],[]⟩:=by unfold qbe;rw [if_pos h3]
  subst h3;rw [hE];clear hsa hea;refine hd2 ?_ hS hE;clear hS hE;intro XhS XhE
  go_enter Tryz.func149,Tryz.ntmps149
  go_wp2_with fail;refine bodyPost_ret (v:=.agg #[.int .i64 (i:Int),.slice none 0 0,.slice none 0 0]) (by simp [results,Tryz.results149,go_sem]) rfl ?_;exact⟨_,_,rfl,World.ownsRow_nil _ _ _ _,World.ownsRow_nil _ _ _ _,((kAl.trans kAl).trans kAl).trans kAl⟩
 ·have hE:qbe K ⟨kd,⟨prL,argsL⟩,⟨lv,lt⟩,⟨rv,rt⟩⟩ i=⟨i,qbk K argsL,qb1 K argsL⟩:=by unfold qbe;rw [if_neg h3]
  rw [hE];have ho:=fun t W (h:SetIn W M K)=>qor M K t W h;have h3b:(kd==3)=false:=beq_eq_false_iff_ne.2 h3;clear heb h3;refine hd4 ?_ hS hE hea ho;clear hS hE hea ho;intro XhS XhE Xhea Xho
  go_enter Tryz.func149,Tryz.ntmps149
  go_wp2_with fail;refine qky (fun W=>Keep (fun b=>b<w.heap.size) w W/\W.heap.size=w.heap.size+1+1+1+1/\W.heap[w.heap.size+1]?=some (.cells #[.int .i64 0,.slice none 0 0,.slice none 0 0] 211 (0,0))/\
   W.heap[w.heap.size+1+1]?=some (.cells #[.int .i64 (i:Int),.slice none 0 0,.slice none 0 0] 211 (0,0))) ⟨((kAl.trans kAl).trans kAl).trans kAl,by simp,by simp only [qah,World.size_alloc];simp,by simp only [qah,World.size_alloc];simp⟩ ?_
  rintro W0 ⟨k0,z0,a1,a2⟩;refine hd3 ?_ k0 a1 a2;clear k0 a1 a2;intro Xk0 Xa1 Xa2
  go_loopw [26] (fun i' wr=> ∃(k:Nat) (vb vn:Value),k<=argsL.length/\i'=.int .i64 (k:Int)/\Keep (fun b=>b<w.heap.size+1+1) W0 wr/\wr.heap[w.heap.size+1+1]?=some (.cells #[.int .i64 (i:Int),vb,vn] 211 (0,0))/\
   wr.ownsRow W0.heap.size 3 1 vb (qbk K (argsL.take k)).length ((qbk K (argsL.take k)).map (.int .i64))/\wr.ownsRow W0.heap.size 9 1 vn (qb1 K (argsL.take k)).length ((qb1 K (argsL.take k)).map .string)) (fun i _=>argsL.length-(intOf i).toNat)
  case atStart=>exact⟨0,_,_,by omega,rfl,Keep.refl _ _,Xa2.o,World.ownsRow_nil _ _ _ _,World.ownsRow_nil _ _ _ _⟩
  case round=>
   obtain⟨k,vb,vn,hk,rfl,hK,hX,hob,hon⟩:=hrel;have hsz:=hK.size;have hxl:=qe hX;by_cases hlt:k<argsL.length
   ·have hlt1:(k:Int)<argsL.length:=by omega
    have hk0:(0:Int)<=k:=by omega
    obtain⟨x,hx⟩: ∃x,argsL[k]?=some x:=⟨_,getElem?_eq_getElem hlt⟩;obtain⟨b4,o4,rfl,hb4,q0,q1⟩:=Xhea.o k x hx;have kw:Keep (fun b=>b<w.heap.size) w wr:=Xk0.o.trans (hK.mono fun b _ h=>by omega);have f0:=kw.cell q0 (show b4<w.heap.size by omega);have f1:=kw.cell q1 (show b4<w.heap.size by omega);have hb4w:b4<wr.heap.size:=by omega
    obtain⟨W1,hW1⟩:=ex (wr.alloc (.cells #[.bool x.var,.string x.text] 60));have k1:Keep (fun _=>True) wr W1:=by rw [←hW1];exact kAl
    have g1:W1.heap[wr.heap.size]?=some (.cells #[.bool x.var,.string x.text] 60 (0,0)):=by rw [←hW1];exact qh _ _
    have hz1:=k1.size;have hbs:=qv0 K argsL hx;have hns:=q0z K argsL hx;have hoc:=Xho.o x W1 (XhS.o.keep (kw.trans (k1.mono fun _ _ _=>trivial)) hM);unfold qer at hoc;obtain⟨bo,hbo⟩: ∃b,qcf K x=b:=⟨_,rfl⟩;rw [hbo]at hbs hns hoc;have hl1:=qls K (argsL.take k);have hl2:=qlt K (argsL.take k);rw [length_take]at hl1 hl2;clear q0 q1 hbo hx;refine qiz ?_ hK hX hob hon kw hW1 k1 g1 hbs hns hoc;clear hK hX hob hon kw hW1 k1 g1 hbs hns hoc;intro XhK XhX Xhob Xhon Xkw XhW1 Xk1 Xg1 Xhbs Xhns Xhoc;go_wp2_with fail;rw [XhW1.o];refine Xhoc.o.mono ?_;rintro e W2 ⟨rfl,k2⟩;have hz2:=k2.size;have kr2:Keep (fun _=>True) wr W2:=Xk1.o.trans k2;have hX2:=kr2.heap XhX.o trivial;have ob2:=qg Xhob.o kr2 (fun _ _=>trivial);have on2:=qg Xhon.o kr2 (fun _ _=>trivial);have hl3:w.heap.size+1+1<W2.heap.size:=by omega
    have hK2:Keep (fun b=>b<w.heap.size+1+1) W0 W2:=XhK.o.trans (kr2.mono fun _ _ _=>trivial);have hX2n: ∀b,(Value.ownBlock vb=some b∨Value.ownBlock vn=some b)->b≠w.heap.size+1+1:=fun b hb=>by
     rcases hb with hb |hb
     ·have:=(World.ownsRow.lt Xhob.o b hb).1;omega
     ·have:=(World.ownsRow.lt Xhon.o b hb).1;omega
    have hbs:=Xhbs.o;have hns:=Xhns.o;have c1:=qb hX2 1 _ rfl;have c2:=qb hX2 2 _ rfl;simp only [Nat.zero_add]at c1 c2;cases bo
    ·simp only [Bool.false_eq_true,if_false]at hbs hns;obtain⟨v',W3,hr3,ho3,hk3,g,cap,hv3,hg3,hl3'⟩:=qc4 (P:=prog) q50 86 ob2 [.int .i64 (k:Int)] rfl (by simp [Value.oneCell']) (by omega) (by omega);subst hv3;have hX3:=hk3.heap hX2 (fun e=>hX2n _ (.inl e.symm) rfl);have on3:=qg on2 hk3 (fun b hb e=>by
      obtain⟨c1,t1⟩:=qav ob2 e.symm;obtain⟨c2,t2⟩:=qav on2 hb;rw [t1]at t2;cases t2)
     have d1:=qb hX3 1 _ rfl;have d1f:=qf hX3 1;simp only [Nat.zero_add]at d1;have hl4:=qe hX3;have hK3:Keep (fun b=>b<w.heap.size+1+1) W0 (W3.setCell ⟨w.heap.size+1+1,1,none⟩ (.slice (some ⟨g,0,none⟩) ((qbk K (argsL.take k)).length+1) cap)):=
      (hK2.trans (hk3.mono fun b hb h e=>by have:=(World.ownsRow.lt ob2 b e.symm).1;omega)).trans (kSc)
     have kS:Keep (fun b=>b≠w.heap.size+1+1) W3 (W3.setCell ⟨w.heap.size+1+1,1,none⟩ (.slice (some ⟨g,0,none⟩) ((qbk K (argsL.take k)).length+1) cap)):=kSc;have hX4:=q8 1 (.slice (some ⟨g,0,none⟩) ((qbk K (argsL.take k)).length+1) cap) hX3;have ob4:=qg ho3 kS (fun b hb=>by have:=(World.ownsRow.lt ho3 b hb).1;omega);have on4:=qg on3 kS (fun b hb=>by have:=(World.ownsRow.lt on3 b hb).1;omega);rw [show(qbk K (argsL.take k)).map (Value.int .i64)++ [Value.int .i64 (k:Int)]=(qbk K (argsL.take (k+1))).map (.int .i64) from by rw [hbs,map_append];rfl,show(qbk K (argsL.take k)).length+1=(qbk K (argsL.take (k+1))).length from by rw [hbs,length_append];rfl]at ob4;rw [←hns]at on4;rw [show(qbk K (argsL.take k)).length+1=(qbk K (argsL.take (k+1))).length from by rw [hbs,length_append];rfl]at hX4 hK3 hr3;simp only [setIfInBounds_toArray,set_cons_succ,set_cons_zero]at hX4;obtain⟨W4,hW4⟩:=ex (W3.setCell ⟨w.heap.size+1+1,1,none⟩ (.slice (some ⟨g,0,none⟩) (qbk K (argsL.take (k+1))).length cap));rw [show(qbk K (argsL.take k)).length+1=(qbk K (argsL.take (k+1))).length from by rw [hbs,length_append];rfl]at on4;rw [hW4]at hX4 hK3 ob4 on4;clear kS k2 kr2 ob2 on2 ho3 hk3 on3 hX3 hX2 hX2n hK2;refine hd8 ?_ hr3 hX4 hK3 ob4 on4 hbs hns hW4;clear hr3 hX4 hK3 ob4 on4 hbs hns hW4;intro Xhr3 XhX4 XhK3 Xob4 Xon4 Xhbs Xhns XhW4;go_wp2_with (at_builtin;refine qcq (v:=vb) (u:=.slice (some ⟨W2.heap.size,0,none⟩) 1 1) (v':=.slice (some ⟨g,0,none⟩) (qbk K (argsL.take (k+1))).length cap) (w':=W3) rfl (.tmp 36) (.tmp 38) 86 rfl rfl rfl Xhr3.o ?_);rw [XhW4.o];go_roundw
     case rel=>exact⟨k+1,_,_,by omega,by go_num,XhK3.o,XhX4.o,Xob4.o,Xon4.o⟩
     case measure=>simp [intOf];omega
    ·simp only [if_true,append_nil]at hbs hns;have hct:=qt5 W2.heap.size vn (qb1 K (argsL.take k)) x.text W2 (qcn on2 (by omega)) (Nat.le_refl _);have hg2:=k2.heap Xg1.o trivial;have t1:=qb hg2 1 _ rfl;simp only [Nat.zero_add]at t1;obtain⟨bi,hbi⟩: ∃b,decide (x.text∈qb1 K (argsL.take k))=b:=⟨_,rfl⟩;rw [hbi]at hct;have hl5:wr.heap.size<W2.heap.size:=qe hg2;cases bi
     ·have hni: ¬x.text∈qb1 K (argsL.take k):=of_decide_eq_false hbi;rw [if_neg hni]at hns;obtain⟨v',W3,hr3,ho3,hk3,g,cap,hv3,hg3,hl3'⟩:=qc4 (P:=prog) qqy 46 on2 [.string x.text] rfl (by simp [Value.oneCell']) (by omega) (by omega);subst hv3;have hX3:=hk3.heap hX2 (fun e=>hX2n _ (.inr e.symm) rfl);have ob3:=qg ob2 hk3 (fun b hb e=>by
       obtain⟨c1,t1⟩:=qav on2 e.symm;obtain⟨c2,t2⟩:=qav ob2 hb;rw [t1]at t2;cases t2)
      have d1:=qb hX3 2 _ rfl;have d1f:=qf hX3 2;simp only [Nat.zero_add]at d1;have hl4:=qe hX3;have hln:(qb1 K (argsL.take k)).length+1=(qb1 K (argsL.take (k+1))).length:=by rw [hns,length_append];rfl
      rw [hln]at hr3 ho3;rw [show(qb1 K (argsL.take k)).map Value.string++ [Value.string x.text]=(qb1 K (argsL.take (k+1))).map .string from by rw [hns,map_append];rfl]at ho3;rw [←hbs]at ob3;obtain⟨W4,hW4⟩:=ex (W3.setCell ⟨w.heap.size+1+1,2,none⟩ (.slice (some ⟨g,0,none⟩) (qb1 K (argsL.take (k+1))).length cap));have kS:Keep (fun b=>b≠w.heap.size+1+1) W3 W4:=by rw [←hW4];exact kSc
      have hK3:Keep (fun b=>b<w.heap.size+1+1) W0 W4:=
       (hK2.trans (hk3.mono fun b hb h e=>by have:=(World.ownsRow.lt on2 b e.symm).1;omega)).trans (kS.mono fun b _ h=>by omega)
      have hX4:=q8 2 (.slice (some ⟨g,0,none⟩) (qb1 K (argsL.take (k+1))).length cap) hX3;have on4:=qg ho3 kS (fun b hb=>by have:=(World.ownsRow.lt ho3 b hb).1;omega);have ob4:=qg ob3 kS (fun b hb=>by have:=(World.ownsRow.lt ob3 b hb).1;omega);rw [hW4]at hX4;simp only [setIfInBounds_toArray,set_cons_succ,set_cons_zero]at hX4;clear kS k2 kr2 ob2 on2 ho3 hk3 ob3 hX3 hX2 hX2n hK2 hbi hg2;refine qd9 ?_ hr3 hX4 hK3 ob4 on4 hbs hns hW4 hct hni;clear hr3 hX4 hK3 ob4 on4 hbs hns hW4 hct hni;intro Xhr3 XhX4 XhK3 Xob4 Xon4 Xhbs Xhns XhW4 Xhct Xhni;go_wp2_with fail;refine Xhct.o.mono ?_;rintro e w9 ⟨rfl,hw9⟩;have hw9:=hw9.symm;subst hw9;go_wp2_with (at_builtin;refine qcq (v:=vn) (u:=.slice (some ⟨W2.heap.size,0,none⟩) 1 1) (v':=.slice (some ⟨g,0,none⟩) (qb1 K (argsL.take (k+1))).length cap) (w':=W3) rfl (.tmp 48) (.tmp 51) 46 rfl rfl rfl Xhr3.o ?_);rw [XhW4.o];go_roundw
      case rel=>exact⟨k+1,_,_,by omega,by go_num,XhK3.o,XhX4.o,Xob4.o,Xon4.o⟩
      case measure=>simp [intOf];omega
     ·have hni:x.text∈qb1 K (argsL.take k):=of_decide_eq_true hbi;rw [if_pos hni]at hns;rw [←hbs]at ob2;rw [←hns]at on2;clear k2 kr2 hX2n hbi hg2;refine hd8 ?_ hX2 ob2 on2 hK2 hbs hns hct hni;clear hX2 ob2 on2 hK2 hbs hns hct hni;intro XhX2 Xob2 Xon2 XhK2 Xhbs Xhns Xhct Xhni;go_wp2_with fail;refine Xhct.o.mono ?_;rintro e w9 ⟨rfl,hw9⟩;have hw9:=hw9.symm;subst hw9;go_wp2_with fail;go_roundw
      case rel=>exact⟨k+1,_,_,by omega,by go_num,XhK2.o,XhX2.o,Xob2.o,Xon2.o⟩
      case measure=>simp [intOf];omega
   ·obtain rfl:k=argsL.length:=by omega
    rw [take_length]at hob hon;have hR:=hK.heap Xa1.o (show w.heap.size+1<w.heap.size+1+1 by omega);have c0:=qb hX 0 _ rfl;have c1:=qb hX 1 _ rfl;have c2:=qb hX 2 _ rfl;have e0:=qb hR 0 _ rfl;have e1:=qb hR 1 _ rfl;have e2:=qb hR 2 _ rfl;have e3:=qf hR 0;have e4:=qf hR 1;have e5:=qf hR 2;simp only [Nat.zero_add]at c0 c1 c2 e0 e1 e2;have hlr:w.heap.size+1<wr.heap.size:=by omega
    obtain⟨avb,cvb,rfl⟩:=qi hob;obtain⟨avn,cvn,rfl⟩:=qi hon;refine hd5 ?_ hK hX hob hon hR;clear hK hX hob hon hR;intro XhK XhX Xhob Xhon XhR;go_wp2_with fail;refine bodyPost_ret (v:=.agg #[.int .i64 (i:Int),.slice avb (qbk K argsL).length cvb,.slice avn (qb1 K argsL).length cvn]) (by simp [results,Tryz.results149,go_sem,e0,e1,e2,hlr]) rfl ?_;have kS:Keep (fun b=>b≠w.heap.size+1) wr (((wr.setCell ⟨w.heap.size+1,0,none⟩ (.int .i64 (i:Int))).setCell ⟨w.heap.size+1,1,none⟩ (.slice avb (qbk K argsL).length cvb)).setCell ⟨w.heap.size+1,2,none⟩ (.slice avn (qb1 K argsL).length cvn)):=
     ((kSc).trans (kSc)).trans (kSc)
    exact⟨_,_,rfl,(qg Xhob.o kS (fun b hb=>by have:=(World.ownsRow.lt Xhob.o b hb).1;omega)).mono (by omega),(qg Xhon.o kS (fun b hb=>by have:=(World.ownsRow.lt Xhon.o b hb).1;omega)).mono (by omega),
     (Xk0.o.trans (XhK.o.mono fun b _ h=>by omega)).trans (kS.mono fun b _ h=>by omega)⟩
def qi6 (ts:List TermD):List ByteArray:=qa9 ((ts.filter (·.var)).map (·.text))
theorem qym (K:List ByteArray)(ts:List TermD):(qi6 ts).all (fun x=>decide (x∈K))=!ts.any (qcf K):=by
 rw [Bool.eq_iff_iff,all_eq_true,Bool.not_eq_true',any_eq_false];unfold qi6 qcf;simp only [qrb,mem_map,mem_filter,decide_eq_true_eq,Bool.and_eq_true,Bool.not_eq_true',decide_eq_false_iff_not,not_and,Classical.not_not];constructor
 ·intro h t ht hv;exact h _ ⟨t,⟨ht,hv⟩,rfl⟩
 ·rintro h x ⟨t,⟨ht,hv⟩,rfl⟩;exact h t ht hv
def qt6 (K vs:List ByteArray):List ByteArray:=vs.filter fun x=>!decide (x∈K)
theorem qv2 (p:ByteArray->Bool)(l:List ByteArray):qa9 (l.filter p)=(qa9 l).filter p:=by
 have h: ∀n,∀l:List ByteArray,l.length=n->qa9 (l.filter p)=(qa9 l).filter p:=by
  intro n
  induction n with
  |zero=>intro l hl;have:=eq_nil_of_length_eq_zero hl;subst this;rfl
  |succ n ih=>
   intro l hl;obtain⟨x,hx⟩: ∃x,l[n]?=some x:=⟨_,getElem?_eq_getElem (by omega)⟩;have hs:l=l.take n++ [x]:=by
    have:=take_add_one (l:=l) (i:=n);rw [hx,take_of_length_le (by omega)]at this;exact this
   have ih2:=ih (l.take n) (by rw [length_take];omega);rw [hs,filter_append,qhs];by_cases hp:p x=true
   ·rw [show [x].filter p= [x]from by simp [hp],qhs,ih2];by_cases hm:x∈qa9 (l.take n)
    ·rw [if_pos hm,if_pos (mem_filter.2 ⟨hm,hp⟩)]
    ·rw [if_neg hm,if_neg (fun h=>hm (mem_filter.1 h).1),filter_append];simp [hp]
   ·rw [show [x].filter p= []from by simp [hp],append_nil,ih2];split
    ·rfl
    ·rw [filter_append];simp [hp]
 exact h _ l rfl
theorem q00 (K:List ByteArray)(ts:List TermD):qt6 K (qi6 ts)=qb1 K ts:=by
 unfold qt6 qi6 qb1 qcf;rw [←qv2]
 congr 1
 rw [filter_map]
 congr 1
 rw [filter_filter]
 congr 1
 funext t
 simp only [Function.comp];cases t.var<;>simp
theorem q01 {K:List ByteArray}{ts:List TermD}{x:ByteArray}(h:x∈qb1 K ts):x∉K:=by
 unfold qb1 at h;rw [qrb]at h;simp only [mem_map,mem_filter,qcf,Bool.and_eq_true,Bool.not_eq_true',decide_eq_false_iff_not]at h;obtain⟨t,⟨_,_,h⟩,rfl⟩:=h;exact h
theorem q02: ∀(new K:List ByteArray),new.Nodup->(∀x,x∈new->x∉K)->qc0 K new=K++new:=by
 intro new
 induction new with
 |nil=>intro K _ _;simp [qc0]
 |cons x r ih=>
  intro K hn hx;rw [nodup_cons]at hn;unfold qc0;rw [foldl_cons,if_neg (hx x (by simp))];have:=ih (K++ [x]) hn.2 (fun y hy hm=>by
   rcases mem_append.1 hm with h |h
   ·exact hx y (by simp [hy]) h
   ·simp only [mem_singleton]at h;subst h;exact hn.1 hy)
  unfold qc0 at this;rw [this];simp
theorem qyn (K:List ByteArray)(L:LitD)(i:Int):qc0 K (qbe K L i).new=K++(qbe K L i).new:=by
 unfold qbe;split
 ·simp [qc0]
 ·exact q02 _ _ (qkp _) (fun x hx=>q01 hx)
end Go.Proofs.P16
namespace Go.Flt
open Ieee
abbrev D:=Ieee.double
theorem qrx:D.binade=4503599627370496:=by decide
theorem q03:D.infRung=9218868437227405312:=by decide
theorem q52:D.signWeight=9223372036854775808:=by decide
theorem qt7:D.leastPlace= -1074:=by decide
theorem q53:(D.fractionBits:Int)=52:=by decide
def rne (n g:Nat):Nat:=n/g+(decide (g<2*(n%g)) ||(g==2*(n%g)&&n/g%2==1)).toNat
theorem q63 (s:Bool)(n d:Nat):Toward.even.cut s n d=rne n (2^d):=by
 unfold Toward.cut rne;simp only [Nat.one_shiftLeft];by_cases h:d<=n.log2+2
 ·rw [Nat.min_eq_left h]
 ·rw [Nat.min_eq_right (by omega)];have h1:n<2^(n.log2+1):=Nat.lt_log2_self;have h2:2*2^(n.log2+1)=2^(n.log2+2):=by rw [Nat.pow_succ 2 (n.log2+1)];omega
  have h3:2^(n.log2+2)<=2^d:=Nat.pow_le_pow_right (by omega) (by omega);rw [Nat.div_eq_of_lt (show n<2^(n.log2+2) by omega),Nat.div_eq_of_lt (show n<2^d by omega),Nat.mod_eq_of_lt (show n<2^(n.log2+2) by omega),Nat.mod_eq_of_lt (show n<2^d by omega)];rw [decide_eq_false (by omega),decide_eq_false (by omega),beq_eq_false_iff_ne.2 (show(2^(n.log2+2))≠2*n by omega),beq_eq_false_iff_ne.2 (show(2^d)≠2*n by omega)]
theorem qot {n1 g1 n2 g2:Nat}(h1:0<g1)(h2:0<g2)(h:n1*g2<=n2*g1):rne n1 g1<=rne n2 g2:=by
 have e1:=Nat.div_add_mod n1 g1;have e2:=Nat.div_add_mod n2 g2;have r1:=Nat.mod_lt n1 h1;have r2:=Nat.mod_lt n2 h2;unfold rne;generalize hq1:n1/g1=q1 at*;generalize hq2:n2/g2=q2 at*;generalize hm1:n1%g1=m1 at*;generalize hm2:n2%g2=m2 at*;have hb: ∀b:Bool,b.toNat<=1:=fun b=>by cases b<;>simp
 have hle:q1<=q2:=by
  rcases Nat.lt_or_ge q2 q1 with hlt |hge
  ·exfalso;have a1:(q2+1)*g1*g2<=n1*g2:=Nat.mul_le_mul_right _ (by
    rw [←e1];have:=Nat.mul_le_mul_left g1 (show q2+1<=q1 from hlt);rw [Nat.mul_comm (q2+1) g1];omega)
   have a2:n2*g1<(q2+1)*g1*g2:=by
    have:n2<(q2+1)*g2:=by rw [←e2,Nat.add_mul,Nat.mul_comm q2 g2];omega
    have:=Nat.mul_lt_mul_of_pos_right this h1;rw [Nat.mul_right_comm]at this;exact this
   omega
  ·exact hge
 rcases Nat.lt_or_ge q1 q2 with hlt |hge
 ·have:=hb (decide (g1<2*m1) ||(g1==2*m1&&q1%2==1));omega
 ·obtain rfl:q1=q2:=by omega
  have hm:m1*g2<=m2*g1:=by
   rw [←e1,←e2,Nat.add_mul,Nat.add_mul]at h;have:g1*q1*g2=g2*q1*g1:=by rw [Nat.mul_right_comm,Nat.mul_comm g1 g2,Nat.mul_right_comm]
   omega
  refine Nat.add_le_add_left ?_ _;cases hx:(decide (g1<2*m1) ||(g1==2*m1&&q1%2==1)) with
  |false=>simp
  |true=>
   have key:(decide (g2<2*m2) ||(g2==2*m2&&q1%2==1))=true:=by
    simp only [Bool.or_eq_true,Bool.and_eq_true,decide_eq_true_eq,beq_iff_eq]at hx⊢;rcases hx with hx |⟨hx,ho⟩
    ·left;have a1:g1*g2<2*m1*g2:=Nat.mul_lt_mul_of_pos_right hx h2
     have a2:g2*g1<2*m2*g1:=by
      rw [Nat.mul_comm g2 g1,Nat.mul_assoc 2 m2 g1];rw [Nat.mul_assoc]at a1;omega
     exact Nat.lt_of_mul_lt_mul_right a2
    ·have a1:g1*g2=2*m1*g2:=by rw [←hx]
     have a2:g2*g1<=2*m2*g1:=by
      rw [Nat.mul_comm g2 g1,Nat.mul_assoc 2 m2 g1];rw [Nat.mul_assoc]at a1;omega
     have a3:=Nat.le_of_mul_le_mul_right a2 h1;rcases Nat.lt_or_ge g2 (2*m2) with hl |hg
     ·exact .inl hl
     ·exact .inr ⟨by omega,ho⟩
   rw [key];exact Nat.le_refl _
theorem qki (k:Nat){g:Nat}(h:0<g):rne (k*g) g=k:=by
 unfold rne;rw [Nat.mul_div_cancel _ h,Nat.mul_mod_left];rw [decide_eq_false (by omega),beq_eq_false_iff_ne.2 (by omega)]
 rfl
theorem q64 {n g k:Nat}(h:0<g)(hn:n<=k*g):rne n g<=k:=by
 have:=qot (n1:=n) (n2:=k*g) h h (Nat.mul_le_mul_right _ hn)
 rwa [qki k h] at this
theorem q65 {n g k:Nat}(h:0<g)(hn:k*g<=n):k<=rne n g:=by
 have:=qot (n1:=k*g) (n2:=n) h h (Nat.mul_le_mul_right _ hn)
 rwa [qki k h] at this
def qhj (m:Nat)(p:Int):Nat:=D.nearest false m p
def qde (m:Nat)(p:Int):Int:=max (p+m.log2-52) (-1074)
theorem qnr {m:Nat}(p:Int)(h:m≠0):qhj m p=min ((qde m p+1074).toNat*4503599627370496+rne (m*2^(p-qde m p).toNat) (2^(qde m p-p).toNat)) 9218868437227405312:=by
 unfold qhj Format.nearest;rw [if_neg h];simp only [qrx,q03,qt7,q53,q63,Nat.shiftLeft_eq];unfold Format.word qde;simp only [Bool.false_eq_true,if_false]
 rfl
theorem qm7 (p:Int):qhj 0 p=0:=rfl
theorem q3y (m:Nat)(p:Int):qhj m p<=9218868437227405312:=by
 by_cases h:m=0
 ·subst h;rw [qm7];decide
 ·rw [qnr p h];exact Nat.min_le_right _ _
theorem qfj (k:Nat):0<2^k:=Nat.two_pow_pos k
theorem q04 {m:Nat}(h:m≠0):2^m.log2<=m:=Nat.log2_self_le h
theorem qpt (m:Nat):m<2^(m.log2+1):=Nat.lt_log2_self
theorem q05 {m1 m2 a b:Nat}(h1:m1≠0)(h2:m2≠0)(h:m1*2^a<=m2*2^b):m1.log2+a<=m2.log2+b:=by
 have x1:2^(m1.log2+a)<=m1*2^a:=by rw [Nat.pow_add];exact Nat.mul_le_mul_right _ (q04 h1)
 have x2:m2*2^b<2^(m2.log2+1+b):=by rw [Nat.pow_add];exact Nat.mul_lt_mul_of_pos_right (qpt m2) (qfj b)
 have:=(Nat.pow_lt_pow_iff_right (show 1<2 by omega)).1 (show 2^(m1.log2+a)<2^(m2.log2+1+b) by omega);omega
theorem qou {m1 m2 a b c d:Nat}(h:m1*2^a<=m2*2^b)(e:a+d=b+c):m1*2^c<=m2*2^d:=by
 have h1:m1*2^c*2^b<=m2*2^d*2^b:=by
  rw [Nat.mul_assoc,←Nat.pow_add,Nat.mul_assoc,←Nat.pow_add,show c+b=a+d by omega,show d+b=b+d by omega,Nat.pow_add,Nat.pow_add,←Nat.mul_assoc,←Nat.mul_assoc];exact Nat.mul_le_mul_right _ h
 exact Nat.le_of_mul_le_mul_right h1 (qfj b)
theorem q06 (BB l1 l2 r1 r2:Nat)(h:l1<=l2)(h1:l1<l2->r1<=2*BB/\BB<=r2)(h2:l1=l2->r1<=r2):l1*BB+r1<=l2*BB+r2:=by
 rcases Nat.lt_or_ge l1 l2 with hl |hg
 ·obtain⟨a,b⟩:=h1 hl;have:=Nat.mul_le_mul_right BB (show l1+1<=l2 from hl);rw [Nat.add_mul]at this;omega
 ·obtain rfl:l1=l2:=by omega
  have:=h2 rfl;omega
theorem q07 (a BB:Nat)(hB:0<BB)(h:BB<=a):(a/BB-1)*BB+(BB+a%BB)=a:=by
 have hd:=Nat.div_add_mod a BB;have hq:1<=a/BB:=(Nat.le_div_iff_mul_le hB).2 (by omega);have:=Nat.succ_mul (a/BB-1) BB;rw [show(a/BB-1).succ=a/BB by omega,Nat.mul_comm]at this;omega
theorem q66 {m1:Nat}{p1 l1 l2:Int}(hl1:l1=qde m1 p1)(hlt:l1<l2)(ht:m1≠0):rne (m1*2^(p1-l1).toNat) (2^(l1-p1).toNat)<=2*2^52:=by
 refine q64 (qfj _) ?_;have:m1*2^(p1-l1).toNat<=2^(m1.log2+1+(p1-l1).toNat):=by rw [Nat.pow_add];exact Nat.mul_le_mul_right _ (Nat.le_of_lt (qpt m1))
 refine Nat.le_trans this ?_;rw [←Nat.pow_add_one',←Nat.pow_add];refine Nat.pow_le_pow_right (by omega) ?_;unfold qde at hl1;omega
theorem q67 {m2:Nat}{p2 l1 l2:Int}(hl2:l2=qde m2 p2)(hl1: -1074<=l1)(hlt:l1<l2)(h2:m2≠0):2^52<=rne (m2*2^(p2-l2).toNat) (2^(l2-p2).toNat):=by
 refine q65 (qfj _) ?_;have:2^(m2.log2+(p2-l2).toNat)<=m2*2^(p2-l2).toNat:=by rw [Nat.pow_add];exact Nat.mul_le_mul_right _ (q04 h2)
 refine Nat.le_trans ?_ this;rw [←Nat.pow_add];refine Nat.pow_le_pow_right (by omega) ?_;unfold qde at hl2;omega
theorem b52:2^52=4503599627370496:=by decide
theorem qiu {m1 m2:Nat}{p1 p2 K:Int}(k1:K<=p1)(k2:K<=p2)(h:m1*2^(p1-K).toNat<=m2*2^(p2-K).toNat):qhj m1 p1<=qhj m2 p2:=by
 by_cases h1:m1=0
 ·subst h1;rw [qm7];exact Nat.zero_le _
 by_cases h2:m2=0
 ·subst h2;exfalso;have:0<m1*2^(p1-K).toNat:=Nat.mul_pos (by omega) (qfj _);omega
 have ht:=q05 h1 h2 h;rw [qnr p1 h1,qnr p2 h2,←b52];have hl:qde m1 p1<=qde m2 p2:=by unfold qde;omega
 have hb1: -1074<=qde m1 p1:=by unfold qde;omega
 obtain⟨l1,hl1⟩: ∃l,l=qde m1 p1:=⟨_,rfl⟩;obtain⟨l2,hl2⟩: ∃l,l=qde m2 p2:=⟨_,rfl⟩;rw [←hl1]at hl hb1;rw [←hl2]at hl;rw [←hl1,←hl2];have hs:=q06 (2^52) (l1+1074).toNat (l2+1074).toNat (rne (m1*2^(p1-l1).toNat) (2^(l1-p1).toNat)) (rne (m2*2^(p2-l2).toNat) (2^(l2-p2).toNat)) (by omega)
  (fun hlt=>⟨q66 hl1 (show l1<l2 by omega) h1,q67 hl2 hb1 (by omega) h2⟩)
  (fun heq=>by
   obtain rfl:l1=l2:=by omega
   refine qot (qfj _) (qfj _) ?_;rw [Nat.mul_assoc,Nat.mul_assoc,←Nat.pow_add,←Nat.pow_add];exact qou h (by omega))
 exact(fun(a b c:Nat) (h:a<=b)=>(by omega:min a c<=min b c)) _ _ _ hs
def mg (a:Nat):Nat:=if a<4503599627370496 then a else 4503599627370496+a%4503599627370496
def sh (a:Nat):Nat:=if a<4503599627370496 then 0 else a/4503599627370496-1
theorem qje {a:Nat}(h:a<9218868437227405312):D.read a=.number false (mg a) (-1074+sh a):=by
 unfold Format.read;simp only [qrx,q03,q52,qt7];rw [Nat.mod_eq_of_lt (show a<9223372036854775808 by omega),Nat.div_eq_of_lt (show a<9223372036854775808 by omega)];unfold mg sh;by_cases hb:a<4503599627370496
 ·simp only [hb,if_true];rfl
 ·simp only [hb,h,if_true,if_false]
  rfl
theorem qk4 {a:Nat}(h:0<a):mg a≠0:=by unfold mg;split<;>omega
theorem qt8 {a:Nat}:(mg a).log2<=52:=by
 have:mg a<2^53:=by
  unfold mg;have:=Nat.mod_lt a (show 0<4503599627370496 by decide);split<;>omega
 by_cases h0:mg a=0
 ·rw [h0];decide
 ·have:=(Nat.log2_lt h0).2 this;omega
theorem qm8 {a:Nat}(h:a<9218868437227405312):qhj (mg a) (-1074+sh a)=a:=by
 by_cases h0:a=0
 ·subst h0;decide
 rw [qnr _ (qk4 (by omega))];have hlog:=qt8 (a:=a);by_cases hb:a<4503599627370496
 ·have e1:mg a=a:=by unfold mg;rw [if_pos hb]
  have e2:sh a=0:=by unfold sh;rw [if_pos hb]
  rw [e1]at hlog⊢;rw [e2];have e3:qde a (-1074+(0:Nat))= -1074:=by unfold qde;omega
  rw [e3];have:=qki a (g:=1) (by omega);simp only [Nat.mul_one]at this;simp [this];omega
 ·have e1:mg a=4503599627370496+a%4503599627370496:=by unfold mg;rw [if_neg hb]
  have e2:sh a=a/4503599627370496-1:=by unfold sh;rw [if_neg hb]
  have hlog2:(mg a).log2=52:=by
   have:52<=(mg a).log2:=(Nat.le_log2 (by omega)).2 (by rw [e1];omega);omega
  have e3:qde (mg a) (-1074+(sh a:Nat))= -1074+(sh a:Nat):=by unfold qde;omega
  rw [e3];have h1:=qki (mg a) (g:=1) (by omega);simp only [Int.sub_self,Int.toNat_zero,Nat.pow_zero,Nat.mul_one]at h1⊢;have e5:((-1074+(sh a:Int))+1074).toNat=sh a:=by omega
  rw [h1,e5,e1,e2,q07 a 4503599627370496 (by decide) (by omega)];exact Nat.min_eq_left (Nat.le_of_lt h)
end Go.Flt
