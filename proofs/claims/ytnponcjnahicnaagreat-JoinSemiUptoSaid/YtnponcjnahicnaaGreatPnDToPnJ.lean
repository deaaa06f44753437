/- Parts of the proof. -/
import Derived.Test.YtnponcjnahicnaaGreatProg
import Derived.Test.YtnponcjnahicnaaGreatPnAToPnC
import Derived.Laws.StructEq
import Derived.Test.YtnponcjnahicnaaGreatHdToKp
import Derived.Test.YtnponcjnahicnaaGreatDataToOwnB
import Derived.Laws.EntriesVeiled
import Derived.Test.YtnponcjnahicnaaGreatHoistToRowC
import Derived.Deep.QuietTactic
import Derived.BigQuiet
set_option linter.unusedSimpArgs false
set_option linter.unusedVariables false
open Go.Proofs.Tryz(prog)
open List(all_cons any_cons any_eq_false any_eq_true getElem?_eq_getElem mem_append mem_singleton take_add_one take_of_length_le)
namespace Go.Proofs.P16
open Go.RowKit Go.Ink
attribute [local go_sem] Oper.semAt_some
def qb9 (t:TermD):Bool:=if t.var then qjy t.text else qis t.text
def qer (t:TermD):Value:=.agg #[.bool t.var,.string t.text]
set_option maxRecDepth 100000 in
theorem qoq (t:TermD)(w:World):Calls prog 193 #[qer t] w fun e w'=>e=.returned (.bool (qb9 t))/\Keep (fun _=>True) w w':=by
 obtain⟨v,s⟩:=t;unfold qer;simp only;have h1:=fun w=>qyg s w;have h2:=fun w=>qt1 s w;have hE:qb9 ⟨v,s⟩=if v then qjy s else qis s:=rfl
 obtain⟨b1,hb1⟩: ∃b,qjy s=b:=⟨_,rfl⟩;obtain⟨b2,hb2⟩: ∃b,qis s=b:=⟨_,rfl⟩;rw [hb1,hb2]at hE;simp only [hb1]at h1;simp only [hb2]at h2;refine hd5 ?_ h1 h2 hE hb1 hb2;clear h1 h2 hE hb1 hb2;intro Xh1 Xh2 XhE Xhb1 Xhb2;cases v
 ·go_enter Tryz.func193,Tryz.ntmps193
  go_wp2_with fail;refine(Xh2.o _).mono ?_;rintro e w1 ⟨rfl,hw1⟩;have hw1:=hw1.symm;subst hw1;go_wp2_with fail;go_ret;exact⟨by rw [XhE.o];rfl,kAl⟩
 ·cases b1
  all_goals go_enter Tryz.func193,Tryz.ntmps193
  all_goals go_wp2_with fail
  all_goals refine(Xh1.o _).mono ?_
  all_goals (rintro e w1 ⟨rfl,hw1⟩;have hw1:=hw1.symm;subst hw1)
  all_goals go_wp2_with fail
  all_goals go_ret
  all_goals exact⟨by rw [XhE.o];rfl,kAl⟩
set_option maxRecDepth 100000 in
theorem qvz (t:TermD)(w:World):Calls prog 192 #[qer t] w fun e w'=>e=.returned (.bool (!qb9 t))/\Keep (fun _=>True) w w':=by
 have h:=fun w=>qoq t w;obtain⟨v,s⟩:=t;unfold qer at h⊢;simp only at h⊢;obtain⟨b1,hb1⟩: ∃b,qb9 ⟨v,s⟩=b:=⟨_,rfl⟩;simp only [hb1]at h;rw [hb1];refine hd2 ?_ h hb1;clear h hb1;intro Xh Xhb1
 go_enter Tryz.func192,Tryz.ntmps192
 go_wp2_with fail;refine(Xh.o _).mono ?_;rintro e w1 ⟨rfl,k1⟩;go_wp2_with fail;go_ret;exact⟨rfl,kAl.trans k1⟩
def qes (a:qed):Bool:=qe2 a.pred&&decide (a.args.length<=16)&&a.args.all qb9
theorem qk3 {α:Type}(p:α->Bool)(l:List α):l.any (fun x=>!p x)=!l.all p:=by
 induction l with
 |nil=>rfl
 |cons x r ih=>simp only [any_cons,all_cons,ih,Bool.not_and]
set_option maxRecDepth 100000 in
theorem qt4 (n:Nat)(a:qed)(sa:Value)(w:World)(ha:qaj n w sa a.args)(hn:n<=w.heap.size):Calls prog 183 #[.agg #[.string a.pred,sa]] w fun e w'=>e=.returned (.bool (qes a))/\Keep (fun b=>b<w.heap.size) w w':=by
 obtain⟨pr,args⟩:=a;simp only at ha⊢;have h1:=fun w=>qn6 pr w;have hE:qes ⟨pr,args⟩=(qe2 pr&&decide (args.length<=16)&&args.all qb9):=rfl;obtain⟨b1,hb1⟩: ∃b,qe2 pr=b:=⟨_,rfl⟩;have hany:=qk3 qb9 args;obtain⟨b2,hb2⟩: ∃b,args.all qb9=b:=⟨_,rfl⟩;rw [hb2]at hany;obtain⟨W0,hW0⟩:=ex (w.alloc (.cells #[.string pr,sa] 24));have k0:Keep (fun _=>True) w W0:=by rw [←hW0];exact kAl
 have hz:=k0.size;have h2:=qhy (gf:=192) (bs:= #[]) (lb:= #[]) (qc6 Tryz.func192 (by kernel_rfl) rfl) (fun t=>!qb9 t) n sa args W0 (qas ha (k0.mono fun _ _ _=>trivial)) (by omega)
  (fun x _ W _=>(qvz x W).mono fun e w' ⟨e1,k1⟩=>⟨e1,k1.mono fun _ _ _=>trivial⟩)
 rw [hany]at h2;rw [hb1,hb2]at hE;simp only [hb1]at h1;obtain⟨aa,ca,rfl,hla,hca,hea⟩:=id ha;have c1:W0.cell? ⟨w.heap.size,1,none⟩=some (.slice aa args.length ca):=by rw [←hW0];simp
 have l0:w.heap.size<W0.heap.size:=by rw [←hW0];simp
 clear hea ha hany;have hint:decide (args.length<=16)=decide ((args.length:Int)<=16):=by rw [decide_eq_decide];omega
 rw [hint]at hE;obtain⟨b3,hb3⟩: ∃b,decide ((args.length:Int)<=16)=b:=⟨_,rfl⟩;rw [hb3]at hE;clear hint;refine hd7 ?_ h1 h2 hE hb1 hb2 k0 hW0;clear h1 h2 hE hb1 hb2 k0 hW0;intro Xh1 Xh2 XhE Xhb1 Xhb2 Xk0 XhW0;cases b1
 ·go_enter Tryz.func183,Tryz.ntmps183
  go_wp2_with fail;rw [XhW0.o];refine(Xh1.o _).mono ?_;rintro e w1 ⟨rfl,hw1⟩;have hw1:=hw1.symm;subst hw1;go_wp2_with fail;go_ret;exact⟨by rw [XhE.o];rfl,Xk0.o.mono fun _ _ _=>trivial⟩
 ·cases b3
  ·have hb4: ¬(args.length:Int)<=16:=of_decide_eq_false hb3;clear hb3
   go_enter Tryz.func183,Tryz.ntmps183
   go_wp2_with fail;rw [XhW0.o];refine(Xh1.o _).mono ?_;rintro e w1 ⟨rfl,hw1⟩;have hw1:=hw1.symm;subst hw1;go_wp2_with fail;go_ret;exact⟨by rw [XhE.o];rfl,Xk0.o.mono fun _ _ _=>trivial⟩
  ·have hb4:(args.length:Int)<=16:=of_decide_eq_true hb3;clear hb3
   go_enter Tryz.func183,Tryz.ntmps183
   go_wp2_with fail;rw [XhW0.o];refine(Xh1.o _).mono ?_;rintro e w1 ⟨rfl,hw1⟩;have hw1:=hw1.symm;subst hw1;go_wp2_with fail;refine Xh2.o.mono ?_;rintro e W1 ⟨rfl,k1⟩;go_wp2_with fail;go_ret;exact⟨by rw [XhE.o];cases b2<;>rfl,Xk0.o.trans (k1.mono fun b hb _=>by omega) |>.mono fun b hb _=>trivial⟩
theorem qlr (t u:TermD)(W:World):(binOp .eql 60 (qer t) (qer u)).run prog W=.ok (.bool (decide (t=u))) W:=by
 obtain⟨a,s⟩:=t;obtain⟨b,r⟩:=u;have e:(s.toList=r.toList)=(s=r):=by rw [qlp,beq_iff_eq]
 unfold qer;simp [go_sem,e];by_cases h1:a=b<;>by_cases h2:s=r<;>simp [h1,h2]
theorem qrt {a:ByteArray}(h:a≠⟨#[]⟩): ¬a.toList= []:=fun e=>by
 have:=qf9 h;have e2:(⟨#[]⟩:ByteArray).toList= []:=by kernel_rfl
 rw [e,e2]at this;cases this
def qfg:TermD:=⟨false,⟨#[]⟩⟩
def qdp (L:LitD):Bool:=
 if L.kind=1∨L.kind=2 then qes L.atom&&decide (L.left=qfg)&&decide (L.right=qfg)
 else if L.kind=3 then decide (L.atom.pred=⟨#[]⟩)&&decide (L.atom.args.length=0)&&qb9 L.left&&qb9 L.right
 else false
set_option maxRecDepth 100000 in
set_option maxHeartbeats 2000000 in
theorem q5y (n:Nat)(L:LitD)(sa:Value)(w:World)(ha:qaj n w sa L.atom.args)(hn:n<=w.heap.size):Calls prog 185 #[qfb L sa] w fun e w'=>e=.returned (.bool (qdp L))/\Keep (fun b=>b<w.heap.size) w w':=by
 have hat:=fun W (hW:qaj n W sa L.atom.args) (h2:n<=W.heap.size)=>qt4 n L.atom sa W hW h2;have ht1:=fun W=>qoq L.left W;have ht2:=fun W=>qoq L.right W;have hq1:=fun W=>qlr L.left qfg W;have hq2:=fun W=>qlr L.right qfg W;have hL:qdp L=if L.kind=1∨L.kind=2 then qes L.atom&&decide (L.left=qfg)&&decide (L.right=qfg) else if L.kind=3 then decide (L.atom.pred=⟨#[]⟩)&&decide (L.atom.args.length=0)&&qb9 L.left&&qb9 L.right else false:=rfl
 obtain⟨bA,hbA⟩: ∃b,qes L.atom=b:=⟨_,rfl⟩;obtain⟨bq1,hbq1⟩: ∃b,decide (L.left=qfg)=b:=⟨_,rfl⟩;obtain⟨bq2,hbq2⟩: ∃b,decide (L.right=qfg)=b:=⟨_,rfl⟩;obtain⟨bt1,hbt1⟩: ∃b,qb9 L.left=b:=⟨_,rfl⟩;obtain⟨bt2,hbt2⟩: ∃b,qb9 L.right=b:=⟨_,rfl⟩;obtain⟨bl,hbl⟩: ∃b,qdp L=b:=⟨_,rfl⟩;rw [hbl];rw [hbl,hbA,hbq1,hbq2,hbt1,hbt2]at hL;simp only [hbA]at hat;simp only [hbt1]at ht1;simp only [hbt2]at ht2;simp only [hbq1]at hq1;simp only [hbq2]at hq2;clear hbl hbA hbq1 hbq2 hbt1 hbt2;obtain⟨k,⟨pr,args⟩,⟨lv,lt⟩,⟨rv,rt⟩⟩:=L;unfold qfb;unfold qer qfg at hq1 hq2;unfold qer at ht1 ht2;simp only at*;obtain⟨aa,ca,rfl,hla,hca,-⟩:=id ha;obtain⟨m,hm⟩:=ex (args.length);rw [hm]at hL ha hat hla hca;rw [hm];obtain⟨nb,hnb⟩:=ex (w.heap.size);obtain⟨W0,hW0⟩:=ex ((w.alloc (.cells #[.int .i64 k,.string pr,.slice aa m ca,.bool lv,.string lt,.bool rv,.string rt] 64)).alloc (.cells #[.bool false,.string ⟨#[]⟩] 60));have k0:Keep (fun _=>True) w W0:=by rw [←hW0];exact kAl.trans kAl
 have b0:W0.heap[nb]?=some (.cells #[.int .i64 k,.string pr,.slice aa m ca,.bool lv,.string lt,.bool rv,.string rt] 64 (0,0)):=by rw [←hW0,←hnb];exact qfm (qh _ _) _
 have b1:W0.heap[nb+1]?=some (.cells #[.bool false,.string ⟨#[]⟩] 60 (0,0)):=by
  rw [←hW0,←hnb];have:=qh (w.alloc (.cells #[.int .i64 k,.string pr,.slice aa m ca,.bool lv,.string lt,.bool rv,.string rt] 64)) (.cells #[.bool false,.string ⟨#[]⟩] 60)
  simpa using this
 have d0:=qb b1 0 _ rfl;have d1:=qb b1 1 _ rfl;have l1:=qe b1;simp only [Nat.zero_add]at d0 d1;have l0:=qe b0;have hsz:=k0.size;have hat0:=hat W0 (qas ha (k0.mono fun _ _ _=>trivial)) (by omega);have c0:=qb b0 0 _ rfl;have c1:=qb b0 1 _ rfl;have c2:=qb b0 2 _ rfl;have c3:=qb b0 3 _ rfl;have c4:=qb b0 4 _ rfl;have c5:=qb b0 5 _ rfl;have c6:=qb b0 6 _ rfl;simp only [Nat.zero_add]at c0 c1 c2 c3 c4 c5 c6;clear ha hat hla hca hm;refine hd9 ?_ hL hat0 ht1 ht2 k0 hW0 hnb b0 b1;clear hL hat0 ht1 ht2 k0 hW0 hnb b0 b1;intro XhL Xhat0 Xht1 Xht2 Xk0 XhW0 Xhnb Xb0 Xb1;by_cases e12:k=1∨k=2
 ·have hL2:bl=(bA&&bq1&&bq2):=by rw [XhL.o,if_pos e12]
  refine hd1 ?_ hL2;clear hL2;intro XhL2;rcases e12 with rfl |rfl
  all_goals cases bA
  all_goals (try cases bq1)
  all_goals go_enter Tryz.func185,Tryz.ntmps185
  all_goals go_wp2_with fail
  all_goals rw [XhW0.o,Xhnb.o]
  all_goals refine Xhat0.o.mono ?_
  all_goals (rintro e W1 ⟨rfl,k1⟩;have c3':=k1.cell c3 l0;have c4':=k1.cell c4 l0;have c5':=k1.cell c5 l0;have c6':=k1.cell c6 l0;have d0':=k1.cell d0 l1;have d1':=k1.cell d1 l1;have hz1:=k1.size;have l0':nb<W1.heap.size:=(by omega);have l1':nb+1<W1.heap.size:=(by omega);have kk:Keep (fun b=>b<nb) w W1:=(Xk0.o.mono fun _ _ _=>trivial).trans (k1.mono fun b hb _=>(by omega));clear k1 c0 c1 c2 c3 c4 c5 c6 d0 d1;have Xkk:=Lib.hid kk;clear kk)
  all_goals go_wp2_with fail
  all_goals go_ret
  all_goals exact⟨by rw [XhL2.o];(try cases bq1)<;>(try cases bq2)<;>rfl,Xkk.o.mono fun b hb h=>by have:=Xhnb.o;omega⟩
 ·by_cases e3:k=3
  ·have hL3:bl=(decide (pr=⟨#[]⟩)&&decide (m=0)&&bt1&&bt2):=by rw [XhL.o,if_neg e12,if_pos e3]
   subst e3;by_cases hp:pr=⟨#[]⟩
   ·subst hp;rw [show decide ((⟨#[]⟩:ByteArray)=⟨#[]⟩)=true from rfl,Bool.true_and]at hL3;by_cases hn0:m=0
    ·subst hn0;rw [show decide (0=0)=true from rfl,Bool.true_and]at hL3;refine hd3 ?_ hL3 hq1 hq2;clear hL3 hq1 hq2;intro XhL3 Xhq1 Xhq2;cases bt1
     all_goals go_enter Tryz.func185,Tryz.ntmps185
     all_goals go_wp2_with fail
     all_goals rw [XhW0.o]
     all_goals refine(Xht1.o _).mono ?_
     all_goals (rintro e W1 ⟨rfl,k1⟩;have c6':=k1.cell c6 trivial;have c5':=k1.cell c5 trivial;have l0':=k1.size;have kk:Keep (fun b=>b<nb) w W1:=((Xk0.o.mono fun _ _ _=>trivial).trans (k1.mono fun b hb _=>trivial));clear k1 c0 c1 c2 c3 c4 c5 c6 d0 d1;have Xkk:=Lib.hid kk;clear kk)
     ·go_wp2_with fail;go_ret;exact⟨by rw [XhL3.o];rfl,Xkk.o.mono fun b hb h=>by have:=Xhnb.o;omega⟩
     ·rw [Xhnb.o];go_wp2_with fail;refine(Xht2.o _).mono ?_;rintro e W2 ⟨rfl,k2⟩;go_wp2_with fail;go_ret;exact⟨by rw [XhL3.o];rfl,(Xkk.o.trans (k2.mono fun _ _ _=>trivial)).mono fun b hb h=>by have:=Xhnb.o;omega⟩
    ·have hn1: ¬(m:Int)=0:=by omega
     rw [decide_eq_false hn0,Bool.false_and,Bool.false_and]at hL3;refine hd3 ?_ hL3 hq1 hq2;clear hL3 hq1 hq2;intro XhL3 Xhq1 Xhq2
     go_enter Tryz.func185,Tryz.ntmps185
     go_wp2_with fail;go_ret;exact⟨by rw [XhL3.o];rfl,by rw [XhW0.o];exact Xk0.o.mono fun _ _ _=>trivial⟩
   ·rw [decide_eq_false hp,Bool.false_and,Bool.false_and,Bool.false_and]at hL3;have hp1:=qrt hp;refine hd3 ?_ hL3 hq1 hq2;clear hL3 hq1 hq2;intro XhL3 Xhq1 Xhq2
    go_enter Tryz.func185,Tryz.ntmps185
    go_wp2_with fail;go_ret;exact⟨by rw [XhL3.o];rfl,by rw [XhW0.o];exact Xk0.o.mono fun _ _ _=>trivial⟩
  ·have hL4:bl=false:=by rw [XhL.o,if_neg e12,if_neg e3]
   have e1: ¬k=1:=fun h=>e12 (.inl h);have e2: ¬k=2:=fun h=>e12 (.inr h);clear e12;refine hd3 ?_ hL4 hq1 hq2;clear hL4 hq1 hq2;intro XhL4 Xhq1 Xhq2
   go_enter Tryz.func185,Tryz.ntmps185
   go_wp2_with fail;go_ret;exact⟨by rw [XhL4.o];rfl,by rw [XhW0.o];exact Xk0.o.mono fun _ _ _=>trivial⟩
def qax (r:RuleD):Bool:=decide (r.body.length<=256)&&qes r.head&&r.body.all qdp
def qbf (r:RuleD)(sh sb:Value):Value:=.agg #[.string r.head.pred,sh,sb]
set_option maxRecDepth 100000 in
theorem qyi (n:Nat)(L:LitD)(sa:Value)(w:World)(ha:qaj n w sa L.atom.args)(hn:n<=w.heap.size):Calls prog 184 #[qfb L sa] w fun e w'=>e=.returned (.bool (!qdp L))/\Keep (fun b=>b<w.heap.size) w w':=by
 have h:=fun W (hK:Keep (fun _=>True) w W)=>q5y n L sa W (qas ha (hK.mono fun _ _ _=>trivial)) (by have:=hK.size;omega);obtain⟨aa,ca,rfl,-,-,-⟩:=id ha;obtain⟨k,⟨pr,args⟩,⟨lv,lt⟩,⟨rv,rt⟩⟩:=L;unfold qfb at h⊢;simp only at h⊢;obtain⟨b1,hb1⟩: ∃b,qdp ⟨k,⟨pr,args⟩,⟨lv,lt⟩,⟨rv,rt⟩⟩=b:=⟨_,rfl⟩;simp only [hb1]at h;rw [hb1];clear ha;refine hd2 ?_ h hb1;clear h hb1;intro Xh Xhb1
 go_enter Tryz.func184,Tryz.ntmps184
 go_wp2_with fail;refine(Xh.o _ kAl).mono ?_;rintro e w1 ⟨rfl,k1⟩;go_wp2_with fail;go_ret;exact⟨rfl,kAl.trans (k1.mono fun b hb _=>by simp;omega)⟩
set_option maxRecDepth 100000 in
theorem qyj (n:Nat)(r:RuleD)(sh sb:Value)(w:World)(hr:RuleIn n w sh sb r)(hn:n<=w.heap.size):Calls prog 168 #[qbf r sh sb] w fun e w'=>e=.returned (.bool (qax r))/\Keep (fun b=>b<w.heap.size) w w':=by
 obtain⟨⟨pr,args⟩,body⟩:=r;obtain⟨hh,hb⟩:=hr;unfold qbf;simp only at hh hb⊢;have hE:qax ⟨⟨pr,args⟩,body⟩=(decide (body.length<=256)&&qes ⟨pr,args⟩&&body.all qdp):=rfl;have hat:=fun W (hK:Keep (fun _=>True) w W)=>qt4 n ⟨pr,args⟩ sh W (qas hh (hK.mono fun _ _ _=>trivial)) (by have:=hK.size;omega);have hls:=fun W (hK:Keep (fun b=>b<w.heap.size) w W)=>qkv (gf:=184) (bs:= #[]) (lb:= #[]) (qc6 Tryz.func184 (by kernel_rfl) rfl) (fun L=>!qdp L) n sb body W (qim hb (hK.mono fun b _ h=>by omega)) (by have:=hK.size;omega)
  (fun x _ W2 hK2 sa hsa=>(qyi n x sa W2 hsa (by have:=hK.size;have:=hK2.size;omega)).mono fun e w' ⟨e1,k1⟩=>⟨e1,k1⟩)
 rw [qk3 qdp body]at hls;obtain⟨bA,hbA⟩: ∃b,qes ⟨pr,args⟩=b:=⟨_,rfl⟩;obtain⟨bL,hbL⟩: ∃b,body.all qdp=b:=⟨_,rfl⟩;rw [hbA,hbL,show decide (body.length<=256)=decide ((body.length:Int)<=256) from by rw [decide_eq_decide];omega]at hE;simp only [hbA]at hat;simp only [hbL]at hls;obtain⟨aa,ca,rfl,-,-,-⟩:=id hh;obtain⟨ab,cb,rfl,hlb,hcb,-⟩:=id hb;obtain⟨W0,hW0⟩:=ex (w.alloc (.cells #[.string pr,.slice aa args.length ca,.slice ab body.length cb] 27));have k0:Keep (fun _=>True) w W0:=by rw [←hW0];exact kAl
 have hz:=k0.size;have c2:W0.cell? ⟨w.heap.size,2,none⟩=some (.slice ab body.length cb):=by rw [←hW0];simp
 have l0:w.heap.size<W0.heap.size:=by rw [←hW0];simp
 have hat0:=hat W0 k0;clear hh hb hbA hbL hat;obtain⟨b3,hb3⟩: ∃b,decide ((body.length:Int)<=256)=b:=⟨_,rfl⟩;rw [hb3]at hE;refine hd5 ?_ hE hat0 hls k0 hW0;clear hE hat0 hls k0 hW0;intro XhE Xhat0 Xhls Xk0 XhW0;cases b3
 ·have hb4: ¬(body.length:Int)<=256:=of_decide_eq_false hb3;clear hb3
  go_enter Tryz.func168,Tryz.ntmps168
  go_wp2_with fail;go_ret;exact⟨by rw [XhE.o];rfl,by rw [XhW0.o];exact Xk0.o.mono fun _ _ _=>trivial⟩
 ·have hb4:(body.length:Int)<=256:=of_decide_eq_true hb3;clear hb3;cases bA
  all_goals go_enter Tryz.func168,Tryz.ntmps168
  all_goals go_wp2_with fail
  all_goals rw [XhW0.o]
  all_goals refine Xhat0.o.mono ?_
  all_goals (rintro e W1 ⟨rfl,k1⟩;have c2':=k1.cell c2 l0;have hz1:=k1.size;have kk:Keep (fun b=>b<w.heap.size) w W1:=(Xk0.o.mono fun _ _ _=>trivial).trans (k1.mono fun b hb _=>(by omega));clear k1 c2;have Xkk:=Lib.hid kk;clear kk)
  ·go_wp2_with fail;go_ret;exact⟨by rw [XhE.o];rfl,Xkk.o⟩
  ·go_wp2_with fail;refine(Xhls.o _ Xkk.o).mono ?_;rintro e W2 ⟨rfl,k2⟩;go_wp2_with fail;go_ret;exact⟨by rw [XhE.o];cases bL<;>rfl,Xkk.o.trans (k2.mono fun b hb _=>by omega)⟩
def qhi (n:Int):Bool:=decide (n<0) ||decide (2147483647<n)
def qhz (s:qai):Bool:=qhi s.rows ||s.dist.any qhi
def qbu (l:List qai):Bool:=!l.any qhz
set_option maxRecDepth 100000 in
theorem qw6 (x:Int)(w:World):Calls prog 186 #[.int .i64 x] w fun e w'=>e=.returned (.bool (qhi x))/\w'=w:=by
 by_cases h:x<0
 ·have hE:qhi x=true:=by unfold qhi;rw [decide_eq_true h];rfl
  refine hd1 ?_ hE;clear hE;intro XhE
  go_enter Tryz.func186,Tryz.ntmps186
  go_wp2_with fail;go_ret;exact⟨by rw [XhE.o];rfl,rfl⟩
 ·have hE:qhi x=decide (2147483647<x):=by unfold qhi;rw [decide_eq_false h];rfl
  refine hd1 ?_ hE;clear hE;intro XhE
  go_enter Tryz.func186,Tryz.ntmps186
  go_wp2_with fail;go_ret;exact⟨by rw [XhE.o];rfl,rfl⟩
set_option maxRecDepth 100000 in
theorem q0w (n B:Nat)(s:qai)(sv:Value)(w:World)(hs:qap n w sv s.dist)(hn:n<=w.heap.size)(hB:w.cell? ⟨B,0,none⟩=some (.func (.func 186) #[] #[])):
  Calls prog 188 #[qlq s sv,.pointer (some ⟨B,0,none⟩)] w fun e w'=>e=.returned (.bool (qhz s))/\Keep (fun b=>b<w.heap.size) w w':=by
 obtain⟨pr,rows,dist⟩:=s;unfold qlq;simp only at hs⊢;have hE:qhz ⟨pr,rows,dist⟩=(qhi rows ||dist.any qhi):=rfl;have h1:=fun w=>qw6 rows w;have h2:=fun W (hK:Keep (fun b=>b<w.heap.size) w W)=>qvy (gf:=186) (bs:= #[]) (lb:= #[]) (qc6 Tryz.func186 (by kernel_rfl) rfl) qhi n sv dist W (qit hs (hK.mono fun b _ h=>by omega)) (by have:=hK.size;omega)
  (fun x _ W2 _=>(qw6 x W2).mono fun e w' ⟨e1,k1⟩=>⟨e1,by subst k1;exact Keep.refl _ _⟩)
 obtain⟨b1,hb1⟩: ∃b,qhi rows=b:=⟨_,rfl⟩;obtain⟨b2,hb2⟩: ∃b,dist.any qhi=b:=⟨_,rfl⟩;rw [hb1,hb2]at hE;simp only [hb1]at h1;simp only [hb2]at h2;obtain⟨a,c,rfl,-,-,-⟩:=id hs;have l0:B<w.heap.size:=World.block_lt_of_cell? w _ hB;clear hs hb1 hb2;refine hd3 ?_ hE h1 h2;clear hE h1 h2;intro XhE Xh1 Xh2;cases b1
 all_goals go_enter Tryz.func188,Tryz.ntmps188
 all_goals go_wp2_with fail
 all_goals refine(Xh1.o _).mono ?_
 all_goals (rintro e w1 ⟨rfl,hw1⟩;have hw1:=hw1.symm;subst hw1)
 all_goals go_wp2_with fail
 ·refine(Xh2.o _ kAl).mono ?_;rintro e w1 ⟨rfl,k1⟩;go_wp2_with fail;go_ret;exact⟨by rw [XhE.o];rfl,kAl.trans (k1.mono fun b hb _=>by simp;omega)⟩
 ·go_ret;exact⟨by rw [XhE.o];rfl,kAl⟩
set_option maxRecDepth 100000 in
theorem qyk (n:Nat)(l:List qai)(v:Value)(w:World)(hl:SizesIn n w v l)(hn:n<=w.heap.size):Calls prog 169 #[v] w fun e w'=>e=.returned (.bool (qbu l))/\Keep (fun b=>b<w.heap.size) w w':=by
 have hE:qbu l=!l.any qhz:=rfl;obtain⟨W0,hW0⟩:=ex (w.alloc (.cells #[.func (.func 186) #[] #[]] 159));have k0:Keep (fun _=>True) w W0:=by rw [←hW0];exact kAl
 have hz:=k0.size;have c2:W0.cell? ⟨w.heap.size,0,none⟩=some (.func (.func 186) #[] #[]):=by rw [←hW0];simp
 have l0:w.heap.size<W0.heap.size:=by rw [←hW0];simp
 have h2:=qt3 (gf:=188) (bs:= #[]) (lb:= #[.pointer (some ⟨w.heap.size,0,none⟩)]) (qc6 Tryz.func188 (by kernel_rfl) rfl) qhz n v l W0 (hl.keep (k0.mono fun _ _ _=>trivial)) (by omega)
  (fun x _ W2 hK sv hsv=>q0w n w.heap.size x sv W2 hsv (by have:=hK.size;omega) (hK.cell c2 l0))
 obtain⟨b2,hb2⟩: ∃b,l.any qhz=b:=⟨_,rfl⟩;rw [hb2]at hE;rw [hb2]at h2;obtain⟨a,c,rfl,-,-,-⟩:=id hl;clear hl hb2;refine hd4 ?_ hE h2 k0 hW0;clear hE h2 k0 hW0;intro XhE Xh2 Xk0 XhW0
 go_enter Tryz.func169,Tryz.ntmps169
 go_wp2_with fail;rw [XhW0.o];refine Xh2.o.mono ?_;rintro e w1 ⟨rfl,k1⟩;go_wp2_with fail;go_ret;exact⟨by rw [XhE.o];rfl,Xk0.o.trans (k1.mono fun b hb _=>by omega) |>.mono fun _ _ _=>trivial⟩
def qcf (K:List ByteArray)(t:TermD):Bool:=t.var&&!decide (t.text∈K)
def qe3 (L:LitD):List TermD:=if L.kind=3 then [L.left,L.right] else L.atom.args
def qcm (K:List ByteArray)(L:LitD):Bool:=decide (L.kind=1) ||!(qe3 L).any (qcf K)
theorem q0x (w:World):(zeroValue 4).run prog w=.ok (.bool false) w:=by kernel_rfl
set_option maxRecDepth 100000 in
theorem qor (M:Nat)(K:List ByteArray)(t:TermD)(w:World)(hS:SetIn w M K):Calls prog 172 #[.map (some M),qer t] w fun e w'=>e=.returned (.bool (qcf K t))/\Keep (fun _=>True) w w':=by
 obtain⟨v,s⟩:=t;unfold qer;simp only;have hE:qcf K ⟨v,s⟩=(v&&!decide (s∈K)):=rfl;have hl:=fun w (h:SetIn w M K)=>qh9 (P:=prog) (T:=237) (K:=9) (E:=4) Tryz.underlying237 Tryz.underlying9 q0x h s;obtain⟨b,hb⟩:=ex (decide (s∈K));rw [hb]at hE;simp only [hb]at hl;have hl0:=hl (w.alloc (.cells #[.bool v,.string s] 60)) (hS.keep (Keep.alloc (fun _=>True) _ _) trivial);clear hl hb;refine hd2 ?_ hS hE;clear hS hE;intro XhS XhE;cases v
 ·clear hl0
  go_enter Tryz.func172,Tryz.ntmps172
  go_wp2_with fail;go_ret;exact⟨by rw [XhE.o];rfl,kAl⟩
 ·go_enter Tryz.func172,Tryz.ntmps172
  go_wp2_with fail;go_ret;exact⟨by rw [XhE.o];rfl,kAl⟩
set_option maxRecDepth 100000 in
theorem qyl (n:Nat)(L:LitD)(sa:Value)(w:World)(ha:qaj n w sa L.atom.args)(hn:n<=w.heap.size):Calls prog 171 #[qfb L sa] w fun e w'=> ∃sv,e=.returned sv/\qaj w'.heap.size w' sv (qe3 L)/\Keep (fun _=>True) w w':=by
 obtain⟨aa,ca,rfl,-,-,-⟩:=id ha;obtain⟨k,⟨pr,args⟩,⟨lv,lt⟩,⟨rv,rt⟩⟩:=L;unfold qfb;simp only at ha⊢;by_cases h3:k=3
 ·subst h3;have hT:qe3 ⟨3,⟨pr,args⟩,⟨lv,lt⟩,⟨rv,rt⟩⟩= [⟨lv,lt⟩,⟨rv,rt⟩]:=rfl;refine hd2 ?_ ha hT;clear ha hT;intro Xha XhT
  go_enter Tryz.func171,Tryz.ntmps171
  go_wp2_with fail;go_ret;refine⟨_,rfl,?_,kAl.trans kAl⟩;rw [XhT.o];have hb:=qb (qh (w.alloc (.cells #[.int .i64 3,.string pr,.slice aa args.length ca,.bool lv,.string lt,.bool rv,.string rt] 64)) (.cells #[.bool lv,.string lt,.bool rv,.string rt] 60));simp only [World.size_alloc]at hb;have q0:=hb 0 _ rfl;have q1:=hb 1 _ rfl;have q2:=hb 2 _ rfl;have q3:=hb 3 _ rfl;refine⟨_,_,rfl,by simp,by simp [maxLen],fun j x hx=>⟨_,0,rfl,by simp,?_⟩⟩
  match j,hx with
  |0,hx=>simp at hx;subst hx;exact⟨q0,q1⟩
  |1,hx=>simp at hx;subst hx;exact⟨q2,q3⟩
 ·have hT:qe3 ⟨k,⟨pr,args⟩,⟨lv,lt⟩,⟨rv,rt⟩⟩=args:=by unfold qe3;rw [if_neg h3]
  refine hd2 ?_ ha hT;clear ha hT;intro Xha XhT
  go_enter Tryz.func171,Tryz.ntmps171
  go_wp2_with fail;go_ret;refine⟨_,rfl,?_,kAl⟩;rw [XhT.o];exact qii (qas Xha.o ((Keep.alloc (fun _=>True) _ _).mono fun _ _ _=>trivial)) (by simp;omega)
set_option maxRecDepth 100000 in
theorem qru (n M:Nat)(K:List ByteArray)(L:LitD)(sa:Value)(w:World)(hS:SetIn w M K)(ha:qaj n w sa L.atom.args)(hn:n<=w.heap.size):Calls prog 147 #[.map (some M),qfb L sa] w fun e w'=>e=.returned (.bool (qcm K L))/\Keep (fun b=>b<w.heap.size) w w':=by
 have hM:=hS.lt;have h1:=fun W (hK:Keep (fun _=>True) w W)=>qyl n L sa W (qas ha (hK.mono fun _ _ _=>trivial)) (by have:=hK.size;omega);have h2:=fun W (hK:Keep (fun b=>b<w.heap.size) w W) sv (hsv:qaj W.heap.size W sv (qe3 L))=>qhy (gf:=172) (bs:= #[.map (some M)]) (lb:= #[]) (qc6 Tryz.func172 (by kernel_rfl) rfl) (qcf K) W.heap.size sv (qe3 L) W hsv (Nat.le_refl _)
  (fun x _ W2 hK2=>(qor M K x W2 (hS.keep (hK.trans (hK2.mono fun b _ _=>by have:=hK.size;omega)) hM)).mono fun e w' ⟨e1,k1⟩=>⟨e1,k1.mono fun _ _ _=>trivial⟩)
 have hE:qcm K L=(decide (L.kind=1) ||!(qe3 L).any (qcf K)):=rfl;obtain⟨b2,hb2⟩: ∃b,(qe3 L).any (qcf K)=b:=⟨_,rfl⟩;rw [hb2]at hE;simp only [hb2]at h2;obtain⟨aa,ca,rfl,-,-,-⟩:=id ha;obtain⟨k,⟨pr,args⟩,⟨lv,lt⟩,⟨rv,rt⟩⟩:=L;unfold qfb at h1⊢;simp only at h1 hE⊢;clear hb2 ha hS;by_cases hk:k=1
 ·subst hk;refine hd3 ?_ h1 h2 hE;clear h1 h2 hE;intro Xh1 Xh2 XhE
  go_enter Tryz.func147,Tryz.ntmps147
  go_wp2_with fail;go_ret;exact⟨by rw [XhE.o];rfl,kAl⟩
 ·rw [decide_eq_false hk,Bool.false_or]at hE;refine hd3 ?_ h1 h2 hE;clear h1 h2 hE;intro Xh1 Xh2 XhE
  go_enter Tryz.func147,Tryz.ntmps147
  go_wp2_with fail;refine(Xh1.o _ kAl).mono ?_;rintro e w1 ⟨sv,rfl,hsv,k1⟩;have k2:Keep (fun _=>True) w w1:=kAl.trans k1;have h3:=Xh2.o w1 (k2.mono fun _ _ _=>trivial) sv hsv;obtain⟨a3,c3,rfl,-,-,-⟩:=id hsv;clear hsv k1;refine hd2 ?_ h3 k2;clear h3 k2;intro Xh3 Xk2;go_wp2_with fail;refine Xh3.o.mono ?_;rintro e w2 ⟨rfl,k3⟩;go_wp2_with fail;go_ret;exact⟨by rw [XhE.o];show Ending.returned (.bool (k==1 ||!b2))=_;rw [beq_eq_false_iff_ne.2 hk];rfl,Xk2.o.trans (k3.mono fun b hb _=>by have:=Xk2.o.size;omega) |>.mono fun _ _ _=>trivial⟩
def qqx (x:ByteArray)(xs:List ByteArray):Int:=qb4 (fun y=>decide (x=y)) xs
theorem q5z (x:ByteArray)(xs:List ByteArray):decide (qqx x xs≥0)=decide (x∈xs):=by
 unfold qqx;rw [qyh];rw [Bool.eq_iff_iff,any_eq_true,decide_eq_true_eq];exact⟨fun⟨y,h1,h2⟩=>by rw [of_decide_eq_true h2];exact h1,fun h=>⟨x,h,by simp⟩⟩
theorem qrv {x:ByteArray}{xs:List ByteArray}(h:x∉xs):xs.any (fun y=>decide (x=y))=false:=by
 rw [any_eq_false];intro y hy e;exact h (by rw [of_decide_eq_true e];exact hy)
set_option maxRecDepth 100000 in
theorem q0y (n:Nat)(va:Value)(xs:List ByteArray)(x:ByteArray)(w:World)(ha:qae n w va xs)(hn:n<=w.heap.size):
  Calls prog 191 #[va,.string x] w fun e w'=>e=.returned (.int .i64 (qqx x xs))/\w'=w:=by
 obtain⟨aa,ca,rfl,hla,hca,hea⟩:=id ha;refine hd2 ?_ ha hea;clear ha hea;intro Xha Xhea
 go_enter Tryz.func191,Tryz.ntmps191
 go_wp2_with fail
 go_loopw [8] (fun i wr=> ∃k:Nat,k<=xs.length/\i=.int .i64 (k:Int)/\wr=w/\x∉xs.take k) (fun i _=>xs.length-(intOf i).toNat)
 case atStart=>exact⟨0,by omega,rfl,rfl,by simp⟩
 case round=>
  obtain⟨k,hk,rfl,hw,hall⟩:=hrel;have hw:=hw.symm;subst hw;by_cases hlt:k<xs.length
  ·obtain⟨y,hx⟩: ∃x,xs[k]?=some x:=⟨_,getElem?_eq_getElem hlt⟩;obtain⟨ba,oa,rfl,hba,f1⟩:=Xhea.o k y hx;unfold qgc at f1;simp only [Nat.mul_one]at f1;have hb1:ba<w.heap.size:=by omega
   have hlt1:(k:Int)<xs.length:=by omega
   have hk0:(0:Int)<=k:=by omega
   have hall2: ∀z,z∉xs.take k-> ¬z=y->z∉xs.take (k+1):=fun z h1 h2=>by
    rw [take_add_one,hx];simp only [Option.toList_some,mem_append,mem_singleton,not_or];exact⟨h1,h2⟩
   by_cases hxy:x=y
   ·have hne:=qhx hxy;have hyes:=(show qqx x xs=(k:Int) from qf2 (fun y=>decide (x=y)) xs k y hx (qrv hall) (decide_eq_true hxy));clear hall hx hxy hall2;refine hd1 ?_ hyes;clear hyes;intro Xhyes;go_wp2_with fail;go_ret;exact⟨by rw [Xhyes.o];try rfl,rfl⟩
   ·have hne:=qf9 hxy;have hall3:=hall2 x hall hxy;clear hall hx hxy hall2;refine hd1 ?_ hall3;clear hall3;intro Xhall3;go_wp2_with fail;go_roundw
    case rel=>exact⟨k+1,by omega,by go_num,by trivial,Xhall3.o⟩
    case measure=>simp [intOf];omega
  ·have hno:=(show qqx x xs= -1 from qf1 (fun y=>decide (x=y)) xs (qrv (by rwa [take_of_length_le (by omega)] at hall)));clear hall;refine hd1 ?_ hno;clear hno;intro Xhno;go_wp2_with fail;go_ret;exact⟨by rw [Xhno.o];try rfl,rfl⟩
set_option maxRecDepth 100000 in
theorem qt5 (n:Nat)(va:Value)(xs:List ByteArray)(x:ByteArray)(w:World)(ha:qae n w va xs)(hn:n<=w.heap.size):
  Calls prog 178 #[va,.string x] w fun e w'=>e=.returned (.bool (decide (x∈xs)))/\w'=w:=by
 have h1:=fun w (ha:qae n w va xs) hn=>q0y n va xs x w ha hn;have h1:=h1 w ha hn;have hE:=q5z x xs;obtain⟨i,hi⟩:=ex (qqx x xs);rw [hi]at h1 hE;obtain⟨aa,ca,rfl,-,-,-⟩:=id ha;clear ha;refine hd3 ?_ h1 hE hi;clear h1 hE hi;intro Xh1 XhE Xhi
 go_enter Tryz.func178,Tryz.ntmps178
 go_wp2_with fail;refine Xh1.o.mono ?_;rintro e w1 ⟨rfl,hw1⟩;have hw1:=hw1.symm;subst hw1;go_wp2_with fail;go_ret;exact⟨by rw [←XhE.o];rfl,rfl⟩
end Go.Proofs.P16
