/- Parts of the proof. -/
import Derived.Test.YtnponcjnahicnaaGreatProg
import Derived.Test.YtnponcjnahicnaaGreatRoA
import Derived.Test.YtnponcjnahicnaaGreatPnDToPnJ
import Derived.Test.YtnponcjnahicnaaGreatCmE
import Derived.Test.YtnponcjnahicnaaGreatHdToKp
set_option linter.unusedSimpArgs false
set_option linter.unusedVariables false
open Go.Proofs.Tryz(prog)
open List(all_eq_true any_eq_false filter_cons_of_neg filter_cons_of_pos find?_eq_none flatMap_cons foldl_append foldl_cons getD_eq_getElem?_getD mem_append mem_append_left mem_cons mem_cons_of_mem mem_cons_self mem_filter mem_flatMap mem_iff_getElem? mem_map mem_range take_length)
namespace Go.Proofs
open Go.RowKit Go.Ink P16
attribute [local go_sem] Oper.semAt_some
theorem q4p (s:ByteArray):qeg s false=qjy s:=by unfold qeg qjy;rw [if_neg (by decide)]
theorem q18 (s:ByteArray):qe2 s=(qeg s true&&!qgj s):=by unfold qeg qe2;rw [if_pos rfl]
set_option maxRecDepth 100000 in
theorem qso (s:ByteArray)(w:World):Calls prog 108 #[.string s] w fun e w'=>e=.returned (.bool (qe2 s))/\Keep (fun _=>True) w w':=by
 rw [q18];have e1:qir.toList= [105,110,112,117,116]:=by kernel_rfl
 have e2:qhq.toList= [111,117,116,112,117,116]:=by kernel_rfl
 have e3:qm5.toList= [110,111,116]:=by kernel_rfl
 by_cases h1:s=qir
 ·have hE:(qeg s true&&!qgj s)=false:=by rw [show qgj s=true from by unfold qgj;rw [decide_eq_true h1];rfl];simp
  have g1:=qhx h1;rw [e1]at g1;rw [hE];clear hE h1 e1 e2 e3
  go_enter Tryz.func108,Tryz.ntmps108
  go_wp2_with fail;go_ret;exact⟨rfl,Keep.refl _ _⟩
 have g1:=qf9 h1;rw [e1]at g1;by_cases h2:s=qhq
 ·have hE:(qeg s true&&!qgj s)=false:=by rw [show qgj s=true from by unfold qgj;rw [decide_eq_true h2];simp];simp
  have g2:=qhx h2;rw [e2]at g2;rw [hE];clear hE h1 h2 e1 e2 e3
  go_enter Tryz.func108,Tryz.ntmps108
  go_wp2_with fail;go_ret;exact⟨rfl,Keep.refl _ _⟩
 have g2:=qf9 h2;rw [e2]at g2;by_cases h3:s=qm5
 ·have hE:(qeg s true&&!qgj s)=false:=by rw [show qgj s=true from by unfold qgj;rw [decide_eq_true h3];simp];simp
  have g3:=qhx h3;rw [e3]at g3;rw [hE];clear hE h1 h2 h3 e1 e2 e3
  go_enter Tryz.func108,Tryz.ntmps108
  go_wp2_with fail;go_ret;exact⟨rfl,Keep.refl _ _⟩
 have g3:=qf9 h3;rw [e3]at g3;have hk:qgj s=false:=by unfold qgj;rw [decide_eq_false h1,decide_eq_false h2,decide_eq_false h3];rfl
 rw [hk,Bool.not_false,Bool.and_true];have hw:=qmf s true w;obtain⟨b,hb⟩:=ex (qeg s true);rw [hb]at hw⊢;clear h1 h2 h3 hk e1 e2 e3;refine hd2 ?_ hw hb;clear hw hb;intro Xhw Xhb
 go_enter Tryz.func108,Tryz.ntmps108
 go_wp2_with fail;refine Xhw.o.mono ?_;rintro e w1 ⟨rfl,k1⟩;have Xk1:=Lib.hid k1;clear k1;go_wp2_with fail;go_ret;exact⟨rfl,Xk1.o⟩
set_option maxRecDepth 100000 in
theorem qi2 (t:TermD)(w:World):Calls prog 111 #[qer t] w fun e w'=>e=.returned (.bool (qb9 t))/\Keep (fun _=>True) w w':=by
 obtain⟨v,s⟩:=t;unfold qer;simp only;have h1:=fun w=>qmf s false w;have hE:qb9 ⟨v,s⟩=if v then qjy s else qis s:=rfl
 rw [←qrs]at hE;simp only [q4p]at h1;obtain⟨b1,hb1⟩: ∃b,qjy s=b:=⟨_,rfl⟩;rw [hb1]at hE;simp only [hb1]at h1;refine hd3 ?_ h1 hE hb1;clear h1 hE hb1;intro Xh1 XhE Xhb1;cases v
 ·go_enter Tryz.func111,Tryz.ntmps111
  go_wp2_with fail;go_ret;exact⟨by rw [XhE.o];rfl,kAl⟩
 ·go_enter Tryz.func111,Tryz.ntmps111
  go_wp2_with fail;refine(Xh1.o _).mono ?_;rintro e w1 ⟨rfl,k1⟩;go_wp2_with fail;go_ret;exact⟨by rw [XhE.o];rfl,kAl.trans k1⟩
set_option maxRecDepth 100000 in
theorem qo0 (t:TermD)(w:World):Calls prog 110 #[qer t] w fun e w'=>e=.returned (.bool (!qb9 t))/\Keep (fun _=>True) w w':=by
 have h:=fun w=>qi2 t w;obtain⟨v,s⟩:=t;unfold qer at h⊢;simp only at h⊢;obtain⟨b1,hb1⟩: ∃b,qb9 ⟨v,s⟩=b:=⟨_,rfl⟩;simp only [hb1]at h;rw [hb1];refine hd2 ?_ h hb1;clear h hb1;intro Xh Xhb1
 go_enter Tryz.func110,Tryz.ntmps110
 go_wp2_with fail;refine(Xh.o _).mono ?_;rintro e w1 ⟨rfl,k1⟩;go_wp2_with fail;go_ret;exact⟨rfl,kAl.trans k1⟩
set_option maxRecDepth 100000 in
theorem qmg (n:Nat)(a:qed)(sa:Value)(w:World)(ha:qaj n w sa a.args)(hn:n<=w.heap.size):Calls prog 74 #[.agg #[.string a.pred,sa]] w fun e w'=>e=.returned (.bool (qes a))/\Keep (fun b=>b<w.heap.size) w w':=by
 obtain⟨pr,args⟩:=a;simp only at ha⊢;have h1:=fun w=>qso pr w;have hE:qes ⟨pr,args⟩=(qe2 pr&&decide (args.length<=16)&&args.all qb9):=rfl;obtain⟨b1,hb1⟩: ∃b,qe2 pr=b:=⟨_,rfl⟩;have hany:=qk3 qb9 args;obtain⟨b2,hb2⟩: ∃b,args.all qb9=b:=⟨_,rfl⟩;rw [hb2]at hany;obtain⟨W0,hW0⟩:=ex (w.alloc (.cells #[.string pr,sa] 24));have k0:Keep (fun _=>True) w W0:=by rw [←hW0];exact kAl
 have hz:=k0.size;have h2:=fun W1 (hW1:Keep (fun _=>True) W0 W1)=>qhy (gf:=110) (bs:= #[]) (lb:= #[]) (qc6 Tryz.func110 (by kernel_rfl) rfl) (fun t=>!qb9 t) n sa args W1 (qas ha ((k0.trans hW1).mono fun _ _ _=>trivial)) (by have:=hW1.size;omega)
  (fun x _ W _=>(qo0 x W).mono fun e w' ⟨e1,k1⟩=>⟨e1,k1.mono fun _ _ _=>trivial⟩)
 simp only [hany]at h2;rw [hb1,hb2]at hE;simp only [hb1]at h1;obtain⟨aa,ca,rfl,hla,hca,hea⟩:=id ha;have c1:W0.cell? ⟨w.heap.size,1,none⟩=some (.slice aa args.length ca):=by rw [←hW0];simp
 have l0:w.heap.size<W0.heap.size:=by rw [←hW0];simp
 clear hea ha hany;have hint:decide (args.length<=16)=decide ((args.length:Int)<=16):=by rw [decide_eq_decide];omega
 rw [hint]at hE;obtain⟨b3,hb3⟩: ∃b,decide ((args.length:Int)<=16)=b:=⟨_,rfl⟩;rw [hb3]at hE;clear hint;refine hd7 ?_ h1 h2 hE hb1 hb2 k0 hW0;clear h1 h2 hE hb1 hb2 k0 hW0;intro Xh1 Xh2 XhE Xhb1 Xhb2 Xk0 XhW0;cases b1
 ·go_enter Tryz.func74,Tryz.ntmps74
  go_wp2_with fail;rw [XhW0.o];refine(Xh1.o _).mono ?_;rintro e w1 ⟨rfl,k1⟩;have Xk1:=Lib.hid k1;clear k1;go_wp2_with fail;go_ret;exact⟨by rw [XhE.o];rfl,(Xk0.o.trans Xk1.o).mono fun _ _ _=>trivial⟩
 ·cases b3
  ·have hb4: ¬(args.length:Int)<=16:=of_decide_eq_false hb3;clear hb3
   go_enter Tryz.func74,Tryz.ntmps74
   go_wp2_with fail;rw [XhW0.o];refine(Xh1.o _).mono ?_;rintro e w1 ⟨rfl,k1⟩;have c1':=k1.cell c1 trivial;have l0':w.heap.size<w1.heap.size:=by have:=k1.size;omega
   have Xk1:=Lib.hid k1;clear k1 c1;go_wp2_with fail;go_ret;exact⟨by rw [XhE.o];rfl,(Xk0.o.trans Xk1.o).mono fun _ _ _=>trivial⟩
  ·have hb4:(args.length:Int)<=16:=of_decide_eq_true hb3;clear hb3
   go_enter Tryz.func74,Tryz.ntmps74
   go_wp2_with fail;rw [XhW0.o];refine(Xh1.o _).mono ?_;rintro e w1 ⟨rfl,k1⟩;have c1':=k1.cell c1 trivial;have l0':w.heap.size<w1.heap.size:=by have:=k1.size;omega
   have h2':=Xh2.o w1 k1;have Xk1:=Lib.hid k1;have Xh2':=Lib.hid h2';clear k1 c1 h2';go_wp2_with fail;refine Xh2'.o.mono ?_;rintro e W1 ⟨rfl,k2⟩;go_wp2_with fail;go_ret;exact⟨by rw [XhE.o];cases b2<;>rfl,((Xk0.o.trans Xk1.o).mono fun _ _ _=>trivial).trans (k2.mono fun b hb h=>by have:=Xk0.o.size;have:=Xk1.o.size;omega)⟩
set_option maxRecDepth 100000 in
set_option maxHeartbeats 2000000 in
theorem quz (n:Nat)(L:LitD)(sa:Value)(w:World)(ha:qaj n w sa L.atom.args)(hn:n<=w.heap.size):Calls prog 77 #[qfb L sa] w fun e w'=>e=.returned (.bool (qdp L))/\Keep (fun b=>b<w.heap.size) w w':=by
 have hat:=fun W (hW:qaj n W sa L.atom.args) (h2:n<=W.heap.size)=>qmg n L.atom sa W hW h2;have ht1:=fun W=>qi2 L.left W;have ht2:=fun W=>qi2 L.right W;have hq1:=fun W=>qlr L.left qfg W;have hq2:=fun W=>qlr L.right qfg W;have hL:qdp L=if L.kind=1∨L.kind=2 then qes L.atom&&decide (L.left=qfg)&&decide (L.right=qfg) else if L.kind=3 then decide (L.atom.pred=⟨#[]⟩)&&decide (L.atom.args.length=0)&&qb9 L.left&&qb9 L.right else false:=rfl
 obtain⟨bA,hbA⟩: ∃b,qes L.atom=b:=⟨_,rfl⟩;obtain⟨bq1,hbq1⟩: ∃b,decide (L.left=qfg)=b:=⟨_,rfl⟩;obtain⟨bq2,hbq2⟩: ∃b,decide (L.right=qfg)=b:=⟨_,rfl⟩;obtain⟨bt1,hbt1⟩: ∃b,qb9 L.left=b:=⟨_,rfl⟩;obtain⟨bt2,hbt2⟩: ∃b,qb9 L.right=b:=⟨_,rfl⟩;obtain⟨bl,hbl⟩: ∃b,qdp L=b:=⟨_,rfl⟩;rw [hbl];rw [hbl,hbA,hbq1,hbq2,hbt1,hbt2]at hL;simp only [hbA]at hat;simp only [hbt1]at ht1;simp only [hbt2]at ht2;simp only [hbq1]at hq1;simp only [hbq2]at hq2;clear hbl hbA hbq1 hbq2 hbt1 hbt2;obtain⟨k,⟨pr,args⟩,⟨lv,lt⟩,⟨rv,rt⟩⟩:=L;unfold qfb;unfold qer qfg at hq1 hq2;unfold qer at ht1 ht2;simp only at*;obtain⟨aa,ca,rfl,hla,hca,-⟩:=id ha;obtain⟨m,hm⟩:=ex (args.length);rw [hm]at hL ha hat hla hca;rw [hm];obtain⟨nb,hnb⟩:=ex (w.heap.size);obtain⟨W0,hW0⟩:=ex (w.alloc (.cells #[.int .i64 k,.string pr,.slice aa m ca,.bool lv,.string lt,.bool rv,.string rt] 64));have k0:Keep (fun _=>True) w W0:=by rw [←hW0];exact kAl
 have b0:W0.heap[nb]?=some (.cells #[.int .i64 k,.string pr,.slice aa m ca,.bool lv,.string lt,.bool rv,.string rt] 64 (0,0)):=by rw [←hW0,←hnb];exact qh _ _
 have l0:=qe b0;have hsz:=k0.size;have hat0:=hat W0 (qas ha (k0.mono fun _ _ _=>trivial)) (by omega);have c0:=qb b0 0 _ rfl;have c1:=qb b0 1 _ rfl;have c2:=qb b0 2 _ rfl;have c3:=qb b0 3 _ rfl;have c4:=qb b0 4 _ rfl;have c5:=qb b0 5 _ rfl;have c6:=qb b0 6 _ rfl;simp only [Nat.zero_add]at c0 c1 c2 c3 c4 c5 c6;clear ha hat hla hca hm;refine hd8 ?_ hL hat0 ht1 ht2 k0 hW0 hnb b0;clear hL hat0 ht1 ht2 k0 hW0 hnb b0;intro XhL Xhat0 Xht1 Xht2 Xk0 XhW0 Xhnb Xb0;by_cases e12:k=1∨k=2
 ·have hL2:bl=(bA&&bq1&&bq2):=by rw [XhL.o,if_pos e12]
  refine hd1 ?_ hL2;clear hL2;intro XhL2;rcases e12 with rfl |rfl
  all_goals cases bA
  all_goals (try cases bq1)
  all_goals go_enter Tryz.func77,Tryz.ntmps77
  all_goals go_wp2_with fail
  all_goals rw [XhW0.o,Xhnb.o]
  all_goals refine Xhat0.o.mono ?_
  all_goals (rintro e W1 ⟨rfl,k1⟩;have c3':=k1.cell c3 l0;have c4':=k1.cell c4 l0;have c5':=k1.cell c5 l0;have c6':=k1.cell c6 l0;have hz1:=k1.size;have l0':nb<W1.heap.size:=(by omega);have kk:Keep (fun b=>b<nb) w W1:=(Xk0.o.mono fun _ _ _=>trivial).trans (k1.mono fun b hb _=>(by omega));clear k1 c0 c1 c2 c3 c4 c5 c6;have Xkk:=Lib.hid kk;clear kk)
  all_goals go_wp2_with fail
  all_goals go_ret
  all_goals exact⟨by rw [XhL2.o];(try cases bq1)<;>(try cases bq2)<;>rfl,Xkk.o.mono fun b hb h=>by have:=Xhnb.o;omega⟩
 ·by_cases e3:k=3
  ·have hL3:bl=(decide (pr=⟨#[]⟩)&&decide (m=0)&&bt1&&bt2):=by rw [XhL.o,if_neg e12,if_pos e3]
   subst e3;clear hq1 hq2;cases bt1
   ·refine hd1 ?_ hL3;clear hL3;intro XhL3
    go_enter Tryz.func77,Tryz.ntmps77
    go_wp2_with fail;rw [XhW0.o,Xhnb.o];refine(Xht1.o _).mono ?_;rintro e W1 ⟨rfl,k1⟩;have Xk1:=Lib.hid k1;clear k1;go_wp2_with fail;go_ret;exact⟨by rw [XhL3.o,Bool.and_false,Bool.false_and];rfl,(Xk0.o.trans Xk1.o).mono fun _ _ _=>trivial⟩
   ·cases bt2
    ·refine hd1 ?_ hL3;clear hL3;intro XhL3
     go_enter Tryz.func77,Tryz.ntmps77
     go_wp2_with fail;rw [XhW0.o,Xhnb.o];refine(Xht1.o _).mono ?_;rintro e W1 ⟨rfl,k1⟩;have c5':=k1.cell c5 trivial;have c6':=k1.cell c6 trivial;have l0':nb<W1.heap.size:=by have:=k1.size;omega
     have Xk1:=Lib.hid k1;clear k1 c5 c6;go_wp2_with fail;refine(Xht2.o _).mono ?_;rintro e W2 ⟨rfl,k2⟩;have Xk2:=Lib.hid k2;clear k2;go_wp2_with fail;go_ret;exact⟨by rw [XhL3.o,Bool.and_false];rfl,((Xk0.o.trans Xk1.o).trans Xk2.o).mono fun _ _ _=>trivial⟩
    ·by_cases hp:pr=⟨#[]⟩
     ·subst hp;rw [show decide ((⟨#[]⟩:ByteArray)=⟨#[]⟩)=true from rfl,Bool.true_and]at hL3;by_cases hn0:m=0
      ·subst hn0;refine hd1 ?_ hL3;clear hL3;intro XhL3
       go_enter Tryz.func77,Tryz.ntmps77
       go_wp2_with fail;rw [XhW0.o,Xhnb.o];refine(Xht1.o _).mono ?_;rintro e W1 ⟨rfl,k1⟩;have c5':=k1.cell c5 trivial;have c6':=k1.cell c6 trivial;have c1':=k1.cell c1 trivial;have c2':=k1.cell c2 trivial;have l0':nb<W1.heap.size:=by have:=k1.size;omega
       have Xk1:=Lib.hid k1;clear k1 c5 c6 c1 c2;go_wp2_with fail;refine(Xht2.o _).mono ?_;rintro e W2 ⟨rfl,k2⟩;have c1'':=k2.cell c1' trivial;have c2'':=k2.cell c2' trivial;have l0'':nb<W2.heap.size:=by have:=k2.size;omega
       have Xk2:=Lib.hid k2;clear k2 c1' c2' c5' c6';go_wp2_with fail;go_ret;exact⟨by rw [XhL3.o];rfl,((Xk0.o.trans Xk1.o).trans Xk2.o).mono fun _ _ _=>trivial⟩
      ·have hm0:((m:Int)==0)=false:=by rw [beq_eq_false_iff_ne];omega
       rw [decide_eq_false hn0]at hL3;refine hd1 ?_ hL3;clear hL3;intro XhL3
       go_enter Tryz.func77,Tryz.ntmps77
       go_wp2_with fail;rw [XhW0.o,Xhnb.o];refine(Xht1.o _).mono ?_;rintro e W1 ⟨rfl,k1⟩;have c5':=k1.cell c5 trivial;have c6':=k1.cell c6 trivial;have c1':=k1.cell c1 trivial;have c2':=k1.cell c2 trivial;have l0':nb<W1.heap.size:=by have:=k1.size;omega
       have Xk1:=Lib.hid k1;clear k1 c5 c6 c1 c2;go_wp2_with fail;refine(Xht2.o _).mono ?_;rintro e W2 ⟨rfl,k2⟩;have c1'':=k2.cell c1' trivial;have c2'':=k2.cell c2' trivial;have l0'':nb<W2.heap.size:=by have:=k2.size;omega
       have Xk2:=Lib.hid k2;clear k2 c1' c2' c5' c6';go_wp2_with fail;go_ret;exact⟨by rw [XhL3.o];rfl,((Xk0.o.trans Xk1.o).trans Xk2.o).mono fun _ _ _=>trivial⟩
     ·have hpn:=qrt hp;have hpe:pr.toList.isEmpty=false:=by cases h:pr.toList with
       |nil=>exact absurd h hpn
       |cons x xs=>rfl
      rw [decide_eq_false hp]at hL3;clear hp;refine hd1 ?_ hL3;clear hL3;intro XhL3
      go_enter Tryz.func77,Tryz.ntmps77
      go_wp2_with fail;rw [XhW0.o,Xhnb.o];refine(Xht1.o _).mono ?_;rintro e W1 ⟨rfl,k1⟩;have c5':=k1.cell c5 trivial;have c6':=k1.cell c6 trivial;have c1':=k1.cell c1 trivial;have c2':=k1.cell c2 trivial;have l0':nb<W1.heap.size:=by have:=k1.size;omega
      have Xk1:=Lib.hid k1;clear k1 c5 c6 c1 c2;go_wp2_with fail;refine(Xht2.o _).mono ?_;rintro e W2 ⟨rfl,k2⟩;have c1'':=k2.cell c1' trivial;have c2'':=k2.cell c2' trivial;have l0'':nb<W2.heap.size:=by have:=k2.size;omega
      have Xk2:=Lib.hid k2;clear k2 c1' c2' c5' c6';go_wp2_with fail;go_ret;exact⟨by rw [XhL3.o];rfl,((Xk0.o.trans Xk1.o).trans Xk2.o).mono fun _ _ _=>trivial⟩
  ·have hL4:bl=false:=by rw [XhL.o,if_neg e12,if_neg e3]
   have f1: ¬k=1:=fun e=>e12 (.inl e);have f2: ¬k=2:=fun e=>e12 (.inr e);clear e12 hq1 hq2;refine hd1 ?_ hL4;clear hL4;intro XhL4
   go_enter Tryz.func77,Tryz.ntmps77
   go_wp2_with fail;go_ret;exact⟨by rw [XhL4.o];rfl,by rw [XhW0.o];exact Xk0.o.mono fun _ _ _=>trivial⟩
set_option maxRecDepth 100000 in
theorem qqb (n:Nat)(L:LitD)(sa:Value)(w:World)(ha:qaj n w sa L.atom.args)(hn:n<=w.heap.size):Calls prog 76 #[qfb L sa] w fun e w'=>e=.returned (.bool (!qdp L))/\Keep (fun b=>b<w.heap.size) w w':=by
 have h:=fun W (hK:Keep (fun _=>True) w W)=>quz n L sa W (qas ha (hK.mono fun _ _ _=>trivial)) (by have:=hK.size;omega);obtain⟨aa,ca,rfl,-,-,-⟩:=id ha;obtain⟨k,⟨pr,args⟩,⟨lv,lt⟩,⟨rv,rt⟩⟩:=L;unfold qfb at h⊢;simp only at h⊢;obtain⟨b1,hb1⟩: ∃b,qdp ⟨k,⟨pr,args⟩,⟨lv,lt⟩,⟨rv,rt⟩⟩=b:=⟨_,rfl⟩;simp only [hb1]at h;rw [hb1];clear ha;refine hd2 ?_ h hb1;clear h hb1;intro Xh Xhb1
 go_enter Tryz.func76,Tryz.ntmps76
 go_wp2_with fail;refine(Xh.o _ kAl).mono ?_;rintro e w1 ⟨rfl,k1⟩;go_wp2_with fail;go_ret;exact⟨rfl,kAl.trans (k1.mono fun b hb _=>by simp;omega)⟩
set_option maxRecDepth 100000 in
theorem qqc:qpa:=by
 intro n r sh sb w hr hn;obtain⟨⟨pr,args⟩,body⟩:=r;obtain⟨hh,hb⟩:=hr;unfold qbf;simp only at hh hb⊢;have hE:qax ⟨⟨pr,args⟩,body⟩=(decide (body.length<=256)&&qes ⟨pr,args⟩&&body.all qdp):=rfl;have hat:=fun W (hK:Keep (fun _=>True) w W)=>qmg n ⟨pr,args⟩ sh W (qas hh (hK.mono fun _ _ _=>trivial)) (by have:=hK.size;omega);have hls:=fun W (hK:Keep (fun b=>b<w.heap.size) w W)=>qkv (gf:=76) (bs:= #[]) (lb:= #[]) (qc6 Tryz.func76 (by kernel_rfl) rfl) (fun L=>!qdp L) n sb body W (qim hb (hK.mono fun b _ h=>by omega)) (by have:=hK.size;omega)
  (fun x _ W2 hK2 sa hsa=>(qqb n x sa W2 hsa (by have:=hK.size;have:=hK2.size;omega)).mono fun e w' ⟨e1,k1⟩=>⟨e1,k1⟩)
 rw [qk3 qdp body]at hls;obtain⟨bA,hbA⟩: ∃b,qes ⟨pr,args⟩=b:=⟨_,rfl⟩;obtain⟨bL,hbL⟩: ∃b,body.all qdp=b:=⟨_,rfl⟩;rw [hbA,hbL,show decide (body.length<=256)=decide ((body.length:Int)<=256) from by rw [decide_eq_decide];omega]at hE;simp only [hbA]at hat;simp only [hbL]at hls;obtain⟨aa,ca,rfl,-,-,-⟩:=id hh;obtain⟨ab,cb,rfl,hlb,hcb,-⟩:=id hb;obtain⟨W0,hW0⟩:=ex (w.alloc (.cells #[.string pr,.slice aa args.length ca,.slice ab body.length cb] 27));have k0:Keep (fun _=>True) w W0:=by rw [←hW0];exact kAl
 have hz:=k0.size;have c2:W0.cell? ⟨w.heap.size,2,none⟩=some (.slice ab body.length cb):=by rw [←hW0];simp
 have l0:w.heap.size<W0.heap.size:=by rw [←hW0];simp
 have hat0:=hat W0 k0;clear hh hb hbA hbL hat;obtain⟨b3,hb3⟩: ∃b,decide ((body.length:Int)<=256)=b:=⟨_,rfl⟩;rw [hb3]at hE;refine hd5 ?_ hE hat0 hls k0 hW0;clear hE hat0 hls k0 hW0;intro XhE Xhat0 Xhls Xk0 XhW0;cases bA
 ·go_enter Tryz.func40,Tryz.ntmps40
  go_wp2_with fail;rw [XhW0.o];refine Xhat0.o.mono ?_;rintro e W1 ⟨rfl,k1⟩;have kk:Keep (fun b=>b<w.heap.size) w W1:=(Xk0.o.mono fun _ _ _=>trivial).trans (k1.mono fun b hb _=>(by omega));have Xkk:=Lib.hid kk;clear k1 kk;go_wp2_with fail;go_ret;exact⟨by rw [XhE.o,Bool.and_false,Bool.false_and];rfl,Xkk.o⟩
 ·cases b3
  ·have hb4: ¬(body.length:Int)<=256:=of_decide_eq_false hb3;clear hb3
   go_enter Tryz.func40,Tryz.ntmps40
   go_wp2_with fail;rw [XhW0.o];refine Xhat0.o.mono ?_;rintro e W1 ⟨rfl,k1⟩;have c2':=k1.cell c2 l0;have l0':w.heap.size<W1.heap.size:=by have:=k1.size;omega
   have kk:Keep (fun b=>b<w.heap.size) w W1:=(Xk0.o.mono fun _ _ _=>trivial).trans (k1.mono fun b hb _=>(by omega));have Xkk:=Lib.hid kk;clear k1 kk c2;go_wp2_with fail;go_ret;exact⟨by rw [XhE.o];rfl,Xkk.o⟩
  ·have hb4:(body.length:Int)<=256:=of_decide_eq_true hb3;clear hb3
   go_enter Tryz.func40,Tryz.ntmps40
   go_wp2_with fail;rw [XhW0.o];refine Xhat0.o.mono ?_;rintro e W1 ⟨rfl,k1⟩;have c2':=k1.cell c2 l0;have l0':w.heap.size<W1.heap.size:=by have:=k1.size;omega
   have kk:Keep (fun b=>b<w.heap.size) w W1:=(Xk0.o.mono fun _ _ _=>trivial).trans (k1.mono fun b hb _=>(by omega));have hz1:=kk.size;have Xkk:=Lib.hid kk;clear k1 kk c2;go_wp2_with fail;refine(Xhls.o _ Xkk.o).mono ?_;rintro e W2 ⟨rfl,k2⟩;go_wp2_with fail;go_ret;exact⟨by rw [XhE.o];cases bL<;>rfl,Xkk.o.trans (k2.mono fun b hb _=>by omega)⟩
end Go.Proofs
namespace Go.Proofs
open Go.RowKit Go.Ink Go.Flt R4 P16
theorem qr7 {r:RuleD}(h:qax r=true): ∀L,L∈r.body->qv L=L.terms:=fun L hL=>by
 have hl:=(qdw h).2.2 L hL;unfold qdp at hl;unfold qv LitD.terms;split at hl
 ·rename_i hk;rw [if_neg (by omega),if_pos hk]
 ·rename_i hk;split at hl
  ·rename_i h3;rw [if_pos h3,if_neg hk,if_pos h3]
  ·cases hl
theorem qr8 (ts:List TermD): ∀vars,qa8 vars ts=((ts.filter (·.var)).map (·.text)).foldl qq vars:=by
 induction ts with
 |nil=>intro vars;rfl
 |cons t ts ih=>
  intro vars;show qa8 (if t.var=true then qq vars t.text else vars) ts=_;rw [ih];by_cases hv:t.var=true
  ·rw [if_pos hv,filter_cons_of_pos hv];rfl
  ·rw [if_neg hv,filter_cons_of_neg hv]
theorem qi9 {r:RuleD}(h:qax r=true):qbo r r.body.length=qak r:=by
 unfold qbo qak;rw [take_length,qlg];have hgo: ∀(l:List LitD) (vs:List ByteArray),(∀L,L∈l->qv L=L.terms)->l.foldl (fun vs L=>qa8 vs (qv L)) vs=(l.flatMap LitD.uses).foldl qq vs:=by
  intro l
  induction l with
  |nil=>intro vs _;rfl
  |cons L l ih=>
   intro vs hl;rw [foldl_cons,ih _ (fun x hx=>hl x (mem_cons_of_mem _ hx)),flatMap_cons,foldl_append,hl L (mem_cons_self ..),qr8]
   rfl
 rw [hgo _ _ (qr7 h),qr8];unfold qa9;rw [foldl_append]
 rfl
theorem qqd {r:RuleD}(h:S12.looseOf r=none): ∀x,x∈r.names->x∈qcp r.body:=fun x hx=>by
 have:=find?_eq_none.1 h x hx
 simpa using this
theorem q19 {body:List LitD}{x:ByteArray}(h:x∈qcp body):x∈qw body (qag body):=by
 unfold qcp at h;rw [qfy,mem_flatMap]at h;obtain⟨L,hL,hx⟩:=h;rw [mem_filter]at hL;obtain⟨i,hi⟩:=mem_iff_getElem?.1 hL.1;have hk:L.kind=1:=by simpa using hL.2
 have hil:=(List.getElem?_eq_some_iff.1 hi).1;rw [qg8];refine⟨i,?_,?_,?_⟩
 ·unfold qag;rw [mem_filter,mem_range,qmk hi];exact⟨hil,by simp [hk]⟩
 ·rw [qmk hi];omega
 ·rw [getD_eq_getElem?_getD,hi];unfold LitD.uses LitD.terms at hx;rw [if_pos (.inl hk)]at hx;exact hx
theorem qwf {x:ByteArray}: ∀(l:List LitD) (K:List ByteArray),(x∈K∨ ∃L,L∈l/\L.kind=1/\x∈(L.atom.args.filter (·.var)).map (·.text))->x∈l.foldl (fun K L=>if L.kind=1 then K++qb1 K L.atom.args else K) K:=by
 intro l
 induction l with
 |nil=>
  intro K h;rcases h with h |⟨L,h,-⟩
  ·exact h
  ·cases h
 |cons M l ih=>
  intro K h;rw [foldl_cons];refine ih _ ?_;rcases h with h |⟨L,hL,hk,hx⟩
  ·left;split
   ·exact mem_append_left _ h
   ·exact h
  ·rcases mem_cons.1 hL with rfl |hL
   ·left;rw [if_pos hk,mem_append]
    by_cases hK:x∈K
    ·exact .inl hK
    ·right;obtain⟨t,ht,rfl⟩:=mem_map.1 hx
     rw [mem_filter]at ht;unfold qb1;rw [qfy];refine mem_map.2 ⟨t,mem_filter.2 ⟨ht.1,?_⟩,rfl⟩;unfold qcf;rw [ht.2,decide_eq_false hK]
     rfl
   ·exact .inr ⟨L,hL,hk,hx⟩
theorem q6f {body:List LitD}{x:ByteArray}(h:x∈qcp body):x∈qbl body:=by
 unfold qcp at h;rw [qfy,mem_flatMap]at h;obtain⟨L,hL,hx⟩:=h;rw [mem_filter]at hL;have hk:L.kind=1:=by simpa using hL.2
 unfold LitD.uses LitD.terms at hx;rw [if_pos (.inl hk)]at hx;unfold qbl;exact qwf _ _ (.inr ⟨L,hL.1,hk,hx⟩)
theorem qy8 {r:RuleD}(hf:qax r=true)(h:S12.looseOf r=none):qd6 r=true:=by
 have hn:=qqd h;have hclosed: ∀L t,L∈r.lits->t∈L.terms->qcf (qbl r.body) t=false:=fun L t hL ht=>by
  unfold qcf;cases hv:t.var with
  |false=>rfl
  |true=>
   rw [decide_eq_true (q6f (hn _ (qlj hL ht hv)))]
   rfl
 unfold qd6;rw [Bool.and_eq_true,Bool.not_eq_true',all_eq_true];refine⟨any_eq_false.2 fun t ht=>?_,fun L hL=>?_⟩
 ·rw [hclosed r.headLit t (mem_cons_self ..) (by unfold LitD.terms RuleD.headLit;rw [if_pos (.inl rfl)];exact ht)];simp
 ·unfold qcm;by_cases hk:L.kind=1
  ·rw [decide_eq_true hk];rfl
  ·rw [Bool.or_eq_true];right;rw [Bool.not_eq_true'];refine any_eq_false.2 fun t ht=>?_;have e:qe3 L=L.terms:=by rw [←qr7 hf L hL];rfl
   rw [e]at ht;rw [hclosed L t (mem_cons_of_mem _ hL) ht];simp
theorem q6g {r:RuleD}(h:qff r=0):qcr r/\qax r=true/\S12.looseOf r=none:=by
 have hf:qax r=true:=by
  cases hb:qax r with
  |true=>rfl
  |false=>unfold qff at h;rw [hb,if_neg (by simp)] at h;cases h
 have hl:S12.looseOf r=none:=by
  cases hb:S12.looseOf r with
  |none=>rfl
  |some x=>unfold qff at h;rw [hf,if_pos rfl,hb,if_neg (by simp)] at h;cases h
 refine⟨⟨hf,qy8 hf hl,fun x hx=>q19 (qqd hl x hx),fun L t hL ht=>qpb hf L hL t ht,fun L hL=>?_,fun e=>?_⟩,hf,hl⟩
 ·have hb:=(qdw hf).2.2 L hL;unfold qdp at hb;split at hb
  ·simp only [Bool.and_eq_true]at hb;have:=(qg6 hb.1.1).1;unfold qe2 qb8 at this;simp only [Bool.and_eq_true,decide_eq_true_eq]at this;omega
  ·split at hb
   ·simp only [Bool.and_eq_true,decide_eq_true_eq]at hb;rw [hb.1.1.1];exact Nat.zero_le _
   ·cases hb
 ·have:=(qg6 (qdw hf).2.1).1;unfold qe2 qb8 at this;simp only [Bool.and_eq_true,decide_eq_true_eq]at this;rw [e]at this;exact absurd this.1.1.2.1 (by decide)
theorem qkk {n:Nat}{r:RuleD}{sh sb:Value}{w:World}(hr:RuleIn n w sh sb r)(hn:n<=w.heap.size):
  Calls prog 9 #[qbf r sh sb] w fun e w'=>Keep (fun b=>b<w.heap.size) w w'/\((qff r≠0/\e=.returned (.tuple #[.pointer none,.int .i64 (qff r)]))∨(qcr r/\ ∃J vha vb vv va vt vh,e=.returned (.tuple #[qj J,.int .i64 0])/\
   JoinAt (fun b=>w.heap.size<=b/\b<w'.heap.size) w'.heap.size w' J r (qak r) (qdr r.body r.body.length) vha vb vv va vt vh)):=by
 refine(qvj qqc hr hn).mono ?_;rintro e w' ⟨h1,h2 |⟨h2,J,vha,vb,vv,va,vt,vh,h3,h4⟩⟩
 ·exact⟨h1,.inl h2⟩
 ·obtain⟨h5,h6,-⟩:=q6g h2;rw [qi9 h6]at h4;exact⟨h1,.inr ⟨h5,J,vha,vb,vv,va,vt,vh,h3,h4⟩⟩
end Go.Proofs
