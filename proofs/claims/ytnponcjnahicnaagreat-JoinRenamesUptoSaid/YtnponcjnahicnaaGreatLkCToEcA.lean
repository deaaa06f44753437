/- Parts of the proof. -/
import Derived.Test.YtnponcjnahicnaaGreatProg
import Derived.Test.YtnponcjnahicnaaGreatWkMToLkB
import Derived.Test.YtnponcjnahicnaaGreatJnDToJnE
import Derived.Test.YtnponcjnahicnaaGreatPnX
import Derived.Test.YtnponcjnahicnaaGreatHdToKp
import Derived.Test.YtnponcjnahicnaaGreatHoistToRowC
import Derived.Test.YtnponcjnahicnaaGreatStO
set_option linter.unusedSimpArgs false
set_option linter.unusedVariables false
open Go.Proofs.Tryz(prog)
open List(all_eq_false all_eq_true any_append any_cons any_eq_false any_nil append_nil eq_nil_iff_forall_not_mem flatMap_append getD_eq_getElem?_getD getElem?_eq_getElem getElem?_map getElem_range length_append length_eq_zero_iff length_map map_congr_left map_map mem_append mem_cons_of_mem mem_cons_self mem_iff_getElem? mem_of_getElem? mem_range mem_singleton nodup_nil take_add_one take_length toList_toArray)
namespace Go.Proofs
open Go.RowKit Go.Ink Go.Flt R4 P16
attribute [local go_sem] Oper.semAt_some
theorem q7b {r:RuleD}{sizes:List qaj}{first:Int}(hu:qbt sizes=true)(hs:qd9 r=true)(hf:qbf r first=false)(j:Nat)(hj:j<=r.body.length): ∀s,s∈(qbs r sizes first j).steps->0<=s.lit:=by
 induction j with
 |zero=>intro s h;simp [qbs] at h
 |succ j ih=>
  obtain⟨k,hk1,-⟩:=qiy (sizes:=sizes) hs hf (show j<r.body.length by omega) (qoa hu hs hf j (by omega)) (fun h=>by subst h;rfl);have e:qbs r sizes first (j+1)=qie r sizes (k:Int) (qbs r sizes first j):=by
   show qie r sizes (qg5 r sizes first j (qbs r sizes first j)) (qbs r sizes first j)=_;rw [hk1]
  rw [e];intro s h;rcases mem_append.1 h with h |h
  ·exact ih (by omega) s h
  ·rw [mem_singleton]at h;subst h;unfold qbd;split
   ·exact Int.natCast_nonneg k
   ·exact Int.natCast_nonneg k
def qdg (body:List LitD)(ks:List LookD):Nat->List qaj
 |0=> []
 |i+1=>qdg body ks i++if (body.getD i default).kind=1 then [⟨(body.getD i default).atom.pred,((ks.getD i ⟨none,⟨#[]⟩,0,0⟩).upto:Int),[]⟩] else []
def qdl (body:List LitD)(ks:List LookD):List qaj:=qdg body ks body.length
def qt7 (s:qaj):List Value:= [.string s.pred,.int .i64 s.rows,.slice none 0 0]
theorem qoj (body:List LitD)(ks:List LookD)(i:Nat):(qdg body ks i).length<=i:=by
 induction i with
 |zero=>exact Nat.le_refl _
 |succ i ih=>
  unfold qdg;rw [length_append];split
  ·simp;exact ih
  ·simp;omega
theorem qt8 (body:List LitD)(ks:List LookD)(i:Nat): ∀s,s∈qdg body ks i->s.dist= []:=by
 induction i with
 |zero=>intro s h;cases h
 |succ i ih=>
  intro s h;unfold qdg at h;rcases mem_append.1 h with h |h
  ·exact ih s h
  ·split at h
   ·rw [mem_singleton]at h;subst h;rfl
   ·cases h
theorem qyj {w:World}{base:Nat}{e:TypeId}{v:Value}{n:Nat}{ss:List qaj}(h:w.ownsRow base e 3 v n (ss.flatMap qt7))(hb:ss.length<=1073741824)(hd: ∀s,s∈ss->s.dist= []):SizesIn w.heap.size w v ss:=
 qdw h ss (by have:=h.1;rw [qay _ 3 (fun _=>rfl)] at this;omega) hb (q5e w.heap.size) fun b k d hdk hc=>by
  refine⟨.slice none 0 0,fun j u hu=>?_,?_⟩
  ·have hj:j<3:=(List.getElem?_eq_some_iff.1 hu).1;rw [hc j hj,qbc _ 3 (fun _=>rfl) _ k j d hdk hj];exact hu
  ·rw [hd d (mem_of_getElem? hdk)];exact⟨none,0,rfl,by simp,by simp [maxLen],fun k x hx=>by simp at hx⟩
theorem q5z:qcg prog 202 204 3 48:=qcz (z:=.agg #[.string ⟨#[]⟩,.int .i64 0,.slice none 0 0]) (by kernel_rfl) (by kernel_rfl) rfl (by decide) (by decide)
theorem JoinAt.rule {U:Nat->Prop}{n:Nat}{w:World}{J:Nat}{r:RuleD}{vars:List ByteArray}{pos:List Int}{vha vb vv va vt vh:Value}(h:JoinAt U n w J r vars pos vha vb vv va vt vh):RuleIn n w vha vb r:=
 ⟨h.head.mono fun _ _ _ _ hx=>hx.2,h.body.mono fun b o L _ hx=>by
  obtain⟨-,sa,h1,h2⟩:=hx;exact⟨sa,h1,h2.mono fun _ _ _ _ hy=>hy.2⟩⟩
def qo8 (ss:List qdc):List Value:=ss.map fun s=>.int .i64 s.lit
set_option maxRecDepth 100000 in
set_option maxHeartbeats 4000000 in
theorem q02 {U:Nat->Prop}{n:Nat}{w:World}{J:Nat}{r:RuleD}{vars:List ByteArray}{pos:List Int}{vha vb vv va vt vh:Value}(hj:JoinAt U n w J r vars pos vha vb vv va vt vh)(hn:n<=w.heap.size){Lk:Nat}{ks:List LookD}
  (hLk:w.heap[Lk]?=some (.cells (ks.flatMap LookD.cells).toArray 161 (0,0))) (hkl:ks.length=r.body.length) (first:Int) (hask:qd4 r (qdl r.body ks) (qbf r first)=0):
  Calls prog 85 #[qk J,.slice (some ⟨Lk,0,none⟩) r.body.length r.body.length,.int .i64 first] w fun e w'=> ∃vo,e=.returned vo/\w'.ownsRow w.heap.size 3 1 vo (qgw r (qdl r.body ks) first).length ((qgw r (qdl r.body ks) first).map fun i:Nat=>.int .i64 (i:Int))/\Keep (fun b=>b<w.heap.size) w w':=by
 have hp:qaq r=true/\qbt (qdl r.body ks)=true/\qbf r first=false/\qd9 r=true:=by
  unfold qd4 at hask;cases h1:qaq r<;>cases h2:qbt (qdl r.body ks)<;>cases h3:qd9 r<;>cases h4:qbf r first<;>rw [h1,h2,h3,h4] at hask<;>first |exact⟨rfl,rfl,rfl,rfl⟩ |(exfalso;revert hask;decide)
 obtain⟨hF,hu,hf,hs⟩:=hp;have hok:=qoa hu hs hf r.body.length (Nat.le_refl _);have hlit:=q7b hu hs hf r.body.length (Nat.le_refl _);have hmkD:qjr r (qdl r.body ks) first=(⟨r,(qbs r (qdl r.body ks) first r.body.length).steps⟩,0):=by unfold qjr;rw [hask,if_neg (by simp)]
 have hsl:=hok.stp;obtain⟨steps,hst⟩:=ex ((qbs r (qdl r.body ks) first r.body.length).steps);rw [hst]at hmkD hsl hlit;have hol:(qgw r (qdl r.body ks) first).length=steps.length:=by unfold qgw;rw [hst,length_map]
 have hom:((qgw r (qdl r.body ks) first).map fun i:Nat=>Value.int .i64 (i:Int))=qo8 steps:=by
  unfold qgw qo8;rw [hst,map_map];refine map_congr_left fun s hs=>?_;have:=hlit s hs;simp only [Function.comp];rw [Int.toNat_of_nonneg this]
 rw [hol,hom];have hrule:=hj.rule;obtain⟨ab,cb,hvb,hbl,hbc,hbe⟩:=id hj.body;obtain⟨ah,ch,hvha,hhl,hhc,-⟩:=id hj.head;obtain⟨N,hN⟩:=ex (w.heap.size);have hjb:=hj.box;rw [hvb,hvha]at hjb;rw [hvb,hvha]at hrule;have c0:=qb hjb 0 _ rfl;have c1:=qb hjb 1 _ rfl;have c2:=qb hjb 2 _ rfl;have lJ:=qe hjb;have lL:=qe hLk;simp only [Nat.zero_add]at c0 c1 c2;have hJc: ∀X,Keep (fun b=>b<N) w X->X.cell? ⟨J,0,none⟩=some (.string r.head.pred)/\X.cell? ⟨J,1,none⟩=some (.slice ah r.head.args.length ch)/\X.cell? ⟨J,2,none⟩=some (.slice ab r.body.length cb)/\J<X.heap.size:=fun X hX=>⟨hX.cell c0 (show J<N by omega),hX.cell c1 (show J<N by omega),hX.cell c2 (show J<N by omega),by have:=hX.size;omega⟩;clear c0 c1 hjb;refine qc9 ?_ hj hLk hkl hask hF hu hf hs hok hlit hmkD hsl hst hol hom hrule;clear hj hLk hkl hask hF hu hf hs hok hlit hmkD hsl hst hol hom hrule;intro Xhj XhLk Xhkl Xhask XhF Xhu Xhf Xhs Xhok Xhlit XhmkD Xhsl Xhst Xhol Xhom Xhrule;refine hd5 ?_ hbe hvb hvha hN hJc;clear hbe hvb hvha hN hJc;intro Xhbe Xhvb Xhvha XhN XhJc;refine qbj Tryz.func85 rfl ?_;simp only [Tryz.ntmps85,qdo,Nat.reduceAdd,Nat.reduceSub];gi_wp2;gi_loopw [7,21] (fun x7 i' X=> ∃i:Nat,i<=r.body.length/\i'=.int .i64 (i:Int)/\Keep (fun b=>b<N) w X/\X.ownsRow N 204 3 x7 (qdg r.body ks i).length ((qdg r.body ks i).flatMap qt7)) (fun _ i _=>r.body.length-(intOf i).toNat)
 case atStart=>exact⟨0,by omega,rfl,Keep.refl _ _,World.ownsRow_nil _ _ _ _⟩
 case round=>
  obtain⟨i,hi,rfl,hK,ho⟩:=hrel;have hzr:=hK.size;by_cases hlt:i<r.body.length
  ·have hlt1:(i:Int)<r.body.length:=by omega
   have hi0:(0:Int)<=i:=by omega
   obtain⟨L,hL⟩: ∃L,r.body[i]?=some L:=⟨_,getElem?_eq_getElem hlt⟩;have hLd:r.body.getD i default=L:=by rw [getD_eq_getElem?_getD,hL];rfl
   obtain⟨k,hk⟩: ∃k,ks[i]?=some k:=⟨_,getElem?_eq_getElem (by rw [Xhkl.o];exact hlt)⟩;have hkd:ks.getD i ⟨none,⟨#[]⟩,0,0⟩=k:=by rw [getD_eq_getElem?_getD,hk];rfl
   have hsn:qdg r.body ks (i+1)=qdg r.body ks i++if L.kind=1 then [⟨L.atom.pred,(k.upto:Int),[]⟩] else []:=by
    show qdg r.body ks i++_=_;rw [hLd,hkd]
   have hsz:=qoj r.body ks i;obtain⟨b4,o4,rfl,hb4,hU4,sa,hcl,hta⟩:=Xhbe.o i L hL;have hb4N:b4<N:=by have:=XhN.o;omega
   have d0:=hK.cell (hcl 0 _ rfl) hb4N;have d1:=hK.cell (hcl 1 _ rfl) hb4N;have d2:=hK.cell (hcl 2 _ rfl) hb4N;have d3:=hK.cell (hcl 3 _ rfl) hb4N;have d4:=hK.cell (hcl 4 _ rfl) hb4N;have d5:=hK.cell (hcl 5 _ rfl) hb4N;have d6:=hK.cell (hcl 6 _ rfl) hb4N;have hb4w:b4<wr.heap.size:=by have:=XhN.o;omega
   obtain⟨aa,ca,rfl,hal,hac,-⟩:=id hta;have hu3:wr.cell? ⟨Lk,i*4+3,none⟩=some (.int .i64 (k.upto:Int)):=by
    have hlk:=hK.heap XhLk.o (by have:=XhN.o;omega);have:=qb hlk (i*4+3) (.int .i64 (k.upto:Int)) (by rw [toList_toArray,qvt (f:=LookD.cells) (n:=4) (fun _=>rfl) _ _ _ hk 3 (by omega)];rfl)
    simpa using this
   have lLw:Lk<wr.heap.size:=by have:=XhN.o;omega
   obtain⟨kd,⟨pr,args⟩,⟨lv,lt⟩,⟨rv,rt⟩⟩:=L;simp only at d0 d1 d2 d3 d4 d5 d6 hal hac hsn;simp only [Nat.add_zero]at d0;obtain⟨a7,c7,rfl⟩:=qi ho;have ho1:=qg ho (Keep.alloc (fun _=>True) wr (.cells #[.int .i64 kd,.string pr,.slice aa args.length ca,.bool lv,.string lt,.bool rv,.string rt] 64)) (fun _ _=>trivial);have hK1:Keep (fun b=>b<N) w (wr.alloc (.cells #[.int .i64 kd,.string pr,.slice aa args.length ca,.bool lv,.string lt,.bool rv,.string rt] 64)):=hK.trans kAl;clear hcl hL hLd hk hkd;by_cases hk1:kd=1
   ·subst hk1;rw [if_pos rfl]at hsn;obtain⟨B,hB⟩:=ex (wr.heap.size);obtain⟨W1,hW1⟩:=ex (wr.alloc (.cells #[.int .i64 1,.string pr,.slice aa args.length ca,.bool lv,.string lt,.bool rv,.string rt] 64));rw [hW1]at ho1 hK1;have nb:W1.heap[B]?=some (.cells #[.int .i64 1,.string pr,.slice aa args.length ca,.bool lv,.string lt,.bool rv,.string rt] 64 (0,0)):=by rw [←hW1,←hB];exact qh _ _
    have kW:Keep (fun _=>True) wr W1:=by rw [←hW1];exact kAl
    have hS: ∀X,Keep (fun _=>True) W1 X->X.cell? ⟨B,1,none⟩=some (.string pr)/\X.cell? ⟨Lk,i*4+3,none⟩=some (.int .i64 (k.upto:Int)):=fun X hX=>by
     have q:=qb (hX.heap nb trivial) 1 _ rfl;simp only [Nat.zero_add]at q;exact⟨q,(kW.trans hX).cell hu3 trivial⟩
    have hT0:=hS _ kDr;obtain⟨W2,hW2⟩:=ex (W1.drew);have k12:Keep (fun _=>True) W1 W2:=by rw [←hW2];exact kDr
    have ho2:=qg ho1 k12 (fun _ _=>trivial);rw [hW2]at hT0;have zN:N<=W2.heap.size:=by have:=hK1.size;have:=k12.size;have:=XhN.o;omega
    obtain⟨v',W3,hr3,ho3,k3,g3,cap3,hv3,hgo3,hg3⟩:=qc7 (P:=prog) q5z 202 ho2 [.string pr,.int .i64 (k.upto:Int),.slice none 0 0] rfl (by simp [Value.oneCell']) (by omega) zN;subst hv3;have hT1:=hS (W2.alloc (.cells #[.string pr,.int .i64 (k.upto:Int),.slice none 0 0] 204)) (k12.trans kAl);have hT2:W3.cell? ⟨B,1,none⟩=some (.string pr)/\W3.cell? ⟨Lk,i*4+3,none⟩=some (.int .i64 (k.upto:Int)):=by
     obtain⟨q1,q2⟩:=hT0;refine⟨k3.cell q1 (fun e=>?_),k3.cell q2 (fun e=>?_)⟩
     ·obtain⟨cs,hcs⟩:=qaw ho2 e.symm;rw [k12.heap nb trivial]at hcs;injection hcs with hcs
      injection hcs with _ h2 _
      revert h2
      decide
     ·have h:=(World.ownsRow.lt ho2 _ e.symm).1;exact absurd (show N<=Lk from h) (by have:=XhN.o;omega)
    have hK3:Keep (fun b=>b<N) w W3:=(hK1.trans (k12.mono fun _ _ _=>trivial)).trans (k3.mono fun b _ (hb:b<N) e=>by have:=(World.ownsRow.lt ho2 b e.symm).1;omega);have hend:W3.ownsRow N 204 3 (.slice (some ⟨g3,0,none⟩) ((qdg r.body ks i).length+1) cap3) (qdg r.body ks (i+1)).length ((qdg r.body ks (i+1)).flatMap qt7):=by
     rw [hsn,length_append,flatMap_append];exact ho3
    have lB:=qe nb;clear hta hU4 ho1 ho2 ho3 k3 hgo3 ho hu3 hK1;refine qc9 ?_ hK hsn hW1 hB hW2 nb kW hS hT0 hT1 hT2 hK3 hend hr3 k12 hg3;clear hK hsn hW1 hB hW2 nb kW hS hT0 hT1 hT2 hK3 hend hr3 k12 hg3;intro XhK Xhsn XhW1 XhB XhW2 Xnb XkW XhS XhT0 XhT1 XhT2 XhK3 Xhend Xhr3 Xk12 Xhg3;gi_wp2;rw [XhW1.o,XhB.o];refine qaa ?_;refine qy rfl (fun X=>X.cell? ⟨B,1,none⟩=some (.string pr)/\X.cell? ⟨Lk,i*4+3,none⟩=some (.int .i64 (k.upto:Int))) [] ?_;rw [XhW2.o];refine qag [0,1,2,3,4,5,6,7,8,9] ?_
    iterate 10
     refine tkR (v:=?_) rfl XhT0.o ?_ ?_;rotate_left
     ·rintro Wq ⟨x1,x2⟩;go_simp
      try with_reducible rfl
     try simp only [qah]
    refine qw ?_;refine hoR 10 rfl fun K XhK0=>?_;gi_wp2;refine XhK0.o _ _ (fun _=>XhT1.o) ?_;refine hoR 11 rfl fun K XhK1=>?_;refine qb6 rfl (.tmp 29) (.tmp 39) 202 rfl rfl rfl Xhr3.o ?_;gi_wp2;refine XhK1.o _ _ (fun _=>XhT2.o) ?_;refine qag [12] ?_
    iterate 1
     refine tkR (v:=?_) rfl XhT2.o ?_ ?_;rotate_left
     ·rintro Wq ⟨x1,x2⟩;go_simp
      try with_reducible rfl
     try simp only [qah]
    refine qw ?_;refine qj (by kernel_rfl) (ql ?_);clear XhK0 XhK1;gi_wp2;go_roundw
    case rel=>exact⟨i+1,by omega,by go_num,XhK3.o,Xhend.o⟩
    case measure=>simp [intOf];omega
   ·rw [if_neg hk1,append_nil]at hsn;have hk2: ¬kd=1:=hk1;clear hta hU4 ho hu3;refine hd4 ?_ hK hsn ho1 hK1;clear hK hsn ho1 hK1;intro XhK Xhsn Xho1 XhK1;gi_wp2;go_roundw
    case rel=>exact⟨i+1,by omega,by go_num,XhK1.o,by rw [Xhsn.o];exact Xho1.o⟩
    case measure=>simp [intOf];omega
  ·obtain rfl:i=r.body.length:=by omega
   have hS2:=qyj ho (by have:=qoj r.body ks r.body.length;omega) (qt8 _ _ _);have hmk:=q4e wr.heap.size r _ _ (qdl r.body ks) u7 first wr ((Xhrule.o.keep (hK.mono fun b _ h=>by have:=XhN.o;omega)).wider (by omega)) hS2 (Nat.le_refl _)
   rw [XhmkD.o]at hmk;obtain⟨a7,c7,rfl⟩:=qi ho;obtain⟨q0,q1,q2,q3⟩:=XhJc.o wr hK;unfold qav q5h at hmk;clear hS2 ho hlt;simp only at hmk;refine hd2 ?_ hmk hK;clear hmk hK;intro Xhmk XhK;gi_wp2;refine⟨trivial,rfl,(callsIn_wide.2 Xhmk.o).mono ?_⟩;rintro e Wp ⟨vh',vb',vs',rfl,hown,kp⟩;obtain⟨qs,hqs,hqo,hqf⟩:=hown.2;have hzp:=kp.size;simp only at hqs hqo;obtain⟨as1,cs1,rfl⟩:=qi hqo;have hql:qs.length=steps.length:=by rw [←hqs,length_map]
   have hsl2:=Xhsl.o;have hsl3:steps.length<=1073741824:=by omega
   obtain⟨ar,cr,rfl⟩: ∃a c,vh'=.slice a r.head.args.length c:=qi hown.1.1;have hvb': ∃a c,vb'=.slice a r.body.length c:=by
    obtain⟨ps,h1,h2,-⟩:=hown.1.2;exact qi h2
   obtain⟨abb,cbb,rfl⟩:=hvb';clear hown;have kwp:Keep (fun b=>b<N) w Wp:=XhK.o.trans (kp.mono fun b _ (h:b<N)=>by have:=XhN.o;have:=XhK.o.size;omega);clear q0 q1 q2 q3;clear hsl2;obtain⟨W5,hW5⟩:=ex (Wp.alloc (.cells #[.string r.head.pred,.slice ar r.head.args.length cr,.slice abb r.body.length cbb,.slice as1 steps.length cs1] 207));have k5:Keep (fun _=>True) Wp W5:=by rw [←hW5];exact kAl
   have kw5:Keep (fun b=>b<N) w W5:=kwp.trans (k5.mono fun _ _ _=>trivial);have hqo5:=qg hqo k5 (fun _ _=>trivial);refine qed ?_ hqs hqo hql kp kwp hW5 k5 kw5 hqo5 hqf;clear hqs hqo hql kp kwp hW5 k5 kw5 hqo5 hqf;intro Xhqs Xhqo Xhql Xkp Xkwp XhW5 Xk5 Xkw5 Xhqo5 Xhqf;gi_wp2;rw [XhW5.o];gi_loopw [12,55] (fun x12 i' X=> ∃i:Nat,i<=steps.length/\i'=.int .i64 (i:Int)/\Keep (fun b=>b<W5.heap.size) W5 X/\X.ownsRow W5.heap.size 3 1 x12 i (qo8 (steps.take i))) (fun _ i _=>steps.length-(intOf i).toNat)
   case atStart=>exact⟨0,by omega,rfl,Keep.refl _ _,World.ownsRow_nil _ _ _ _⟩
   case round=>
    obtain⟨i,hi,rfl,hK,ho⟩:=hrel;have hzr2:=hK.size;by_cases hlt:i<steps.length
    ·have hlt1:(i:Int)<steps.length:=by omega
     have hi0:(0:Int)<=i:=by omega
     obtain⟨q,hq⟩: ∃q,qs[i]?=some q:=⟨_,getElem?_eq_getElem (by rw [Xhql.o];exact hlt)⟩;have hstp:steps[i]?=some q.1:=by rw [←Xhqs.o,getElem?_map,hq];rfl
     obtain⟨gs,hgs⟩: ∃gs,as1=some ⟨gs,0,none⟩:=by
      rcases Xhqo5.o.2 with e |⟨gb',cap,cur,e1',_⟩
      ·have:=e.2;omega
      ·injection e1' with e1' _ _;exact⟨_,e1'⟩
     subst hgs;have hq5:=qg Xhqo5.o hK (fun b hb=>(World.ownsRow.lt Xhqo5.o b hb).2);have m0:=qca hq5 (i*3) _ ((qbc qmb 3 (fun _=>rfl) qs i 0 q hq (by decide)).trans rfl);have m1:=qca hq5 (i*3+1) _ ((qbc qmb 3 (fun _=>rfl) qs i 1 q hq (by decide)).trans rfl);have m2:=qca hq5 (i*3+2) _ ((qbc qmb 3 (fun _=>rfl) qs i 2 q hq (by decide)).trans rfl);have lgs:=World.block_lt_of_cell? _ _ m0;simp only at lgs;have hsn:qo8 (steps.take (i+1))=qo8 (steps.take i)++ [.int .i64 q.1.lit]:=by unfold qo8;rw [take_add_one,hstp];simp
     have hqff:=Xhqf.o q (mem_of_getElem? hq);obtain⟨⟨lit,bd,nw⟩,bv,nv⟩:=q;obtain⟨ab1,cb1,rfl⟩: ∃a c,bv=.slice a bd.length c:=qi hqff.1;obtain⟨ab2,cb2,rfl⟩: ∃a c,nv=.slice a nw.length c:=qi hqff.2;clear hqff;simp only [qmb]at m0 m1 m2 hsn;obtain⟨a12,c12,rfl⟩:=qi ho;obtain⟨W6,hW6⟩:=ex (wr.alloc (.cells #[.int .i64 lit,.slice ab1 bd.length cb1,.slice ab2 nw.length cb2] 211));have k6:Keep (fun _=>True) wr W6:=by rw [←hW6];exact kAl
     have z6:W6.heap.size=wr.heap.size+1:=by rw [←hW6];simp
     have ho6:=qg ho k6 (fun _ _=>trivial);obtain⟨v',W7,hr7,ho7,k7,g7,cap7,hv7,hgo7,hg7⟩:=qc7 (P:=prog) qlp 86 ho6 [.int .i64 lit] rfl (by simp [Value.oneCell']) (by omega) (by omega);subst hv7;rw [z6,←hW6]at hr7;have hK7:Keep (fun b=>b<W5.heap.size) W5 W7:=(hK.trans (k6.mono fun _ _ _=>trivial)).trans (k7.mono fun b _ (hb:b<W5.heap.size) e=>by have:=(World.ownsRow.lt ho6 b e.symm).1;omega);have hend:W7.ownsRow W5.heap.size 3 1 (.slice (some ⟨g7,0,none⟩) (i+1) cap7) (i+1) (qo8 (steps.take (i+1))):=by rw [hsn];exact ho7
     clear hq5 hq hstp ho6 ho7 k7 hgo7 ho;refine hd9 ?_ hK hsn hW6 k6 z6 hr7 hK7 hend hg7;clear hK hsn hW6 k6 z6 hr7 hK7 hend hg7;intro XhK Xhsn XhW6 Xk6 Xz6 Xhr7 XhK7 Xhend Xhg7
     gi_wp2_with (gi_at_builtin;refine qb6 (v:=.slice a12 i c12) (u:=.slice (some ⟨wr.heap.size+1,0,none⟩) 1 1) (v':=.slice (some ⟨g7,0,none⟩) (i+1) cap7) (w':=W7) rfl (.tmp 59) (.tmp 62) 86 rfl rfl rfl Xhr7.o ?_)
     go_roundw
     case rel=>exact⟨i+1,by omega,by go_num,XhK7.o,Xhend.o⟩
     case measure=>simp [intOf];omega
    ·obtain rfl:i=steps.length:=by omega
     rw [take_length]at ho;obtain⟨a12,c12,rfl⟩:=qi ho;have kwr:Keep (fun b=>b<N) w wr:=Xkw5.o.trans (hK.mono fun b _ (h:b<N)=>by have:=XhN.o;have:=Xkw5.o.size;omega);obtain⟨q0,q1,q2,q3⟩:=XhJc.o wr kwr;have hbN:N<=W5.heap.size:=by have:=XhN.o;have:=Xkw5.o.size;omega
     have hfin:=ho.mono hbN;have hsl2:(steps.length:Int)=r.body.length:=by rw [Xhsl.o]
     clear ho hlt hi;refine hd3 ?_ hK kwr hfin;clear hK kwr hfin;intro XhK Xkwr Xhfin;gi_wp2;go_ret;exact⟨_,rfl,by rw [XhN.o];exact Xhfin.o,Xkwr.o.mono fun b _ (h:b<w.heap.size)=>by have:=XhN.o;omega⟩
end Go.Proofs
namespace Go.Proofs
open Go.RowKit Go.Ink Go.Flt R4 P16
def qfl (Ss:List Nat)(g:Gh):Prop:= ∀S,S∈Ss-> ∃f,g.st S=some f/\ ∀x,x∈f->okF x=true
def qbz (n0:Nat)(Ss:List Nat):qgf Gh where
 inv g X:=GInv g X/\qfl Ss g
 free:=Gh.free
 istep g X g' Y:=GStep n0 g X g' Y/\g'.st=g.st
 bstep:=GBd
 ifree h:=h.1.keep
 inew h:=h.1.new
 bnew h:=h.new
 bmono hn h:=h.mono hn
 invk h hK:=⟨h.1.keep hK,h.2⟩
def qdi (g:Gh)(s:Option Nat):List qm:=match s with
 |none=> []
 |some S=>(g.st S).getD []
def qcn (g:Gh)(s sN:Option Nat)(body:List LitD):qba:=qcu body (fun _=>qdi g s) (qdi g sN)
def qek (g:Gh)(s sN:Option Nat)(body:List LitD):List LookD:=qfv g (fun _=>s) sN body
def qhg (g:Gh)(s sN:Option Nat)(r:RuleD)(first:Int):List Nat:=qgw r (qdl r.body (qek g s sN r.body)) first
def qen (g:Gh)(s sN:Option Nat)(r:RuleD)(first:Int):List Asg:=qbg (qcn g s sN r.body) r.body (qhg g s sN r first) qcb
structure qel (r:RuleD):Prop where
 formed:qaq r=true
 safe:qd9 r=true
 bound:q68 r
 small: ∀L t,L∈r.body->t∈qr L->t.text.size<=1073741824
 preds: ∀L,L∈r.body->L.atom.pred.size<=1073741824
 head:r.head.pred≠⟨#[]⟩
theorem qkq (g:Gh)(s:Option Nat)(p:ByteArray)(n:Nat):qfo g s p n=(qu (qdi g s) p n).length:=by
 unfold qfo qdi;cases s with
 |none=>rfl
 |some S=>
  simp only;cases g.st S with
  |none=>rfl
  |some f=>rfl
theorem qr1 {g:Gh}{s sN:Option Nat}{body:List LitD}{i:Nat}{k:LookD}(h:(qek g s sN body)[i]?=some k):k=qfd g (fun _=>s) sN body i/\i<body.length:=by
 unfold qek qfv at h;rw [getElem?_map]at h;obtain⟨j,hj,rfl⟩:=Option.map_eq_some_iff.1 h;obtain⟨hl,he⟩:=List.getElem?_eq_some_iff.1 hj;rw [getElem_range]at he;subst he;exact⟨rfl,by simpa using hl⟩
theorem qv8 (body:List LitD)(ks:List LookD)(hk: ∀k,k∈ks->k.upto<=67108864)(i:Nat):(qdg body ks i).any qic=false:=by
 induction i with
 |zero=>rfl
 |succ i ih=>
  unfold qdg;rw [any_append,ih,Bool.false_or];split
  ·have hu:(ks.getD i ⟨none,⟨#[]⟩,0,0⟩).upto<=67108864:=by
    rw [getD_eq_getElem?_getD];cases h:ks[i]? with
    |none=>simp
    |some k=>exact hk k (mem_of_getElem? h)
   simp only [any_cons,any_nil,Bool.or_false];unfold qic qht;simp only [any_nil,Bool.or_false];rw [decide_eq_false (by omega),decide_eq_false (by omega)]
   rfl
  ·rfl
theorem q50 {g:Gh}{W:World}(hg:GInv g W)(s:Option Nat):(qdi g s).length<=67108864:=by
 unfold qdi;cases s with
 |none=>simp
 |some S=>
  simp only;cases h:g.st S with
  |none=>simp
  |some f=>
   obtain⟨T,M,MX,vx,xs,rl,hP⟩:=hg.store S f h;exact hP.few
theorem qnh {g:Gh}{W:World}(hg:GInv g W)(s:Option Nat):(qdi g s).Nodup:=by
 unfold qdi;cases s with
 |none=>exact nodup_nil
 |some S=>
  simp only;cases h:g.st S with
  |none=>exact nodup_nil
  |some f=>
   obtain⟨T,M,MX,vx,xs,rl,hP⟩:=hg.store S f h;exact hP.nodup
theorem q33 {g:Gh}{W:World}(hg:GInv g W)(s:Option Nat)(p:ByteArray)(n:Nat):qfo g s p n<=67108864:=by
 rw [qkq];exact Nat.le_trans (qj3 _ _ _) (q50 hg s)
theorem qir {g:Gh}{W:World}(hg:GInv g W)(s sN:Option Nat){r:RuleD}(hr:qel r)(first:Int)(hf:qbf r first=false):qd4 r (qdl r.body (qek g s sN r.body)) (qbf r first)=0:=by
 have hu:qbt (qdl r.body (qek g s sN r.body))=true:=by
  unfold qbt qdl;rw [qv8]
  ·rfl
  ·intro k hk;obtain⟨i,hi⟩:=mem_iff_getElem?.1 hk;obtain⟨rfl,-⟩:=qr1 hi;exact q33 hg _ _ _
 unfold qd4;rw [hr.formed,hu,hf,hr.safe]
 rfl
theorem qjo {r:RuleD}:qbf r (-1)=false:=by
 unfold qbf;rw [decide_eq_false (by omega),decide_eq_false (by omega),decide_eq_false (by omega)]
 rfl
theorem q34 {g:Gh}{W:World}(hg:GInv g W){s sN:Option Nat}{r:RuleD}(hr:qel r){first:Int}(hf:qbf r first=false)(h:okJ g (fun _=>s) sN r.body r.body.length=false):qen g s sN r first= []:=by
 obtain⟨ha,hk,hw⟩:=qjn (qir hg s sN hr first hf);unfold okJ at h;rw [all_eq_false]at h;obtain⟨j,hj,hb⟩:=h;rw [mem_range]at hj;refine eq_nil_iff_forall_not_mem.2 fun b hbm=>?_;have hm:=(qla (qhg g s sN r first) qcb b (by rw [qgv];exact hw)).1 hbm;have hh:=hm.2.2 j ((ha j).2 hj);simp only [Bool.or_eq_true,Bool.not_eq_true',decide_eq_false_iff_not,decide_eq_true_eq,not_or,Classical.not_not]at hb;obtain⟨h1,h2⟩:=hb;unfold qfq at hh;rw [if_neg (by rw [h1];decide),if_neg (by rw [h1];decide)]at hh;have h3:qfd g (fun _=>s) sN r.body j=⟨s,(r.body.getD j default).atom.pred,(r.body.getD j default).atom.args.length,qfo g s (r.body.getD j default).atom.pred (r.body.getD j default).atom.args.length⟩:=by unfold qfd qlu;rw [if_pos h1]
 rw [h3]at h2;simp only [qkq]at h2;have h4:(qcn g s sN r.body).pos j= []:=by
  unfold qcn qcu;simp only;exact length_eq_zero_iff.1 (by omega)
 rw [h4]at hh;obtain⟨t,ht,-⟩:=hh;cases ht
theorem q51 {r:RuleD}{L:LitD}{t:TermD}(hr:qel r)(hL:L∈r.body)(ht:t∈qr L):qfc (qad r) t:=fun hv=>by
 unfold qad;rw [qeg];refine qly (L:=L) (mem_cons_of_mem _ hL) ?_ hv;have hk:=qip hr.formed;obtain⟨i,hi⟩:=mem_iff_getElem?.1 hL;have hkk:=hk i (List.getElem?_eq_some_iff.1 hi).1;unfold qbx at hkk;rw [getD_eq_getElem?_getD,hi]at hkk;simp only [Option.getD_some]at hkk;unfold qr at ht;unfold LitD.terms;rcases hkk with h |h |h
 ·rw [if_neg (by omega)]at ht;rw [if_pos (.inl h)];exact ht
 ·rw [if_neg (by omega)]at ht;rw [if_pos (.inr h)];exact ht
 ·rw [if_pos h]at ht;rw [if_neg (by omega),if_pos h];exact ht
theorem q52 {r:RuleD}{t:TermD}(ht:t∈r.head.args):qfc (qad r) t:=fun hv=>by
 unfold qad;rw [qeg];refine qly (L:=r.headLit) (mem_cons_self ..) ?_ hv;unfold LitD.terms RuleD.headLit;rw [if_pos (.inl rfl)];exact ht
theorem q35 {g:Gh}{W:World}(hg:GInv g W){s sN:Option Nat}{r:RuleD}(hr:qel r){first:Int}(hf:qbf r first=false){x:ByteArray}(hx:x∈qad r):x∈qz r.body (qhg g s sN r first):=by
 obtain⟨ha,hk,hw⟩:=qjn (qir hg s sN hr first hf);unfold qad at hx;rw [qeg]at hx;exact(qk2 ha hk x).2 (hr.bound x hx)
theorem q53 {g:Gh}{Ss:List Nat}(hs:qfl Ss g){c:WkC}{s sN:Option Nat}(hsS: ∀S,s=some S->S∈Ss)(hsN: ∀S,sN=some S->S∈Ss)(hc:c.looks=qek g s sN c.r.body)(hok:okJ g (fun _=>s) sN c.r.body c.r.body.length=true):LookOk c (qcn g s sN c.r.body) g:=by
 intro i L k hL hk;rw [hc]at hk;obtain⟨rfl,hi⟩:=qr1 hk;have hLd:c.r.body.getD i default=L:=by rw [getD_eq_getElem?_getD,hL];rfl
 have hpred:(qfd g (fun _=>s) sN c.r.body i).pred=L.atom.pred:=by unfold qfd;rw [hLd]
 have har:(qfd g (fun _=>s) sN c.r.body i).arity=L.atom.args.length:=by unfold qfd;rw [hLd]
 refine⟨hpred,har,fun h1=>?_,fun h2=>?_⟩
 ·unfold okJ at hok;rw [all_eq_true]at hok;have h3:=hok i (mem_range.2 hi);rw [hLd,decide_eq_true h1,Bool.not_true,Bool.false_or,decide_eq_true_eq]at h3;have e:qfd g (fun _=>s) sN c.r.body i=⟨s,L.atom.pred,L.atom.args.length,qfo g s L.atom.pred L.atom.args.length⟩:=by unfold qfd qlu;rw [hLd,if_pos h1]
  rw [e]at h3⊢;simp only at h3⊢;cases s with
  |none=>cases h3
  |some S=>
   obtain⟨f,hf,-⟩:=hs S (hsS S rfl);have hcn:qdi g (some S)=f:=by unfold qdi;simp only;rw [hf];rfl
   rw [qkq,hcn]at h3⊢;refine⟨S,f,rfl,hf,h3,Nat.le_refl _,?_⟩;rw [take_length];unfold qcn qcu;simp only;rw [hLd,hcn]
 ·have e:qfd g (fun _=>s) sN c.r.body i=⟨sN,L.atom.pred,L.atom.args.length,qfo g sN L.atom.pred L.atom.args.length⟩:=by unfold qfd qlu;rw [hLd,if_neg (by omega),if_pos h2]
  rw [e];simp only;cases sN with
  |none=>
   left;refine⟨rfl,?_⟩
   unfold qcn qcu qdi qu
   rfl
  |some S=>
   obtain⟨f,hf,-⟩:=hs S (hsN S rfl);have hcn:qdi g (some S)=f:=by unfold qdi;simp only;rw [hf];rfl
   rw [qkq,hcn];refine .inr ⟨S,f,rfl,hf,Nat.le_refl _,?_⟩;rw [take_length];unfold qcn qcu;simp only;rw [hLd,hcn]
theorem q36 {x:qm}(h:okF x=true){s:ByteArray}(hs:s∈x.tuple):s.size<=1073741824:=by
 unfold okF at h;rw [Bool.and_eq_true,Bool.not_eq_true']at h;have:=any_eq_false.1 h.2 s hs;simp only [decide_eq_true_eq]at this;omega
theorem q03 {g:Gh}{Ss:List Nat}(hs:qfl Ss g){s:Option Nat}(hsS: ∀S,s=some S->S∈Ss): ∀x,x∈qdi g s->okF x=true:=by
 intro x hx;unfold qdi at hx;cases s with
 |none=>cases hx
 |some S=>
  obtain⟨f,hf,ho⟩:=hs S (hsS S rfl);simp only at hx;rw [hf]at hx;exact ho x hx
theorem qyk {g:Gh}{Ss:List Nat}(hs:qfl Ss g){s:Option Nat}(hsS: ∀S,s=some S->S∈Ss)(sN:Option Nat)(body:List LitD): ∀i t y,t∈(qcn g s sN body).pos i->y∈t->y.size<=1073741824:=by
 intro i t y ht hy;unfold qcn qcu at ht;simp only at ht;exact q36 (q03 hs hsS _ (qci.1 ht).1) hy
end Go.Proofs
