/- Parts of the proof. -/
import Derived.Test.YtnponcjnahicnaaGreatProg
import Derived.Test.YtnponcjnahicnaaGreatWkMToLkB
import Derived.Test.YtnponcjnahicnaaGreatJnDToJnE
import Derived.Test.YtnponcjnahicnaaGreatPnX
import Derived.Test.YtnponcjnahicnaaGreatHdToKp
import Derived.Test.YtnponcjnahicnaaGreatHoistToRowC
import Derived.Test.YtnponcjnahicnaaGreatStO
set_option linter.unusedSimpArgs false
set_option linter.unusedVariables false
open Go.Proofs.Tryz(prog)
open List(all_eq_false all_eq_true any_append any_cons any_eq_false any_nil append_nil eq_nil_iff_forall_not_mem flatMap_append getD_eq_getElem?_getD getElem?_eq_getElem getElem?_map getElem_range length_append length_eq_zero_iff length_map map_congr_left map_map mem_append mem_cons_of_mem mem_cons_self mem_iff_getElem? mem_of_getElem? mem_range mem_singleton nodup_nil take_add_one take_length toList_toArray)
namespace Go.Proofs
open Go.RowKit Go.Ink Go.Flt R4 P16
attribute [local go_sem] Oper.semAt_some
theorem q60 {r:RuleD}{sizes:List qai}{first:Int}(hu:qbu sizes=true)(hs:qd6 r=true)(hf:qaz r first=false)(j:Nat)(hj:j<=r.body.length): ∀s,s∈(qbs r sizes first j).steps->0<=s.lit:=by
 induction j with
 |zero=>intro s h;simp [qbs] at h
 |succ j ih=>
  obtain⟨k,hk1,-⟩:=qik (sizes:=sizes) hs hf (show j<r.body.length by omega) (qns hu hs hf j (by omega)) (fun h=>by subst h;rfl);have e:qbs r sizes first (j+1)=qh1 r sizes (k:Int) (qbs r sizes first j):=by
   show qh1 r sizes (qgy r sizes first j (qbs r sizes first j)) (qbs r sizes first j)=_;rw [hk1]
  rw [e];intro s h;rcases mem_append.1 h with h |h
  ·exact ih (by omega) s h
  ·rw [mem_singleton]at h;subst h;unfold qbe;split
   ·exact Int.natCast_nonneg k
   ·exact Int.natCast_nonneg k
def qdh (body:List LitD)(ks:List LookD):Nat->List qai
 |0=> []
 |i+1=>qdh body ks i++if (body.getD i default).kind=1 then [⟨(body.getD i default).atom.pred,((ks.getD i ⟨none,⟨#[]⟩,0,0⟩).upto:Int),[]⟩] else []
def qdk (body:List LitD)(ks:List LookD):List qai:=qdh body ks body.length
def qtu (s:qai):List Value:= [.string s.pred,.int .i64 s.rows,.slice none 0 0]
theorem qn3 (body:List LitD)(ks:List LookD)(i:Nat):(qdh body ks i).length<=i:=by
 induction i with
 |zero=>exact Nat.le_refl _
 |succ i ih=>
  unfold qdh;rw [length_append];split
  ·simp;exact ih
  ·simp;omega
theorem qtv (body:List LitD)(ks:List LookD)(i:Nat): ∀s,s∈qdh body ks i->s.dist= []:=by
 induction i with
 |zero=>intro s h;cases h
 |succ i ih=>
  intro s h;unfold qdh at h;rcases mem_append.1 h with h |h
  ·exact ih s h
  ·split at h
   ·rw [mem_singleton]at h;subst h;rfl
   ·cases h
theorem qx3 {w:World}{base:Nat}{e:TypeId}{v:Value}{n:Nat}{ss:List qai}(h:w.ownsRow base e 3 v n (ss.flatMap qtu))(hb:ss.length<=1073741824)(hd: ∀s,s∈ss->s.dist= []):SizesIn w.heap.size w v ss:=
 qdx h ss (by have:=h.1;rw [qa0 _ 3 (fun _=>rfl)] at this;omega) hb (q45 w.heap.size) fun b k d hdk hc=>by
  refine⟨.slice none 0 0,fun j u hu=>?_,?_⟩
  ·have hj:j<3:=(List.getElem?_eq_some_iff.1 hu).1;rw [hc j hj,qbc _ 3 (fun _=>rfl) _ k j d hdk hj];exact hu
  ·rw [hd d (mem_of_getElem? hdk)];exact⟨none,0,rfl,by simp,by simp [maxLen],fun k x hx=>by simp at hx⟩
theorem q5o:qce prog 202 204 3 48:=qcx (z:=.agg #[.string ⟨#[]⟩,.int .i64 0,.slice none 0 0]) (by kernel_rfl) (by kernel_rfl) rfl (by decide) (by decide)
theorem JoinAt.rule {U:Nat->Prop}{n:Nat}{w:World}{J:Nat}{r:RuleD}{vars:List ByteArray}{pos:List Int}{vha vb vv va vt vh:Value}(h:JoinAt U n w J r vars pos vha vb vv va vt vh):RuleIn n w vha vb r:=
 ⟨h.head.mono fun _ _ _ _ hx=>hx.2,h.body.mono fun b o L _ hx=>by
  obtain⟨-,sa,h1,h2⟩:=hx;exact⟨sa,h1,h2.mono fun _ _ _ _ hy=>hy.2⟩⟩
def qon (ss:List qdd):List Value:=ss.map fun s=>.int .i64 s.lit
set_option maxRecDepth 100000 in
set_option maxHeartbeats 4000000 in
theorem q0i {U:Nat->Prop}{n:Nat}{w:World}{J:Nat}{r:RuleD}{vars:List ByteArray}{pos:List Int}{vha vb vv va vt vh:Value}(hj:JoinAt U n w J r vars pos vha vb vv va vt vh)(hn:n<=w.heap.size){Lk:Nat}{ks:List LookD}
  (hLk:w.heap[Lk]?=some (.cells (ks.flatMap LookD.cells).toArray 161 (0,0))) (hkl:ks.length=r.body.length) (first:Int) (hask:qd3 r (qdk r.body ks) (qaz r first)=0):
  Calls prog 85 #[qj J,.slice (some ⟨Lk,0,none⟩) r.body.length r.body.length,.int .i64 first] w fun e w'=> ∃vo,e=.returned vo/\w'.ownsRow w.heap.size 3 1 vo (qgq r (qdk r.body ks) first).length ((qgq r (qdk r.body ks) first).map fun i:Nat=>.int .i64 (i:Int))/\Keep (fun b=>b<w.heap.size) w w':=by
 have hp:qax r=true/\qbu (qdk r.body ks)=true/\qaz r first=false/\qd6 r=true:=by
  unfold qd3 at hask;cases h1:qax r<;>cases h2:qbu (qdk r.body ks)<;>cases h3:qd6 r<;>cases h4:qaz r first<;>rw [h1,h2,h3,h4] at hask<;>first |exact⟨rfl,rfl,rfl,rfl⟩ |(exfalso;revert hask;decide)
 obtain⟨hF,hu,hf,hs⟩:=hp;have hok:=qns hu hs hf r.body.length (Nat.le_refl _);have hlit:=q60 hu hs hf r.body.length (Nat.le_refl _);have hmkD:qi7 r (qdk r.body ks) first=(⟨r,(qbs r (qdk r.body ks) first r.body.length).steps⟩,0):=by unfold qi7;rw [hask,if_neg (by simp)]
 have hsl:=hok.stp;obtain⟨steps,hst⟩:=ex ((qbs r (qdk r.body ks) first r.body.length).steps);rw [hst]at hmkD hsl hlit;have hol:(qgq r (qdk r.body ks) first).length=steps.length:=by unfold qgq;rw [hst,length_map]
 have hom:((qgq r (qdk r.body ks) first).map fun i:Nat=>Value.int .i64 (i:Int))=qon steps:=by
  unfold qgq qon;rw [hst,map_map];refine map_congr_left fun s hs=>?_;have:=hlit s hs;simp only [Function.comp];rw [Int.toNat_of_nonneg this]
 rw [hol,hom];have hrule:=hj.rule;obtain⟨ab,cb,hvb,hbl,hbc,hbe⟩:=id hj.body;obtain⟨ah,ch,hvha,hhl,hhc,-⟩:=id hj.head;obtain⟨N,hN⟩:=ex (w.heap.size);have hjb:=hj.box;rw [hvb,hvha]at hjb;rw [hvb,hvha]at hrule;have c0:=qb hjb 0 _ rfl;have c1:=qb hjb 1 _ rfl;have c2:=qb hjb 2 _ rfl;have lJ:=qe hjb;have lL:=qe hLk;simp only [Nat.zero_add]at c0 c1 c2;have hJc: ∀X,Keep (fun b=>b<N) w X->X.cell? ⟨J,0,none⟩=some (.string r.head.pred)/\X.cell? ⟨J,1,none⟩=some (.slice ah r.head.args.length ch)/\X.cell? ⟨J,2,none⟩=some (.slice ab r.body.length cb)/\J<X.heap.size:=fun X hX=>⟨hX.cell c0 (show J<N by omega),hX.cell c1 (show J<N by omega),hX.cell c2 (show J<N by omega),by have:=hX.size;omega⟩;clear c0 c1 hjb;refine qc5 ?_ hj hLk hkl hask hF hu hf hs hok hlit hmkD hsl hst hol hom hrule;clear hj hLk hkl hask hF hu hf hs hok hlit hmkD hsl hst hol hom hrule;intro Xhj XhLk Xhkl Xhask XhF Xhu Xhf Xhs Xhok Xhlit XhmkD Xhsl Xhst Xhol Xhom Xhrule;refine hd5 ?_ hbe hvb hvha hN hJc;clear hbe hvb hvha hN hJc;intro Xhbe Xhvb Xhvha XhN XhJc;refine qbp Tryz.func85 rfl ?_;simp only [Tryz.ntmps85,qdz,Nat.reduceAdd,Nat.reduceSub];gi_wp2;gi_loopw [7,21] (fun x7 i' X=> ∃i:Nat,i<=r.body.length/\i'=.int .i64 (i:Int)/\Keep (fun b=>b<N) w X/\X.ownsRow N 204 3 x7 (qdh r.body ks i).length ((qdh r.body ks i).flatMap qtu)) (fun _ i _=>r.body.length-(intOf i).toNat)
 case atStart=>exact⟨0,by omega,rfl,Keep.refl _ _,World.ownsRow_nil _ _ _ _⟩
 case round=>
  obtain⟨i,hi,rfl,hK,ho⟩:=hrel;have hzr:=hK.size;by_cases hlt:i<r.body.length
  ·have hlt1:(i:Int)<r.body.length:=by omega
   have hi0:(0:Int)<=i:=by omega
   obtain⟨L,hL⟩: ∃L,r.body[i]?=some L:=⟨_,getElem?_eq_getElem hlt⟩;have hLd:r.body.getD i default=L:=by rw [getD_eq_getElem?_getD,hL];rfl
   obtain⟨k,hk⟩: ∃k,ks[i]?=some k:=⟨_,getElem?_eq_getElem (by rw [Xhkl.o];exact hlt)⟩;have hkd:ks.getD i ⟨none,⟨#[]⟩,0,0⟩=k:=by rw [getD_eq_getElem?_getD,hk];rfl
   have hsn:qdh r.body ks (i+1)=qdh r.body ks i++if L.kind=1 then [⟨L.atom.pred,(k.upto:Int),[]⟩] else []:=by
    show qdh r.body ks i++_=_;rw [hLd,hkd]
   have hsz:=qn3 r.body ks i;obtain⟨b4,o4,rfl,hb4,hU4,sa,hcl,hta⟩:=Xhbe.o i L hL;have hb4N:b4<N:=by have:=XhN.o;omega
   have d0:=hK.cell (hcl 0 _ rfl) hb4N;have d1:=hK.cell (hcl 1 _ rfl) hb4N;have d2:=hK.cell (hcl 2 _ rfl) hb4N;have d3:=hK.cell (hcl 3 _ rfl) hb4N;have d4:=hK.cell (hcl 4 _ rfl) hb4N;have d5:=hK.cell (hcl 5 _ rfl) hb4N;have d6:=hK.cell (hcl 6 _ rfl) hb4N;have hb4w:b4<wr.heap.size:=by have:=XhN.o;omega
   obtain⟨aa,ca,rfl,hal,hac,-⟩:=id hta;have hu3:wr.cell? ⟨Lk,i*4+3,none⟩=some (.int .i64 (k.upto:Int)):=by
    have hlk:=hK.heap XhLk.o (by have:=XhN.o;omega);have:=qb hlk (i*4+3) (.int .i64 (k.upto:Int)) (by rw [toList_toArray,qvf (f:=LookD.cells) (n:=4) (fun _=>rfl) _ _ _ hk 3 (by omega)];rfl)
    simpa using this
   have lLw:Lk<wr.heap.size:=by have:=XhN.o;omega
   obtain⟨kd,⟨pr,args⟩,⟨lv,lt⟩,⟨rv,rt⟩⟩:=L;simp only at d0 d1 d2 d3 d4 d5 d6 hal hac hsn;simp only [Nat.add_zero]at d0;obtain⟨a7,c7,rfl⟩:=qi ho;have ho1:=qg ho (Keep.alloc (fun _=>True) wr (.cells #[.int .i64 kd,.string pr,.slice aa args.length ca,.bool lv,.string lt,.bool rv,.string rt] 64)) (fun _ _=>trivial);have hK1:Keep (fun b=>b<N) w (wr.alloc (.cells #[.int .i64 kd,.string pr,.slice aa args.length ca,.bool lv,.string lt,.bool rv,.string rt] 64)):=hK.trans kAl;clear hcl hL hLd hk hkd;by_cases hk1:kd=1
   ·subst hk1;rw [if_pos rfl]at hsn;obtain⟨B,hB⟩:=ex (wr.heap.size);obtain⟨W1,hW1⟩:=ex (wr.alloc (.cells #[.int .i64 1,.string pr,.slice aa args.length ca,.bool lv,.string lt,.bool rv,.string rt] 64));rw [hW1]at ho1 hK1;have nb:W1.heap[B]?=some (.cells #[.int .i64 1,.string pr,.slice aa args.length ca,.bool lv,.string lt,.bool rv,.string rt] 64 (0,0)):=by rw [←hW1,←hB];exact qh _ _
    have kW:Keep (fun _=>True) wr W1:=by rw [←hW1];exact kAl
    have hS: ∀X,Keep (fun _=>True) W1 X->X.cell? ⟨B,1,none⟩=some (.string pr)/\X.cell? ⟨Lk,i*4+3,none⟩=some (.int .i64 (k.upto:Int)):=fun X hX=>by
     have q:=qb (hX.heap nb trivial) 1 _ rfl;simp only [Nat.zero_add]at q;exact⟨q,(kW.trans hX).cell hu3 trivial⟩
    have hT0:=hS _ kDr;obtain⟨W2,hW2⟩:=ex (W1.drew);have k12:Keep (fun _=>True) W1 W2:=by rw [←hW2];exact kDr
    have ho2:=qg ho1 k12 (fun _ _=>trivial);rw [hW2]at hT0;have zN:N<=W2.heap.size:=by have:=hK1.size;have:=k12.size;have:=XhN.o;omega
    obtain⟨v',W3,hr3,ho3,k3,g3,cap3,hv3,hgo3,hg3⟩:=qc4 (P:=prog) q5o 202 ho2 [.string pr,.int .i64 (k.upto:Int),.slice none 0 0] rfl (by simp [Value.oneCell']) (by omega) zN;subst hv3;have hT1:=hS (W2.alloc (.cells #[.string pr,.int .i64 (k.upto:Int),.slice none 0 0] 204)) (k12.trans kAl);have hT2:W3.cell? ⟨B,1,none⟩=some (.string pr)/\W3.cell? ⟨Lk,i*4+3,none⟩=some (.int .i64 (k.upto:Int)):=by
     obtain⟨q1,q2⟩:=hT0;refine⟨k3.cell q1 (fun e=>?_),k3.cell q2 (fun e=>?_)⟩
     ·obtain⟨cs,hcs⟩:=qav ho2 e.symm;rw [k12.heap nb trivial]at hcs;injection hcs with hcs
      injection hcs with _ h2 _
      revert h2
      decide
     ·have h:=(World.ownsRow.lt ho2 _ e.symm).1;exact absurd (show N<=Lk from h) (by have:=XhN.o;omega)
    have hK3:Keep (fun b=>b<N) w W3:=(hK1.trans (k12.mono fun _ _ _=>trivial)).trans (k3.mono fun b _ (hb:b<N) e=>by have:=(World.ownsRow.lt ho2 b e.symm).1;omega);have hend:W3.ownsRow N 204 3 (.slice (some ⟨g3,0,none⟩) ((qdh r.body ks i).length+1) cap3) (qdh r.body ks (i+1)).length ((qdh r.body ks (i+1)).flatMap qtu):=by
     rw [hsn,length_append,flatMap_append];exact ho3
    have lB:=qe nb;clear hta hU4 ho1 ho2 ho3 k3 hgo3 ho hu3 hK1;refine qc5 ?_ hK hsn hW1 hB hW2 nb kW hS hT0 hT1 hT2 hK3 hend hr3 k12 hg3;clear hK hsn hW1 hB hW2 nb kW hS hT0 hT1 hT2 hK3 hend hr3 k12 hg3;intro XhK Xhsn XhW1 XhB XhW2 Xnb XkW XhS XhT0 XhT1 XhT2 XhK3 Xhend Xhr3 Xk12 Xhg3;gi_wp2;rw [XhW1.o,XhB.o];refine qab ?_;refine qx rfl (fun X=>X.cell? ⟨B,1,none⟩=some (.string pr)/\X.cell? ⟨Lk,i*4+3,none⟩=some (.int .i64 (k.upto:Int))) [] ?_;rw [XhW2.o];refine qam [0,1,2,3,4,5,6,7,8,9] ?_
    iterate 10
     refine tkR (v:=?_) rfl XhT0.o ?_ ?_;rotate_left
     ·rintro Wq ⟨x1,x2⟩;go_simp
      try with_reducible rfl
     try simp only [qan]
    refine qu ?_;refine hoR 10 rfl fun K XhK0=>?_;gi_wp2;refine XhK0.o _ _ (fun _=>XhT1.o) ?_;refine hoR 11 rfl fun K XhK1=>?_;refine qch rfl (.tmp 29) (.tmp 39) 202 rfl rfl rfl Xhr3.o ?_;gi_wp2;refine XhK1.o _ _ (fun _=>XhT2.o) ?_;refine qam [12] ?_
    iterate 1
     refine tkR (v:=?_) rfl XhT2.o ?_ ?_;rotate_left
     ·rintro Wq ⟨x1,x2⟩;go_simp
      try with_reducible rfl
     try simp only [qan]
    refine qu ?_;refine qk (by kernel_rfl) (qm ?_);clear XhK0 XhK1;gi_wp2;go_roundw
    case rel=>exact⟨i+1,by omega,by go_num,XhK3.o,Xhend.o⟩
    case measure=>simp [intOf];omega
   ·rw [if_neg hk1,append_nil]at hsn;have hk2: ¬kd=1:=hk1;clear hta hU4 ho hu3;refine hd4 ?_ hK hsn ho1 hK1;clear hK hsn ho1 hK1;intro XhK Xhsn Xho1 XhK1;gi_wp2;go_roundw
    case rel=>exact⟨i+1,by omega,by go_num,XhK1.o,by rw [Xhsn.o];exact Xho1.o⟩
    case measure=>simp [intOf];omega
  ·obtain rfl:i=r.body.length:=by omega
   have hS2:=qx3 ho (by have:=qn3 r.body ks r.body.length;omega) (qtv _ _ _);have hmk:=q34 wr.heap.size r _ _ (qdk r.body ks) u7 first wr ((Xhrule.o.keep (hK.mono fun b _ h=>by have:=XhN.o;omega)).wider (by omega)) hS2 (Nat.le_refl _)
   rw [XhmkD.o]at hmk;obtain⟨a7,c7,rfl⟩:=qi ho;obtain⟨q0,q1,q2,q3⟩:=XhJc.o wr hK;unfold qbf q48 at hmk;clear hS2 ho hlt;simp only at hmk;refine hd2 ?_ hmk hK;clear hmk hK;intro Xhmk XhK;gi_wp2;refine⟨trivial,rfl,(callsIn_wide.2 Xhmk.o).mono ?_⟩;rintro e Wp ⟨vh',vb',vs',rfl,hown,kp⟩;obtain⟨qs,hqs,hqo,hqf⟩:=hown.2;have hzp:=kp.size;simp only at hqs hqo;obtain⟨as1,cs1,rfl⟩:=qi hqo;have hql:qs.length=steps.length:=by rw [←hqs,length_map]
   have hsl2:=Xhsl.o;have hsl3:steps.length<=1073741824:=by omega
   obtain⟨ar,cr,rfl⟩: ∃a c,vh'=.slice a r.head.args.length c:=qi hown.1.1;have hvb': ∃a c,vb'=.slice a r.body.length c:=by
    obtain⟨ps,h1,h2,-⟩:=hown.1.2;exact qi h2
   obtain⟨abb,cbb,rfl⟩:=hvb';clear hown;have kwp:Keep (fun b=>b<N) w Wp:=XhK.o.trans (kp.mono fun b _ (h:b<N)=>by have:=XhN.o;have:=XhK.o.size;omega);clear q0 q1 q2 q3;clear hsl2;obtain⟨W5,hW5⟩:=ex (Wp.alloc (.cells #[.string r.head.pred,.slice ar r.head.args.length cr,.slice abb r.body.length cbb,.slice as1 steps.length cs1] 207));have k5:Keep (fun _=>True) Wp W5:=by rw [←hW5];exact kAl
   have kw5:Keep (fun b=>b<N) w W5:=kwp.trans (k5.mono fun _ _ _=>trivial);have hqo5:=qg hqo k5 (fun _ _=>trivial);refine qd9 ?_ hqs hqo hql kp kwp hW5 k5 kw5 hqo5 hqf;clear hqs hqo hql kp kwp hW5 k5 kw5 hqo5 hqf;intro Xhqs Xhqo Xhql Xkp Xkwp XhW5 Xk5 Xkw5 Xhqo5 Xhqf;gi_wp2;rw [XhW5.o];gi_loopw [12,55] (fun x12 i' X=> ∃i:Nat,i<=steps.length/\i'=.int .i64 (i:Int)/\Keep (fun b=>b<W5.heap.size) W5 X/\X.ownsRow W5.heap.size 3 1 x12 i (qon (steps.take i))) (fun _ i _=>steps.length-(intOf i).toNat)
   case atStart=>exact⟨0,by omega,rfl,Keep.refl _ _,World.ownsRow_nil _ _ _ _⟩
   case round=>
    obtain⟨i,hi,rfl,hK,ho⟩:=hrel;have hzr2:=hK.size;by_cases hlt:i<steps.length
    ·have hlt1:(i:Int)<steps.length:=by omega
     have hi0:(0:Int)<=i:=by omega
     obtain⟨q,hq⟩: ∃q,qs[i]?=some q:=⟨_,getElem?_eq_getElem (by rw [Xhql.o];exact hlt)⟩;have hstp:steps[i]?=some q.1:=by rw [←Xhqs.o,getElem?_map,hq];rfl
     obtain⟨gs,hgs⟩: ∃gs,as1=some ⟨gs,0,none⟩:=by
      rcases Xhqo5.o.2 with e |⟨gb',cap,cur,e1',_⟩
      ·have:=e.2;omega
      ·injection e1' with e1' _ _;exact⟨_,e1'⟩
     subst hgs;have hq5:=qg Xhqo5.o hK (fun b hb=>(World.ownsRow.lt Xhqo5.o b hb).2);have m0:=qb7 hq5 (i*3) _ ((qbc qlw 3 (fun _=>rfl) qs i 0 q hq (by decide)).trans rfl);have m1:=qb7 hq5 (i*3+1) _ ((qbc qlw 3 (fun _=>rfl) qs i 1 q hq (by decide)).trans rfl);have m2:=qb7 hq5 (i*3+2) _ ((qbc qlw 3 (fun _=>rfl) qs i 2 q hq (by decide)).trans rfl);have lgs:=World.block_lt_of_cell? _ _ m0;simp only at lgs;have hsn:qon (steps.take (i+1))=qon (steps.take i)++ [.int .i64 q.1.lit]:=by unfold qon;rw [take_add_one,hstp];simp
     have hqff:=Xhqf.o q (mem_of_getElem? hq);obtain⟨⟨lit,bd,nw⟩,bv,nv⟩:=q;obtain⟨ab1,cb1,rfl⟩: ∃a c,bv=.slice a bd.length c:=qi hqff.1;obtain⟨ab2,cb2,rfl⟩: ∃a c,nv=.slice a nw.length c:=qi hqff.2;clear hqff;simp only [qlw]at m0 m1 m2 hsn;obtain⟨a12,c12,rfl⟩:=qi ho;obtain⟨W6,hW6⟩:=ex (wr.alloc (.cells #[.int .i64 lit,.slice ab1 bd.length cb1,.slice ab2 nw.length cb2] 211));have k6:Keep (fun _=>True) wr W6:=by rw [←hW6];exact kAl
     have z6:W6.heap.size=wr.heap.size+1:=by rw [←hW6];simp
     have ho6:=qg ho k6 (fun _ _=>trivial);obtain⟨v',W7,hr7,ho7,k7,g7,cap7,hv7,hgo7,hg7⟩:=qc4 (P:=prog) qk9 86 ho6 [.int .i64 lit] rfl (by simp [Value.oneCell']) (by omega) (by omega);subst hv7;rw [z6,←hW6]at hr7;have hK7:Keep (fun b=>b<W5.heap.size) W5 W7:=(hK.trans (k6.mono fun _ _ _=>trivial)).trans (k7.mono fun b _ (hb:b<W5.heap.size) e=>by have:=(World.ownsRow.lt ho6 b e.symm).1;omega);have hend:W7.ownsRow W5.heap.size 3 1 (.slice (some ⟨g7,0,none⟩) (i+1) cap7) (i+1) (qon (steps.take (i+1))):=by rw [hsn];exact ho7
     clear hq5 hq hstp ho6 ho7 k7 hgo7 ho;refine hd9 ?_ hK hsn hW6 k6 z6 hr7 hK7 hend hg7;clear hK hsn hW6 k6 z6 hr7 hK7 hend hg7;intro XhK Xhsn XhW6 Xk6 Xz6 Xhr7 XhK7 Xhend Xhg7
     gi_wp2_with (gi_at_builtin;refine qch (v:=.slice a12 i c12) (u:=.slice (some ⟨wr.heap.size+1,0,none⟩) 1 1) (v':=.slice (some ⟨g7,0,none⟩) (i+1) cap7) (w':=W7) rfl (.tmp 59) (.tmp 62) 86 rfl rfl rfl Xhr7.o ?_)
     go_roundw
     case rel=>exact⟨i+1,by omega,by go_num,XhK7.o,Xhend.o⟩
     case measure=>simp [intOf];omega
    ·obtain rfl:i=steps.length:=by omega
     rw [take_length]at ho;obtain⟨a12,c12,rfl⟩:=qi ho;have kwr:Keep (fun b=>b<N) w wr:=Xkw5.o.trans (hK.mono fun b _ (h:b<N)=>by have:=XhN.o;have:=Xkw5.o.size;omega);obtain⟨q0,q1,q2,q3⟩:=XhJc.o wr kwr;have hbN:N<=W5.heap.size:=by have:=XhN.o;have:=Xkw5.o.size;omega
     have hfin:=ho.mono hbN;have hsl2:(steps.length:Int)=r.body.length:=by rw [Xhsl.o]
     clear ho hlt hi;refine hd3 ?_ hK kwr hfin;clear hK kwr hfin;intro XhK Xkwr Xhfin;gi_wp2;go_ret;exact⟨_,rfl,by rw [XhN.o];exact Xhfin.o,Xkwr.o.mono fun b _ (h:b<w.heap.size)=>by have:=XhN.o;omega⟩
end Go.Proofs
namespace Go.Proofs
open Go.RowKit Go.Ink Go.Flt R4 P16
def qeq (Ss:List Nat)(g:Gh):Prop:= ∀S,S∈Ss-> ∃f,g.st S=some f/\ ∀x,x∈f->okF x=true
def qbt (n0:Nat)(Ss:List Nat):qf8 Gh where
 inv g X:=GInv g X/\qeq Ss g
 free:=Gh.free
 istep g X g' Y:=GStep n0 g X g' Y/\g'.st=g.st
 bstep:=GBd
 ifree h:=h.1.keep
 inew h:=h.1.new
 bnew h:=h.new
 bmono hn h:=h.mono hn
 invk h hK:=⟨h.1.keep hK,h.2⟩
def qcg (g:Gh)(s:Option Nat):List ql:=match s with
 |none=> []
 |some S=>(g.st S).getD []
def qda (g:Gh)(sF:Nat->Option Nat)(sN:Option Nat)(body:List LitD):qa7:=qcc body (fun i=>qcg g (sF (qby body i))) (qcg g sN)
def qdi (g:Gh)(sF:Nat->Option Nat)(sN:Option Nat)(body:List LitD):List LookD:=qfl g sF sN body
def qf6 (g:Gh)(sF:Nat->Option Nat)(sN:Option Nat)(r:RuleD)(first:Int):List Nat:=qgq r (qdk r.body (qdi g sF sN r.body)) first
def qef (g:Gh)(sF:Nat->Option Nat)(sN:Option Nat)(r:RuleD)(first:Int):List Asg:=qbh (qda g sF sN r.body) r.body (qf6 g sF sN r first) qb3
def qij (g:Gh)(s sN:Option Nat)(body:List LitD):qa7:=qcc body (fun _=>qcg g s) (qcg g sN)
def qju (g:Gh)(s sN:Option Nat)(r:RuleD)(first:Int):List Asg:=qef g (fun _=>s) sN r first
structure qcr (r:RuleD):Prop where
 formed:qax r=true
 safe:qd6 r=true
 bound:q6y r
 small: ∀L t,L∈r.body->t∈qv L->t.text.size<=1073741824
 preds: ∀L,L∈r.body->L.atom.pred.size<=1073741824
 head:r.head.pred≠⟨#[]⟩
theorem qkg (g:Gh)(s:Option Nat)(p:ByteArray)(n:Nat):qfh g s p n=(qo (qcg g s) p n).length:=by
 unfold qfh qcg;cases s with
 |none=>rfl
 |some S=>
  simp only;cases g.st S with
  |none=>rfl
  |some f=>rfl
theorem qrn {g:Gh}{sF:Nat->Option Nat}{sN:Option Nat}{body:List LitD}{i:Nat}{k:LookD}(h:(qdi g sF sN body)[i]?=some k):k=qe7 g sF sN body i/\i<body.length:=by
 unfold qdi qfl at h;rw [getElem?_map]at h;obtain⟨j,hj,rfl⟩:=Option.map_eq_some_iff.1 h;obtain⟨hl,he⟩:=List.getElem?_eq_some_iff.1 hj;rw [getElem_range]at he;subst he;exact⟨rfl,by simpa using hl⟩
theorem qvs (body:List LitD)(ks:List LookD)(hk: ∀k,k∈ks->k.upto<=67108864)(i:Nat):(qdh body ks i).any qhz=false:=by
 induction i with
 |zero=>rfl
 |succ i ih=>
  unfold qdh;rw [any_append,ih,Bool.false_or];split
  ·have hu:(ks.getD i ⟨none,⟨#[]⟩,0,0⟩).upto<=67108864:=by
    rw [getD_eq_getElem?_getD];cases h:ks[i]? with
    |none=>simp
    |some k=>exact hk k (mem_of_getElem? h)
   simp only [any_cons,any_nil,Bool.or_false];unfold qhz qhi;simp only [any_nil,Bool.or_false];rw [decide_eq_false (by omega),decide_eq_false (by omega)]
   rfl
  ·rfl
theorem q5p {g:Gh}{W:World}(hg:GInv g W)(s:Option Nat):(qcg g s).length<=67108864:=by
 unfold qcg;cases s with
 |none=>simp
 |some S=>
  simp only;cases h:g.st S with
  |none=>simp
  |some f=>
   obtain⟨T,M,MX,vx,xs,rl,hP⟩:=hg.store S f h;exact hP.few
theorem qip {g:Gh}{W:World}(hg:GInv g W)(s:Option Nat):(qcg g s).Nodup:=by
 unfold qcg;cases s with
 |none=>exact nodup_nil
 |some S=>
  simp only;cases h:g.st S with
  |none=>exact nodup_nil
  |some f=>
   obtain⟨T,M,MX,vx,xs,rl,hP⟩:=hg.store S f h;exact hP.nodup
theorem q3k {g:Gh}{W:World}(hg:GInv g W)(s:Option Nat)(p:ByteArray)(n:Nat):qfh g s p n<=67108864:=by
 rw [qkg];exact Nat.le_trans (qjo _ _ _) (q5p hg s)
theorem qhg {g:Gh}{W:World}(hg:GInv g W)(sF:Nat->Option Nat)(sN:Option Nat){r:RuleD}(hr:qcr r)(first:Int)(hf:qaz r first=false):qd3 r (qdk r.body (qdi g sF sN r.body)) (qaz r first)=0:=by
 have hu:qbu (qdk r.body (qdi g sF sN r.body))=true:=by
  unfold qbu qdk;rw [qvs]
  ·rfl
  ·intro k hk;obtain⟨i,hi⟩:=mem_iff_getElem?.1 hk;obtain⟨rfl,-⟩:=qrn hi;exact q3k hg _ _ _
 unfold qd3;rw [hr.formed,hu,hf,hr.safe]
 rfl
theorem qpl {r:RuleD}:qaz r (-1)=false:=by
 unfold qaz;rw [decide_eq_false (by omega),decide_eq_false (by omega),decide_eq_false (by omega)]
 rfl
theorem q3l {g:Gh}{W:World}(hg:GInv g W){sF:Nat->Option Nat}{sN:Option Nat}{r:RuleD}(hr:qcr r){first:Int}(hf:qaz r first=false)(h:okJ g sF sN r.body r.body.length=false):qef g sF sN r first= []:=by
 obtain⟨ha,hk,hw⟩:=qhv (qhg hg sF sN hr first hf);unfold okJ at h;rw [all_eq_false]at h;obtain⟨j,hj,hb⟩:=h;rw [mem_range]at hj;refine eq_nil_iff_forall_not_mem.2 fun b hbm=>?_;have hm:=(qk0 (qf6 g sF sN r first) qb3 b (by rw [qfx];exact hw)).1 hbm;have hh:=hm.2.2 j ((ha j).2 hj);simp only [Bool.or_eq_true,Bool.not_eq_true',decide_eq_false_iff_not,decide_eq_true_eq,not_or,Classical.not_not]at hb;obtain⟨h1,h2⟩:=hb;unfold qek at hh;rw [if_neg (by rw [h1];decide),if_neg (by rw [h1];decide)]at hh;have h3:qe7 g sF sN r.body j=⟨sF (qby r.body j),(r.body.getD j default).atom.pred,(r.body.getD j default).atom.args.length,qfh g (sF (qby r.body j)) (r.body.getD j default).atom.pred (r.body.getD j default).atom.args.length⟩:=by unfold qe7 qle;rw [if_pos h1]
 rw [h3]at h2;simp only [qkg]at h2;have h4:(qda g sF sN r.body).pos j= []:=by
  unfold qda qcc;simp only;exact length_eq_zero_iff.1 (by omega)
 rw [h4]at hh;obtain⟨t,ht,-⟩:=hh;cases ht
theorem q5q {r:RuleD}{L:LitD}{t:TermD}(hr:qcr r)(hL:L∈r.body)(ht:t∈qv L):qe6 (qak r) t:=fun hv=>by
 unfold qak;rw [qfy];refine qlj (L:=L) (mem_cons_of_mem _ hL) ?_ hv;have hk:=qjr hr.formed;obtain⟨i,hi⟩:=mem_iff_getElem?.1 hL;have hkk:=hk i (List.getElem?_eq_some_iff.1 hi).1;unfold qbm at hkk;rw [getD_eq_getElem?_getD,hi]at hkk;simp only [Option.getD_some]at hkk;unfold qv at ht;unfold LitD.terms;rcases hkk with h |h |h
 ·rw [if_neg (by omega)]at ht;rw [if_pos (.inl h)];exact ht
 ·rw [if_neg (by omega)]at ht;rw [if_pos (.inr h)];exact ht
 ·rw [if_pos h]at ht;rw [if_neg (by omega),if_pos h];exact ht
theorem q5r {r:RuleD}{t:TermD}(ht:t∈r.head.args):qe6 (qak r) t:=fun hv=>by
 unfold qak;rw [qfy];refine qlj (L:=r.headLit) (mem_cons_self ..) ?_ hv;unfold LitD.terms RuleD.headLit;rw [if_pos (.inl rfl)];exact ht
theorem q3m {g:Gh}{W:World}(hg:GInv g W){sF:Nat->Option Nat}{sN:Option Nat}{r:RuleD}(hr:qcr r){first:Int}(hf:qaz r first=false){x:ByteArray}(hx:x∈qak r):x∈qw r.body (qf6 g sF sN r first):=by
 obtain⟨ha,hk,hw⟩:=qhv (qhg hg sF sN hr first hf);unfold qak at hx;rw [qfy]at hx;exact(qkr ha hk x).2 (hr.bound x hx)
theorem q5s {g:Gh}{Ss:List Nat}(hs:qeq Ss g){c:WkC}{sF:Nat->Option Nat}{sN:Option Nat}(hsS: ∀m S,sF m=some S->S∈Ss)(hsN: ∀S,sN=some S->S∈Ss)(hc:c.looks=qdi g sF sN c.r.body)(hok:okJ g sF sN c.r.body c.r.body.length=true):LookOk c (qda g sF sN c.r.body) g:=by
 intro i L k hL hk;rw [hc]at hk;obtain⟨rfl,hi⟩:=qrn hk;have hLd:c.r.body.getD i default=L:=by rw [getD_eq_getElem?_getD,hL];rfl
 have hpred:(qe7 g sF sN c.r.body i).pred=L.atom.pred:=by unfold qe7;rw [hLd]
 have har:(qe7 g sF sN c.r.body i).arity=L.atom.args.length:=by unfold qe7;rw [hLd]
 refine⟨hpred,har,fun h1=>?_,fun h2=>?_⟩
 ·unfold okJ at hok;rw [all_eq_true]at hok;have h3:=hok i (mem_range.2 hi);rw [hLd,decide_eq_true h1,Bool.not_true,Bool.false_or,decide_eq_true_eq]at h3;obtain⟨s,hsF⟩:=ex (sF (qby c.r.body i));have e:qe7 g sF sN c.r.body i=⟨s,L.atom.pred,L.atom.args.length,qfh g s L.atom.pred L.atom.args.length⟩:=by unfold qe7 qle;rw [hLd,if_pos h1,hsF]
  rw [e]at h3⊢;simp only at h3⊢;cases s with
  |none=>cases h3
  |some S=>
   obtain⟨f,hf,-⟩:=hs S (hsS _ S hsF);have hcn:qcg g (some S)=f:=by unfold qcg;simp only;rw [hf];rfl
   rw [qkg,hcn]at h3⊢;refine⟨S,f,rfl,hf,h3,Nat.le_refl _,?_⟩;rw [take_length];unfold qda qcc;simp only;rw [hLd,hsF,hcn]
 ·have e:qe7 g sF sN c.r.body i=⟨sN,L.atom.pred,L.atom.args.length,qfh g sN L.atom.pred L.atom.args.length⟩:=by unfold qe7 qle;rw [hLd,if_neg (by omega),if_pos h2]
  rw [e];simp only;cases sN with
  |none=>
   left;refine⟨rfl,?_⟩
   unfold qda qcc qcg qo
   rfl
  |some S=>
   obtain⟨f,hf,-⟩:=hs S (hsN S rfl);have hcn:qcg g (some S)=f:=by unfold qcg;simp only;rw [hf];rfl
   rw [qkg,hcn];refine .inr ⟨S,f,rfl,hf,Nat.le_refl _,?_⟩;rw [take_length];unfold qda qcc;simp only;rw [hLd,hcn]
theorem q3n {x:ql}(h:okF x=true){s:ByteArray}(hs:s∈x.tuple):s.size<=1073741824:=by
 unfold okF at h;rw [Bool.and_eq_true,Bool.not_eq_true']at h;have:=any_eq_false.1 h.2 s hs;simp only [decide_eq_true_eq]at this;omega
theorem q0j {g:Gh}{Ss:List Nat}(hs:qeq Ss g){s:Option Nat}(hsS: ∀S,s=some S->S∈Ss): ∀x,x∈qcg g s->okF x=true:=by
 intro x hx;unfold qcg at hx;cases s with
 |none=>cases hx
 |some S=>
  obtain⟨f,hf,ho⟩:=hs S (hsS S rfl);simp only at hx;rw [hf]at hx;exact ho x hx
theorem qx4 {g:Gh}{Ss:List Nat}(hs:qeq Ss g){sF:Nat->Option Nat}(hsS: ∀m S,sF m=some S->S∈Ss)(sN:Option Nat)(body:List LitD): ∀i t y,t∈(qda g sF sN body).pos i->y∈t->y.size<=1073741824:=by
 intro i t y ht hy;unfold qda qcc at ht;simp only at ht;exact q3n (q0j hs (hsS _) _ (qay.1 ht).1) hy
end Go.Proofs
