/- Parts of the proof. -/
import Derived.Test.YtnponcjnahicnaaGreatProg
import Derived.Test.YtnponcjnahicnaaGreatEcB
import Derived.Test.YtnponcjnahicnaaGreatHdToKp
import Derived.BigQuiet
import Derived.WalkKit
import Derived.Test.YtnponcjnahicnaaGreatTbAToTbD
import Derived.Test.YtnponcjnahicnaaGreatHoistToRowC
set_option linter.unusedSimpArgs false
set_option linter.unusedVariables false
open Go.Proofs.Tryz(prog)
open List(flatMap_append foldl_append getElem?_eq_getElem idxOf_append length_append length_cons length_singleton length_take map_append map_congr_left mem_cons mem_of_getElem? mem_singleton nodup_append take_add_one take_length)
namespace Go.Proofs
open Go.RowKit Go.Ink Go.Flt R4 P16
attribute [local go_sem] Oper.semAt_some
set_option maxRecDepth 100000 in
theorem qzt {n0:Nat}{Ss:List Nat}{U:Nat->Prop}{nU:Nat}{W0:World}{J:Nat}{r:RuleD}{pos:List Int}{vha vb vv va vt vh:Value}(hr:qcr r)(hj:JoinAt U nU W0 J r (qak r) pos vha vb vv va vt vh)(hUn: ∀b,U b->b<nU)
  {s sN:Option Nat} (hsS: ∀S,s=some S->S∈Ss) (hsN: ∀S,sN=some S->S∈Ss) {Bj Bx Bn:Nat} (hBj:U Bj) (hBjv:W0.heap[Bj]?=some (.cells #[qj J] 31 (0,0))) (hBx:U Bx) (hBxv:W0.heap[Bx]?=some (.cells #[qz s] 37 (0,0))) (hBn:U Bn) (hBnv:W0.heap[Bn]?=some (.cells #[qz sN] 37 (0,0))):
  qpq prog 47 #[qj Bj,qj Bx,qj Bn] (qbt n0 Ss) (fun γ=>(qju γ s sN r (-1)).length) (fun γ0 k γ n X args=> ∃b,(qju γ0 s sN r (-1))[k]?=some b/\qkn r (qak r) b γ n X args) (EachV U nU n0 W0) U:=by
 intro l Jp Jx W g0 hl hinv hV hU hJ hJx hround h0;show Calls prog 47 #[.func (.yield l) #[] #[],qj Bj,qj Bx,qj Bn] W _;have a1:=qb ((hV.1 Bj hBj).trans hBjv) 0 _ rfl;have a2:=qb ((hV.1 Bn hBn).trans hBnv) 0 _ rfl;have l1:=qe ((hV.1 Bj hBj).trans hBjv);have l2:=qe ((hV.1 Bn hBn).trans hBnv);have a3:=qb (hj.same hV.1).box 0 _ rfl;have l3:=qe (hj.same hV.1).box;simp only [Nat.zero_add]at a1 a2 a3;have hne:r.head.pred.toList.isEmpty=false:=by
  have h:=qfq hr.head;cases e:r.head.pred.toList with
  |nil=>rw [e] at h;exact absurd h (by rw [show(⟨#[]⟩:ByteArray).toList= [] from by first |rfl |simp];simp)
  |cons x xs=>rfl
 have a4: ∀X,EachV U nU n0 W0 X->X.cell? ⟨Bx,0,none⟩=some (.pointer (s.map fun S=>⟨S,0,none⟩)):=fun X hX=>by
  have:=qb ((hX.1 Bx hBx).trans hBxv) 0 _ rfl;unfold qz at this
  simpa using this
 have hwalk:=qs3 (sF:=fun _=>s) (fI:=49) (lI:= #[qj Bx]) (first:= -1) hr hj hUn (fun _=>hsS) hsN (qc6 Tryz.func49 (by kernel_rfl) rfl) (fun X hX m=>by unfold qz;exact qzr (a4 X hX) m) qpl hinv.1 hinv.2 hV hU hJ hJx hround h0;unfold qz at a2 hwalk;clear a4;refine qc5 ?_ hr hj hUn hsS hsN hBj hBjv hBx hBxv hBn hBnv hinv hV hU hJ hJx;clear hr hj hUn hsS hsN hBj hBjv hBx hBxv hBn hBnv hinv hV hU hJ hJx;intro Xhr Xhj XhUn XhsS XhsN XhBj XhBjv XhBx XhBxv XhBn XhBnv Xhinv XhV XhU XhJ XhJx;refine hd3 ?_ hround h0 hwalk;clear hround h0 hwalk;intro Xhround Xh0 Xhwalk;refine qbp Tryz.func47 rfl ?_;simp only [Tryz.ntmps47,qdz,Nat.reduceAdd,Nat.reduceSub];gi_wp2;refine⟨trivial,rfl,(callsIn_wide.2 Xhwalk.o).mono ?_⟩;rintro e W9 ⟨⟨v,rfl⟩,hz9,hend⟩;refine hd1 ?_ hend;clear hend;intro Xhend;gi_wp2;refine bodyPost_end (results_none rfl _ _ _) rfl ⟨⟨_,rfl⟩,hz9,Xhend.o⟩
end Go.Proofs
namespace Go.Proofs
open Go.RowKit Go.Ink Go.Flt R4 P16 Go.MuLone
attribute [local go_sem] Oper.semAt_some
theorem qjj (J:Nat)(s sN:Option Nat)(w:World):Calls prog 15 #[qj J,qz s,qz sN] w fun e w'=>e=.returned (.func (.func 47) #[] #[qj w.heap.size,qj (w.heap.size+1),qj (w.heap.size+2)])/\
  w'.heap[w.heap.size]?=some (.cells #[qj J] 31 (0,0))/\w'.heap[w.heap.size+1]?=some (.cells #[qz s] 37 (0,0))/\w'.heap[w.heap.size+2]?=some (.cells #[qz sN] 37 (0,0))/\w'.heap.size=w.heap.size+3/\Keep (fun _=>True) w w':=by
 unfold qz;obtain⟨s1,h1⟩:=ex ((s.map fun S=>(⟨S,0,none⟩:Addr)));obtain⟨s2,h2⟩:=ex ((sN.map fun S=>(⟨S,0,none⟩:Addr)));rw [h1,h2];clear h1 h2
 go_enter Tryz.func15,Tryz.ntmps15
 go_wp2;go_ret;have p1:=qh w (.cells #[qj J] 31);have p2:=qh (w.alloc (.cells #[qj J] 31)) (.cells #[.pointer s1] 37);have p3:=qh ((w.alloc (.cells #[qj J] 31)).alloc (.cells #[.pointer s1] 37)) (.cells #[.pointer s2] 37);simp only [World.size_alloc]at p2 p3;refine⟨rfl,((Keep.alloc (fun _=>True) _ _).trans kAl).heap p1 trivial,(Keep.alloc (fun _=>True) _ _).heap p2 trivial,p3,by simp,(kAl.trans kAl).trans kAl⟩
set_option maxRecDepth 100000 in
theorem qs5 {U:Nat->Prop}{n:Nat}{w:World}{J:Nat}{r:RuleD}{vars:List ByteArray}{pos:List Int}{vha vb vv va vt vh:Value}(hj:JoinAt U n w J r vars pos vha vb vv va vt vh)(hn:n<=w.heap.size):
  Calls prog 24 #[qj J] w fun e w'=> ∃vo,e=.returned vo/\w'.ownsRow w.heap.size 9 1 vo vars.length (vars.map .string)/\Keep (fun _=>True) w w':=by
 have a0:=qb hj.box 3 _ rfl;have l0:=qe hj.box;have hst:qae n w vv vars:=hj.vrow.mono fun _ _ _ _ h=>h.2;have hcl:=qld hst hn (fun n c h=>by
  obtain⟨a,c',h1,h2,h3,h4⟩:=id hst;rw [h1]at h;injection h with h5 h6 h7
  subst h5;cases hv:vars with
  |nil=>rw [hv] at h6;exact h6.symm
  |cons x xs=>
   obtain⟨b,o,h,-⟩:=h4 0 x (by rw [hv];rfl);cases h)
 obtain⟨av,cv,rfl,-,-,-⟩:=id hj.vrow;simp only [Nat.zero_add]at a0;refine hd3 ?_ hj hst hcl;clear hj hst hcl;intro Xhj Xhst Xhcl
 go_enter Tryz.func24,Tryz.ntmps24
 go_wp2_with fail;refine Xhcl.o.mono ?_;rintro e w' ⟨vo,rfl,h1,h2⟩;obtain⟨a9,c9,rfl⟩:=qi h1;refine hd2 ?_ h1 h2;clear h1 h2;intro Xh1 Xh2;go_wp2;go_ret;exact⟨_,rfl,Xh1.o,Xh2.o⟩
set_option maxRecDepth 100000 in
theorem qny {U:Nat->Prop}{n:Nat}{w:World}{J:Nat}{r:RuleD}{vars:List ByteArray}{pos:List Int}{vha vb vv va vt vh:Value}(hj:JoinAt U n w J r vars pos vha vb vv va vt vh):
  Calls prog 27 #[qj J] w fun e w'=>e=.returned (.int .i64 (pos.length:Int))/\w'=w:=by
 have a0:=qb hj.box 4 _ rfl;have l0:=qe hj.box;obtain⟨av,cv,rfl,-,-,-⟩:=id hj.at';simp only [Nat.zero_add]at a0;clear hj
 go_enter Tryz.func27,Tryz.ntmps27
 go_wp2;go_ret;exact⟨rfl,rfl⟩
set_option maxRecDepth 100000 in
theorem qkb {tag:qct}{w:World}{S:Nat}{c:List ql}(h:StoreAt tag w S c):
  Calls prog 33 #[qj S] w fun e w'=>e=.returned (.int .i64 (c.length:Int))/\Keep (fun _=>True) w w':=by
 obtain⟨T,M,MX,vx,xs,rl,hP⟩:=h;have a0:=qb hP.box 0 _ rfl;have f0:=qf hP.box 0;have hSw:=qe hP.box;obtain⟨W1,hW1⟩:=ex (w.setCell ⟨S,0,none⟩ (.int .i32 1));have box1:=q8 0 (.int .i32 1) hP.box;rw [hW1]at box1;have a3:=qb box1 5 _ rfl;have a1:=qb box1 0 _ rfl;have f1:=qf box1 0;have hS1:=qe box1;have hnone:=qh8 hP.box;have hfin:Keep (fun _=>True) w (W1.setCell ⟨S,0,none⟩ (.int .i32 0)):=qix hP.box (by rw [hW1];exact Keep.refl _ _);have hlock:=lock_free qhd ⟨S,0,none⟩ w (by simpa using a0) f0;rw [hW1]at hlock;simp only [Nat.zero_add]at a0 a1 a3;clear box1 hW1;refine hd4 ?_ hP hnone hlock hfin;clear hP hnone hlock hfin;intro XhP Xhnone Xhlock Xhfin
 go_enter_defers Tryz.func33,Tryz.ntmps33
 go_wp2_with fail;refine Xhnone.o.mono ?_;rintro e w9 ⟨rfl,hw9⟩;have hw9:=hw9.symm;subst hw9;go_wp2_with fail;refine Xhlock.o.mono ?_;rintro e w9 ⟨rfl,hw9⟩;have hw9:=hw9.symm;subst hw9;go_wp2_with fail;refine leaves_cons (f:=55) (args:= #[.pointer (some ⟨S,0,none⟩)]) (by simp) (by simp [go_sem]) ?_;refine(unlock_deferred qhd ⟨S,0,none⟩ .returning _ (by simpa using a1) (by simpa using f1)).mono ?_;rintro e u' w'' ⟨rfl,rfl,rfl⟩;exact⟨_,results_tmp rfl _ _ _,rfl,Xhfin.o⟩
end Go.Proofs
namespace Go.Proofs
open Go.RowKit Go.Ink Go.Flt R4 P16
attribute [local go_sem] Oper.semAt_some
def qa8 (vars:List ByteArray)(ts:List TermD):List ByteArray:=ts.foldl (fun vs t=>if t.var=true then qq vs t.text else vs) vars
theorem qrc (vars:List ByteArray)(ts:List TermD){k:Nat}{t:TermD}(h:ts[k]?=some t):qa8 vars (ts.take (k+1))=if t.var=true then qq (qa8 vars (ts.take k)) t.text else qa8 vars (ts.take k):=by
 unfold qa8;rw [take_add_one,h,foldl_append]
 rfl
theorem qrd {l:List ByteArray}{s x:ByteArray}:x∈qq l s↔x∈l∨x=s:=by
 unfold qq;split
 ·rename_i h;constructor
  ·exact .inl
  ·rintro(h1 |h1)
   ·exact h1
   ·subst h1;exact h
 ·simp
theorem qvl {l:List ByteArray}{s:ByteArray}(h:l.Nodup):(qq l s).Nodup:=by
 unfold qq;split
 ·exact h
 ·rename_i hs;rw [nodup_append];refine⟨h,by simp,fun a ha b hb e=>?_⟩;rw [mem_singleton]at hb;subst hb;subst e;exact hs ha
theorem qdy (ts:List TermD): ∀vars,(∀x,x∈vars->x∈qa8 vars ts)/\(∀x,x∈vars->(qa8 vars ts).idxOf x=vars.idxOf x)/\(vars.Nodup->(qa8 vars ts).Nodup)/\(∀t,t∈ts->t.var=true->t.text∈qa8 vars ts)/\(qa8 vars ts).length<=vars.length+ts.length:=by
 induction ts with
 |nil=>intro vars;exact⟨fun _ h=>h,fun _ _=>rfl,fun h=>h,fun t ht=>(by cases ht),Nat.le_refl _⟩
 |cons t ts ih=>
  intro vars;have e:qa8 vars (t::ts)=qa8 (if t.var=true then qq vars t.text else vars) ts:=rfl;rw [e];obtain⟨h1,h2,h3,h4,h5⟩:=ih (if t.var=true then qq vars t.text else vars);by_cases hv:t.var=true
  ·rw [if_pos hv]at h1 h2 h3 h4 h5⊢;have hm: ∀x,x∈vars->x∈qq vars t.text:=fun x hx=>qrd.2 (.inl hx);refine⟨fun x hx=>h1 x (hm x hx),fun x hx=>(h2 x (hm x hx)).trans (qu8 hx _),fun h=>h3 (qvl h),fun u hu huv=>?_,?_⟩
   ·rcases mem_cons.1 hu with rfl |hu
    ·exact h1 _ (qrd.2 (.inr rfl))
    ·exact h4 u hu huv
   ·have:(qq vars t.text).length<=vars.length+1:=by
     unfold qq;split
     ·omega
     ·rw [length_append];exact Nat.le_refl _
    rw [length_cons];omega
  ·rw [if_neg hv]at h1 h2 h3 h4 h5⊢;refine⟨h1,h2,h3,fun u hu huv=>?_,by rw [length_cons];omega⟩;rcases mem_cons.1 hu with rfl |hu
   ·exact absurd huv hv
   ·exact h4 u hu huv
theorem qre {vars:List ByteArray}{ts:List TermD}{t:TermD}(h:qe6 vars t):qaw (qa8 vars ts) t=qaw vars t:=by
 unfold qaw;by_cases hv:t.var=true
 ·rw [if_pos hv,if_pos hv,(qdy ts vars).2.1 _ (h hv)]
 ·rw [if_neg hv,if_neg hv]
def qfi (s:SlotD):List Value:= [.int .i64 s.place,.string s.text]
theorem qqp:qce prog 88 93 2 24:=qcx (z:=.agg #[.int .i64 0,.string ⟨#[]⟩]) (by kernel_rfl) (by kernel_rfl) rfl (by decide) (by decide)
theorem qzu:(prog.info? 93).map (fun i=>(i.zero,i.size,i.bytes))=some (some (.agg #[.int .i64 0,.string ⟨#[]⟩]),2,24):=by kernel_rfl
theorem qsi (n:Nat)(h:n<=1073741824)(u:World):(Instr.makeSlice 88 (.int .i64 0) (.int .i64 (n:Int))).run prog u=
  .ok (.slice (some ⟨u.heap.size,0,none⟩) 0 n) (u.alloc (.cells (madeCells #[.int .i64 0,.string ⟨#[]⟩] (n*2)) 93)):=by
 obtain⟨i0,hi,hz0,hz1,hz2⟩:=info_parts qzu;have h:=run_make (P:=prog) u 88 93 i0 (.agg #[.int .i64 0,.string ⟨#[]⟩]) Tryz.underlying88 hi hz0 .i64 .i64 (0:Int) (n:Int) (by omega) (by omega) (by rw [hz2];omega) (by omega)
 simpa [hz1,Value.cells]using h
structure CmAt (w:World)(Bm M Bjj J:Nat)(c0 c1 c2:Value)(vv ca ct ch:Value)(vars:List ByteArray):Prop where
 bm:w.heap[Bm]?=some (.cells #[.map (some M)] 91 (0,0))
 nums:qqj w M vars.zipIdx
 bj:w.heap[Bjj]?=some (.cells #[qj J] 31 (0,0))
 box:w.heap[J]?=some (.cells #[c0,c1,c2,vv,ca,ct,ch] 90 (0,0))
 own:w.ownsRow 0 9 1 vv vars.length (vars.map .string)
theorem CmAt.keep {w w':World}{Bm M Bjj J:Nat}{c0 c1 c2 vv ca ct ch:Value}{vars:List ByteArray}{C:Nat->Prop}(h:CmAt w Bm M Bjj J c0 c1 c2 vv ca ct ch vars)(hK:Keep C w w')(h1:C Bm)(h2:C M)(h3:C Bjj)(h4:C J)(h5: ∀b,vv.ownBlock=some b->C b):CmAt w' Bm M Bjj J c0 c1 c2 vv ca ct ch vars:=
 ⟨hK.heap h.bm h1,h.nums.keep hK h2,hK.heap h.bj h3,hK.heap h.box h4,qg h.own hK h5⟩
theorem CmAt.all {w w':World}{Bm M Bjj J:Nat}{c0 c1 c2 vv ca ct ch:Value}{vars:List ByteArray}(h:CmAt w Bm M Bjj J c0 c1 c2 vv ca ct ch vars)(hK:Keep (fun _=>True) w w'):CmAt w' Bm M Bjj J c0 c1 c2 vv ca ct ch vars:=h.keep hK trivial trivial trivial trivial (fun _ _=>trivial)
theorem CmAt.nodup {w:World}{Bm M Bjj J:Nat}{c0 c1 c2 vv ca ct ch:Value}{vars:List ByteArray}(h:CmAt w Bm M Bjj J c0 c1 c2 vv ca ct ch vars):vars.Nodup:=by
 obtain⟨_,_,_,_,hn,_⟩:=h.nums;rw [qj8]at hn;exact hn
theorem CmAt.apart {w:World}{Bm M Bjj J:Nat}{c0 c1 c2 vv ca ct ch:Value}{vars:List ByteArray}(h:CmAt w Bm M Bjj J c0 c1 c2 vv ca ct ch vars):(Bm≠M/\Bjj≠M/\J≠M/\Bm≠J/\Bjj≠J)/\ ∀b,vv.ownBlock=some b->b≠Bm/\b≠M/\b≠Bjj/\b≠J:=by
 obtain⟨es,cc,hM,_⟩:=h.nums;have q1:=h.bm;have q2:=h.bj;have q3:=h.box;have hne: ∀{a b:Nat} {o o':Obj},w.heap[a]?=some o->w.heap[b]?=some o'->o≠o'->a≠b:=fun ha hb ho e=>by subst e;rw [ha] at hb;exact ho (Option.some.inj hb)
 refine⟨⟨hne q1 hM (by intro h;cases h),hne q2 hM (by intro h;cases h),hne q3 hM (by intro h;cases h),hne q1 q3 (by intro h;injection h with _ h _;revert h;decide),hne q2 q3 (by intro h;injection h with _ h _;revert h;decide)⟩,fun b hb=>?_⟩;obtain⟨cs,hcs⟩:=qav h.own hb;exact⟨hne hcs q1 (by intro h;injection h with _ h _;revert h;decide),hne hcs hM (by intro h;cases h),hne hcs q2 (by intro h;injection h with _ h _;revert h;decide),hne hcs q3 (by intro h;injection h with _ h _;revert h;decide)⟩
theorem CmAt.put {w:World}{Bm M Bjj J:Nat}{c0 c1 c2 ca ct ch:Value}{a:Option Addr}{c:Nat}{vars:List ByteArray}(h:CmAt w Bm M Bjj J c0 c1 c2 (.slice a vars.length c) ca ct ch vars){s:ByteArray}(hs:s.size<=1073741824)(hl:vars.length<=1073741824)(hm:s∉vars){B:Nat}(hB:w.heap[B]?=some (.cells #[.bool true,.string s] 60 (0,0))):
  ∃W5 Wd W6 g cap,(Instr.mapUpdate 91 (.map (some M)) (.string s) (.int .i64 (vars.length:Int))).run prog w=.ok () W5/\W5.drew=Wd/\
   (Builtin.append_ #[46,46] 46 #[.slice a vars.length c,.slice (some ⟨Wd.heap.size,0,none⟩) 1 1]).run prog (Wd.alloc (.cells #[.string s] 9))=.ok (.slice (some ⟨g,0,none⟩) (vars.length+1) cap) W6/\
   (∀X,X=Wd∨X=Wd.alloc (.cells #[.string s] 9)∨X=W6->X.cell? ⟨Bjj,0,none⟩=some (qj J)/\X.cell? ⟨J,3,none⟩=some (.slice a vars.length c)/\X.cell? ⟨B,1,none⟩=some (.string s))/\g<W6.heap.size/\
   CmAt (W6.setCell ⟨J,3,none⟩ (.slice (some ⟨g,0,none⟩) (vars.length+1) cap)) Bm M Bjj J c0 c1 c2 (.slice (some ⟨g,0,none⟩) (vars.length+1) cap) ca ct ch (vars++ [s])/\
   Keep (fun b=>b≠J/\b≠M/\(Value.slice a vars.length c).ownBlock≠some b) w (W6.setCell ⟨J,3,none⟩ (.slice (some ⟨g,0,none⟩) (vars.length+1) cap))/\
   ((Value.slice a vars.length c).ownBlock=some g∨w.heap.size<=g)/\W6.heap[J]?=some (.cells #[c0,c1,c2,.slice a vars.length c,ca,ct,ch] 90 (0,0))/\w.heap.size<=W6.heap.size:=by
 obtain⟨⟨n1,n2,n3,n4,n5⟩,nv⟩:=h.apart;obtain⟨W5,hup,hm5,kw5,hz5⟩:=qie (P:=prog) Tryz.underlying91 qla qlb h.nums s (qlc hs) vars.length;rw [qxh hm]at hm5;unfold qu7 at hup;obtain⟨Wd,hWd⟩:=ex (W5.drew);have kd:Keep (fun _=>True) W5 Wd:=by rw [←hWd];exact kDr
 have kwd:Keep (fun b=>b≠M) w Wd:=kw5.trans (kd.mono fun _ _ _=>trivial);have ownd:=qg h.own kwd (fun b hb=>(nv b hb).2.1);obtain⟨es,cc,hM,_⟩:=id h.nums;have nB:B≠M:=fun e=>by subst e;rw [hM] at hB;cases hB
 have nBo: ∀b,(Value.slice a vars.length c).ownBlock=some b->b≠B:=fun b hb e=>by
  obtain⟨cs,hcs⟩:=qav h.own hb;subst e;rw [hB]at hcs;injection hcs with hcs
  injection hcs with _ h2 _
  revert h2
  decide
 obtain⟨v',W6,hr,ho6,k6,g,cap,hv,hgo,hg6⟩:=qc4 (P:=prog) qga 46 ownd [.string s] rfl (by simp [Value.oneCell']) (by omega) (Nat.zero_le _);subst hv;have hgw:(Value.slice a vars.length c).ownBlock=some g∨w.heap.size<=g:=hgo.imp id (fun h=>by have:=kwd.size;omega);have k6o: ∀b,(∀b',(Value.slice a vars.length c).ownBlock=some b'->b'≠b)->some b≠(Value.slice a vars.length c).ownBlock:=fun b hb e=>hb b e.symm rfl;have bjd:=kwd.heap h.bj n2;have boxd:=kwd.heap h.box n3;have Bd:=kwd.heap hB nB;have bj6:=k6.heap bjd (k6o Bjj fun b hb=>(nv b hb).2.2.1);have box6:=k6.heap boxd (k6o J fun b hb=>(nv b hb).2.2.2);have B6:=k6.heap Bd (k6o B fun b hb=>nBo b hb);have hgJ:g≠J:=fun e=>by
  rcases hgo with h1 |h1
  ·exact(nv g h1).2.2.2 e
  ·have:=qe boxd;omega
 have hgM:g≠M:=fun e=>by
  rcases hgo with h1 |h1
  ·exact(nv g h1).2.1 e
  ·have:=hm5.lt;have:=kd.size;omega
 have hm6:=(hm5.keep kd trivial).keep k6 (k6o M fun b hb=>(nv b hb).2.1);have hk:Keep (fun b=>b≠J) W6 (W6.setCell ⟨J,3,none⟩ (.slice (some ⟨g,0,none⟩) (vars.length+1) cap)):=kSc;have hS: ∀X:World,X.heap[Bjj]?=some (.cells #[qj J] 31 (0,0))->X.heap[J]?=some (.cells #[c0,c1,c2,.slice a vars.length c,ca,ct,ch] 90 (0,0))->X.heap[B]?=some (.cells #[.bool true,.string s] 60 (0,0))->
   X.cell? ⟨Bjj,0,none⟩=some (qj J)/\X.cell? ⟨J,3,none⟩=some (.slice a vars.length c)/\X.cell? ⟨B,1,none⟩=some (.string s):=fun X q1 q2 q3=>by
  have r1:=qb q1 0 _ rfl;have r2:=qb q2 3 _ rfl;have r3:=qb q3 1 _ rfl;simp only [Nat.zero_add]at r1 r2 r3;exact⟨r1,r2,r3⟩
 have ka:Keep (fun _=>True) Wd (Wd.alloc (.cells #[.string s] 9)):=kAl;refine⟨W5,Wd,W6,g,cap,hup,hWd,hr,?_,hg6,⟨?_,?_,?_,?_,?_⟩,?_,hgw,box6,Nat.le_trans kwd.size k6.size⟩
 ·rintro X (rfl |rfl |rfl)
  ·exact hS _ bjd boxd Bd
  ·exact hS _ (ka.heap bjd trivial) (ka.heap boxd trivial) (ka.heap Bd trivial)
  ·exact hS _ bj6 box6 B6
 ·exact hk.heap (k6.heap (kwd.heap h.bm n1) (k6o Bm fun b hb=>(nv b hb).1)) n4
 ·exact hm6.keep hk n3.symm
 ·exact hk.heap bj6 n5
 ·have:=q8 3 (.slice (some ⟨g,0,none⟩) (vars.length+1) cap) box6;exact this
 ·rw [length_append,length_singleton,map_append];exact qg ho6 hk (fun b hb=>by simp only [Value.ownBlock] at hb;cases hb;exact hgJ)
 ·exact((kwd.mono fun b _ h=>h.2.1).trans (k6.mono fun b _ h=>fun e=>h.2.2 e.symm)).trans (Keep.setCell _ _ _ (fun h=>h.1 rfl))
theorem qxr {vars:List ByteArray}{ts:List TermD}{k:Nat}{t:TermD}(h:ts[k]?=some t):((ts.take (k+1)).map (qaw (qa8 vars (ts.take (k+1))))).flatMap qfi=((ts.take k).map (qaw (qa8 vars (ts.take k)))).flatMap qfi++qfi (qaw (qa8 vars (ts.take (k+1))) t):=by
 have e1:(ts.take k).map (qaw (qa8 vars (ts.take (k+1))))=(ts.take k).map (qaw (qa8 vars (ts.take k))):=map_congr_left fun u hu=>by
  have hin:qe6 (qa8 vars (ts.take k)) u:=fun hv=>(qdy (ts.take k) vars).2.2.2.1 u hu hv;have e:qa8 vars (ts.take (k+1))=qa8 (qa8 vars (ts.take k)) [t]:=by
   rw [qrc vars ts h];rfl
  rw [e];exact qre hin
 rw [←e1,take_add_one,h,map_append,flatMap_append];simp
set_option maxRecDepth 100000 in
set_option maxHeartbeats 4000000 in
theorem qkc {w:World}{Bm M Bjj J:Nat}{c0 c1 c2 ca ct ch:Value}{a:Option Addr}{c:Nat}{vars:List ByteArray}(h:CmAt w Bm M Bjj J c0 c1 c2 (.slice a vars.length c) ca ct ch vars){m:Nat}{v:Value}{ts:List TermD}(hts:qaj m w v ts)(hm:m<=w.heap.size)
  (hfree: ∀a' n' c',v=.slice (some a') n' c'->0<ts.length->a'.block≠J/\a'.block≠M/\(Value.slice a vars.length c).ownBlock≠some a'.block) (hsm: ∀t,t∈ts->t.text.size<=1073741824) (hl:vars.length+ts.length<=1073741824):
  Calls prog 43 #[v,qj Bm,qj Bjj] w fun e w'=> ∃vo vv',e=.returned vo/\w'.ownsRow w.heap.size 93 2 vo ts.length ((ts.map (qaw (qa8 vars ts))).flatMap qfi)/\CmAt w' Bm M Bjj J c0 c1 c2 vv' ca ct ch (qa8 vars ts)/\
   Keep (fun b=>b≠J/\b≠M/\(Value.slice a vars.length c).ownBlock≠some b) w w'/\(∀b,vv'.ownBlock=some b->(Value.slice a vars.length c).ownBlock=some b∨w.heap.size<=b):=by
 obtain⟨av,cv,rfl,hll,hcap,hel⟩:=id hts;obtain⟨N,hN⟩:=ex (w.heap.size);have hmk:=fun u=>qsi ts.length hll u;have l1:=qe h.bm;have l2:=h.nums.lt;have l3:=qe h.bj;have l4:=qe h.box;rw [hN]at l1 l2 l3 l4;obtain⟨W0,hW0⟩:=ex (w.alloc (.cells (madeCells #[.int .i64 0,.string ⟨#[]⟩] (ts.length*2)) 93));have k0:Keep (fun _=>True) w W0:=by rw [←hW0];exact kAl
 have o0:W0.ownsRow N 93 2 (.slice (some ⟨N,0,none⟩) 0 ts.length) 0 []:=by
  rw [←hW0,←hN];exact World.ownsRow_made w _ ts.length (Nat.le_refl _) (by simp only [maxLen];omega) (by simp [madeCells])
 refine qd9 ?_ h hts hm hfree hsm hel hN hW0 k0 o0;clear h hts hm hfree hsm hel hN hW0 k0 o0;intro Xh Xhts Xhm Xhfree Xhsm Xhel XhN XhW0 Xk0 Xo0;refine qbp Tryz.func43 rfl ?_;simp only [Tryz.ntmps43,qdz,Nat.reduceAdd,Nat.reduceSub];gi_wp2;rw [XhW0.o,XhN.o];clear hmk;gi_wp2;gi_loopw [5,15] (fun x5 i' X=> ∃(k:Nat) (vv':Value),k<=ts.length/\i'=.int .i64 (k:Int)/\CmAt X Bm M Bjj J c0 c1 c2 vv' ca ct ch (qa8 vars (ts.take k))/\X.ownsRow N 93 2 x5 k (((ts.take k).map (qaw (qa8 vars (ts.take k)))).flatMap qfi)/\
  Keep (fun b=>b<N/\b≠J/\b≠M/\(Value.slice a vars.length c).ownBlock≠some b) w X/\(∀b,vv'.ownBlock=some b->(Value.slice a vars.length c).ownBlock=some b∨N<=b)) (fun _ i _=>ts.length-(intOf i).toNat)
 case atStart=>exact⟨0,_,by omega,rfl,Xh.o.all Xk0.o,Xo0.o,Xk0.o.mono fun _ _ _=>trivial,fun b hb=>.inl hb⟩
 case round=>
  obtain⟨k,vv',hk,rfl,hC,ho,hK,hvv⟩:=hrel;have hzr:N<=wr.heap.size:=by have:=hK.size;have:=XhN.o;omega
  by_cases hlt:k<ts.length
  ·have hlt1:(k:Int)<ts.length:=by omega
   have hk0:(0:Int)<=k:=by omega
   obtain⟨t,ht⟩: ∃t,ts[k]?=some t:=⟨_,getElem?_eq_getElem hlt⟩;have hsn:=qrc vars ts ht;have hslots:=qxr (vars:=vars) ht;obtain⟨zb,zo,rfl,hzb,hz1,hz2⟩:=Xhel.o k t ht;have hfr:=Xhfree.o _ _ _ rfl (by omega);have hzN:zb<N:=by have:=Xhm.o;have:=XhN.o;omega
   have d0:=hK.cell hz1 ⟨hzN,hfr.1,hfr.2.1,hfr.2.2⟩;have d1:=hK.cell hz2 ⟨hzN,hfr.1,hfr.2.1,hfr.2.2⟩;have hzw:zb<wr.heap.size:=by omega
   have htx:=Xhsm.o t (mem_of_getElem? ht);obtain⟨a5,c5,rfl⟩:=qi ho;obtain⟨vr,tx⟩:=t;simp only at d0 d1 htx;cases vr with
   |false=>
    simp only [Bool.false_eq_true,if_false]at hsn;have hsl:qaw (qa8 vars (ts.take (k+1))) ⟨false,tx⟩=⟨-1,tx⟩:=rfl;rw [hsl]at hslots;obtain⟨W1,hW1⟩:=ex (wr.alloc (.cells #[.bool false,.string tx] 60));have k1:Keep (fun _=>True) wr W1:=by rw [←hW1];exact kAl
    have z1:W1.heap.size=wr.heap.size+1:=by rw [←hW1];simp
    have hlen:(qa8 vars (ts.take k)).length<=1073741824:=by have:=(qdy (ts.take k) vars).2.2.2.2;rw [length_take] at this;omega
    have hoq:=qg ho k1 (fun _ _=>trivial);have hcq:=hC.all k1;obtain⟨v',W7,hr7,ho7,k7,g7,cap7,hv7,hgo7,hg7⟩:=qc4 (P:=prog) qqp 88 hoq [.int .i64 (-1),.string tx] rfl (by simp [Value.oneCell']) (by omega) (by have:=(hK.trans (k1.mono fun _ _ _=>trivial)).size;omega);subst hv7;have hcm7:CmAt W7 Bm M Bjj J c0 c1 c2 vv' ca ct ch (qa8 vars (ts.take (k+1))):=by
     rw [hsn];exact hcq.keep k7 (fun e=>by have:=(World.ownsRow.lt hoq _ e.symm).1;omega) (fun e=>by have:=(World.ownsRow.lt hoq _ e.symm).1;omega) (fun e=>by have:=(World.ownsRow.lt hoq _ e.symm).1;omega) (fun e=>by have:=(World.ownsRow.lt hoq _ e.symm).1;omega) (fun b hb e=>qdg hcq.own hoq (by decide) hb e.symm)
    have hK7:Keep (fun b=>b<N/\b≠J/\b≠M/\(Value.slice a vars.length c).ownBlock≠some b) w W7:=(hK.trans (k1.mono fun _ _ _=>trivial)).trans (k7.mono fun b _ (h:b<N/\_) e=>by have:=(World.ownsRow.lt hoq b e.symm).1;omega);have hend:W7.ownsRow N 93 2 (.slice (some ⟨g7,0,none⟩) (k+1) cap7) (k+1) (((ts.take (k+1)).map (qaw (qa8 vars (ts.take (k+1))))).flatMap qfi):=by
     rw [hslots];exact ho7
    rw [z1,←hW1]at hr7;clear hoq hcq k7 hgo7 ho7 hC ho hz1 hz2 ht k1 hW1 z1;refine qd9 ?_ hsn hslots hr7 hcm7 hK7 hend hg7 hvv hK hfr;clear hsn hslots hr7 hcm7 hK7 hend hg7 hvv hK hfr;intro Xhsn Xhslots Xhr7 Xhcm7 XhK7 Xhend Xhg7 Xhvv XhK Xhfr
    gi_wp2_with (gi_at_builtin;refine qch (v:=.slice a5 k c5) (u:=.slice (some ⟨wr.heap.size+1,0,none⟩) 1 1) (v':=.slice (some ⟨g7,0,none⟩) (k+1) cap7) (w':=W7) rfl (.tmp 22) (.tmp 26) 88 rfl rfl rfl Xhr7.o ?_)
    go_roundw
    case rel=>exact⟨k+1,vv',by omega,by go_num,Xhcm7.o,Xhend.o,XhK7.o,Xhvv.o⟩
    case measure=>simp [intOf];omega
   |true=>
    simp only [if_true]at hsn;obtain⟨W1,hW1⟩:=ex (wr.alloc (.cells #[.bool true,.string tx] 60));obtain⟨B,hB⟩:=ex (wr.heap.size);have k1:Keep (fun _=>True) wr W1:=by rw [←hW1];exact kAl
    have z1:W1.heap.size=B+1:=by rw [←hW1,←hB];simp
    have nb:W1.heap[B]?=some (.cells #[.bool true,.string tx] 60 (0,0)):=by rw [←hW1,←hB];exact qh _ _
    have hC1:=hC.all k1;have hK1:=hK.trans (k1.mono fun _ _ _=>trivial);have ho1:=qg ho k1 (fun _ _=>trivial);have hlk:=qd1 (P:=prog) Tryz.underlying91 qla qlb qo2 hC1.nums tx (qlc htx) true;rw [qo3 hC1.nodup tx]at hlk;have e1:=qb hC.bm 0 _ rfl;have e2:=qb hC.bj 0 _ rfl;have e3:=qb hC.box 3 _ rfl;have e4:Bm<wr.heap.size:=qe hC.bm;have e5:Bjj<wr.heap.size:=qe hC.bj;have e6:J<wr.heap.size:=qe hC.box;obtain⟨av',cv',rfl⟩:=qi hC.own;simp only [Nat.zero_add]at e1 e2 e3;by_cases hin:tx∈qa8 vars (ts.take k)
    ·rw [if_pos hin]at hlk;simp only [if_true]at hlk;rw [show qq (qa8 vars (ts.take k)) tx=qa8 vars (ts.take k) from if_pos hin]at hsn;have hsl:qaw (qa8 vars (ts.take (k+1))) ⟨true,tx⟩=⟨((qa8 vars (ts.take k)).idxOf tx:Nat),⟨#[]⟩⟩:=by rw [hsn];rfl
     rw [hsl]at hslots;obtain⟨ix,hix⟩:=ex ((qa8 vars (ts.take k)).idxOf tx);rw [hix]at hslots hlk;unfold qu7 at hlk;have hlen:(qa8 vars (ts.take k)).length<=1073741824:=by have:=(qdy (ts.take k) vars).2.2.2.2;rw [length_take] at this;omega
     have hoq:=ho1;have hcq:=hC1;obtain⟨v',W7,hr7,ho7,k7,g7,cap7,hv7,hgo7,hg7⟩:=qc4 (P:=prog) qqp 88 hoq [.int .i64 (ix:Int),.string ⟨#[]⟩] rfl (by simp [Value.oneCell']) (by omega) (by have:=(hK1).size;omega);subst hv7;have hcm7:CmAt W7 Bm M Bjj J c0 c1 c2 (.slice av' (qa8 vars (ts.take k)).length cv') ca ct ch (qa8 vars (ts.take (k+1))):=by
      rw [hsn];exact hcq.keep k7 (fun e=>by have:=(World.ownsRow.lt hoq _ e.symm).1;omega) (fun e=>by have:=(World.ownsRow.lt hoq _ e.symm).1;omega) (fun e=>by have:=(World.ownsRow.lt hoq _ e.symm).1;omega) (fun e=>by have:=(World.ownsRow.lt hoq _ e.symm).1;omega) (fun b hb e=>qdg hcq.own hoq (by decide) hb e.symm)
     have hK7:Keep (fun b=>b<N/\b≠J/\b≠M/\(Value.slice a vars.length c).ownBlock≠some b) w W7:=(hK1).trans (k7.mono fun b _ (h:b<N/\_) e=>by have:=(World.ownsRow.lt hoq b e.symm).1;omega);have hend:W7.ownsRow N 93 2 (.slice (some ⟨g7,0,none⟩) (k+1) cap7) (k+1) (((ts.take (k+1)).map (qaw (qa8 vars (ts.take (k+1))))).flatMap qfi):=by
      rw [hslots];exact ho7
     rw [z1,←hB,←hW1]at hr7;rw [←hW1]at hlk;clear hoq hcq k7 hgo7 ho7 hC ho hz1 hz2 ht k1 hW1 z1 hin hC1 hK1 ho1 nb e2 e3;refine qoh ?_ hsn hslots hr7 hcm7 hK7 hend hg7 hvv hK hfr hix hB hsl;clear hsn hslots hr7 hcm7 hK7 hend hg7 hvv hK hfr hix hB hsl;intro Xhsn Xhslots Xhr7 Xhcm7 XhK7 Xhend Xhg7 Xhvv XhK Xhfr Xhix XhB Xhsl
     gi_wp2_with (gi_at_builtin;refine qch (v:=.slice a5 k c5) (u:=.slice (some ⟨wr.heap.size+1,0,none⟩) 1 1) (v':=.slice (some ⟨g7,0,none⟩) (k+1) cap7) (w':=W7) rfl (.tmp 57) (.tmp 60) 88 rfl rfl rfl Xhr7.o ?_)
     go_roundw
     case rel=>exact⟨k+1,_,by omega,by go_num,Xhcm7.o,Xhend.o,XhK7.o,Xhvv.o⟩
     case measure=>simp [intOf];omega
    ·rw [if_neg hin]at hlk;simp only [if_true]at hlk;rw [show qq (qa8 vars (ts.take k)) tx=qa8 vars (ts.take k)++ [tx]from if_neg hin]at hsn;have hsl:qaw (qa8 vars (ts.take (k+1))) ⟨true,tx⟩=⟨((qa8 vars (ts.take k)).length:Nat),⟨#[]⟩⟩:=by
      rw [hsn];unfold qaw;rw [if_pos rfl,idxOf_append,if_neg hin];simp
     rw [hsl]at hslots;have hvl:(qa8 vars (ts.take k)).length<=1073741824:=by have:=(qdy (ts.take k) vars).2.2.2.2;rw [length_take] at this;omega
     obtain⟨W5,Wd,W6,g6,cap6,hup,hWd,hr6,hS6,hg6,hC6,hk6,hgo6,box6,hz6⟩:=hC1.put htx hvl hin nb;obtain⟨Wf,hWf⟩:=ex (W6.setCell ⟨J,3,none⟩ (.slice (some ⟨g6,0,none⟩) ((qa8 vars (ts.take k)).length+1) cap6));rw [hWf]at hC6 hk6;have hvv6: ∀b,(Value.slice (some ⟨g6,0,none⟩) ((qa8 vars (ts.take k)).length+1) cap6).ownBlock=some b->(Value.slice a vars.length c).ownBlock=some b∨N<=b:=fun b hb=>by
      simp only [Value.ownBlock]at hb;cases hb;rcases hgo6 with h1 |h1
      ·exact hvv g6 h1
      ·exact .inr (by omega)
     have hKf:Keep (fun b=>b<N/\b≠J/\b≠M/\(Value.slice a vars.length c).ownBlock≠some b) w Wf:=hK1.trans (hk6.mono fun b _ h=>⟨h.2.1,h.2.2.1,fun e=>by
      rcases hvv b e with h1 |h1
      ·exact h.2.2.2 h1
      ·omega⟩)
     have hof:=qg ho1 hk6 (fun b hb=>⟨fun e=>by have:=(World.ownsRow.lt ho1 b hb).1;omega,fun e=>by have:=(World.ownsRow.lt ho1 b hb).1;omega,fun e=>qdg hC1.own ho1 (by decide) e hb⟩);have zf:wr.heap.size+1<=Wf.heap.size:=by rw [hB];have:=hk6.size;omega
     have nbf:Wf.heap[B]?=some (.cells #[.bool true,.string tx] 60 (0,0)):=hk6.heap nb ⟨by omega,fun e=>by have:=hC1.nums.lt;omega,fun e=>by
      obtain⟨cs,hcs⟩:=qav hC1.own e;rw [nb]at hcs;injection hcs with hcs
      injection hcs with _ h2 _
      revert h2
      decide⟩
     have fJ:=qf box6 3;have cJ:=qb box6 3 _ rfl;have lJ6:=qe box6;simp only [Nat.zero_add]at cJ;have hT0:=hS6 Wd (.inl rfl);have hT1:=hS6 _ (.inr (.inl rfl));have hT2:=hS6 _ (.inr (.inr rfl));have hlen:(qa8 vars (ts.take k)).length<=1073741824:=by have:=(qdy (ts.take k) vars).2.2.2.2;rw [length_take] at this;omega
     have hoq:=hof;have hcq:=hC6;obtain⟨v',W7,hr7,ho7,k7,g7,cap7,hv7,hgo7,hg7⟩:=qc4 (P:=prog) qqp 88 hoq [.int .i64 ((qa8 vars (ts.take k)).length:Int),.string ⟨#[]⟩] rfl (by simp [Value.oneCell']) (by omega) (by have:=(hKf).size;omega);subst hv7;have hcm7:CmAt W7 Bm M Bjj J c0 c1 c2 (.slice (some ⟨g6,0,none⟩) ((qa8 vars (ts.take k)).length+1) cap6) ca ct ch (qa8 vars (ts.take (k+1))):=by
      rw [hsn];exact hcq.keep k7 (fun e=>by have:=(World.ownsRow.lt hoq _ e.symm).1;omega) (fun e=>by have:=(World.ownsRow.lt hoq _ e.symm).1;omega) (fun e=>by have:=(World.ownsRow.lt hoq _ e.symm).1;omega) (fun e=>by have:=(World.ownsRow.lt hoq _ e.symm).1;omega) (fun b hb e=>qdg hcq.own hoq (by decide) hb e.symm)
     have hK7:Keep (fun b=>b<N/\b≠J/\b≠M/\(Value.slice a vars.length c).ownBlock≠some b) w W7:=(hKf).trans (k7.mono fun b _ (h:b<N/\_) e=>by have:=(World.ownsRow.lt hoq b e.symm).1;omega);have hend:W7.ownsRow N 93 2 (.slice (some ⟨g7,0,none⟩) (k+1) cap7) (k+1) (((ts.take (k+1)).map (qaw (qa8 vars (ts.take (k+1))))).flatMap qfi):=by
      rw [hslots];exact ho7
     rw [←hW1]at hlk hup;clear hoq hcq k7 hgo7 ho7 hC ho hz1 hz2 ht k1 z1 hin hC1 hK1 ho1 nb hof hKf hC6 hk6 hvv nbf hS6;refine qc5 ?_ hsn hslots hr7 hcm7 hK7 hend hg7 hK hfr hB hsl hWd hr6 hT0 hT1 hT2;clear hsn hslots hr7 hcm7 hK7 hend hg7 hK hfr hB hsl hWd hr6 hT0 hT1 hT2;intro Xhsn Xhslots Xhr7 Xhcm7 XhK7 Xhend Xhg7 XhK Xhfr XhB Xhsl XhWd Xhr6 XhT0 XhT1 XhT2;refine hd7 ?_ hWf hvv6 hgo6 box6 hW1 hlen hvl;clear hWf hvv6 hgo6 box6 hW1 hlen hvl;intro XhWf Xhvv6 Xhgo6 Xbox6 XhW1 Xhlen Xhvl;gi_wp2;rw [XhB.o];refine qab ?_;refine qx rfl (fun X=>X.cell? ⟨Bjj,0,none⟩=some (qj J)/\X.cell? ⟨J,3,none⟩=some (.slice av' (qa8 vars (ts.take k)).length cv')/\X.cell? ⟨B,1,none⟩=some (.string tx)) [11] ?_;rw [XhWd.o];refine qam [0,1,2,3,4,5,6] ?_
     iterate 7
      refine tkR (v:=?_) rfl XhT0.o ?_ ?_;rotate_left
      ·rintro Wq ⟨x1,x2,x3⟩;go_simp
       try with_reducible rfl
      try simp only [qan]
     refine qu ?_;refine hoR 7 rfl fun K XhK0=>?_;gi_wp2;refine XhK0.o _ _ (fun _=>XhT1.o) ?_;refine hoR 8 rfl fun K XhK1=>?_;refine qch rfl (.tmp 50) (.tmp 53) 46 rfl rfl rfl Xhr6.o ?_;gi_wp2;refine XhK1.o _ _ (fun _=>XhT2.o) ?_;refine hoR 9 rfl fun K XhK2=>?_;gi_wp2;refine XhK2.o _ _ (fun _=>XhT2.o) ?_;refine hoR 10 rfl fun K XhK3=>?_;gi_wp2;refine XhK3.o _ _ (fun _=>XhT2.o) ?_;refine hoR 11 rfl fun K XhK4=>?_;gi_wp2;rw [XhWf.o];refine XhK4.o _ _ (fun h=>absurd h (by decide)) ?_;refine qk (by kernel_rfl) (qm ?_);clear XhK0 XhK1 XhK2 XhK3 XhK4
     gi_wp2_with (gi_at_builtin;refine qch (v:=.slice a5 k c5) (u:=.slice (some ⟨Wf.heap.size,0,none⟩) 1 1) (v':=.slice (some ⟨g7,0,none⟩) (k+1) cap7) (w':=W7) rfl (.tmp 57) (.tmp 60) 88 rfl rfl rfl Xhr7.o ?_)
     go_roundw
     case rel=>exact⟨k+1,_,by omega,by go_num,Xhcm7.o,Xhend.o,XhK7.o,Xhvv6.o⟩
     case measure=>simp [intOf];omega
  ·obtain rfl:k=ts.length:=by omega
   rw [take_length]at hC ho;obtain⟨a5,c5,rfl⟩:=qi ho;clear hlt;refine hd4 ?_ hC ho hK hvv;clear hC ho hK hvv;intro XhC Xho XhK Xhvv;gi_wp2;go_ret;exact⟨_,_,rfl,by rw [XhN.o];exact Xho.o,XhC.o,XhK.o.mono fun b hb h=>⟨by have:=XhN.o;omega,h⟩,fun b hb=>(Xhvv.o b hb).imp id (fun h=>by rw [XhN.o];exact h)⟩
end Go.Proofs
