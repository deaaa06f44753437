/- Parts of the proof. -/
import Derived.Test.YtnponcjnahicnaaGreatEcB
set_option linter.unusedSimpArgs false
set_option linter.unusedVariables false
set_option maxRecDepth 100000
set_option maxHeartbeats 4000000
open Go.Proofs.Tryz(prog)
open List(idxOf_append length_cons length_singleton)
namespace Go.Proofs
open Go.RowKit Go.Ink Go.Flt R4 P16
attribute [local go_sem] Oper.semAt_some
theorem q1j {n0:Nat}{Ss:List Nat}{U:Nat->Prop}{nU:Nat}{W0:World}{J:Nat}{r:RuleD}{pos:List Int}{am vb vv va vt vh:Value}(hr:qce r)(hj:JoinAt U nU W0 J r (qu r) pos am vb vv va vt vh)(ae: ∀b,U b->b<nU)
  {s sN:Option Nat} (aa: ∀S,s=some S->S∈Ss) (ab: ∀S,sN=some S->S∈Ss) {Bj Bx Bn:Nat} (y:U Bj) (g:W0.heap[Bj]?=some (.cells #[qi J] 31 (0,0))) (Y:U Bx) (q:W0.heap[Bx]?=some (.cells #[qab s] 37 (0,0))) (t:U Bn) (p:W0.heap[Bn]?=some (.cells #[qab sN] 37 (0,0))):
  qoe prog 47 #[qi Bj,qi Bx,qi Bn] (qbt n0 Ss) (fun γ=>(ql4 γ s sN r (-1)).length) (fun γ0 k γ n X args=> ∃b,(ql4 γ0 s sN r (-1))[k]?=some b/\qju r (qu r) b γ n X args) (EachV U nU n0 W0) U:=by
 intro l Jp Jx W g0 hl hinv z hU hJ ag c h0;show Calls prog 47 #[.func (.yield l) #[] #[],qi Bj,qi Bx,qi Bn] W _;have a1:=qb ((z.1 Bj y).trans g) 0 _ rfl;have a2:=qb ((z.1 Bn t).trans p) 0 _ rfl;have l1:=qe ((z.1 Bj y).trans g);have l2:=qe ((z.1 Bn t).trans p);have a3:=qb (hj.same z.1).box 0 _ rfl;have l3:=qe (hj.same z.1).box;simp only [zD]at a1 a2 a3;have aI:r.head.pred.toList.isEmpty=false:=by
  have h:=qc1 hr.head;cases e:r.head.pred.toList with
  |nil=>rw [e] at h;exact absurd h (by rw [show(⟨#[]⟩:ByteArray).toList= [] from by first |rfl |simp];simp)
  |cons x xs=>rfl
 have a4: ∀X,EachV U nU n0 W0 X->X.cell? ⟨Bx,0,none⟩=some (.pointer (s.map fun S=>⟨S,0,none⟩)):=fun X hX=>by
  have:=qb ((hX.1 Bx Y).trans q) 0 _ rfl;unfold qab at this
  simpa using this
 have d:=qt3 (sF:=fun _=>s) (fI:=49) (lI:= #[qi Bx]) (first:= -1) hr hj ae (fun _=>aa) ab (qdg Tryz.func49 wD rfl) (fun X hX m=>by unfold qab;exact q07 (a4 X hX) m) qqn hinv.1 hinv.2 z hU hJ ag c h0;unfold qab at a2 d;clear a4;refine qb5 ?_ hr hj ae aa ab y g Y q t p hinv z hU hJ ag;clear hr hj ae aa ab y g Y q t p hinv z hU hJ ag;intro aH aO aA az aB aD ap aG au ay an ax aJ aN aQ aE;refine hd3 ?_ c h0 d;clear c h0 d;intro aj aK u;refine qbr Tryz.func47 rfl ?_;simp only [Tryz.ntmps47,qd0,Nat.reduceAdd,Nat.reduceSub];gi_wp2;refine⟨wH,rfl,(zU.2 u.o).mono ?_⟩;rintro e W9 ⟨⟨v,rfl⟩,ar,R⟩;refine hd1 ?_ R;clear R;intro af;gi_wp2;refine wA (yw rfl _ _ _) rfl ⟨⟨_,rfl⟩,ar,af.o⟩
end Go.Proofs
namespace Go.Proofs
open Go.RowKit Go.Ink Go.Flt R4 P16 Go.MuLone
attribute [local go_sem] Oper.semAt_some
theorem qt4 (J:Nat)(s sN:Option Nat)(w:World):Calls prog 15 #[qi J,qab s,qab sN] w fun e w'=>e=.returned (.func (.func 47) #[] #[qi w.heap.size,qi (w.heap.size+1),qi (w.heap.size+2)])/\
  w'.heap[w.heap.size]?=some (.cells #[qi J] 31 (0,0))/\w'.heap[w.heap.size+1]?=some (.cells #[qab s] 37 (0,0))/\w'.heap[w.heap.size+2]?=some (.cells #[qab sN] 37 (0,0))/\w'.heap.size=w.heap.size+3/\wG w w':=by
 unfold qab;obtain⟨g,c⟩:=ex ((s.map fun S=>(⟨S,0,none⟩:Addr)));obtain⟨h,d⟩:=ex ((sN.map fun S=>(⟨S,0,none⟩:Addr)));rw [c,d];clear c d
 go_enter Tryz.func15,Tryz.ntmps15
 go_wp2;go_ret;have p1:=qh w (.cells #[qi J] 31);have p2:=qh (w.alloc (.cells #[qi J] 31)) (.cells #[.pointer g] 37);have b:=qh ((w.alloc (.cells #[qi J] 31)).alloc (.cells #[.pointer g] 37)) (.cells #[.pointer h] 37);simp only [zO]at p2 b;refine⟨rfl,((Keep.alloc (fun _=>True) _ _).trans kAl).heap p1 wH,(Keep.alloc (fun _=>True) _ _).heap p2 wH,b,wE,(kAl.trans kAl).trans kAl⟩
theorem qt5 {U:Nat->Prop}{n:Nat}{w:World}{J:Nat}{r:RuleD}{vars:List ByteArray}{pos:List Int}{q X vv R vt vh:Value}(g:JoinAt U n w J r vars pos q X vv R vt vh)(Y:n<=w.heap.size):
  Calls prog 24 #[qi J] w fun e w'=> ∃vo,e=.returned vo/\w'.ownsRow w.heap.size 9 1 vo vars.length (vars.map .string)/\wG w w':=by
 have a0:=qb g.box 3 _ rfl;have l0:=qe g.box;have d:qac n w vv vars:=g.vrow.mono fun _ _ _ _ h=>h.2;have l:=qlq d Y (fun n c h=>by
  obtain⟨a,c',m,s,h3,h4⟩:=id d;rw [m]at h;injection h with h5 h6 h7
  subst h5;cases y:vars with
  |nil=>rw [y] at h6;exact h6.symm
  |cons x xs=>
   obtain⟨b,o,h,-⟩:=h4 0 x (by rw [y];rfl);cases h)
 obtain⟨av,cv,rfl,-,-,-⟩:=id g.vrow;simp only [zD]at a0;refine hd3 ?_ g d l;clear g d l;intro z v p
 go_enter Tryz.func24,Tryz.ntmps24
 go_wp2_with fail;refine p.o.mono ?_;rintro e w' ⟨vo,rfl,m,s⟩;obtain⟨a9,c9,rfl⟩:=qj m;refine hd2 ?_ m s;clear m s;intro u t;go_wp2;go_ret;exact⟨_,rfl,u.o,t.o⟩
theorem qoq {U:Nat->Prop}{n:Nat}{w:World}{J:Nat}{r:RuleD}{vars:List ByteArray}{pos:List Int}{c g vv d h vh:Value}(b:JoinAt U n w J r vars pos c g vv d h vh):
  Calls prog 27 #[qi J] w fun e w'=>e=.returned (.int .i64 (pos.length:Int))/\w'=w:=by
 have l:=qb b.box 4 _ rfl;have m:=qe b.box;obtain⟨q,p,rfl,-,-,-⟩:=id b.at';simp only [zD]at l;clear b
 go_enter Tryz.func27,Tryz.ntmps27
 go_wp2;go_ret;exact⟨rfl,rfl⟩
theorem q1k {tag:qdk}{w:World}{S:Nat}{c:List qk}(h:StoreAt tag w S c):
  Calls prog 33 #[qi S] w fun e w'=>e=.returned (.int .i64 (c.length:Int))/\wG w w':=by
 obtain⟨T,M,MX,vx,xs,rl,s⟩:=h;have u:=qb s.box 0 _ rfl;have Y:=qg s.box 0;have z:=qe s.box;obtain⟨W1,m⟩:=ex (w.setCell ⟨S,0,none⟩ (.int .i32 1));have b:=qag 0 (.int .i32 1) s.box;rw [m]at b;have y:=qb b 5 _ rfl;have v:=qb b 0 _ rfl;have x:=qg b 0;have aa:=qe b;have l:=qit s.box;have r:wG w (W1.setCell ⟨S,0,none⟩ (.int .i32 0)):=qje s.box (by rw [m];exact Keep.refl _ _);have d:=lock_free qhs ⟨S,0,none⟩ w (by simpa using u) Y;rw [m]at d;simp only [zD]at u v y;clear b m;refine hd4 ?_ s l d r;clear s l d r;intro R p q t
 go_enter_defers Tryz.func33,Tryz.ntmps33
 go_wp2_with fail;refine p.o.mono ?_;rintro e U ⟨rfl,g⟩;have g:=g.symm;subst g;go_wp2_with fail;refine q.o.mono ?_;rintro e U ⟨rfl,g⟩;have g:=g.symm;subst g;go_wp2_with fail;refine leaves_cons (f:=55) (args:= #[.pointer (some ⟨S,0,none⟩)]) wE (by simp [go_sem]) ?_;refine(unlock_deferred qhs ⟨S,0,none⟩ .returning _ (by simpa using v) (by simpa using x)).mono ?_;rintro e u' X ⟨rfl,rfl,rfl⟩;exact⟨_,xo rfl _ _ _,rfl,t.o⟩
end Go.Proofs
namespace Go.Proofs
open Go.RowKit Go.Ink Go.Flt R4 P16
attribute [local go_sem] Oper.semAt_some
def qbe (vars:List ByteArray)(ts:List TermD):List ByteArray:=ts.foldl (fun vs t=>if t.var=true then qr vs t.text else vs) vars
theorem qr6 (vars:List ByteArray)(ts:List TermD){k:Nat}{t:TermD}(h:ts[k]?=some t):qbe vars (ts.take (k+1))=if t.var=true then qr (qbe vars (ts.take k)) t.text else qbe vars (ts.take k):=by
 unfold qbe;rw [zh,h,yn]
 rfl
theorem qr7 {l:List ByteArray}{s x:ByteArray}:x∈qr l s↔x∈l∨x=s:=by
 unfold qr;split
 ·rename_i h;constructor
  ·exact .inl
  ·rintro(h1 |h1)
   ·exact h1
   ·subst h1;exact h
 ·simp
theorem qwr {l:List ByteArray}{s:ByteArray}(h:l.Nodup):(qr l s).Nodup:=by
 unfold qr;split
 ·exact h
 ·rename_i hs;rw [xY];refine⟨h,wE,fun a d b c e=>?_⟩;rw [zm]at c;subst c;subst e;exact hs d
theorem qec (ts:List TermD): ∀vars,(∀x,x∈vars->x∈qbe vars ts)/\(∀x,x∈vars->(qbe vars ts).idxOf x=vars.idxOf x)/\(vars.Nodup->(qbe vars ts).Nodup)/\(∀t,t∈ts->t.var=true->t.text∈qbe vars ts)/\(qbe vars ts).length<=vars.length+ts.length:=by
 induction ts with
 |nil=>intro vars;exact⟨fun _ h=>h,fun _ _=>rfl,fun h=>h,fun t v=>(by cases v),zG _⟩
 |cons t ts ih=>
  intro vars;have e:qbe vars (t::ts)=qbe (if t.var=true then qr vars t.text else vars) ts:=rfl;rw [e];obtain⟨g,l,p,m,s⟩:=ih (if t.var=true then qr vars t.text else vars);by_cases q:t.var=true
  ·rw [zI q]at g l p m s⊢;have r: ∀x,x∈vars->x∈qr vars t.text:=fun x d=>qr7.2 (.inl d);refine⟨fun x d=>g x (r x d),fun x d=>(l x (r x d)).trans (qwb d _),fun h=>p (qwr h),fun u c b=>?_,?_⟩
   ·rcases zw.1 c with rfl |c
    ·exact g _ (qr7.2 (.inr rfl))
    ·exact m u c b
   ·have:(qr vars t.text).length<=vars.length+1:=by
     unfold qr;split
     ·omega
     ·rw [zR];exact zG _
    rw [length_cons];omega
  ·rw [zF q]at g l p m s⊢;refine⟨g,l,p,fun u c b=>?_,by rw [length_cons];omega⟩;rcases zw.1 c with rfl |c
   ·exact absurd b q
   ·exact m u c b
theorem qr8 {vars:List ByteArray}{ts:List TermD}{t:TermD}(h:qex vars t):qa2 (qbe vars ts) t=qa2 vars t:=by
 unfold qa2;by_cases b:t.var=true
 ·rw [zI b,zI b,(qec ts vars).2.1 _ (h b)]
 ·rw [zF b,zF b]
def qfx (s:SlotD):List Value:= [.int .i64 s.place,.string s.text]
theorem qrn:qcj prog 88 93 2 24:=qc2 (z:=.agg #[.int .i64 0,.string ⟨#[]⟩]) wD wD rfl wF wF
theorem q1l:(prog.info? 93).map (fun i=>(i.zero,i.size,i.bytes))=some (some (.agg #[.int .i64 0,.string ⟨#[]⟩]),2,24):=wD
theorem qtg (n:Nat)(h:n<=1073741824)(u:World):(Instr.makeSlice 88 (.int .i64 0) (.int .i64 (n:Int))).run prog u=
  .ok (.slice (some ⟨u.heap.size,0,none⟩) 0 n) (u.alloc (.cells (madeCells #[.int .i64 0,.string ⟨#[]⟩] (n*2)) 93)):=by
 obtain⟨e,hi,c,d,b⟩:=info_parts q1l;have h:=run_make (P:=prog) u 88 93 e (.agg #[.int .i64 0,.string ⟨#[]⟩]) Tryz.underlying88 hi c .i64 .i64 (0:Int) (n:Int) wC wC (by rw [b];omega) wC
 simpa [d,Value.cells]using h
structure CmAt (w:World)(Bm M Bjj J:Nat)(c0 c1 c2:Value)(vv ca ct ch:Value)(vars:List ByteArray):Prop where
 bm:w.heap[Bm]?=some (.cells #[.map (some M)] 91 (0,0))
 nums:qqj w M vars.zipIdx
 bj:w.heap[Bjj]?=some (.cells #[qi J] 31 (0,0))
 box:w.heap[J]?=some (.cells #[c0,c1,c2,vv,ca,ct,ch] 90 (0,0))
 own:w.ownsRow 0 9 1 vv vars.length (vars.map .string)
theorem CmAt.keep {w w':World}{Bm M Bjj J:Nat}{g d l vv c m e:Value}{vars:List ByteArray}{C:Nat->Prop}(h:CmAt w Bm M Bjj J g d l vv c m e vars)(hK:Keep C w w')(q:C Bm)(r:C M)(t:C Bjj)(s:C J)(p: ∀b,vv.ownBlock=some b->C b):CmAt w' Bm M Bjj J g d l vv c m e vars:=
 ⟨hK.heap h.bm q,h.nums.keep hK r,hK.heap h.bj t,hK.heap h.box s,qf h.own hK p⟩
theorem CmAt.all {w w':World}{Bm M Bjj J:Nat}{e c g vv b l d:Value}{vars:List ByteArray}(h:CmAt w Bm M Bjj J e c g vv b l d vars)(hK:wG w w'):CmAt w' Bm M Bjj J e c g vv b l d vars:=h.keep hK trivial trivial trivial trivial (fun _ _=>wH)
theorem CmAt.nodup {w:World}{Bm M Bjj J:Nat}{g d l vv c m e:Value}{vars:List ByteArray}(h:CmAt w Bm M Bjj J g d l vv c m e vars):vars.Nodup:=by
 obtain⟨_,_,_,_,b,_⟩:=h.nums;rw [qj5]at b;exact b
theorem CmAt.apart {w:World}{Bm M Bjj J:Nat}{u s x vv r y t:Value}{vars:List ByteArray}(h:CmAt w Bm M Bjj J u s x vv r y t vars):(Bm≠M/\Bjj≠M/\J≠M/\Bm≠J/\Bjj≠J)/\ ∀b,vv.ownBlock=some b->b≠Bm/\b≠M/\b≠Bjj/\b≠J:=by
 obtain⟨R,U,m,_⟩:=h.nums;have p:=h.bm;have q:=h.bj;have l:=h.box;have c: ∀{a b:Nat} {o o':Obj},w.heap[a]?=some o->w.heap[b]?=some o'->o≠o'->a≠b:=fun v g ho e=>by subst e;rw [v] at g;exact ho (yI g)
 refine⟨⟨c p m (by intro h;cases h),c q m (by intro h;cases h),c l m (by intro h;cases h),c p l (by intro h;injection h with _ h _;revert h;decide),c q l (by intro h;injection h with _ h _;revert h;decide)⟩,fun b g=>?_⟩;obtain⟨z,d⟩:=qa1 h.own g;exact⟨c d p (by intro h;injection h with _ h _;revert h;decide),c d m (by intro h;cases h),c d q (by intro h;injection h with _ h _;revert h;decide),c d l (by intro h;injection h with _ h _;revert h;decide)⟩
theorem CmAt.put {w:World}{Bm M Bjj J:Nat}{c0 c1 c2 ca ct Y:Value}{a:Option Addr}{c:Nat}{vars:List ByteArray}(h:CmAt w Bm M Bjj J c0 c1 c2 (.slice a vars.length c) ca ct Y vars){s:ByteArray}(hs:s.size<=1073741824)(hl:vars.length<=1073741824)(hm:s∉vars){B:Nat}(hB:w.heap[B]?=some (.cells #[.bool true,.string s] 60 (0,0))):
  ∃W5 Wd W6 g cap,(Instr.mapUpdate 91 (.map (some M)) (.string s) (.int .i64 (vars.length:Int))).run prog w=.ok () W5/\W5.drew=Wd/\
   (Builtin.append_ #[46,46] 46 #[.slice a vars.length c,.slice (some ⟨Wd.heap.size,0,none⟩) 1 1]).run prog (Wd.alloc (.cells #[.string s] 9))=.ok (.slice (some ⟨g,0,none⟩) (vars.length+1) cap) W6/\
   (∀X,X=Wd∨X=Wd.alloc (.cells #[.string s] 9)∨X=W6->X.cell? ⟨Bjj,0,none⟩=some (qi J)/\X.cell? ⟨J,3,none⟩=some (.slice a vars.length c)/\X.cell? ⟨B,1,none⟩=some (.string s))/\g<W6.heap.size/\
   CmAt (W6.setCell ⟨J,3,none⟩ (.slice (some ⟨g,0,none⟩) (vars.length+1) cap)) Bm M Bjj J c0 c1 c2 (.slice (some ⟨g,0,none⟩) (vars.length+1) cap) ca ct Y (vars++ [s])/\
   Keep (fun b=>b≠J/\b≠M/\(Value.slice a vars.length c).ownBlock≠some b) w (W6.setCell ⟨J,3,none⟩ (.slice (some ⟨g,0,none⟩) (vars.length+1) cap))/\
   ((Value.slice a vars.length c).ownBlock=some g∨w.heap.size<=g)/\W6.heap[J]?=some (.cells #[c0,c1,c2,.slice a vars.length c,ca,ct,Y] 90 (0,0))/\w.heap.size<=W6.heap.size:=by
 obtain⟨⟨n1,n2,n3,n4,n5⟩,nv⟩:=h.apart;obtain⟨W5,R,t,au,aA⟩:=qi0 (P:=prog) Tryz.underlying91 qla qlb h.nums s (qlc hs) vars.length;rw [qx6 hm]at t;unfold qui at R;obtain⟨Wd,U⟩:=ex (W5.drew);have kd:wG W5 Wd:=by rw [←U];exact kDr
 have l:Keep (fun b=>b≠M) w Wd:=au.trans kd.mt;have z:=qf h.own l (fun b d=>(nv b d).2.1);obtain⟨es,cc,hM,_⟩:=id h.nums;have nB:B≠M:=fun e=>by subst e;rw [hM] at hB;cases hB
 have an: ∀b,(Value.slice a vars.length c).ownBlock=some b->b≠B:=fun b d e=>by
  obtain⟨cs,r⟩:=qa1 h.own d;subst e;rw [hB]at r;injection r with r
  injection r with _ h2 _
  revert h2
  decide
 obtain⟨v',W6,hr,ap,u,g,cap,hv,v,aj⟩:=qc8 (P:=prog) qel 46 z [.string s] rfl (by simp [Value.oneCell']) wC (yc _);subst hv;have ai:(Value.slice a vars.length c).ownBlock=some g∨w.heap.size<=g:=v.imp id (fun h=>by have:=l.size;omega);have q: ∀b,(∀b',(Value.slice a vars.length c).ownBlock=some b'->b'≠b)->some b≠(Value.slice a vars.length c).ownBlock:=fun b d e=>d b e.symm rfl;have x:=l.heap h.bj n2;have m:=l.heap h.box n3;have Bd:=l.heap hB nB;have y:=u.heap x (q Bjj fun b d=>(nv b d).2.2.1);have p:=u.heap m (q J fun b d=>(nv b d).2.2.2);have B6:=u.heap Bd (q B fun b d=>an b d);have aq:g≠J:=fun e=>by
  rcases v with h1 |h1
  ·exact(nv g h1).2.2.2 e
  ·have:=qe m;omega
 have az:g≠M:=fun e=>by
  rcases v with h1 |h1
  ·exact(nv g h1).2.1 e
  ·have:=t.lt;have:=kd.size;omega
 have am:=(t.keep kd wH).keep u (q M fun b d=>(nv b d).2.1);have hk:Keep (fun b=>b≠J) W6 (W6.setCell ⟨J,3,none⟩ (.slice (some ⟨g,0,none⟩) (vars.length+1) cap)):=kSc;have hS: ∀X:World,X.heap[Bjj]?=some (.cells #[qi J] 31 (0,0))->X.heap[J]?=some (.cells #[c0,c1,c2,.slice a vars.length c,ca,ct,Y] 90 (0,0))->X.heap[B]?=some (.cells #[.bool true,.string s] 60 (0,0))->
   X.cell? ⟨Bjj,0,none⟩=some (qi J)/\X.cell? ⟨J,3,none⟩=some (.slice a vars.length c)/\X.cell? ⟨B,1,none⟩=some (.string s):=fun X q1 q2 q3=>by
  have r1:=qb q1 0 _ rfl;have r2:=qb q2 3 _ rfl;have r3:=qb q3 1 _ rfl;simp only [zD]at r1 r2 r3;exact⟨r1,r2,r3⟩
 have ka:wG Wd (Wd.alloc (.cells #[.string s] 9)):=kAl;refine⟨W5,Wd,W6,g,cap,R,U,hr,?_,aj,⟨?_,?_,?_,?_,?_⟩,?_,ai,p,zW l.size u.size⟩
 ·rintro X (rfl |rfl |rfl)
  ·exact hS _ x m Bd
  ·exact hS _ (ka.heap x wH) (ka.heap m wH) (ka.heap Bd wH)
  ·exact hS _ y p B6
 ·exact hk.heap (u.heap (l.heap h.bm n1) (q Bm fun b d=>(nv b d).1)) n4
 ·exact am.keep hk n3.symm
 ·exact hk.heap y n5
 ·have:=qag 3 (.slice (some ⟨g,0,none⟩) (vars.length+1) cap) p;exact this
 ·rw [zR,length_singleton,zn];exact qf ap hk (fun b d=>by simp only [Value.ownBlock] at d;cases d;exact aq)
 ·exact((l.mono fun b _ h=>h.2.1).trans (u.mono fun b _ h=>fun e=>h.2.2 e.symm)).trans (Keep.setCell _ _ _ (fun h=>h.1 rfl))
theorem qy4 {vars:List ByteArray}{ts:List TermD}{k:Nat}{t:TermD}(h:ts[k]?=some t):((ts.take (k+1)).map (qa2 (qbe vars (ts.take (k+1))))).flatMap qfx=((ts.take k).map (qa2 (qbe vars (ts.take k)))).flatMap qfx++qfx (qa2 (qbe vars (ts.take (k+1))) t):=by
 have g:(ts.take k).map (qa2 (qbe vars (ts.take (k+1))))=(ts.take k).map (qa2 (qbe vars (ts.take k))):=xC fun u d=>by
  have b:qex (qbe vars (ts.take k)) u:=fun c=>(qec (ts.take k) vars).2.2.2.1 u d c;have e:qbe vars (ts.take (k+1))=qbe (qbe vars (ts.take k)) [t]:=by
   rw [qr6 vars ts h];rfl
  rw [e];exact qr8 b
 rw [←g,zh,h,zn,yG];simp
theorem qko {w:World}{Bm M Bjj J:Nat}{c0 c1 c2 ca ct ch:Value}{a:Option Addr}{c:Nat}{vars:List ByteArray}(h:CmAt w Bm M Bjj J c0 c1 c2 (.slice a vars.length c) ca ct ch vars){m:Nat}{v:Value}{ts:List TermD}(a6:qai m w v ts)(hm:m<=w.heap.size)
  (aG: ∀a' n' c',v=.slice (some a') n' c'->0<ts.length->a'.block≠J/\a'.block≠M/\(Value.slice a vars.length c).ownBlock≠some a'.block) (bq: ∀t,t∈ts->t.text.size<=1073741824) (hl:vars.length+ts.length<=1073741824):
  Calls prog 43 #[v,qi Bm,qi Bjj] w fun e w'=> ∃vo vv',e=.returned vo/\w'.ownsRow w.heap.size 93 2 vo ts.length ((ts.map (qa2 (qbe vars ts))).flatMap qfx)/\CmAt w' Bm M Bjj J c0 c1 c2 vv' ca ct ch (qbe vars ts)/\
   Keep (fun b=>b≠J/\b≠M/\(Value.slice a vars.length c).ownBlock≠some b) w w'/\(∀b,vv'.ownBlock=some b->(Value.slice a vars.length c).ownBlock=some b∨w.heap.size<=b):=by
 obtain⟨av,cv,rfl,b0,cd,br⟩:=id a6;obtain⟨N,hN⟩:=ex (w.heap.size);have bW:=fun u=>qtg ts.length b0 u;have l1:=qe h.bm;have l2:=h.nums.lt;have l3:=qe h.bj;have l4:=qe h.box;rw [hN]at l1 l2 l3 l4;obtain⟨W0,aM⟩:=ex (w.alloc (.cells (madeCells #[.int .i64 0,.string ⟨#[]⟩] (ts.length*2)) 93));have k0:wG w W0:=by rw [←aM];exact kAl
 have o0:W0.ownsRow N 93 2 (.slice (some ⟨N,0,none⟩) 0 ts.length) 0 []:=by
  rw [←aM,←hN];exact xg w _ ts.length (zG _) (by simp only [maxLen];omega) (by simp [madeCells])
 refine qdz ?_ h a6 hm aG bq br hN aM k0 o0;clear h a6 hm aG bq br hN aM k0 o0;intro Xh b7 b2 aJ bp bl ay bu bD bR;refine qbr Tryz.func43 rfl ?_;simp only [Tryz.ntmps43,qd0,Nat.reduceAdd,Nat.reduceSub];gi_wp2;rw [bu.o,ay.o];clear bW;gi_wp2;gi_loopw [5,15] (fun x5 i' X=> ∃(k:Nat) (vv':Value),k<=ts.length/\i'=.int .i64 (k:Int)/\CmAt X Bm M Bjj J c0 c1 c2 vv' ca ct ch (qbe vars (ts.take k))/\X.ownsRow N 93 2 x5 k (((ts.take k).map (qa2 (qbe vars (ts.take k)))).flatMap qfx)/\
  Keep (fun b=>b<N/\b≠J/\b≠M/\(Value.slice a vars.length c).ownBlock≠some b) w X/\(∀b,vv'.ownBlock=some b->(Value.slice a vars.length c).ownBlock=some b∨N<=b)) (fun _ i _=>ts.length-(intOf i).toNat)
 case atStart=>exact⟨0,_,wC,rfl,Xh.o.all bD.o,bR.o,bD.o.mt,fun b hb=>.inl hb⟩
 case round=>
  obtain⟨k,vv',hk,rfl,hC,ho,hK,Y⟩:=hrel;have cD:N<=wr.heap.size:=by have:=hK.size;have:=ay.o;omega
  by_cases bw:k<ts.length
  ·have cc:(k:Int)<ts.length:=by omega
   have ck:(0:Int)<=k:=wC
   obtain⟨t,ht⟩: ∃t,ts[k]?=some t:=⟨_,zB bw⟩;have l:=qr6 vars ts ht;have d:=qy4 (vars:=vars) ht;obtain⟨zb,zo,rfl,cG,aK,aH⟩:=bl.o k t ht;have x:=aJ.o _ _ _ rfl wC;have bF:zb<N:=by have:=b2.o;have:=ay.o;omega
   have d0:=hK.cell aK ⟨bF,x.1,x.2.1,x.2.2⟩;have d1:=hK.cell aH ⟨bF,x.1,x.2.1,x.2.2⟩;have cm:zb<wr.heap.size:=wC
   have a4:=bp.o t (zH ht);obtain⟨a5,c5,rfl⟩:=qj ho;obtain⟨vr,tx⟩:=t;simp only at d0 d1 a4;cases vr with
   |false=>
    simp only [zz,xA]at l;have ab:qa2 (qbe vars (ts.take (k+1))) ⟨false,tx⟩=⟨-1,tx⟩:=rfl;rw [ab]at d;obtain⟨W1,p⟩:=ex (wr.alloc (.cells #[.bool false,.string tx] 60));have k1:wG wr W1:=by rw [←p];exact kAl
    have z1:W1.heap.size=wr.heap.size+1:=by rw [←p];simp
    have aw:(qbe vars (ts.take k)).length<=1073741824:=by have:=(qec (ts.take k) vars).2.2.2.2;rw [yC] at this;omega
    have g:=qf ho k1 (fun _ _=>wH);have z:=hC.all k1;obtain⟨v',W7,U,ao,k7,g7,s,aD,ak,ap⟩:=qc8 (P:=prog) qrn 88 g [.int .i64 (-1),.string tx] rfl (by simp [Value.oneCell']) wC (by have:=(hK.trans k1.mt).size;omega);subst aD;have r:CmAt W7 Bm M Bjj J c0 c1 c2 vv' ca ct ch (qbe vars (ts.take (k+1))):=by
     rw [l];exact z.keep k7 (fun e=>by have:=(zE g _ e.symm).1;omega) (fun e=>by have:=(zE g _ e.symm).1;omega) (fun e=>by have:=(zE g _ e.symm).1;omega) (fun e=>by have:=(zE g _ e.symm).1;omega) (fun b hb e=>qc9 z.own g wF hb e.symm)
    have ai:Keep (fun b=>b<N/\b≠J/\b≠M/\(Value.slice a vars.length c).ownBlock≠some b) w W7:=(hK.trans k1.mt).trans (k7.mono fun b _ (h:b<N/\_) e=>by have:=(zE g b e.symm).1;omega);have q:W7.ownsRow N 93 2 (.slice (some ⟨g7,0,none⟩) (k+1) s) (k+1) (((ts.take (k+1)).map (qa2 (qbe vars (ts.take (k+1))))).flatMap qfx):=by
     rw [d];exact ao
    rw [z1,←p]at U;clear g z k7 ak ao hC ho aK aH ht k1 p z1;refine qdz ?_ l d U r ai q ap Y hK x;clear l d U r ai q ap Y hK x;intro aV al ag R af y aU an aN aW
    gi_wp2_with (gi_at_builtin;refine qck (v:=.slice a5 k c5) (u:=.slice (some ⟨wr.heap.size+1,0,none⟩) 1 1) (v':=.slice (some ⟨g7,0,none⟩) (k+1) s) (w':=W7) rfl (.tmp 22) (.tmp 26) 88 rfl rfl rfl ag.o ?_)
    go_roundw
    case rel=>exact⟨k+1,vv',wC,by go_num,R.o,y.o,af.o,an.o⟩
    case measure=>simp [intOf];omega
   |true=>
    simp only [yj]at l;obtain⟨W1,p⟩:=ex (wr.alloc (.cells #[.bool true,.string tx] 60));obtain⟨B,hB⟩:=ex (wr.heap.size);have k1:wG wr W1:=by rw [←p];exact kAl
    have z1:W1.heap.size=B+1:=by rw [←p,←hB];simp
    have nb:W1.heap[B]?=some (.cells #[.bool true,.string tx] 60 (0,0)):=by rw [←p,←hB];exact qh _ _
    have ad:=hC.all k1;have aF:=hK.trans k1.mt;have ar:=qf ho k1 (fun _ _=>wH);have aa:=qef (P:=prog) Tryz.underlying91 qla qlb qpj ad.nums tx (qlc a4) true;rw [qpk ad.nodup tx]at aa;have e1:=qb hC.bm 0 _ rfl;have e2:=qb hC.bj 0 _ rfl;have e3:=qb hC.box 3 _ rfl;have e4:Bm<wr.heap.size:=qe hC.bm;have e5:Bjj<wr.heap.size:=qe hC.bj;have e6:J<wr.heap.size:=qe hC.box;obtain⟨bh,bJ,rfl⟩:=qj hC.own;simp only [zD]at e1 e2 e3;by_cases am:tx∈qbe vars (ts.take k)
    ·rw [zI am]at aa;simp only [yj]at aa;rw [show qr (qbe vars (ts.take k)) tx=qbe vars (ts.take k) from zI am]at l;have ab:qa2 (qbe vars (ts.take (k+1))) ⟨true,tx⟩=⟨((qbe vars (ts.take k)).idxOf tx:Nat),⟨#[]⟩⟩:=by rw [l];rfl
     rw [ab]at d;obtain⟨ix,a2⟩:=ex ((qbe vars (ts.take k)).idxOf tx);rw [a2]at d aa;unfold qui at aa;have aw:(qbe vars (ts.take k)).length<=1073741824:=by have:=(qec (ts.take k) vars).2.2.2.2;rw [yC] at this;omega
     have g:=ar;have z:=ad;obtain⟨v',W7,U,ao,k7,g7,s,aD,ak,ap⟩:=qc8 (P:=prog) qrn 88 g [.int .i64 (ix:Int),.string ⟨#[]⟩] rfl (by simp [Value.oneCell']) wC (by have:=(aF).size;omega);subst aD;have r:CmAt W7 Bm M Bjj J c0 c1 c2 (.slice bh (qbe vars (ts.take k)).length bJ) ca ct ch (qbe vars (ts.take (k+1))):=by
      rw [l];exact z.keep k7 (fun e=>by have:=(zE g _ e.symm).1;omega) (fun e=>by have:=(zE g _ e.symm).1;omega) (fun e=>by have:=(zE g _ e.symm).1;omega) (fun e=>by have:=(zE g _ e.symm).1;omega) (fun b hb e=>qc9 z.own g wF hb e.symm)
     have ai:Keep (fun b=>b<N/\b≠J/\b≠M/\(Value.slice a vars.length c).ownBlock≠some b) w W7:=(aF).trans (k7.mono fun b _ (h:b<N/\_) e=>by have:=(zE g b e.symm).1;omega);have q:W7.ownsRow N 93 2 (.slice (some ⟨g7,0,none⟩) (k+1) s) (k+1) (((ts.take (k+1)).map (qa2 (qbe vars (ts.take (k+1))))).flatMap qfx):=by
      rw [d];exact ao
     rw [z1,←hB,←p]at U;rw [←p]at aa;clear g z k7 ak ao hC ho aK aH ht k1 p z1 am ad aF ar nb e2 e3;refine qm6 ?_ l d U r ai q ap Y hK x a2 hB ab;clear l d U r ai q ap Y hK x a2 hB ab;intro aV al ag R af y aU an aN aW cb bo bi
     gi_wp2_with (gi_at_builtin;refine qck (v:=.slice a5 k c5) (u:=.slice (some ⟨wr.heap.size+1,0,none⟩) 1 1) (v':=.slice (some ⟨g7,0,none⟩) (k+1) s) (w':=W7) rfl (.tmp 57) (.tmp 60) 88 rfl rfl rfl ag.o ?_)
     go_roundw
     case rel=>exact⟨k+1,_,wC,by go_num,R.o,y.o,af.o,an.o⟩
     case measure=>simp [intOf];omega
    ·rw [zF am]at aa;simp only [yj]at aa;rw [show qr (qbe vars (ts.take k)) tx=qbe vars (ts.take k)++ [tx]from zF am]at l;have ab:qa2 (qbe vars (ts.take (k+1))) ⟨true,tx⟩=⟨((qbe vars (ts.take k)).length:Nat),⟨#[]⟩⟩:=by
      rw [l];unfold qa2;rw [zI rfl,idxOf_append,zF am];simp
     rw [ab]at d;have a3:(qbe vars (ts.take k)).length<=1073741824:=by have:=(qec (ts.take k) vars).2.2.2.2;rw [yC] at this;omega
     obtain⟨W5,Wd,W6,g6,aE,b3,bK,bG,aL,cy,a7,ax,aA,aj,cI⟩:=ad.put a4 a3 am nb;obtain⟨Wf,a0⟩:=ex (W6.setCell ⟨J,3,none⟩ (.slice (some ⟨g6,0,none⟩) ((qbe vars (ts.take k)).length+1) aE));rw [a0]at a7 ax;have aT: ∀b,(Value.slice (some ⟨g6,0,none⟩) ((qbe vars (ts.take k)).length+1) aE).ownBlock=some b->(Value.slice a vars.length c).ownBlock=some b∨N<=b:=fun b hb=>by
      simp only [Value.ownBlock]at hb;cases hb;rcases aA with h1 |h1
      ·exact Y g6 h1
      ·exact .inr wC
     have a1:Keep (fun b=>b<N/\b≠J/\b≠M/\(Value.slice a vars.length c).ownBlock≠some b) w Wf:=aF.trans (ax.mono fun b _ h=>⟨h.2.1,h.2.2.1,fun e=>by
      rcases Y b e with h1 |h1
      ·exact h.2.2.2 h1
      ·omega⟩)
     have bs:=qf ar ax (fun b hb=>⟨fun e=>by have:=(zE ar b hb).1;omega,fun e=>by have:=(zE ar b hb).1;omega,fun e=>qc9 ad.own ar wF e hb⟩);have zf:wr.heap.size+1<=Wf.heap.size:=by rw [hB];have:=ax.size;omega
     have bS:Wf.heap[B]?=some (.cells #[.bool true,.string tx] 60 (0,0)):=ax.heap nb ⟨wC,fun e=>by have:=ad.nums.lt;omega,fun e=>by
      obtain⟨cs,aI⟩:=qa1 ad.own e;rw [nb]at aI;injection aI with aI
      injection aI with _ h2 _
      revert h2
      decide⟩
     have fJ:=qg aj 3;have cJ:=qb aj 3 _ rfl;have cz:=qe aj;simp only [zD]at cJ;have bv:=aL Wd (.inl rfl);have bL:=aL _ (.inr (.inl rfl));have bz:=aL _ (.inr (.inr rfl));have aw:(qbe vars (ts.take k)).length<=1073741824:=by have:=(qec (ts.take k) vars).2.2.2.2;rw [yC] at this;omega
     have g:=bs;have z:=a7;obtain⟨v',W7,U,ao,k7,g7,s,aD,ak,ap⟩:=qc8 (P:=prog) qrn 88 g [.int .i64 ((qbe vars (ts.take k)).length:Int),.string ⟨#[]⟩] rfl (by simp [Value.oneCell']) wC (by have:=(a1).size;omega);subst aD;have r:CmAt W7 Bm M Bjj J c0 c1 c2 (.slice (some ⟨g6,0,none⟩) ((qbe vars (ts.take k)).length+1) aE) ca ct ch (qbe vars (ts.take (k+1))):=by
      rw [l];exact z.keep k7 (fun e=>by have:=(zE g _ e.symm).1;omega) (fun e=>by have:=(zE g _ e.symm).1;omega) (fun e=>by have:=(zE g _ e.symm).1;omega) (fun e=>by have:=(zE g _ e.symm).1;omega) (fun b hb e=>qc9 z.own g wF hb e.symm)
     have ai:Keep (fun b=>b<N/\b≠J/\b≠M/\(Value.slice a vars.length c).ownBlock≠some b) w W7:=(a1).trans (k7.mono fun b _ (h:b<N/\_) e=>by have:=(zE g b e.symm).1;omega);have q:W7.ownsRow N 93 2 (.slice (some ⟨g7,0,none⟩) (k+1) s) (k+1) (((ts.take (k+1)).map (qa2 (qbe vars (ts.take (k+1))))).flatMap qfx):=by
      rw [d];exact ao
     rw [←p]at aa b3;clear g z k7 ak ao hC ho aK aH ht k1 z1 am ad aF ar nb bs a1 a7 ax Y bS aL;refine qb5 ?_ l d U r ai q ap hK x hB ab bK bG bv bL bz;clear l d U r ai q ap hK x hB ab bK bG bv bL bz;intro aV al ag R af y aU aN aW bo bi bn bI bx bk aC;refine hd7 ?_ a0 aT aA aj p aw a3;clear a0 aT aA aj p aw a3;intro bH a8 b1 b4 cg bU ci;gi_wp2;rw [bo.o];refine qae ?_;refine qw rfl (fun X=>X.cell? ⟨Bjj,0,none⟩=some (qi J)/\X.cell? ⟨J,3,none⟩=some (.slice bh (qbe vars (ts.take k)).length bJ)/\X.cell? ⟨B,1,none⟩=some (.string tx)) [11] ?_;rw [bn.o];refine qy [0,1,2,3,4,5,6] ?_
     iterate 7
      refine tkR (v:=?_) rfl bx.o ?_ ?_;rotate_left
      ·rintro Wq ⟨x1,x2,x3⟩;go_simp
       try with_reducible rfl
      try simp only [qz]
     refine qm ?_;refine hoR 7 rfl fun K aS=>?_;gi_wp2;refine aS.o _ _ (fun _=>bk.o) ?_;refine hoR 8 rfl fun K aR=>?_;refine qck rfl (.tmp 50) (.tmp 53) 46 rfl rfl rfl bI.o ?_;gi_wp2;refine aR.o _ _ (fun _=>aC.o) ?_;refine hoR 9 rfl fun K aQ=>?_;gi_wp2;refine aQ.o _ _ (fun _=>aC.o) ?_;refine hoR 10 rfl fun K aP=>?_;gi_wp2;refine aP.o _ _ (fun _=>aC.o) ?_;refine hoR 11 rfl fun K aY=>?_;gi_wp2;rw [bH.o];refine aY.o _ _ (fun h=>absurd h wF) ?_;refine ql wD (qo ?_);clear aS aR aQ aP aY
     gi_wp2_with (gi_at_builtin;refine qck (v:=.slice a5 k c5) (u:=.slice (some ⟨Wf.heap.size,0,none⟩) 1 1) (v':=.slice (some ⟨g7,0,none⟩) (k+1) s) (w':=W7) rfl (.tmp 57) (.tmp 60) 88 rfl rfl rfl ag.o ?_)
     go_roundw
     case rel=>exact⟨k+1,_,wC,by go_num,R.o,y.o,af.o,a8.o⟩
     case measure=>simp [intOf];omega
  ·obtain rfl:k=ts.length:=by omega
   rw [zi]at hC ho;obtain⟨a5,c5,rfl⟩:=qj ho;clear bw;refine hd4 ?_ hC ho hK Y;clear hC ho hK Y;intro bV b5 aN an;gi_wp2;go_ret;exact⟨_,_,rfl,by rw [ay.o];exact b5.o,bV.o,aN.o.mono fun b hb h=>⟨by have:=ay.o;omega,h⟩,fun b hb=>(an.o b hb).imp id (fun h=>by rw [ay.o];exact h)⟩
end Go.Proofs
