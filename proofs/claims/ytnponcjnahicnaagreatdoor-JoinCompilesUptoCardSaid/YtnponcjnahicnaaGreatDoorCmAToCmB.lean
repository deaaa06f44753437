/- Parts of the proof. -/
import Derived.Test.YtnponcjnahicnaaGreatDoorEcBToEcE
set_option linter.unusedSimpArgs false
set_option linter.unusedVariables false
set_option maxRecDepth 100000
set_option maxHeartbeats 4000000
open Go.Proofs.Tryz(prog)
open List(idxOf_append length_cons length_singleton)
namespace Go.Proofs
open Go.RowKit Go.Ink Go.Flt R4 P16
attribute [local go_sem] Oper.semAt_some
def qa0 (vars:List ByteArray)(ts:List TermD):List ByteArray:=ts.foldl (fun vs t=>if t.var=true then q8 vs t.text else vs) vars
theorem qp3 (vars:List ByteArray)(ts:List TermD){k:Nat}{t:TermD}(h:ts[k]?=some t):qa0 vars (ts.take (k+1))=if t.var=true then q8 (qa0 vars (ts.take k)) t.text else qa0 vars (ts.take k):=by
 unfold qa0;rw [zh,h,yk]
 rfl
theorem qp4 {l:List ByteArray}{s x:ByteArray}:x∈q8 l s↔x∈l∨x=s:=by
 unfold q8;split
 ·rename_i h;constructor
  ·exact .inl
  ·rintro(h1 |h1)
   ·exact h1
   ·subst h1;exact h
 ·simp
theorem qua {l:List ByteArray}{s:ByteArray}(h:l.Nodup):(q8 l s).Nodup:=by
 unfold q8;split
 ·exact h
 ·rename_i hs;rw [xV];refine⟨h,wB,fun a d b c e=>?_⟩;rw [zl]at c;subst c;subst e;exact hs d
theorem qdl (ts:List TermD): ∀vars,(∀x,x∈vars->x∈qa0 vars ts)/\(∀x,x∈vars->(qa0 vars ts).idxOf x=vars.idxOf x)/\(vars.Nodup->(qa0 vars ts).Nodup)/\(∀t,t∈ts->t.var=true->t.text∈qa0 vars ts)/\(qa0 vars ts).length<=vars.length+ts.length:=by
 induction ts with
 |nil=>intro vars;exact⟨fun _ h=>h,fun _ _=>rfl,fun h=>h,fun t p=>(by cases p),zG _⟩
 |cons t ts ih=>
  intro vars;have e:qa0 vars (t::ts)=qa0 (if t.var=true then q8 vars t.text else vars) ts:=rfl;rw [e];obtain⟨f,g,i,j,l⟩:=ih (if t.var=true then q8 vars t.text else vars);by_cases k:t.var=true
  ·rw [zI k]at f g i j l⊢;have m: ∀x,x∈vars->x∈q8 vars t.text:=fun x d=>qp4.2 (.inl d);refine⟨fun x d=>f x (m x d),fun x d=>(g x (m x d)).trans (qso d _),fun h=>i (qua h),fun u c b=>?_,?_⟩
   ·rcases zt.1 c with rfl |c
    ·exact f _ (qp4.2 (.inr rfl))
    ·exact j u c b
   ·have:(q8 vars t.text).length<=vars.length+1:=by
     unfold q8;split
     ·omega
     ·rw [zR];exact zG _
    rw [length_cons];omega
  ·rw [zF k]at f g i j l⊢;refine⟨f,g,i,fun u c b=>?_,by rw [length_cons];omega⟩;rcases zt.1 c with rfl |c
   ·exact absurd b k
   ·exact j u c b
theorem qp5 {vars:List ByteArray}{ts:List TermD}{t:TermD}(h:qeo vars t):qat (qa0 vars ts) t=qat vars t:=by
 unfold qat;by_cases b:t.var=true
 ·rw [zI b,zI b,(qdl ts vars).2.1 _ (h b)]
 ·rw [zF b,zF b]
def qez (s:SlotD):List Value:= [.int .i64 s.place,.string s.text]
theorem qpk:qb2 prog 127 132 2 24:=qcl (z:=.agg #[.int .i64 0,.string ⟨#[]⟩]) wA wA rfl wC wC
theorem qyd:(prog.info? 132).map (fun i=>(i.zero,i.size,i.bytes))=some (some (.agg #[.int .i64 0,.string ⟨#[]⟩]),2,24):=wA
theorem qra (n:Nat)(h:n<=1073741824)(u:World):(Instr.makeSlice 127 (.int .i64 0) (.int .i64 (n:Int))).run prog u=
  .ok (.slice (some ⟨u.heap.size,0,none⟩) 0 n) (u.alloc (.cells (madeCells #[.int .i64 0,.string ⟨#[]⟩] (n*2)) 132)):=by
 obtain⟨i0,hi,b,c,d⟩:=info_parts qyd;have h:=run_make (P:=prog) u 127 132 i0 (.agg #[.int .i64 0,.string ⟨#[]⟩]) Tryz.underlying127 hi b .i64 .i64 (0:Int) (n:Int) xz xz (by rw [d];omega) xz
 simpa [c,Value.cells]using h
structure CmAt (w:World)(Bm M Bjj J:Nat)(c0 c1 c2:Value)(vv ca ct ch:Value)(vars:List ByteArray):Prop where
 bm:w.heap[Bm]?=some (.cells #[.map (some M)] 130 (0,0))
 nums:qou w M vars.zipIdx
 bj:w.heap[Bjj]?=some (.cells #[qj J] 35 (0,0))
 box:w.heap[J]?=some (.cells #[c0,c1,c2,vv,ca,ct,ch] 129 (0,0))
 own:w.ownsRow 0 9 1 vv vars.length (vars.map .string)
theorem CmAt.keep {w w':World}{Bm M Bjj J:Nat}{c d e vv f i g:Value}{vars:List ByteArray}{C:Nat->Prop}(h:CmAt w Bm M Bjj J c d e vv f i g vars)(hK:Keep C w w')(j:C Bm)(k:C M)(l:C Bjj)(m:C J)(p: ∀b,vv.ownBlock=some b->C b):CmAt w' Bm M Bjj J c d e vv f i g vars:=
 ⟨hK.heap h.bm j,h.nums.keep hK k,hK.heap h.bj l,hK.heap h.box m,qf h.own hK p⟩
theorem CmAt.all {w w':World}{Bm M Bjj J:Nat}{b c d vv e g f:Value}{vars:List ByteArray}(h:CmAt w Bm M Bjj J b c d vv e g f vars)(hK:wD w w'):CmAt w' Bm M Bjj J b c d vv e g f vars:=h.keep hK trivial trivial trivial trivial (fun _ _=>wE)
theorem CmAt.nodup {w:World}{Bm M Bjj J:Nat}{c d e vv f i g:Value}{vars:List ByteArray}(h:CmAt w Bm M Bjj J c d e vv f i g vars):vars.Nodup:=by
 obtain⟨_,_,_,_,b,_⟩:=h.nums;rw [qi8]at b;exact b
theorem CmAt.apart {w:World}{Bm M Bjj J:Nat}{l m p vv q s r:Value}{vars:List ByteArray}(h:CmAt w Bm M Bjj J l m p vv q s r vars):(Bm≠M/\Bjj≠M/\J≠M/\Bm≠J/\Bjj≠J)/\ ∀b,vv.ownBlock=some b->b≠Bm/\b≠M/\b≠Bjj/\b≠J:=by
 obtain⟨x,u,f,_⟩:=h.nums;have j:=h.bm;have k:=h.bj;have i:=h.box;have c: ∀{a b:Nat} {o o':Obj},w.heap[a]?=some o->w.heap[b]?=some o'->o≠o'->a≠b:=fun t g ho e=>by subst e;rw [t] at g;exact ho (yH g)
 refine⟨⟨c j f (by intro h;cases h),c k f (by intro h;cases h),c i f (by intro h;cases h),c j i (by intro h;injection h with _ h _;revert h;decide),c k i (by intro h;injection h with _ h _;revert h;decide)⟩,fun b g=>?_⟩;obtain⟨v,d⟩:=qao h.own g;exact⟨c d j (by intro h;injection h with _ h _;revert h;decide),c d f (by intro h;cases h),c d k (by intro h;injection h with _ h _;revert h;decide),c d i (by intro h;injection h with _ h _;revert h;decide)⟩
theorem CmAt.put {w:World}{Bm M Bjj J:Nat}{y z R U ct Y:Value}{a:Option Addr}{c:Nat}{vars:List ByteArray}(h:CmAt w Bm M Bjj J y z R (.slice a vars.length c) U ct Y vars){s:ByteArray}(hs:s.size<=1073741824)(hl:vars.length<=1073741824)(hm:s∉vars){B:Nat}(hB:w.heap[B]?=some (.cells #[.bool true,.string s] 77 (0,0))):
  ∃W5 Wd W6 g cap,(Instr.mapUpdate 130 (.map (some M)) (.string s) (.int .i64 (vars.length:Int))).run prog w=.ok () W5/\W5.drew=Wd/\
   (Builtin.append_ #[60,60] 60 #[.slice a vars.length c,.slice (some ⟨Wd.heap.size,0,none⟩) 1 1]).run prog (Wd.alloc (.cells #[.string s] 9))=.ok (.slice (some ⟨g,0,none⟩) (vars.length+1) cap) W6/\
   (∀X,X=Wd∨X=Wd.alloc (.cells #[.string s] 9)∨X=W6->X.cell? ⟨Bjj,0,none⟩=some (qj J)/\X.cell? ⟨J,3,none⟩=some (.slice a vars.length c)/\X.cell? ⟨B,1,none⟩=some (.string s))/\g<W6.heap.size/\
   CmAt (W6.setCell ⟨J,3,none⟩ (.slice (some ⟨g,0,none⟩) (vars.length+1) cap)) Bm M Bjj J y z R (.slice (some ⟨g,0,none⟩) (vars.length+1) cap) U ct Y (vars++ [s])/\
   Keep (fun b=>b≠J/\b≠M/\(Value.slice a vars.length c).ownBlock≠some b) w (W6.setCell ⟨J,3,none⟩ (.slice (some ⟨g,0,none⟩) (vars.length+1) cap))/\
   ((Value.slice a vars.length c).ownBlock=some g∨w.heap.size<=g)/\W6.heap[J]?=some (.cells #[y,z,R,.slice a vars.length c,U,ct,Y] 129 (0,0))/\w.heap.size<=W6.heap.size:=by
 obtain⟨⟨n1,n2,n3,n4,n5⟩,nv⟩:=h.apart;obtain⟨W5,v,q,an,aB⟩:=qh3 (P:=prog) Tryz.underlying130 qkd qke h.nums s (qkf hs) vars.length;rw [qvm hm]at q;unfold qsn at v;obtain⟨Wd,u⟩:=ex (W5.drew);have kd:wD W5 Wd:=by rw [←u];exact kDr
 have f:Keep (fun b=>b≠M) w Wd:=an.trans kd.mt;have x:=qf h.own f (fun b d=>(nv b d).2.1);obtain⟨es,cc,hM,_⟩:=id h.nums;have nB:B≠M:=fun e=>by subst e;rw [hM] at hB;cases hB
 have ao: ∀b,(Value.slice a vars.length c).ownBlock=some b->b≠B:=fun b d e=>by
  obtain⟨cs,l⟩:=qao h.own d;subst e;rw [hB]at l;injection l with l
  injection l with _ h2 _
  revert h2
  decide
 obtain⟨v',W6,hr,ak,r,g,cap,hv,p,ag⟩:=qdd (P:=prog) qgm 60 x [.string s] rfl (by simp [Value.oneCell']) xz (ya _);subst hv;have ai:(Value.slice a vars.length c).ownBlock=some g∨w.heap.size<=g:=p.imp id (fun h=>by have:=f.size;omega);have k: ∀b,(∀b',(Value.slice a vars.length c).ownBlock=some b'->b'≠b)->some b≠(Value.slice a vars.length c).ownBlock:=fun b d e=>d b e.symm rfl;have m:=f.heap h.bj n2;have i:=f.heap h.box n3;have Bd:=f.heap hB nB;have t:=r.heap m (k Bjj fun b d=>(nv b d).2.2.1);have j:=r.heap i (k J fun b d=>(nv b d).2.2.2);have B6:=r.heap Bd (k B fun b d=>ao b d);have ah:g≠J:=fun e=>by
  rcases p with h1 |h1
  ·exact(nv g h1).2.2.2 e
  ·have:=qe i;omega
 have aw:g≠M:=fun e=>by
  rcases p with h1 |h1
  ·exact(nv g h1).2.1 e
  ·have:=q.lt;have:=kd.size;omega
 have aj:=(q.keep kd wE).keep r (k M fun b d=>(nv b d).2.1);have hk:Keep (fun b=>b≠J) W6 (W6.setCell ⟨J,3,none⟩ (.slice (some ⟨g,0,none⟩) (vars.length+1) cap)):=kSc;have hS: ∀X:World,X.heap[Bjj]?=some (.cells #[qj J] 35 (0,0))->X.heap[J]?=some (.cells #[y,z,R,.slice a vars.length c,U,ct,Y] 129 (0,0))->X.heap[B]?=some (.cells #[.bool true,.string s] 77 (0,0))->
   X.cell? ⟨Bjj,0,none⟩=some (qj J)/\X.cell? ⟨J,3,none⟩=some (.slice a vars.length c)/\X.cell? ⟨B,1,none⟩=some (.string s):=fun X q1 q2 q3=>by
  have r1:=qb q1 0 _ rfl;have r2:=qb q2 3 _ rfl;have r3:=qb q3 1 _ rfl;simp only [zD]at r1 r2 r3;exact⟨r1,r2,r3⟩
 have ka:wD Wd (Wd.alloc (.cells #[.string s] 9)):=kAl;refine⟨W5,Wd,W6,g,cap,v,u,hr,?_,ag,⟨?_,?_,?_,?_,?_⟩,?_,ai,j,zW f.size r.size⟩
 ·rintro X (rfl |rfl |rfl)
  ·exact hS _ m i Bd
  ·exact hS _ (ka.heap m wE) (ka.heap i wE) (ka.heap Bd wE)
  ·exact hS _ t j B6
 ·exact hk.heap (r.heap (f.heap h.bm n1) (k Bm fun b d=>(nv b d).1)) n4
 ·exact aj.keep hk n3.symm
 ·exact hk.heap t n5
 ·have:=qz 3 (.slice (some ⟨g,0,none⟩) (vars.length+1) cap) j;exact this
 ·rw [zR,length_singleton,zm];exact qf ak hk (fun b d=>by simp only [Value.ownBlock] at d;cases d;exact ah)
 ·exact((f.mono fun b _ h=>h.2.1).trans (r.mono fun b _ h=>fun e=>h.2.2 e.symm)).trans (Keep.setCell _ _ _ (fun h=>h.1 rfl))
theorem qv8 {vars:List ByteArray}{ts:List TermD}{k:Nat}{t:TermD}(h:ts[k]?=some t):((ts.take (k+1)).map (qat (qa0 vars (ts.take (k+1))))).flatMap qez=((ts.take k).map (qat (qa0 vars (ts.take k)))).flatMap qez++qez (qat (qa0 vars (ts.take (k+1))) t):=by
 have c:(ts.take k).map (qat (qa0 vars (ts.take (k+1))))=(ts.take k).map (qat (qa0 vars (ts.take k))):=yz fun u d=>by
  have b:qeo (qa0 vars (ts.take k)) u:=fun f=>(qdl (ts.take k) vars).2.2.2.1 u d f;have e:qa0 vars (ts.take (k+1))=qa0 (qa0 vars (ts.take k)) [t]:=by
   rw [qp3 vars ts h];rfl
  rw [e];exact qp5 b
 rw [←c,zh,h,zm,yF];simp
theorem qjn {w:World}{Bm M Bjj J:Nat}{c0 c1 c2 ca ct ch:Value}{a:Option Addr}{c:Nat}{vars:List ByteArray}(h:CmAt w Bm M Bjj J c0 c1 c2 (.slice a vars.length c) ca ct ch vars){m:Nat}{v:Value}{ts:List TermD}(a3:qad m w v ts)(hm:m<=w.heap.size)
  (aA: ∀a' n' c',v=.slice (some a') n' c'->0<ts.length->a'.block≠J/\a'.block≠M/\(Value.slice a vars.length c).ownBlock≠some a'.block) (bJ: ∀t,t∈ts->t.text.size<=1073741824) (hl:vars.length+ts.length<=1073741824):
  Calls prog 60 #[v,qj Bm,qj Bjj] w fun e w'=> ∃vo vv',e=.returned vo/\w'.ownsRow w.heap.size 132 2 vo ts.length ((ts.map (qat (qa0 vars ts))).flatMap qez)/\CmAt w' Bm M Bjj J c0 c1 c2 vv' ca ct ch (qa0 vars ts)/\
   Keep (fun b=>b≠J/\b≠M/\(Value.slice a vars.length c).ownBlock≠some b) w w'/\(∀b,vv'.ownBlock=some b->(Value.slice a vars.length c).ownBlock=some b∨w.heap.size<=b):=by
 obtain⟨av,cv,rfl,b1,cc,bF⟩:=id a3;obtain⟨N,hN⟩:=ex (w.heap.size);have b2:=fun u=>qra ts.length b1 u;have l1:=qe h.bm;have l2:=h.nums.lt;have l3:=qe h.bj;have l4:=qe h.box;rw [hN]at l1 l2 l3 l4;obtain⟨W0,aI⟩:=ex (w.alloc (.cells (madeCells #[.int .i64 0,.string ⟨#[]⟩] (ts.length*2)) 132));have k0:wD w W0:=by rw [←aI];exact kAl
 have o0:W0.ownsRow N 132 2 (.slice (some ⟨N,0,none⟩) 0 ts.length) 0 []:=by
  rw [←aI,←hN];exact xe w _ ts.length (zG _) (by simp only [maxLen];omega) (by simp [madeCells])
 refine qc9 ?_ h a3 hm aA bJ bF hN aI k0 o0;clear h a3 hm aA bJ bF hN aI k0 o0;intro Xh b7 bV aG br bo au bk bt b0;refine qbl Tryz.func60 rfl ?_;simp only [Tryz.ntmps60,qdm,Nat.reduceAdd,Nat.reduceSub];gi_wp2;rw [bk.o,au.o];clear b2;gi_wp2;gi_loopw [5,15] (fun x5 i' X=> ∃(k:Nat) (vv':Value),k<=ts.length/\i'=.int .i64 (k:Int)/\CmAt X Bm M Bjj J c0 c1 c2 vv' ca ct ch (qa0 vars (ts.take k))/\X.ownsRow N 132 2 x5 k (((ts.take k).map (qat (qa0 vars (ts.take k)))).flatMap qez)/\
  Keep (fun b=>b<N/\b≠J/\b≠M/\(Value.slice a vars.length c).ownBlock≠some b) w X/\(∀b,vv'.ownBlock=some b->(Value.slice a vars.length c).ownBlock=some b∨N<=b)) (fun _ i _=>ts.length-(intOf i).toNat)
 case atStart=>exact⟨0,_,xz,rfl,Xh.o.all bt.o,b0.o,bt.o.mt,fun b hb=>.inl hb⟩
 case round=>
  obtain⟨k,vv',hk,rfl,hC,ho,hK,aa⟩:=hrel;have cx:N<=wr.heap.size:=by have:=hK.size;have:=au.o;omega
  by_cases bG:k<ts.length
  ·have cd:(k:Int)<ts.length:=by omega
   have cr:(0:Int)<=k:=xz
   obtain⟨t,ht⟩: ∃t,ts[k]?=some t:=⟨_,zB bG⟩;have g:=qp3 vars ts ht;have d:=qv8 (vars:=vars) ht;obtain⟨zb,zo,rfl,cw,aK,aL⟩:=bo.o k t ht;have r:=aG.o _ _ _ rfl xz;have bK:zb<N:=by have:=bV.o;have:=au.o;omega
   have d0:=hK.cell aK ⟨bK,r.1,r.2.1,r.2.2⟩;have d1:=hK.cell aL ⟨bK,r.1,r.2.1,r.2.2⟩;have cy:zb<wr.heap.size:=xz
   have a4:=br.o t (zH ht);obtain⟨a5,c5,rfl⟩:=qi ho;obtain⟨vr,tx⟩:=t;simp only at d0 d1 a4;cases vr with
   |false=>
    simp only [zy,yx]at g;have Y:qat (qa0 vars (ts.take (k+1))) ⟨false,tx⟩=⟨-1,tx⟩:=rfl;rw [Y]at d;obtain⟨W1,j⟩:=ex (wr.alloc (.cells #[.bool false,.string tx] 77));have k1:wD wr W1:=by rw [←j];exact kAl
    have z1:W1.heap.size=wr.heap.size+1:=by rw [←j];simp
    have ar:(qa0 vars (ts.take k)).length<=1073741824:=by have:=(qdl (ts.take k) vars).2.2.2.2;rw [yB] at this;omega
    have f:=qf ho k1 (fun _ _=>wE);have y:=hC.all k1;obtain⟨v',W7,z,an,k7,g7,l,aC,al,ak⟩:=qdd (P:=prog) qpk 127 f [.int .i64 (-1),.string tx] rfl (by simp [Value.oneCell']) xz (by have:=(hK.trans k1.mt).size;omega);subst aC;have p:CmAt W7 Bm M Bjj J c0 c1 c2 vv' ca ct ch (qa0 vars (ts.take (k+1))):=by
     rw [g];exact y.keep k7 (fun e=>by have:=(zE f _ e.symm).1;omega) (fun e=>by have:=(zE f _ e.symm).1;omega) (fun e=>by have:=(zE f _ e.symm).1;omega) (fun e=>by have:=(zE f _ e.symm).1;omega) (fun b hb e=>qdg y.own f wC hb e.symm)
    have ai:Keep (fun b=>b<N/\b≠J/\b≠M/\(Value.slice a vars.length c).ownBlock≠some b) w W7:=(hK.trans k1.mt).trans (k7.mono fun b _ (h:b<N/\_) e=>by have:=(zE f b e.symm).1;omega);have q:W7.ownsRow N 132 2 (.slice (some ⟨g7,0,none⟩) (k+1) l) (k+1) (((ts.take (k+1)).map (qat (qa0 vars (ts.take (k+1))))).flatMap qez):=by
     rw [d];exact an
    rw [z1,←j]at z;clear f y k7 al an hC ho aK aL ht k1 j z1;refine qc9 ?_ g d z p ai q ak aa hK r;clear g d z p ai q ak aa hK r;intro aT af ae s ad x aS ag aF aR
    gi_wp2_with (gi_at_builtin;refine qby (v:=.slice a5 k c5) (u:=.slice (some ⟨wr.heap.size+1,0,none⟩) 1 1) (v':=.slice (some ⟨g7,0,none⟩) (k+1) l) (w':=W7) rfl (.tmp 22) (.tmp 26) 127 rfl rfl rfl ae.o ?_)
    go_roundw
    case rel=>exact⟨k+1,vv',xz,by go_num,s.o,x.o,ad.o,ag.o⟩
    case measure=>simp [intOf];omega
   |true=>
    simp only [yg]at g;obtain⟨W1,j⟩:=ex (wr.alloc (.cells #[.bool true,.string tx] 77));obtain⟨B,hB⟩:=ex (wr.heap.size);have k1:wD wr W1:=by rw [←j];exact kAl
    have z1:W1.heap.size=B+1:=by rw [←j,←hB];simp
    have nb:W1.heap[B]?=some (.cells #[.bool true,.string tx] 77 (0,0)):=by rw [←j,←hB];exact qh _ _
    have R:=hC.all k1;have az:=hK.trans k1.mt;have ap:=qf ho k1 (fun _ _=>wE);have U:=qdn (P:=prog) Tryz.underlying130 qkd qke qnu R.nums tx (qkf a4) true;rw [qnv R.nodup tx]at U;have e1:=qb hC.bm 0 _ rfl;have e2:=qb hC.bj 0 _ rfl;have e3:=qb hC.box 3 _ rfl;have e4:Bm<wr.heap.size:=qe hC.bm;have e5:Bjj<wr.heap.size:=qe hC.bj;have e6:J<wr.heap.size:=qe hC.box;obtain⟨bu,bv,rfl⟩:=qi hC.own;simp only [zD]at e1 e2 e3;by_cases am:tx∈qa0 vars (ts.take k)
    ·rw [zI am]at U;simp only [yg]at U;rw [show q8 (qa0 vars (ts.take k)) tx=qa0 vars (ts.take k) from zI am]at g;have Y:qat (qa0 vars (ts.take (k+1))) ⟨true,tx⟩=⟨((qa0 vars (ts.take k)).idxOf tx:Nat),⟨#[]⟩⟩:=by rw [g];rfl
     rw [Y]at d;obtain⟨ix,a1⟩:=ex ((qa0 vars (ts.take k)).idxOf tx);rw [a1]at d U;unfold qsn at U;have ar:(qa0 vars (ts.take k)).length<=1073741824:=by have:=(qdl (ts.take k) vars).2.2.2.2;rw [yB] at this;omega
     have f:=ap;have y:=R;obtain⟨v',W7,z,an,k7,g7,l,aC,al,ak⟩:=qdd (P:=prog) qpk 127 f [.int .i64 (ix:Int),.string ⟨#[]⟩] rfl (by simp [Value.oneCell']) xz (by have:=(az).size;omega);subst aC;have p:CmAt W7 Bm M Bjj J c0 c1 c2 (.slice bu (qa0 vars (ts.take k)).length bv) ca ct ch (qa0 vars (ts.take (k+1))):=by
      rw [g];exact y.keep k7 (fun e=>by have:=(zE f _ e.symm).1;omega) (fun e=>by have:=(zE f _ e.symm).1;omega) (fun e=>by have:=(zE f _ e.symm).1;omega) (fun e=>by have:=(zE f _ e.symm).1;omega) (fun b hb e=>qdg y.own f wC hb e.symm)
     have ai:Keep (fun b=>b<N/\b≠J/\b≠M/\(Value.slice a vars.length c).ownBlock≠some b) w W7:=(az).trans (k7.mono fun b _ (h:b<N/\_) e=>by have:=(zE f b e.symm).1;omega);have q:W7.ownsRow N 132 2 (.slice (some ⟨g7,0,none⟩) (k+1) l) (k+1) (((ts.take (k+1)).map (qat (qa0 vars (ts.take (k+1))))).flatMap qez):=by
      rw [d];exact an
     rw [z1,←hB,←j]at z;rw [←j]at U;clear f y k7 al an hC ho aK aL ht k1 j z1 am R az ap nb e2 e3;refine qsd ?_ g d z p ai q ak aa hK r a1 hB Y;clear g d z p ai q ak aa hK r a1 hB Y;intro aT af ae s ad x aS ag aF aR b6 bg bq
     gi_wp2_with (gi_at_builtin;refine qby (v:=.slice a5 k c5) (u:=.slice (some ⟨wr.heap.size+1,0,none⟩) 1 1) (v':=.slice (some ⟨g7,0,none⟩) (k+1) l) (w':=W7) rfl (.tmp 57) (.tmp 60) 127 rfl rfl rfl ae.o ?_)
     go_roundw
     case rel=>exact⟨k+1,_,xz,by go_num,s.o,x.o,ad.o,ag.o⟩
     case measure=>simp [intOf];omega
    ·rw [zF am]at U;simp only [yg]at U;rw [show q8 (qa0 vars (ts.take k)) tx=qa0 vars (ts.take k)++ [tx]from zF am]at g;have Y:qat (qa0 vars (ts.take (k+1))) ⟨true,tx⟩=⟨((qa0 vars (ts.take k)).length:Nat),⟨#[]⟩⟩:=by
      rw [g];unfold qat;rw [zI rfl,idxOf_append,zF am];simp
     rw [Y]at d;have a6:(qa0 vars (ts.take k)).length<=1073741824:=by have:=(qdl (ts.take k) vars).2.2.2.2;rw [yB] at this;omega
     obtain⟨W5,Wd,W6,g6,ay,b3,bD,bI,aH,cq,aY,aw,aB,ah,cu⟩:=R.put a4 a6 am nb;obtain⟨Wf,a0⟩:=ex (W6.setCell ⟨J,3,none⟩ (.slice (some ⟨g6,0,none⟩) ((qa0 vars (ts.take k)).length+1) ay));rw [a0]at aY aw;have aW: ∀b,(Value.slice (some ⟨g6,0,none⟩) ((qa0 vars (ts.take k)).length+1) ay).ownBlock=some b->(Value.slice a vars.length c).ownBlock=some b∨N<=b:=fun b hb=>by
      simp only [Value.ownBlock]at hb;cases hb;rcases aB with h1 |h1
      ·exact aa g6 h1
      ·exact .inr xz
     have aZ:Keep (fun b=>b<N/\b≠J/\b≠M/\(Value.slice a vars.length c).ownBlock≠some b) w Wf:=az.trans (aw.mono fun b _ h=>⟨h.2.1,h.2.2.1,fun e=>by
      rcases aa b e with h1 |h1
      ·exact h.2.2.2 h1
      ·omega⟩)
     have bH:=qf ap aw (fun b hb=>⟨fun e=>by have:=(zE ap b hb).1;omega,fun e=>by have:=(zE ap b hb).1;omega,fun e=>qdg R.own ap wC e hb⟩);have zf:wr.heap.size+1<=Wf.heap.size:=by rw [hB];have:=aw.size;omega
     have b4:Wf.heap[B]?=some (.cells #[.bool true,.string tx] 77 (0,0)):=aw.heap nb ⟨xz,fun e=>by have:=R.nums.lt;omega,fun e=>by
      obtain⟨cs,aJ⟩:=qao R.own e;rw [nb]at aJ;injection aJ with aJ
      injection aJ with _ h2 _
      revert h2
      decide⟩
     have fJ:=qg ah 3;have cJ:=qb ah 3 _ rfl;have cF:=qe ah;simp only [zD]at cJ;have bw:=aH Wd (.inl rfl);have bx:=aH _ (.inr (.inl rfl));have bz:=aH _ (.inr (.inr rfl));have ar:(qa0 vars (ts.take k)).length<=1073741824:=by have:=(qdl (ts.take k) vars).2.2.2.2;rw [yB] at this;omega
     have f:=bH;have y:=aY;obtain⟨v',W7,z,an,k7,g7,l,aC,al,ak⟩:=qdd (P:=prog) qpk 127 f [.int .i64 ((qa0 vars (ts.take k)).length:Int),.string ⟨#[]⟩] rfl (by simp [Value.oneCell']) xz (by have:=(aZ).size;omega);subst aC;have p:CmAt W7 Bm M Bjj J c0 c1 c2 (.slice (some ⟨g6,0,none⟩) ((qa0 vars (ts.take k)).length+1) ay) ca ct ch (qa0 vars (ts.take (k+1))):=by
      rw [g];exact y.keep k7 (fun e=>by have:=(zE f _ e.symm).1;omega) (fun e=>by have:=(zE f _ e.symm).1;omega) (fun e=>by have:=(zE f _ e.symm).1;omega) (fun e=>by have:=(zE f _ e.symm).1;omega) (fun b hb e=>qdg y.own f wC hb e.symm)
     have ai:Keep (fun b=>b<N/\b≠J/\b≠M/\(Value.slice a vars.length c).ownBlock≠some b) w W7:=(aZ).trans (k7.mono fun b _ (h:b<N/\_) e=>by have:=(zE f b e.symm).1;omega);have q:W7.ownsRow N 132 2 (.slice (some ⟨g7,0,none⟩) (k+1) l) (k+1) (((ts.take (k+1)).map (qat (qa0 vars (ts.take (k+1))))).flatMap qez):=by
      rw [d];exact an
     rw [←j]at U b3;clear f y k7 al an hC ho aK aL ht k1 z1 am R az ap nb bH aZ aY aw aa b4 aH;refine qde ?_ g d z p ai q ak hK r hB Y bD bI bw bx bz;clear g d z p ai q ak hK r hB Y bD bI bw bx bz;intro aT af ae s ad x aS aF aR bg bq bl bp bh bi ax;refine hd7 ?_ a0 aW aB ah j ar a6;clear a0 aW aB ah j ar a6;intro bn aX bS bQ b5 bU b8;gi_wp2;rw [bg.o];refine qag ?_;refine qw rfl (fun X=>X.cell? ⟨Bjj,0,none⟩=some (qj J)/\X.cell? ⟨J,3,none⟩=some (.slice bu (qa0 vars (ts.take k)).length bv)/\X.cell? ⟨B,1,none⟩=some (.string tx)) [11] ?_;rw [bl.o];refine qab [0,1,2,3,4,5,6] ?_
     iterate 7
      refine tkB rfl bh.o ?_
      try simp only [qac]
     refine qk ?_;refine hoR 7 rfl fun K aM=>?_;gi_wp2;refine aM.o _ _ (fun _=>bi.o) ?_;refine hoR 8 rfl fun K aN=>?_;refine qby rfl (.tmp 50) (.tmp 53) 60 rfl rfl rfl bp.o ?_;gi_wp2;refine aN.o _ _ (fun _=>ax.o) ?_;refine hoR 9 rfl fun K aO=>?_;gi_wp2;refine aO.o _ _ (fun _=>ax.o) ?_;refine hoR 10 rfl fun K aP=>?_;gi_wp2;refine aP.o _ _ (fun _=>ax.o) ?_;refine hoR 11 rfl fun K aQ=>?_;gi_wp2;rw [bn.o];refine aQ.o _ _ (fun h=>absurd h wC) ?_;refine qx wA (qai ?_);clear aM aN aO aP aQ
     gi_wp2_with (gi_at_builtin;refine qby (v:=.slice a5 k c5) (u:=.slice (some ⟨Wf.heap.size,0,none⟩) 1 1) (v':=.slice (some ⟨g7,0,none⟩) (k+1) l) (w':=W7) rfl (.tmp 57) (.tmp 60) 127 rfl rfl rfl ae.o ?_)
     go_roundw
     case rel=>exact⟨k+1,_,xz,by go_num,s.o,x.o,ad.o,aX.o⟩
     case measure=>simp [intOf];omega
  ·obtain rfl:k=ts.length:=by omega
   rw [zi]at hC ho;obtain⟨a5,c5,rfl⟩:=qi ho;clear bG;refine hd4 ?_ hC ho hK aa;clear hC ho hK aa;intro bR bW aF ag;gi_wp2;go_ret;exact⟨_,_,rfl,by rw [au.o];exact bW.o,bR.o,aF.o.mono fun b hb h=>⟨by have:=au.o;omega,h⟩,fun b hb=>(ag.o b hb).imp id (fun h=>by rw [au.o];exact h)⟩
end Go.Proofs
