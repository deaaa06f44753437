/- Parts of the proof. -/
import Derived.Test.YtnponcjnahicnaaGreatTbBToStD
set_option linter.unusedSimpArgs false
set_option linter.unusedVariables false
set_option maxRecDepth 100000
set_option maxHeartbeats 2000000
open Go.Proofs.Tryz(prog)
open List(all_eq_false append_toArray cons_append eq_nil_iff_forall_not_mem filter_congr filter_eq_nil_iff filter_nil find?_some getElem?_cons_zero getElem_idxOf length_cons length_nil length_singleton nil_append pairwise_iff_getElem push_toArray size_toArray take_append)
namespace Go.Proofs
open Go.RowKit Go.Ink R4 Go.MuLone
attribute [local go_sem] Oper.semAt_some
theorem qje {C:Nat->Prop}{w W:World}{S t:Nat}{c:List Value}{b:Nat×Nat}(h:w.heap[S]?=some (.cells (.int .i32 0::c).toArray t b))(hK:Keep C (w.setCell ⟨S,0,none⟩ (.int .i32 1)) W):Keep C w (W.setCell ⟨S,0,none⟩ (.int .i32 0)):=by
 have:=Keep.set_both hK S 0 (.int .i32 0);rw [q77 h]at this;exact this
theorem qft {κ ν:Type}[DecidableEq κ]{m:List (κ×ν)}{k:κ}{v:ν}(h:qdj m k=some v):(k,v)∈m:=by
 unfold qdj at h;rw [xQ]at h;obtain⟨p,d,rfl⟩:=h;have c:p.1=k:=by simpa using find?_some d
 have e:=xd d;obtain⟨a,b⟩:=p;simp only at c;subst c;exact e
theorem qs7 {κ ν:Type}[DecidableEq κ]{m:List (κ×ν)}{k:κ}(h:qdj m k=none): ∀v,(k,v)∉m:=fun v b=>by
 unfold qdj at h;rw [Option.map_eq_none_iff,yp]at h;exact h (k,v) b (zS rfl)
theorem qmi: ∀w:World,(zeroValue 123).run prog w=.ok (.pointer none) w:=fun w=>wD
theorem qmj {tag:qdk}{w:World}{S:Nat}{c:List qk}{T M MX:Nat}{q:Value}{xs:List ByteArray}{d:List ((ByteArray×Nat)×Nat)}(h:StParts tag w S c T M MX q xs d){p:ByteArray}{n:Nat}(g:qdj d (p,n)=none):qv c p n= []:=by
 refine eq_nil_iff_forall_not_mem.2 fun t e=>?_;obtain⟨l,m⟩:=qco.1 e;obtain⟨R,b⟩:=h.all _ l;simp only [m]at b;exact qs7 g R b
theorem qit {w:World}{S T M n:Nat}(h:w.heap[S]?=some (.cells (qe9 T M n).toArray 120 (0,0))):Calls prog 50 #[qi S] w fun e w'=>e=.returned (.bool false)/\w'=w:=by
 have b:=qb h 2 _ rfl;have c:=qe h;simp only [zD]at b;clear h
 go_enter Tryz.func50,Tryz.ntmps50
 go_wp2;go_ret;exact⟨rfl,rfl⟩
theorem qrf (w:World):Calls prog 50 #[.pointer none] w fun e w'=>e=.returned (.bool true)/\w'=w:=by
 go_enter Tryz.func50,Tryz.ntmps50
 go_wp2;go_ret;exact⟨rfl,rfl⟩
theorem q0r (k:ByteArray×Nat)(w:World):Calls prog 119 #[.pointer none,qem k] w fun e w'=>e=.returned (.int .i64 0)/\wG w w':=by
 unfold qem
 go_enter_defers Tryz.func119,Tryz.ntmps119
 go_wp2_with fail;refine(qrf _).mono ?_;rintro e c ⟨rfl,b⟩;have b:=b.symm;subst b;go_wp2_with fail;exact⟨_,xo rfl _ _ _,rfl,kAl⟩
theorem q0s {tag:qdk}{w:World}{S:Nat}{c:List qk}(h:StoreAt tag w S c)(p:ByteArray)(n:Nat)(hp:p.size<=1073741824)(hn:n<=1073741824):
  Calls prog 119 #[qi S,qem (p,n)] w fun e w'=>e=.returned (.int .i64 ((qv c p n).length:Int))/\wG w w':=by
 obtain⟨T,M,MX,vx,xs,rl,hP⟩:=h;obtain⟨W0,u⟩:=ex (w.alloc (.cells #[.string p,.int .i64 (n:Int)] 122));have k0:wG w W0:=by rw [←u];exact kAl
 have z0:W0.heap.size=w.heap.size+1:=by rw [←u];simp
 have q0:W0.heap[w.heap.size]?=some (.cells #[.string p,.int .i64 (n:Int)] 122 (0,0)):=by rw [←u];exact qh _ _
 have d:=hP.keep (tag':=tag) k0 (fun _ _ _=>wH) (fun _ _=>Iff.rfl);have a0:=qb d.box 0 _ rfl;have f0:=qg d.box 0;have ax:=qe d.box;have aD:=qe hP.box;obtain⟨W1,y⟩:=ex (W0.setCell ⟨S,0,none⟩ (.int .i32 1));have k1:Keep (fun b=>b≠S) W0 W1:=by rw [←y];exact kSc
 have q:=qag 0 (.int .i32 1) d.box;rw [y]at q;have a3:=qb q 4 _ rfl;have a1:=qb q 0 _ rfl;have f1:=qg q 0;have aG:=qe q;have q1:=k1.heap q0 wC;have b0:=qb q1 0 _ rfl;have b1:=qb q1 1 _ rfl;have aH:=qe q1;have Y:M≠S:=fun e=>by have:=d.tagM;rw [e,d.tagS] at this;cases this
 have hrel:=d.rels.keep k1 Y;have X:=fun m=>qef (P:=prog) Tryz.underlying116 qkk qjf qmi (hrel.keep (Keep.drewN' (fun _=>True) W1 m) wH) (p,n) (qkl hp hn) false;have s:=qit d.box;have x: ∀m,wG w ((W1.drewN m).setCell ⟨S,0,none⟩ (.int .i32 0)):=fun m=>k0.trans (qje d.box (by rw [y];exact Keep.drewN' _ _ _));have l:=lock_free qhs ⟨S,0,none⟩ W0 (by simpa using a0) f0;rw [y]at l;simp only [zD]at a0 a1 a3 b0 b1;unfold qem at X⊢;cases hl:qdj rl (p,n) with
 |none=>
  simp only [hl,zz,xA]at X;have hk:=qmj hP hl;rw [hk];clear hl hrel Y q y q0 q1 k1 hP k0;refine hd6 ?_ d s l u hk x;clear d s l u hk x;intro ag t r z az v
  go_enter_defers Tryz.func119,Tryz.ntmps119
  go_wp2_with fail;rw [z.o];refine t.o.mono ?_;rintro e w9 ⟨rfl,g⟩;have g:=g.symm;subst g;go_wp2_with fail;refine r.o.mono ?_;rintro e w9 ⟨rfl,g⟩;have g:=g.symm;subst g;go_wp2_with fail
  go_quiet (first |(go_at_call 144;exact Calls.quiet_of_same (qzq _)))
  go_wp2_with fail;refine leaves_cons (f:=55) (args:= #[.pointer (some ⟨S,0,none⟩)]) wE (by simp [go_sem]) ?_;refine(unlock_deferred qhs ⟨S,0,none⟩ .returning _ (by simpa using a1) (by simpa using f1)).mono ?_;rintro e u' ap ⟨rfl,rfl,rfl⟩;exact⟨_,xo rfl _ _ _,rfl,v.o _⟩
 |some R=>
  simp only [hl,zz,xA]at X;obtain⟨vD,P,K,lm,hR⟩:=d.rel _ _ (qft hl);have ae:R≠S:=fun e=>by have:=d.rel_at (qft hl);rw [e,d.tagS] at this;cases this
  have ah:=k1.heap hR.box ae;have U:((qv c p n).map (qx xs)).length=(qv c p n).length:=zL _;have ab: ∀m,Calls prog 144 #[.pointer (some ⟨R,0,none⟩)] (W1.drewN m) fun e w'=>e=.returned (.int .i64 ((qv c p n).length:Int))/\w'=W1.drewN m:=fun m=>by
   have:=qzr ((Keep.drewN' (fun _=>True) W1 m).heap ah wH);rw [U]at this;exact this
  clear hl hrel Y q y q0 q1 k1 hP k0 hR ae ah U;refine hd6 ?_ d s l u x ab;clear d s l u x ab;intro ag t r z v aj
  go_enter_defers Tryz.func119,Tryz.ntmps119
  go_wp2_with fail;rw [z.o];refine t.o.mono ?_;rintro e w9 ⟨rfl,g⟩;have g:=g.symm;subst g;go_wp2_with fail;refine r.o.mono ?_;rintro e w9 ⟨rfl,g⟩;have g:=g.symm;subst g;go_wp2_with fail
  go_quiet (first |(go_at_call 144;exact Calls.quiet_of_same (aj.o _)))
  go_wp2_with fail;refine leaves_cons (f:=55) (args:= #[.pointer (some ⟨S,0,none⟩)]) wE (by simp [go_sem]) ?_;refine(unlock_deferred qhs ⟨S,0,none⟩ .returning _ (by simpa using a1) (by simpa using f1)).mono ?_;rintro e u' ap ⟨rfl,rfl,rfl⟩;exact⟨_,xo rfl _ _ _,rfl,v.o _⟩
theorem qlo:qcj prog 86 3 1 8:=qc2 (z:=.int .i64 0) wD wD rfl wF wF
theorem qtk (n:Nat)(h:n<=1073741824)(u:World):(Instr.makeSlice 86 (.int .i64 0) (.int .i64 (n:Int))).run prog u=
  .ok (.slice (some ⟨u.heap.size,0,none⟩) 0 n) (u.alloc (.cells (Array.replicate n (Value.int .i64 0)) 3)):=by
 obtain⟨e,hi,c,d,b⟩:=info_parts qwd;have h:=run_make (P:=prog) u 86 3 e (.int .i64 0) Tryz.underlying86 hi c .i64 .i64 (0:Int) (n:Int) wC wC (by rw [b];omega) wC
 simpa [d,Value.cells,qta]using h
theorem q3w {xs t:List ByteArray}{k:Nat}{s:ByteArray}(h:t[k]?=some s):qx xs (t.take (k+1))=qx xs (t.take k)++ [((xs.idxOf s:Nat):Int)]:=by
 unfold qx;rw [zh,h,zn]
 rfl
theorem qdu (xs t:List ByteArray):(qx xs t).length=t.length:=zL _
theorem qmt {w:World}{S T MX:Nat}{vx:Value}{xs:List ByteArray}(hc:w.cell? ⟨S,3,none⟩=some (qi T))(h:TabAt w T MX vx xs)(m:Nat)(v:Value)(t:List ByteArray)(ht:qac m w v t)(X:m<=w.heap.size)(ao: ∀s,s∈t->s.size<=1073741824):
  Calls prog 106 #[qi S,v] w fun e w'=> ∃vo,e=.returned (.tuple #[vo,.bool (t.all fun s=>decide (s∈xs))])/\
   ((t.all fun s=>decide (s∈xs))=true->w'.ownsRow w.heap.size 3 1 vo t.length ((qx xs t).map (.int .i64)))/\((t.all fun s=>decide (s∈xs))=false->vo=.slice none 0 0)/\wG w w':=by
 obtain⟨a,c,rfl,aE,aX,aw⟩:=id ht;have aC:=zQ _ _ hc;simp only at aC;obtain⟨B,hB⟩:=ex (w.heap.size);obtain⟨W0,z⟩:=ex (w.alloc (.cells (Array.replicate t.length (Value.int .i64 0)) 3));have k0:wG w W0:=by rw [←z];exact kAl
 have z0:W0.heap.size=w.heap.size+1:=by rw [←z];simp
 have q0:W0.ownsRow w.heap.size 3 1 (.slice (some ⟨w.heap.size,0,none⟩) 0 t.length) 0 []:=by
  rw [←z];exact xg w _ t.length (zG _) (by simp only [maxLen];omega) wE
 have aI:=fun u=>qtk t.length aE u;rw [hB]at q0 z0;clear ht;refine hd8 ?_ aw k0 q0 z hB h ao hc;clear aw k0 q0 z hB h ao hc;intro al aD aF ah d Xh an aJ
 go_enter Tryz.func106,Tryz.ntmps106
 go_wp2_with fail;rw [ah.o,d.o];clear aI
 go_loopw [6,16] (fun x6 i' wr=> ∃k:Nat,k<=t.length/\i'=.int .i64 (k:Int)/\(∀s,s∈t.take k->s∈xs)/\wr.ownsRow B 3 1 x6 k ((qx xs (t.take k)).map (.int .i64))/\Keep (fun b=>b<B) w wr) (fun _ i _=>t.length-(intOf i).toNat)
 case atStart=>exact⟨0,wC,rfl,wE,aF.o,aD.o.mt⟩
 case round=>
  obtain⟨k,hk,rfl,q,ho,hK⟩:=hrel;have a1:=hK.size;have a8:wr.cell? ⟨S,3,none⟩=some (qi T):=hK.cell aJ.o (by have:=d.o;simp only;omega);have a5:S<wr.heap.size:=by have:=d.o;omega
  by_cases ak:k<t.length
  ·have aP:(k:Int)<t.length:=by omega
   have aV:(0:Int)<=k:=wC
   obtain⟨s,hs⟩: ∃s,t[k]?=some s:=⟨_,zB ak⟩;obtain⟨b,o,rfl,a3,R⟩:=al.o k s hs;unfold qgr at R;simp only [yB]at R;have a4:=hK.cell R (by have:=d.o;simp only;omega);have aY:b<wr.heap.size:=by have:=d.o;omega
   have hT:TabAt wr T MX vx xs:=Xh.o.keep hK (by have:=qe Xh.o.tab;have:=d.o;omega) (by have:=Xh.o.nums.lt;have:=d.o;omega) (fun b hb=>by have:=(zE Xh.o.own b hb).2;have:=d.o;omega);have y:=qwx hT s (an.o s (zH hs));have ap:=q3w (xs:=xs) hs;have ae:t.take (k+1)=t.take k++ [s]:=by rw [zh,hs];rfl
   obtain⟨a6,c6,rfl⟩:=qj ho;by_cases X:s∈xs
   ·rw [zI X,zS X]at y;obtain⟨v',W6,hr,au,k6,g,cap,hv,aq,aj⟩:=qc8 (P:=prog) qlo 86 ho [.int .i64 ((xs.idxOf s:Nat):Int)] rfl (by simp [Value.oneCell']) wC (by have:=d.o;omega);subst hv;have ab: ∀x,x∈t.take (k+1)->x∈xs:=fun x hx=>by
     rw [ae,zr,zm]at hx;rcases hx with hx |rfl
     ·exact q x hx
     ·exact X
    have ag:Keep (fun b=>b<B) w W6:=hK.trans (k6.mono fun b _ (hb:b<B) e=>by have:=(zE ho b e.symm).1;omega);clear R hs X ae hT k6;refine qhu ?_ y ho hK ab ag hr au ap aj aq q;clear y ho hK ab ag hr au ap aj aq q;intro U af Y ad ar aA am ai aU aM av;go_wp2_with (first |(at_builtin;refine qbu (v:=.slice a6 k c6) (u:=.slice (some ⟨wr.heap.size,0,none⟩) 1 1) (v':=.slice (some ⟨g,0,none⟩) (k+1) cap) (w':=W6) rfl (.tmp 32) (.tmp 34) 86 rfl rfl rfl aA.o ?_) |(go_at_call 139;refine U.o.mono ?_;rintro e w9 ⟨rfl,r⟩;have r:=r.symm;subst r));go_roundw
    case rel=>
     refine⟨k+1,wC,by go_num,ad.o,?_,ar.o⟩;rw [ai.o,zn];exact am.o
    case measure=>simp [intOf];omega
   ·rw [zF X,zM X]at y;have p:(t.all fun s=>decide (s∈xs))=false:=by
     rw [all_eq_false];exact⟨s,zH hs,by simpa using X⟩
    clear R hs X ae hT;refine hd5 ?_ y ho hK q p;clear y ho hK q p;intro U af Y av l;go_wp2_with fail;refine U.o.mono ?_;rintro e w9 ⟨rfl,r⟩;have r:=r.symm;subst r;go_wp2_with fail
    go_ret2
    exact⟨_,by rw [l.o];rfl,fun h=>by rw [l.o] at h;(cases h),fun _=>rfl,Y.o.mono fun b hb _=>by have:=d.o;omega⟩
  ·obtain rfl:k=t.length:=by omega
   rw [zi]at q ho;have p:(t.all fun s=>decide (s∈xs))=true:=yM.2 fun s hs=>zS (q s hs);obtain⟨a6,c6,rfl⟩:=qj ho;clear ak q;refine hd3 ?_ ho hK p;clear ho hK p;intro af Y l;go_wp2_with fail
   go_ret2
   exact⟨_,by rw [l.o];rfl,fun _=>af.o.mono (by have:=d.o;omega),fun h=>by rw [l.o] at h;(cases h),Y.o.mono fun b hb _=>by have:=d.o;omega⟩
def qfl (l:List (List ByteArray))(t:List ByteArray):Option Nat:=(List.range l.length).find? fun i=>decide (l[i]?=some t)
theorem q6b {xs:List ByteArray}: ∀{a b:List ByteArray},(∀s,s∈a->s∈xs)->(∀s,s∈b->s∈xs)->qx xs a=qx xs b->a=b:=by
 intro a
 induction a with
 |nil=>
  intro b _ _ h;cases b with
  |nil=>rfl
  |cons y ys=>cases h
 |cons x a ih=>
  intro b g d h;cases b with
  |nil=>cases h
  |cons y ys=>
   unfold qx at h;rw [yZ,yZ]at h;injection h with h1 h2
   have hi:xs.idxOf x=xs.idxOf y:=wC
   have l:=yb (g x (yJ ..));have m:=yb (d y (yJ ..));have:x=y:=by
    have e:xs[xs.idxOf x]?=some x:=by rw [zB l,getElem_idxOf]
    have p:xs[xs.idxOf y]?=some y:=by rw [zB m,getElem_idxOf]
    rw [hi,p]at e;cases e
    rfl
   rw [this,ih (fun s c=>g s (yD _ c)) (fun s c=>d s (yD _ c)) h2]
theorem qrg {xs:List ByteArray}{l:List (List ByteArray)}{t:List ByteArray}(d: ∀u s,u∈l->s∈u->s∈xs)(c: ∀s,s∈t->s∈xs):qfe (l.map (qx xs)) (qx xs t)=qfl l t:=by
 unfold qfe qfl;rw [zL]
 congr 1
 funext i
 rw [zP];cases hi:l[i]? with
 |none=>simp
 |some u=>
  rw [Option.map_some];by_cases b:u=t
  ·subst b;simp
  ·rw [zM,zM]
   ·intro h;cases h;exact b rfl
   ·intro h;have h:=yI h;exact b (q6b (fun s e=>d u s (zH hi) e) c h)
theorem qo6 {l:List (List ByteArray)}{t:List ByteArray}(h:t∉l):qfl l t=none:=by
 unfold qfl;refine yp.2 fun i _ hi=>?_;exact h (zH (yE hi))
theorem qo7 {l:List (List ByteArray)}{t:List ByteArray}{i:Nat}(h:qfl l t=some i):l[i]?=some t:=by
 unfold qfl at h;have:=find?_some h;exact yE this
theorem qom {xs t:List ByteArray}(c: ∀s,s∈t->s∈xs)(e:xs.length<=1073741824):okT (qx xs t):=fun x b=>by
 unfold qx at b;obtain⟨s,d,rfl⟩:=yL.1 b;have:=yb (c s d);unfold okI;omega
theorem StParts.xl {tag:qdk}{w:World}{S:Nat}{c:List qk}{T M MX:Nat}{d:Value}{xs:List ByteArray}{b:List ((ByteArray×Nat)×Nat)}(h:StParts tag w S c T M MX d xs b):xs.length<=1073741824:=by
 have:=h.xfew;have:=h.few;omega
theorem qv7 {w:World}{S T M n o t:Nat}{s:ByteArray}(h:w.heap[S]?=some (.cells (qe9 T M n).toArray t (0,0))):w.cell? ⟨S,o,none⟩≠some (.string s):=fun c=>by
 have:(qe9 T M n)[o]?=some (.string s):=by simpa [World.cell?,h] using c
 have b:=zH this;unfold qe9 at b;simp at b
theorem qn6 {m:Nat}{w w':World}{v:Value}{ss:List ByteArray}(h:qac m w v ss)(hK:wG w w'):qac m w' v ss:=h.mono fun b o s _ c=>hK.cell c trivial
theorem qxr (k:ByteArray×Nat)(v:Value)(w:World):Calls prog 70 #[.pointer none,qem k,v] w fun e w'=>e=.returned (.tuple #[.int .i64 0,.bool false])/\wG w w':=by
 unfold qem
 go_enter_defers Tryz.func70,Tryz.ntmps70
 go_wp2_with fail;refine(qrf _).mono ?_;rintro e c ⟨rfl,b⟩;have b:=b.symm;subst b;go_wp2_with fail;exact⟨_,xc rfl _ _ _,rfl,kAl⟩
theorem qxs {tag:qdk}{w:World}{S:Nat}{c:List qk}(h:StoreAt tag w S c)(p:ByteArray)(n:Nat)(hp:p.size<=1073741824)(hn:n<=1073741824)(m:Nat)(v:Value)(t:List ByteArray)(ht:qac m w v t)(hm:m<=w.heap.size)(a7: ∀s,s∈t->s.size<=1073741824):
  Calls prog 70 #[qi S,qem (p,n),v] w fun e w'=>e=.returned (qle (qfl (qv c p n) t))/\wG w w':=by
 obtain⟨T,M,MX,vx,xs,rl,hP⟩:=h;obtain⟨W0,ad⟩:=ex (w.alloc (.cells #[.string p,.int .i64 (n:Int)] 122));have k0:wG w W0:=by rw [←ad];exact kAl
 have z0:W0.heap.size=w.heap.size+1:=by rw [←ad];simp
 have q0:W0.heap[w.heap.size]?=some (.cells #[.string p,.int .i64 (n:Int)] 122 (0,0)):=by rw [←ad];exact qh _ _
 have d:=hP.keep (tag':=tag) k0 (fun _ _ _=>wH) (fun _ _=>Iff.rfl);have a0:=qb d.box 0 _ rfl;have f0:=qg d.box 0;have bg:=qe d.box;have bq:=qe hP.box;obtain⟨W1,ah⟩:=ex (W0.setCell ⟨S,0,none⟩ (.int .i32 1));have k1:Keep (fun b=>b≠S) W0 W1:=by rw [←ah];exact kSc
 have q:=qag 0 (.int .i32 1) d.box;rw [ah]at q;have a3:=qb q 4 _ rfl;have a2: ∀j,(W1.drewN j).cell? ⟨S,3,none⟩=some (qi T):=fun j=>by
  have:=qb ((Keep.drewN' (fun _=>True) W1 j).heap q wH) 3 _ rfl
  simpa using this
 have bs:=qe q;have q1:=k1.heap q0 wC;have b0:=qb q1 0 _ rfl;have b1:=qb q1 1 _ rfl;have bl:=qe q1;have ap:M≠S:=fun e=>by have:=d.tagM;rw [e,d.tagS] at this;cases this
 have hrel:=d.rels.keep k1 ap;have aA:=fun m=>qef (P:=prog) Tryz.underlying116 qkk qjf qmi (hrel.keep (Keep.drewN' (fun _=>True) W1 m) wH) (p,n) (qkl hp hn) false;have y:=qit d.box;have aa: ∀W,wG W1 W->wG w (W.setCell ⟨S,0,none⟩ (.int .i32 0))/\W.cell? ⟨S,0,none⟩=some (.int .i32 1)/\W.frozen? ⟨S,0,none⟩=false:=fun W hK=>
  ⟨k0.trans (qje d.box (by rw [ah];exact hK)),by have:=qb (hK.heap q wH) 0 _ rfl;simpa using this,qg (hK.heap q wH) 0⟩
 have l:=lock_free qhs ⟨S,0,none⟩ W0 (by simpa using a0) f0;rw [ah]at l;have aj: ∀j,TabAt (W1.drewN j) T MX vx xs:=fun j=>d.table.keep (k1.trans (Keep.drewN' _ W1 j)) (fun e=>by have:=d.tagT;rw [e,d.tagS] at this;cases this) (fun e=>by have:=d.tagN;rw [e,d.tagS] at this;cases this) (fun b hb e=>by have:=d.tagx b hb;rw [e,d.tagS] at this;cases this);have ak: ∀j,qac m (W1.drewN j) v t:=fun j=>(qn6 ht k0).mono (fun b o s _ hs=>(k1.trans (Keep.drewN' _ W1 j)).cell hs (fun e=>qv7 d.box (by rw [show b=S from e] at hs;exact hs)));have bk:=k1.size;have z:=fun j=>qmt (a2 j) (aj j) m v t (ak j) (by simp [World.drewN];omega) a7;simp only [zD]at a0 a3 b0 b1;have am: ∀u s,u∈qv c p n->s∈u->s∈xs:=fun u s hu hs=>hP.texts _ s (qco.1 hu).1 hs;unfold qem at aA⊢;have ai: ∀(b:Bool),(t.all fun s=>decide (s∈xs))=b->(b=false->qfl (qv c p n) t=none):=fun b hb h=>by
  subst h;refine qo6 fun hm=>?_;rw [all_eq_false]at hb;obtain⟨s,hs,hx⟩:=hb;exact hx (by simpa using am t s hm hs)
 cases hl:qdj rl (p,n) with
 |none=>
  simp only [hl,zz,xA]at aA;have hk:=qmj hP hl;rw [hk];clear hl hrel ap q ah q0 q1 k1 hP k0 am ai ht ak aj;refine hd8 ?_ d y l ad hk aa z a2;clear d y l ad hk aa z a2;intro ay r x ae a1 Y X aR
  go_enter_defers Tryz.func70,Tryz.ntmps70
  go_wp2_with fail;rw [ae.o];refine r.o.mono ?_;rintro e w9 ⟨rfl,g⟩;have g:=g.symm;subst g;go_wp2_with fail;refine x.o.mono ?_;rintro e w9 ⟨rfl,g⟩;have g:=g.symm;subst g;go_wp2_with fail
  go_quiet (fail)
  go_wp2_with fail;refine(X.o _).mono ?_;rintro e W2 ⟨vo,rfl,-,-,k2⟩;obtain⟨af,al,an⟩:=Y.o W2 ((Keep.drewN' _ _ _).trans k2);clear k2;refine hd1 ?_ af;clear af;intro ag;go_wp2_with fail;refine leaves_cons (f:=55) (args:= #[.pointer (some ⟨S,0,none⟩)]) wE (by simp [go_sem]) ?_;refine(unlock_deferred qhs ⟨S,0,none⟩ .returning _ al an).mono ?_;rintro e u' aW ⟨rfl,rfl,rfl⟩;exact⟨_,xc rfl _ _ _,rfl,ag.o⟩
 |some R=>
  simp only [hl,zz,xA]at aA;obtain⟨vD,P,K,lm,hR⟩:=d.rel _ _ (qft hl);have aL:R≠S:=fun e=>by have:=d.rel_at (qft hl);rw [e,d.tagS] at this;cases this
  have aq:=hR.keep k1 (fun b U hb _ e=>by have:=qah.1 hb;rw [e,d.tagS] at this;cases this);simp only at aq;have a4:=hP.xl;cases ab:(t.all fun s=>decide (s∈xs)) with
  |false=>
   have hk:=ai _ ab rfl;rw [hk];simp only [ab]at z;clear hl hrel ap q ah q0 q1 k1 hP k0 am ai ht ak aj hR aL aq ab;refine hd8 ?_ d y l ad hk aa z a2;clear d y l ad hk aa z a2;intro ay r x ae a1 Y X aR
   go_enter_defers Tryz.func70,Tryz.ntmps70
   go_wp2_with fail;rw [ae.o];refine r.o.mono ?_;rintro e w9 ⟨rfl,g⟩;have g:=g.symm;subst g;go_wp2_with fail;refine x.o.mono ?_;rintro e w9 ⟨rfl,g⟩;have g:=g.symm;subst g;go_wp2_with fail
   go_quiet (fail)
   go_wp2_with fail;refine(X.o _).mono ?_;rintro e W2 ⟨vo,rfl,-,-,k2⟩;obtain⟨af,al,an⟩:=Y.o W2 ((Keep.drewN' _ _ _).trans k2);clear k2;refine hd1 ?_ af;clear af;intro ag;go_wp2_with fail;refine leaves_cons (f:=55) (args:= #[.pointer (some ⟨S,0,none⟩)]) wE (by simp [go_sem]) ?_;refine(unlock_deferred qhs ⟨S,0,none⟩ .returning _ al an).mono ?_;rintro e u' aW ⟨rfl,rfl,rfl⟩;exact⟨_,xc rfl _ _ _,rfl,ag.o⟩
  |true=>
   have aB: ∀s,s∈t->s∈xs:=fun s hs=>yE (yM.1 ab s hs);have aX:=qrg am aB;have aV:=qom aB a4;simp only [ab]at z;clear hl hrel ap q ah q0 q1 k1 hP k0 am ai ht aj hR aL ab aB;have a6:t.length<=1073741824:=by
    obtain⟨_,_,_,h,_⟩:=ak 0;exact h
   clear ak;refine qdz ?_ d y l ad aa z a2 aq aX aV;clear d y l ad aa z a2 aq aX aV;intro ay r x ae Y X aR aT aU aN
   go_enter_defers Tryz.func70,Tryz.ntmps70
   go_wp2_with fail;rw [ae.o];refine r.o.mono ?_;rintro e w9 ⟨rfl,g⟩;have g:=g.symm;subst g;go_wp2_with fail;refine x.o.mono ?_;rintro e w9 ⟨rfl,g⟩;have g:=g.symm;subst g;go_wp2_with fail
   go_quiet (fail)
   go_wp2_with fail;refine(X.o _).mono ?_;rintro e W2 ⟨vo,rfl,ho,-,k2⟩;have ho:=ho trivial;have aG:=ho;rw [←qdu xs t]at aG;have aC:wG W1 W2:=(Keep.drewN' _ _ _).trans k2;have aS:=aT.o.keep aC (fun _ _ _ _=>wH);have aD:=qvm aS W2.heap.size vo (qx xs t) (qen aG (by rw [qdu];exact a6)) (zG _) aN.o;rw [aU.o]at aD;obtain⟨av,cv,rfl⟩:=qj ho;clear aS ho aG k2;refine hd2 ?_ aC aD;clear aC aD;intro aO aK;go_wp2_with fail;refine aK.o.mono ?_;rintro e W3 ⟨rfl,k3⟩;obtain⟨af,al,an⟩:=Y.o W3 (aO.o.trans (k3.mono fun b hb _=>hb));clear k3;refine hd1 ?_ af;clear af;intro ag;cases aP:qfl (qv c p n) t
   all_goals
    unfold qle;refine hd1 ?_ aP;clear aP;intro aQ;go_wp2_with fail;refine leaves_cons (f:=55) (args:= #[.pointer (some ⟨S,0,none⟩)]) wE (by simp [go_sem]) ?_;refine(unlock_deferred qhs ⟨S,0,none⟩ .returning _ al an).mono ?_;rintro e u' aW ⟨rfl,rfl,rfl⟩;exact⟨_,xc rfl _ _ _,by rw [aQ.o];rfl,ag.o⟩
end Go.Proofs
namespace Go.Proofs
open Go.RowKit Go.Ink R4
def qki (cols:List Int)(key t:List ByteArray):Bool:=(List.range cols.length).all fun j=>decide (t[(cols.getD j 0).toNat]?=key[j]?)
def qjt (c:List qk)(p:ByteArray)(n:Nat)(cols:List Int)(key:List ByteArray)(upto:Nat):List (List ByteArray):=((qv c p n).take upto).filter (qki cols key)
theorem q6c {xs a b:List ByteArray}(q: ∀s,s∈a->s∈xs)(l: ∀s,s∈b->s∈xs)(i j:Nat):((qx xs a)[i]?=(qx xs b)[j]?)↔(a[i]?=b[j]?):=by
 unfold qx;rw [zP,zP];cases m:a[i]? with
 |none=>cases c:b[j]?<;>simp
 |some s=>
  cases c:b[j]? with
  |none=>simp
  |some t=>
   rw [Option.map_some,Option.map_some];constructor
   ·intro h;have h:=yI h;have hi:xs.idxOf s=xs.idxOf t:=by omega
    have e:=yb (q s (zH m));have g:=yb (l t (zH c));have d:xs[xs.idxOf s]?=some s:=by rw [zB e,getElem_idxOf]
    have p:xs[xs.idxOf t]?=some t:=by rw [zB g,getElem_idxOf]
    rw [hi,p]at d;exact d.symm
   ·intro h;cases h
    rfl
theorem q0t {xs t key:List ByteArray}(b:List Int)(c: ∀s,s∈t->s∈xs)(d: ∀s,s∈key->s∈xs):qlf (qx xs t) b (qx xs key)=qki b key t:=by
 unfold qlf qki
 congr 1
 funext j
 exact yl.2 (q6c c d _ _)
theorem q0u {α:Type}(p:α->Bool)(d:α)(l:List α)(upto:Nat):((List.range l.length).filter fun i=>decide (i<upto)&&p (l.getD i d)).map (fun i=>l.getD i d)=(l.take upto).filter p:=by
 have h: ∀k,k<=l.length->((List.range k).filter fun i=>decide (i<upto)&&p (l.getD i d)).map (fun i=>l.getD i d)=((l.take k).take upto).filter p:=by
  intro k
  induction k with
  |zero=>intro _;simp
  |succ k ih=>
   intro g;have b:=zB (show k<l.length from wC);have hd:l.getD k d=l[k]:=by rw [zJ,b];rfl
   have e:l.take (k+1)=l.take k++ [l[k]]:=by rw [zh,b];rfl
   rw [xz,yV,zn,ih wC,e,take_append,yV,yC,xS (show k<=l.length from wC)]
   congr 1
   rw [yg,filter_nil,hd];by_cases c:k<upto
   ·rw [zS c,yW,yz (by simp;omega),yg,filter_nil];split<;>simp [b]
   ·rw [zM c,show upto-k=0 from wC]
    rfl
 have:=h l.length (zG _)
 rwa [zi] at this
theorem q0v {c:List qk}{p:ByteArray}{n:Nat}{xs:List ByteArray}{b:List Int}{key:List ByteArray}{upto:Nat}(g: ∀u s,u∈qv c p n->s∈u->s∈xs)(l: ∀s,s∈key->s∈xs)(d:qd8 n b=true)(e:key.length=b.length):
  (qet n ((qv c p n).map (qx xs)) b (qx xs key) 0 (upto:Int)).map (fun i=>(qv c p n).getD i [])=qjt c p n b key upto:=by
 unfold qet qjt;rw [zI (by rw [d,zS (by rw [qdu];exact e)];rfl),zL,←q0u (qki b key) [] (qv c p n) upto]
 congr 1
 refine filter_congr fun i hi=>?_;rw [yk]at hi;have h:=zB hi;have r:((qv c p n).map (qx xs)).getD i []=qx xs (qv c p n)[i]:=by rw [zJ,zP,h];rfl
 have m:(qv c p n).getD i []=(qv c p n)[i]:=by rw [zJ,h];rfl
 unfold qzo;rw [r,m,q0t b (fun s q=>g _ s (xG hi) q) l,zS (show(0:Int)<=(i:Int) from wC),yW]
 congr 1
 exact yl.2 wC
theorem q3x {c:List qk}{p:ByteArray}{n:Nat}{xs:List ByteArray}{b:List Int}{key:List ByteArray}{upto:Nat}(g: ∀u s,u∈qv c p n->s∈u->s∈xs)(e:key.length=b.length)(l:(key.all fun s=>decide (s∈xs))=false):qjt c p n b key upto= []:=by
 unfold qjt;refine filter_eq_nil_iff.2 fun t q d=>?_;rw [all_eq_false]at l;obtain⟨s,r,m⟩:=l;obtain⟨j,h⟩:=zy.1 r;unfold qki at d;have:=yM.1 d j (yk.2 (by rw [←e];exact(zA.1 h).1));have:=yE this;rw [h]at this;exact m (by simpa using g t s (xm q) (zH this))
theorem q3y {a:Asg}{ts:List TermD}{t:List ByteArray}(h:ts.length=t.length):qki (qjp a ts) (qph a ts) t=qj3 a ts t:=by
 rw [q13 (k:=0) h];unfold qki qjp qph;rw [yx,yM,yM];constructor
 ·intro c p g;obtain⟨j,b⟩:=zy.1 g;have e:=(zA.1 b).1;have:=yE (c j (yk.2 (by rw [zL];exact e)));rw [zJ,zP,zP,b]at this
  simpa using this
 ·intro c j b;rw [yk,zL]at b;have d:=zB b;have:=yE (c _ (xG b));rw [zJ,zP,zP,d]
  simpa using this
theorem q6d {c:List qk}{p:ByteArray}{a:Asg}{ts:List TermD}{upto:Nat}:qjt c p ts.length (qjp a ts) (qph a ts) upto=((qv c p ts.length).take upto).filter (qj3 a ts):=by
 unfold qjt;refine filter_congr fun t b=>?_;exact q3y (qco.1 (xm b)).2.symm
theorem q6e (a:Asg)(ts:List TermD):qd8 ts.length (qjp a ts)=true:=by
 unfold qd8;rw [yM];intro i hi;rw [yk]at hi;unfold qjp at hi⊢;rw [zL]at hi;have d:=zB hi;have c:=qna (xG hi);have e:=qzd (a:=a) (ts:=ts) (k:=0);have h:((qar a ts 0).map fun p=>(p.1:Int)).getD i 0=((qar a ts 0)[i].1:Int):=by rw [zJ,zP,d];rfl
 unfold qif;rw [h,zS wC,zS wC,yW,yW,ya,xE];cases i with
 |zero=>exact .inl rfl
 |succ i=>
  right;have b:=zB (show i<(qar a ts 0).length from wC)
  have g:((qar a ts 0).map fun p=>(p.1:Int)).getD (i+1-1) 0=((qar a ts 0)[i].1:Int):=by rw [Nat.add_sub_cancel,zJ,zP,b];rfl
  rw [g];have:=pairwise_iff_getElem.1 e i (i+1) wC hi wC;exact zS wC
def RowsAt (P:Nat->Prop)(w:World)(v:Value)(tss:List (List ByteArray)):Prop:=
 ∃us:List Value,us.length=tss.length/\w.ownsRow 0 46 1 v us.length us/\(∀b,v.ownBlock=some b->P b)/\
  ∀(k:Nat) (u:Value) (t:List ByteArray),us[k]?=some u->tss[k]?=some t->w.ownsRow 0 9 1 u t.length (t.map .string)/\ ∀b,u.ownBlock=some b->P b
theorem RowsAt.keep {P P':Nat->Prop}{w w':World}{v:Value}{d:List (List ByteArray)}{C:Nat->Prop}(h:RowsAt P w v d)(hK:Keep C w w')(e: ∀b,b<w.heap.size->P b->C b/\P' b):RowsAt P' w' v d:=by
 obtain⟨s,r,l,p,x⟩:=h;refine⟨s,r,qf l hK (fun b c=>(e b (zE l b c).2 (p b c)).1),fun b c=>(e b (zE l b c).2 (p b c)).2,fun k u t y q=>?_⟩;obtain⟨g,m⟩:=x k u t y q;exact⟨qf g hK (fun b c=>(e b (zE g b c).2 (m b c)).1),fun b c=>(e b (zE g b c).2 (m b c)).2⟩
theorem qv8 {P:Nat->Prop}(w:World):RowsAt P w (.slice none 0 0) []:=⟨[],rfl,zj _ _ _ _,fun b d=>by simp [Value.ownBlock] at d,fun k u t c=>by simp at c⟩
end Go.Proofs
namespace Go.Proofs
open Go.RowKit Go.Ink R4 Go.MuLone
attribute [local go_sem] Oper.semAt_some
theorem q3z (a:Addr)(u:FrameMode)(w:World)(c:w.cell? a=some (.int .i32 1))(d:w.frozen? a=false):
  CallsDIn Fence.wide 0 prog 55 #[.pointer (some a)] u w fun e u' w'=>u'=u/\(e=.returned (.tuple #[])/\w'=w.setCell a (.int .i32 0)):=by
 have b:=iunlock_held qhs a;refine callsDIn_of_wp (F:=Fence.wide) (n:=0) Tryz.func55 rfl trivial (xe.2 ?_);simp only [Tryz.ntmps55,size_toArray,length_cons,length_nil,Nat.reduceAdd,Nat.reduceSub,Array.replicate_succ,Array.replicate_zero,push_toArray,append_toArray,nil_append,cons_append];go_wp2_with fail;refine(b _ c d).mono ?_;rintro e w' ⟨rfl,rfl⟩;go_wp2_with fail
 go_end0
 exact⟨rfl,rfl⟩
theorem qez {fn:Func}{tmps:Array Value}{R:Ending->World->Prop}{d:List Deferred}{a:Addr}{w:World}(s:w.cell? a=some (.int .i32 1))(m:w.frozen? a=false)
  (h:LeavesInM Fence.wide 0 prog fn tmps R d .returning (w.setCell a (.int .i32 0))):
  LeavesInM Fence.wide 0 prog fn tmps R ({target:=.fn (.func 55) #[],args:= #[.pointer (some a)]}::d) .returning w:=by
 refine⟨wE,.inr ⟨fun h=>(by simp [Fence.wide] at h),_,_,55,#[.pointer (some a)],rfl,by simp [invoke,go_sem],fun _ _=>wH,?_⟩⟩;obtain⟨p,q⟩:=q3z a .returning w s m;refine⟨p,fun c g b r=>?_⟩;obtain⟨e,v,w',t,⟨rfl,rfl,rfl⟩,u,l⟩:=q c g b r;exact⟨_,_,_,t,h,u,l⟩
end Go.Proofs
namespace Go.Proofs
open Go.RowKit Go.Ink R4
theorem q75:qcj prog 162 46 1 24:=qc2 (z:=.slice none 0 0) wD wD rfl wF wF
theorem qc9 {w:World}{base d:Nat}{e q:TypeId}{sz m n u:Nat}{v v':Value}{xs p:List Value}(h:w.ownsRow base e sz v n xs)(s:w.ownsRow d q m v' u p)(x:e≠q){b:Nat}(l:v.ownBlock=some b):v'.ownBlock≠some b:=fun c=>by
 rcases h.2 with ⟨e1,_⟩ |⟨g,cap,cur,e1,_,e3,_⟩
 ·rw [e1]at l;cases l
 ·rcases s.2 with ⟨f1,_⟩ |⟨g',cap',cur',f1,_,f3,_⟩
  ·rw [f1]at c;cases c
  ·rw [e1]at l;rw [f1]at c;have r:g=b:=by simpa [Value.ownBlock] using l
   have t:g'=b:=by simpa [Value.ownBlock] using c
   rw [r]at e3;rw [t,e3]at f3;injection f3 with f3
   injection f3 with _ f3
   exact x f3
theorem RowsAt.snoc {P:Nat->Prop}{w:World}{v:Value}{d:List (List ByteArray)}(h:RowsAt P w v d){base:Nat}{y:Value}{u:List ByteArray}(s:w.ownsRow base 9 1 y u.length (u.map .string))(ah: ∀b,y.ownBlock=some b->P b)(hl:d.length<=1073741824)(ae: ∀b,w.heap.size<=b->P b):
  ∃a c g cap W',v=.slice a d.length c/\(Builtin.append_ #[162,162] 162 #[v,.slice (some ⟨w.heap.size,0,none⟩) 1 1]).run prog (w.alloc (.cells #[y] 46))=.ok (.slice (some ⟨g,0,none⟩) (d.length+1) cap) W'/\
   RowsAt P W' (.slice (some ⟨g,0,none⟩) (d.length+1) cap) (d++ [u])/\Keep (fun b=>v.ownBlock≠some b) w W':=by
 obtain⟨us,l,m,X,aa⟩:=h;obtain⟨v3,Y3,z,R,U,gb,cap,af,ag,an⟩:=qc8 (P:=prog) q75 162 m [y] rfl (by obtain⟨a,c,rfl⟩:=qj s;simp [Value.oneCell']) wC (yc _);subst af;obtain⟨a,c,hv⟩:=qj m;rw [l]at hv;rw [l]at z R;refine⟨a,c,gb,cap,Y3,hv,z,⟨us++ [y],by simp [l],?_,fun b Y=>?_,fun j x t p q=>?_⟩,U.mono fun b _ h e=>h e.symm⟩
 ·rw [zR,length_singleton,l];exact R
 ·have ab:gb=b:=by simpa [Value.ownBlock] using Y
  subst ab;rcases ag with h |h
  ·exact X _ h
  ·exact ae _ h
 ·have key: ∀{x:Value} {t:List ByteArray} {base:Nat},w.ownsRow base 9 1 x t.length (t.map .string)->Y3.ownsRow base 9 1 x t.length (t.map .string):=fun p=>qf p U (fun b Y e=>qc9 p m wF Y e.symm);by_cases hj:j<us.length
  ·rw [yS hj]at p;rw [yS wC]at q;obtain⟨q1,q2⟩:=aa j x t p q;exact⟨key q1,q2⟩
  ·rw [yH wC]at p;rw [yH wC]at q;have r:j-us.length=0:=by have:=(zA.1 p).1;simp at this;omega
   rw [r]at p;rw [←l,r]at q;simp only [getElem?_cons_zero,yd]at p q;subst p q;exact⟨(key s).mono (yc _),ah⟩
theorem q30 {n0:Nat}{g:Gh}{w:World}{S:Nat}{c:List qk}{T M MX:Nat}{vx:Value}{xs:List ByteArray}{rl:List ((ByteArray×Nat)×Nat)}{p:ByteArray}{n R Pp Km D:Nat}{vD:Value}{lm:List (List Bool×Nat)}{W1 v W r:World}{t s:qe4}(hg:GInv g w)(hS:g.st S=some c)(hP:StParts g.tag w S c T M MX vx xs rl)
  (hk:((p,n),R)∈rl) (m:t=⟨qa6 g.tag S R,(qv c p n).map (qx xs),vD,lm⟩) (d:wG w (W1.setCell ⟨S,0,none⟩ (.int .i32 0))) (u:wG W1 v) (x:RelSame t v s W) (hinv:RelInv R n Pp Km s W) (Y:Keep (fun b=>b≠D) W r) (hD:s.tag D=none) (am:v.heap.size<=D):
  GStep n0 g w {g with tag:=qb8 g.tag S R s.tag} (r.setCell ⟨S,0,none⟩ (.int .i32 0))/\Keep (fun b=>t.tag b=none/\b<v.heap.size) W1 r/\t.tag S=none:=by
 have an:=u.size;have zu:w.heap.size<=W1.heap.size:=by simpa using d.size
 have tS:t.tag S=none:=by
  cases hT:t.tag S with
  |none=>rfl
  |some U=>rw [m] at hT;have:=qah.1 hT;rw [hP.tagS] at this;cases this
 have sS:s.tag S=none:=by
  cases hT:s.tag S with
  |none=>rfl
  |some U=>
   rcases x.new S U hT with ⟨U',z⟩ |z
   ·rw [tS]at z;cases z
   ·have:=qe hP.box;omega
 have k1:Keep (fun b=>t.tag b=none/\b<v.heap.size) W1 r:=(u.mt.trans x.keep).trans (Y.mono fun b _ h=>wC);refine⟨?_,k1,tS⟩;have X:GInv g (W1.setCell ⟨S,0,none⟩ (.int .i32 0)):=hg.keep d.mt;have aa:=hP.keep (tag':=g.tag) d (fun _ _ _=>wH) (fun _ _=>Iff.rfl);have hK:Keep (fun b=>qa6 g.tag S R b=none) (W1.setCell ⟨S,0,none⟩ (.int .i32 0)) (r.setCell ⟨S,0,none⟩ (.int .i32 0)):=by
  have k2:Keep (fun b=>qa6 g.tag S R b=none) W1 r:=k1.mono fun b l h=>⟨by rw [m];exact h,wC⟩;exact Keep.set_both k2 S 0 (.int .i32 0)
 have hR:qcl s.tag (r.setCell ⟨S,0,none⟩ (.int .i32 0)) R n ((qv c p n).map (qx xs)) s.vD Pp Km s.lm:=by
  have h:=hinv.own;rw [x.same,m]at h;exact(h.keep Y (fun b U l _ e=>by subst e;rw [hD] at l;cases l)).keep (Keep.setCell (C:=fun b=>b≠S) _ _ _ wE) (fun b U l _ e=>by subst e;rw [sS] at l;cases l)
 have y:=x.le;have q:=x.new;rw [m]at y q;refine(GStep.own hg d).trans (q38 X hS aa hk y (fun b U l=>(q b U l).imp id (fun h=>by simp;omega)) (fun b U l=>?_) hK hR);have z:=hinv.own.lt b U l;have h2:=Y.size;simp;omega
end Go.Proofs
