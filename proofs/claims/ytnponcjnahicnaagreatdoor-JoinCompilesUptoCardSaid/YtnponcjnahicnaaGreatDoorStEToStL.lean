/- Parts of the proof. -/
import Derived.Test.YtnponcjnahicnaaGreatDoorTbCToStD
set_option linter.unusedSimpArgs false
set_option linter.unusedVariables false
set_option maxRecDepth 100000
set_option maxHeartbeats 2000000
open Go.Proofs.Tryz(prog)
open List(all_eq_false append_toArray cons_append eq_nil_iff_forall_not_mem filter_congr filter_eq_nil_iff filter_nil find?_some getElem_idxOf length_cons length_nil nil_append pairwise_iff_getElem push_toArray size_toArray take_append)
namespace Go.Proofs
open Go.RowKit Go.Ink R4 Go.MuLone
attribute [local go_sem] Oper.semAt_some
theorem qik {C:Nat->Prop}{w W:World}{S t:Nat}{c:List Value}{b:Nat×Nat}(h:w.heap[S]?=some (.cells (.int .i32 0::c).toArray t b))(hK:Keep C (w.setCell ⟨S,0,none⟩ (.int .i32 1)) W):Keep C w (W.setCell ⟨S,0,none⟩ (.int .i32 0)):=by
 have:=Keep.set_both hK S 0 (.int .i32 0);rw [q4t h]at this;exact this
theorem qew {κ ν:Type}[DecidableEq κ]{m:List (κ×ν)}{k:κ}{v:ν}(h:qct m k=some v):(k,v)∈m:=by
 unfold qct at h;rw [xN]at h;obtain⟨p,d,rfl⟩:=h;have c:p.1=k:=by simpa using find?_some d
 have e:=xa d;obtain⟨a,b⟩:=p;simp only at c;subst c;exact e
theorem qq0 {κ ν:Type}[DecidableEq κ]{m:List (κ×ν)}{k:κ}(h:qct m k=none): ∀v,(k,v)∉m:=fun v b=>by
 unfold qct at h;rw [Option.map_eq_none_iff,ym]at h;exact h (k,v) b (zS rfl)
theorem qla: ∀w:World,(zeroValue 154).run prog w=.ok (.pointer none) w:=fun w=>wA
theorem qlb {tag:qcv}{w:World}{S:Nat}{c:List qy}{T M MX:Nat}{j:Value}{xs:List ByteArray}{d:List ((ByteArray×Nat)×Nat)}(h:StParts tag w S c T M MX j xs d){p:ByteArray}{n:Nat}(g:qct d (p,n)=none):qo c p n= []:=by
 refine eq_nil_iff_forall_not_mem.2 fun t i=>?_;obtain⟨e,f⟩:=qc2.1 i;obtain⟨R,b⟩:=h.all _ e;simp only [f]at b;exact qq0 g R b
theorem qhz {w:World}{S T M n:Nat}(h:w.heap[S]?=some (.cells (qea T M n).toArray 116 (0,0))):Calls prog 71 #[qj S] w fun e w'=>e=.returned (.bool false)/\w'=w:=by
 have b:=qb h 2 _ rfl;have c:=qe h;simp only [zD]at b;clear h
 go_enter Tryz.func71,Tryz.ntmps71
 go_wp2;go_ret;exact⟨rfl,rfl⟩
theorem qpd (w:World):Calls prog 71 #[.pointer none] w fun e w'=>e=.returned (.bool true)/\w'=w:=by
 go_enter Tryz.func71,Tryz.ntmps71
 go_wp2;go_ret;exact⟨rfl,rfl⟩
theorem qxt (k:ByteArray×Nat)(w:World):Calls prog 97 #[.pointer none,qdu k] w fun e w'=>e=.returned (.int .i64 0)/\wD w w':=by
 unfold qdu
 go_enter_defers Tryz.func97,Tryz.ntmps97
 go_wp2_with fail;refine(qpd _).mono ?_;rintro e c ⟨rfl,b⟩;have b:=b.symm;subst b;go_wp2_with fail;exact⟨_,xm rfl _ _ _,rfl,kAl⟩
theorem qxu {tag:qcv}{w:World}{S:Nat}{c:List qy}(h:StoreAt tag w S c)(p:ByteArray)(n:Nat)(hp:p.size<=1073741824)(hn:n<=1073741824):
  Calls prog 97 #[qj S,qdu (p,n)] w fun e w'=>e=.returned (.int .i64 ((qo c p n).length:Int))/\wD w w':=by
 obtain⟨T,M,MX,vx,xs,rl,hP⟩:=h;obtain⟨W0,s⟩:=ex (w.alloc (.cells #[.string p,.int .i64 (n:Int)] 153));have k0:wD w W0:=by rw [←s];exact kAl
 have z0:W0.heap.size=w.heap.size+1:=by rw [←s];simp
 have q0:W0.heap[w.heap.size]?=some (.cells #[.string p,.int .i64 (n:Int)] 153 (0,0)):=by rw [←s];exact qh _ _
 have d:=hP.keep (tag':=tag) k0 (fun _ _ _=>wE) (fun _ _=>Iff.rfl);have a0:=qb d.box 0 _ rfl;have f0:=qg d.box 0;have aw:=qe d.box;have ax:=qe hP.box;obtain⟨W1,u⟩:=ex (W0.setCell ⟨S,0,none⟩ (.int .i32 1));have k1:Keep (fun b=>b≠S) W0 W1:=by rw [←u];exact kSc
 have i:=qz 0 (.int .i32 1) d.box;rw [u]at i;have a3:=qb i 4 _ rfl;have a1:=qb i 0 _ rfl;have f1:=qg i 0;have av:=qe i;have q1:=k1.heap q0 xz;have b0:=qb q1 0 _ rfl;have b1:=qb q1 1 _ rfl;have aA:=qe q1;have y:M≠S:=fun e=>by have:=d.tagM;rw [e,d.tagS] at this;cases this
 have hrel:=d.rels.keep k1 y;have U:=fun m=>qdn (P:=prog) Tryz.underlying112 qjl qil qla (hrel.keep (Keep.drewN' (fun _=>True) W1 m) wE) (p,n) (qjm hp hn) false;have q:=qhz d.box;have t: ∀m,wD w ((W1.drewN m).setCell ⟨S,0,none⟩ (.int .i32 0)):=fun m=>k0.trans (qik d.box (by rw [u];exact Keep.drewN' _ _ _));have j:=lock_free qg4 ⟨S,0,none⟩ W0 (by simpa using a0) f0;rw [u]at j;simp only [zD]at a0 a1 a3 b0 b1;unfold qdu at U⊢;cases z:qct rl (p,n) with
 |none=>
  simp only [z,zy,yx]at U;have hk:=qlb hP z;rw [hk];clear z hrel y i u q0 q1 k1 hP k0;refine hd6 ?_ d q j s hk t;clear d q j s hk t;intro X l k v ap r
  go_enter_defers Tryz.func97,Tryz.ntmps97
  go_wp2_with fail;rw [v.o];refine l.o.mono ?_;rintro e w9 ⟨rfl,g⟩;have g:=g.symm;subst g;go_wp2_with fail;refine k.o.mono ?_;rintro e w9 ⟨rfl,g⟩;have g:=g.symm;subst g;go_wp2_with fail
  go_quiet (first |(go_at_call 98;exact Calls.quiet_of_same (qws _)))
  go_wp2_with fail;refine leaves_cons (f:=73) (args:= #[.pointer (some ⟨S,0,none⟩)]) wB (by simp [go_sem]) ?_;refine(unlock_deferred qg4 ⟨S,0,none⟩ .returning _ (by simpa using a1) (by simpa using f1)).mono ?_;rintro e u' al ⟨rfl,rfl,rfl⟩;exact⟨_,xm rfl _ _ _,rfl,r.o _⟩
 |some R=>
  simp only [z,zy,yx]at U;obtain⟨vD,P,K,lm,hR⟩:=d.rel _ _ (qew z);have ab:R≠S:=fun e=>by have:=d.rel_at (qew z);rw [e,d.tagS] at this;cases this
  have ad:=k1.heap hR.box ab;have x:((qo c p n).map (qr xs)).length=(qo c p n).length:=zL _;have ae: ∀m,Calls prog 98 #[.pointer (some ⟨R,0,none⟩)] (W1.drewN m) fun e w'=>e=.returned (.int .i64 ((qo c p n).length:Int))/\w'=W1.drewN m:=fun m=>by
   have:=qwt ((Keep.drewN' (fun _=>True) W1 m).heap ad wE);rw [x]at this;exact this
  clear z hrel y i u q0 q1 k1 hP k0 hR ab ad x;refine hd6 ?_ d q j s t ae;clear d q j s t ae;intro X l k v r Y
  go_enter_defers Tryz.func97,Tryz.ntmps97
  go_wp2_with fail;rw [v.o];refine l.o.mono ?_;rintro e w9 ⟨rfl,g⟩;have g:=g.symm;subst g;go_wp2_with fail;refine k.o.mono ?_;rintro e w9 ⟨rfl,g⟩;have g:=g.symm;subst g;go_wp2_with fail
  go_quiet (first |(go_at_call 98;exact Calls.quiet_of_same (Y.o _)))
  go_wp2_with fail;refine leaves_cons (f:=73) (args:= #[.pointer (some ⟨S,0,none⟩)]) wB (by simp [go_sem]) ?_;refine(unlock_deferred qg4 ⟨S,0,none⟩ .returning _ (by simpa using a1) (by simpa using f1)).mono ?_;rintro e u' al ⟨rfl,rfl,rfl⟩;exact⟨_,xm rfl _ _ _,rfl,r.o _⟩
theorem qkl:qb2 prog 125 3 1 8:=qcl (z:=.int .i64 0) wA wA rfl wC wC
theorem qri (n:Nat)(h:n<=1073741824)(u:World):(Instr.makeSlice 125 (.int .i64 0) (.int .i64 (n:Int))).run prog u=
  .ok (.slice (some ⟨u.heap.size,0,none⟩) 0 n) (u.alloc (.cells (Array.replicate n (Value.int .i64 0)) 3)):=by
 obtain⟨i0,hi,b,c,d⟩:=info_parts qty;have h:=run_make (P:=prog) u 125 3 i0 (.int .i64 0) Tryz.underlying125 hi b .i64 .i64 (0:Int) (n:Int) xz xz (by rw [d];omega) xz
 simpa [c,Value.cells,qq4]using h
theorem q0l {xs t:List ByteArray}{k:Nat}{s:ByteArray}(h:t[k]?=some s):qr xs (t.take (k+1))=qr xs (t.take k)++ [((xs.idxOf s:Nat):Int)]:=by
 unfold qr;rw [zh,h,zm]
 rfl
theorem qdw (xs t:List ByteArray):(qr xs t).length=t.length:=zL _
theorem qln {w:World}{S T MX:Nat}{vx:Value}{xs:List ByteArray}(hc:w.cell? ⟨S,3,none⟩=some (qj T))(h:TabAt w T MX vx xs)(m:Nat)(v:Value)(t:List ByteArray)(ht:qal m w v t)(U:m<=w.heap.size)(au: ∀s,s∈t->s.size<=1073741824):
  Calls prog 139 #[qj S,v] w fun e w'=> ∃vo,e=.returned (.tuple #[vo,.bool (t.all fun s=>decide (s∈xs))])/\
   ((t.all fun s=>decide (s∈xs))=true->w'.ownsRow w.heap.size 3 1 vo t.length ((qr xs t).map (.int .i64)))/\((t.all fun s=>decide (s∈xs))=false->vo=.slice none 0 0)/\wD w w':=by
 obtain⟨a,c,rfl,aF,aX,am⟩:=id ht;have aD:=zQ _ _ hc;simp only at aD;obtain⟨B,hB⟩:=ex (w.heap.size);obtain⟨W0,y⟩:=ex (w.alloc (.cells (Array.replicate t.length (Value.int .i64 0)) 3));have k0:wD w W0:=by rw [←y];exact kAl
 have z0:W0.heap.size=w.heap.size+1:=by rw [←y];simp
 have q0:W0.ownsRow w.heap.size 3 1 (.slice (some ⟨w.heap.size,0,none⟩) 0 t.length) 0 []:=by
  rw [←y];exact xe w _ t.length (zG _) (by simp only [maxLen];omega) wB
 have aG:=fun u=>qri t.length aF u;rw [hB]at q0 z0;clear ht;refine hd8 ?_ am k0 q0 y hB h au hc;clear am k0 q0 y hB h au hc;intro ag aA aB af d Xh ak ay
 go_enter Tryz.func139,Tryz.ntmps139
 go_wp2_with fail;rw [af.o,d.o];clear aG
 go_loopw [6,16] (fun x6 i' wr=> ∃k:Nat,k<=t.length/\i'=.int .i64 (k:Int)/\(∀s,s∈t.take k->s∈xs)/\wr.ownsRow B 3 1 x6 k ((qr xs (t.take k)).map (.int .i64))/\Keep (fun b=>b<B) w wr) (fun _ i _=>t.length-(intOf i).toNat)
 case atStart=>exact⟨0,xz,rfl,wB,aB.o,aA.o.mt⟩
 case round=>
  obtain⟨k,hk,rfl,l,ho,hK⟩:=hrel;have a0:=hK.size;have aW:wr.cell? ⟨S,3,none⟩=some (qj T):=hK.cell ay.o (by have:=d.o;simp only;omega);have aT:S<wr.heap.size:=by have:=d.o;omega
  by_cases ap:k<t.length
  ·have aN:(k:Int)<t.length:=by omega
   have aZ:(0:Int)<=k:=xz
   obtain⟨s,X⟩: ∃s,t[k]?=some s:=⟨_,zB ap⟩;obtain⟨b,o,rfl,aU,z⟩:=ag.o k s X;unfold qf2 at z;simp only [yA]at z;have aY:=hK.cell z (by have:=d.o;simp only;omega);have aV:b<wr.heap.size:=by have:=d.o;omega
   have hT:TabAt wr T MX vx xs:=Xh.o.keep hK (by have:=qe Xh.o.tab;have:=d.o;omega) (by have:=Xh.o.nums.lt;have:=d.o;omega) (fun b hb=>by have:=(zE Xh.o.own b hb).2;have:=d.o;omega);have q:=qul hT s (ak.o s (zH X));have aq:=q0l (xs:=xs) X;have ad:t.take (k+1)=t.take k++ [s]:=by rw [zh,X];rfl
   obtain⟨a6,c6,rfl⟩:=qi ho;by_cases U:s∈xs
   ·rw [zI U,zS U]at q;obtain⟨v',W6,hr,ar,k6,g,cap,hv,ao,an⟩:=qdd (P:=prog) qkl 125 ho [.int .i64 ((xs.idxOf s:Nat):Int)] rfl (by simp [Value.oneCell']) xz (by have:=d.o;omega);subst hv;have Y: ∀x,x∈t.take (k+1)->x∈xs:=fun x hx=>by
     rw [ad,zn,zl]at hx;rcases hx with hx |rfl
     ·exact l x hx
     ·exact U
    have al:Keep (fun b=>b<B) w W6:=hK.trans (k6.mono fun b _ (hb:b<B) e=>by have:=(zE ho b e.symm).1;omega);clear z X U ad hT k6;refine qg5 ?_ q ho hK Y al hr ar aq an ao l;clear q ho hK Y al hr ar aq an ao l;intro r ab R aa ae az aj ai aJ aK ah;go_wp2_with (first |(at_builtin;refine qcd (v:=.slice a6 k c6) (u:=.slice (some ⟨wr.heap.size,0,none⟩) 1 1) (v':=.slice (some ⟨g,0,none⟩) (k+1) cap) (w':=W6) rfl (.tmp 32) (.tmp 34) 125 rfl rfl rfl az.o ?_) |(go_at_call 177;refine r.o.mono ?_;rintro e w9 ⟨rfl,p⟩;have p:=p.symm;subst p));go_roundw
    case rel=>
     refine⟨k+1,xz,by go_num,aa.o,?_,ae.o⟩;rw [ai.o,zm];exact aj.o
    case measure=>simp [intOf];omega
   ·rw [zF U,zM U]at q;have j:(t.all fun s=>decide (s∈xs))=false:=by
     rw [all_eq_false];exact⟨s,zH X,by simpa using U⟩
    clear z X U ad hT;refine hd5 ?_ q ho hK l j;clear q ho hK l j;intro r ab R ah f;go_wp2_with fail;refine r.o.mono ?_;rintro e w9 ⟨rfl,p⟩;have p:=p.symm;subst p;go_wp2_with fail
    go_ret2
    exact⟨_,by rw [f.o];rfl,fun h=>by rw [f.o] at h;(cases h),fun _=>rfl,R.o.mono fun b hb _=>by have:=d.o;omega⟩
  ·obtain rfl:k=t.length:=by omega
   rw [zi]at l ho;have j:(t.all fun s=>decide (s∈xs))=true:=yL.2 fun s X=>zS (l s X);obtain⟨a6,c6,rfl⟩:=qi ho;clear ap l;refine hd3 ?_ ho hK j;clear ho hK j;intro ab R f;go_wp2_with fail
   go_ret2
   exact⟨_,by rw [f.o];rfl,fun _=>ab.o.mono (by have:=d.o;omega),fun h=>by rw [f.o] at h;(cases h),R.o.mono fun b hb _=>by have:=d.o;omega⟩
def qen (l:List (List ByteArray))(t:List ByteArray):Option Nat:=(List.range l.length).find? fun i=>decide (l[i]?=some t)
theorem q2x {xs:List ByteArray}: ∀{a b:List ByteArray},(∀s,s∈a->s∈xs)->(∀s,s∈b->s∈xs)->qr xs a=qr xs b->a=b:=by
 intro a
 induction a with
 |nil=>
  intro b _ _ h;cases b with
  |nil=>rfl
  |cons y ys=>cases h
 |cons x a ih=>
  intro b e f h;cases b with
  |nil=>cases h
  |cons y ys=>
   unfold qr at h;rw [yW,yW]at h;injection h with h1 h2
   have hi:xs.idxOf x=xs.idxOf y:=xz
   have i:=y9 (e x (yI ..));have j:=y9 (f y (yI ..));have:x=y:=by
    have d:xs[xs.idxOf x]?=some x:=by rw [zB i,getElem_idxOf]
    have g:xs[xs.idxOf y]?=some y:=by rw [zB j,getElem_idxOf]
    rw [hi,g]at d;cases d
    rfl
   rw [this,ih (fun s c=>e s (yC _ c)) (fun s c=>f s (yC _ c)) h2]
theorem qpe {xs:List ByteArray}{l:List (List ByteArray)}{t:List ByteArray}(c: ∀u s,u∈l->s∈u->s∈xs)(e: ∀s,s∈t->s∈xs):qeg (l.map (qr xs)) (qr xs t)=qen l t:=by
 unfold qeg qen;rw [zL]
 congr 1
 funext i
 rw [zP];cases hi:l[i]? with
 |none=>simp
 |some u=>
  rw [Option.map_some];by_cases b:u=t
  ·subst b;simp
  ·rw [zM,zM]
   ·intro h;cases h;exact b rfl
   ·intro h;have h:=yH h;exact b (q2x (fun s d=>c u s (zH hi) d) e h)
theorem qni {l:List (List ByteArray)}{t:List ByteArray}(h:t∉l):qen l t=none:=by
 unfold qen;refine ym.2 fun i _ hi=>?_;exact h (zH (yD hi))
theorem qnj {l:List (List ByteArray)}{t:List ByteArray}{i:Nat}(h:qen l t=some i):l[i]?=some t:=by
 unfold qen at h;have:=find?_some h;exact yD this
theorem qpy {xs t:List ByteArray}(d: ∀s,s∈t->s∈xs)(e:xs.length<=1073741824):okT (qr xs t):=fun x b=>by
 unfold qr at b;obtain⟨s,c,rfl⟩:=yK.1 b;have:=y9 (d s c);unfold okI;omega
theorem StParts.xl {tag:qcv}{w:World}{S:Nat}{c:List qy}{T M MX:Nat}{d:Value}{xs:List ByteArray}{b:List ((ByteArray×Nat)×Nat)}(h:StParts tag w S c T M MX d xs b):xs.length<=1073741824:=by
 have:=h.xfew;have:=h.few;omega
theorem qtu {w:World}{S T M n o t:Nat}{s:ByteArray}(h:w.heap[S]?=some (.cells (qea T M n).toArray t (0,0))):w.cell? ⟨S,o,none⟩≠some (.string s):=fun c=>by
 have:(qea T M n)[o]?=some (.string s):=by simpa [World.cell?,h] using c
 have b:=zH this;unfold qea at b;simp at b
theorem qmo {m:Nat}{w w':World}{v:Value}{ss:List ByteArray}(h:qal m w v ss)(hK:wD w w'):qal m w' v ss:=h.mono fun b o s _ c=>hK.cell c trivial
theorem qu9 (k:ByteArray×Nat)(v:Value)(w:World):Calls prog 95 #[.pointer none,qdu k,v] w fun e w'=>e=.returned (.tuple #[.int .i64 0,.bool false])/\wD w w':=by
 unfold qdu
 go_enter_defers Tryz.func95,Tryz.ntmps95
 go_wp2_with fail;refine(qpd _).mono ?_;rintro e c ⟨rfl,b⟩;have b:=b.symm;subst b;go_wp2_with fail;exact⟨_,xZ rfl _ _ _,rfl,kAl⟩
theorem qva {tag:qcv}{w:World}{S:Nat}{c:List qy}(h:StoreAt tag w S c)(p:ByteArray)(n:Nat)(hp:p.size<=1073741824)(hn:n<=1073741824)(m:Nat)(v:Value)(t:List ByteArray)(ht:qal m w v t)(hm:m<=w.heap.size)(aZ: ∀s,s∈t->s.size<=1073741824):
  Calls prog 95 #[qj S,qdu (p,n),v] w fun e w'=>e=.returned (qkb (qen (qo c p n) t))/\wD w w':=by
 obtain⟨T,M,MX,vx,xs,rl,hP⟩:=h;obtain⟨W0,aa⟩:=ex (w.alloc (.cells #[.string p,.int .i64 (n:Int)] 153));have k0:wD w W0:=by rw [←aa];exact kAl
 have z0:W0.heap.size=w.heap.size+1:=by rw [←aa];simp
 have q0:W0.heap[w.heap.size]?=some (.cells #[.string p,.int .i64 (n:Int)] 153 (0,0)):=by rw [←aa];exact qh _ _
 have d:=hP.keep (tag':=tag) k0 (fun _ _ _=>wE) (fun _ _=>Iff.rfl);have a0:=qb d.box 0 _ rfl;have f0:=qg d.box 0;have bg:=qe d.box;have bh:=qe hP.box;obtain⟨W1,af⟩:=ex (W0.setCell ⟨S,0,none⟩ (.int .i32 1));have k1:Keep (fun b=>b≠S) W0 W1:=by rw [←af];exact kSc
 have q:=qz 0 (.int .i32 1) d.box;rw [af]at q;have a3:=qb q 4 _ rfl;have a2: ∀j,(W1.drewN j).cell? ⟨S,3,none⟩=some (qj T):=fun j=>by
  have:=qb ((Keep.drewN' (fun _=>True) W1 j).heap q wE) 3 _ rfl
  simpa using this
 have bf:=qe q;have q1:=k1.heap q0 xz;have b0:=qb q1 0 _ rfl;have b1:=qb q1 1 _ rfl;have bk:=qe q1;have am:M≠S:=fun e=>by have:=d.tagM;rw [e,d.tagS] at this;cases this
 have hrel:=d.rels.keep k1 am;have az:=fun m=>qdn (P:=prog) Tryz.underlying112 qjl qil qla (hrel.keep (Keep.drewN' (fun _=>True) W1 m) wE) (p,n) (qjm hp hn) false;have r:=qhz d.box;have Y: ∀W,wD W1 W->wD w (W.setCell ⟨S,0,none⟩ (.int .i32 0))/\W.cell? ⟨S,0,none⟩=some (.int .i32 1)/\W.frozen? ⟨S,0,none⟩=false:=fun W hK=>
  ⟨k0.trans (qik d.box (by rw [af];exact hK)),by have:=qb (hK.heap q wE) 0 _ rfl;simpa using this,qg (hK.heap q wE) 0⟩
 have i:=lock_free qg4 ⟨S,0,none⟩ W0 (by simpa using a0) f0;rw [af]at i;have ah: ∀j,TabAt (W1.drewN j) T MX vx xs:=fun j=>d.table.keep (k1.trans (Keep.drewN' _ W1 j)) (fun e=>by have:=d.tagT;rw [e,d.tagS] at this;cases this) (fun e=>by have:=d.tagN;rw [e,d.tagS] at this;cases this) (fun b hb e=>by have:=d.tagx b hb;rw [e,d.tagS] at this;cases this);have al: ∀j,qal m (W1.drewN j) v t:=fun j=>(qmo ht k0).mono (fun b o s _ hs=>(k1.trans (Keep.drewN' _ W1 j)).cell hs (fun e=>qtu d.box (by rw [show b=S from e] at hs;exact hs)));have bn:=k1.size;have x:=fun j=>qln (a2 j) (ah j) m v t (al j) (by simp [World.drewN];omega) aZ;simp only [zD]at a0 a3 b0 b1;have ak: ∀u s,u∈qo c p n->s∈u->s∈xs:=fun u s hu hs=>hP.texts _ s (qc2.1 hu).1 hs;unfold qdu at az⊢;have ag: ∀(b:Bool),(t.all fun s=>decide (s∈xs))=b->(b=false->qen (qo c p n) t=none):=fun b hb h=>by
  subst h;refine qni fun hm=>?_;rw [all_eq_false]at hb;obtain⟨s,hs,hx⟩:=hb;exact hx (by simpa using ak t s hm hs)
 cases hl:qct rl (p,n) with
 |none=>
  simp only [hl,zy,yx]at az;have hk:=qlb hP hl;rw [hk];clear hl hrel am q af q0 q1 k1 hP k0 ak ag ht al ah;refine hd8 ?_ d r i aa hk Y x a2;clear d r i aa hk Y x a2;intro aq l k ab aX y z aH
  go_enter_defers Tryz.func95,Tryz.ntmps95
  go_wp2_with fail;rw [ab.o];refine l.o.mono ?_;rintro e w9 ⟨rfl,g⟩;have g:=g.symm;subst g;go_wp2_with fail;refine k.o.mono ?_;rintro e w9 ⟨rfl,g⟩;have g:=g.symm;subst g;go_wp2_with fail
  go_quiet (fail)
  go_wp2_with fail;refine(z.o _).mono ?_;rintro e W2 ⟨vo,rfl,-,-,k2⟩;obtain⟨ae,ai,aj⟩:=y.o W2 ((Keep.drewN' _ _ _).trans k2);clear k2;refine hd1 ?_ ae;clear ae;intro ad;go_wp2_with fail;refine leaves_cons (f:=73) (args:= #[.pointer (some ⟨S,0,none⟩)]) wB (by simp [go_sem]) ?_;refine(unlock_deferred qg4 ⟨S,0,none⟩ .returning _ ai aj).mono ?_;rintro e u' aT ⟨rfl,rfl,rfl⟩;exact⟨_,xZ rfl _ _ _,rfl,ad.o⟩
 |some R=>
  simp only [hl,zy,yx]at az;obtain⟨vD,P,K,lm,hR⟩:=d.rel _ _ (qew hl);have aP:R≠S:=fun e=>by have:=d.rel_at (qew hl);rw [e,d.tagS] at this;cases this
  have an:=hR.keep k1 (fun b U hb _ e=>by have:=qae.1 hb;rw [e,d.tagS] at this;cases this);simp only at an;have a4:=hP.xl;cases X:(t.all fun s=>decide (s∈xs)) with
  |false=>
   have hk:=ag _ X rfl;rw [hk];simp only [X]at x;clear hl hrel am q af q0 q1 k1 hP k0 ak ag ht al ah hR aP an X;refine hd8 ?_ d r i aa hk Y x a2;clear d r i aa hk Y x a2;intro aq l k ab aX y z aH
   go_enter_defers Tryz.func95,Tryz.ntmps95
   go_wp2_with fail;rw [ab.o];refine l.o.mono ?_;rintro e w9 ⟨rfl,g⟩;have g:=g.symm;subst g;go_wp2_with fail;refine k.o.mono ?_;rintro e w9 ⟨rfl,g⟩;have g:=g.symm;subst g;go_wp2_with fail
   go_quiet (fail)
   go_wp2_with fail;refine(z.o _).mono ?_;rintro e W2 ⟨vo,rfl,-,-,k2⟩;obtain⟨ae,ai,aj⟩:=y.o W2 ((Keep.drewN' _ _ _).trans k2);clear k2;refine hd1 ?_ ae;clear ae;intro ad;go_wp2_with fail;refine leaves_cons (f:=73) (args:= #[.pointer (some ⟨S,0,none⟩)]) wB (by simp [go_sem]) ?_;refine(unlock_deferred qg4 ⟨S,0,none⟩ .returning _ ai aj).mono ?_;rintro e u' aT ⟨rfl,rfl,rfl⟩;exact⟨_,xZ rfl _ _ _,rfl,ad.o⟩
  |true=>
   have aC: ∀s,s∈t->s∈xs:=fun s hs=>yD (yL.1 X s hs);have aR:=qpe ak aC;have aQ:=qpy aC a4;simp only [X]at x;clear hl hrel am q af q0 q1 k1 hP k0 ak ag ht ah hR aP X aC;have a1:t.length<=1073741824:=by
    obtain⟨_,_,_,h,_⟩:=al 0;exact h
   clear al;refine qc9 ?_ d r i aa Y x a2 an aR aQ;clear d r i aa Y x a2 an aR aQ;intro aq l k ab y z aH aI aL aJ
   go_enter_defers Tryz.func95,Tryz.ntmps95
   go_wp2_with fail;rw [ab.o];refine l.o.mono ?_;rintro e w9 ⟨rfl,g⟩;have g:=g.symm;subst g;go_wp2_with fail;refine k.o.mono ?_;rintro e w9 ⟨rfl,g⟩;have g:=g.symm;subst g;go_wp2_with fail
   go_quiet (fail)
   go_wp2_with fail;refine(z.o _).mono ?_;rintro e W2 ⟨vo,rfl,ho,-,k2⟩;have ho:=ho trivial;have aA:=ho;rw [←qdw xs t]at aA;have aD:wD W1 W2:=(Keep.drewN' _ _ _).trans k2;have aO:=aI.o.keep aD (fun _ _ _ _=>wE);have aB:=qtf aO W2.heap.size vo (qr xs t) (qd5 aA (by rw [qdw];exact a1)) (zG _) aJ.o;rw [aL.o]at aB;obtain⟨av,cv,rfl⟩:=qi ho;clear aO ho aA k2;refine hd2 ?_ aD aB;clear aD aB;intro aN aK;go_wp2_with fail;refine aK.o.mono ?_;rintro e W3 ⟨rfl,k3⟩;obtain⟨ae,ai,aj⟩:=y.o W3 (aN.o.trans (k3.mono fun b hb _=>hb));clear k3;refine hd1 ?_ ae;clear ae;intro ad;cases aS:qen (qo c p n) t
   all_goals
    unfold qkb;refine hd1 ?_ aS;clear aS;intro aM;go_wp2_with fail;refine leaves_cons (f:=73) (args:= #[.pointer (some ⟨S,0,none⟩)]) wB (by simp [go_sem]) ?_;refine(unlock_deferred qg4 ⟨S,0,none⟩ .returning _ ai aj).mono ?_;rintro e u' aT ⟨rfl,rfl,rfl⟩;exact⟨_,xZ rfl _ _ _,by rw [aM.o];rfl,ad.o⟩
end Go.Proofs
namespace Go.Proofs
open Go.RowKit Go.Ink R4
def qjk (cols:List Int)(key t:List ByteArray):Bool:=(List.range cols.length).all fun j=>decide (t[(cols.getD j 0).toNat]?=key[j]?)
def qit (c:List qy)(p:ByteArray)(n:Nat)(cols:List Int)(key:List ByteArray)(upto:Nat):List (List ByteArray):=((qo c p n).take upto).filter (qjk cols key)
theorem q2y {xs a b:List ByteArray}(g: ∀s,s∈a->s∈xs)(k: ∀s,s∈b->s∈xs)(i j:Nat):((qr xs a)[i]?=(qr xs b)[j]?)↔(a[i]?=b[j]?):=by
 unfold qr;rw [zP,zP];cases f:a[i]? with
 |none=>cases d:b[j]?<;>simp
 |some s=>
  cases d:b[j]? with
  |none=>simp
  |some t=>
   rw [Option.map_some,Option.map_some];constructor
   ·intro h;have h:=yH h;have hi:xs.idxOf s=xs.idxOf t:=by omega
    have l:=y9 (g s (zH f));have m:=y9 (k t (zH d));have c:xs[xs.idxOf s]?=some s:=by rw [zB l,getElem_idxOf]
    have e:xs[xs.idxOf t]?=some t:=by rw [zB m,getElem_idxOf]
    rw [hi,e]at c;exact c.symm
   ·intro h;cases h
    rfl
theorem qxv {xs t key:List ByteArray}(b:List Int)(d: ∀s,s∈t->s∈xs)(c: ∀s,s∈key->s∈xs):qkc (qr xs t) b (qr xs key)=qjk b key t:=by
 unfold qkc qjk
 congr 1
 funext j
 exact yi.2 (q2y d c _ _)
theorem qxw {α:Type}(p:α->Bool)(d:α)(l:List α)(upto:Nat):((List.range l.length).filter fun i=>decide (i<upto)&&p (l.getD i d)).map (fun i=>l.getD i d)=(l.take upto).filter p:=by
 have h: ∀k,k<=l.length->((List.range k).filter fun i=>decide (i<upto)&&p (l.getD i d)).map (fun i=>l.getD i d)=((l.take k).take upto).filter p:=by
  intro k
  induction k with
  |zero=>intro _;simp
  |succ k ih=>
   intro g;have b:=zB (show k<l.length from xz);have e:l.getD k d=l[k]:=by rw [zJ,b];rfl
   have f:l.take (k+1)=l.take k++ [l[k]]:=by rw [zh,b];rfl
   rw [xw,yS,zm,ih xz,f,take_append,yS,yB,xP (show k<=l.length from xz)]
   congr 1
   rw [ye,filter_nil,e];by_cases c:k<upto
   ·rw [zS c,yT,yw (by simp;omega),ye,filter_nil];split<;>simp [b]
   ·rw [zM c,show upto-k=0 from xz]
    rfl
 have:=h l.length (zG _)
 rwa [zi] at this
theorem qxx {c:List qy}{p:ByteArray}{n:Nat}{xs:List ByteArray}{b:List Int}{key:List ByteArray}{upto:Nat}(e: ∀u s,u∈qo c p n->s∈u->s∈xs)(k: ∀s,s∈key->s∈xs)(d:qdf n b=true)(f:key.length=b.length):
  (qdy n ((qo c p n).map (qr xs)) b (qr xs key) 0 (upto:Int)).map (fun i=>(qo c p n).getD i [])=qit c p n b key upto:=by
 unfold qdy qit;rw [zI (by rw [d,zS (by rw [qdw];exact f)];rfl),zL,←qxw (qjk b key) [] (qo c p n) upto]
 congr 1
 refine filter_congr fun i hi=>?_;rw [yh]at hi;have g:=zB hi;have h:((qo c p n).map (qr xs)).getD i []=qr xs (qo c p n)[i]:=by rw [zJ,zP,g];rfl
 have j:(qo c p n).getD i []=(qo c p n)[i]:=by rw [zJ,g];rfl
 unfold qwq;rw [h,j,qxv b (fun s l=>e _ s (xD hi) l) k,zS (show(0:Int)<=(i:Int) from xz),yT]
 congr 1
 exact yi.2 xz
theorem q0m {c:List qy}{p:ByteArray}{n:Nat}{xs:List ByteArray}{b:List Int}{key:List ByteArray}{upto:Nat}(e: ∀u s,u∈qo c p n->s∈u->s∈xs)(f:key.length=b.length)(h:(key.all fun s=>decide (s∈xs))=false):qit c p n b key upto= []:=by
 unfold qit;refine filter_eq_nil_iff.2 fun t k d=>?_;rw [all_eq_false]at h;obtain⟨s,i,l⟩:=h;obtain⟨j,g⟩:=zw.1 i;unfold qjk at d;have:=yL.1 d j (yh.2 (by rw [←f];exact(zA.1 g).1));have:=yD this;rw [g]at this;exact l (by simpa using e t s (xj k) (zH this))
theorem q0n {a:Asg}{ts:List TermD}{t:List ByteArray}(h:ts.length=t.length):qjk (qip a ts) (qnt a ts) t=qi6 a ts t:=by
 rw [qy7 (k:=0) h];unfold qjk qip qnt;rw [yt,yL,yL];constructor
 ·intro c p f;obtain⟨j,b⟩:=zw.1 f;have e:=(zA.1 b).1;have:=yD (c j (yh.2 (by rw [zL];exact e)));rw [zJ,zP,zP,b]at this
  simpa using this
 ·intro c j b;rw [yh,zL]at b;have d:=zB b;have:=yD (c _ (xD b));rw [zJ,zP,zP,d]
  simpa using this
theorem q2z {c:List qy}{p:ByteArray}{a:Asg}{ts:List TermD}{upto:Nat}:qit c p ts.length (qip a ts) (qnt a ts) upto=((qo c p ts.length).take upto).filter (qi6 a ts):=by
 unfold qit;refine filter_congr fun t b=>?_;exact q0n (qc2.1 (xj b)).2.symm
theorem q20 (a:Asg)(ts:List TermD):qdf ts.length (qip a ts)=true:=by
 unfold qdf;rw [yL];intro i hi;rw [yh]at hi;unfold qip at hi⊢;rw [zL]at hi;have f:=zB hi;have c:=qma (xD hi);have g:=qwy (a:=a) (ts:=ts) (k:=0);have d:((qam a ts 0).map fun p=>(p.1:Int)).getD i 0=((qam a ts 0)[i].1:Int):=by rw [zJ,zP,f];rfl
 unfold qhp;rw [d,zS xz,zS xz,yT,yT,y8,xB];cases i with
 |zero=>exact .inl rfl
 |succ i=>
  right;have b:=zB (show i<(qam a ts 0).length from xz)
  have e:((qam a ts 0).map fun p=>(p.1:Int)).getD (i+1-1) 0=((qam a ts 0)[i].1:Int):=by rw [Nat.add_sub_cancel,zJ,zP,b];rfl
  rw [e];have:=pairwise_iff_getElem.1 g i (i+1) xz hi xz;exact zS xz
def RowsAt (P:Nat->Prop)(w:World)(v:Value)(tss:List (List ByteArray)):Prop:=
 ∃us:List Value,us.length=tss.length/\w.ownsRow 0 60 1 v us.length us/\(∀b,v.ownBlock=some b->P b)/\
  ∀(k:Nat) (u:Value) (t:List ByteArray),us[k]?=some u->tss[k]?=some t->w.ownsRow 0 9 1 u t.length (t.map .string)/\ ∀b,u.ownBlock=some b->P b
theorem RowsAt.keep {P P':Nat->Prop}{w w':World}{v:Value}{d:List (List ByteArray)}{C:Nat->Prop}(h:RowsAt P w v d)(hK:Keep C w w')(e: ∀b,b<w.heap.size->P b->C b/\P' b):RowsAt P' w' v d:=by
 obtain⟨r,l,f,i,m⟩:=h;refine⟨r,l,qf f hK (fun b c=>(e b (zE f b c).2 (i b c)).1),fun b c=>(e b (zE f b c).2 (i b c)).2,fun k u t q p=>?_⟩;obtain⟨g,j⟩:=m k u t q p;exact⟨qf g hK (fun b c=>(e b (zE g b c).2 (j b c)).1),fun b c=>(e b (zE g b c).2 (j b c)).2⟩
theorem qtv {P:Nat->Prop}(w:World):RowsAt P w (.slice none 0 0) []:=⟨[],rfl,zj _ _ _ _,fun b c=>by simp [Value.ownBlock] at c,fun k u t d=>by simp at d⟩
end Go.Proofs
namespace Go.Proofs
open Go.RowKit Go.Ink R4 Go.MuLone
attribute [local go_sem] Oper.semAt_some
theorem q0o (a:Addr)(u:FrameMode)(w:World)(c:w.cell? a=some (.int .i32 1))(d:w.frozen? a=false):
  CallsDIn Fence.wide 0 prog 73 #[.pointer (some a)] u w fun e u' w'=>u'=u/\(e=.returned (.tuple #[])/\w'=w.setCell a (.int .i32 0)):=by
 have b:=iunlock_held qg4 a;refine callsDIn_of_wp (F:=Fence.wide) (n:=0) Tryz.func73 rfl trivial (xc.2 ?_);simp only [Tryz.ntmps73,size_toArray,length_cons,length_nil,Nat.reduceAdd,Nat.reduceSub,Array.replicate_succ,Array.replicate_zero,push_toArray,append_toArray,nil_append,cons_append];go_wp2_with fail;refine(b _ c d).mono ?_;rintro e w' ⟨rfl,rfl⟩;go_wp2_with fail
 go_end0
 exact⟨rfl,rfl⟩
theorem qgr {fn:Func}{tmps:Array Value}{R:Ending->World->Prop}{d:List Deferred}{a:Addr}{w:World}(k:w.cell? a=some (.int .i32 1))(q:w.frozen? a=false)
  (h:LeavesInM Fence.wide 0 prog fn tmps R d .returning (w.setCell a (.int .i32 0))):
  LeavesInM Fence.wide 0 prog fn tmps R ({target:=.fn (.func 73) #[],args:= #[.pointer (some a)]}::d) .returning w:=by
 refine⟨wB,.inr ⟨fun h=>(by simp [Fence.wide] at h),_,_,73,#[.pointer (some a)],rfl,by simp [invoke,go_sem],fun _ _=>wE,?_⟩⟩;obtain⟨i,j⟩:=q0o a .returning w k q;refine⟨i,fun c f b l=>?_⟩;obtain⟨e,r,w',g,⟨rfl,rfl,rfl⟩,m,p⟩:=j c f b l;exact⟨_,_,_,g,h,m,p⟩
end Go.Proofs
