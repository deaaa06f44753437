/- Parts of the proof. -/
import Derived.Test.YtnponcjnahicnaaGreatDoorJnDToTbB
import Derived.Deep.Cut
import Derived.Conc.MuLone
set_option linter.unusedSimpArgs false
set_option linter.unusedVariables false
set_option maxRecDepth 100000
set_option maxHeartbeats 2000000
open Go.Proofs.Tryz(prog)
open List(getElem_idxOf map_singleton replicate_succ replicate_zero set_append_right toArray_replicate toList_toArray)
namespace Go.Proofs
open Go.RowKit Go.Ink
attribute [local go_sem] Oper.semAt_some
theorem qq3 {w:World}{g base:Nat}{e:TypeId}{vs:List Value}(h:w.heap[g]?=some (.cells vs.toArray e (0,0)))(b:base<=g)(c:vs.length<=maxLen):w.ownsRow base e 1 (.slice (some ⟨g,0,none⟩) vs.length vs.length) vs.length vs:=
 ⟨wB,.inr ⟨g,vs.length,vs.toArray,rfl,b,h,zG _,c,wB,wB⟩⟩
theorem qq4 (n:Nat):madeCells #[.int .i64 0] n=Array.replicate n (Value.int .i64 0):=by
 apply Array.ext
 ·simp [madeCells]
 ·intro i b c;simp [madeCells,Nat.mod_one]
theorem qq5 (n:Nat):madeCells #[.string ⟨#[]⟩] n=Array.replicate n (Value.string ⟨#[]⟩):=by
 apply Array.ext
 ·simp [madeCells]
 ·intro i b c;simp [madeCells,Nat.mod_one]
theorem qty:(prog.info? 3).map (fun i=>(i.zero,i.size,i.bytes))=some (some (.int .i64 0),1,8):=wA
theorem qtz:(prog.info? 9).map (fun i=>(i.zero,i.size,i.bytes))=some (some (.string ⟨#[]⟩),1,16):=wA
theorem qt0 (n:Nat)(h:n<=1073741824)(u:World):(Instr.makeSlice 125 (.int .i64 (n:Int)) (.int .i64 (n:Int))).run prog u=
  .ok (.slice (some ⟨u.heap.size,0,none⟩) n n) (u.alloc (.cells (Array.replicate n (Value.int .i64 0)) 3)):=by
 obtain⟨i0,hi,b,c,d⟩:=info_parts qty;have h:=run_make (P:=prog) u 125 3 i0 (.int .i64 0) Tryz.underlying125 hi b .i64 .i64 (n:Int) (n:Int) xz (Int.le_refl _) (by rw [d];omega) xz
 simpa [c,Value.cells,qq4]using h
theorem qmq (n:Nat)(h:n<=1073741824)(u:World):(Instr.makeSlice 60 (.int .i64 (n:Int)) (.int .i64 (n:Int))).run prog u=
  .ok (.slice (some ⟨u.heap.size,0,none⟩) n n) (u.alloc (.cells (Array.replicate n (Value.string ⟨#[]⟩)) 9)):=by
 obtain⟨i0,hi,b,c,d⟩:=info_parts qtz;have h:=run_make (P:=prog) u 60 9 i0 (.string ⟨#[]⟩) Tryz.underlying60 hi b .i64 .i64 (n:Int) (n:Int) xz (Int.le_refl _) (by rw [d];omega) xz
 simpa [c,Value.cells,qq5]using h
theorem qv2 (l:List Value)(k:Nat)(v z:Value)(h:l.length=k)(m:Nat):(l++List.replicate (m+1) z).set k v=(l++ [v])++List.replicate m z:=by
 rw [set_append_right _ _ xz,h,xX,replicate_succ];simp
theorem q0t (xs ss:List ByteArray){k:Nat}{s:ByteArray}(h:ss[k]?=some s):(ss.take (k+1)).foldl q8 xs=q8 ((ss.take k).foldl q8 xs) s:=by
 rw [zh,h,yk]
 rfl
theorem q21 {s:ByteArray}{ts xs:List ByteArray}(h:s∈ts):s∈ts.foldl q8 xs:=qf6.2 (.inr h)
theorem q0u (xs ss:List ByteArray){k:Nat}{s:ByteArray}(h:ss[k]?=some s):qr ((ss.take (k+1)).foldl q8 xs) (ss.take (k+1))=qr ((ss.take k).foldl q8 xs) (ss.take k)++ [((((ss.take (k+1)).foldl q8 xs).idxOf s:Nat):Int)]:=by
 have e:ss.take (k+1)=ss.take k++ [s]:=by rw [zh,h];rfl
 unfold qr;rw [e,zm,map_singleton]
 congr 1
 refine yz fun t b=>?_;rw [yk];exact yM _ (qsp (ts:= [s]) (q21 b))
theorem qrk {w:World}{T MX:Nat}{vx:Value}{xs:List ByteArray}(h:TabAt w T MX vx xs)(m:Nat)(v:Value)(ss:List ByteArray)(aD:qal m w v ss)(hm:m<=w.heap.size)(aC: ∀s,s∈ss->s.size<=1073741824)(hl:xs.length+ss.length<=1073741824)
  (x: ∀a n c,v=.slice (some a) n c->a.block≠T/\a.block≠MX/\vx.ownBlock≠some a.block):
  Calls prog 92 #[pV T,v] w fun e w'=> ∃vo vx',e=.returned (.tuple #[vo,.int .i64 0])/\TabAt w' T MX vx' (ss.foldl q8 xs)/\
   w'.ownsRow w.heap.size 3 1 vo ss.length ((qr (ss.foldl q8 xs) ss).map (.int .i64))/\Keep (fun b=>b≠T/\b≠MX/\vx.ownBlock≠some b) w w'/\
   (∀b,vx'.ownBlock=some b->vx.ownBlock=some b∨w.heap.size<=b)/\(∀b,vo.ownBlock=some b->vx'.ownBlock≠some b):=by
 obtain⟨a,c,rfl,aS,a7,ay⟩:=id aD;have bb:=qe h.tab;have ba:=h.nums.lt;obtain⟨B,hB⟩:=ex (w.heap.size);obtain⟨W0,t⟩:=ex (w.alloc (.cells (Array.replicate ss.length (Value.int .i64 0)) 3));have k0:wD w W0:=by rw [←t];exact kAl
 have z0:W0.heap.size=w.heap.size+1:=by rw [←t];simp
 have q0:W0.heap[w.heap.size]?=some (.cells (List.replicate ss.length (Value.int .i64 0)).toArray 3 (0,0)):=by rw [←t,toArray_replicate];exact qh _ _
 have h0:=h.keep k0 trivial trivial (fun _ _=>wE);have aT:=fun u=>qt0 ss.length aS u;have y:=qev h;have X: ∀b,vx.ownBlock=some b->b<w.heap.size:=fun b l=>(zE h.own b l).2;rw [hB]at q0 z0 X;clear aD;refine qg5 ?_ ay aC x k0 q0 h0 t hB h y X;clear ay aC x k0 q0 h0 t hB h y X;intro ao aq aa aN aP aL an d Xh ab g
 go_enter Tryz.func92,Tryz.ntmps92
 go_wp2_with fail;refine ab.o.mono ?_;rintro e w9 ⟨rfl,al⟩;have al:=al.symm;subst al;go_wp2_with fail;rw [an.o,d.o];clear aT
 go_loopw [17] (fun i' wr=> ∃(k:Nat) (vx':Value),k<=ss.length/\i'=.int .i64 (k:Int)/\TabAt wr T MX vx' ((ss.take k).foldl q8 xs)/\wr.heap[B]?=some (.cells (((qr ((ss.take k).foldl q8 xs) (ss.take k)).map (Value.int .i64))++List.replicate (ss.length-k) (Value.int .i64 0)).toArray 3 (0,0))/\
  Keep (fun b=>b<B/\b≠T/\b≠MX/\vx.ownBlock≠some b) w wr/\(∀b,vx'.ownBlock=some b->vx.ownBlock=some b∨B<b)) (fun i _=>ss.length-(intOf i).toNat)
 case atStart=>exact⟨0,vx,xz,rfl,aL.o,by simpa [qr] using aP.o,aN.o.mt,fun b l=>.inl l⟩
 case round=>
  obtain⟨k,vx',hk,rfl,hT,j,hK,Y⟩:=hrel;have bc:=hK.size;have a3:=qe j;by_cases az:k<ss.length
  ·have a0:(k:Int)<ss.length:=by omega
   have a9:(0:Int)<=k:=xz
   obtain⟨s,hs⟩: ∃s,ss[k]?=some s:=⟨_,zB az⟩;obtain⟨b,o,rfl,a4,hc⟩:=ao.o k s hs;have ad:=aa.o _ _ _ rfl;unfold qf2 at hc;simp only [yA]at hc;have a8:=hK.cell hc ⟨by have:=d.o;simp only;omega,ad.1,ad.2.1,ad.2.2⟩;have a5:b<wr.heap.size:=by have:=d.o;omega
   have aG:=(qkz (ss.take k) xs).2;rw [yB,xP hk]at aG;have R:=qw0 hT s (aq.o s (zH hs)) xz;rw [←q0t xs ss hs]at R;have aA:=q0u xs ss hs;have z:(qr ((ss.take k).foldl q8 xs) (ss.take k)).length=k:=by unfold qr;rw [zL,yB,xP hk]
   have ax:T≠B:=by have:=qe Xh.o.tab;have:=d.o;omega
   have av:MX≠B:=by have:=Xh.o.nums.lt;have:=d.o;omega
   have aF:vx'.ownBlock≠some B:=fun e=>by
    rcases Y B e with h1 |h1
    ·have:=g.o B h1;omega
    ·omega
   clear hc hs ad aG hT;refine hd9 ?_ R j hK Y aA z ax av aF;clear R j hK Y aA z ax av aF;intro aj p ai f ap q ag af au;go_wp2_with fail;refine aj.o.mono ?_;rintro e W2 ⟨aH,rfl,aw,k2,aE⟩;have r:=k2.heap p.o ⟨ag.o.symm,af.o.symm,au.o⟩;have a2:=qg r k;have aY:=qe r;have U:=qz k (.int .i64 (((List.foldl q8 xs (ss.take (k+1))).idxOf s:Nat):Int)) r;rw [yJ,show ss.length-k=ss.length-(k+1)+1 from xz,qv2 _ k _ _ (by rw [zL];exact q.o)]at U;have a6:W2.cell? ⟨B,k,none⟩=some (.int .i64 0):=by
    have:=qb r k (.int .i64 0) (by
     simp only [toList_toArray];rw [yG (by rw [zL,q.o];exact zG _),zL,q.o,xX,xT,zI xz])
    simpa using this
   have bf:=k2.size;clear r;refine hd4 ?_ aw k2 aE U;clear aw k2 aE U;intro am aO ar ak;go_wp2_with fail;go_roundw
   case rel=>
    have kB:Keep (fun b=>b≠B) W2 (W2.setCell ⟨B,k,none⟩ (.int .i64 (((List.foldl q8 xs (ss.take (k+1))).idxOf s:Nat):Int))):=kSc;have ah: ∀b,aH.ownBlock=some b->vx.ownBlock=some b∨B<b:=fun b l=>by
     rcases ar.o b l with h1 |h1
     ·exact f.o b h1
     ·exact .inr xz
    refine⟨k+1,aH,xz,by go_num,am.o.keep kB ag.o af.o (fun b l e=>?_),?_,?_,ah⟩
    ·subst e;rcases ah _ l with h1 |h1
     ·have:=g.o _ h1;omega
     ·omega
    ·rw [ap.o,zm];exact ak.o
    ·refine(ai.o.trans (aO.o.mono fun b l h=>⟨h.2.1,h.2.2.1,fun e=>?_⟩)).trans (kB.mono fun b _ h=>xz);rcases f.o b e with h1 |h1
     ·exact h.2.2.2 h1
     ·omega
   case measure=>simp [intOf];omega
  ·obtain rfl:k=ss.length:=by omega
   rw [zi]at hT j;rw [xX,replicate_zero,yO]at j;clear az;refine hd4 ?_ hT j hK Y;clear hT j hK Y;intro aM p ai f;go_wp2_with fail
   go_ret2
   have z:((qr (ss.foldl q8 xs) ss).map (Value.int .i64)).length=ss.length:=by unfold qr;rw [zL,zL]
   have ho:=qq3 p.o (base:=B) (zG _) (by rw [z];simp only [maxLen];omega);rw [z]at ho;refine⟨_,vx',rfl,aM.o,ho.mono (by have:=d.o;omega),ai.o.mono fun b l h=>⟨by have:=d.o;omega,h⟩,fun b l=>(f.o b l).imp id (fun h=>by have:=d.o;omega),fun b l e=>?_⟩;have aR:B=b:=by simpa [Value.ownBlock] using l
   subst aR;rcases f.o _ e with h1 |h1
   ·have:=g.o _ h1;omega
   ·omega
theorem qt1 {w:World}{T MX:Nat}{vx:Value}{xs:List ByteArray}(h:TabAt w T MX vx xs)(m:Nat)(v:Value)(t:List ByteArray)(ad: ∀s,s∈t->s∈xs)(ai:qan m w v (qr xs t))(hm:m<=w.heap.size)(hl:xs.length<=1073741824):
  Calls prog 142 #[pV T,v] w fun e w'=> ∃vo,e=.returned (.tuple #[vo,.int .i64 0])/\w'.ownsRow w.heap.size 9 1 vo t.length (t.map .string)/\wD w w':=by
 obtain⟨a,c,rfl,ae,ar,ab⟩:=id ai;have ah:(qr xs t).length=t.length:=by unfold qr;rw [zL]
 rw [ah]at ae ar⊢;have aJ:=qe h.tab;obtain⟨B,hB⟩:=ex (w.heap.size);obtain⟨W0,j⟩:=ex (w.alloc (.cells (Array.replicate t.length (Value.string ⟨#[]⟩)) 9));have k0:wD w W0:=by rw [←j];exact kAl
 have z0:W0.heap.size=w.heap.size+1:=by rw [←j];simp
 have q0:W0.heap[w.heap.size]?=some (.cells (List.replicate t.length (Value.string ⟨#[]⟩)).toArray 9 (0,0)):=by rw [←j,toArray_replicate];exact qh _ _
 have au:=fun u=>qmq t.length ae u;have l:=qev h;rw [hB]at q0 z0;clear ai ah;refine hd8 ?_ ab ad k0 q0 j hB h l;clear ab ad k0 q0 j hB h l;intro U X ao ap R f Xh q
 go_enter Tryz.func142,Tryz.ntmps142
 go_wp2_with fail;refine q.o.mono ?_;rintro e w9 ⟨rfl,g⟩;have g:=g.symm;subst g;go_wp2_with fail;rw [R.o,f.o];clear au
 go_loopw [19] (fun i' wr=> ∃(k:Nat),k<=t.length/\i'=.int .i64 (k:Int)/\wr.heap[B]?=some (.cells (((t.take k).map Value.string)++List.replicate (t.length-k) (Value.string ⟨#[]⟩)).toArray 9 (0,0))/\
  Keep (fun b=>b<B) w wr) (fun i _=>t.length-(intOf i).toNat)
 case atStart=>exact⟨0,xz,rfl,by simpa using ap.o,ao.o.mt⟩
 case round=>
  obtain⟨k,hk,rfl,d,hK⟩:=hrel;have aK:=hK.size;have aB:=qe d;by_cases af:k<t.length
  ·have ax:(k:Int)<t.length:=by omega
   have aH:(0:Int)<=k:=xz
   obtain⟨s,hs⟩: ∃s,t[k]?=some s:=⟨_,zB af⟩;obtain⟨b,o,rfl,aC,hc⟩:=U.o k (((xs.idxOf s:Nat):Int)) (by unfold qr;rw [zP,hs];rfl);unfold qe8 at hc;simp only [yA]at hc;have aF:=hK.cell hc (by have:=f.o;simp only;omega);have aD:b<wr.heap.size:=by have:=f.o;omega
   have ag:=X.o s (zH hs);have hT:TabAt wr T MX vx xs:=Xh.o.keep hK (by have:=f.o;omega) (by have:=Xh.o.nums.lt;have:=f.o;omega) (fun b hb=>by have:=(zE Xh.o.own b hb).2;have:=f.o;omega);have ak:=qum hT (xs.idxOf s) s (by rw [zB (y9 ag),getElem_idxOf]) hl;have r:(t.take k).length=k:=by rw [yB,xP hk]
   have aj:t.take (k+1)=t.take k++ [s]:=by rw [zh,hs];rfl
   have aA:=qg d k;have p:=qz k (.string s) d;rw [yJ,show t.length-k=t.length-(k+1)+1 from xz,qv2 _ k _ _ (by rw [zL];exact r)]at p;have aE:wr.cell? ⟨B,k,none⟩=some (.string ⟨#[]⟩):=by
    have:=qb d k (.string ⟨#[]⟩) (by
     simp only [toList_toArray];rw [yG (by rw [zL,r];exact zG _),zL,r,xX,xT,zI xz])
    simpa using this
   clear hc hs hT ag r;refine hd5 ?_ ak d hK aj p;clear ak d hK aj p;intro aa x y Y z;go_wp2_with fail;refine aa.o.mono ?_;rintro e w9 ⟨rfl,g⟩;have g:=g.symm;subst g;go_wp2_with fail;go_roundw
   case rel=>
    refine⟨k+1,xz,by go_num,?_,y.o.trans (kSc)⟩;rw [Y.o,zm];exact z.o
   case measure=>simp [intOf];omega
  ·obtain rfl:k=t.length:=by omega
   rw [zi,xX,replicate_zero,yO]at d;clear af;refine hd2 ?_ d hK;clear d hK;intro x y;go_wp2_with fail
   go_ret2
   have ho:=qq3 x.o (base:=B) (zG _) (by rw [zL];simp only [maxLen];omega);rw [zL]at ho;exact⟨_,rfl,ho.mono (by have:=f.o;omega),y.o.mono fun b hb _=>by have:=f.o;omega⟩
theorem qx0 (w:World):Calls prog 79 #[] w fun e w'=> ∃T MX,e=.returned (pV T)/\TabAt w' T MX (.slice none 0 0) []/\w.heap.size<=T/\w.heap.size<=MX/\T≠MX/\wD w w':=by
 have b:= @run_makeMap prog
 go_enter Tryz.func79,Tryz.ntmps79
 go_wp2;go_ret;refine⟨w.heap.size+1,w.heap.size,rfl,⟨?_,zj _ _ _ _,?_⟩,xz,xz,xz,kAl.trans kAl⟩
 ·have h:=qh (w.alloc (.map #[] 0)) (.cells #[.slice none 0 0,.map (some w.heap.size)] 201)
  simpa using h
 ·exact(qhf w).keep (Keep.alloc (fun _=>True) _ _) trivial
end Go.Proofs
namespace Go.Proofs
open Go.RowKit Go.Ink R4
attribute [local go_sem] Oper.semAt_some
inductive qx1 where
 |box |tab |texts |nums |rels
 |rel (R:Nat) (T:Tag)
abbrev qcv:=Nat->Option (Nat×qx1)
def qaw (tag:qcv)(S R:Nat):qbu:=fun b=>match tag b with
 |some (S',.rel R' T)=>if S'=S/\R'=R then some T else none
 |_=>none
theorem qae {tag:qcv}{S R b:Nat}{T:Tag}:qaw tag S R b=some T↔tag b=some (S,.rel R T):=by
 unfold qaw;constructor
 ·intro h;split at h
  ·rename_i S' R' T' ht;split at h
   ·rename_i hc;obtain⟨rfl,rfl⟩:=hc;cases h;exact ht
   ·cases h
  ·cases h
 ·intro h;rw [h];simp
def qdu (k:ByteArray×Nat):Value:=.agg #[.string k.1,.int .i64 (k.2:Int)]
abbrev qh0 (w:World)(b:Nat)(m:List ((ByteArray×Nat)×Nat)):Prop:=MapIn prog 153 qdu qj w b m
def qea (T M n:Nat):List Value:= [.int .i32 0,.int .u32 0,.bool true,qj T,.map (some M),.int .i64 (n:Int)]
structure StParts (tag:qcv)(w:World)(S:Nat)(c:List qy)(T M MX:Nat)(vx:Value)(xs:List ByteArray)(rl:List ((ByteArray×Nat)×Nat)):Prop where
 tagS:tag S=some (S,.box)
 box:w.heap[S]?=some (.cells (qea T M c.length).toArray 116 (0,0))
 tagT:tag T=some (S,.tab)
 tab:w.heap[T]?=some (.cells #[vx,.map (some MX)] 201 (0,0))
 own:w.ownsRow 0 9 1 vx xs.length (xs.map .string)
 tagx: ∀b,vx.ownBlock=some b->tag b=some (S,.texts)
 tagN:tag MX=some (S,.nums)
 nums:qou w MX xs.zipIdx
 tagM:tag M=some (S,.rels)
 rels:qh0 w M rl
 rel: ∀k R,(k,R)∈rl-> ∃vD P K lm,qb5 (qaw tag S R) w R k.2 ((qo c k.1 k.2).map (qr xs)) vD P K lm
 inj:(rl.map (·.2)).Nodup
 all: ∀f,f∈c-> ∃R,((f.pred,f.tuple.length),R)∈rl
 texts: ∀f s,f∈c->s∈f.tuple->s∈xs
 nodup:c.Nodup
 few:c.length<=67108864
 xfew:xs.length<=16*c.length
def StoreAt (tag:qcv)(w:World)(S:Nat)(c:List qy):Prop:= ∃T M MX vx xs rl,StParts tag w S c T M MX vx xs rl
theorem StParts.keep {tag tag':qcv}{w w':World}{S:Nat}{c:List qy}{T M MX:Nat}{j:Value}{xs:List ByteArray}{i:List ((ByteArray×Nat)×Nat)}{C:Nat->Prop}(h:StParts tag w S c T M MX j xs i)(hK:Keep C w w')
  (f: ∀b U,tag b=some (S,U)->C b) (d: ∀b U,tag' b=some (S,U)↔tag b=some (S,U)):StParts tag' w' S c T M MX j xs i:=by
 have q: ∀R,qaw tag' S R=qaw tag S R:=fun R=>xy fun b=>by
  cases e:qaw tag S R b with
  |some U=>exact qae.2 ((d b _).2 (qae.1 e))
  |none=>
   cases l:qaw tag' S R b with
   |none=>rfl
   |some U=>
    have:=qae.2 ((d b _).1 (qae.1 l));rw [e]at this;cases this
 refine⟨(d _ _).2 h.tagS,hK.heap h.box (f _ _ h.tagS),(d _ _).2 h.tagT,hK.heap h.tab (f _ _ h.tagT),qf h.own hK (fun b g=>f b _ (h.tagx b g)),fun b g=>(d _ _).2 (h.tagx b g),(d _ _).2 h.tagN,h.nums.keep hK (f _ _ h.tagN),(d _ _).2 h.tagM,h.rels.keep hK (f _ _ h.tagM),fun k R p=>?_,h.inj,h.all,h.texts,h.nodup,h.few,h.xfew⟩;obtain⟨vD,P,K,lm,m⟩:=h.rel k R p;rw [q];exact⟨vD,P,K,lm,m.keep hK (fun b U g _=>f b _ (qae.1 g))⟩
theorem StoreAt.keep {tag tag':qcv}{w w':World}{S:Nat}{c:List qy}{C:Nat->Prop}(h:StoreAt tag w S c)(hK:Keep C w w')(d: ∀b U,tag b=some (S,U)->C b)(e: ∀b U,tag' b=some (S,U)↔tag b=some (S,U)):StoreAt tag' w' S c:=by
 obtain⟨T,M,MX,g,xs,f,h⟩:=h;exact⟨T,M,MX,g,xs,f,h.keep hK d e⟩
structure Gh where
 st:Nat->Option (List qy)
 tag:qcv
 held:Nat->Option Obj
def Gh.free (g:Gh)(b:Nat):Prop:=g.tag b=none/\g.held b=none
structure GInv (g:Gh)(w:World):Prop where
 store: ∀S c,g.st S=some c->StoreAt g.tag w S c
 own: ∀b S T,g.tag b=some (S,T)-> ∃c,g.st S=some c
 lt: ∀b T,g.tag b=some T->b<w.heap.size
 hold: ∀b o,g.held b=some o->w.heap[b]?=some o
 apart: ∀b o,g.held b=some o->g.tag b=none
 reln: ∀b S R U,g.tag b=some (S,.rel R U)->R<w.heap.size
structure GBd (g:Gh)(n:Nat)(g':Gh):Prop where
 more: ∀S c,g.st S=some c-> ∃d,g'.st S=some (c++d)
 new: ∀b,b<n->g.free b->g'.free b
 held: ∀b,b<n->g'.held b=g.held b
structure GStep (n0:Nat)(g:Gh)(X:World)(g':Gh)(Y:World):Prop where
 keep:Keep g.free X Y
 more: ∀S c,g.st S=some c-> ∃d,g'.st S=some (c++d)
 new: ∀b,b<X.heap.size->g.free b->g'.free b
 held: ∀b,b<n0->g'.held b=g.held b
 inv:GInv g' Y
theorem GBd.refl (g:Gh)(n:Nat):GBd g n g:=⟨fun S c h=>⟨[],by rw [h,yO]⟩,fun _ _ h=>h,fun _ _=>rfl⟩
theorem GBd.mono {g c:Gh}{n n0:Nat}(h:GBd g n c)(e:n0<=n):GBd g n0 c:=⟨h.more,fun b d=>h.new b xz,fun b d=>h.held b xz⟩
theorem GBd.trans {g j f:Gh}{n l:Nat}(h:GBd g n j)(k:GBd j l f)(s:n<=l):GBd g n f:=by
 refine⟨fun S c m=>?_,fun b i r=>k.new b xz (h.new b i r),fun b i=>(k.held b xz).trans (h.held b i)⟩;obtain⟨d,p⟩:=h.more S c m;obtain⟨e,q⟩:=k.more S _ p;exact⟨d++e,by rw [q,yq]⟩
theorem GInv.keep {g:Gh}{X Y:World}(h:GInv g X)(hK:Keep (fun b=> ¬g.free b) X Y):GInv g Y:=by
 refine⟨fun S c f=>(h.store S c f).keep hK (fun b U d e=>by rw [e.1] at d;cases d) (fun _ _=>Iff.rfl),h.own,fun b T d=>zk (h.lt b T d) hK.size,fun b o d=>hK.heap (h.hold b o d) (fun e=>by rw [e.2] at d;cases d),h.apart,fun b S R U d=>zk (h.reln b S R U d) hK.size⟩
theorem GStep.bd {n0:Nat}{g c:Gh}{X Y:World}(h:GStep n0 g X c Y)(e:n0<=X.heap.size):GBd g n0 c:=⟨h.more,fun b d=>h.new b xz,h.held⟩
theorem GStep.mono {n0 n1:Nat}{g c:Gh}{X Y:World}(h:GStep n0 g X c Y)(e:n1<=n0):GStep n1 g X c Y:=⟨h.keep,h.more,h.new,fun b d=>h.held b xz,h.inv⟩
theorem GStep.refl {n0:Nat}{g:Gh}{X:World}(h:GInv g X):GStep n0 g X g X:=⟨Keep.refl _ _,(GBd.refl g 0).more,fun _ _ h=>h,fun _ _=>rfl,h⟩
theorem GStep.trans {n0:Nat}{g l j:Gh}{X Y Z:World}(h:GStep n0 g X l Y)(k:GStep n0 l Y j Z):GStep n0 g X j Z:=by
 have z:=h.keep.size;have m:Keep (fun b=>g.free b/\b<X.heap.size) X Y:=h.keep.mono fun b _ f=>f.1;have p:Keep (fun b=>g.free b/\b<X.heap.size) Y Z:=k.keep.mono fun b _ f=>h.new b f.2 f.1;refine⟨(m.trans p).mono fun b i f=>⟨f,i⟩,fun S c q=>?_,fun b i f=>k.new b xz (h.new b i f),fun b i=>(k.held b i).trans (h.held b i),k.inv⟩;obtain⟨d,r⟩:=h.more S c q;obtain⟨e,s⟩:=k.more S _ r;exact⟨d++e,by rw [s,yq]⟩
theorem GStep.own {n0:Nat}{g:Gh}{X Y:World}(h:GInv g X)(hK:wD X Y):GStep n0 g X g Y:=⟨hK.mt,(GBd.refl g 0).more,fun _ _ h=>h,fun _ _=>rfl,h.keep hK.mt⟩
def Gh.hold (g:Gh)(n:Nat)(Y:World):Gh:={g with held:=fun b=>if n<=b/\b<Y.heap.size/\g.tag b=none/\g.held b=none then Y.heap[b]? else g.held b}
theorem GInv.holds {g:Gh}{Y:World}(h:GInv g Y)(n:Nat):GInv (g.hold n Y) Y:=by
 refine⟨h.store,h.own,h.lt,fun b o c=>?_,fun b o c=>?_,h.reln⟩
 ·simp only [Gh.hold]at c;split at c
  ·exact c
  ·exact h.hold b o c
 ·simp only [Gh.hold]at c;split at c
  ·rename_i hc;exact hc.2.2.1
  ·exact h.apart b o c
theorem GStep.hold {n0:Nat}{g d:Gh}{X Y:World}(h:GStep n0 g X d Y)(f:n0<=X.heap.size):GStep n0 g X (d.hold X.heap.size Y) Y:=by
 refine⟨h.keep,h.more,fun b c e=>?_,fun b c=>?_,h.inv.holds _⟩
 ·have:=h.new b c e;refine⟨this.1,?_⟩;simp only [Gh.hold];rw [zF xz];exact this.2
 ·simp only [Gh.hold];rw [zF xz];exact h.held b c
def Gh.put (g:Gh)(k:Nat)(o:Obj):Gh:={g with held:=fun b=>if b=k then some o else g.held b}
theorem GStep.put {n0:Nat}{g:Gh}{X Y:World}(h:GInv g X){k:Nat}{o o':Obj}(i:g.held k=some o)(p:n0<=k)(hK:Keep (fun b=>b≠k) X Y)(ho:Y.heap[k]?=some o'):GStep n0 g X (g.put k o') Y:=by
 have j:=h.apart k o i;have l: ∀b U,g.tag b=some U->b≠k:=fun b U d e=>by subst e;rw [j] at d;cases d
 refine⟨hK.mono fun b _ f e=>(by subst e;rw [f.2] at i;cases i),(GBd.refl g 0).more,fun b d f=>⟨f.1,?_⟩,fun b d=>?_,?_⟩
 ·simp only [Gh.put];rw [zF (fun e=>by subst e;rw [f.2]at i;cases i)];exact f.2
 ·simp only [Gh.put];rw [zF xz]
 ·refine⟨fun S c m=>(h.store S c m).keep hK (fun b U d=>l b _ d) (fun _ _=>Iff.rfl),h.own,fun b T d=>zk (h.lt b T d) hK.size,fun b u d=>?_,fun b u d=>?_,fun b S R U d=>zk (h.reln b S R U d) hK.size⟩
  ·simp only [Gh.put]at d;split at d
   ·rename_i e;subst e;cases d;exact ho
   ·rename_i e;exact hK.heap (h.hold b u d) e
  ·simp only [Gh.put]at d;split at d
   ·rename_i e;subst e;exact j
   ·exact h.apart b u d
def qkm (n0:Nat):qfp Gh where
 inv:=GInv
 free:=Gh.free
 istep g X g' Y:=GStep n0 g X g' Y/\g'.st=g.st
 bstep:=GBd
 ifree h:=h.1.keep
 inew h:=h.1.new
 bnew h:=h.new
 bmono hn h:=h.mono hn
 invk h hK:=h.keep hK
def qbp (tag:qcv)(S R:Nat)(rt:qbu):qcv:=fun b=>match rt b with
 |some T=>some (S,.rel R T)
 |none=>tag b
theorem qpg {tag:qcv}{S R:Nat}{c:qbu}(d:TagLe (qaw tag S R) c):qaw (qbp tag S R c) S R=c:=xy fun b=>by
 cases e:c b with
 |some T=>exact qae.2 (by unfold qbp;rw [e])
 |none=>
  cases f:qaw (qbp tag S R c) S R b with
  |none=>rfl
  |some T=>
   have h:=qae.1 f;unfold qbp at h;rw [e]at h;rcases d b T (qae.2 h) with h1 |⟨_,_,_,_,_,h1,_⟩
   ·rw [e]at h1;cases h1
   ·rw [e]at h1;cases h1
theorem qe3 {tag:qcv}{S R:Nat}{f:qbu}{X:World}(d: ∀b T,tag b=some T->b<X.heap.size)(c:TagNew (qaw tag S R) f X){b:Nat}{U:Nat×qx1}(g: ∀T,U≠(S,.rel R T)):qbp tag S R f b=some U↔tag b=some U:=by
 unfold qbp;cases e:f b with
 |none=>exact Iff.rfl
 |some T=>
  constructor
  ·intro h;cases h;exact absurd rfl (g T)
  ·intro h;exfalso;rcases c b T e with ⟨T',h1⟩ |h1
   ·have:=qae.1 h1;rw [h]at this;cases this;exact g T' rfl
   ·have:=d b _ h;omega
theorem qrl {tag:qcv}{S R d S':Nat}{i:qbu}{X:World}(f: ∀b T,tag b=some T->b<X.heap.size)(c:TagNew (qaw tag S R) i X)(h:S'≠S∨d≠R):qaw (qbp tag S R i) S' d=qaw tag S' d:=xy fun b=>by
 have g: ∀T j,((S',qx1.rel d T):Nat×qx1)≠(S,.rel R j):=fun T j e=>by cases e;rcases h with h |h<;>exact h rfl
 cases e:qaw tag S' d b with
 |some U=>exact qae.2 ((qe3 f c (g U)).2 (qae.1 e))
 |none=>
  cases k:qaw (qbp tag S R i) S' d b with
  |none=>rfl
  |some U=>
   have:=qae.2 ((qe3 f c (g U)).1 (qae.1 k));rw [e]at this;cases this
theorem StParts.rel_at {tag:qcv}{w:World}{S:Nat}{c:List qy}{T M MX:Nat}{f:Value}{xs:List ByteArray}{b:List ((ByteArray×Nat)×Nat)}(h:StParts tag w S c T M MX f xs b){k:ByteArray×Nat}{R:Nat}(e:(k,R)∈b):tag R=some (S,.rel R .box):=by
 obtain⟨vD,P,K,lm,d⟩:=h.rel k R e;exact qae.1 d.tagB
theorem StParts.rel_step {tag:qcv}{X Y:World}{S:Nat}{c:List qy}{T M MX:Nat}{vx:Value}{xs:List ByteArray}{s:List ((ByteArray×Nat)×Nat)}(h:StParts tag X S c T M MX vx xs s)(p: ∀b U,tag b=some U->b<X.heap.size)
  {k:ByteArray×Nat} {R:Nat} (hk:(k,R)∈s) {r:qbu} (y:TagLe (qaw tag S R) r) (f:TagNew (qaw tag S R) r X) (hK:Keep (fun b=>qaw tag S R b=none) X Y)
  {vD:Value} {P K:Nat} {lm:List (List Bool×Nat)} (hR:qb5 r Y R k.2 ((qo c k.1 k.2).map (qr xs)) vD P K lm):StParts (qbp tag S R r) Y S c T M MX vx xs s:=by
 have g: ∀b V,tag b=some V->(∀U,V≠(S,.rel R U))->qaw tag S R b=none:=fun b V d u=>by
  cases e:qaw tag S R b with
  |none=>rfl
  |some U=>exact absurd (yH (d.symm.trans (qae.1 e))) (u U)
 have q: ∀b V,tag b=some V->(∀U,V≠(S,.rel R U))->qbp tag S R r b=some V:=fun b V d u=>(qe3 p f u).2 d;refine⟨q _ _ h.tagS (fun U e=>by cases e),hK.heap h.box (g _ _ h.tagS (fun U e=>by cases e)),q _ _ h.tagT (fun U e=>by cases e),hK.heap h.tab (g _ _ h.tagT (fun U e=>by cases e)),qf h.own hK (fun b d=>g _ _ (h.tagx b d) (fun U e=>by cases e)),
  fun b d=>q _ _ (h.tagx b d) (fun U e=>by cases e),q _ _ h.tagN (fun U e=>by cases e),h.nums.keep hK (g _ _ h.tagN (fun U e=>by cases e)),q _ _ h.tagM (fun U e=>by cases e),h.rels.keep hK (g _ _ h.tagM (fun U e=>by cases e)),fun k' R' m=>?_,h.inj,h.all,h.texts,h.nodup,h.few,h.xfew⟩
 by_cases e:R'=R
 ·subst e;have:k'=k:=by
   obtain⟨i,hi⟩:=zw.1 m;obtain⟨j,x⟩:=zw.1 hk;have v:i=j:=by
    refine(xv (l:=s.map (·.2)) ?_ h.inj).1 ?_
    ·rw [zL];exact(zA.1 hi).1
    ·rw [zP,zP,hi,x];rfl
   subst v;rw [hi]at x;cases x
   rfl
  subst this;rw [qpg y];exact⟨vD,P,K,lm,hR⟩
 ·obtain⟨aa,P',K',z,t⟩:=h.rel k' R' m;rw [qrl p f (.inr e)];exact⟨aa,P',K',z,t.keep hK (fun b U d _=>g b _ (qae.1 d) (fun U' e'=>by cases e';exact e rfl))⟩
theorem q0v {n0:Nat}{g:Gh}{X Y:World}{S:Nat}{c:List qy}{T M MX:Nat}{vx:Value}{xs:List ByteArray}{v:List ((ByteArray×Nat)×Nat)}(i:GInv g X)(y:g.st S=some c)(h:StParts g.tag X S c T M MX vx xs v)
  {k:ByteArray×Nat} {R:Nat} (z:(k,R)∈v) {m:qbu} (u:TagLe (qaw g.tag S R) m) (j:TagNew (qaw g.tag S R) m X) (r: ∀b U,m b=some U->b<Y.heap.size) (hK:Keep (fun b=>qaw g.tag S R b=none) X Y)
  {vD:Value} {P K:Nat} {lm:List (List Bool×Nat)} (hR:qb5 m Y R k.2 ((qo c k.1 k.2).map (qr xs)) vD P K lm):GStep n0 g X {g with tag:=qbp g.tag S R m} Y:=by
 have f: ∀b,g.tag b=none->qaw g.tag S R b=none:=fun b d=>by
  cases e:qaw g.tag S R b with
  |none=>rfl
  |some U=>have:=qae.1 e;rw [d] at this;cases this
 have l: ∀b,b<X.heap.size->g.tag b=none->qbp g.tag S R m b=none:=fun b d ht=>by
  unfold qbp;cases e:m b with
  |none=>exact ht
  |some U=>
   rcases j b U e with ⟨U',h1⟩ |h1
   ·rw [f b ht]at h1;cases h1
   ·omega
 have p:=h.rel_step i.lt z u j hK hR;refine⟨hK.mono fun b _ s=>f b s.1,(GBd.refl g 0).more,fun b d s=>⟨l b d s.1,s.2⟩,fun _ _=>rfl,?_⟩;refine⟨fun S' x q=>?_,fun b S' U d=>?_,fun b U d=>?_,fun b o d=>hK.heap (i.hold b o d) (f b (i.apart b o d)),fun b o d=>l b (qe (i.hold b o d)) (i.apart b o d),fun b S' R' U d=>?_⟩
 ·by_cases e:S'=S
  ·subst e;have:x=c:=by rw [y] at q;cases q;rfl
   subst this;exact⟨T,M,MX,vx,xs,v,p⟩
  ·refine(i.store S' x q).keep hK (fun b U d=>?_) (fun b U=>qe3 i.lt j (fun V t=>by cases t;exact e rfl));cases t:qaw g.tag S R b with
   |none=>rfl
   |some V=>
    have:=qae.1 t;rw [d]at this;cases this;exact absurd rfl e
 ·simp only at d;unfold qbp at d;cases e:m b with
  |none=>rw [e] at d;exact i.own b S' U d
  |some V=>rw [e] at d;cases d;exact⟨c,y⟩
 ·simp only at d;unfold qbp at d;cases e:m b with
  |none=>rw [e] at d;exact zk (i.lt b U d) hK.size
  |some V=>exact r b V e
 ·simp only at d;unfold qbp at d;cases e:m b with
  |none=>rw [e] at d;exact zk (i.reln b S' R' U d) hK.size
  |some V=>rw [e] at d;cases d;exact zk (i.lt _ _ (h.rel_at z)) hK.size
end Go.Proofs
namespace Go.Proofs
open Go.RowKit Go.Ink R4
theorem StParts.table {tag:qcv}{w:World}{S:Nat}{c:List qy}{T M MX:Nat}{b:Value}{xs:List ByteArray}{d:List ((ByteArray×Nat)×Nat)}(h:StParts tag w S c T M MX b xs d):TabAt w T MX b xs:=⟨h.tab,h.own,h.nums⟩
abbrev q5q:Go.Conc.Locks.MuLink:={lock:=72,unlock:=73,ilock:=126,iunlock:=127,lockSlow:=168,unlockSlow:=171,disable:=164,enable:=166,acquire:=167,relMerge:=169,cas32:=165,add32:=170,tMutex:=110,tIMutex:=108,tPMutex:=198,tPIMutex:=257,tPI32:=259,tUP:=261,tNoCopy:=105,tU32:=106}
theorem qg4:Go.Conc.Locks.MuLib prog q5q:=
 ⟨Tryz.func72,Tryz.func73,Tryz.func126,Tryz.func127,Tryz.func164,Tryz.func166,Tryz.func167,Tryz.func169,Tryz.func165,Tryz.func170,Tryz.underlying108,Tryz.runUnderlying108,Tryz.sizeOf108,Tryz.isAgg108,Tryz.zeroValue108,Tryz.underlying110,Tryz.runUnderlying110,Tryz.sizeOf110,Tryz.isAgg110,Tryz.zeroValue110,Tryz.underlying198,Tryz.runUnderlying198,Tryz.sizeOf198,Tryz.isAgg198,Tryz.zeroValue198,Tryz.underlying257,Tryz.runUnderlying257,Tryz.sizeOf257,Tryz.isAgg257,Tryz.zeroValue257,Tryz.underlying259,Tryz.runUnderlying259,Tryz.sizeOf259,Tryz.isAgg259,Tryz.zeroValue259,Tryz.underlying261,Tryz.runUnderlying261,Tryz.sizeOf261,Tryz.isAgg261,Tryz.zeroValue261,Tryz.underlying105,Tryz.runUnderlying105,Tryz.sizeOf105,Tryz.isAgg105,Tryz.zeroValue105,Tryz.underlying21,Tryz.runUnderlying21,Tryz.sizeOf21,Tryz.isAgg21,Tryz.zeroValue21,wA⟩
theorem qlc (w:World)(B o:Nat)(v:Value)(k:Nat):(w.setCell ⟨B,o,none⟩ v).heap[k]?=if k=B then (w.heap[k]?).map (fun x=>match x with |.cells c e f=>.cells (c.setIfInBounds o v) e f |x=>x) else w.heap[k]?:=by
 by_cases h:k=B
 ·subst h;rw [zI rfl];simp only [World.setCell,Option.isSome_none,zy,yx];rw [Array.getElem?_modify,zI rfl];cases w.heap[k]? with
  |none=>rfl
  |some x=>cases x<;>rfl
 ·rw [zF h];exact Below.heap_setCell _ _ _ _ h
theorem Keep.set_both {C:Nat->Prop}{w w':World}(h:Keep C w w')(B o:Nat)(v:Value):Keep C (w.setCell ⟨B,o,none⟩ v) (w'.setCell ⟨B,o,none⟩ v):=
 ⟨h.os,h.tape,h.output,by simpa using h.size,fun k c b=>by
  rw [qlc,qlc,h.block k (by simpa using c) b]⟩
theorem q4t {w:World}{B t:Nat}{c:List Value}{u v:Value}{b:Nat×Nat}(h:w.heap[B]?=some (.cells (u::c).toArray t b)):((w.setCell ⟨B,0,none⟩ v).setCell ⟨B,0,none⟩ u)=w:=by
 have f:=qe h;have: ∀k,((w.setCell ⟨B,0,none⟩ v).setCell ⟨B,0,none⟩ u).heap[k]?=w.heap[k]?:=fun k=>by
  rw [qlc,qlc];by_cases e:k=B
  ·subst e;rw [zI rfl,zI rfl,h];rfl
  ·rw [zF e,zF e]
 have d:((w.setCell ⟨B,0,none⟩ v).setCell ⟨B,0,none⟩ u).heap=w.heap:=Array.ext_getElem? this;show {w with heap:=((w.setCell ⟨B,0,none⟩ v).setCell ⟨B,0,none⟩ u).heap}=w;rw [d]
end Go.Proofs
namespace Go.Proofs
open Go.RowKit Go.Ink R4
attribute [local go_sem] Oper.semAt_some
theorem qil: ∀a b:ByteArray×Nat,qdu a=qdu b->a=b:=fun a b h=>by
 unfold qdu at h;obtain⟨c,a2⟩:=a;obtain⟨d,e⟩:=b;simp only [Value.agg.injEq,Array.mk.injEq,List.cons.injEq,Value.string.injEq,Value.int.injEq,true_and,and_true,Int.natCast_inj]at h;obtain⟨rfl,rfl⟩:=h
 rfl
theorem qjl:WideMaps.KeyLaw prog 153:=deep_law (m:=4) xz wA wA (by simp only [Tryz.underlying153])
theorem qjm {k:ByteArray×Nat}(q:k.1.size<=1073741824)(r:k.2<=1073741824): ∃l,keyOf prog 153 (qdu k)=some l:=by
 obtain⟨m,j⟩:=qk7;have b:prog.keyType 153=true:=wA
 have e:prog.cellsOf 153=2:=wA
 have f:prog.cellsOf 9=1:=wA
 have g:prog.cellsOf 3=1:=wA
 have h: ∀d,prog.keyLits (d+1) 9 [.string k.1]=some [.string k.1.data.toList]:=fun d=>by
  unfold Program.keyLits;simp only [Tryz.underlying9];rw [zI (by simp only [maxLen];omega)]
 have i: ∀d,prog.keyLits (d+1) 3 [.int .i64 (k.2:Int)]=some [.int .i64 (k.2:Int)]:=fun d=>by
  unfold Program.keyLits;simp only [Tryz.underlying3];have c:okI (k.2:Int):=by unfold okI;omega
  have p:(Lit.int .i64 (k.2:Int)).wf=true:=by
   simp only [Lit.wf,zV,zT];exact c
  simp only [p,and_self,yg]
 unfold keyOf qdu;simp only [Tryz.underlying153];rw [zI (by simp [b,Value.formed,Tryz.underlying153,e,Value.cells,Value.oneCell']),j];rw [Program.keyLits.eq_def];simp only [Tryz.underlying153,e];simp [Value.cells,f,g,h,i]
end Go.Proofs
