/- Parts of the proof. -/
import Derived.Test.YtnponcjnahicnaaGreatProg
import Derived.Test.YtnponcjnahicnaaGreatHoistToRowC
import Derived.Test.YtnponcjnahicnaaGreatDataToOwnB
import Derived.Test.YtnponcjnahicnaaGreatMapsToRelG
import Derived.Test.YtnponcjnahicnaaGreatJnDToJnE
import Derived.StringKeys
import Derived.Laws.Cover3
import Derived.Test.YtnponcjnahicnaaGreatHdToKp
import Derived.Deep.Cut
set_option linter.unusedSimpArgs false
set_option linter.unusedVariables false
open Go.Proofs.Tryz(prog)
open List(append_nil foldl_append foldl_cons getElem?_append_right getElem?_eq_getElem getElem?_map getElem?_replicate getElem?_zipIdx getElem_idxOf idxOf_append idxOf_lt_length_of_mem length_append length_map length_singleton length_take map_append map_congr_left map_singleton mem_append_left mem_of_getElem? replicate_succ replicate_zero setIfInBounds_toArray set_append_right take_add_one take_length toArray_replicate toList_toArray zipIdx_append zipIdx_map_fst)
namespace Go.Proofs
open Go.RowKit Go.Ink
attribute [local go_sem] Oper.semAt_some
abbrev pV (b:Nat):Value:=.pointer (some ⟨b,0,none⟩)
abbrev qu7 (i:Nat):Value:=.int .i64 (i:Int)
abbrev qqj (w:World)(b:Nat)(m:List (ByteArray×Nat)):Prop:=MapIn prog 9 Value.string qu7 w b m
theorem qo2: ∀w:World,(zeroValue 3).run prog w=.ok (.int .i64 0) w:=fun w=>by kernel_rfl
theorem qla:WideMaps.KeyLaw prog 9:=Go.WideMaps.string_law Tryz.underlying9
theorem qlb: ∀a b:ByteArray,Value.string a=Value.string b->a=b:=fun a b h=>by cases h;rfl
theorem qlc {s:ByteArray}(h:s.size<=1073741824): ∃l,keyOf prog 9 (.string s)=some l:=⟨_,Go.WideMaps.keyOf_string_mk Tryz.underlying9 (by simp only [maxLen];omega)⟩
theorem qj8 (xs:List ByteArray):xs.zipIdx.map (·.1)=xs:=by rw [zipIdx_map_fst]
theorem qo3 {xs:List ByteArray}(hn:xs.Nodup)(s:ByteArray):qc1 xs.zipIdx s=if s∈xs then some (xs.idxOf s) else none:=by
 by_cases h:s∈xs
 ·rw [if_pos h];have hi:xs.idxOf s<xs.length:=idxOf_lt_length_of_mem h;have hg:xs.zipIdx[xs.idxOf s]?=some (s,xs.idxOf s):=by
   rw [getElem?_zipIdx,getElem?_eq_getElem hi,getElem_idxOf hi];simp
  exact qop (p:=(s,xs.idxOf s)) (by rw [qj8];exact hn) hg
 ·rw [if_neg h];exact qlo (by rw [qj8];exact h)
theorem qxh {xs:List ByteArray}{s:ByteArray}(h:s∉xs):setK xs.zipIdx s xs.length=(xs++ [s]).zipIdx:=by
 unfold setK;rw [qj8,if_neg h,zipIdx_append];simp
structure TabAt (w:World)(T MX:Nat)(vx:Value)(xs:List ByteArray):Prop where
 tab:w.heap[T]?=some (.cells #[vx,.map (some MX)] 186 (0,0))
 own:w.ownsRow 0 9 1 vx xs.length (xs.map .string)
 nums:qqj w MX xs.zipIdx
theorem TabAt.keep {w w':World}{T MX:Nat}{vx:Value}{xs:List ByteArray}{C:Nat->Prop}(h:TabAt w T MX vx xs)(hK:Keep C w w')(h1:C T)(h2:C MX)(h3: ∀b,vx.ownBlock=some b->C b):TabAt w' T MX vx xs:=
 ⟨hK.heap h.tab h1,qg h.own hK h3,h.nums.keep hK h2⟩
theorem TabAt.nodup {w:World}{T MX:Nat}{vx:Value}{xs:List ByteArray}(h:TabAt w T MX vx xs):xs.Nodup:=by
 obtain⟨_,_,_,_,hn,_⟩:=h.nums;rw [qj8]at hn;exact hn
set_option maxRecDepth 100000 in
theorem qfe {w:World}{T MX:Nat}{vx:Value}{xs:List ByteArray}(h:TabAt w T MX vx xs):Calls prog 94 #[pV T] w fun e w'=>e=.returned (.bool true)/\w'=w:=by
 have c1:=qb h.tab 1 _ rfl;have hB:=qe h.tab;simp only [Nat.zero_add]at c1;clear h;have hne: ∀w',(binOp .neq 91 (.map (some MX)) (.map none)).run prog w'=.ok (.bool true) w':=fun w'=>run_neq_map_nil w' _ _ _ (some MX) Tryz.underlying91
 go_enter Tryz.func94,Tryz.ntmps94
 go_wp2;go_ret;exact⟨rfl,rfl⟩
set_option maxRecDepth 100000 in
theorem qzi {w:World}{T MX:Nat}{vx:Value}{xs:List ByteArray}(h:TabAt w T MX vx xs):Calls prog 181 #[pV T] w fun e w'=>e=.returned (.int .i64 (xs.length:Int))/\w'=w:=by
 have c0:=qb h.tab 0 _ rfl;have hB:=qe h.tab;simp only [Nat.zero_add]at c0;obtain⟨a,c,rfl⟩:=qi h.own;refine hd1 ?_ h;clear h;intro Xh
 go_enter Tryz.func181,Tryz.ntmps181
 go_wp2_with fail;refine(qfe Xh.o).mono ?_;rintro e w9 ⟨rfl,hw9⟩;have hw9:=hw9.symm;subst hw9;go_wp2_with fail;go_ret;exact⟨rfl,rfl⟩
set_option maxRecDepth 100000 in
theorem qwm {w:World}{T MX:Nat}{vx:Value}{xs:List ByteArray}(h:TabAt w T MX vx xs)(s:ByteArray)(hs:s.size<=1073741824):
  Calls prog 139 #[pV T,.string s] w fun e w'=>e=.returned (.tuple #[.int .i64 (if s∈xs then ((xs.idxOf s:Nat):Int) else 0),.bool (decide (s∈xs))])/\w'=w:=by
 have c1:=qb h.tab 1 _ rfl;have hB:=qe h.tab;simp only [Nat.zero_add]at c1;have hlk:=qd1 (P:=prog) Tryz.underlying91 qla qlb qo2 h.nums s (qlc hs) true;rw [qo3 h.nodup s]at hlk;refine hd1 ?_ h;clear h;intro Xh;by_cases hm:s∈xs
 ·rw [if_pos hm]at hlk;simp only [if_true]at hlk;rw [if_pos hm,decide_eq_true hm];clear hm
  go_enter Tryz.func139,Tryz.ntmps139
  go_wp2_with fail;refine(qfe Xh.o).mono ?_;rintro e w9 ⟨rfl,hw9⟩;have hw9:=hw9.symm;subst hw9;go_wp2_with fail
  go_ret2
  exact⟨rfl,rfl⟩
 ·rw [if_neg hm]at hlk;simp only [if_true]at hlk;rw [if_neg hm,decide_eq_false hm];clear hm
  go_enter Tryz.func139,Tryz.ntmps139
  go_wp2_with fail;refine(qfe Xh.o).mono ?_;rintro e w9 ⟨rfl,hw9⟩;have hw9:=hw9.symm;subst hw9;go_wp2_with fail
  go_ret2
  exact⟨rfl,rfl⟩
set_option maxRecDepth 100000 in
theorem qwn {w:World}{T MX:Nat}{vx:Value}{xs:List ByteArray}(h:TabAt w T MX vx xs)(n:Nat)(s:ByteArray)(hs:xs[n]?=some s)(hl:xs.length<=1073741824):
  Calls prog 155 #[pV T,.int .i64 (n:Int)] w fun e w'=>e=.returned (.tuple #[.string s,.bool true])/\w'=w:=by
 have c0:=qb h.tab 0 _ rfl;have hB:=qe h.tab;simp only [Nat.zero_add]at c0;have hln:=qzi h;have hnl:=(List.getElem?_eq_some_iff.1 hs).1;have hown:=h.own;obtain⟨a,c,rfl⟩:=qi h.own;obtain⟨g,rfl⟩: ∃g,a=some ⟨g,0,none⟩:=by
  rcases hown.2 with ⟨e1,e2⟩ |⟨g,cap,cur,e1,_⟩
  ·exfalso;have:=hown.1;rw [e2] at this;simp at this;omega
  ·injection e1 with q1;exact⟨g,q1⟩
 have hx:=qb7 hown n (.string s) (by rw [getElem?_map,hs];rfl);have hcap:=qkz hown;have hgw:=hcap.2.2.1;have h0: ¬((n:Int)<0):=by omega
 have h1: ¬((xs.length:Int)<=n):=by omega
 have h2:(n:Int)<xs.length:=by omega
 have h3:(0:Int)<=n:=by omega
 clear hs hown h;refine hd1 ?_ hln;clear hln;intro Xhln
 go_enter Tryz.func155,Tryz.ntmps155
 go_wp2_with fail;refine Xhln.o.mono ?_;rintro e w9 ⟨rfl,hw9⟩;have hw9:=hw9.symm;subst hw9;go_wp2_with fail
 go_ret2
 exact⟨rfl,rfl⟩
theorem qga:qce prog 46 9 1 16:=qcx (z:=.string ⟨#[]⟩) (by kernel_rfl) (by kernel_rfl) rfl (by decide) (by decide)
theorem qu8 {xs:List ByteArray}{s:ByteArray}(h:s∈xs)(t:ByteArray):(qq xs t).idxOf s=xs.idxOf s:=by
 unfold qq;split
 ·rfl
 ·rw [idxOf_append,if_pos h]
theorem qu9 {s:ByteArray}: ∀{ts xs:List ByteArray},s∈xs->(ts.foldl qq xs).idxOf s=xs.idxOf s:=by
 intro ts
 induction ts with
 |nil=>intro xs _;rfl
 |cons t ts ih=>
  intro xs h;rw [foldl_cons,ih (by unfold qq;split;exact h;exact mem_append_left _ h),qu8 h]
def qr (xs:List ByteArray)(t:List ByteArray):List Int:=t.map fun s=>((xs.idxOf s:Nat):Int)
theorem q2o {t ts xs:List ByteArray}(h: ∀s,s∈t->s∈xs):qr (ts.foldl qq xs) t=qr xs t:=map_congr_left fun s hs=>by rw [qu9 (h s hs)]
set_option maxRecDepth 100000 in
set_option maxHeartbeats 1000000 in
theorem qzj {w:World}{T MX:Nat}{vx:Value}{xs:List ByteArray}(h:TabAt w T MX vx xs)(s:ByteArray)(hs:s.size<=1073741824)(hl:xs.length<=1073741824):
  Calls prog 95 #[pV T,.string s] w fun e w'=> ∃vx',e=.returned (.tuple #[.int .i64 (((qq xs s).idxOf s:Nat):Int),.int .i64 0])/\TabAt w' T MX vx' (qq xs s)/\
   Keep (fun b=>b≠T/\b≠MX/\vx.ownBlock≠some b) w w'/\(∀b,vx'.ownBlock=some b->vx.ownBlock=some b∨w.heap.size<=b):=by
 have c0:=qb h.tab 0 _ rfl;have c1:=qb h.tab 1 _ rfl;have hB:=qe h.tab;simp only [Nat.zero_add]at c0 c1;have hlk:=qd1 (P:=prog) Tryz.underlying91 qla qlb qo2 h.nums s (qlc hs) true;rw [qo3 h.nodup s]at hlk;by_cases hm:s∈xs
 ·rw [if_pos hm]at hlk;simp only [if_true]at hlk;have hx:qq xs s=xs:=if_pos hm;rw [hx];clear hm hx c0;refine hd1 ?_ h;clear h;intro Xh
  go_enter Tryz.func95,Tryz.ntmps95
  go_wp2_with fail;refine(qfe Xh.o).mono ?_;rintro e w9 ⟨rfl,hw9⟩;have hw9:=hw9.symm;subst hw9;go_wp2_with fail
  go_ret2
  exact⟨_,rfl,Xh.o,Keep.refl _ _,fun b hb=>.inl hb⟩
 ·rw [if_neg hm]at hlk;simp only [if_true]at hlk;have hx:qq xs s=xs++ [s]:=if_neg hm;have hix:(xs++ [s]).idxOf s=xs.length:=by rw [idxOf_append,if_neg hm];simp
  rw [hx,hix];obtain⟨W5,hup,hm5,kw5,hz5⟩:=qie (P:=prog) Tryz.underlying91 qla qlb h.nums s (qlc hs) xs.length;rw [qxh hm]at hm5;unfold qu7 at hup;have hTM:T≠MX:=fun e=>by
   obtain⟨es,c,h1,_⟩:=h.nums;rw [←e,h.tab]at h1;cases h1
  have hvT: ∀b,vx.ownBlock=some b->b≠T:=fun b hb e=>by
   rcases h.own.2 with ⟨e1,_⟩ |⟨g,cap,cur,e1,_,e3,_⟩
   ·rw [e1]at hb;cases hb
   ·rw [e1]at hb;cases hb;subst e;rw [h.tab]at e3;injection e3 with e3
    injection e3 with _ e3
    exact absurd e3 (by decide)
  have hvM: ∀b,vx.ownBlock=some b->b≠MX:=fun b hb e=>by
   obtain⟨es,c,h1,_⟩:=h.nums;rcases h.own.2 with ⟨e1,_⟩ |⟨g,cap,cur,e1,_,e3,_⟩
   ·rw [e1]at hb;cases hb
   ·rw [e1]at hb;cases hb;subst e;rw [h1]at e3;cases e3
  have own5:=qg h.own kw5 hvM;have tab5:=kw5.heap h.tab hTM;obtain⟨v',W6,hr,ho6,k6,g,cap,hv,hgo,hg6⟩:=qc4 (P:=prog) qga 46 own5 [.string s] rfl (by simp [Value.oneCell']) (by omega) (Nat.zero_le _);obtain⟨a,c,rfl⟩:=qi h.own;subst hv;have tab6:=k6.heap tab5 (fun e=>hvT T (by rw [←e]) rfl);have hgT:g≠T:=fun e=>by
   rcases hgo with h1 |h1
   ·exact hvT g h1 e
   ·have:=qe tab5;omega
  have hgM:g≠MX:=fun e=>by
   rcases hgo with h1 |h1
   ·exact hvM g h1 e
   ·have:=hm5.lt;omega
  have hm6:=hm5.keep k6 (fun e=>hvM MX (by rw [←e]) rfl);have d0:=qb tab5 0 _ rfl;have d6:=qb tab6 0 _ rfl;have f6:=qf tab6 0;have hB5:=qe tab5;have hB6:=qe tab6;simp only [Nat.zero_add]at d0 d6;have hfin:TabAt (W6.setCell ⟨T,0,none⟩ (.slice (some ⟨g,0,none⟩) (xs.length+1) cap)) T MX (.slice (some ⟨g,0,none⟩) (xs.length+1) cap) (xs++ [s]):=by
   have hk:Keep (fun b=>b≠T) W6 (W6.setCell ⟨T,0,none⟩ (.slice (some ⟨g,0,none⟩) (xs.length+1) cap)):=kSc;refine⟨?_,?_,hm6.keep hk (fun e=>hTM e.symm)⟩
   ·exact q8 0 _ tab6
   ·rw [length_append,length_singleton,map_append];exact qg ho6 hk (fun b hb=>by simp only [Value.ownBlock] at hb;cases hb;exact hgT)
  have hkeep:Keep (fun b=>b≠T/\b≠MX/\(Value.slice a xs.length c).ownBlock≠some b) w (W6.setCell ⟨T,0,none⟩ (.slice (some ⟨g,0,none⟩) (xs.length+1) cap)):=by
   refine((kw5.mono fun b _ h=>h.2.1).trans (k6.mono fun b _ h=>fun e=>h.2.2 e.symm)).trans (Keep.setCell _ _ _ (fun h=>h.1 rfl))
  have hgz: ∀b,(Value.slice (some ⟨g,0,none⟩) (xs.length+1) cap).ownBlock=some b->(Value.slice a xs.length c).ownBlock=some b∨w.heap.size<=b:=fun b hb=>by
   simp only [Value.ownBlock]at hb;cases hb;rcases hgo with h1 |h1
   ·exact .inl h1
   ·exact .inr (by omega)
  rw [hz5]at hr;clear hm hx hix hm5 kw5 hTM hvT hvM own5 tab5 ho6 k6 hgo hgT hgM hm6 tab6;refine hd6 ?_ h hfin hkeep hgz hr hg6;clear h hfin hkeep hgz hr hg6;intro Xh Xhfin Xhkeep Xhgz Xhr Xhg6
  go_enter Tryz.func95,Tryz.ntmps95
  go_wp2_with fail;refine(qfe Xh.o).mono ?_;rintro e w9 ⟨rfl,hw9⟩;have hw9:=hw9.symm;subst hw9;go_wp2_with (at_builtin;refine qcq (v:=.slice a xs.length c) (u:=.slice (some ⟨w.heap.size,0,none⟩) 1 1) (v':=.slice (some ⟨g,0,none⟩) (xs.length+1) cap) (w':=W6) rfl (.tmp 38) (.tmp 40) 46 rfl rfl rfl Xhr.o ?_)
  go_ret2
  exact⟨_,rfl,Xhfin.o,Xhkeep.o,Xhgz.o⟩
theorem qsc {w:World}{g base:Nat}{e:TypeId}{vs:List Value}(h:w.heap[g]?=some (.cells vs.toArray e (0,0)))(hb:base<=g)(hl:vs.length<=maxLen):w.ownsRow base e 1 (.slice (some ⟨g,0,none⟩) vs.length vs.length) vs.length vs:=
 ⟨by simp,.inr ⟨g,vs.length,vs.toArray,rfl,hb,h,Nat.le_refl _,hl,by simp,by simp⟩⟩
theorem qsd (n:Nat):madeCells #[.int .i64 0] n=Array.replicate n (Value.int .i64 0):=by
 apply Array.ext
 ·simp [madeCells]
 ·intro i h1 h2;simp [madeCells,Nat.mod_one]
theorem qse (n:Nat):madeCells #[.string ⟨#[]⟩] n=Array.replicate n (Value.string ⟨#[]⟩):=by
 apply Array.ext
 ·simp [madeCells]
 ·intro i h1 h2;simp [madeCells,Nat.mod_one]
theorem qva:(prog.info? 3).map (fun i=>(i.zero,i.size,i.bytes))=some (some (.int .i64 0),1,8):=by kernel_rfl
theorem qvb:(prog.info? 9).map (fun i=>(i.zero,i.size,i.bytes))=some (some (.string ⟨#[]⟩),1,16):=by kernel_rfl
theorem qvc (n:Nat)(h:n<=1073741824)(u:World):(Instr.makeSlice 86 (.int .i64 (n:Int)) (.int .i64 (n:Int))).run prog u=
  .ok (.slice (some ⟨u.heap.size,0,none⟩) n n) (u.alloc (.cells (Array.replicate n (Value.int .i64 0)) 3)):=by
 obtain⟨i0,hi,hz0,hz1,hz2⟩:=info_parts qva;have h:=run_make (P:=prog) u 86 3 i0 (.int .i64 0) Tryz.underlying86 hi hz0 .i64 .i64 (n:Int) (n:Int) (by omega) (Int.le_refl _) (by rw [hz2];omega) (by omega)
 simpa [hz1,Value.cells,qsd]using h
theorem qni (n:Nat)(h:n<=1073741824)(u:World):(Instr.makeSlice 46 (.int .i64 (n:Int)) (.int .i64 (n:Int))).run prog u=
  .ok (.slice (some ⟨u.heap.size,0,none⟩) n n) (u.alloc (.cells (Array.replicate n (Value.string ⟨#[]⟩)) 9)):=by
 obtain⟨i0,hi,hz0,hz1,hz2⟩:=info_parts qvb;have h:=run_make (P:=prog) u 46 9 i0 (.string ⟨#[]⟩) Tryz.underlying46 hi hz0 .i64 .i64 (n:Int) (n:Int) (by omega) (Int.le_refl _) (by rw [hz2];omega) (by omega)
 simpa [hz1,Value.cells,qse]using h
theorem qxi (l:List Value)(k:Nat)(v z:Value)(h:l.length=k)(m:Nat):(l++List.replicate (m+1) z).set k v=(l++ [v])++List.replicate m z:=by
 rw [set_append_right _ _ (by omega),h,Nat.sub_self,replicate_succ];simp
theorem q2p (xs ss:List ByteArray){k:Nat}{s:ByteArray}(h:ss[k]?=some s):(ss.take (k+1)).foldl qq xs=qq ((ss.take k).foldl qq xs) s:=by
 rw [take_add_one,h,foldl_append]
 rfl
theorem q4v {s:ByteArray}{ts xs:List ByteArray}(h:s∈ts):s∈ts.foldl qq xs:=qc9.2 (.inr h)
theorem q2q (xs ss:List ByteArray){k:Nat}{s:ByteArray}(h:ss[k]?=some s):qr ((ss.take (k+1)).foldl qq xs) (ss.take (k+1))=qr ((ss.take k).foldl qq xs) (ss.take k)++ [((((ss.take (k+1)).foldl qq xs).idxOf s:Nat):Int)]:=by
 have e:ss.take (k+1)=ss.take k++ [s]:=by rw [take_add_one,h];rfl
 unfold qr;rw [e,map_append,map_singleton]
 congr 1
 refine map_congr_left fun t ht=>?_;rw [foldl_append];exact congrArg _ (qu9 (ts:= [s]) (q4v ht))
set_option maxRecDepth 100000 in
set_option maxHeartbeats 2000000 in
theorem qmi {w:World}{T MX:Nat}{vx:Value}{xs:List ByteArray}(h:TabAt w T MX vx xs)(m:Nat)(v:Value)(ss:List ByteArray)(hss:qae m w v ss)(hm:m<=w.heap.size)(hsm: ∀s,s∈ss->s.size<=1073741824)(hl:xs.length+ss.length<=1073741824)
  (hfree: ∀a n c,v=.slice (some a) n c->a.block≠T/\a.block≠MX/\vx.ownBlock≠some a.block):
  Calls prog 57 #[pV T,v] w fun e w'=> ∃vo vx',e=.returned (.tuple #[vo,.int .i64 0])/\TabAt w' T MX vx' (ss.foldl qq xs)/\
   w'.ownsRow w.heap.size 3 1 vo ss.length ((qr (ss.foldl qq xs) ss).map (.int .i64))/\Keep (fun b=>b≠T/\b≠MX/\vx.ownBlock≠some b) w w'/\
   (∀b,vx'.ownBlock=some b->vx.ownBlock=some b∨w.heap.size<=b)/\(∀b,vo.ownBlock=some b->vx'.ownBlock≠some b):=by
 obtain⟨a,c,rfl,hls,hcs,hes⟩:=id hss;have hlT:=qe h.tab;have hlM:=h.nums.lt;obtain⟨B,hB⟩:=ex (w.heap.size);obtain⟨W0,hW0⟩:=ex (w.alloc (.cells (Array.replicate ss.length (Value.int .i64 0)) 3));have k0:Keep (fun _=>True) w W0:=by rw [←hW0];exact kAl
 have z0:W0.heap.size=w.heap.size+1:=by rw [←hW0];simp
 have q0:W0.heap[w.heap.size]?=some (.cells (List.replicate ss.length (Value.int .i64 0)).toArray 3 (0,0)):=by rw [←hW0,toArray_replicate];exact qh _ _
 have h0:=h.keep k0 trivial trivial (fun _ _=>trivial);have hmk:=fun u=>qvc ss.length hls u;have hmade:=qfe h;have hvlt: ∀b,vx.ownBlock=some b->b<w.heap.size:=fun b hb=>(World.ownsRow.lt h.own b hb).2;rw [hB]at q0 z0 hvlt;clear hss;refine qiz ?_ hes hsm hfree k0 q0 h0 hW0 hB h hmade hvlt;clear hes hsm hfree k0 q0 h0 hW0 hB h hmade hvlt;intro Xhes Xhsm Xhfree Xk0 Xq0 Xh0 XhW0 XhB Xh Xhmade Xhvlt
 go_enter Tryz.func57,Tryz.ntmps57
 go_wp2_with fail;refine Xhmade.o.mono ?_;rintro e w9 ⟨rfl,hw9⟩;have hw9:=hw9.symm;subst hw9;go_wp2_with fail;rw [XhW0.o,XhB.o];clear hmk
 go_loopw [17] (fun i' wr=> ∃(k:Nat) (vx':Value),k<=ss.length/\i'=.int .i64 (k:Int)/\TabAt wr T MX vx' ((ss.take k).foldl qq xs)/\wr.heap[B]?=some (.cells (((qr ((ss.take k).foldl qq xs) (ss.take k)).map (Value.int .i64))++List.replicate (ss.length-k) (Value.int .i64 0)).toArray 3 (0,0))/\
  Keep (fun b=>b<B/\b≠T/\b≠MX/\vx.ownBlock≠some b) w wr/\(∀b,vx'.ownBlock=some b->vx.ownBlock=some b∨B<b)) (fun i _=>ss.length-(intOf i).toNat)
 case atStart=>exact⟨0,vx,by omega,rfl,Xh0.o,by simpa [qr] using Xq0.o,Xk0.o.mono fun _ _ _=>trivial,fun b hb=>.inl hb⟩
 case round=>
  obtain⟨k,vx',hk,rfl,hT,hBk,hK,hvx⟩:=hrel;have hsz:=hK.size;have hBl:=qe hBk;by_cases hlt:k<ss.length
  ·have hlt1:(k:Int)<ss.length:=by omega
   have hk0:(0:Int)<=k:=by omega
   obtain⟨s,hs⟩: ∃s,ss[k]?=some s:=⟨_,getElem?_eq_getElem hlt⟩;obtain⟨b,o,rfl,hbm,hc⟩:=Xhes.o k s hs;have hfr:=Xhfree.o _ _ _ rfl;unfold qgc at hc;simp only [Nat.mul_one]at hc;have hcw:=hK.cell hc ⟨by have:=XhB.o;simp only;omega,hfr.1,hfr.2.1,hfr.2.2⟩;have hbw:b<wr.heap.size:=by have:=XhB.o;omega
   have hxl:=(qe9 (ss.take k) xs).2;rw [length_take,Nat.min_eq_left hk]at hxl;have hput:=qzj hT s (Xhsm.o s (mem_of_getElem? hs)) (by omega);rw [←q2p xs ss hs]at hput;have hns:=q2q xs ss hs;have hnl:(qr ((ss.take k).foldl qq xs) (ss.take k)).length=k:=by unfold qr;rw [length_map,length_take,Nat.min_eq_left hk]
   have hTB:T≠B:=by have:=qe Xh.o.tab;have:=XhB.o;omega
   have hMB:MX≠B:=by have:=Xh.o.nums.lt;have:=XhB.o;omega
   have hvB:vx'.ownBlock≠some B:=fun e=>by
    rcases hvx B e with h1 |h1
    ·have:=Xhvlt.o B h1;omega
    ·omega
   clear hc hs hfr hxl hT;refine hd9 ?_ hput hBk hK hvx hns hnl hTB hMB hvB;clear hput hBk hK hvx hns hnl hTB hMB hvB;intro Xhput XhBk XhK Xhvx Xhns Xhnl XhTB XhMB XhvB;go_wp2_with fail;refine Xhput.o.mono ?_;rintro e W2 ⟨vx2,rfl,hT2,k2,hv2⟩;have hB2:=k2.heap XhBk.o ⟨XhTB.o.symm,XhMB.o.symm,XhvB.o⟩;have fB2:=qf hB2 k;have hBl2:=qe hB2;have hset:=q8 k (.int .i64 (((List.foldl qq xs (ss.take (k+1))).idxOf s:Nat):Int)) hB2;rw [setIfInBounds_toArray,show ss.length-k=ss.length-(k+1)+1 by omega,qxi _ k _ _ (by rw [length_map];exact Xhnl.o)]at hset;have hcB:W2.cell? ⟨B,k,none⟩=some (.int .i64 0):=by
    have:=qb hB2 k (.int .i64 0) (by
     simp only [toList_toArray];rw [getElem?_append_right (by rw [length_map,Xhnl.o];exact Nat.le_refl _),length_map,Xhnl.o,Nat.sub_self,getElem?_replicate,if_pos (by omega)])
    simpa using this
   have hz2:=k2.size;clear hB2;refine hd4 ?_ hT2 k2 hv2 hset;clear hT2 k2 hv2 hset;intro XhT2 Xk2 Xhv2 Xhset;go_wp2_with fail;go_roundw
   case rel=>
    have kB:Keep (fun b=>b≠B) W2 (W2.setCell ⟨B,k,none⟩ (.int .i64 (((List.foldl qq xs (ss.take (k+1))).idxOf s:Nat):Int))):=kSc;have hvB2: ∀b,vx2.ownBlock=some b->vx.ownBlock=some b∨B<b:=fun b hb=>by
     rcases Xhv2.o b hb with h1 |h1
     ·exact Xhvx.o b h1
     ·exact .inr (by omega)
    refine⟨k+1,vx2,by omega,by go_num,XhT2.o.keep kB XhTB.o XhMB.o (fun b hb e=>?_),?_,?_,hvB2⟩
    ·subst e;rcases hvB2 _ hb with h1 |h1
     ·have:=Xhvlt.o _ h1;omega
     ·omega
    ·rw [Xhns.o,map_append];exact Xhset.o
    ·refine(XhK.o.trans (Xk2.o.mono fun b hb h=>⟨h.2.1,h.2.2.1,fun e=>?_⟩)).trans (kB.mono fun b _ h=>by omega);rcases Xhvx.o b e with h1 |h1
     ·exact h.2.2.2 h1
     ·omega
   case measure=>simp [intOf];omega
  ·obtain rfl:k=ss.length:=by omega
   rw [take_length]at hT hBk;rw [Nat.sub_self,replicate_zero,append_nil]at hBk;clear hlt;refine hd4 ?_ hT hBk hK hvx;clear hT hBk hK hvx;intro XhT XhBk XhK Xhvx;go_wp2_with fail
   go_ret2
   have hnl:((qr (ss.foldl qq xs) ss).map (Value.int .i64)).length=ss.length:=by unfold qr;rw [length_map,length_map]
   have ho:=qsc XhBk.o (base:=B) (Nat.le_refl _) (by rw [hnl];simp only [maxLen];omega);rw [hnl]at ho;refine⟨_,vx',rfl,XhT.o,ho.mono (by have:=XhB.o;omega),XhK.o.mono fun b hb h=>⟨by have:=XhB.o;omega,h⟩,fun b hb=>(Xhvx.o b hb).imp id (fun h=>by have:=XhB.o;omega),fun b hb e=>?_⟩;have hbB:B=b:=by simpa [Value.ownBlock] using hb
   subst hbB;rcases Xhvx.o _ e with h1 |h1
   ·have:=Xhvlt.o _ h1;omega
   ·omega
set_option maxRecDepth 100000 in
set_option maxHeartbeats 2000000 in
theorem qvd {w:World}{T MX:Nat}{vx:Value}{xs:List ByteArray}(h:TabAt w T MX vx xs)(m:Nat)(v:Value)(t:List ByteArray)(hin: ∀s,s∈t->s∈xs)(hns:qap m w v (qr xs t))(hm:m<=w.heap.size)(hl:xs.length<=1073741824):
  Calls prog 123 #[pV T,v] w fun e w'=> ∃vo,e=.returned (.tuple #[vo,.int .i64 0])/\w'.ownsRow w.heap.size 9 1 vo t.length (t.map .string)/\Keep (fun _=>True) w w':=by
 obtain⟨a,c,rfl,hls,hcs,hes⟩:=id hns;have hnl:(qr xs t).length=t.length:=by unfold qr;rw [length_map]
 rw [hnl]at hls hcs⊢;have hlT:=qe h.tab;obtain⟨B,hB⟩:=ex (w.heap.size);obtain⟨W0,hW0⟩:=ex (w.alloc (.cells (Array.replicate t.length (Value.string ⟨#[]⟩)) 9));have k0:Keep (fun _=>True) w W0:=by rw [←hW0];exact kAl
 have z0:W0.heap.size=w.heap.size+1:=by rw [←hW0];simp
 have q0:W0.heap[w.heap.size]?=some (.cells (List.replicate t.length (Value.string ⟨#[]⟩)).toArray 9 (0,0)):=by rw [←hW0,toArray_replicate];exact qh _ _
 have hmk:=fun u=>qni t.length hls u;have hmade:=qfe h;rw [hB]at q0 z0;clear hns hnl;refine hd8 ?_ hes hin k0 q0 hW0 hB h hmade;clear hes hin k0 q0 hW0 hB h hmade;intro Xhes Xhin Xk0 Xq0 XhW0 XhB Xh Xhmade
 go_enter Tryz.func123,Tryz.ntmps123
 go_wp2_with fail;refine Xhmade.o.mono ?_;rintro e w9 ⟨rfl,hw9⟩;have hw9:=hw9.symm;subst hw9;go_wp2_with fail;rw [XhW0.o,XhB.o];clear hmk
 go_loopw [19] (fun i' wr=> ∃(k:Nat),k<=t.length/\i'=.int .i64 (k:Int)/\wr.heap[B]?=some (.cells (((t.take k).map Value.string)++List.replicate (t.length-k) (Value.string ⟨#[]⟩)).toArray 9 (0,0))/\
  Keep (fun b=>b<B) w wr) (fun i _=>t.length-(intOf i).toNat)
 case atStart=>exact⟨0,by omega,rfl,by simpa using Xq0.o,Xk0.o.mono fun _ _ _=>trivial⟩
 case round=>
  obtain⟨k,hk,rfl,hBk,hK⟩:=hrel;have hsz:=hK.size;have hBl:=qe hBk;by_cases hlt:k<t.length
  ·have hlt1:(k:Int)<t.length:=by omega
   have hk0:(0:Int)<=k:=by omega
   obtain⟨s,hs⟩: ∃s,t[k]?=some s:=⟨_,getElem?_eq_getElem hlt⟩;obtain⟨b,o,rfl,hbm,hc⟩:=Xhes.o k (((xs.idxOf s:Nat):Int)) (by unfold qr;rw [getElem?_map,hs];rfl);unfold qfr at hc;simp only [Nat.mul_one]at hc;have hcw:=hK.cell hc (by have:=XhB.o;simp only;omega);have hbw:b<wr.heap.size:=by have:=XhB.o;omega
   have hmx:=Xhin.o s (mem_of_getElem? hs);have hT:TabAt wr T MX vx xs:=Xh.o.keep hK (by have:=XhB.o;omega) (by have:=Xh.o.nums.lt;have:=XhB.o;omega) (fun b hb=>by have:=(World.ownsRow.lt Xh.o.own b hb).2;have:=XhB.o;omega);have htx:=qwn hT (xs.idxOf s) s (by rw [getElem?_eq_getElem (idxOf_lt_length_of_mem hmx),getElem_idxOf]) hl;have htk:(t.take k).length=k:=by rw [length_take,Nat.min_eq_left hk]
   have hts:t.take (k+1)=t.take k++ [s]:=by rw [take_add_one,hs];rfl
   have fB2:=qf hBk k;have hset:=q8 k (.string s) hBk;rw [setIfInBounds_toArray,show t.length-k=t.length-(k+1)+1 by omega,qxi _ k _ _ (by rw [length_map];exact htk)]at hset;have hcB:wr.cell? ⟨B,k,none⟩=some (.string ⟨#[]⟩):=by
    have:=qb hBk k (.string ⟨#[]⟩) (by
     simp only [toList_toArray];rw [getElem?_append_right (by rw [length_map,htk];exact Nat.le_refl _),length_map,htk,Nat.sub_self,getElem?_replicate,if_pos (by omega)])
    simpa using this
   clear hc hs hT hmx htk;refine hd5 ?_ htx hBk hK hts hset;clear htx hBk hK hts hset;intro Xhtx XhBk XhK Xhts Xhset;go_wp2_with fail;refine Xhtx.o.mono ?_;rintro e w9 ⟨rfl,hw9⟩;have hw9:=hw9.symm;subst hw9;go_wp2_with fail;go_roundw
   case rel=>
    refine⟨k+1,by omega,by go_num,?_,XhK.o.trans (kSc)⟩;rw [Xhts.o,map_append];exact Xhset.o
   case measure=>simp [intOf];omega
  ·obtain rfl:k=t.length:=by omega
   rw [take_length,Nat.sub_self,replicate_zero,append_nil]at hBk;clear hlt;refine hd2 ?_ hBk hK;clear hBk hK;intro XhBk XhK;go_wp2_with fail
   go_ret2
   have ho:=qsc XhBk.o (base:=B) (Nat.le_refl _) (by rw [length_map];simp only [maxLen];omega);rw [length_map]at ho;exact⟨_,rfl,ho.mono (by have:=XhB.o;omega),XhK.o.mono fun b hb _=>by have:=XhB.o;omega⟩
set_option maxRecDepth 100000 in
theorem qzk (w:World):Calls prog 69 #[] w fun e w'=> ∃T MX,e=.returned (pV T)/\TabAt w' T MX (.slice none 0 0) []/\w.heap.size<=T/\w.heap.size<=MX/\T≠MX/\Keep (fun _=>True) w w':=by
 have hmm:= @run_makeMap prog
 go_enter Tryz.func69,Tryz.ntmps69
 go_wp2;go_ret;refine⟨w.heap.size+1,w.heap.size,rfl,⟨?_,World.ownsRow_nil _ _ _ _,?_⟩,by omega,by omega,by omega,kAl.trans kAl⟩
 ·have h:=qh (w.alloc (.map #[] 0)) (.cells #[.slice none 0 0,.map (some w.heap.size)] 186)
  simpa using h
 ·exact(qho w).keep (Keep.alloc (fun _=>True) _ _) trivial
end Go.Proofs
