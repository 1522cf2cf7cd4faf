/- Lean texts of the claim. -/
import Derived.Test.YtpbchbcdgikonaaGreatQ11
namespace Go.Proofs.YtpbchbcdgikonaaGreat
set_option linter.unusedVariables false
set_option linter.unusedSimpArgs false
set_option maxRecDepth 100000
set_option maxHeartbeats 4000000
open Go.RowKit
section
open Go.RowKit Go.Maps
section
variable {α : Type} [DecidableEq α]
def Bk (L xs:List α) (d:α):Nat->List α
 | 0=>L
 | k+1=>if xs.getD k d∈Bk L xs d k then Bk L xs d k else Bk L xs d k++[xs.getD k d]
def Rx (L xs:List α) (d:α):List α:=Bk L xs d xs.length
theorem Ea (L xs:List α) (d:α) (k:Nat):(Bk L xs d k).length<=L.length+k:=by
 induction k with
 | zero=>exact Nat.le_refl _
 | succ k ih =>
   rw[Bk];split
   ·omega
   ·rw[List.length_append];simp;omega
theorem su {L xs:List α} {d:α} {k:Nat} (hk:k<=xs.length) {x:α} (h:x∈Bk L xs d k):x∈L\/x∈xs:=by
 induction k with
 | zero=>exact .inl h
 | succ k ih =>
   rw[Bk] at h;split at h
   ·exact ih (by omega) h
   ·rcases List.mem_append.1 h with h|h
    ·exact ih (by omega) h
    ·simp at h;subst h;right;simp[show k<xs.length by omega]
end
theorem Il {P:Program} {w:World} {ops:Array Oper} {o:Oper} {a:Act} {K:Act->World->Prop} {Q:Exit->Act->World->Prop} {E:Prop} (hgd:o.guard=none) (s x:Operand) (t:TypeId)
 (ho:o.op=.call { callee:=.builtin .append,args:=#[s,x],argTypes:=#[t,t] })
 {α:Type} (enc:α->List Value) (base:Nat) (e:TypeId) (i:TypeInfo) (z:Value) (size bytes:Nat) (ht:P.underlying t=some (.slice e)) (hi:P.info? e=some i) (hz:i.zero=some z)
 (hsize:i.size=size) (hby:i.bytes=bytes) (hzs:z.cells.size=size) (hsz:0<size) (henc:∀x,(enc x).length=size) (h1c:∀x,∀u∈enc x,u.oneCell'=true)
 (v:Value) (l:List α) (hs:a.eval s=v) (hown:OwG e size enc w base v l)
 (bx c:Nat) (p:α) (tb:TypeId) (hx:a.eval x=.slice (some ⟨bx,0,none⟩) 1 c) (hnew:Bb w bx tb (enc p).toArray)
 (hlen:l.length+1<=maxLen) (hbytes:(l.length+1)*bytes<=140737488355328) (hbase:base<=w.heap.size) (H:Nat) (hH:w.heap.size=H)
 (h:∀g cap w',OwG e size enc w' base (.slice (some ⟨g,0,none⟩) (l.length+1) cap) (l++[p])->w.grownBy w' v.ownBlock->(v.ownBlock=some g\/g=H)->g<w'.heap.size->K (a.put o.dst (.slice (some ⟨g,0,none⟩) (l.length+1) cap)) w') :
 if Region.wanted o (yielded ops a.tmps)=true then Oper.wp P o a w K Q else E:=by
 refine step_append_lies (P:=P) w hgd s x t ho base e i z size bytes ht hi hz hsize hby hzs hsz v l.length (l.flatMap enc) hs hown ⟨bx,0,none⟩ 1 c (enc p) hx (by rw[henc];omega) ?_ (h1c p) (by omega) hlen hbytes hbase H hH ?_
 ·intro j u hj
  exact World.news_of_block (w:=w) (B:=bx) (cs:=(enc p).toArray) (t:=tb) (fr:=(0,0)) hnew j u (by simpa using hj)
 ·intro g cap w' ho' hg hat hlt
  refine h g cap w' ?_ hg hat hlt;unfold OwG;rw[List.length_append,List.flatMap_append];simpa using ho'
def Zm (w:World) (B hi:Nat) (L:List (Int×Int)):Prop :=
 ∃mv sv,Bb w B 219 #[mv,sv]/\OwG 49 2 enS w B sv L/\((mv=.map none/\L=[])\/∃bm,mv=.map (some bm)/\B<bm/\bm<hi/\C5 Tryz.prog 49 4 okS klS w bm L.length L)/\(∀k,sv.ownBlock=some k->B<k/\k<hi)/\B<hi
theorem Zm.keep {w w':World} {B hi:Nat} {L:List (Int×Int)} (h:Zm w B hi L) (hb:Below w.heap.size w w'):Zm w' B hi L:=by
 obtain⟨mv,sv,h1,h2,h3,h4,h5⟩:=h;refine⟨mv,sv,h1.keep hb,h2.keep hb,?_,h4,h5⟩;rcases h3 with h3|⟨bm,e1,e2,e3,e4⟩
 ·exact .inl h3
 ·exact .inr ⟨bm,e1,e2,e3,e4.keep hb⟩
theorem Zm.mono {w:World} {B hi hi':Nat} {L:List (Int×Int)} (h:Zm w B hi L) (hh:hi<=hi'):Zm w B hi' L:=by
 obtain⟨mv,sv,h1,h2,h3,h4,h5⟩:=h;refine⟨mv,sv,h1,h2,?_,fun k hk=>⟨(h4 k hk).1,Nat.lt_of_lt_of_le (h4 k hk).2 hh⟩,by omega⟩
 rcases h3 with h3|⟨bm,e1,e2,e3,e4⟩
 ·exact .inl h3
 ·exact .inr ⟨bm,e1,e2,by omega,e4⟩
theorem Zm.new (w:World):Zm (w.alloc (.cells #[.map none,.slice none 0 0] 219)) w.heap.size (w.heap.size+1) [] :=
 ⟨_,_,Bb.new _ _ _,OwG.nil,.inl ⟨rfl,rfl⟩,(fun k hk=>by cases hk),by omega⟩
theorem Hw {B:Nat} {a w:World} (h:Below B a w):Below B a w.drew:=⟨h.os,h.tape,h.output,h.size,h.block⟩
theorem Fm {B:Nat} {a w:World} (h:Below B a w) (n:Nat):Below B a (w.drewN n):=⟨h.os,h.tape,h.output,h.size,h.block⟩
def AvS (w:World) (B s:Nat):Prop:=s<w.heap.size/\s≠B/\∀mv sv,Bb w B 219 #[mv,sv]->sv.ownBlock≠some s/\mv≠.map (some s)
theorem avS {w:World} {B s bm:Nat} {sv:Value} (h1:Bb w B 219 #[.map (some bm),sv]) (h2:sv.ownBlock≠some s) (h3:bm≠s):∀mv sv,Bb w B 219 #[mv,sv]->sv.ownBlock≠some s/\mv≠.map (some s):=by
 intro mv sv' h;unfold Bb at h h1;rw[h1] at h;simp at h;obtain⟨rfl,rfl⟩:=h;exact⟨h2,by simp;exact h3⟩
theorem Zm.av {w:World} {B hi s:Nat} {L:List (Int×Int)} (h:Zm w B hi L) (hs:hi<=s) (hs2:s<w.heap.size):AvS w B s:=by
 obtain⟨mv,sv,h1,h2,h3,h4,h5⟩:=h;refine⟨hs2,by omega,fun mv' sv' h=>?_⟩
 unfold Bb at h h1;rw[h1] at h;simp at h;obtain⟨rfl,rfl⟩:=h;refine⟨fun e=>by have:=(h4 s e).2;omega,?_⟩
 rcases h3 with ⟨rfl,_⟩|⟨bm,rfl,_,e3,_⟩
 ·simp
 ·simp;omega
theorem AvS.keep {w w':World} {B s:Nat} (h:AvS w B s) (hB:B<w.heap.size) (hb:Below w.heap.size w w'):AvS w' B s :=
 ⟨Nat.lt_of_lt_of_le h.1 hb.size,h.2.1,fun mv sv h'=>h.2.2 mv sv ((hb.block B hB).symm.trans h')⟩
def Amf (wq:World) (B s:Nat) (L:List (Int×Int)) (e:Ending) (w':World):Prop:=e=.returned (.tuple #[])/\Zm w' B w'.heap.size L/\Below B wq w'/\wq.heap.size<=w'.heap.size/\w'.heap[s]? = wq.heap[s]? /\ AvS w' B s
theorem Zh {B bm bx n k gg cap:Nat} {x:(Int×Int)} {L xs:List (Int×Int)} {w wu wv:World} {sv:Value} {o:Obj} (hst:Hid (Bk L xs (0,0) (k+1)=Bk L xs (0,0) k++[x])) (hlt:k<n)
 (f1v:Bb wv B 219 #[.map (some bm),sv]) (f2u:OwG 49 2 enS wu B sv (Bk L xs (0,0) k)) (gu:C5 Tryz.prog 49 4 okS klS wu bm ((Bk L xs (0,0) k).length+1) (Bk L xs (0,0) k++[x])) (f4:∀k,sv.ownBlock=some k->B<k/\k≠bx)
 (f5u:Bb wu bx 49 (xs.flatMap enS).toArray) (f6u:Below B w wu) (f7u:w.heap.size<=wu.heap.size) (hov:OwG 49 2 enS wv B (.slice (some ⟨gg,0,none⟩) ((Bk L xs (0,0) k).length+1) cap) (Bk L xs (0,0) k++[x]))
 (hgv:(wu.alloc o).drew.grownBy wv sv.ownBlock) (hat:sv.ownBlock=some gg\/gg=wu.heap.size+1) (hBm:B<bm) {s:Nat} (hsl:s<w.heap.size) (hsB:s≠B) (hsm:bm≠s) (f8u:wu.heap[s]? = w.heap[s]?) (f9:sv.ownBlock≠some s) :
 (∃(k_1:Nat) (sv:Value),k_1<=n/\Value.int IntKind.i64 ((k:Int)+1)=.int .i64 k_1/\Bb (wv.setCell ⟨B,1,none⟩ (.slice (some ⟨gg,0,none⟩) ((Bk L xs (0,0) k).length+1) cap)) B 219 #[.map (some bm),sv]/\OwG 49 2 enS (wv.setCell ⟨B,1,none⟩ (.slice (some ⟨gg,0,none⟩) ((Bk L xs (0,0) k).length+1) cap)) B sv (Bk L xs (0,0) k_1)/\C5 Tryz.prog 49 4 okS klS (wv.setCell ⟨B,1,none⟩ (.slice (some ⟨gg,0,none⟩) ((Bk L xs (0,0) k).length+1) cap)) bm (Bk L xs (0,0) k_1).length (Bk L xs (0,0) k_1)/\(∀k,sv.ownBlock=some k->B<k/\k≠bx)/\Bb (wv.setCell ⟨B,1,none⟩ (.slice (some ⟨gg,0,none⟩) ((Bk L xs (0,0) k).length+1) cap)) bx 49 (xs.flatMap enS).toArray/\Below B w (wv.setCell ⟨B,1,none⟩ (.slice (some ⟨gg,0,none⟩) ((Bk L xs (0,0) k).length+1) cap))/\w.heap.size<=(wv.setCell ⟨B,1,none⟩ (.slice (some ⟨gg,0,none⟩) ((Bk L xs (0,0) k).length+1) cap)).heap.size/\Hid ((wv.setCell ⟨B,1,none⟩ (.slice (some ⟨gg,0,none⟩) ((Bk L xs (0,0) k).length+1) cap)).heap[s]? = w.heap[s]?)/\sv.ownBlock≠some s):=by
 have hmap:∀cs t fr,wu.heap[bm]? ≠ some (.cells cs t fr):=fun cs t fr h=>by obtain⟨es,cc,hq⟩:=gu.isMap;rw[hq] at h;cases h
 have hbmu:=gu.lt;have hbxu:=f5u.lt
 have hgg:B<gg/\gg≠bx:=by
  rcases hat with h|h
  ·exact f4 gg h
  ·omega
 have hblk:(Value.slice (some ⟨gg,0,none⟩) ((Bk L xs (0,0) k).length+1) cap).ownBlock=some gg:=rfl
 have hxB:bx≠B:=by
  intro e;subst e;have h1:=(hgv.block bx (by simp;omega) (by intro e2;exact(f4 bx e2.symm).2 rfl))
  have h2:=f5u.alloc o;unfold Bb at h2 f1v;rw[f1v] at h1;have h3:(wu.alloc o).drew.heap[bx]? = some (.cells (xs.flatMap enS).toArray 49 (0,0)):=h2;rw[h3] at h1;injection h1 with h1
  injection h1 with _ h1
  exact absurd h1 (by decide)
 refine⟨k+1,.slice (some ⟨gg,0,none⟩) ((Bk L xs (0,0) k).length+1) cap,by omega,by go_num,f1v.set_ 1 _,by rw[hst.out];exact OwG.far hov (by rw[hblk];intro e;injection e with e;exact absurd e (Nat.ne_of_gt hgg.1)) _,?_,?_,?_,?_,?_,?_,?_⟩
 ·rw[hst.out,List.length_append]
  exact((gu.alloc o).keep (Aw (Below.refl _ _))).kept hgv (OwG.notMap f2u hmap).symm |>.kept (row:=some B) ⟨rfl,rfl,rfl,by simp[World.setCell],fun j _ hne=>Below.heap_setCell _ _ _ j (fun e=>hne (by rw[e]))⟩ (by intro e;injection e with e;omega)
 ·intro j hj
  rw[hblk] at hj;injection hj with hj
  subst hj;exact hgg
 ·exact(Bb.grown ((f5u.alloc o).drew) hgv (by intro e;exact(f4 bx e.symm).2 rfl)).far hxB _
 ·refine Below.setCell (Below.grown (Hw (Below.alloc f6u (by omega) o)) hgv (by simp;omega) (fun j hj=>Nat.le_of_lt (f4 j hj).1)) (Nat.le_refl _) _
 ·have:=hgv.size
  simp[World.setCell] at this ⊢;omega
 ·refine Lib.hid ((Below.heap_setCell wv _ _ s (by exact hsB)).trans ((hgv.block s (by simp;omega) (fun e=>f9 e.symm)).trans ((Below.heap_alloc wu o s (by omega)).trans f8u)))
 ·rw[hblk];intro e;injection e with e
  rcases hat with h|h
  ·exact f9 (by rw[h,e])
  ·omega
theorem Ry (B hi bx n c:Nat) (L xs:List (Int×Int)) (w:World) (hn:xs.length=n) (hn1:n<=1000) (hL:L.length<=1000000000000) (hX:Bb w bx 49 (xs.flatMap enS).toArray) (hbx:hi<=bx) (hok:∀x∈xs,okS x) (hB:Zm w B hi L) (s:Nat) (hav:AvS w B s) :
 Calls Tryz.prog 130 #[.pointer (some ⟨B,0,none⟩),.slice (some ⟨bx,0,none⟩) n c] w (Amf w B s (Rx L xs (0,0))):=by
 have hz:=Ox;have HN:=Lib.hid hn;have HOK:=Lib.hid hok;have HW:=Lib.hid (show Rx L xs (0,0)=Bk L xs (0,0) n by unfold Rx;rw[hn])
 clear hn hok;obtain⟨mv,sv,k1,k2,k3,k4,k5⟩:=hB;have hsl:=hav.1;have hsB:=hav.2.1;have k9:=hav.2.2 mv sv k1;clear hav;rcases k3 with ⟨rfl,hLn⟩|⟨bm,rfl,hBm,hbm,k3⟩
 ·have hmm:=@run_makeMap Tryz.prog
  have heq:=fun (w:World)=>run_eql_map_nil (P:=Tryz.prog) w 217 49 4 none Tryz.underlying217
  obtain⟨m1,m2,m3,m4,m5⟩:=k1.cells2;obtain⟨bm,hbm⟩:∃bm,bm=w.heap.size:=⟨_,rfl⟩
  have hBm:B<bm:=by omega
  have k3:True:=trivial;have HLN:=Lib.hid hLn;clear hLn;go_enter Tryz.func130,Tryz.ntmps130;go_upto_region 2 with fail;clear hmm heq;rw[<-hbm];have hsz0:(w.setCell ⟨B,0,none⟩ (.map (some bm))).heap.size=bm:=by rw[hbm];simp[World.setCell]
  have hs1:C5 Tryz.prog 49 4 okS klS ((w.setCell ⟨B,0,none⟩ (.map (some bm))).alloc (.map #[] 0)) bm L.length L:=by
   rw[HLN.out];have h9:=C5.made (P:=Tryz.prog) (k:=49) (e:=4) (ok:=okS) (kl:=klS) (w.setCell ⟨B,0,none⟩ (.map (some bm)));rw[hsz0] at h9;exact h9
  have hbm2:w.heap.size<=bm:=by omega
  have hbxm:bx≠bm:=by have:=hX.lt;omega
  have hsm:bm≠s:=by omega
  have hL0:Hid ((w.setCell ⟨B,0,none⟩ (.map (some bm))).heap.size=bm):=hsz0;clear m1 m2 m3 m4 hsz0 hbm;refine Cw (fun X=>∃sv,Bb X B 219 #[.map (some bm),sv]/\OwG 49 2 enS X B sv L/\C5 Tryz.prog 49 4 okS klS X bm L.length L/\(∀k,sv.ownBlock=some k->B<k/\k≠bx)/\Bb X bx 49 (xs.flatMap enS).toArray/\Below B w X/\w.heap.size<=X.heap.size/\X.heap[s]? = w.heap[s]? /\ sv.ownBlock≠some s) ⟨sv,(k1.set_ 0 _).alloc _,OwG.alloc (OwG.far k2 (fun e=>Nat.lt_irrefl _ (k4 B e).1) _) _,hs1,fun k hk=>⟨(k4 k hk).1,by have:=(k4 k hk).2;omega⟩,(hX.far (p:=⟨B,0,none⟩) (Nat.ne_of_gt (Nat.lt_of_lt_of_le k5 hbx)) _).alloc _,Below.alloc (Below.setCell (Below.refl _ _) (Nat.le_refl _) _) (by rw[hL0.out];exact Nat.le_of_lt hBm) _,by simp[World.setCell],(Below.heap_alloc _ _ s (by rw[hL0.out];omega)).trans (Below.heap_setCell w ⟨B,0,none⟩ _ s hsB),k9.1⟩ ?_
  rintro wl ⟨sv2,f1,f2,f3,f4,f5,f6,f7,f8,f9⟩;clear k1 k2 k3 k4 hX hz;go_wp2_with fail;go_loopw [17] (fun i wr=>∃(k:Nat) (sv:Value),k<=n/\i=.int .i64 k/\Bb wr B 219 #[.map (some bm),sv]/\OwG 49 2 enS wr B sv (Bk L xs (0,0) k)/\C5 Tryz.prog 49 4 okS klS wr bm (Bk L xs (0,0) k).length (Bk L xs (0,0) k)/\(∀k,sv.ownBlock=some k->B<k/\k≠bx)/\Bb wr bx 49 (xs.flatMap enS).toArray/\Below B w wr/\w.heap.size<=wr.heap.size/\Hid (wr.heap[s]? = w.heap[s]?)/\sv.ownBlock≠some s) (fun i _=>n-(intOf i).toNat)
  case atStart=>exact⟨0,sv2,Nat.zero_le _,rfl,f1,f2,f3,f4,f5,f6,f7,Lib.hid f8,f9⟩
  case round =>
   clear f1 f2 f3 f4 f5 f6 f7 f8 f9;obtain⟨k,sv,hk,rfl,f1,f2,f3,f4,f5,f6,f7,f8,f9⟩:=hrel;have hlen:=Ea L xs (0,0) k;by_cases hlt:k<n
   ·have hkx:k<xs.length:=by rw[HN.out];exact hlt
    obtain⟨x,hx⟩:∃x,xs.getD k (0,0)=x:=⟨_,rfl⟩
    have hxk:xs[k]? = some x:=by rw[<-hx,List.getD,List.getElem?_eq_getElem hkx];rfl
    have hxok:okS x:=HOK.out x (List.mem_of_getElem? hxk);have HX:=Lib.hid hx;have d0:=(f5.cell (k*2)).trans (by have:=Bp Ci xs k 0 x hxk (by omega);simpa using this)
    have d1:=(f5.cell (k*2+1)).trans (by have:=Bp Ci xs k 1 x hxk (by omega);simpa using this)
    simp only[enS,List.getElem?_cons_zero,List.getElem?_cons_succ] at d0 d1;clear hx hxk;have bl:=f5.lt;obtain⟨m1,m2,m3,m4,m5⟩:=f1.cells2;obtain⟨x1,x2⟩:=x;by_cases hin:(x1,x2)∈Bk L xs (0,0) k
    ·have hst:=Lib.hid (show Bk L xs (0,0) (k+1)=Bk L xs (0,0) k by rw[Bk,HX.out,if_pos hin])
     have hgt:∀q,(Instr.lookup 217 (.map (some bm)) (.agg #[.int .i64 x1,.int .i64 x2]) false).run Tryz.prog ((wr.alloc (.cells #[.int .i64 x1,.int .i64 x2] 49)).drewN q)=.ok (.bool true) ((wr.alloc (.cells #[.int .i64 x1,.int .i64 x2] 49)).drewN q):=by
      intro q;have h9:=C5.get (t:=217) vw Tryz.underlying217 Tryz.underlying4 (Ox _) ((f3.alloc (.cells #[.int .i64 x1,.int .i64 x2] 49)).keep (Bg (Below.refl _ _) q)) (x:=(x1,x2)) hxok;refine h9.trans ?_;simp[hin]
     go_wp2_with fail
     go_quiet (fail)
     clear hgt;go_wp2_with fail;exact⟨⟨k+1,sv,by omega,by go_num,(f1.alloc _).drewN _,by rw[hst.out];exact OwG.keep (OwG.alloc f2 _) (Bg (Below.refl _ _) _),by rw[hst.out];exact(f3.alloc _).keep (Bg (Below.refl _ _) _),f4,(f5.alloc _).drewN _,Fm (Below.alloc f6 (by omega) _) _,by simp;omega,Lib.hid ((Below.heap_alloc wr _ s (by omega)).trans f8.out),f9⟩,by simp[intOf];omega⟩
    ·have hst:=Lib.hid (show Bk L xs (0,0) (k+1)=Bk L xs (0,0) k++[(x1,x2)] by rw[Bk,HX.out,if_neg hin])
     have hgt:∀q,(Instr.lookup 217 (.map (some bm)) (.agg #[.int .i64 x1,.int .i64 x2]) false).run Tryz.prog ((wr.alloc (.cells #[.int .i64 x1,.int .i64 x2] 49)).drewN q)=.ok (.bool false) ((wr.alloc (.cells #[.int .i64 x1,.int .i64 x2] 49)).drewN q):=by
      intro q;have h9:=C5.get (t:=217) vw Tryz.underlying217 Tryz.underlying4 (Ox _) ((f3.alloc (.cells #[.int .i64 x1,.int .i64 x2] 49)).keep (Bg (Below.refl _ _) q)) (x:=(x1,x2)) hxok;refine h9.trans ?_;simp[hin]
     go_wp2_with fail
     go_quiet (fail)
     clear hgt;have f1a:=(f1.alloc (.cells #[.int .i64 x1,.int .i64 x2] 49)).drewN nq;have f2a:=OwG.keep (OwG.alloc f2 (.cells #[.int .i64 x1,.int .i64 x2] 49)) (Bg (Below.refl _ _) nq);have f3a:=(f3.alloc (.cells #[.int .i64 x1,.int .i64 x2] 49)).keep (Bg (Below.refl _ _) nq);have f5a:=(f5.alloc (.cells #[.int .i64 x1,.int .i64 x2] 49)).drewN nq;have f6a:=Fm (Below.alloc f6 (by omega) (.cells #[.int .i64 x1,.int .i64 x2] 49)) nq
     have hxa:=(Bb.new wr 49 #[.int .i64 x1,.int .i64 x2]).drewN nq;have f8a:((wr.alloc (.cells #[.int .i64 x1,.int .i64 x2] 49)).drewN nq).heap[s]? = w.heap[s]? := (Below.heap_alloc wr _ s (by omega)).trans f8.out
     have f7a:w.heap.size<=((wr.alloc (.cells #[.int .i64 x1,.int .i64 x2] 49)).drewN nq).heap.size:=by simp;omega
     obtain⟨bq,hbq⟩:∃bq,bq=wr.heap.size:=⟨_,rfl⟩
     have hbq1:bx<bq:=by omega
     have hbq2:B<bq:=by omega
     have hbq3:bm<bq:=by have:=f3.lt;omega
     have hbq4:∀k,sv.ownBlock=some k->k<bq:=fun k hk=>by rw[hbq];exact(OwG.lt f2 k hk).2
     go_upto_region 6 with fail;rw[<-hbq] at hxa ⊢;refine Cw (fun X=>Bb X B 219 #[.map (some bm),sv]/\OwG 49 2 enS X B sv (Bk L xs (0,0) k)/\C5 Tryz.prog 49 4 okS klS X bm (Bk L xs (0,0) k).length (Bk L xs (0,0) k)/\Bb X bx 49 (xs.flatMap enS).toArray/\Bb X bq 49 #[.int .i64 x1,.int .i64 x2]/\Below B w X/\w.heap.size<=X.heap.size/\Hid (X.heap[s]? = w.heap[s]?)) ⟨f1a,f2a,f3a,f5a,hxa,f6a,f7a,Lib.hid f8a⟩ ?_
     clear f1a f2a f3a f5a hxa f6a f7a f8a f1 f2 f3 f5 f6 f7 f8 hbq d0 d1 m1 m2 m3 m4 m5 bl;rintro wz ⟨f1,f2,f3,f5,fx,f6,f7,f8⟩;obtain⟨m1,m2,m3,m4,m5⟩:=f1.cells2;obtain⟨y1,y2,y3,y4,y5⟩:=fx.cells2;refine Br 5 (by kernel_rfl) (by kernel_rfl) ?_
     simp only[List.take_succ_cons,List.take_zero,List.drop_succ_cons,List.drop_zero]
     repeat still_step
     refine wpStill_nil ?_
     go_wp2_with (at_mapUpdate;refine Du rfl _ _ _ 217 rfl vw Tryz.underlying217 Tryz.underlying4 rfl (f3.keep (Aw (Below.refl _ _))) (by unfold maxLen;omega) (x1,x2) hxok rfl rfl ?_;intro wu gu hu)
     have hnm:sv.ownBlock≠some bm:=OwG.notMap f2 (fun cs t fr h=>by obtain⟨es,cc,hq⟩:=f3.isMap;rw[hq] at h;cases h)
     have f1u:=Bb.grown f1.drew hu (by intro e;injection e with e;omega)
     have f2u:=OwG.kept (OwG.keep f2 (Aw (Below.refl _ _))) hu (Or.inr hnm);have f5u:=Bb.grown f5.drew hu (by intro e;injection e with e;omega)
     have fxu:=Bb.grown fx.drew hu (by intro e;injection e with e;omega)
     have f6u:Below B w wu:=Below.grown (Hw f6) hu (by have:=m5;simp;omega) (fun j hj=>by cases hj;omega)
     have f7u:w.heap.size<=wu.heap.size:=Nat.le_trans f7 hu.size;have f8u:Hid (wu.heap[s]? = w.heap[s]?):=Lib.hid ((hu.block s (by show s<wz.heap.size;omega) (by intro e;injection e with e;omega)).trans f8.out)
     clear f1 f2 f3 f5 fx f6 f7 f8 hu hnm m1 m2 m3 m4 m5 y1 y2 y3 y4 y5;obtain⟨m1,m2,m3,m4,m5⟩:=f1u.cells2;obtain⟨y1,y2,y3,y4,y5⟩:=fxu.cells2;obtain⟨i0,hi0,hz0,hz1,hz2⟩:=info_parts Vq;have hsz:=Ea L xs (0,0) k
     go_region_law ((refine Il rfl _ _ 54 rfl enS B 49 i0 (.agg #[.int .i64 0,.int .i64 0]) 2 16 Tryz.underlying54 hi0 hz0 hz1 hz2 rfl (by omega) Ci J5 sv (Bk L xs (0,0) k) rfl (OwG.keep (OwG.alloc f2u _) (Aw (Below.refl _ _))) wu.heap.size 1 (x1,x2) 49 rfl (Bb.drew (Bb.new _ _ _)) (by unfold maxLen;omega) (by omega) (by simp;omega) (wu.heap.size+1) (by simp) ?_;intro gg cap wv hov hgv hat hlv;have f1v:=Bb.grown ((f1u.alloc _).drew) hgv (by intro e;exact Nat.lt_irrefl _ (f4 _ e.symm).1);obtain⟨p1,p2,p3,p4,p5⟩:=f1v.cells2))
     all_goals go_wp2_with fail
     all_goals exact⟨Zh hst hlt f1v f2u gu f4 f5u f6u f7u hov hgv hat hBm hsl hsB hsm f8u.out f9,by simp[intOf];omega⟩
   ·obtain rfl:n=k:=by omega
    go_wp2_with fail
    go_end0
    refine⟨rfl,⟨_,sv,f1,by rw[HW.out];exact f2,.inr ⟨bm,rfl,hBm,f3.lt,by rw[HW.out];exact f3⟩,fun k hk=>⟨(f4 k hk).1,(OwG.lt f2 k hk).2⟩,f1.lt⟩,f6,f7,f8.out,by omega,hsB,avS f1 f9 hsm⟩
 ·have heq:=fun (w:World)=>run_eql_map_nil (P:=Tryz.prog) w 217 49 4 (some bm) Tryz.underlying217
  obtain⟨m1,m2,m3,m4,m5⟩:=k1.cells2;go_enter Tryz.func130,Tryz.ntmps130;go_upto_region 2 with fail;clear heq m1 m2 m3 m4 m5;have hbxm:bx≠bm:=by omega
  have hsm:bm≠s:=fun e=>k9.2 (by rw[e])
  refine Cw (fun X=>∃sv,Bb X B 219 #[.map (some bm),sv]/\OwG 49 2 enS X B sv L/\C5 Tryz.prog 49 4 okS klS X bm L.length L/\(∀k,sv.ownBlock=some k->B<k/\k≠bx)/\Bb X bx 49 (xs.flatMap enS).toArray/\Below B w X/\w.heap.size<=X.heap.size/\X.heap[s]? = w.heap[s]? /\ sv.ownBlock≠some s) ⟨sv,k1,k2,k3,fun k hk=>⟨(k4 k hk).1,by have:=(k4 k hk).2;omega⟩,hX,Below.refl _ _,Nat.le_refl _,rfl,k9.1⟩ ?_
  rintro wl ⟨sv2,f1,f2,f3,f4,f5,f6,f7,f8,f9⟩;clear k1 k2 k3 k4 hX hz;go_wp2_with fail;go_loopw [17] (fun i wr=>∃(k:Nat) (sv:Value),k<=n/\i=.int .i64 k/\Bb wr B 219 #[.map (some bm),sv]/\OwG 49 2 enS wr B sv (Bk L xs (0,0) k)/\C5 Tryz.prog 49 4 okS klS wr bm (Bk L xs (0,0) k).length (Bk L xs (0,0) k)/\(∀k,sv.ownBlock=some k->B<k/\k≠bx)/\Bb wr bx 49 (xs.flatMap enS).toArray/\Below B w wr/\w.heap.size<=wr.heap.size/\Hid (wr.heap[s]? = w.heap[s]?)/\sv.ownBlock≠some s) (fun i _=>n-(intOf i).toNat)
  case atStart=>exact⟨0,sv2,Nat.zero_le _,rfl,f1,f2,f3,f4,f5,f6,f7,Lib.hid f8,f9⟩
  case round =>
   clear f1 f2 f3 f4 f5 f6 f7 f8 f9;obtain⟨k,sv,hk,rfl,f1,f2,f3,f4,f5,f6,f7,f8,f9⟩:=hrel;have hlen:=Ea L xs (0,0) k;by_cases hlt:k<n
   ·have hkx:k<xs.length:=by rw[HN.out];exact hlt
    obtain⟨x,hx⟩:∃x,xs.getD k (0,0)=x:=⟨_,rfl⟩
    have hxk:xs[k]? = some x:=by rw[<-hx,List.getD,List.getElem?_eq_getElem hkx];rfl
    have hxok:okS x:=HOK.out x (List.mem_of_getElem? hxk);have HX:=Lib.hid hx;have d0:=(f5.cell (k*2)).trans (by have:=Bp Ci xs k 0 x hxk (by omega);simpa using this)
    have d1:=(f5.cell (k*2+1)).trans (by have:=Bp Ci xs k 1 x hxk (by omega);simpa using this)
    simp only[enS,List.getElem?_cons_zero,List.getElem?_cons_succ] at d0 d1;clear hx hxk;have bl:=f5.lt;obtain⟨m1,m2,m3,m4,m5⟩:=f1.cells2;obtain⟨x1,x2⟩:=x;by_cases hin:(x1,x2)∈Bk L xs (0,0) k
    ·have hst:=Lib.hid (show Bk L xs (0,0) (k+1)=Bk L xs (0,0) k by rw[Bk,HX.out,if_pos hin])
     have hgt:∀q,(Instr.lookup 217 (.map (some bm)) (.agg #[.int .i64 x1,.int .i64 x2]) false).run Tryz.prog ((wr.alloc (.cells #[.int .i64 x1,.int .i64 x2] 49)).drewN q)=.ok (.bool true) ((wr.alloc (.cells #[.int .i64 x1,.int .i64 x2] 49)).drewN q):=by
      intro q;have h9:=C5.get (t:=217) vw Tryz.underlying217 Tryz.underlying4 (Ox _) ((f3.alloc (.cells #[.int .i64 x1,.int .i64 x2] 49)).keep (Bg (Below.refl _ _) q)) (x:=(x1,x2)) hxok;refine h9.trans ?_;simp[hin]
     go_wp2_with fail
     go_quiet (fail)
     clear hgt;go_wp2_with fail;exact⟨⟨k+1,sv,by omega,by go_num,(f1.alloc _).drewN _,by rw[hst.out];exact OwG.keep (OwG.alloc f2 _) (Bg (Below.refl _ _) _),by rw[hst.out];exact(f3.alloc _).keep (Bg (Below.refl _ _) _),f4,(f5.alloc _).drewN _,Fm (Below.alloc f6 (by omega) _) _,by simp;omega,Lib.hid ((Below.heap_alloc wr _ s (by omega)).trans f8.out),f9⟩,by simp[intOf];omega⟩
    ·have hst:=Lib.hid (show Bk L xs (0,0) (k+1)=Bk L xs (0,0) k++[(x1,x2)] by rw[Bk,HX.out,if_neg hin])
     have hgt:∀q,(Instr.lookup 217 (.map (some bm)) (.agg #[.int .i64 x1,.int .i64 x2]) false).run Tryz.prog ((wr.alloc (.cells #[.int .i64 x1,.int .i64 x2] 49)).drewN q)=.ok (.bool false) ((wr.alloc (.cells #[.int .i64 x1,.int .i64 x2] 49)).drewN q):=by
      intro q;have h9:=C5.get (t:=217) vw Tryz.underlying217 Tryz.underlying4 (Ox _) ((f3.alloc (.cells #[.int .i64 x1,.int .i64 x2] 49)).keep (Bg (Below.refl _ _) q)) (x:=(x1,x2)) hxok;refine h9.trans ?_;simp[hin]
     go_wp2_with fail
     go_quiet (fail)
     clear hgt;have f1a:=(f1.alloc (.cells #[.int .i64 x1,.int .i64 x2] 49)).drewN nq;have f2a:=OwG.keep (OwG.alloc f2 (.cells #[.int .i64 x1,.int .i64 x2] 49)) (Bg (Below.refl _ _) nq);have f3a:=(f3.alloc (.cells #[.int .i64 x1,.int .i64 x2] 49)).keep (Bg (Below.refl _ _) nq);have f5a:=(f5.alloc (.cells #[.int .i64 x1,.int .i64 x2] 49)).drewN nq;have f6a:=Fm (Below.alloc f6 (by omega) (.cells #[.int .i64 x1,.int .i64 x2] 49)) nq
     have hxa:=(Bb.new wr 49 #[.int .i64 x1,.int .i64 x2]).drewN nq;have f8a:((wr.alloc (.cells #[.int .i64 x1,.int .i64 x2] 49)).drewN nq).heap[s]? = w.heap[s]? := (Below.heap_alloc wr _ s (by omega)).trans f8.out
     have f7a:w.heap.size<=((wr.alloc (.cells #[.int .i64 x1,.int .i64 x2] 49)).drewN nq).heap.size:=by simp;omega
     obtain⟨bq,hbq⟩:∃bq,bq=wr.heap.size:=⟨_,rfl⟩
     have hbq1:bx<bq:=by omega
     have hbq2:B<bq:=by omega
     have hbq3:bm<bq:=by have:=f3.lt;omega
     have hbq4:∀k,sv.ownBlock=some k->k<bq:=fun k hk=>by rw[hbq];exact(OwG.lt f2 k hk).2
     go_upto_region 6 with fail;rw[<-hbq] at hxa ⊢;refine Cw (fun X=>Bb X B 219 #[.map (some bm),sv]/\OwG 49 2 enS X B sv (Bk L xs (0,0) k)/\C5 Tryz.prog 49 4 okS klS X bm (Bk L xs (0,0) k).length (Bk L xs (0,0) k)/\Bb X bx 49 (xs.flatMap enS).toArray/\Bb X bq 49 #[.int .i64 x1,.int .i64 x2]/\Below B w X/\w.heap.size<=X.heap.size/\Hid (X.heap[s]? = w.heap[s]?)) ⟨f1a,f2a,f3a,f5a,hxa,f6a,f7a,Lib.hid f8a⟩ ?_
     clear f1a f2a f3a f5a hxa f6a f7a f8a f1 f2 f3 f5 f6 f7 f8 hbq d0 d1 m1 m2 m3 m4 m5 bl;rintro wz ⟨f1,f2,f3,f5,fx,f6,f7,f8⟩;obtain⟨m1,m2,m3,m4,m5⟩:=f1.cells2;obtain⟨y1,y2,y3,y4,y5⟩:=fx.cells2;refine Br 5 (by kernel_rfl) (by kernel_rfl) ?_
     simp only[List.take_succ_cons,List.take_zero,List.drop_succ_cons,List.drop_zero]
     repeat still_step
     refine wpStill_nil ?_
     go_wp2_with (at_mapUpdate;refine Du rfl _ _ _ 217 rfl vw Tryz.underlying217 Tryz.underlying4 rfl (f3.keep (Aw (Below.refl _ _))) (by unfold maxLen;omega) (x1,x2) hxok rfl rfl ?_;intro wu gu hu)
     have hnm:sv.ownBlock≠some bm:=OwG.notMap f2 (fun cs t fr h=>by obtain⟨es,cc,hq⟩:=f3.isMap;rw[hq] at h;cases h)
     have f1u:=Bb.grown f1.drew hu (by intro e;injection e with e;omega)
     have f2u:=OwG.kept (OwG.keep f2 (Aw (Below.refl _ _))) hu (Or.inr hnm);have f5u:=Bb.grown f5.drew hu (by intro e;injection e with e;omega)
     have fxu:=Bb.grown fx.drew hu (by intro e;injection e with e;omega)
     have f6u:Below B w wu:=Below.grown (Hw f6) hu (by have:=m5;simp;omega) (fun j hj=>by cases hj;omega)
     have f7u:w.heap.size<=wu.heap.size:=Nat.le_trans f7 hu.size;have f8u:Hid (wu.heap[s]? = w.heap[s]?):=Lib.hid ((hu.block s (by show s<wz.heap.size;omega) (by intro e;injection e with e;omega)).trans f8.out)
     clear f1 f2 f3 f5 fx f6 f7 f8 hu hnm m1 m2 m3 m4 m5 y1 y2 y3 y4 y5;obtain⟨m1,m2,m3,m4,m5⟩:=f1u.cells2;obtain⟨y1,y2,y3,y4,y5⟩:=fxu.cells2;obtain⟨i0,hi0,hz0,hz1,hz2⟩:=info_parts Vq;have hsz:=Ea L xs (0,0) k
     go_region_law ((refine Il rfl _ _ 54 rfl enS B 49 i0 (.agg #[.int .i64 0,.int .i64 0]) 2 16 Tryz.underlying54 hi0 hz0 hz1 hz2 rfl (by omega) Ci J5 sv (Bk L xs (0,0) k) rfl (OwG.keep (OwG.alloc f2u _) (Aw (Below.refl _ _))) wu.heap.size 1 (x1,x2) 49 rfl (Bb.drew (Bb.new _ _ _)) (by unfold maxLen;omega) (by omega) (by simp;omega) (wu.heap.size+1) (by simp) ?_;intro gg cap wv hov hgv hat hlv;have f1v:=Bb.grown ((f1u.alloc _).drew) hgv (by intro e;exact Nat.lt_irrefl _ (f4 _ e.symm).1);obtain⟨p1,p2,p3,p4,p5⟩:=f1v.cells2))
     all_goals go_wp2_with fail
     all_goals exact⟨Zh hst hlt f1v f2u gu f4 f5u f6u f7u hov hgv hat hBm hsl hsB hsm f8u.out f9,by simp[intOf];omega⟩
   ·obtain rfl:n=k:=by omega
    go_wp2_with fail
    go_end0
    refine⟨rfl,⟨_,sv,f1,by rw[HW.out];exact f2,.inr ⟨bm,rfl,hBm,f3.lt,by rw[HW.out];exact f3⟩,fun k hk=>⟨(f4 k hk).1,(OwG.lt f2 k hk).2⟩,f1.lt⟩,f6,f7,f8.out,by omega,hsB,avS f1 f9 hsm⟩
end
end Go.Proofs.YtpbchbcdgikonaaGreat
