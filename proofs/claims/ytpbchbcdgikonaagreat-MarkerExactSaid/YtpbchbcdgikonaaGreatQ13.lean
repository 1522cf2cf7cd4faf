/- Lean texts of the claim. -/
import Derived.Test.YtpbchbcdgikonaaGreatQ12
namespace Go.Proofs.YtpbchbcdgikonaaGreat
set_option linter.unusedVariables false
set_option linter.unusedSimpArgs false
set_option maxRecDepth 100000
set_option maxHeartbeats 4000000
open Go.RowKit
section
open Go.RowKit Go.Maps
structure End6 where
 put:Pt5
 right:Int
deriving DecidableEq
def enE (e:End6):List Value:=[.int .i64 e.put.sh,.bool e.put.fl,.int .i64 e.put.qu,.int .i64 e.put.x,.int .i64 e.put.y,.int .i64 e.right]
theorem D0 (e:End6):(enE e).length=6:=rfl
theorem pd (e:End6):∀u∈enE e,u.oneCell'=true:=by
 intro u hu;simp[enE] at hu;rcases hu with rfl|rfl|rfl|rfl|rfl|rfl<;>rfl
theorem Ag9:(Tryz.prog.info? 193).map (fun i=>(i.zero,i.size,i.bytes))=some (some (.agg #[.int .i64 0,.bool false,.int .i64 0,.int .i64 0,.int .i64 0,.int .i64 0]),6,48):=by kernel_rfl
def bh (e:End6):Value:=.agg #[.int .i64 e.put.sh,.bool e.put.fl,.int .i64 e.put.qu,.int .i64 e.put.x,.int .i64 e.put.y,.int .i64 e.right]
def okE (e:End6):Prop:=inR e.put.sh/\inR e.put.qu/\inR e.put.x/\inR e.put.y/\inR e.right
def klE (e:End6):Lit:=.string (keyBytes [.int .i64 e.put.sh,.bool e.put.fl,.int .i64 e.put.qu,.int .i64 e.put.x,.int .i64 e.put.y,.int .i64 e.right])
theorem Afu:(match Tryz.prog.underlying 193 with|some (.array _ _)|some (.struct _)=>true|_=>false)=true:=by rw[Tryz.underlying193]
theorem Ak3:(193:TypeId)<Tryz.prog.types.size:=of_decide_eq_true (by kernel_rfl)
theorem Alh:Keyed Tryz.prog 193:=Keyed.of_law (deep_law_laid (P:=Tryz.prog) (k:=193) Lp (m:=4) (by omega) Ak3 (by kernel_rfl) Afu)
theorem qz:Tryz.prog.cellsOf 193=6:=by kernel_rfl
theorem qw:Tryz.prog.cellsOf 89=5:=by kernel_rfl
theorem Yz:Tryz.prog.cellsOf 48=2:=by kernel_rfl
theorem cellsB:Tryz.prog.cellsOf 4=1:=by kernel_rfl
theorem Ajo:Tryz.prog.keyType 193=true:=by kernel_rfl
section
variable {P : Program} {t : TypeId} {d : Nat} {cs : List Value} {L1 L2 L3 : List Lit}
theorem Iu (hu:P.underlying t=some (.int .i64)) {n:Int} (h:inR n):P.keyLits (d+1) t [.int .i64 n]=some [.int .i64 n]:=by
 unfold Program.keyLits;rw[hu];simp[N9 h]
theorem bg (hu:P.underlying t=some .bool) (b:Bool):P.keyLits (d+1) t [.bool b]=some [.bool b]:=by
 unfold Program.keyLits;rw[hu]
theorem N8 {f1 f2 : Field} (hu : P.underlying t = some (.struct #[f1, f2])) (hn : #[f1, f2].all (·.name != "_") = true) (hc : cs.length = P.cellsOf t) (h1 : P.keyLits d f1.type ((cs.drop f1.offset).take (P.cellsOf f1.type)) = some L1) (h2 : P.keyLits d f2.type ((cs.drop f2.offset).take (P.cellsOf f2.type)) = some L2) :
 P.keyLits (d+1) t cs=some (L1++L2):=by
 unfold Program.keyLits;rw[hu];simp only;rw[if_pos ⟨hc,hn⟩];simp[h1,h2]
theorem Vk {f1 f2 f3 : Field} (hu : P.underlying t = some (.struct #[f1, f2, f3])) (hn : #[f1, f2, f3].all (·.name != "_") = true) (hc : cs.length = P.cellsOf t) (h1 : P.keyLits d f1.type ((cs.drop f1.offset).take (P.cellsOf f1.type)) = some L1) (h2 : P.keyLits d f2.type ((cs.drop f2.offset).take (P.cellsOf f2.type)) = some L2) (h3 : P.keyLits d f3.type ((cs.drop f3.offset).take (P.cellsOf f3.type)) = some L3) :
 P.keyLits (d+1) t cs=some (L1++(L2++L3)):=by
 unfold Program.keyLits;rw[hu];simp only;rw[if_pos ⟨hc,hn⟩];simp[h1,h2,h3]
theorem yd {k:TypeId} {fs:Array Field} (hu:P.underlying k=some (.struct fs)) (hk:P.keyType k=true) {xs:Array Value} (hf:(Value.agg xs).formed P k=true) {L:List Lit} (h:P.keyLits (P.types.size+1) k (Value.agg xs).cells.toList=some L):keyOf P k (.agg xs)=some (.string (keyBytes L)):=by
 unfold keyOf;rw[hu];simp[hk,hf,h]
end
theorem Adq (p:End6) (h:okE p):keyOf Tryz.prog 193 (bh p)=some (klE p):=by
 obtain⟨m,hm⟩:=O8;unfold bh klE;refine yd (P:=Tryz.prog) Tryz.underlying193 Ajo (by simp[Value.formed,Tryz.underlying193,qz]) ?_
 rw[hm,show [Lit.int .i64 p.put.sh,.bool p.put.fl,.int .i64 p.put.qu,.int .i64 p.put.x,.int .i64 p.put.y,.int .i64 p.right]=([.int .i64 p.put.sh]++(([.bool p.put.fl]++[.int .i64 p.put.qu])++([.int .i64 p.put.x]++[.int .i64 p.put.y])))++[.int .i64 p.right] from rfl]
 refine N8 Tryz.underlying193 (by kernel_rfl) (by rw[qz];rfl) ?_ ?_
 ·rw[qw]
  refine Vk Tryz.underlying89 (by kernel_rfl) (by rw[qw];rfl) ?_ ?_ ?_
  ·rw[cellsI];exact Iu Tryz.underlying3 h.1
  ·rw[Yz]
   refine N8 Tryz.underlying48 (by kernel_rfl) (by rw[Yz];rfl) ?_ ?_
   ·rw[cellsB];exact bg Tryz.underlying4 _
   ·rw[cellsI];exact Iu Tryz.underlying3 h.2.1
  ·rw[Oq]
   refine N8 Tryz.underlying49 (by kernel_rfl) (by rw[Oq];rfl) ?_ ?_
   ·rw[cellsI];exact Iu Tryz.underlying3 h.2.2.1
   ·rw[cellsI];exact Iu Tryz.underlying3 h.2.2.2.1
 ·rw[cellsI];exact Iu Tryz.underlying3 h.2.2.2.2
theorem Agx {d:Nat} {xs:List Value} {L:List Lit} (h:Tryz.prog.keyLits (d+2) 48 xs=some L):∃f q,xs=[.bool f,.int .i64 q]/\inR q:=by
 obtain⟨h1,⟨L1,h2⟩,⟨L2,h3⟩⟩:=lq Tryz.underlying48 h;rw[Yz] at h1;rw[cellsB] at h2;rw[cellsI] at h3;obtain⟨a,b,rfl⟩:=Akh h1;simp only[List.drop_zero,List.drop_succ_cons,List.take_succ_cons,List.take_zero] at h2 h3;obtain⟨x,rfl⟩:=Agy (P:=Tryz.prog) Tryz.underlying4 h2;obtain⟨y,rfl,hy⟩:=Tn (P:=Tryz.prog) Tryz.underlying3 h3;exact⟨x,y,rfl,hy⟩
theorem ye (v:Value) (l:Lit) (h:keyOf Tryz.prog 193 v=some l):∃p,v=bh p/\okE p:=by
 obtain⟨m,hm⟩:=O8;obtain⟨xs,L,rfl,h1,rfl⟩:=keyOf_top (P:=Tryz.prog) (k:=193) Afu h;rw[hm] at h1;obtain⟨g1,⟨L1,g2⟩,⟨L2,g3⟩⟩:=lq Tryz.underlying193 h1;rw[qz] at g1;rw[qw] at g2;rw[cellsI] at g3;obtain⟨x0,x1,x2,x3,x4,x5,hx⟩:=Ale g1;rw[hx] at g2 g3;simp only[List.drop_zero,List.drop_succ_cons,List.take_succ_cons,List.take_zero] at g2 g3;obtain⟨-,⟨M1,q1⟩,⟨M2,q2⟩,⟨M3,q3⟩⟩:=Yf Tryz.underlying89 g2;rw[cellsI] at q1;rw[Yz] at q2;rw[Oq] at q3;simp only[List.drop_zero,List.drop_succ_cons,List.take_succ_cons,List.take_zero] at q1 q2 q3;obtain⟨sh,rfl,e1⟩:=Tn (P:=Tryz.prog) Tryz.underlying3 q1;obtain⟨fl,qu,e2,e3⟩:=Agx q2;obtain⟨x,y,e4,e5,e6⟩:=Abn q3;obtain⟨r,rfl,e7⟩:=Tn (P:=Tryz.prog) Tryz.underlying3 g3;simp only[List.cons.injEq,and_true] at e2 e4;obtain⟨rfl,rfl⟩:=e2;obtain⟨rfl,rfl⟩:=e4;refine⟨⟨⟨sh,fl,qu,x,y⟩,r⟩,?_,e1,e3,e5,e6,e7⟩;unfold bh;rw[show xs=#[.int .i64 sh,.bool fl,.int .i64 qu,.int .i64 x,.int .i64 y,.int .i64 r] by apply Array.ext';simpa using hx]
theorem Afd:KeyRep Tryz.prog 193 bh okE klE where
 law:=Alh
 of:=Adq
 inv:=ye
 inj x y h:=by
  obtain⟨⟨a1,a2,a3,a4,a5⟩,a6⟩:=x;obtain⟨⟨b1,b2,b3,b4,b5⟩,b6⟩:=y;unfold bh at h;injection h with h
  injection h with h
  simp at h;obtain⟨rfl,rfl,rfl,rfl,rfl,rfl⟩:=h;rfl
theorem Bb.cells6 {w:World} {g:Nat} {t:TypeId} {u0 u1 u2 u3 u4 u5:Value} (h:Bb w g t #[u0,u1,u2,u3,u4,u5]):w.cell? ⟨g,0,none⟩=some u0/\w.cell? ⟨g,1,none⟩=some u1/\w.cell? ⟨g,2,none⟩=some u2/\w.cell? ⟨g,3,none⟩=some u3/\w.cell? ⟨g,4,none⟩=some u4/\w.cell? ⟨g,5,none⟩=some u5/\g<w.heap.size :=
 ⟨h.cell 0,h.cell 1,h.cell 2,h.cell 3,h.cell 4,h.cell 5,h.lt⟩
def ti (w:World) (B hi:Nat) (L:List End6):Prop :=
 ∃mv sv,Bb w B 187 #[mv,sv]/\OwG 193 6 enE w B sv L/\((mv=.map none/\L=[])\/∃bm,mv=.map (some bm)/\B<bm/\bm<hi/\C5 Tryz.prog 193 4 okE klE w bm L.length L)/\(∀k,sv.ownBlock=some k->B<k/\k<hi)/\B<hi
theorem ti.keep {w w':World} {B hi:Nat} {L:List End6} (h:ti w B hi L) (hb:Below w.heap.size w w'):ti w' B hi L:=by
 obtain⟨mv,sv,h1,h2,h3,h4,h5⟩:=h;refine⟨mv,sv,h1.keep hb,h2.keep hb,?_,h4,h5⟩;rcases h3 with h3|⟨bm,e1,e2,e3,e4⟩
 ·exact .inl h3
 ·exact .inr ⟨bm,e1,e2,e3,e4.keep hb⟩
theorem ti.mono {w:World} {B hi hi':Nat} {L:List End6} (h:ti w B hi L) (hh:hi<=hi'):ti w B hi' L:=by
 obtain⟨mv,sv,h1,h2,h3,h4,h5⟩:=h;refine⟨mv,sv,h1,h2,?_,fun k hk=>⟨(h4 k hk).1,Nat.lt_of_lt_of_le (h4 k hk).2 hh⟩,by omega⟩
 rcases h3 with h3|⟨bm,e1,e2,e3,e4⟩
 ·exact .inl h3
 ·exact .inr ⟨bm,e1,e2,by omega,e4⟩
theorem ti.new (w:World):ti (w.alloc (.cells #[.map none,.slice none 0 0] 187)) w.heap.size (w.heap.size+1) [] :=
 ⟨_,_,Bb.new _ _ _,OwG.nil,.inl ⟨rfl,rfl⟩,(fun k hk=>by cases hk),by omega⟩
def AvE (w:World) (B s:Nat):Prop:=s<w.heap.size/\s≠B/\∀mv sv,Bb w B 187 #[mv,sv]->sv.ownBlock≠some s/\mv≠.map (some s)
theorem avE {w:World} {B s bm:Nat} {sv:Value} (h1:Bb w B 187 #[.map (some bm),sv]) (h2:sv.ownBlock≠some s) (h3:bm≠s):∀mv sv,Bb w B 187 #[mv,sv]->sv.ownBlock≠some s/\mv≠.map (some s):=by
 intro mv sv' h;unfold Bb at h h1;rw[h1] at h;simp at h;obtain⟨rfl,rfl⟩:=h;exact⟨h2,by simp;exact h3⟩
theorem ti.av {w:World} {B hi s:Nat} {L:List End6} (h:ti w B hi L) (hs:hi<=s) (hs2:s<w.heap.size):AvE w B s:=by
 obtain⟨mv,sv,h1,h2,h3,h4,h5⟩:=h;refine⟨hs2,by omega,fun mv' sv' h=>?_⟩
 unfold Bb at h h1;rw[h1] at h;simp at h;obtain⟨rfl,rfl⟩:=h;refine⟨fun e=>by have:=(h4 s e).2;omega,?_⟩
 rcases h3 with ⟨rfl,_⟩|⟨bm,rfl,_,e3,_⟩
 ·simp
 ·simp;omega
theorem AvE.keep {w w':World} {B s:Nat} (h:AvE w B s) (hB:B<w.heap.size) (hb:Below w.heap.size w w'):AvE w' B s :=
 ⟨Nat.lt_of_lt_of_le h.1 hb.size,h.2.1,fun mv sv h'=>h.2.2 mv sv ((hb.block B hB).symm.trans h')⟩
def Amg (wq:World) (B s:Nat) (L:List End6) (e:Ending) (w':World):Prop:=e=.returned (.tuple #[])/\ti w' B w'.heap.size L/\Below B wq w'/\wq.heap.size<=w'.heap.size/\w'.heap[s]? = wq.heap[s]? /\ AvE w' B s
theorem Zi {B bm bx n k gg cap:Nat} {x:End6} {L xs:List End6} {w wu wv:World} {sv:Value} {o:Obj} (hst:Hid (Bk L xs ⟨⟨0,false,0,0,0⟩,0⟩ (k+1)=Bk L xs ⟨⟨0,false,0,0,0⟩,0⟩ k++[x])) (hlt:k<n)
 (f1v:Bb wv B 187 #[.map (some bm),sv]) (f2u:OwG 193 6 enE wu B sv (Bk L xs ⟨⟨0,false,0,0,0⟩,0⟩ k)) (gu:C5 Tryz.prog 193 4 okE klE wu bm ((Bk L xs ⟨⟨0,false,0,0,0⟩,0⟩ k).length+1) (Bk L xs ⟨⟨0,false,0,0,0⟩,0⟩ k++[x])) (f4:∀k,sv.ownBlock=some k->B<k/\k≠bx)
 (f5u:Bb wu bx 193 (xs.flatMap enE).toArray) (f6u:Below B w wu) (f7u:w.heap.size<=wu.heap.size) (hov:OwG 193 6 enE wv B (.slice (some ⟨gg,0,none⟩) ((Bk L xs ⟨⟨0,false,0,0,0⟩,0⟩ k).length+1) cap) (Bk L xs ⟨⟨0,false,0,0,0⟩,0⟩ k++[x]))
 (hgv:(wu.alloc o).drew.grownBy wv sv.ownBlock) (hat:sv.ownBlock=some gg\/gg=wu.heap.size+1) (hBm:B<bm) {s:Nat} (hsl:s<w.heap.size) (hsB:s≠B) (hsm:bm≠s) (f8u:wu.heap[s]? = w.heap[s]?) (f9:sv.ownBlock≠some s) :
 (∃(k_1:Nat) (sv:Value),k_1<=n/\Value.int IntKind.i64 ((k:Int)+1)=.int .i64 k_1/\Bb (wv.setCell ⟨B,1,none⟩ (.slice (some ⟨gg,0,none⟩) ((Bk L xs ⟨⟨0,false,0,0,0⟩,0⟩ k).length+1) cap)) B 187 #[.map (some bm),sv]/\OwG 193 6 enE (wv.setCell ⟨B,1,none⟩ (.slice (some ⟨gg,0,none⟩) ((Bk L xs ⟨⟨0,false,0,0,0⟩,0⟩ k).length+1) cap)) B sv (Bk L xs ⟨⟨0,false,0,0,0⟩,0⟩ k_1)/\C5 Tryz.prog 193 4 okE klE (wv.setCell ⟨B,1,none⟩ (.slice (some ⟨gg,0,none⟩) ((Bk L xs ⟨⟨0,false,0,0,0⟩,0⟩ k).length+1) cap)) bm (Bk L xs ⟨⟨0,false,0,0,0⟩,0⟩ k_1).length (Bk L xs ⟨⟨0,false,0,0,0⟩,0⟩ k_1)/\(∀k,sv.ownBlock=some k->B<k/\k≠bx)/\Bb (wv.setCell ⟨B,1,none⟩ (.slice (some ⟨gg,0,none⟩) ((Bk L xs ⟨⟨0,false,0,0,0⟩,0⟩ k).length+1) cap)) bx 193 (xs.flatMap enE).toArray/\Below B w (wv.setCell ⟨B,1,none⟩ (.slice (some ⟨gg,0,none⟩) ((Bk L xs ⟨⟨0,false,0,0,0⟩,0⟩ k).length+1) cap))/\w.heap.size<=(wv.setCell ⟨B,1,none⟩ (.slice (some ⟨gg,0,none⟩) ((Bk L xs ⟨⟨0,false,0,0,0⟩,0⟩ k).length+1) cap)).heap.size/\Hid ((wv.setCell ⟨B,1,none⟩ (.slice (some ⟨gg,0,none⟩) ((Bk L xs ⟨⟨0,false,0,0,0⟩,0⟩ k).length+1) cap)).heap[s]? = w.heap[s]?)/\sv.ownBlock≠some s):=by
 have hmap:∀cs t fr,wu.heap[bm]? ≠ some (.cells cs t fr):=fun cs t fr h=>by obtain⟨es,cc,hq⟩:=gu.isMap;rw[hq] at h;cases h
 have hbmu:=gu.lt;have hbxu:=f5u.lt
 have hgg:B<gg/\gg≠bx:=by
  rcases hat with h|h
  ·exact f4 gg h
  ·omega
 have hblk:(Value.slice (some ⟨gg,0,none⟩) ((Bk L xs ⟨⟨0,false,0,0,0⟩,0⟩ k).length+1) cap).ownBlock=some gg:=rfl
 have hxB:bx≠B:=by
  intro e;subst e;have h1:=(hgv.block bx (by simp;omega) (by intro e2;exact(f4 bx e2.symm).2 rfl))
  have h2:=f5u.alloc o;unfold Bb at h2 f1v;rw[f1v] at h1;have h3:(wu.alloc o).drew.heap[bx]? = some (.cells (xs.flatMap enE).toArray 193 (0,0)):=h2;rw[h3] at h1;injection h1 with h1
  injection h1 with _ h1
  exact absurd h1 (by decide)
 refine⟨k+1,.slice (some ⟨gg,0,none⟩) ((Bk L xs ⟨⟨0,false,0,0,0⟩,0⟩ k).length+1) cap,by omega,by go_num,f1v.set_ 1 _,by rw[hst.out];exact OwG.far hov (by rw[hblk];intro e;injection e with e;exact absurd e (Nat.ne_of_gt hgg.1)) _,?_,?_,?_,?_,?_,?_,?_⟩
 ·rw[hst.out,List.length_append]
  exact((gu.alloc o).keep (Aw (Below.refl _ _))).kept hgv (OwG.notMap f2u hmap).symm |>.kept (row:=some B) ⟨rfl,rfl,rfl,by simp[World.setCell],fun j _ hne=>Below.heap_setCell _ _ _ j (fun e=>hne (by rw[e]))⟩ (by intro e;injection e with e;omega)
 ·intro j hj
  rw[hblk] at hj;injection hj with hj
  subst hj;exact hgg
 ·exact(Bb.grown ((f5u.alloc o).drew) hgv (by intro e;exact(f4 bx e.symm).2 rfl)).far hxB _
 ·refine Below.setCell (Below.grown (Hw (Below.alloc f6u (by omega) o)) hgv (by simp;omega) (fun j hj=>Nat.le_of_lt (f4 j hj).1)) (Nat.le_refl _) _
 ·have:=hgv.size
  simp[World.setCell] at this ⊢;omega
 ·refine Lib.hid ((Below.heap_setCell wv _ _ s (by exact hsB)).trans ((hgv.block s (by simp;omega) (fun e=>f9 e.symm)).trans ((Below.heap_alloc wu o s (by omega)).trans f8u)))
 ·rw[hblk];intro e;injection e with e
  rcases hat with h|h
  ·exact f9 (by rw[h,e])
  ·omega
theorem Aao (B hi bx n c:Nat) (L xs:List End6) (w:World) (hn:xs.length=n) (hn1:n<=1000) (hL:L.length<=1000000000000) (hX:Bb w bx 193 (xs.flatMap enE).toArray) (hbx:hi<=bx) (hok:∀x∈xs,okE x) (hB:ti w B hi L) (s:Nat) (hav:AvE w B s) :
 Calls Tryz.prog 100 #[.pointer (some ⟨B,0,none⟩),.slice (some ⟨bx,0,none⟩) n c] w (Amg w B s (Rx L xs ⟨⟨0,false,0,0,0⟩,0⟩)):=by
 have hz:=Ox;have HN:=Lib.hid hn;have HOK:=Lib.hid hok;have HW:=Lib.hid (show Rx L xs ⟨⟨0,false,0,0,0⟩,0⟩=Bk L xs ⟨⟨0,false,0,0,0⟩,0⟩ n by unfold Rx;rw[hn])
 clear hn hok;obtain⟨mv,sv,k1,k2,k3,k4,k5⟩:=hB;have hsl:=hav.1;have hsB:=hav.2.1;have k9:=hav.2.2 mv sv k1;clear hav;rcases k3 with ⟨rfl,hLn⟩|⟨bm,rfl,hBm,hbm,k3⟩
 ·have hmm:=@run_makeMap Tryz.prog
  have heq:=fun (w:World)=>run_eql_map_nil (P:=Tryz.prog) w 184 193 4 none Tryz.underlying184
  obtain⟨m1,m2,m3,m4,m5⟩:=k1.cells2;obtain⟨bm,hbm⟩:∃bm,bm=w.heap.size:=⟨_,rfl⟩
  have hBm:B<bm:=by omega
  have k3:True:=trivial;have HLN:=Lib.hid hLn;clear hLn;go_enter Tryz.func100,Tryz.ntmps100;go_upto_region 2 with fail;clear hmm heq;rw[<-hbm];have hsz0:(w.setCell ⟨B,0,none⟩ (.map (some bm))).heap.size=bm:=by rw[hbm];simp[World.setCell]
  have hs1:C5 Tryz.prog 193 4 okE klE ((w.setCell ⟨B,0,none⟩ (.map (some bm))).alloc (.map #[] 0)) bm L.length L:=by
   rw[HLN.out];have h9:=C5.made (P:=Tryz.prog) (k:=193) (e:=4) (ok:=okE) (kl:=klE) (w.setCell ⟨B,0,none⟩ (.map (some bm)));rw[hsz0] at h9;exact h9
  have hbm2:w.heap.size<=bm:=by omega
  have hbxm:bx≠bm:=by have:=hX.lt;omega
  have hsm:bm≠s:=by omega
  have hL0:Hid ((w.setCell ⟨B,0,none⟩ (.map (some bm))).heap.size=bm):=hsz0;clear m1 m2 m3 m4 hsz0 hbm;refine Cw (fun X=>∃sv,Bb X B 187 #[.map (some bm),sv]/\OwG 193 6 enE X B sv L/\C5 Tryz.prog 193 4 okE klE X bm L.length L/\(∀k,sv.ownBlock=some k->B<k/\k≠bx)/\Bb X bx 193 (xs.flatMap enE).toArray/\Below B w X/\w.heap.size<=X.heap.size/\X.heap[s]? = w.heap[s]? /\ sv.ownBlock≠some s) ⟨sv,(k1.set_ 0 _).alloc _,OwG.alloc (OwG.far k2 (fun e=>Nat.lt_irrefl _ (k4 B e).1) _) _,hs1,fun k hk=>⟨(k4 k hk).1,by have:=(k4 k hk).2;omega⟩,(hX.far (p:=⟨B,0,none⟩) (Nat.ne_of_gt (Nat.lt_of_lt_of_le k5 hbx)) _).alloc _,Below.alloc (Below.setCell (Below.refl _ _) (Nat.le_refl _) _) (by rw[hL0.out];exact Nat.le_of_lt hBm) _,by simp[World.setCell],(Below.heap_alloc _ _ s (by rw[hL0.out];omega)).trans (Below.heap_setCell w ⟨B,0,none⟩ _ s hsB),k9.1⟩ ?_
  rintro wl ⟨sv2,f1,f2,f3,f4,f5,f6,f7,f8,f9⟩;clear k1 k2 k3 k4 hX hz;go_wp2_with fail;go_loopw [17] (fun i wr=>∃(k:Nat) (sv:Value),k<=n/\i=.int .i64 k/\Bb wr B 187 #[.map (some bm),sv]/\OwG 193 6 enE wr B sv (Bk L xs ⟨⟨0,false,0,0,0⟩,0⟩ k)/\C5 Tryz.prog 193 4 okE klE wr bm (Bk L xs ⟨⟨0,false,0,0,0⟩,0⟩ k).length (Bk L xs ⟨⟨0,false,0,0,0⟩,0⟩ k)/\(∀k,sv.ownBlock=some k->B<k/\k≠bx)/\Bb wr bx 193 (xs.flatMap enE).toArray/\Below B w wr/\w.heap.size<=wr.heap.size/\Hid (wr.heap[s]? = w.heap[s]?)/\sv.ownBlock≠some s) (fun i _=>n-(intOf i).toNat)
  case atStart=>exact⟨0,sv2,Nat.zero_le _,rfl,f1,f2,f3,f4,f5,f6,f7,Lib.hid f8,f9⟩
  case round =>
   clear f1 f2 f3 f4 f5 f6 f7 f8 f9;obtain⟨k,sv,hk,rfl,f1,f2,f3,f4,f5,f6,f7,f8,f9⟩:=hrel;have hlen:=Ea L xs ⟨⟨0,false,0,0,0⟩,0⟩ k;by_cases hlt:k<n
   ·have hkx:k<xs.length:=by rw[HN.out];exact hlt
    obtain⟨x,hx⟩:∃x,xs.getD k ⟨⟨0,false,0,0,0⟩,0⟩=x:=⟨_,rfl⟩
    have hxk:xs[k]? = some x:=by rw[<-hx,List.getD,List.getElem?_eq_getElem hkx];rfl
    have hxok:okE x:=HOK.out x (List.mem_of_getElem? hxk);have HX:=Lib.hid hx;have d0:=(f5.cell (k*6)).trans (by have:=Bp D0 xs k 0 x hxk (by omega);simpa using this)
    have d1:=(f5.cell (k*6+1)).trans (by have:=Bp D0 xs k 1 x hxk (by omega);simpa using this)
    have d2:=(f5.cell (k*6+2)).trans (by have:=Bp D0 xs k 2 x hxk (by omega);simpa using this)
    have d3:=(f5.cell (k*6+3)).trans (by have:=Bp D0 xs k 3 x hxk (by omega);simpa using this)
    have d4:=(f5.cell (k*6+4)).trans (by have:=Bp D0 xs k 4 x hxk (by omega);simpa using this)
    have d5:=(f5.cell (k*6+5)).trans (by have:=Bp D0 xs k 5 x hxk (by omega);simpa using this)
    simp only[enE,List.getElem?_cons_zero,List.getElem?_cons_succ] at d0 d1 d2 d3 d4 d5;clear hx hxk;have bl:=f5.lt;obtain⟨m1,m2,m3,m4,m5⟩:=f1.cells2;obtain⟨⟨s0,f0,q0,x0,y0⟩,r0⟩:=x;by_cases hin:(⟨⟨s0,f0,q0,x0,y0⟩,r0⟩:End6)∈Bk L xs ⟨⟨0,false,0,0,0⟩,0⟩ k
    ·have hst:=Lib.hid (show Bk L xs ⟨⟨0,false,0,0,0⟩,0⟩ (k+1)=Bk L xs ⟨⟨0,false,0,0,0⟩,0⟩ k by rw[Bk,HX.out,if_pos hin])
     have hgt:∀q,(Instr.lookup 184 (.map (some bm)) (.agg #[.int .i64 s0,.bool f0,.int .i64 q0,.int .i64 x0,.int .i64 y0,.int .i64 r0]) false).run Tryz.prog ((wr.alloc (.cells #[.int .i64 s0,.bool f0,.int .i64 q0,.int .i64 x0,.int .i64 y0,.int .i64 r0] 193)).drewN q)=.ok (.bool true) ((wr.alloc (.cells #[.int .i64 s0,.bool f0,.int .i64 q0,.int .i64 x0,.int .i64 y0,.int .i64 r0] 193)).drewN q):=by
      intro q;have h9:=C5.get (t:=184) Afd Tryz.underlying184 Tryz.underlying4 (Ox _) ((f3.alloc (.cells #[.int .i64 s0,.bool f0,.int .i64 q0,.int .i64 x0,.int .i64 y0,.int .i64 r0] 193)).keep (Bg (Below.refl _ _) q)) (x:=(⟨⟨s0,f0,q0,x0,y0⟩,r0⟩:End6)) hxok;refine h9.trans ?_;simp[hin]
     go_wp2_with fail
     go_quiet (fail)
     clear hgt;go_wp2_with fail;exact⟨⟨k+1,sv,by omega,by go_num,(f1.alloc _).drewN _,by rw[hst.out];exact OwG.keep (OwG.alloc f2 _) (Bg (Below.refl _ _) _),by rw[hst.out];exact(f3.alloc _).keep (Bg (Below.refl _ _) _),f4,(f5.alloc _).drewN _,Fm (Below.alloc f6 (by omega) _) _,by simp;omega,Lib.hid ((Below.heap_alloc wr _ s (by omega)).trans f8.out),f9⟩,by simp[intOf];omega⟩
    ·have hst:=Lib.hid (show Bk L xs ⟨⟨0,false,0,0,0⟩,0⟩ (k+1)=Bk L xs ⟨⟨0,false,0,0,0⟩,0⟩ k++[(⟨⟨s0,f0,q0,x0,y0⟩,r0⟩:End6)] by rw[Bk,HX.out,if_neg hin])
     have hgt:∀q,(Instr.lookup 184 (.map (some bm)) (.agg #[.int .i64 s0,.bool f0,.int .i64 q0,.int .i64 x0,.int .i64 y0,.int .i64 r0]) false).run Tryz.prog ((wr.alloc (.cells #[.int .i64 s0,.bool f0,.int .i64 q0,.int .i64 x0,.int .i64 y0,.int .i64 r0] 193)).drewN q)=.ok (.bool false) ((wr.alloc (.cells #[.int .i64 s0,.bool f0,.int .i64 q0,.int .i64 x0,.int .i64 y0,.int .i64 r0] 193)).drewN q):=by
      intro q;have h9:=C5.get (t:=184) Afd Tryz.underlying184 Tryz.underlying4 (Ox _) ((f3.alloc (.cells #[.int .i64 s0,.bool f0,.int .i64 q0,.int .i64 x0,.int .i64 y0,.int .i64 r0] 193)).keep (Bg (Below.refl _ _) q)) (x:=(⟨⟨s0,f0,q0,x0,y0⟩,r0⟩:End6)) hxok;refine h9.trans ?_;simp[hin]
     go_wp2_with fail
     go_quiet (fail)
     clear hgt;have f1a:=(f1.alloc (.cells #[.int .i64 s0,.bool f0,.int .i64 q0,.int .i64 x0,.int .i64 y0,.int .i64 r0] 193)).drewN nq;have f2a:=OwG.keep (OwG.alloc f2 (.cells #[.int .i64 s0,.bool f0,.int .i64 q0,.int .i64 x0,.int .i64 y0,.int .i64 r0] 193)) (Bg (Below.refl _ _) nq);have f3a:=(f3.alloc (.cells #[.int .i64 s0,.bool f0,.int .i64 q0,.int .i64 x0,.int .i64 y0,.int .i64 r0] 193)).keep (Bg (Below.refl _ _) nq);have f5a:=(f5.alloc (.cells #[.int .i64 s0,.bool f0,.int .i64 q0,.int .i64 x0,.int .i64 y0,.int .i64 r0] 193)).drewN nq;have f6a:=Fm (Below.alloc f6 (by omega) (.cells #[.int .i64 s0,.bool f0,.int .i64 q0,.int .i64 x0,.int .i64 y0,.int .i64 r0] 193)) nq
     have hxa:=(Bb.new wr 193 #[.int .i64 s0,.bool f0,.int .i64 q0,.int .i64 x0,.int .i64 y0,.int .i64 r0]).drewN nq;have f8a:((wr.alloc (.cells #[.int .i64 s0,.bool f0,.int .i64 q0,.int .i64 x0,.int .i64 y0,.int .i64 r0] 193)).drewN nq).heap[s]? = w.heap[s]? := (Below.heap_alloc wr _ s (by omega)).trans f8.out
     have f7a:w.heap.size<=((wr.alloc (.cells #[.int .i64 s0,.bool f0,.int .i64 q0,.int .i64 x0,.int .i64 y0,.int .i64 r0] 193)).drewN nq).heap.size:=by simp;omega
     obtain⟨bq,hbq⟩:∃bq,bq=wr.heap.size:=⟨_,rfl⟩
     have hbq1:bx<bq:=by omega
     have hbq2:B<bq:=by omega
     have hbq3:bm<bq:=by have:=f3.lt;omega
     have hbq4:∀k,sv.ownBlock=some k->k<bq:=fun k hk=>by rw[hbq];exact(OwG.lt f2 k hk).2
     go_upto_region 6 with fail;rw[<-hbq] at hxa ⊢;refine Cw (fun X=>Bb X B 187 #[.map (some bm),sv]/\OwG 193 6 enE X B sv (Bk L xs ⟨⟨0,false,0,0,0⟩,0⟩ k)/\C5 Tryz.prog 193 4 okE klE X bm (Bk L xs ⟨⟨0,false,0,0,0⟩,0⟩ k).length (Bk L xs ⟨⟨0,false,0,0,0⟩,0⟩ k)/\Bb X bx 193 (xs.flatMap enE).toArray/\Bb X bq 193 #[.int .i64 s0,.bool f0,.int .i64 q0,.int .i64 x0,.int .i64 y0,.int .i64 r0]/\Below B w X/\w.heap.size<=X.heap.size/\Hid (X.heap[s]? = w.heap[s]?)) ⟨f1a,f2a,f3a,f5a,hxa,f6a,f7a,Lib.hid f8a⟩ ?_
     clear f1a f2a f3a f5a hxa f6a f7a f8a f1 f2 f3 f5 f6 f7 f8 hbq d0 d1 d2 d3 d4 d5 m1 m2 m3 m4 m5 bl;rintro wz ⟨f1,f2,f3,f5,fx,f6,f7,f8⟩;obtain⟨m1,m2,m3,m4,m5⟩:=f1.cells2;obtain⟨z1,z2,z3,z4,z5,z6,z7⟩:=fx.cells6;refine Br 5 (by kernel_rfl) (by kernel_rfl) ?_
     simp only[List.take_succ_cons,List.take_zero,List.drop_succ_cons,List.drop_zero]
     repeat still_step
     refine wpStill_nil ?_
     go_wp2_with (at_mapUpdate;refine Du rfl _ _ _ 184 rfl Afd Tryz.underlying184 Tryz.underlying4 rfl (f3.keep (Aw (Below.refl _ _))) (by unfold maxLen;omega) (⟨⟨s0,f0,q0,x0,y0⟩,r0⟩:End6) hxok rfl rfl ?_;intro wu gu hu)
     have hnm:sv.ownBlock≠some bm:=OwG.notMap f2 (fun cs t fr h=>by obtain⟨es,cc,hq⟩:=f3.isMap;rw[hq] at h;cases h)
     have f1u:=Bb.grown f1.drew hu (by intro e;injection e with e;omega)
     have f2u:=OwG.kept (OwG.keep f2 (Aw (Below.refl _ _))) hu (Or.inr hnm);have f5u:=Bb.grown f5.drew hu (by intro e;injection e with e;omega)
     have fxu:=Bb.grown fx.drew hu (by intro e;injection e with e;omega)
     have f6u:Below B w wu:=Below.grown (Hw f6) hu (by have:=m5;simp;omega) (fun j hj=>by cases hj;omega)
     have f7u:w.heap.size<=wu.heap.size:=Nat.le_trans f7 hu.size;have f8u:Hid (wu.heap[s]? = w.heap[s]?):=Lib.hid ((hu.block s (by show s<wz.heap.size;omega) (by intro e;injection e with e;omega)).trans f8.out)
     clear f1 f2 f3 f5 fx f6 f7 f8 hu hnm m1 m2 m3 m4 m5 z1 z2 z3 z4 z5 z6 z7;obtain⟨m1,m2,m3,m4,m5⟩:=f1u.cells2;obtain⟨z1,z2,z3,z4,z5,z6,z7⟩:=fxu.cells6;obtain⟨i0,hi0,hz0,hz1,hz2⟩:=info_parts Ag9;have hsz:=Ea L xs ⟨⟨0,false,0,0,0⟩,0⟩ k
     go_region_law ((refine Il rfl _ _ 185 rfl enE B 193 i0 (.agg #[.int .i64 0,.bool false,.int .i64 0,.int .i64 0,.int .i64 0,.int .i64 0]) 6 48 Tryz.underlying185 hi0 hz0 hz1 hz2 rfl (by omega) D0 pd sv (Bk L xs ⟨⟨0,false,0,0,0⟩,0⟩ k) rfl (OwG.keep (OwG.alloc f2u _) (Aw (Below.refl _ _))) wu.heap.size 1 (⟨⟨s0,f0,q0,x0,y0⟩,r0⟩:End6) 193 rfl (Bb.drew (Bb.new _ _ _)) (by unfold maxLen;omega) (by omega) (by simp;omega) (wu.heap.size+1) (by simp) ?_;intro gg cap wv hov hgv hat hlv;have f1v:=Bb.grown ((f1u.alloc _).drew) hgv (by intro e;exact Nat.lt_irrefl _ (f4 _ e.symm).1);obtain⟨p1,p2,p3,p4,p5⟩:=f1v.cells2))
     all_goals go_wp2_with fail
     all_goals exact⟨Zi hst hlt f1v f2u gu f4 f5u f6u f7u hov hgv hat hBm hsl hsB hsm f8u.out f9,by simp[intOf];omega⟩
   ·obtain rfl:n=k:=by omega
    go_wp2_with fail
    go_end0
    refine⟨rfl,⟨_,sv,f1,by rw[HW.out];exact f2,.inr ⟨bm,rfl,hBm,f3.lt,by rw[HW.out];exact f3⟩,fun k hk=>⟨(f4 k hk).1,(OwG.lt f2 k hk).2⟩,f1.lt⟩,f6,f7,f8.out,by omega,hsB,avE f1 f9 hsm⟩
 ·have heq:=fun (w:World)=>run_eql_map_nil (P:=Tryz.prog) w 184 193 4 (some bm) Tryz.underlying184
  obtain⟨m1,m2,m3,m4,m5⟩:=k1.cells2;go_enter Tryz.func100,Tryz.ntmps100;go_upto_region 2 with fail;clear heq m1 m2 m3 m4 m5;have hbxm:bx≠bm:=by omega
  have hsm:bm≠s:=fun e=>k9.2 (by rw[e])
  refine Cw (fun X=>∃sv,Bb X B 187 #[.map (some bm),sv]/\OwG 193 6 enE X B sv L/\C5 Tryz.prog 193 4 okE klE X bm L.length L/\(∀k,sv.ownBlock=some k->B<k/\k≠bx)/\Bb X bx 193 (xs.flatMap enE).toArray/\Below B w X/\w.heap.size<=X.heap.size/\X.heap[s]? = w.heap[s]? /\ sv.ownBlock≠some s) ⟨sv,k1,k2,k3,fun k hk=>⟨(k4 k hk).1,by have:=(k4 k hk).2;omega⟩,hX,Below.refl _ _,Nat.le_refl _,rfl,k9.1⟩ ?_
  rintro wl ⟨sv2,f1,f2,f3,f4,f5,f6,f7,f8,f9⟩;clear k1 k2 k3 k4 hX hz;go_wp2_with fail;go_loopw [17] (fun i wr=>∃(k:Nat) (sv:Value),k<=n/\i=.int .i64 k/\Bb wr B 187 #[.map (some bm),sv]/\OwG 193 6 enE wr B sv (Bk L xs ⟨⟨0,false,0,0,0⟩,0⟩ k)/\C5 Tryz.prog 193 4 okE klE wr bm (Bk L xs ⟨⟨0,false,0,0,0⟩,0⟩ k).length (Bk L xs ⟨⟨0,false,0,0,0⟩,0⟩ k)/\(∀k,sv.ownBlock=some k->B<k/\k≠bx)/\Bb wr bx 193 (xs.flatMap enE).toArray/\Below B w wr/\w.heap.size<=wr.heap.size/\Hid (wr.heap[s]? = w.heap[s]?)/\sv.ownBlock≠some s) (fun i _=>n-(intOf i).toNat)
  case atStart=>exact⟨0,sv2,Nat.zero_le _,rfl,f1,f2,f3,f4,f5,f6,f7,Lib.hid f8,f9⟩
  case round =>
   clear f1 f2 f3 f4 f5 f6 f7 f8 f9;obtain⟨k,sv,hk,rfl,f1,f2,f3,f4,f5,f6,f7,f8,f9⟩:=hrel;have hlen:=Ea L xs ⟨⟨0,false,0,0,0⟩,0⟩ k;by_cases hlt:k<n
   ·have hkx:k<xs.length:=by rw[HN.out];exact hlt
    obtain⟨x,hx⟩:∃x,xs.getD k ⟨⟨0,false,0,0,0⟩,0⟩=x:=⟨_,rfl⟩
    have hxk:xs[k]? = some x:=by rw[<-hx,List.getD,List.getElem?_eq_getElem hkx];rfl
    have hxok:okE x:=HOK.out x (List.mem_of_getElem? hxk);have HX:=Lib.hid hx;have d0:=(f5.cell (k*6)).trans (by have:=Bp D0 xs k 0 x hxk (by omega);simpa using this)
    have d1:=(f5.cell (k*6+1)).trans (by have:=Bp D0 xs k 1 x hxk (by omega);simpa using this)
    have d2:=(f5.cell (k*6+2)).trans (by have:=Bp D0 xs k 2 x hxk (by omega);simpa using this)
    have d3:=(f5.cell (k*6+3)).trans (by have:=Bp D0 xs k 3 x hxk (by omega);simpa using this)
    have d4:=(f5.cell (k*6+4)).trans (by have:=Bp D0 xs k 4 x hxk (by omega);simpa using this)
    have d5:=(f5.cell (k*6+5)).trans (by have:=Bp D0 xs k 5 x hxk (by omega);simpa using this)
    simp only[enE,List.getElem?_cons_zero,List.getElem?_cons_succ] at d0 d1 d2 d3 d4 d5;clear hx hxk;have bl:=f5.lt;obtain⟨m1,m2,m3,m4,m5⟩:=f1.cells2;obtain⟨⟨s0,f0,q0,x0,y0⟩,r0⟩:=x;by_cases hin:(⟨⟨s0,f0,q0,x0,y0⟩,r0⟩:End6)∈Bk L xs ⟨⟨0,false,0,0,0⟩,0⟩ k
    ·have hst:=Lib.hid (show Bk L xs ⟨⟨0,false,0,0,0⟩,0⟩ (k+1)=Bk L xs ⟨⟨0,false,0,0,0⟩,0⟩ k by rw[Bk,HX.out,if_pos hin])
     have hgt:∀q,(Instr.lookup 184 (.map (some bm)) (.agg #[.int .i64 s0,.bool f0,.int .i64 q0,.int .i64 x0,.int .i64 y0,.int .i64 r0]) false).run Tryz.prog ((wr.alloc (.cells #[.int .i64 s0,.bool f0,.int .i64 q0,.int .i64 x0,.int .i64 y0,.int .i64 r0] 193)).drewN q)=.ok (.bool true) ((wr.alloc (.cells #[.int .i64 s0,.bool f0,.int .i64 q0,.int .i64 x0,.int .i64 y0,.int .i64 r0] 193)).drewN q):=by
      intro q;have h9:=C5.get (t:=184) Afd Tryz.underlying184 Tryz.underlying4 (Ox _) ((f3.alloc (.cells #[.int .i64 s0,.bool f0,.int .i64 q0,.int .i64 x0,.int .i64 y0,.int .i64 r0] 193)).keep (Bg (Below.refl _ _) q)) (x:=(⟨⟨s0,f0,q0,x0,y0⟩,r0⟩:End6)) hxok;refine h9.trans ?_;simp[hin]
     go_wp2_with fail
     go_quiet (fail)
     clear hgt;go_wp2_with fail;exact⟨⟨k+1,sv,by omega,by go_num,(f1.alloc _).drewN _,by rw[hst.out];exact OwG.keep (OwG.alloc f2 _) (Bg (Below.refl _ _) _),by rw[hst.out];exact(f3.alloc _).keep (Bg (Below.refl _ _) _),f4,(f5.alloc _).drewN _,Fm (Below.alloc f6 (by omega) _) _,by simp;omega,Lib.hid ((Below.heap_alloc wr _ s (by omega)).trans f8.out),f9⟩,by simp[intOf];omega⟩
    ·have hst:=Lib.hid (show Bk L xs ⟨⟨0,false,0,0,0⟩,0⟩ (k+1)=Bk L xs ⟨⟨0,false,0,0,0⟩,0⟩ k++[(⟨⟨s0,f0,q0,x0,y0⟩,r0⟩:End6)] by rw[Bk,HX.out,if_neg hin])
     have hgt:∀q,(Instr.lookup 184 (.map (some bm)) (.agg #[.int .i64 s0,.bool f0,.int .i64 q0,.int .i64 x0,.int .i64 y0,.int .i64 r0]) false).run Tryz.prog ((wr.alloc (.cells #[.int .i64 s0,.bool f0,.int .i64 q0,.int .i64 x0,.int .i64 y0,.int .i64 r0] 193)).drewN q)=.ok (.bool false) ((wr.alloc (.cells #[.int .i64 s0,.bool f0,.int .i64 q0,.int .i64 x0,.int .i64 y0,.int .i64 r0] 193)).drewN q):=by
      intro q;have h9:=C5.get (t:=184) Afd Tryz.underlying184 Tryz.underlying4 (Ox _) ((f3.alloc (.cells #[.int .i64 s0,.bool f0,.int .i64 q0,.int .i64 x0,.int .i64 y0,.int .i64 r0] 193)).keep (Bg (Below.refl _ _) q)) (x:=(⟨⟨s0,f0,q0,x0,y0⟩,r0⟩:End6)) hxok;refine h9.trans ?_;simp[hin]
     go_wp2_with fail
     go_quiet (fail)
     clear hgt;have f1a:=(f1.alloc (.cells #[.int .i64 s0,.bool f0,.int .i64 q0,.int .i64 x0,.int .i64 y0,.int .i64 r0] 193)).drewN nq;have f2a:=OwG.keep (OwG.alloc f2 (.cells #[.int .i64 s0,.bool f0,.int .i64 q0,.int .i64 x0,.int .i64 y0,.int .i64 r0] 193)) (Bg (Below.refl _ _) nq);have f3a:=(f3.alloc (.cells #[.int .i64 s0,.bool f0,.int .i64 q0,.int .i64 x0,.int .i64 y0,.int .i64 r0] 193)).keep (Bg (Below.refl _ _) nq);have f5a:=(f5.alloc (.cells #[.int .i64 s0,.bool f0,.int .i64 q0,.int .i64 x0,.int .i64 y0,.int .i64 r0] 193)).drewN nq;have f6a:=Fm (Below.alloc f6 (by omega) (.cells #[.int .i64 s0,.bool f0,.int .i64 q0,.int .i64 x0,.int .i64 y0,.int .i64 r0] 193)) nq
     have hxa:=(Bb.new wr 193 #[.int .i64 s0,.bool f0,.int .i64 q0,.int .i64 x0,.int .i64 y0,.int .i64 r0]).drewN nq;have f8a:((wr.alloc (.cells #[.int .i64 s0,.bool f0,.int .i64 q0,.int .i64 x0,.int .i64 y0,.int .i64 r0] 193)).drewN nq).heap[s]? = w.heap[s]? := (Below.heap_alloc wr _ s (by omega)).trans f8.out
     have f7a:w.heap.size<=((wr.alloc (.cells #[.int .i64 s0,.bool f0,.int .i64 q0,.int .i64 x0,.int .i64 y0,.int .i64 r0] 193)).drewN nq).heap.size:=by simp;omega
     obtain⟨bq,hbq⟩:∃bq,bq=wr.heap.size:=⟨_,rfl⟩
     have hbq1:bx<bq:=by omega
     have hbq2:B<bq:=by omega
     have hbq3:bm<bq:=by have:=f3.lt;omega
     have hbq4:∀k,sv.ownBlock=some k->k<bq:=fun k hk=>by rw[hbq];exact(OwG.lt f2 k hk).2
     go_upto_region 6 with fail;rw[<-hbq] at hxa ⊢;refine Cw (fun X=>Bb X B 187 #[.map (some bm),sv]/\OwG 193 6 enE X B sv (Bk L xs ⟨⟨0,false,0,0,0⟩,0⟩ k)/\C5 Tryz.prog 193 4 okE klE X bm (Bk L xs ⟨⟨0,false,0,0,0⟩,0⟩ k).length (Bk L xs ⟨⟨0,false,0,0,0⟩,0⟩ k)/\Bb X bx 193 (xs.flatMap enE).toArray/\Bb X bq 193 #[.int .i64 s0,.bool f0,.int .i64 q0,.int .i64 x0,.int .i64 y0,.int .i64 r0]/\Below B w X/\w.heap.size<=X.heap.size/\Hid (X.heap[s]? = w.heap[s]?)) ⟨f1a,f2a,f3a,f5a,hxa,f6a,f7a,Lib.hid f8a⟩ ?_
     clear f1a f2a f3a f5a hxa f6a f7a f8a f1 f2 f3 f5 f6 f7 f8 hbq d0 d1 d2 d3 d4 d5 m1 m2 m3 m4 m5 bl;rintro wz ⟨f1,f2,f3,f5,fx,f6,f7,f8⟩;obtain⟨m1,m2,m3,m4,m5⟩:=f1.cells2;obtain⟨z1,z2,z3,z4,z5,z6,z7⟩:=fx.cells6;refine Br 5 (by kernel_rfl) (by kernel_rfl) ?_
     simp only[List.take_succ_cons,List.take_zero,List.drop_succ_cons,List.drop_zero]
     repeat still_step
     refine wpStill_nil ?_
     go_wp2_with (at_mapUpdate;refine Du rfl _ _ _ 184 rfl Afd Tryz.underlying184 Tryz.underlying4 rfl (f3.keep (Aw (Below.refl _ _))) (by unfold maxLen;omega) (⟨⟨s0,f0,q0,x0,y0⟩,r0⟩:End6) hxok rfl rfl ?_;intro wu gu hu)
     have hnm:sv.ownBlock≠some bm:=OwG.notMap f2 (fun cs t fr h=>by obtain⟨es,cc,hq⟩:=f3.isMap;rw[hq] at h;cases h)
     have f1u:=Bb.grown f1.drew hu (by intro e;injection e with e;omega)
     have f2u:=OwG.kept (OwG.keep f2 (Aw (Below.refl _ _))) hu (Or.inr hnm);have f5u:=Bb.grown f5.drew hu (by intro e;injection e with e;omega)
     have fxu:=Bb.grown fx.drew hu (by intro e;injection e with e;omega)
     have f6u:Below B w wu:=Below.grown (Hw f6) hu (by have:=m5;simp;omega) (fun j hj=>by cases hj;omega)
     have f7u:w.heap.size<=wu.heap.size:=Nat.le_trans f7 hu.size;have f8u:Hid (wu.heap[s]? = w.heap[s]?):=Lib.hid ((hu.block s (by show s<wz.heap.size;omega) (by intro e;injection e with e;omega)).trans f8.out)
     clear f1 f2 f3 f5 fx f6 f7 f8 hu hnm m1 m2 m3 m4 m5 z1 z2 z3 z4 z5 z6 z7;obtain⟨m1,m2,m3,m4,m5⟩:=f1u.cells2;obtain⟨z1,z2,z3,z4,z5,z6,z7⟩:=fxu.cells6;obtain⟨i0,hi0,hz0,hz1,hz2⟩:=info_parts Ag9;have hsz:=Ea L xs ⟨⟨0,false,0,0,0⟩,0⟩ k
     go_region_law ((refine Il rfl _ _ 185 rfl enE B 193 i0 (.agg #[.int .i64 0,.bool false,.int .i64 0,.int .i64 0,.int .i64 0,.int .i64 0]) 6 48 Tryz.underlying185 hi0 hz0 hz1 hz2 rfl (by omega) D0 pd sv (Bk L xs ⟨⟨0,false,0,0,0⟩,0⟩ k) rfl (OwG.keep (OwG.alloc f2u _) (Aw (Below.refl _ _))) wu.heap.size 1 (⟨⟨s0,f0,q0,x0,y0⟩,r0⟩:End6) 193 rfl (Bb.drew (Bb.new _ _ _)) (by unfold maxLen;omega) (by omega) (by simp;omega) (wu.heap.size+1) (by simp) ?_;intro gg cap wv hov hgv hat hlv;have f1v:=Bb.grown ((f1u.alloc _).drew) hgv (by intro e;exact Nat.lt_irrefl _ (f4 _ e.symm).1);obtain⟨p1,p2,p3,p4,p5⟩:=f1v.cells2))
     all_goals go_wp2_with fail
     all_goals exact⟨Zi hst hlt f1v f2u gu f4 f5u f6u f7u hov hgv hat hBm hsl hsB hsm f8u.out f9,by simp[intOf];omega⟩
   ·obtain rfl:n=k:=by omega
    go_wp2_with fail
    go_end0
    refine⟨rfl,⟨_,sv,f1,by rw[HW.out];exact f2,.inr ⟨bm,rfl,hBm,f3.lt,by rw[HW.out];exact f3⟩,fun k hk=>⟨(f4 k hk).1,(OwG.lt f2 k hk).2⟩,f1.lt⟩,f6,f7,f8.out,by omega,hsB,avE f1 f9 hsm⟩
end
def Db (S:List Shp) (ps:List Pt5):Nat->Int×List (List (Int×Int))
 | 0=>(0,[])
 | k+1=>if (Db S ps k).1≠0 then Db S ps k else if (Be S (pt ps k)).1≠0 then ((Be S (pt ps k)).1,[]) else (0,(Db S ps k).2++[(Be S (pt ps k)).2])
theorem Z8 {S:List Shp} {ps:List Pt5} {k:Nat} {x:Int} (h:(Db S ps k).1=x) (hx:x≠0):∀m,(Db S ps (k+m)).1=x:=by
 intro m;induction m with
 | zero=>exact h
 | succ m ih=>rw[<-Nat.add_assoc,Db,if_pos (by rw[ih];exact hx)];exact ih
theorem Gu (S:List Shp) (ps:List Pt5):∀k,(Db S ps k).2.length<=k/\∀t∈(Db S ps k).2,t.length<=40:=by
 intro k;induction k with
 | zero=>simp[Db]
 | succ k ih =>
   rw[Db];split
   ·exact⟨by omega,ih.2⟩
   ·split
    ·simp
    ·refine⟨by simp;omega,fun t ht=>?_⟩
     rcases List.mem_append.1 ht with ht|ht
     ·exact ih.2 t ht
     ·simp at ht;subst ht;exact Fj _ _
def Fy (b:Bed4) (S:List Shp) (ps:List Pt5) (sh:Int) (fl:Bool) (qu:Int):Int×List (Int×Int)×List (List (Int×Int)) :=
 if Dc b then (3,[],[]) else if (Be S ⟨sh,fl,qu,0,0⟩).1≠0 then ((Be S ⟨sh,fl,qu,0,0⟩).1,[],[])
 else if (Db S ps ps.length).1≠0 then ((Db S ps ps.length).1,[],[]) else (0,(Be S ⟨sh,fl,qu,0,0⟩).2,(Db S ps ps.length).2)
def Wl (w:World) (r:Int×List (Int×Int)×List (List (Int×Int))) (e:Ending) (w':World):Prop :=
 ∃v1 v2,e=.returned (.tuple #[v1,v2,.int .i64 r.1])/\OwS w' w.heap.size v1 r.2.1/\H6 w' w.heap.size v2 r.2.2/\Below w.heap.size w w'
theorem Agi (A1 A2:Option Addr) (c1 c2 n1 n2:Nat) (b:Bed4) (sh:Int) (fl:Bool) (qu:Int) (w:World) (hb:Dc b=true) :
 Calls Tryz.prog 97 #[Hz b,.slice A1 n1 c1,.slice A2 n2 c2,.int .i64 sh,.agg #[.bool fl,.int .i64 qu]] w (Wl w (3,[],[])):=by
 obtain⟨len,wid,rx,ry⟩:=b;unfold Hz;unfold Dc at hb;simp only[Bool.or_eq_true,decide_eq_true_eq] at hb;dsimp only at hb ⊢;go_enter Tryz.func97,Tryz.ntmps97;go_upto_region 3 with fail
 all_goals first
  | (go_ret3;exact⟨_,_,rfl,OwG.nil,H6.nil,(An (An (Below.refl _ _) _) _)⟩)
  | (exfalso;omega)
theorem Agh (A1 A2:Option Addr) (c1 c2 n1 n2:Nat) (b:Bed4) (S:List Shp) (ps:List Pt5) (sh:Int) (fl:Bool) (qu:Int) (w:World) (hn2:n2<=1000000) (hS:ShS w A1 n1 S) (hPu:PuS w A2 n2 ps) (hb:Dc b=false) :
 Calls Tryz.prog 97 #[Hz b,.slice A1 n1 c1,.slice A2 n2 c2,.int .i64 sh,.agg #[.bool fl,.int .i64 qu]] w (Wl w (Fy b S ps sh fl qu)):=by
 have HP:=Lib.hid (show Fy b S ps sh fl qu=if (Be S ⟨sh,fl,qu,0,0⟩).1≠0 then ((Be S ⟨sh,fl,qu,0,0⟩).1,[],[]) else if (Db S ps n2).1≠0 then ((Db S ps n2).1,[],[]) else (0,(Be S ⟨sh,fl,qu,0,0⟩).2,(Db S ps n2).2) by unfold Fy;rw[if_neg (by rw[hb];simp),hPu.1])
 obtain⟨r,hr⟩:∃r,Be S ⟨sh,fl,qu,0,0⟩=r:=⟨_,rfl⟩
 rw[hr] at HP;have HR:=Lib.hid hr;clear hr;obtain⟨r1,r⟩:=r;obtain⟨len,wid,rx,ry⟩:=b;unfold Dc at hb;simp only[Bool.or_eq_false_iff,decide_eq_false_iff_not] at hb;unfold Hz;dsimp only at HP ⊢;have hbw:=Lib.hid (show Below w.heap.size w ((w.alloc (.cells #[.int .i64 len,.int .i64 wid,.int .i64 rx,.int .i64 ry] 33)).alloc (.cells #[.bool fl,.int .i64 qu] 48)) from (An (An (Below.refl _ _) _) _))
 by_cases hr1:r1=0
 ·subst hr1
  rw[if_neg (by simp)] at HP
  go_enter Tryz.func97,Tryz.ntmps97
  go_wp2_with (go_at_call 26;refine(Bu _ _ _ S ⟨sh,fl,qu,0,0⟩ _ (hS.keep hbw.out)).mono ?_;rintro e w1 ⟨v1,rfl,ho1,hb1⟩;rw[HR.out] at ho1 ⊢)
  have hbA:=Ao hbw.out hb1;have hSA:=hS.keep hbA;have hPA:=hPu.keep hbA;clear hS hPu hb1 hbw;go_loopw [15,51] (fun v i wr=>∃k:Nat,k<=n2/\i=.int .i64 k/\Hid ((Db S ps k).1=0)/\H6 wr w1.heap.size v (Db S ps k).2/\Below w1.heap.size w1 wr) (fun _ i _=>n2-(intOf i).toNat)
  case atStart=>exact⟨0,Nat.zero_le _,rfl,Lib.hid rfl,H6.nil,Below.refl _ _⟩
  case round =>
   obtain⟨k,hk,rfl,hz,ho,hbr⟩:=hrel;by_cases hlt:k<n2
   ·obtain⟨bb,ob,rfl,hbl,d1,d2,d3,d4,d5⟩:=(hPA.keep hbr).at_ hlt
    have hql:=Fj S (pt ps k);have hsm:=(Gu S ps k).1;have hstep:=Lib.hid (show Db S ps (k+1)=if (Be S (pt ps k)).1≠0 then ((Be S (pt ps k)).1,[]) else (0,(Db S ps k).2++[(Be S (pt ps k)).2]) by rw[Db,if_neg (by rw[hz.out];simp)])
    obtain⟨qq,hqq⟩:∃qq,Be S (pt ps k)=qq:=⟨_,rfl⟩
    rw[hqq] at hql hstep;have HQQ:=Lib.hid hqq;clear hqq;obtain⟨q1,q⟩:=qq;dsimp only at hql hstep;obtain⟨pq,hpt⟩:∃pq,pt ps k=pq:=⟨_,rfl⟩
    rw[hpt] at d1 d2 d3 d4 d5 HQQ;clear hpt;obtain⟨sh2,fl2,qu2,x2,y2⟩:=pq;dsimp only at d1 d2 d3 d4 d5;by_cases hq1:q1=0
    ·subst hq1
     rw[if_neg (by simp)] at hstep
     go_wp2_with (first|(go_at_call 26;refine(Bu _ _ _ S ⟨sh2,fl2,qu2,x2,y2⟩ _ (hSA.keep (An hbr _))).mono ?_;rintro e w5 ⟨v5,rfl,ho5,hb5⟩;rw[HQQ.out] at ho5 ⊢;obtain⟨A5,c5,rfl,-,-,-,-⟩:=OwS.els ho5)|(at_builtin;refine Ev rfl _ _ rfl w1.heap.size _ (Db S ps k).2 rfl (((ho.alloc _).keep hb5).alloc _) w5.heap.size 1 _ q 54 rfl (Bb.new _ _ _) ((ElS.lower (OwS.els ho5) (An hbr _).size).keep (An (Below.refl _ _) _)) (by omega) (An (Ao (An hbr _) hb5) _).size ?_;intro v7 w7 ho7 hg7 hat7))
     exact⟨⟨k+1,by omega,by go_num,Lib.hid (by rw[hstep.out]),by rw[hstep.out];exact ho7,Gm (An (Ao (An hbr _) hb5) _) (((ho.alloc _).keep hb5).alloc _) hg7⟩,by simp[intOf];omega⟩
    ·have qo:(q1 != 0)=true:=by simpa using hq1
     rw[if_pos hq1] at hstep;have hbad:=Z8 (show (Db S ps (k+1)).1=q1 by rw[hstep.out]) hq1 (n2-(k+1))
     rw[show k+1+(n2-(k+1))=n2 by omega] at hbad
     rw[hbad,if_pos hq1] at HP;clear hbad hq1
     go_wp2_with (go_at_call 26;refine(Bu _ _ _ S ⟨sh2,fl2,qu2,x2,y2⟩ _ (hSA.keep (An hbr _))).mono ?_;rintro e w5 ⟨v5,rfl,ho5,hb5⟩;rw[HQQ.out])
     go_ret3
     exact⟨_,_,by rw[HP.out];rfl,by rw[HP.out];exact OwG.nil,by rw[HP.out];exact H6.nil,Ao hbA (Ao (An hbr _) hb5)⟩
   ·obtain rfl:n2=k:=by omega
    rw[hz.out,if_neg (by simp)] at HP
    go_wp2_with fail
    go_ret3
    exact⟨_,_,by rw[HP.out];rfl,by rw[HP.out];exact OwG.keep (OwG.lower ho1 (by simp;omega)) hbr,by rw[HP.out];exact ho.lower hbA.size,Ao hbA hbr⟩
 ·have qo:(r1 != 0)=true:=by simpa using hr1
  rw[if_pos hr1] at HP;clear hr1;go_enter Tryz.func97,Tryz.ntmps97
  go_wp2_with (go_at_call 26;refine(Bu _ _ _ S ⟨sh,fl,qu,0,0⟩ _ (hS.keep hbw.out)).mono ?_;rintro e w1 ⟨v1,rfl,ho1,hb1⟩;rw[HR.out] at ho1 ⊢)
  go_ret3
  exact⟨_,_,by rw[HP.out];rfl,by rw[HP.out];exact OwG.nil,by rw[HP.out];exact H6.nil,Ao hbw.out hb1⟩
theorem Xn (A1 A2:Option Addr) (c1 c2 n1 n2:Nat) (b:Bed4) (S:List Shp) (ps:List Pt5) (sh:Int) (fl:Bool) (qu:Int) (w:World) (hn2:n2<=1000000) (hS:ShS w A1 n1 S) (hPu:PuS w A2 n2 ps) :
 Calls Tryz.prog 97 #[Hz b,.slice A1 n1 c1,.slice A2 n2 c2,.int .i64 sh,.agg #[.bool fl,.int .i64 qu]] w (Wl w (Fy b S ps sh fl qu)):=by
 by_cases hb:Dc b=true
 ·rw[show Fy b S ps sh fl qu=(3,[],[]) by unfold Fy;rw[if_pos hb]]
  exact Agi A1 A2 c1 c2 n1 n2 b sh fl qu w hb
 ·exact Agh A1 A2 c1 c2 n1 n2 b S ps sh fl qu w hn2 hS hPu (by simpa using hb)
end Go.Proofs.YtpbchbcdgikonaaGreat
