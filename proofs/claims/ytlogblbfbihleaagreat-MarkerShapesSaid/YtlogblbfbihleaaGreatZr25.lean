/- Lean texts of the claim. -/
import Derived.Test.YtlogblbfbihleaaGreatZr24
namespace Go.Proofs.YtlogblbfbihleaaGreat
set_option linter.all false
set_option maxRecDepth 100000
set_option maxHeartbeats 0
open Go.RowKit
variable{a:TypeId}{b:Value}{e:World}{f:Nat}
theorem Bf.n4(w:World) (o c a:Obj) (t:TypeId) (b:Array Value):Bf ((((w.alloc o).alloc c).alloc a).alloc (.cells b t)) (w.heap.size+1+1+1) t b:=by
 have h:=Bf.new (((w.alloc o).alloc c).alloc a) t b;simpa using h
theorem Xp{w:World} {e:Nat}  {g c d:Value} (h:Bf w f a #[b,g]) (k:Bf w e a #[c,d]):Cq w f 0 b/\Cq w f 1 g/\Cq w e 0 c/\Cq w e 1 d :=
 ⟨(h.cell 0).trans rfl,(h.cell 1).trans rfl,(k.cell 0).trans rfl,(k.cell 1).trans rfl⟩
theorem Bf.s2{w:World}   {e:Value} (h:Bf w f a #[b,e]) (c d:Value):Bf ((w.setCell ⟨f,0,none⟩ c).setCell ⟨f,1,none⟩ d) f a #[c,d]:=(h.set_ 0 c).set_ 1 d
theorem hgr(A:Option Addr) (I n:Nat) (l:LP) (Z:ByteArray) (a b:Int×Int) (w:World) (hs:SpS w A n l) (hp:plW l n=0) (ha:Af9 a) (c9:Af9 b) :
 Calls Tryz.prog 113 #[.agg #[.string Z,.slice A n I],.agg #[a.1,a.2],.agg #[b.1,b.2]] w λe w'=>∃v,e=.returned (.agg #[.string Z,v])/\OwS w' w.heap.size v (He l a b)/\Be w w':=by
 let⟨k9,kk⟩:=Er hp;have db:=Ar λk (hk:k<n)=>(Lb hp hk).1;have bt:=Ar hs.1;obtain⟨ax,ay⟩:=a;obtain⟨bx,bY⟩:=b;obtain⟨a1,a2,a3,a4⟩:=ha;obtain⟨b1,b2,b3,b4⟩:=c9;dsimp only at a1 a2 a3 a4 b1 b2 b3 b4;let⟨s,cj⟩:∃s,s+1=n:=⟨n-1,by omega⟩
 have hN:(n:Int)-1=(s:Int):=by omega
 have kp:1<=s:=by omega
 have kz:s<=39:=by omega
 have l0:s<n:=by omega
 have c3:=Ar cj;have bw:=Ar (λk=>show Mw l (ax,ay) (bx,bY) k=((gt l k).1+F8 (((s:Int)-k)*ax+k*bx) s,(gt l k).2+F8 (((s:Int)-k)*ay+k*bY) s) by unfold Mw;rw[bt.out,hN]);have bu:=Ar (show He l (ax,ay) (bx,bY)=(List.range n).map (Mw l (ax,ay) (bx,bY)) by unfold He;rw[bt.out]);let⟨f,hf⟩:=gN (Mw l (ax,ay) (bx,bY))
 rw[hf]at bw bu;have dc:=Ar (λk=>show (List.range (k+1)).map f=(List.range k).map f++[f k] by rw[List.range_succ,List.map_append];rfl);have W0:IntKind.i64.wrap ((n:Int)-1)=(s:Int):=by rw[hN,IntKind.wrap_i64];omega
 clear hf hp hN cj;go_enter Tryz.func113,Tryz.ntmps113;go_upto_region 1 with fail;refine Cj (λX=>Be w X/\Bf X w.heap.size 50 #[.string Z,.slice A n I]/\Bf X (w.heap.size+1) 60 #[ax,ay]/\Bf X (w.heap.size+1+1) 60 #[bx,bY]/\Bf X (w.heap.size+1+1+1) 50 #[.string ByteArray.empty,.slice none 0 0]) ⟨Ao (Ao (Ao blA _) _) _,(((Bf.new _ _ _).alloc _).alloc _).alloc _,((Bf.new2 _ _ _ _).alloc _).alloc _,(Bf.new3 _ _ _ _ _).alloc _,Bf.n4 _ _ _ _ _ _⟩ ?_;rintro X ⟨U,hL,hA,hB,hR⟩;let⟨p0,p1⟩:=Fe hL;go_upto_region 2 with fail;refine Bq λY b7 T=>?_
 have q1:=Aq b7 p1;have j6:X.heap.size<Y.heap.size:=T.lt;have k5:=hR.lt;go_upto_region 4 with fail;clear p0 p1 q1;go_loopw [9,10] (λi _ wr=>∃(k:Nat) (v:Value),k<=n/\i=.int .i64 k/\OwS wr (X.heap.size+1) v ((List.range k).map f)/\Bf wr X.heap.size 50 #[.string Z,v]/\Be X wr) λi _ _=>n-(intOf i).toNat
 case atStart=>exact⟨0,_,Nat.zero_le _,rfl,OwG.nil,T,b7⟩
 clear T b7;obtain⟨k,v,hk,rfl,ho,T,hb⟩:=hrel;by_cases b9:k<n
 .obtain⟨G,C,rfl,j8,hc⟩:=hs.at_ b9;let⟨h1,h2⟩:=hc k b9;let⟨i1,i2,i3,i4⟩:=db.out k b9;have z:=bw.out k;have au:=dc.out k;let⟨⟨x,y⟩,cn⟩:∃p,gt l k=p:=⟨_,rfl⟩
  rw[cn]at h1 h2 i1 i2 i3 i4 z;dsimp only at h1 h2 i1 i2 i3 i4 z;have k0:k<=s:=by have:=c3.out;omega
  have B0:(k:Int)<=(s:Int):=by omega
  let⟨d,hd⟩:=gN ((s:Int)-(k:Int):Int)
  have M:0<=d/\d<=40:=by omega
  have m1:=Mv M.1 M.2 a1 a2;have m2:=Mv (show (0:Int)<=(k:Int) by omega) (by omega) b1 b2;have m3:=Mv M.1 M.2 a3 a4;have m4:=Mv (show (0:Int)<=(k:Int) by omega) (by omega) b3 b4;rw[hd]at z;let⟨u1,bb⟩:=gN (d*ax)
  let⟨u2,bc⟩:=gN ((k:Int)*bx)
  let⟨u3,bd⟩:=gN (d*ay)
  let⟨u4,bl⟩:=gN ((k:Int)*bY)
  rw[bb]at m1 z;rw[bc]at m2 z;rw[bd]at m3 z;rw[bl]at m4 z;let⟨u,hu⟩:=gN (u1+u2)
  let⟨v2,hv⟩:=gN (u3+u4)
  rw[hu,hv]at z;have r1:=Ye (u:=u) (s:=(s:Int)) (by omega) (by omega) (by omega);have r2:=Ye (u:=v2) (s:=(s:Int)) (by omega) (by omega) (by omega);have cb:∀P:World,Calls Tryz.prog 160 #[u,(s:Int)] P λe w'=>e=.returned (.int .i64 (F8 u s))/\P=w':=λP=>Ad5 u s P (by omega) (by omega) (by omega) (by omega)
  have cc:∀P:World,Calls Tryz.prog 160 #[v2,(s:Int)] P λe w'=>e=.returned (.int .i64 (F8 v2 s))/\P=w':=λP=>Ad5 v2 s P (by omega) (by omega) (by omega) (by omega)
  let⟨rx,cg⟩:=gN (F8 u s)
  let⟨ry,ch⟩:=gN (F8 v2 s)
  rw[cg]at cb r1 z;rw[ch]at cc r2 z;let⟨X',aw⟩:=gN (x+rx)
  let⟨Y',b5⟩:=gN (y+ry)
  rw[aw,b5]at z;rw[z]at au;have HM:=Ar au;have W1:IntKind.i64.wrap ((s:Int)-(k:Int))=d:=by rw[hd,IntKind.wrap_i64];omega
  have W2:IntKind.i64.wrap (d*ax)=u1:=by rw[bb,IntKind.wrap_i64];omega
  have W3:IntKind.i64.wrap ((k:Int)*bx)=u2:=by rw[bc,IntKind.wrap_i64];omega
  have W4:IntKind.i64.wrap (u1+u2)=u:=by rw[hu,IntKind.wrap_i64];omega
  have W5:IntKind.i64.wrap (d*ay)=u3:=by rw[bd,IntKind.wrap_i64];omega
  have W6:IntKind.i64.wrap ((k:Int)*bY)=u4:=by rw[bl,IntKind.wrap_i64];omega
  have W7:IntKind.i64.wrap (u3+u4)=v2:=by rw[hv,IntKind.wrap_i64];omega
  have W8:IntKind.i64.wrap (x+rx)=X':=by rw[aw,IntKind.wrap_i64];omega
  have W9:IntKind.i64.wrap (y+ry)=Y':=by rw[b5,IntKind.wrap_i64];omega
  have B1:(0:Int)<=(k:Int):=by omega
  have B2:(k:Int)<(n:Int):=by omega
  clear hc cn hd bb bc bd bl hu hv cg ch aw b5 z au m1 m2 m3 m4 r1 r2 M;go_upto_region 6 with fail;have D:=Aw (Below.refl wr.heap.size wr);have Q:=hA.keep hb;have R:=hB.keep hb;go_cut [10] λe9 wx=>∃g,e9=.pointer (some ⟨g,0,none⟩)/\Bf wx g 60 #[rx,ry]/\wr.heap.size<=g/\Be wr wx
  case first =>
   go_region_held3 (sB λW h=>Xp (Q.keep h) (R.keep h))
    (first
     | with_reducible exact Xp (Q.keep D) (R.keep D)
     | with_reducible exact Xp (Q.keep (Ao D _)) (R.keep (Ao D _))
     | with_reducible exact Xp (Q.keep (Aw blA)) (R.keep (Aw blA)))
    ((first
      | (go_at_call 160;(with_reducible refine(cb _).mono ?_);rintro e P ⟨rfl,rfl⟩)
      | (go_at_call 160;(with_reducible refine(cc _).mono ?_);rintro e w3 ⟨rfl,rfl⟩)))
   all_goals go_wp2_with fail
   all_goals go_meet
   all_goals first
    | exact⟨_,rfl,Bf.drew (Bf.new _ _ _),Nat.le_refl _,Aw blA⟩
    | exact⟨_,rfl,Bf.new _ _ _,Nat.le_refl _,Ao blD _⟩
  obtain⟨g,rfl,hG,j9,b6⟩:=hcut;have E:OwS wc (X.heap.size+1) v ((List.range k).map f):=OwG.keep ho b6;have L:=T.keep b6;have J:=An hb b6;have ca:=An U J;have ar:=hL.keep J;have c1:=Aq ca h1;have c2:=Aq ca h2;have k4:=L.lt;have k3:=hG.lt;have k6:=T.lt;have j5:=U.size;let⟨O,ck⟩:∃O,O=v:=⟨_,rfl⟩
  rw[<-ck]at ho E T L;clear ck;have e6:some X.heap.size≠O.ownBlock:=λe=>by have:=(OwG.lt E _ e.symm).1;omega
  have H:((List.range k).map f).length<=1000000:=by rw[List.length_map,List.length_range];omega
  have l1:=(Fe L).2;have l2:=(Fe ar).2;let⟨l3,l4⟩:=Fe hG;clear W1 W2 W3 W4 W5 W6 W7;go_upto_region 7 with fail;have D:=Aw (Below.refl wc.heap.size wc);have kl:=OwG.keep E D;have j4:=L.keep D;have cw:some G≠O.ownBlock:=λe=>by have:=(OwG.lt E _ e.symm).1;omega
  have e5:some w.heap.size≠O.ownBlock:=λe=>by have:=(OwG.lt E _ e.symm).1;omega
  have e7:some g≠O.ownBlock:=λe=>by have:=(OwG.lt ho _ e.symm).2;omega
  have k2:=Ar l1
  have HF:=Ar (λB (hl:Bf B w.heap.size 50 #[.string Z,.slice (some ⟨G,C,none⟩) n I]) (hg:Bf B g 60 #[rx,ry]) (d1:Cq B G (C+k*2) x) (d2:Cq B G (C+k*2+1) y) =>
   (show Cq B w.heap.size 1 (.slice (some ⟨G,C,none⟩) n I)/\Cq B G (C+k*2) x/\Cq B G (C+k*2+1) y/\Cq B g 0 rx/\Cq B g 1 ry from ⟨(Fe hl).2,d1,d2,(Fe hg).1,(Fe hg).2⟩))
  have HB:=Ar λB (h:Be wc B)=>HF.out B (ar.keep h) (hG.keep h) (Aq h c1) (Aq h c2)
  have HG:=Ar (λ(W B:World) (h:Be wc W) (hg:W.grownBy B O.ownBlock)=>show Bf B X.heap.size 50 #[.string Z,O]/\Bf B w.heap.size 50 #[.string Z,.slice (some ⟨G,C,none⟩) n I]/\Bf B g 60 #[rx,ry]/\Cq B G (C+k*2) x/\Cq B G (C+k*2+1) y from
   ⟨(L.keep h).grown hg e6,(ar.keep h).grown hg e5,(hG.keep h).grown hg e7,(hg.cell_far _ (by have:=h.size;simp;omega) cw).trans (Aq h c1),(hg.cell_far _ (by have:=h.size;simp;omega) cw).trans (Aq h c2)⟩)
  have cu:w.heap.size≠X.heap.size:=by omega
  have cv:g≠X.heap.size:=by omega
  have V:G≠X.heap.size:=by omega
  have l6:=Aq D l1;have l5:=Aq (Aw (Ao (Below.refl wc.heap.size wc) (.cells #[X',Y'] 60))) l1;clear l2 l3 l4;refine wp_region_held_drew (S:=λB=>Cq B w.heap.size 1 (.slice (some ⟨G,C,none⟩) n I)/\Cq B G (C+k*2) x/\Cq B G (C+k*2+1) y/\Cq B g 0 rx/\Cq B g 1 ry) (by kernel_rfl) (HB.out _ D) λm=>?_;refine wpAnyH_take (i:=0) (v:=?_) rfl (by kernel_rfl) (by kernel_rfl) (by kernel_rfl) (λ_ _ _ h=>h) (Or.inl ⟨by rfl,by intro W j;(try dsimp only at j);go_simp;(try with_reducible rfl)⟩) m ?_;simp only[Act.put,List.setIfInBounds_toArray,List.set_cons_zero,List.set_cons_succ,List.getElem_toArray,List.getElem_cons_zero,List.getElem_cons_succ];refine wpAnyH_take (i:=2) (v:=?_) rfl (by kernel_rfl) (by kernel_rfl) (by kernel_rfl) (λ_ _ _ h=>h) (Or.inl ⟨by rfl,by intro W j;(try dsimp only at j);go_simp;(try with_reducible rfl)⟩) m ?_;simp only[Act.put,List.setIfInBounds_toArray,List.set_cons_zero,List.set_cons_succ,List.getElem_toArray,List.getElem_cons_zero,List.getElem_cons_succ];refine wpAnyH_take (i:=3) (v:=?_) rfl (by kernel_rfl) (by kernel_rfl) (by kernel_rfl) (λ_ _ _ h=>h) (Or.inl ⟨by rfl,by intro W j;(try dsimp only at j);go_simp;(try with_reducible rfl)⟩) m ?_;simp only[Act.put,List.setIfInBounds_toArray,List.set_cons_zero,List.set_cons_succ,List.getElem_toArray,List.getElem_cons_zero,List.getElem_cons_succ];refine wpAnyH_take (i:=4) (v:=?_) rfl (by kernel_rfl) (by kernel_rfl) (by kernel_rfl) (λ_ _ _ h=>h) (Or.inl ⟨by rfl,by intro W j;(try dsimp only at j);go_simp;(try with_reducible rfl)⟩) m ?_;simp only[Act.put,List.setIfInBounds_toArray,List.set_cons_zero,List.set_cons_succ,List.getElem_toArray,List.getElem_cons_zero,List.getElem_cons_succ];refine wpAnyH_take (i:=5) (v:=?_) rfl (by kernel_rfl) (by kernel_rfl) (by kernel_rfl) (λ_ _ _ h=>h) (Or.inl ⟨by rfl,by intro W j;(try dsimp only at j);go_simp;(try with_reducible rfl)⟩) m ?_;simp only[Act.put,List.setIfInBounds_toArray,List.set_cons_zero,List.set_cons_succ,List.getElem_toArray,List.getElem_cons_zero,List.getElem_cons_succ];refine wpAnyH_take (i:=6) (v:=?_) rfl (by kernel_rfl) (by kernel_rfl) (by kernel_rfl) (λ_ _ _ h=>h) (Or.inl ⟨by rfl,by intro W j;(try dsimp only at j);go_simp;(try with_reducible rfl)⟩) m ?_;simp only[Act.put,List.setIfInBounds_toArray,List.set_cons_zero,List.set_cons_succ,List.getElem_toArray,List.getElem_cons_zero,List.getElem_cons_succ];refine wpAnyH_take (i:=7) (v:=?_) rfl (by kernel_rfl) (by kernel_rfl) (by kernel_rfl) (λ_ _ _ h=>h) (Or.inl ⟨by rfl,by intro W j;(try dsimp only at j);go_simp;(try with_reducible rfl)⟩) m ?_;simp only[Act.put,List.setIfInBounds_toArray,List.set_cons_zero,List.set_cons_succ,List.getElem_toArray,List.getElem_cons_zero,List.getElem_cons_succ];refine wpAnyH_take (i:=8) (v:=?_) rfl (by kernel_rfl) (by kernel_rfl) (by kernel_rfl) (λ_ _ _ h=>h) (Or.inl ⟨by rfl,by intro W j;(try dsimp only at j);go_simp;(try with_reducible rfl)⟩) m ?_;simp only[Act.put,List.setIfInBounds_toArray,List.set_cons_zero,List.set_cons_succ,List.getElem_toArray,List.getElem_cons_zero,List.getElem_cons_succ]
  refine wpAnyH_take (i:=9) (v:=?_) rfl (by kernel_rfl) (by kernel_rfl) (by kernel_rfl) (λ_ _ _ h=>h) (Or.inl ⟨by rfl,by intro W j;(try dsimp only at j);go_simp;(try with_reducible rfl)⟩) m ?_;simp only[Act.put,List.setIfInBounds_toArray,List.set_cons_zero,List.set_cons_succ,List.getElem_toArray,List.getElem_cons_zero,List.getElem_cons_succ];refine wpAnyH_take (i:=10) (v:=?_) rfl (by kernel_rfl) (by kernel_rfl) (by kernel_rfl) (λ_ _ _ h=>h) (Or.inl ⟨by rfl,by intro W j;(try dsimp only at j);go_simp;(try with_reducible rfl)⟩) m ?_;simp only[Act.put,List.setIfInBounds_toArray,List.set_cons_zero,List.set_cons_succ,List.getElem_toArray,List.getElem_cons_zero,List.getElem_cons_succ];refine wpAnyH_take (i:=11) (v:=?_) rfl (by kernel_rfl) (by kernel_rfl) (by kernel_rfl) (λ_ _ _ h=>h) (Or.inl ⟨by rfl,by intro W j;(try dsimp only at j);go_simp;(try with_reducible rfl)⟩) m ?_;simp only[Act.put,List.setIfInBounds_toArray,List.set_cons_zero,List.set_cons_succ,List.getElem_toArray,List.getElem_cons_zero,List.getElem_cons_succ];refine wpAnyH_take (i:=12) (v:=?_) rfl (by kernel_rfl) (by kernel_rfl) (by kernel_rfl) (λ_ _ _ h=>h) (Or.inl ⟨by rfl,by intro W j;(try dsimp only at j);go_simp;(try with_reducible rfl)⟩) m ?_;simp only[Act.put,List.setIfInBounds_toArray,List.set_cons_zero,List.set_cons_succ,List.getElem_toArray,List.getElem_cons_zero,List.getElem_cons_succ];refine wpAnyH_take (i:=13) (v:=?_) rfl (by kernel_rfl) (by kernel_rfl) (by kernel_rfl) (λ_ _ _ h=>h) (Or.inl ⟨by rfl,by intro W j;(try dsimp only at j);go_simp;(try with_reducible rfl)⟩) m ?_;simp only[Act.put,List.setIfInBounds_toArray,List.set_cons_zero,List.set_cons_succ,List.getElem_toArray,List.getElem_cons_zero,List.getElem_cons_succ];refine wpAnyH_take (i:=14) (v:=?_) rfl (by kernel_rfl) (by kernel_rfl) (by kernel_rfl) (λ_ _ _ h=>h) (Or.inl ⟨by rfl,by intro W j;(try dsimp only at j);go_simp;(try with_reducible rfl)⟩) m ?_;simp only[Act.put,List.setIfInBounds_toArray,List.set_cons_zero,List.set_cons_succ,List.getElem_toArray,List.getElem_cons_zero,List.getElem_cons_succ];refine wpAnyH_take (i:=15) (v:=?_) rfl (by kernel_rfl) (by kernel_rfl) (by kernel_rfl) (λ_ _ _ h=>h) (Or.inl ⟨by rfl,by intro W j;(try dsimp only at j);go_simp;(try with_reducible rfl)⟩) m ?_;simp only[Act.put,List.setIfInBounds_toArray,List.set_cons_zero,List.set_cons_succ,List.getElem_toArray,List.getElem_cons_zero,List.getElem_cons_succ];refine wpAnyH_take (i:=16) (v:=?_) rfl (by kernel_rfl) (by kernel_rfl) (by kernel_rfl) (λ_ _ _ h=>h) (Or.inl ⟨by rfl,by intro W j;(try dsimp only at j);go_simp;(try with_reducible rfl)⟩) m ?_;simp only[Act.put,List.setIfInBounds_toArray,List.set_cons_zero,List.set_cons_succ,List.getElem_toArray,List.getElem_cons_zero,List.getElem_cons_succ];refine wpAnyH_take (i:=17) (v:=?_) rfl (by kernel_rfl) (by kernel_rfl) (by kernel_rfl) (λ_ _ _ h=>h) (Or.inl ⟨by rfl,by intro W j;(try dsimp only at j);go_simp;(try with_reducible rfl)⟩) m ?_;simp only[Act.put,List.setIfInBounds_toArray,List.set_cons_zero,List.set_cons_succ,List.getElem_toArray,List.getElem_cons_zero,List.getElem_cons_succ]
  refine wpAnyH_take (i:=18) (v:=?_) rfl (by kernel_rfl) (by kernel_rfl) (by kernel_rfl) (λ_ _ _ h=>h) (Or.inl ⟨by rfl,by intro W j;(try dsimp only at j);go_simp;(try with_reducible rfl)⟩) m ?_;simp only[Act.put,List.setIfInBounds_toArray,List.set_cons_zero,List.set_cons_succ,List.getElem_toArray,List.getElem_cons_zero,List.getElem_cons_succ];refine wpAnyH_take (i:=19) (v:=?_) rfl (by kernel_rfl) (by kernel_rfl) (by kernel_rfl) (λ_ _ _ h=>h) (Or.inl ⟨by rfl,by intro W j;(try dsimp only at j);go_simp;(try with_reducible rfl)⟩) m ?_;simp only[Act.put,List.setIfInBounds_toArray,List.set_cons_zero,List.set_cons_succ,List.getElem_toArray,List.getElem_cons_zero,List.getElem_cons_succ];refine wpAnyH_take (i:=20) (v:=?_) rfl (by kernel_rfl) (by kernel_rfl) (by kernel_rfl) (λ_ _ _ h=>h) (Or.inl ⟨by rfl,by intro W j;(try dsimp only at j);go_simp;(try with_reducible rfl)⟩) m ?_;simp only[Act.put,List.setIfInBounds_toArray,List.set_cons_zero,List.set_cons_succ,List.getElem_toArray,List.getElem_cons_zero,List.getElem_cons_succ];refine wpAnyH_ready (rs:=[1,21]) (by kernel_rfl) (by simp) ?_;refine AllReadyH.cons (o:=_) rfl (λK t=>?_) (AllReadyH.cons (o:=_) rfl (λK t=>?_) AllReadyH.nil)
  .simp only[List.getElem_toArray,List.getElem_cons_zero,List.getElem_cons_succ]
   go_simp
   refine t.out _ _ (HB.out _ D) λm=>?_;clear t K
   (try simp only[Act.put,List.setIfInBounds_toArray,List.set_cons_zero,List.set_cons_succ,List.getElem_toArray,List.getElem_cons_zero,List.getElem_cons_succ])
   refine wpAnyH_ready (rs:=[21]) (by kernel_rfl) (by simp) ?_;refine AllReadyH.cons (o:=_) rfl (λK t=>?_) AllReadyH.nil;simp only[List.getElem_toArray,List.getElem_cons_zero,List.getElem_cons_succ];go_simp;refine t.out _ _ (HB.out _ (Aw blA)) λm=>?_;clear t K;(try simp only[Act.put,List.setIfInBounds_toArray,List.set_cons_zero,List.set_cons_succ,List.getElem_toArray,List.getElem_cons_zero,List.getElem_cons_succ]);refine wpAnyH_ready (rs:=[22]) (by kernel_rfl) (by simp) ?_;refine AllReadyH.cons (o:=_) rfl (λK t=>?_) AllReadyH.nil;refine Kx (by rfl) _ _ (by rfl) (X.heap.size+1) O ((List.range k).map f) (by rfl) (OwG.keep (OwG.alloc E _) blD) wc.heap.size 1 (X',Y') 60 (by rfl) (Bf.drew (Bf.new _ _ _)) H (by simp;omega) (wc.heap.size+1) (by simp) ?_;intro g9 c4 w9 F N c6 cd;have c:=HG.out _ _ (Aw blA) N;let⟨y0,y1,y2,y3,y4⟩:=c.1.pair;refine t.out _ _ (HF.out _ c.2.1 c.2.2.1 c.2.2.2.1 c.2.2.2.2) λm=>?_;clear t K
   (try simp only[Act.put,List.setIfInBounds_toArray,List.set_cons_zero,List.set_cons_succ,List.getElem_toArray,List.getElem_cons_zero,List.getElem_cons_succ])
   refine wpAnyH_ready (rs:=[23]) (by kernel_rfl) (by simp) ?_;refine AllReadyH.cons (o:=_) rfl (λK t=>?_) AllReadyH.nil;simp only[List.getElem_toArray,List.getElem_cons_zero,List.getElem_cons_succ];go_simp;refine t.out _ _ (HF.out _ c.2.1 c.2.2.1 c.2.2.2.1 c.2.2.2.2) λm=>?_;clear t K;(try simp only[Act.put,List.setIfInBounds_toArray,List.set_cons_zero,List.set_cons_succ,List.getElem_toArray,List.getElem_cons_zero,List.getElem_cons_succ]);refine wpAnyH_ready (rs:=[24]) (by kernel_rfl) (by simp) ?_;refine AllReadyH.cons (o:=_) rfl (λK t=>?_) AllReadyH.nil;simp only[List.getElem_toArray,List.getElem_cons_zero,List.getElem_cons_succ];go_simp;refine t.out _ _ (HF.out _ (c.2.1.far cu _) (c.2.2.1.far cv _) ((World.cell?_setCell_other _ _ _ _ λe=>absurd (congrArg Addr.block e).symm V).trans c.2.2.2.1) ((World.cell?_setCell_other _ _ _ _ λe=>absurd (congrArg Addr.block e).symm V).trans c.2.2.2.2)) λm=>?_;clear t K;(try simp only[Act.put,List.setIfInBounds_toArray,List.set_cons_zero,List.set_cons_succ,List.getElem_toArray,List.getElem_cons_zero,List.getElem_cons_succ]);refine wpAnyH_done (by kernel_rfl) ?_ _
   go_wp2_with fail;have b8:((List.range k).map f).length=k:=by rw[List.length_map,List.length_range]
   rw[b8]at F;refine⟨⟨k+1,_,by omega,by go_num,?_,c.1.set_ 1 _,Ba (Below.grown (An J (Aw blA)) N (An J (Aw blA)).size λq hq=>Nat.le_of_succ_le (OwG.lt E q hq).1) (p:=⟨X.heap.size,1,none⟩) (Nat.le_refl _) _⟩,by simp[intOf];omega⟩;rw[HM.out];exact OwG.far F (λe=>absurd (OwG.lt F _ e).1 (by simp)) _
  simp only[List.getElem_toArray,List.getElem_cons_zero,List.getElem_cons_succ]
  go_simp
  refine t.out _ _ (HB.out _ (Aw blA)) λm=>?_;clear t K
  (try simp only[Act.put,List.setIfInBounds_toArray,List.set_cons_zero,List.set_cons_succ,List.getElem_toArray,List.getElem_cons_zero,List.getElem_cons_succ])
  refine wpAnyH_ready (rs:=[1]) (by kernel_rfl) (by simp) ?_;refine AllReadyH.cons (o:=_) rfl (λK t=>?_) AllReadyH.nil;simp only[List.getElem_toArray,List.getElem_cons_zero,List.getElem_cons_succ];go_simp;refine t.out _ _ (HB.out _ (Aw blA)) λm=>?_;clear t K;(try simp only[Act.put,List.setIfInBounds_toArray,List.set_cons_zero,List.set_cons_succ,List.getElem_toArray,List.getElem_cons_zero,List.getElem_cons_succ]);refine wpAnyH_ready (rs:=[22]) (by kernel_rfl) (by simp) ?_;refine AllReadyH.cons (o:=_) rfl (λK t=>?_) AllReadyH.nil;refine Kx (by rfl) _ _ (by rfl) (X.heap.size+1) O ((List.range k).map f) (by rfl) (OwG.keep (OwG.alloc E _) blD) wc.heap.size 1 (X',Y') 60 (by rfl) (Bf.drew (Bf.new _ _ _)) H (by simp;omega) (wc.heap.size+1) (by simp) ?_;intro g9 c4 w9 F N c6 cd;have c:=HG.out _ _ (Aw blA) N;let⟨y0,y1,y2,y3,y4⟩:=c.1.pair;refine t.out _ _ (HF.out _ c.2.1 c.2.2.1 c.2.2.2.1 c.2.2.2.2) λm=>?_;clear t K
  (try simp only[Act.put,List.setIfInBounds_toArray,List.set_cons_zero,List.set_cons_succ,List.getElem_toArray,List.getElem_cons_zero,List.getElem_cons_succ])
  refine wpAnyH_ready (rs:=[23]) (by kernel_rfl) (by simp) ?_;refine AllReadyH.cons (o:=_) rfl (λK t=>?_) AllReadyH.nil;simp only[List.getElem_toArray,List.getElem_cons_zero,List.getElem_cons_succ];go_simp;refine t.out _ _ (HF.out _ c.2.1 c.2.2.1 c.2.2.2.1 c.2.2.2.2) λm=>?_;clear t K;(try simp only[Act.put,List.setIfInBounds_toArray,List.set_cons_zero,List.set_cons_succ,List.getElem_toArray,List.getElem_cons_zero,List.getElem_cons_succ]);refine wpAnyH_ready (rs:=[24]) (by kernel_rfl) (by simp) ?_;refine AllReadyH.cons (o:=_) rfl (λK t=>?_) AllReadyH.nil;simp only[List.getElem_toArray,List.getElem_cons_zero,List.getElem_cons_succ];go_simp;refine t.out _ _ (HF.out _ (c.2.1.far cu _) (c.2.2.1.far cv _) ((World.cell?_setCell_other _ _ _ _ λe=>absurd (congrArg Addr.block e).symm V).trans c.2.2.2.1) ((World.cell?_setCell_other _ _ _ _ λe=>absurd (congrArg Addr.block e).symm V).trans c.2.2.2.2)) λm=>?_;clear t K;(try simp only[Act.put,List.setIfInBounds_toArray,List.set_cons_zero,List.set_cons_succ,List.getElem_toArray,List.getElem_cons_zero,List.getElem_cons_succ]);refine wpAnyH_done (by kernel_rfl) ?_ _
  go_wp2_with fail;have b8:((List.range k).map f).length=k:=by rw[List.length_map,List.length_range]
  rw[b8]at F;refine⟨⟨k+1,_,by omega,by go_num,?_,c.1.set_ 1 _,Ba (Below.grown (An J (Aw blA)) N (An J (Aw blA)).size λq hq=>Nat.le_of_succ_le (OwG.lt E q hq).1) (p:=⟨X.heap.size,1,none⟩) (Nat.le_refl _) _⟩,by simp[intOf];omega⟩;rw[HM.out];exact OwG.far F (λe=>absurd (OwG.lt F _ e).1 (by simp)) _
 obtain rfl:n=k:=by omega
 obtain⟨A',c',rfl,-⟩:=OwG.form2 ho;have H:((List.range n).map f).length=n:=by rw[List.length_map,List.length_range]
 rw[H]at ho T;have B0:¬(n:Int)<=(s:Int):=by have:=c3.out;omega
 let⟨o0,o1⟩:=Fe T;have c5:=hR.keep hb;let⟨r0,r1,f0,f1,lt⟩:=c5.pair;go_wp2_with fail;let⟨s0,s1⟩:=Fe (c5.s2 (.string Z) (.slice A' n c'));have cf:∀o,(Value.slice A' n c').ownBlock≠some (⟨w.heap.size+1+1+1,o,none⟩:Addr).block:=λo e=>by have:=(OwG.lt ho _ e).1;dsimp only at this;omega
 refine bodyPost_ret (v:=.agg #[.string Z,.slice A' n c']) (by simp[results,Tryz.results113,go_sem,s0,s1]) rfl ⟨_,rfl,?_,Ba (Ba (An U hb) (p:=⟨w.heap.size+1+1+1,0,none⟩) (by simp;omega) _) (p:=⟨w.heap.size+1+1+1,1,none⟩) (by simp;omega) _⟩;rw[bu.out];exact OwG.lower (OwG.far (OwG.far ho (cf 0) _) (cf 1) _) (by have:=U.size;omega)
theorem Aif {f:Nat} (j:f=62\/f=68) (d:Array Value) (p:PieceP) (m:Int) (w:World) (k:PcV w d p) (h:wI m 100=false):Calls Tryz.prog f #[.agg d,m] w (Xk w ([],3)):=by
 rcases j with rfl|rfl
 have a:=@D7
 rotate_left 1
 have a:=@Jc
 rotate_left 1
 all_goals
  have g:=Ar h;clear h;obtain⟨q,u,r,v,s,x,t,y,rfl,⟨G,H,I⟩,⟨J,K,L⟩,⟨M,N,O⟩,⟨l,n,o⟩⟩:=k;go_in;go_upto_region 1 with fail;refine Bq λX c i=>?_
  let⟨z,A,B,C,D,E,F⟩:=pc7 i
  go_wp2_with ((first|go_at_call 98|go_at_call 111);refine rR (a m 100 _ (by omega) (by omega)) λP b=>?_;rw[g.out])
  go_ret2
  exact Xk.none_ (An c b)
def Apt:=@Aif 62 (.inl rfl)
def Apq:=@Aif 68 (.inr rfl)
theorem Aie {f:Nat} (r:f=62\/f=68) (l:Array Value) (p:PieceP) (m:Int) (w:World) (t:PcV w l p) (h:wI m 100=true) (s:p.cr.length≠p.ed.length):Calls Tryz.prog f #[.agg l,m] w (Xk w ([],1)):=by
 rcases r with rfl|rfl
 have g:=@D7
 rotate_left 1
 have g:=@Jc
 rotate_left 1
 all_goals
  have o:=Ar h;have d:((p.cr.length:Int) != (p.ed.length:Int))=true:=by rw[bne_iff_ne];omega
  clear h s;obtain⟨y,C,z,D,A,E,B,F,rfl,⟨P,Q,R⟩,⟨S,T,U⟩,⟨V,W,Y⟩,⟨u,v,x⟩⟩:=t;go_in;go_upto_region 1 with fail;refine Bq λX i q=>?_
  let⟨I,j,J,K,k,L,M⟩:=pc7 q;let⟨G,b⟩:=gN p.ed.length
  let⟨H,c⟩:=gN p.cr.length
  rw[b]at j d;rw[c]at k d;clear b c
  go_wp2_with ((first|go_at_call 98|go_at_call 111);refine rR (g m 100 _ (by omega) (by omega)) λZ a=>?_;rw[o.out];have N:=Aq a j;have O:=Aq a k)
  all_goals go_ret2
  all_goals exact Xk.none_ (An i a)
def Aps:=@Aie 62 (.inl rfl)
def Apo:=@Aie 68 (.inr rfl)
theorem Apn(vs:Array Value) (p:PieceP) (m:Int) (w:World) (hv:PcV w vs p) (h:wI m 100=true) (N:p.cr.length=p.ed.length):Calls Tryz.prog 68 #[.agg vs,m] w (Xk w (Ch p m)):=by
 have HG:=Ar (show Ch p m=if Bp (λi=>!wS (gt p.cr i) 1000) p.cr.length then ([],3) else if C7 p.ed≠0 then ([],C7 p.ed) else if C7 (Ej p m)≠0 then ([],C7 (Ej p m)) else (Ej p m,0) by
  unfold Ch;rw[if_neg (by rw[h];simp),if_neg (by simpa using N)])
 let⟨k4,k5⟩:=Ah1 h;have HW:=Ar h;have j0:=Ar N;clear h N;obtain⟨A1,c1,A2,c2,A3,c3,A4,c4,rfl,⟨v1,v2,v3⟩,⟨v4,v5,v6⟩,⟨v7,v8,v9⟩,⟨la,lb,lf⟩⟩:=hv;go_enter Tryz.func68,Tryz.ntmps68;go_upto_region 1 with fail;refine Bq λX D hP=>?_
 let⟨p0,p1,p2,p3,p4,p5,p6⟩:=pc7 hP;have N:=j0.out;let⟨c,P⟩:=gN p.ed.length
 rw[N]at p4 v7 v9 HG;rw[P]at p1 p4 v1 v3 v7 v9 HG hP;rw[N,P]at hP;have H:=Ar (show p.cr.length=c by rw[N,P]);have b4:=Ar P;clear N P;let⟨cr,bm⟩:=gN p.cr
 rw[bm]at v9 HG H;have im:=Ar bm;clear bm;have Y:=hP;have bw:=v9.keep D;have a7:=v3.keep D
 go_upto_region 7 with (go_at_call 111;refine rR (Jc m 100 _ (by omega) (by omega)) λw1 ba=>?_;rw[HW.out];let⟨q0,q1,q2,q3,q4,q5,q6⟩:=pc7 (Y.keep ba))
 clear q0 q1 q2 q3 q4 q5 q6 p0 p1 p2 p3 p4 p5 p6;go_loopw [7] (λi wr=>∃k:Nat,k<=c/\i=.int .i64 k/\Hid (Bp (λi=>!wS (gt cr i) 1000) k=false)/\Be X wr) λi _=>c-(intOf i).toNat
 case atStart=>exact⟨0,Nat.zero_le _,rfl,Ar (Bp.zero _),ba⟩
 obtain⟨k,hk,rfl,hz,z⟩:=hrel;let⟨q0,q1,q2,q3,q4,q5,q6⟩:=pc7 (Y.keep z);by_cases u:k<c
 .obtain⟨b0,G,rfl,ev,hc⟩:=(bw.keep z).at_ u;let⟨e1,e2⟩:=hc k u;have V:=Ar (show wS (gt cr k) 1000=(wI (gt cr k).1 1000&&wI (gt cr k).2 1000) from rfl);let⟨x,hx⟩:=gN ((gt cr k).1)
  let⟨y,hy⟩:=gN ((gt cr k).2)
  rw[hx]at e1 V;rw[hy]at e2 V;clear hc hx hy;have HR:=Ar (λ(hf:wS (gt cr k) 1000=false)=>show Ch p m=([],3) by rw[HG.out,if_pos (Bp.yes (f:=λi=>!wS (gt cr i) 1000) u (by rw[hf];rfl))]);have B1:(k:Int)<(c:Int):=by omega
  let⟨bx,bc⟩:=gN (wI x 1000)
  let⟨bY,bb⟩:=gN (wI y 1000)
  rw[bc,bb]at V;have HX:=Ar bc;have HY:=Ar bb;clear bc bb;cases bx with
  | false =>
    have HF:=Ar (HR.out V.out)
    go_wp2_with (go_at_call 111;refine rR (Jc x 1000 _ (by omega) (by omega)) λw2 o=>?_;rw[HX.out])
    go_ret2
    rw[HF.out];exact Xk.none_ (An D (An z o))
  | true =>
    cases bY with
    | false =>
      have HF:=Ar (HR.out V.out)
      go_wp2_with (first
       | (go_at_call 111;have hz:=o;refine rR (Jc y 1000 _ (by omega) (by omega)) λw3 B=>?_;rw[HY.out])
       | (go_at_call 111;refine(Jc x 1000 _ (by omega) (by omega)).mono ?_;rintro e w2 ⟨rfl,o⟩;rw[HX.out];have z4:=Aq o q4;have z1:=Aq o e2))
      go_ret2
      rw[HF.out];exact Xk.none_ (An D (An (An z o) B))
    | true =>
      have HP:=Bp.succ (f:=λi=>!wS (gt cr i) 1000) hz.out (by rw[V.out];rfl)
      go_wp2_with (first
       | (go_at_call 111;have hz:=o;refine rR (Jc y 1000 _ (by omega) (by omega)) λw3 B=>?_;rw[HY.out])
       | (go_at_call 111;refine(Jc x 1000 _ (by omega) (by omega)).mono ?_;rintro e w2 ⟨rfl,o⟩;rw[HX.out];have z4:=Aq o q4;have z1:=Aq o e2))
      exact⟨⟨k+1,by omega,by go_num,Ar HP,An (An z o) B⟩,by simp[intOf];omega⟩
 obtain rfl:c=k:=by omega
 have I:=Ar (show Ch p m=if C7 p.ed≠0 then ([],C7 p.ed) else if C7 (Ej p m)≠0 then ([],C7 (Ej p m)) else (Ej p m,0) by rw[HG.out,if_neg (by rw[hz.out];simp)])
 have dk:=Ar (show ∀i,i<c -> -1000<=(gt cr i).1/\(gt cr i).1<=1000 /\ -1000<=(gt cr i).2/\(gt cr i).2<=1000 from λi hi=>by
  cases hw:wS (gt cr i) 1000 with
  | true=>exact Ah0 hw
  | false=>exact absurd (Bp.yes (f:=λi=>!wS (gt cr i) 1000) hi (by rw[hw];rfl)) (by rw[hz.out];simp))
 clear HG hz;let⟨eo,F⟩:=gN (C7 p.ed)
 have T:=Ar F;rw[F]at I;clear F;by_cases h0:eo=0
 .subst h0;have U:=Ar (show Ch p m=if C7 (Ej p m)≠0 then ([],C7 (Ej p m)) else (Ej p m,0) by rw[I.out,if_neg (by simp)]);have b5:=Ar (D5 T.out)
  have nd:c<=16/\2<=c:=by
   have:=b5.out;rw[b4.out]at this;omega
  clear I
  go_upto_region 16 with (go_at_call 112;refine rR (Ie A1 c1 c p.ed _ v1 (by omega) (a7.keep z)) λw3 B=>?_;rw[T.out])
  clear q0 q1 q2 q3 q4 q5 q6;have M:=An z B;have lo:=bw.keep M;have lk:=a7.keep M;have b9:=Y.keep M;have a8:=Ar (show ∀k,Af9 (Iq cr m k) from λk=>Zn (by rw[H.out];omega) k4 k5 (by rw[H.out];exact dk.out));have j1:=Ar (show ∀k,k<c->plW (edg p.ed k).ln (edg p.ed k).ln.length=0 from λk hk=>(b5.out.2.2.1 k (by rw[b4.out];exact hk)).2);have iy:=Ar (show ∀k,Fl p m (k+1)=Fl p m k++[⟨(edg p.ed k).nm,He (edg p.ed k).ln (Iq cr m k) (Iq cr m (k+1))⟩] from λk=>by rw[Fl,im.out]);have cv:=Ar (show ∀k,Iq cr m k=(m*(gt cr (k % c)).1,m*(gt cr (k % c)).2) from λk=>by unfold Iq;rw[H.out]);have cz:=Ar (Js p m);have b2:=An D M;clear dk H z B bw a7 v9 v3 v6 lf v4 v5 la lb hP Y D M ba;go_loopw [9,10,11,12] (λv i _ _ wr=>∃k:Nat,k<=c/\i=.int .i64 k/\OwE wr w3.heap.size v (Fl p m k)/\Be w3 wr) λ_ i _ _ _=>c-(intOf i).toNat
  case atStart=>exact⟨0,Nat.zero_le _,rfl,OwE.nil,bl0⟩
  obtain⟨k,hk,rfl,Q,z⟩:=hrel;let⟨t0,t1,t2,t3,t4,t5,t6⟩:=pc7 (b9.keep z);by_cases u:k<c
  .obtain⟨b0,G,rfl,ev,hc⟩:=(lo.keep z).at_ u;have fv:(k+1) % c<c:=Nat.mod_lt _ (by omega);let⟨e1,e2⟩:=hc k u;let⟨e3,e4⟩:=hc _ fv;have mf:=Q6 ((k:Int)+1) (k+1) c rfl (by omega);obtain⟨b1,o1,rfl,ey⟩:=lk.at_ u;let⟨e5,Al,cl,e6,g1,g2,g3⟩:=ey k u;have na:b1<w3.heap.size:=Bi e5;replace e5:=Aq z e5;replace e6:=Aq z e6;replace g3:=g3.keep z;have R:=j1.out k u;have j:=iy.out k;have O:=cz.out k;let⟨l,N⟩:=gN ((edg p.ed k).ln)
   let⟨nm,gg⟩:=gN ((edg p.ed k).nm)
   rw[N]at e6 g1 g3 R j;rw[gg]at e5 j;let⟨nl,gf⟩:=gN l.length
   rw[gf]at e6 g1 g3 R;have A:=a8.out k;have t:=a8.out (k+1);have q1:=cv.out k;have q2:=cv.out (k+1);rw[Nat.mod_eq_of_lt u]at q1;rw[q1]at A j;rw[q2]at t j;let⟨S,a6⟩:=gN ((k+1) % c)
   rw[a6]at e3 e4 fv t j;have T1:Int.tmod ((k:Int)+1) (c:Int)=(S:Int):=by rw[<-a6,mf.1];rfl
   have T2:((k:Int)+1) % (c:Int)=(S:Int):=by rw[<-a6];rfl
   have W4:IntKind.i64.wrap (S:Int)=(S:Int):=by rw[IntKind.wrap_i64];omega
   have W5:IntKind.i64.wrap (Int.tmod ((k:Int)+1) (c:Int))=(S:Int):=by rw[T1];exact W4
   let⟨⟨cx,cy⟩,fa⟩:∃q,gt cr k=q:=⟨_,rfl⟩
   let⟨⟨dx,dy⟩,fb⟩:∃q,gt cr S=q:=⟨_,rfl⟩
   rw[fa]at e1 e2 A j;rw[fb]at e3 e4 t j;dsimp only at e1 e2 e3 e4 A t j;let⟨ca,bd⟩:=gN (m*cx)
   let⟨cb,bl⟩:=gN (m*cy)
   let⟨da,bp⟩:=gN (m*dx)
   let⟨db,bq⟩:=gN (m*dy)
   rw[bd,bl]at A j;rw[bp,bq]at t j;have W6:IntKind.i64.wrap (m*cx)=ca:=by rw[bd,IntKind.wrap_i64];have:=A.1;have:=A.2.1;dsimp only at *;omega
   have W7:IntKind.i64.wrap (m*cy)=cb:=by rw[bl,IntKind.wrap_i64];have:=A.2.2;dsimp only at *;omega
   have W8:IntKind.i64.wrap (m*dx)=da:=by rw[bp,IntKind.wrap_i64];have:=t.1;have:=t.2.1;dsimp only at *;omega
   have W9:IntKind.i64.wrap (m*dy)=db:=by rw[bq,IntKind.wrap_i64];have:=t.2.2;dsimp only at *;omega
   have HM:=Ar j;have B1:(0:Int)<=(k:Int):=by omega
   have B2:(k:Int)<(c:Int):=by omega
   have B3:(0:Int)<=(S:Int):=by omega
   have B4:(S:Int)<(c:Int):=by omega
   have B5:¬(c:Int)=0:=by omega
   have B6:¬c=0:=by omega
   have kk:=Aca (n:=c) (by omega);have W1:IntKind.i64.wrap ((k:Int)+1)=(k:Int)+1:=by rw[IntKind.wrap_i64];omega
   have dc:=Ar λ(w2:World) (h2:Be wr w2)=>hgr Al cl nl l nm (ca,cb) (da,db) w2 (g3.keep h2) R A t;let⟨L2,ec⟩:=gN (He l (ca,cb) (da,db))
   rw[ec]at dc HM;let⟨E0,e7⟩:=gN (Fl p m k)
   rw[e7]at Q O HM;have mo:=Ar O;have nb:E0.length<=1000:=by omega
   let⟨sv,gx⟩:∃sv,sv=u9:=⟨_,rfl⟩
   rw[<-gx]at Q ⊢;have ek:=b9.keep z;clear gx hc ey N gg gf fa fb j ec e7 A t R q1 q2 a6 mf bd bl bp bq g1 g2 g3 O ev;go_upto_region 18 with fail;clear t0 t1 t2 t3 t4 t5 t6;have d:=Aw (Below.refl wr.heap.size wr);have KF:=Ar λg (h:Be wr g)=>show Cq g w.heap.size 4 (.slice (some ⟨b0,G,none⟩) c c3)/\Cq g b0 (G+k*2) cx/\Cq g b0 (G+k*2+1) cy/\Cq g b0 (G+S*2) dx/\Cq g b0 (G+S*2+1) dy from ⟨(pc7 (ek.keep h)).2.2.2.2.1,Aq h e1,Aq h e2,Aq h e3,Aq h e4⟩;go_cut [11,12] λva vb wx=>∃ga gb,va=.pointer (some ⟨ga,0,none⟩)/\vb=.pointer (some ⟨gb,0,none⟩)/\Bf wx ga 60 #[cx,cy]/\Bf wx gb 60 #[dx,dy]/\wr.heap.size<=ga/\wr.heap.size<=gb/\Be wr wx
   case first =>
    go_region_held3 (sB KF.out)
     (first
      | with_reducible exact KF.out _ d
      | with_reducible exact KF.out _ (Aw blA)
      | with_reducible exact KF.out _ (Aw (Ao blA _)))
     (fail)
    all_goals go_wp2_with fail
    all_goals go_meet
    all_goals first
     | exact⟨_,_,rfl,rfl,Bf.drew ((Bf.new _ _ _).alloc _),Bf.drew (Bf.new2 _ _ _ _),Nat.le_refl _,Nat.le_succ _,Aw (Ao blA _)⟩
     | exact⟨_,_,rfl,rfl,Bf.drew (Bf.new2 _ _ _ _),Bf.drew ((Bf.new _ _ _).alloc _),Nat.le_succ _,Nat.le_refl _,Aw (Ao blA _)⟩
   obtain⟨ga,gb,rfl,rfl,e8,e9,sa,sb,C⟩:=hcut;have k9:=Q.keep C;have Z:=An z C;have eg:=ek.keep C;have f5:=Aq C e5;have f6:=Aq C e6;have kp:some ga≠sv.ownBlock:=λe=>by obtain⟨xs,h1,-⟩:=Q;have:=(OwG.lt h1 _ e.symm).2;omega
   have kz:some gb≠sv.ownBlock:=λe=>by obtain⟨xs,h1,-⟩:=Q;have:=(OwG.lt h1 _ e.symm).2;omega
   have R:=b9.lt;have pk:=z.size;have oy:=C.size
   have V:=Ar (λg (hp:Bf g w.heap.size 48 #[.string p.nm,.slice (some ⟨b1,o1,none⟩) c c1,p.gr,.slice A2 p.nt.length c2,.slice (some ⟨b0,G,none⟩) c c3,.slice A4 p.wd.length c4,.bool p.mt]) (a:Bf g ga 60 #[cx,cy]) (b:Bf g gb 60 #[dx,dy]) (d1:Cq g b1 (o1+k*2) (.string nm)) (d2:Cq g b1 (o1+k*2+1) (.slice Al nl cl)) =>
    (show Cq g w.heap.size 1 (.slice (some ⟨b1,o1,none⟩) c c1)/\Cq g b1 (o1+k*2) (.string nm)/\Cq g b1 (o1+k*2+1) (.slice Al nl cl)/\Cq g ga 0 cx/\Cq g ga 1 cy/\Cq g gb 0 dx/\Cq g gb 1 dy from ⟨(pc7 hp).2.1,d1,d2,(Fe a).1,(Fe a).2,(Fe b).1,(Fe b).2⟩))
   have HB:=Ar λg (h:Be wc g)=>V.out g (eg.keep h) (e8.keep h) (e9.keep h) (Aq h f5) (Aq h f6);have kl:some w.heap.size≠sv.ownBlock:=λe=>by obtain⟨xs,h1,-⟩:=Q;have:=(OwG.lt h1 _ e.symm).1;omega
   have gy:some b1≠sv.ownBlock:=λe=>by obtain⟨xs,h1,-⟩:=Q;have:=(OwG.lt h1 _ e.symm).1;omega
   have HG:=Ar (λ(W g:World) (h:Be wc W) (hg:W.grownBy g sv.ownBlock)=>V.out g ((eg.keep h).grown hg kl) ((e8.keep h).grown hg kp) ((e9.keep h).grown hg kz) ((hg.cell_far _ (by have:=h.size;simp;omega) gy).trans (Aq h f5)) ((hg.cell_far _ (by have:=h.size;simp;omega) gy).trans (Aq h f6)));clear T1 T2 W4 W5 B3 B4 B5 B6 kk;go_upto_region 19 with fail;have d:=Aw (Below.refl wc.heap.size wc)
   go_region_held3 (sB HB.out)
    (first
     | with_reducible exact HB.out _ d
     | with_reducible exact HB.out _ (Ao d _)
     | with_reducible exact HG.out _ _ (Ao d _) fs)
    ((first
      | (refine Tm rfl _ _ rfl w3.heap.size sv E0 rfl (OwE.keep k9 (Ao d _)) w8.heap.size 1 nm A8 L2.length c8 L2 50 rfl (Bf.new _ _ _) ((fc.keep blA).lower bs) k2 (by omega) (Ao (An Z d) _).size (w8.heap.size+1) (by simp) ?_;intro g9 n0 w9 k6 fs n9 nc gw)
      | (go_at_call 113;refine(dc.out _ (An C d)).mono ?_;rintro e w8 ⟨v8,rfl,bt,k1⟩;obtain⟨A8,c8,rfl,-⟩:=OwG.form2 bt;have fc:=OwS.els bt;have bs:=Nat.le_trans Z.size d.size;have k2:c8<=9223372036854775807:=(by obtain⟨A',c',e',-,q',-⟩:=OwG.form2 bt;injection e' with e1 e2 e3;rw[e3];unfold maxLen at q';exact q');replace d:=An d k1)))
   all_goals clear W1
   all_goals go_wp2_with fail
   exact⟨⟨k+1,by omega,by go_num,by rw[HM.out];exact k6,Below.grown (Ao (An Z d) _) fs (Ao (An Z d) _).size λq hq=>(gw q hq).1⟩,by simp[intOf];omega⟩
  obtain rfl:c=k:=by omega
  have cw:=Ar (show Ej p m=Fl p m c by unfold Ej;rw[b4.out]);have a1:=cz.out c;let⟨E,hE⟩:=gN (Fl p m c)
  rw[hE]at Q cw a1;rw[cw.out]at U;obtain⟨A5,c5,rfl,i1,i2,i3⟩:=Q.eds;have HO:=Ar Q;rw[a1]at i1 i3 ⊢;have J:=Ar a1;let⟨eo,F⟩:=gN (C7 E)
  have ad:=Ar F;rw[F]at U;have er:=An b2 z;clear hE F a1 Q b5 T;by_cases h5:eo=0
  .subst h5;have HR:=Ar (show Ch p m=(E,0) by rw[U.out,if_neg (by simp)])
   go_wp2_with (go_at_call 112;refine rR (Ie A5 c5 c E _ i1 (by omega) i3) λw5 K=>?_;rw[ad.out])
   go_ret2
   rw[HR.out];refine⟨A5,c5,?_,?_,i2,?_,An er K⟩
   .rw[show ((E,(0:Int)).1).length=c from J.out];rfl
   .refine⟨by rw[show ((E,(0:Int)).1).length=c from J.out];exact i1,(HO.out.keep K).lower b2.size⟩
   rw[show ((E,(0:Int)).1).length=c from J.out];exact i3.keep K
  have HR:=Ar (show Ch p m=([],eo) by rw[U.out,if_pos h5]);have ox:(eo != 0)=true:=by simpa using h5
  clear h5
  go_wp2_with (go_at_call 112;refine rR (Ie A5 c5 c E _ i1 (by omega) i3) λw5 K=>?_;rw[ad.out])
  go_ret2
  rw[HR.out];exact Xk.none_ (An er K)
 have HR:=Ar (show Ch p m=([],eo) by rw[I.out,if_pos h0]);have ov:(eo != 0)=true:=by simpa using h0
 clear h0 I
 go_wp2_with (go_at_call 112;refine rR (Ie A1 c1 c p.ed _ v1 (by omega) (a7.keep z)) λw3 B=>?_;rw[T.out])
 go_ret2
 rw[HR.out];exact Xk.none_ (An D (An z B))
theorem Mi (a:Array Value) (p:PieceP) (m:Int) (w:World) (c:PcV w a p):Calls Tryz.prog 68 #[.agg a,m] w (Xk w (Ch p m)):=by
 cases h:wI m 100 with
 | false =>
   have:Ch p m=([],3):=by unfold Ch;rw[if_pos h]
   rw[this];exact Apq a p m w c h
 | true =>
   by_cases b:p.cr.length=p.ed.length
   .exact Apn a p m w c h b
   have:Ch p m=([],1):=by unfold Ch;rw[if_neg (by rw[h];simp),if_pos b]
   rw[this];exact Apo a p m w c h b
theorem Fz (a:Array Value) (p:PieceP) (m:Int) (w:World) (c:PcV w a p):Calls Tryz.prog 62 #[.agg a,m] w (Xk w (Ch p m)):=by
 cases h:wI m 100 with
 | false =>
   have:Ch p m=([],3):=by unfold Ch;rw[if_pos h]
   rw[this];exact Apt a p m w c h
 | true =>
   by_cases b:p.cr.length=p.ed.length
   .exact Apr a p m w c h b
   have:Ch p m=([],1):=by unfold Ch;rw[if_neg (by rw[h];simp),if_pos b]
   rw[this];exact Aps a p m w c h b
end Go.Proofs.YtlogblbfbihleaaGreat
