/- Lean texts of the claim. -/
import Derived.Test.YtlogblbfbihleaaGreatZr14
import Derived.Test.YtlogblbfbihleaaGreatZr15
namespace Go.Proofs.YtlogblbfbihleaaGreat
set_option linter.all false
set_option maxRecDepth 100000
set_option maxHeartbeats 0
open Go.RowKit
variable{a m:World}{b i l n:Nat}{e:List LP}{f o:LP}{g:Value}{h:TypeId}{j:Array Value}{k:Option Nat}
section
open Go.RowKit Go.Sort
section
variable {α : Type} [Inhabited α] {e : TypeId} {size : Nat} {enc : α -> List Value} {w : World} {base g cap : Nat}
theorem Zd (henc:∀x,(enc x).length=size) (hs:0<size) (l:List α) {j:Nat} (hj:j<l.length*size):(l.flatMap enc)[j]? = some ((enc (l.toArray[j / size]!))[j % size]!):=by
 have hq:j / size<l.length:=(Nat.div_lt_iff_lt_mul hs).2 hj;have hr:j % size<size:=Nat.mod_lt _ hs;have h1:=Bu henc l (j / size) (j % size) l[j / size] (List.getElem?_eq_getElem hq) hr;rw[Nat.div_add_mod' j size] at h1;rw[h1];have e1:l.toArray[j / size]! = l[j / size]:=by simp[hq]
 rw[e1,List.getElem?_eq_getElem (by rw[henc];exact hr)]
 simp[List.getElem!_eq_getElem?_getD,List.getElem?_eq_getElem (show j % size<(enc l[j / size]).length by rw[henc];exact hr)]
theorem OwG.holdsK (henc:∀x,(enc x).length=size) (hs:0<size) {l:List α} (h:OwG e size enc w base (.slice (some ⟨g,0,none⟩) l.length cap) l):HoldsK enc size w g 0 l.toArray:=by
 intro j hj;rw[size_flatK,List.size_toArray] at hj;rw[get_flatK _ _ _ _ (by rw[List.size_toArray];exact hj),Nat.zero_add]
 exact⟨(h.cells j hj).trans (Zd henc hs l hj),h.frozen j⟩
theorem OwG.sorted (henc:∀x,(enc x).length=size) (hs:0<size) {l:List α} (h:OwG e size enc w base (.slice (some ⟨g,0,none⟩) l.length cap) l) (d:List α) (hd:d.length=l.length) (m:Nat) (os:Array Obj) :
 OwG e size enc (sortWorldK enc size w g 0 m d.toArray os) base (.slice (some ⟨g,0,none⟩) l.length cap) d/\w.grownBy (sortWorldK enc size w g 0 m d.toArray os) (some g):=by
 obtain⟨h1,h2⟩:=h;rcases h2 with ⟨e0,_⟩|⟨g',cap',cur,e0,hb,hg,hnc,hcm,hcs,htake⟩
 ·cases e0
 ·injection e0 with e1 e2 e3
  injection e1 with e1
  injection e1 with e1
  subst e1 e3;have hlt:g<w.heap.size:=D9 hg
  have hh:(sortWorldK enc size w g 0 m d.toArray os).heap[g]? = some (.cells (Sort.putCells id 0 (flatK enc size d.toArray) cur) e (0,0)):=by
   show ((w.heap.modify g (Sort.onCells (Sort.putCells id 0 (flatK enc size d.toArray))))++os)[g]? = _
   rw[Array.getElem?_append_left (by simpa using hlt),Array.getElem?_modify,if_pos rfl,hg]
   rfl
  refine⟨⟨?_,.inr ⟨g,cap,_,by rw[hd],hb,hh,by rw[hd];exact hnc,hcm,?_,?_⟩⟩,⟨rfl,rfl,rfl,?_,?_⟩⟩
  ·rw[Cz henc]
  ·simp only[Sort.putCells,Array.size_mapIdx];exact hcs
  ·apply List.ext_getElem?
   intro j;rcases Nat.lt_or_ge j (d.length*size) with hj|hj
   ·have hjc:j<cur.size:=by
     have:=Nat.mul_le_mul_right size hnc;rw[hcs];rw[hd] at hj;omega
    rw[List.getElem?_take_of_lt hj,Zd henc hs d hj,Array.getElem?_toList];simp only[Sort.putCells,Array.getElem?_mapIdx];rw[Array.getElem?_eq_getElem hjc,Option.map_some,if_pos (by rw[size_flatK,List.size_toArray];omega),Nat.sub_zero,get_flatK _ _ _ _ (by rw[List.size_toArray];exact hj)]
    rfl
   ·rw[List.getElem?_eq_none (by rw[List.length_take];omega),List.getElem?_eq_none (by rw[Cz henc];omega)]
  ·show w.heap.size<=((w.heap.modify g _)++os).size
   simp
  ·intro k hk hne
   show ((w.heap.modify g _)++os)[k]? = _
   rw[Array.getElem?_append_left (by simpa using hk),Array.getElem?_modify,if_neg (fun e=>hne (by rw[e]))]
end
theorem uj(x y:Int):Ey x y<0↔x<y:=by
 unfold Ey;split
 .simp[*]
 split<;>simp[*]<;>omega
theorem Lm(x y:Int):Ey x y=0↔x=y:=by
 unfold Ey;split
 .omega
 split<;>omega
theorem Sx(p q:Int×Int):H6 p q<0↔p.1<q.1\/(p.1=q.1/\p.2<q.2):=by
 unfold H6 orI orI orI;have c:=uj p.1 q.1;have d:=Lm p.1 q.1;have e:=uj p.2 q.2;have f:=Lm p.2 q.2;by_cases a:Ey p.1 q.1=0
 .rw[a];by_cases b:Ey p.2 q.2=0
  .rw[b];simp;omega
  rw[if_neg (by simp),if_pos (by simpa using b)];omega
 rw[if_pos (by simpa using a)];omega
theorem ltS(p q:Int×Int):ltOf H6 p q=G0 p q:=by
 unfold ltOf G0;rw[Bool.eq_iff_iff];simp[Sx]
theorem Ano:Sort.SWO (ltOf H6) where
 irrefl x:=by rw[ltS];unfold G0;simp
 trans x y z h1 h2:=by
  rw[ltS]at *;unfold G0 at *;simp at *;omega
 ntrans x y z h1 h2:=by
  rw[ltS]at *;unfold G0 at *;simp at *;omega
theorem Aij(x y:Int×Int) (e:ltOf H6 x y=false) (f:ltOf H6 y x=false):x=y:=by
 rw[ltS]at *;unfold G0 at *
 obtain⟨a,b⟩:=x;obtain⟨c,d⟩:=y;simp at *;omega
def Ez (l:LP):LP:=l.mergeSort λx y=>!ltOf H6 y x
theorem Gx(l:LP):(Ez l).length=l.length:=List.length_mergeSort _
theorem Xz(F:Nat) (r:∀args w,(callFunc F args).run Tryz.prog w=.ok (.enter F args) w) (t:∀j k p o w,Calls Tryz.prog F #[.agg #[.int .i64 j,.int .i64 k],.agg #[.int .i64 p,.int .i64 o]] w λe c=>e=.returned (.int .i64 (H6 (j,k) (p,o)))/\GrW w c)
 (v:Value) (a:Nat) (l:List (Int×Int)) (w:World) (D:l.length<=1000000) (h:OwS w a v l) :
 Calls Tryz.prog 129 #[v,.func (.func F) #[] #[]] w λe c=>e=.returned (.tuple #[])/\OwS c a v (Ez l)/\w.grownBy c v.ownBlock:=by
 rcases OwG.form h with⟨rfl,rfl⟩|⟨g,i,rfl,A,s,B,C⟩
 .refine(AnyF.slices_SortFunc_none Tryz.laysS none 0 _ w).mono ?_;rintro e c ⟨rfl,rfl⟩;exact⟨rfl,by rw[show Ez []=[] by simp[Ez]];exact h,World.grownBy.refl _ _⟩
 have d:CmpLays Tryz.prog F #[] enS 2 H6 g 0 l.toArray.size w:=by
  intro m q z u x y;exact t x.1 x.2 y.1 y.2 _
 have b:=AnyQ.slices_SortFunc_total Tryz.laysS 2 Tryz.isAgg60 Tryz.sizeOf60 enS Cm Io H6 Ano F #[] g 0 i l.toArray w r d (OwG.holdsK Cm (by omega) h) s (by rw[List.size_toArray];omega) Aij;rw[List.size_toArray]at b;refine b.mono ?_;rintro e c ⟨rfl,n,q,rfl⟩;have f:=OwG.sorted Cm (by omega) h (Ez l) (Gx l) n q;refine⟨rfl,?_,f.2⟩;exact f.1
end
section
theorem OwG.kept{e:Type}   {c:e->List Value} {w:World}   {l:List e} {row:Option Nat} (f:OwG h b c w i g l) (j:w.grownBy a row) (d:g.ownBlock=none\/g.ownBlock≠row):OwG h b c a i g l :=
 World.ownsRow.kept f j d
theorem fz{e:Type} {c:e->List Value}  (d:∀x,(c x).length=b) (l:List e) (i:Nat):(l.flatMap c).take (i*b)=(l.take i).flatMap c:=by
 induction l generalizing i with
 | nil=>simp
 | cons a l ih =>
   cases i with
   | zero=>simp
   | succ i =>
     rw[List.take_succ_cons,List.flatMap_cons,List.flatMap_cons,<-ih,show (i+1)*b=(c a).length+i*b by rw[d,Nat.add_mul];omega,List.take_length_add_append]
theorem OwG.clear{O:Type} {P:Program} {t:TypeId}  {p:O->List Value} {w:World} {d g n a i:Nat} {l:List O} {z:Value} (e:∀x,(p x).length=b)
 (E:P.underlying t=some (.slice h)) (Z:∀w,(zeroValue h).run P w=.ok z w) (D:z.cells.size=b) (K:∀u∈z.cells.toList,u.oneCell'=true) (J:0<b)
 (Q:OwG h b p w d (.slice (some ⟨g,0,none⟩) n a) l) (V:l.length=n) (T:i<n) :
 ∃W,(∀F,(Builtin.clear_ #[t] F #[.slice (some ⟨g,i*b,none⟩) (n-i) (a-i)]).run P w=.ok (.tuple #[]) W)/\OwG h b p W d (.slice (some ⟨g,0,none⟩) i a) (l.take i)/\w.grownBy W (some g):=by
 subst V;have s:(l.take i).length=i:=by rw[List.length_take];omega
 obtain⟨h1,R⟩:=Q;rcases R with⟨G,_⟩|⟨g',M,A,G,S,N,Y,H,q,r⟩
 .cases G
 injection G with e1 e2 e3
 injection e1 with e1
 injection e1 with e1
 subst e1 e3;let⟨o,c⟩:=gN ((Builtin.zeroCells z.cells (l.length-i)).toList:List Value)
 have L:o.length=(l.length-i)*b:=by
  rw[<-c];simp[Builtin.zeroCells,D]
 have y:∀u∈o,u.oneCell'=true:=by
  intro u E;rw[<-c,Builtin.zeroCells,Array.toList_map]at E;obtain⟨j,_,rfl⟩:=List.mem_map.1 E;have U:j % z.cells.size<z.cells.size:=Nat.mod_lt _ (by rw[D];exact J);apply K;rw[getElem!_pos z.cells _ U];simp
 have f:i*b+o.length<=A.size:=by
  rw[L,q,<-Nat.add_mul];exact Nat.mul_le_mul_right _ (by omega)
 have C:=run_storeCells_at P g (i*b) h o 0 A w N (by simpa using f) y;rw[Nat.add_zero]at C;let⟨m,X⟩:∃m,l.length-i=m+1:=⟨l.length-i-1,by omega⟩
 have B:∀F,(Builtin.clear_ #[t] F #[.slice (some ⟨g,i*b,none⟩) (l.length-i) (a-i)]).run P w=.ok (.tuple #[]) (w.setRow g (A.toList.take (i*b)++o++A.toList.drop (i*b+o.length)).toArray):=by
  intro F;rw[X]at c ⊢;simp[Builtin.clear_,run_underlying E,Z,c,C]
 refine⟨_,B,⟨?_,.inr ⟨g,a,_,by rw[s],S,setRow_heap w g A _ _ _ N,by rw[s];omega,H,?_,?_⟩⟩,⟨rfl,rfl,rfl,by simp[World.setRow],λk _ I=>setRow_other w g k _ λh=>I (by rw[h])⟩⟩
 .rw[Cz e]
 .rw[List.size_toArray,List.length_append,List.length_append,List.length_take,List.length_drop,Array.length_toList,q];rw[q]at f;omega
 have hA:i*b<=A.toList.length:=by rw[Array.length_toList];omega
 have v:(A.toList.take (i*b)).length=i*b:=by rw[List.length_take];omega
 rw[s,List.append_assoc];simp only[List.toList_toArray];rw[List.take_append_of_le_length (by rw[v];exact Nat.le_refl _),List.take_of_length_le (by rw[v];exact Nat.le_refl _),<-fz e,<-r,List.take_take]
 congr 1
 have:=Nat.mul_le_mul_right b (Nat.le_of_lt T);omega
section
variable {α : Type}
def Lr (eq:α->α->Bool) (l:List α) (d:α):Nat->List α
 | 0=>[]
 | k+1=>if 0<k/\eq (l.getD k d) (l.getD (k-1) d)=true then Lr eq l d k else Lr eq l d k++[l.getD k d]
def Eg (eq:α->α->Bool) (d:α) (l:List α):List α:=Lr eq l d l.length
variable {eq : α -> α -> Bool} {l : List α} {d : α}
theorem Su (k:Nat):(Lr eq l d k).length<=k:=by
 induction k with
 | zero=>exact Nat.le_refl _
 | succ k ih =>
   rw[Lr];split
   ·omega
   ·rw[List.length_append];simp;omega
theorem Nu:Lr eq l d 1=[l.getD 0 d]:=by simp[Lr]
theorem Nt {k:Nat} (h0:0<k) (h:eq (l.getD k d) (l.getD (k-1) d)=true):Lr eq l d (k+1)=Lr eq l d k:=by
 rw[Lr,if_pos ⟨h0,h⟩]
theorem Wx {k:Nat} (h:eq (l.getD k d) (l.getD (k-1) d)=false):Lr eq l d (k+1)=Lr eq l d k++[l.getD k d]:=by
 rw[Lr,if_neg (by rw[h];simp)]
theorem J7 {k:Nat} (h:k<l.length):l.take (k+1)=l.take k++[l.getD k d]:=by
 rw[List.take_succ_eq_append_getElem h];congr 2;simp[h]
theorem Ux {k:Nat} (hk:k<l.length) (hp:Lr eq l d k=l.take k) (h:eq (l.getD k d) (l.getD (k-1) d)=false):Lr eq l d (k+1)=l.take (k+1):=by
 rw[Wx h,hp,J7 hk]
theorem Nj (h:0<l.length):l.take 1=[l.getD 0 d]:=by
 rw[J7 (d:=d) h];simp
end
theorem take_set{c:Nat} {x:Int×Int} (h:c<f.length):(f.set c x).take (c+1)=f.take c++[x]:=by
 rw[List.take_succ_eq_append_getElem (by simpa using h)];simp[List.take_set_of_le]
theorem Alr:∀w,(zeroValue 60).run Tryz.prog w=.ok (.agg #[.int .i64 0,.int .i64 0]) w:=λ_=>by kernel_rfl
theorem U4(g b n:Nat) (o:Nat) (l:LP) (w:World) (hl:n<=1000000) (Q:l.length=n) (au:n<=b) (hs:OwS w o (.slice (some ⟨g,0,none⟩) n b) l) :
 Calls Tryz.prog 336 #[.slice (some ⟨g,0,none⟩) n b] w λe w'=>∃m,e=.returned (.slice (some ⟨g,0,none⟩) m b)/\m=(Eg eqS (0,0) l).length/\OwS w' o (.slice (some ⟨g,0,none⟩) m b) (Eg eqS (0,0) l)/\w.grownBy w' (some g):=by
 have y:=Ar Q;have G:=Ar (show Eg eqS (0,0) l=Lr eqS l (0,0) n by unfold Eg;rw[Q]);clear Q;by_cases S:n<2
 .go_in;go_wp2;go_ret
  have e:Eg eqS (0,0) l=l:=by
   rw[G.out];have Q:=y.out;rcases Nat.lt_or_ge n 1 with h|h
   .have X:n=0:=by omega
    subst X;rw[List.eq_nil_of_length_eq_zero Q];rfl
   have X:n=1:=by omega
   subst X;rw[Nu,<-Nj (by omega),List.take_of_length_le (by omega)]
  exact⟨n,rfl,by rw[e,y.out],by rw[e];exact hs,World.grownBy.refl _ _⟩
 have ba:=Ea;go_in;go_wp2;go_loopw [3] (λi wr=>∃k:Nat,1<=k/\k<=n/\i=.int .i64 k/\Hid (Lr eqS l (0,0) k=l.take k)/\OwS wr o (.slice (some ⟨g,0,none⟩) n b) l/\w.grownBy wr (some g)) λi _=>n-(intOf i).toNat
 case atStart=>exact⟨1,Nat.le_refl _,by omega,rfl,by rw[Nu,<-Nj (by rw[y.out];omega)];exact Ar rfl,hs,World.grownBy.refl _ _⟩
 clear hs;obtain⟨k,bc,hk,rfl,T,q,F⟩:=hrel;by_cases O:k<n
 .obtain⟨j,hj⟩:∃j,k-1=j:=⟨_,rfl⟩
  let⟨J,K,_,_⟩:=q.cells y.out O;let⟨H,I,_,_⟩:=q.cells y.out (show j<n by omega);have L:IntKind.i64.wrap ((k:Int)-1)=(j:Int):=(Fm _ (by omega) (by omega)).trans (by omega);have bb:(j:Int)<(n:Int):=by omega
  have a6:¬n=0:=by omega
  by_cases a:eqS ((gt l k).1,(gt l k).2) ((gt l j).1,(gt l j).2)=true
  .go_wp2;go_quiet (fail);clear J K H I L;have bd:¬k=b:=by omega
   have A:=Ar (Nt (eq:=eqS) (l:=l) (d:=((0:Int),(0:Int))) (k:=k) (by omega) (by rw[hj];exact a));have N:(k:Int)<=(n:Int):=by omega
   go_wp2;let⟨M,hM⟩:=gN (n-k)
   let⟨C,hC⟩:=gN (b-k)
   rw[hM,hC];have b6:n<=k+M:=by omega
   have b7:k+M<=n:=by omega
   have V:=Ar (show n=k+M by omega);have b5:M<=C:=by omega
   clear hM hC;have HD:=Ar a;have s:(Lr eqS l (0,0) k).length=k:=by rw[T.out,List.length_take,y.out];omega
   have U:=Ar s;have HO:=Ar (OwS.drewN q nq);have HG:=Ar (Gb.drewN F nq);clear a s q F N;go_loopw [3,5] (λc i wx=>∃(p R:Nat) (z:LP),1<=p/\p<=M/\i=.int .i64 p/\c=.int .i64 R/\Hid (R=(Lr eqS l (0,0) (k+p)).length)/\R+1<=k+p/\Hid (z.length=n)/\Hid (z.take R=Lr eqS l (0,0) (k+p))/\Hid (∀x,k+p<=x+1->x<n->gt z x=gt l x)/\OwS wx o (.slice (some ⟨g,0,none⟩) n b) z/\w.grownBy wx (some g)) λ_ i _=>M-(intOf i).toNat
   case atStart=>exact⟨1,k,l,Nat.le_refl _,by omega,rfl,rfl,Ar (by rw[A.out,U.out]),Nat.le_refl _,y,Ar (by rw[A.out,T.out]),Ar λx _ _=>rfl,HO.out,HG.out⟩
   clear HO HG;obtain⟨p,c,z,bl,bm,rfl,rfl,Y,b9,B,D,E,q,F⟩:=hrel;by_cases bp:p<M
   .obtain⟨r,hr⟩:∃r,p-1=r:=⟨_,rfl⟩
    let⟨J,K,_,_⟩:=q.cells B.out (show k+p<n by omega);let⟨H,I,_,_⟩:=q.cells B.out (show k+r<n by omega);let⟨d5,d6,f5,f6⟩:=q.cells B.out (show c<n by omega);rw[E.out _ (by omega) (by omega),Nat.add_mul]at J K;rw[E.out _ (by omega) (by omega),Nat.add_mul]at H I;have L:IntKind.i64.wrap ((p:Int)-1)=(r:Int):=(Fm _ (by omega) (by omega)).trans (by omega);have bq:(r:Int)<(M:Int):=by omega
    have Z:(c:Int)<(n:Int):=by omega
    have a6:¬M=0:=by omega
    by_cases a:eqS ((gt l (k+p)).1,(gt l (k+p)).2) ((gt l (k+r)).1,(gt l (k+r)).2)=true
    .have v:=Ar (Nt (eq:=eqS) (l:=l) (d:=((0:Int),(0:Int))) (k:=k+p) (by omega) (by rw[show k+p-1=k+r by omega];exact a));go_wp2;go_quiet (fail);clear J K H I L;go_wp2;exact⟨⟨p+1,c,z,by omega,by omega,by go_num,rfl,Ar (by rw[<-Nat.add_assoc,v.out];exact Y.out),by omega,B,Ar (by rw[<-Nat.add_assoc,v.out];exact D.out),Ar λx h1 S=>E.out x (by omega) S,OwS.drewN q _,Gb.drewN F _⟩,by simp[intOf];omega⟩
    have f:eqS ((gt l (k+p)).1,(gt l (k+p)).2) ((gt l (k+r)).1,(gt l (k+r)).2)=false:=by simpa using a
    clear a;have v:=Ar (Wx (eq:=eqS) (l:=l) (d:=((0:Int),(0:Int))) (k:=k+p) (by rw[show k+p-1=k+r by omega];exact f));go_wp2;go_quiet (fail);clear H I L;go_wp2;refine⟨⟨p+1,c+1,z.set c (gt l (k+p)),by omega,by omega,by go_num,by go_num,Ar (by rw[<-Nat.add_assoc,v.out,List.length_append,<-Y.out];rfl),by omega,Ar (by rw[List.length_set];exact B.out),Ar ?_,Ar λx h1 S=>?_,OwS.store (OwS.drewN q nq) B.out (by omega) _ _,Gb.set (Gb.set (Gb.drewN F nq) _ _) _ _⟩,by simp[intOf];omega⟩
    .rw[<-Nat.add_assoc,v.out,<-D.out];exact take_set (by rw[B.out];omega)
    rw[Lg (by rw[B.out];omega),if_neg (by omega)];exact E.out x (by omega) S
   obtain rfl:M=p:=by omega
   let⟨W,b0,a7,a1⟩:=OwG.clear (P:=Tryz.prog) (t:=46) (i:=c) Cm Tryz.underlying46 Alr rfl (by intro u hu;simp[Value.cells]at hu;rcases hu with rfl|rfl<;>rfl) (by omega) q B.out (by omega);have b8:¬c=b:=by omega
   have Z:(c:Int)<=(n:Int):=by omega
   go_wp2;go_ret;have e:Eg eqS (0,0) l=z.take c:=by rw[G.out,D.out,<-V.out]
   exact⟨c,rfl,by rw[e,D.out];exact Y.out,by rw[e];exact a7,F.trans a1⟩
  have f:eqS ((gt l k).1,(gt l k).2) ((gt l j).1,(gt l j).2)=false:=by simpa using a
  clear a;go_wp2;go_quiet (fail);clear J K H I L;go_wp2;have A:=Ux (eq:=eqS) (d:=((0:Int),(0:Int))) (k:=k) (by rw[y.out];exact O) T.out (by rw[hj];exact f);exact⟨⟨k+1,by omega,by omega,by go_num,A,OwS.drewN q _,Gb.drewN F _⟩,by simp[intOf];omega⟩
 obtain rfl:n=k:=by omega
 go_wp2;go_ret;have e:Eg eqS (0,0) l=l:=by rw[G.out,T.out,List.take_of_length_le (by rw[y.out];exact Nat.le_refl _)]
 exact⟨n,rfl,by rw[e,y.out],by rw[e];exact q,F⟩
end
theorem Xa(v:Value) (a:Nat) (l:LP) (w:World) (j:l.length<=1000000) (c:OwS w a v l) :
 Calls Tryz.prog 336 #[v] w λe f=>∃d,e=.returned d/\OwS f a d (Eg eqS (0,0) l)/\w.grownBy f v.ownBlock/\d.ownBlock=v.ownBlock:=by
 rcases OwG.form c with⟨rfl,rfl⟩|⟨g,b,rfl,n,o,h,p⟩
 .go_in;go_wp2;go_ret;exact⟨_,rfl,c,World.grownBy.refl _ _,rfl⟩
 refine(U4 g b _ a l w j rfl h c).mono ?_;rintro e f ⟨m,rfl,q,k,i⟩;exact⟨_,rfl,k,i,rfl⟩
theorem gp(w:World):Calls Tryz.prog 334 #[.slice none 0 0] w (Vi w []):=by
 have a:=λ(w:World)=>Lib.run_eql_slice_nil (P:=Tryz.prog) w 46 60 none 0 0 0 0 Tryz.underlying46
 go_in;go_wp2;go_ret;exact⟨_,rfl,OwG.nil,bl0⟩
theorem uk(A:Option Addr) (a n:Nat) (l:LP) (w:World) (f:n<=1000000) (c:SpS w A n l) (g:A=none->a=0) :
 Calls Tryz.prog 334 #[.slice A n a] w (Vi w l):=by
 cases A with
 | some ad=>exact gn ad a n l w f c
 | none =>
   have d:=g rfl
   have b:n=0:=by
    rcases Nat.eq_zero_or_pos n with h|h
    .exact h
    let⟨_,_,e,_⟩:=c.at_ h;cases e
   subst b d;rw[List.eq_nil_of_length_eq_zero c.1];exact gp w
def G2 (l:LP):Option LP :=
 if (Eg eqS (0,0) (Ez l)).length<3 then none
 else if (Pv (Eg eqS (0,0) (Ez l))++Pv (Eg eqS (0,0) (Ez l)).reverse).length<3 then none
 else some (Pv (Eg eqS (0,0) (Ez l))++Pv (Eg eqS (0,0) (Ez l)).reverse)
theorem Aks:∀args w,(callFunc 335 args).run Tryz.prog w=.ok (.enter 335 args) w:=by
 intro args w
 kernel_rfl
theorem Ny(l:LP):(Pv l).length<=l.length:=by
 unfold Pv;rw[List.length_take];exact Nat.le_trans (Nat.min_le_right _ _) (Lo _ _)
theorem Agb{w:World}  {A:Option Addr} {c:Nat}  (d:f.length=i) (h:OwS w b (.slice A i c) f.reverse):SpS w A i f.reverse:=by
 let⟨g,j,e,_,a,_⟩:=h.sps;injection e with e1 e2 e3
 subst e1;rw[List.length_reverse,d]at a;exact a
theorem Agc{i:World}  {d:Value}  (j:OwS a b g f) (l:Be a m) (h:OwS m a.heap.size d o) (c:m.grownBy i g.ownBlock):OwS i a.heap.size d o :=
 OwG.kept h c (by
  cases e4:d.ownBlock with
  | none=>exact .inl rfl
  | some k =>
    refine .inr λe=>?_
    have n:=(OwG.lt h k e4).1;have p:=(OwG.lt j k e.symm).2;omega)
theorem Sj(A:Option Addr) (x n:Nat) (l:LP) (w:World) (hn:n<=400000) (Y:SpS w A n l) (hz:A=none->x=0) :
 Calls Tryz.prog 319 #[.slice A n x] w λe w'=>∃v,e=.returned (.tuple #[v,.bool (G2 l).isSome])/\OwS w' w.heap.size v ((G2 l).getD [])/\Be w w':=by
 let⟨s,i⟩:=gN (Eg eqS (0,0) (Ez l))
 have Z:s.length<=n:=by rw[<-i];unfold Eg;refine Nat.le_trans (Su _) ?_;rw[Gx,Y.1];exact Nat.le_refl _
 have Q:=Ar i;have j:=Ar Y.1;have T:=Ar (show G2 l=if s.length<3 then none else if (Pv s++Pv s.reverse).length<3 then none else some (Pv s++Pv s.reverse) by unfold G2;rw[i]);clear i;go_in
 go_upto_region 4 with (first|(go_at_call 334;refine(uk _ _ _ l _ (by omega) Y hz).mono ?_;rintro e w1 ⟨v1,rfl,q,D⟩)|(go_at_call 129;refine rR (Xz _ Aks (λ_ _ _ _ _=>Ab5 _ _ _ _ _) v1 _ l _ (by rw[j.out];omega) q) λw2⟨r,H⟩=>?_)|(go_at_call 336;refine(Xa v1 _ (Ez l) _ (by rw[Gx,j.out];omega) r).mono ?_;rintro e w3 ⟨v3,rfl,b,I,a1⟩;rw[Q.out]at b))
 have E:=Bk D q H;have g:=Bk E r I;clear D q H E r I a1;obtain⟨A3,c3,rfl,V,y,S⟩:=b.sps;generalize P:s.length=m at y V S b Z ⊢;have t:=Ar P;have a7:(Pv s).length<=m:=by rw[<-P];exact Ny s
 have a8:(Pv s.reverse).length<=m:=Nat.le_trans (Ny s.reverse) (by rw[List.length_reverse,P];exact Nat.le_refl _);clear P;by_cases R:m<3
 .go_wp2
  go_ret2
  have e:G2 l=none:=by rw[T.out,if_pos (by rw[t.out];exact R)]
  exact⟨_,by rw[e];rfl,by rw[e];exact OwG.nil,g⟩
 go_upto_region 9 with (first|(go_at_call 337;refine(Rl _ _ _ s.reverse _ (by omega) (by omega) z).mono ?_;rintro e w6 ⟨v6,rfl,N,c⟩;obtain⟨A6,c6,rfl,W,B,K,-⟩:=N.els)|(go_at_call 337;refine(Rl _ _ _ s _ (by omega) (by omega) y).mono ?_;rintro e w4 ⟨v4,rfl,L,a⟩)|(go_at_call 324;refine rR (Oh _ w.heap.size s _ (by rw[t.out];omega) (b.keep a)) λw5⟨M,h⟩=>?_;have z:=Agb t.out M;have d:=Agc b a L h)|(at_builtin;refine Et rfl _ _ rfl w3.heap.size v4 (Pv s) rfl (d.keep c) A6 _ c6 (Pv s.reverse) rfl B K (by omega) (by have:=a.size;have:=h.size;have:=c.size;omega) ?_;intro v7 w7 O J C))
 have k:=An g a;have F:=Bk k (b.keep a) h;have o:=An F c;have f:=OwG.lower O g.size;have G:=Bk o (OwG.lower (d.keep c) g.size) J;clear B K C J O o F k h a c L d M z N W;obtain⟨A7,c7,rfl,X,U,-⟩:=OwS.sps f;generalize p:(Pv s++Pv s.reverse).length=m7 at X f ⊢;have ad:m7<=m+m:=by rw[<-p,List.length_append];omega
 have u:=Ar p;clear p U;by_cases h7:m7<3
 .go_wp2
  go_ret2
  have e:G2 l=none:=by rw[T.out,if_neg (by rw[t.out];exact R),if_pos (by rw[u.out];exact h7)]
  exact⟨_,by rw[e];rfl,by rw[e];exact OwG.nil,G⟩
 go_wp2
 go_ret2
 have e:G2 l=some (Pv s++Pv s.reverse):=by rw[T.out,if_neg (by rw[t.out];exact R),if_neg (by rw[u.out];exact h7)]
 exact⟨_,by rw[e];rfl,by rw[e];exact f,G⟩
theorem Wp(A:Option Addr) (g n:Nat) (l:LP) (w:World) (t:n<=1000000) (o:SpS w A n l) :
 Calls Tryz.prog 135 #[.slice A n g,.func (.func 320) #[] #[]] w (Bz w (Db (λi=>Cc 4194304 (gt l i)) n)):=by
 go_in;go_wp2;go_loopw [8] (λi wr=>∃k:Nat,k<=n/\i=.int .i64 k/\Hid (Bp (λi=>Cc 4194304 (gt l i)) k=false)/\Be w wr) λi _=>n-(intOf i).toNat
 case atStart=>exact⟨0,Nat.zero_le _,rfl,Bp.zero _,bl0⟩
 obtain⟨k,s,rfl,j,f⟩:=hrel;by_cases a:k<n
 .obtain⟨b,p,rfl,m,h⟩:=o.at_ a;have q:=Aq f (h k a).1;have r:=Aq f (h k a).2;clear h
  go_wp2_with (go_at_call 320;refine rR (Abp _ _ _) λu c=>?_;have d:=An f c;clear c)
  .go_ret;exact⟨Bm (Hf a j.out (by assumption)).symm,d⟩
  go_roundw
  case rel=>exact⟨k+1,by omega,by go_num,Bp.succ j.out (by simpa using ‹_›),d⟩
  case measure=>simp[intOf];omega
 obtain rfl:n=k:=by omega
 go_wp2;go_ret;exact⟨Bm (Fy j.out).symm,f⟩
theorem Da(A:Option Addr) (a n:Nat) (l:LP) (w:World) (c:n<=1000000) (d:SpS w A n l) :
 Calls Tryz.prog 91 #[.slice A n a,.func (.func 320) #[] #[]] w (Bz w (.bool (Bp (λi=>Cc 4194304 (gt l i)) n))):=by
 go_in
 go_wp2_with (go_at_call 135;refine rR (Wp _ _ _ _ _ c d) λf b=>?_)
 go_ret;exact⟨Bn (Hy _ _),b⟩
def Dr (l:LP):Int×LP :=
 if l.length > 160 then (5,[]) else if Bp (λi=>Cc 4194304 (gt l i)) l.length then (3,[]) else match G2 l with|none=>(11,[])|some r=>(0,r)
def Xh (w:World) (r:Int×LP) (e:Ending) (a:World):Prop :=
 ∃v,e=.returned (.tuple #[v,r.1])/\OwS a w.heap.size v r.2/\Be w a
theorem Us(h:G2 f=some o):o.length<=f.length+f.length:=by
 unfold G2 at h;split at h
 .cases h
 split at h
 .cases h
 injection h with h
 subst h;rw[List.length_append];have b:=Ny (Eg eqS (0,0) (Ez f));have a:=Ny (Eg eqS (0,0) (Ez f)).reverse;rw[List.length_reverse]at a;have c:(Eg eqS (0,0) (Ez f)).length<=f.length:=by unfold Eg;refine Nat.le_trans (Su _) ?_;rw[Gx];exact Nat.le_refl _
 omega
theorem Vk(l:LP):(Dr l).2.length<=320:=by
 unfold Dr;split
 .simp
 split
 .simp
 split
 .simp
 rename_i r h;have:=Us h
 show r.length<=320
 omega
theorem Lq(A:Option Addr) (h n:Nat) (l:LP) (w:World) (u:n<=9223372036854775807) (c:SpS w A n l) (o:A=none->h=0) :
 Calls Tryz.prog 318 #[.slice A n h] w (Xh w (Dr l)):=by
 have m:=Ar c.1;by_cases k:n > 160
 .have e:Dr l=(5,[]):=by unfold Dr;rw[if_pos (by rw[c.1];exact k)]
  have b:=Ar e;clear e;go_enter Tryz.func318,Tryz.ntmps318;go_wp2_with fail
  go_ret2
  exact⟨_,by rw[b.out];rfl,by rw[b.out];exact OwG.nil,bl0⟩
 have v:n<=160:=by omega
 clear u;by_cases j:Bp (λi=>Cc 4194304 (gt l i)) n=true
 .have e:Dr l=(3,[]):=by unfold Dr;rw[c.1,if_neg k,if_pos j]
  have b:=Ar e;clear e;go_enter Tryz.func318,Tryz.ntmps318
  go_wp2_with (go_at_call 91;refine rR (Da _ _ _ l _ (by omega) c) λs a=>?_)
  go_ret2
  exact⟨_,by rw[b.out];rfl,by rw[b.out];exact OwG.nil,a⟩
 have t:Bp (λi=>Cc 4194304 (gt l i)) n=false:=by simpa using j
 have e:Dr l=match G2 l with|none=>(11,[])|some r=>(0,r):=by unfold Dr;rw[c.1,if_neg k,if_neg j]
 have b:=Ar e;clear e j;cases hh:G2 l with
 | none =>
   have q:(G2 l).isSome=false:=by rw[hh];rfl
   have g:=Ar hh;clear hh;go_enter Tryz.func318,Tryz.ntmps318
   go_wp2_with (first|(go_at_call 91;refine rR (Da _ _ _ l _ (by omega) c) λs a=>?_)|(go_at_call 319;refine(Sj _ _ _ l _ (by omega) (c.keep a) o).mono ?_;rintro e x ⟨p,rfl,f,d⟩))
   go_ret2
   exact⟨_,by rw[b.out,g.out];rfl,by rw[b.out,g.out];exact OwG.nil,An a d⟩
 | some r =>
   have q:(G2 l).isSome=true:=by rw[hh];rfl
   have g:=Ar hh;clear hh;go_enter Tryz.func318,Tryz.ntmps318
   go_wp2_with (first|(go_at_call 91;refine rR (Da _ _ _ l _ (by omega) c) λs a=>?_)|(go_at_call 319;refine(Sj _ _ _ l _ (by omega) (c.keep a) o).mono ?_;rintro e x ⟨p,rfl,f,d⟩))
   go_ret2
   refine⟨p,by rw[b.out,g.out];rfl,?_,An a d⟩;rw[b.out,g.out];rw[g.out]at f;exact OwG.lower f a.size
def xk (p q:Int×Int):Int×Int:=(wrap64 (p.1+q.1),wrap64 (p.2+q.2))
def Tk (p:Int×Int) (g c0:LP):Nat->LP
 | 0=>c0
 | j+1=>Tk p g c0 j++[xk p (gt g j)]
def Gw (f g:LP):Nat->LP
 | 0=>[]
 | k+1=>Tk (gt f k) g (Gw f g k) g.length
theorem Tj(p:Int×Int) (g c0:LP) (j:Nat):(Tk p g c0 j).length=c0.length+j:=by
 induction j with
 | zero=>rfl
 | succ j ih=>rw[Tk,List.length_append,ih];simp;omega
theorem N9(f g:LP) (k:Nat):(Gw f g k).length=k*g.length:=by
 induction k with
 | zero=>simp[Gw]
 | succ k ih=>rw[Gw,Tj,ih,Nat.add_mul];omega
theorem Bf.grown{w:World}     (d:Bf w b h j) (e:w.grownBy a k) (c:some b≠k):Bf a b h j:=(e.block b d.lt c).trans d
def Nz (a b:LP):Int×LP :=
 if (Dr a).1≠0 then ((Dr a).1,[]) else if (Dr b).1≠0 then ((Dr b).1,[])
 else if Bp (λi=>Cc 4194304 (gt ((G2 (Gw (Dr a).2 (Dr b).2 (Dr a).2.length)).getD []) i)) ((G2 (Gw (Dr a).2 (Dr b).2 (Dr a).2.length)).getD []).length then (3,[])
 else if ((G2 (Gw (Dr a).2 (Dr b).2 (Dr a).2.length)).getD []).length > 160 then (5,[])
 else (0,(G2 (Gw (Dr a).2 (Dr b).2 (Dr a).2.length)).getD [])
theorem vw(A B:Option Addr) (ca cb na nb:Nat) (a b:LP) (w:World) (cz:na<=1000000) (da:nb<=1000000) (H:SpS w A na a) (a8:SpS w B nb b) (I:A=none->ca=0) (ad:B=none->cb=0) :
 Calls Tryz.prog 283 #[.slice A na ca,.slice B nb cb] w (Xh w (Nz a b)):=by
 by_cases h1:(Dr a).1=0
 .by_cases h2:(Dr b).1=0
  .obtain⟨f,hf⟩:∃f,(Dr a).2=f:=⟨_,rfl⟩
   let⟨g,hg⟩:=gN ((Dr b).2)
   have lf:f.length<=320:=by rw[<-hf];exact Vk a
   have lg:g.length<=320:=by rw[<-hg];exact Vk b
   let⟨r,p⟩:=gN ((G2 (Gw f g f.length)).getD [])
   have l:=Ar (show Nz a b=if Bp (λi=>Cc 4194304 (gt r i)) r.length=true then (3,[]) else if r.length > 160 then (5,[]) else (0,r) by unfold Nz;rw[if_neg (by simpa using h1),if_neg (by simpa using h2),hf,hg,p])
   have lr:r.length<=204800:=by
    rw[<-p];cases hh:G2 (Gw f g f.length) with
    | none=>simp
    | some q =>
      have L:=Us hh;rw[N9]at L;have h4:=Nat.mul_le_mul lf lg
      show q.length<=204800
      omega
   have ls:(Gw f g f.length).length<=102400:=by
    rw[N9];have h4:=Nat.mul_le_mul lf lg;omega
   have HF:=Ar hf;have HG:=Ar hg;have HR:=Ar p;clear hf hg p;go_in
   go_upto_region 8 with (go_at_call 318;first|(refine(Lq _ _ _ b _ (by omega) (a8.keep c) ad).mono ?_;rintro e M ⟨v2,rfl,y,m⟩;rw[HG.out]at y)|(refine(Lq _ _ _ a _ (by omega) H I).mono ?_;rintro e w1 ⟨v1,rfl,o,c⟩;rw[HF.out]at o))
   obtain⟨A1,c1,rfl,b6,P,-⟩:=(OwS.sps (OwG.keep o m));obtain⟨A2,c2,rfl,b7,Q,-⟩:=OwS.sps y;have hb:=An c m;clear o y c m;let⟨D,F⟩:=gN f.length
   let⟨J,G⟩:=gN g.length
   rw[F]at P b6 lf ls ⊢;rw[G]at Q b7 lg ⊢;have b1:=Ar F;have N:=Ar G;clear F G;go_wp2;go_loopw [9,34] (λv i wr=>∃k:Nat,k<=D/\i=.int .i64 k/\OwS wr M.heap.size v (Gw f g k)/\Be M wr) λ_ i _=>D-(intOf i).toNat
   case atStart=>exact⟨0,Nat.zero_le _,rfl,OwG.nil,bl0⟩
   obtain⟨k,hk,rfl,x,n⟩:=hrel;by_cases Y:k<D
   .obtain⟨ba,oa,rfl,b5,U⟩:=(P.keep n).at_ Y;let⟨d1,d2⟩:=U k Y;clear U
    have cx:(Gw f g k).length<=102400:=by
     rw[N9,N.out];exact Nat.le_trans (Nat.mul_le_mul (show k<=320 by omega) lg) (by omega)
    go_wp2;clear d1 d2;let⟨K,s⟩:∃K,K=wr.heap.size:=⟨_,rfl⟩
    have O:Bf (wr.alloc (.cells #[(gt f k).1,(gt f k).2] 60)) K 60 #[(gt f k).1,(gt f k).2]:=by rw[s];exact Bf.new _ _ _
    have a7:=OwG.alloc x (.cells #[(gt f k).1,(gt f k).2] 60);have T:=Ao n (.cells #[(gt f k).1,(gt f k).2] 60);have C:u9.ownBlock≠some K:=λh=>by rw[s]at h;exact Nat.lt_irrefl _ (OwG.lt x _ h).2
    rw[<-s];have HB:=Ar O;clear x n b5 O s;go_loopw [9,40] (λv i wx=>∃j:Nat,j<=J/\i=.int .i64 j/\OwS wx M.heap.size v (Tk (gt f k) g (Gw f g k) j)/\Bf wx K 60 #[(gt f k).1,(gt f k).2]/\v.ownBlock≠some K/\Be M wx) λ_ i _=>J-(intOf i).toNat
    case atStart=>exact⟨0,Nat.zero_le _,rfl,a7,HB.out,C,T⟩
    clear a7 HB C T;obtain⟨j,hj,rfl,x,hB,a1,u⟩:=hrel;by_cases W:j<J
    .obtain⟨bb,ob,rfl,cw,U⟩:=(Q.keep u).at_ W;let⟨d1,d2⟩:=U j W;clear U;have d3:=hB.cell 0;have d4:=hB.cell 1;have dl:=hB.lt;simp only[List.getElem?_toArray,List.getElem?_cons_zero,List.getElem?_cons_succ]at d3 d4;have X:(Tk (gt f k) g (Gw f g k) j).length<=1000000:=by rw[Tj];omega
     go_wp2_with (at_builtin;refine Dl rfl _ _ rfl M.heap.size _ (Tk (gt f k) g (Gw f g k) j) rfl (OwG.alloc (OwG.alloc x _) _) (wr.heap.size+1) 1 (xk (gt f k) (gt g j)) 60 rfl (Bf.new2 _ _ _ _) X (Ao (Ao u _) _).size ?_;intro v' w5 bd V S)
     refine⟨⟨j+1,by omega,by go_num,bd,?_,?_,Bk (Ao (Ao u _) _) (OwG.alloc (OwG.alloc x _) _) V⟩,by simp[intOf];omega⟩
     .exact Bf.grown ((hB.alloc _).alloc _) V a1.symm
     rcases S with h|h
     .rw[h];exact a1
     rw[h];intro h';injection h' with h';simp at h';omega
    obtain rfl:J=j:=by omega
    have e9:=Ar (show Gw f g (k+1)=Tk (gt f k) g (Gw f g k) J by simp only[Gw];rw[N.out]);go_wp2;exact⟨⟨k+1,by omega,by go_num,by rw[e9.out];exact x,u⟩,by simp[intOf];omega⟩
   obtain rfl:D=k:=by omega
   obtain⟨A9,c9,rfl,b9,R,bc,-⟩:=OwS.els x;generalize Z:(Gw f g D).length=n9 at b9 R ls ⊢;clear Z x;rw[b1.out]at HR
   go_upto_region 18 with (go_at_call 319;refine(Sj _ _ _ (Gw f g D) _ (by omega) R bc).mono ?_;rintro e w5 ⟨v5,rfl,z,b4⟩;rw[HR.out]at z)
   obtain⟨A5,c5,rfl,b8,t,cy,-⟩:=OwS.els z;generalize a6:r.length=nr at t b8 lr l z ⊢;have cj:=Ar a6;clear a6;have E:=An (An hb n) b4;by_cases L:Bp (λi=>Cc 4194304 (gt r i)) nr=true
   .go_wp2_with (go_at_call 91;refine rR (Da _ _ _ r _ (by omega) t) λw6 d=>?_)
    go_ret2
    rw[if_pos L]at l;exact⟨_,by rw[l.out];rfl,by rw[l.out];exact OwG.nil,An E d⟩
   have cv:Bp (λi=>Cc 4194304 (gt r i)) nr=false:=by simpa using L
   rw[if_neg L]at l;clear L;by_cases h4:nr > 160
   .go_wp2_with (go_at_call 91;refine rR (Da _ _ _ r _ (by omega) t) λw6 d=>?_)
    go_ret2
    rw[if_pos h4]at l;exact⟨_,by rw[l.out];rfl,by rw[l.out];exact OwG.nil,An E d⟩
   go_wp2_with (go_at_call 91;refine rR (Da _ _ _ r _ (by omega) t) λw6 d=>?_)
   go_ret2
   rw[if_neg h4]at l;exact⟨_,by rw[l.out];rfl,by rw[l.out];exact OwG.lower (OwG.keep z d) (Nat.le_trans hb.size n.size),An E d⟩
  have p:=Ar (show Nz a b=((Dr b).1,[]) by unfold Nz;rw[if_neg (by simpa using h1),if_pos h2]);have q2:((Dr b).1 != 0)=true:=by simpa using h2
  go_in
  go_wp2_with (go_at_call 318;first|(refine(Lq _ _ _ b _ (by omega) (a8.keep c) ad).mono ?_;rintro e M ⟨v2,rfl,y,m⟩)|(refine(Lq _ _ _ a _ (by omega) H I).mono ?_;rintro e w1 ⟨v1,rfl,o,c⟩))
  go_ret2
  exact⟨_,by rw[p.out];rfl,by rw[p.out];exact OwG.nil,An c m⟩
 have p:=Ar (show Nz a b=((Dr a).1,[]) by unfold Nz;rw[if_pos h1]);have q2:((Dr a).1 != 0)=true:=by simpa using h1
 go_in
 go_wp2_with (go_at_call 318;refine(Lq _ _ _ a _ (by omega) H I).mono ?_;rintro e w1 ⟨v1,rfl,o,c⟩)
 go_ret2
 exact⟨_,by rw[p.out];rfl,by rw[p.out];exact OwG.nil,c⟩
section
open Go.RowKit Go.Sort
def Hm:LP->LP->Int
 | [],[]=>0
 | [],_::_ => -1
 | _::_,[]=>1
 | a::l,b::m=>if H6 a b != 0 then H6 a b else Hm l m
theorem Pq(p q:Int×Int):H6 p q=0↔p=q:=by
 constructor
 .intro h;have e:=(Sx p q);apply Aij<;>(rw[ltS];unfold G0)
  .have:¬H6 p q<0:=by omega
   rw[Sx]at this;simp;omega
  unfold H6 orI orI orI at h;have c:=Lm p.1 q.1;have d:=Lm p.2 q.2;by_cases a:Ey p.1 q.1=0
  .by_cases b:Ey p.2 q.2=0
   .have:=c.1 a;have:=d.1 b;simp;omega
   rw[a]at h;rw[if_neg (by simp),if_pos (by simpa using b)]at h;omega
  rw[if_pos (by simpa using a)]at h;omega
 rintro rfl;unfold H6 orI orI orI Ey;simp
theorem Pn{l:LP} {k:Nat} (h:k<l.length):l.drop k=gt l k::l.drop (k+1):=by
 rw[List.drop_eq_getElem_cons h];congr 1;unfold gt;simp[h]
theorem GrW.trans{c:World} (h:GrW a m) (f:GrW m c):GrW a c:=by
 obtain⟨q,d,rfl⟩:=h;obtain⟨e,b,rfl⟩:=f
 exact⟨q+e,d++b,by
  show Sort.grow ((Sort.grow (a.drewN q) d).drewN e) b=_
  rw[show (Sort.grow (a.drewN q) d).drewN e=Sort.grow ((a.drewN q).drewN e) d from rfl,Sort.grow_grow]
  congr 1
  simp[World.drewN,Nat.add_assoc]⟩
theorem GrW.drewN{w:World} (h:GrW w a) (n:Nat):GrW w (a.drewN n):=by
 obtain⟨q,b,rfl⟩:=h
 exact⟨q+n,b,by
  show Sort.grow ((w.drewN q).drewN n) b=_
  congr 1
  simp[World.drewN,Nat.add_assoc]⟩
theorem U1(A B:Option Addr) (z C c p:Nat) (a b:LP) (w:World) (F:c<=1000000) (G:p<=1000000) (u:SpS w A c a) (v:SpS w B p b) :
 Calls Tryz.prog 287 #[.slice A c z,.slice B p C,.func (.func 231) #[] #[]] w λe H=>e=.returned (.int .i64 (Hm a b))/\GrW w H:=by
 have r:=Ar u.1;have f:=Ar v.1;go_in;go_wp2;go_loopw [13] (λi wr=>∃k:Nat,k<=c/\k<=p/\i=.int .i64 k/\Hid (Hm a b=Hm (a.drop k) (b.drop k))/\GrW w wr) λi _=>c-(intOf i).toNat
 case atStart=>exact⟨0,Nat.zero_le _,Nat.zero_le _,rfl,Ar rfl,GrW.refl _⟩
 obtain⟨k,P,E,rfl,t,j⟩:=hrel;by_cases n:k<c
 .obtain⟨J,Q,rfl,D,s⟩:=(u.keep j.below).at_ n;let⟨L,M⟩:=s k n;clear s;have o:=Ar (Pn (l:=a) (k:=k) (by rw[r.out];exact n));by_cases d:k<p
  .obtain⟨K,R,rfl,y,s⟩:=(v.keep j.below).at_ d;let⟨N,O⟩:=s k d;clear s;have x:=Ar (Pn (l:=b) (k:=k) (by rw[f.out];exact d));by_cases g:H6 ((gt a k).1,(gt a k).2) ((gt b k).1,(gt b k).2)=0
   .have q:(H6 ((gt a k).1,(gt a k).2) ((gt b k).1,(gt b k).2) != 0)=false:=by rw[g];rfl
    have h:=Ar (show Hm (a.drop k) (b.drop k)=Hm (a.drop (k+1)) (b.drop (k+1)) by rw[o.out,x.out,Hm,if_neg (by rw[show (H6 (gt a k) (gt b k) != 0)=false from q];simp)]);clear g
    go_wp2_with (go_at_call 231;refine rR (Ox _ _ _ _ _) λI m=>?_)
    exact⟨⟨k+1,by omega,by omega,by go_num,Ar (by rw[t.out,h.out]),((j.alloc _).alloc _).trans m⟩,by simp[intOf];omega⟩
   have q:(H6 ((gt a k).1,(gt a k).2) ((gt b k).1,(gt b k).2) != 0)=true:=by simpa using g
   have h:=Ar (show Hm (a.drop k) (b.drop k)=H6 (gt a k) (gt b k) by rw[o.out,x.out,Hm,if_pos (show (H6 (gt a k) (gt b k) != 0)=true from q)]);clear g
   go_wp2_with (go_at_call 231;refine rR (Ox _ _ _ _ _) λI m=>?_)
   go_ret;exact⟨Bm (by rw[t.out,h.out]),((j.alloc _).alloc _).trans m⟩
  go_wp2;go_ret;have h:Hm (a.drop k) (b.drop k)=1:=by rw[o.out,List.drop_of_length_le (l:=b) (by rw[f.out];omega)];rfl
  exact⟨Bm (by rw[t.out,h]),j.alloc _⟩
 obtain rfl:c=k:=by omega
 have o:=Ar (show a.drop c=[] from List.drop_of_length_le (by rw[r.out];exact Nat.le_refl _));by_cases d:c<p
 .have x:=Ar (Pn (l:=b) (k:=c) (by rw[f.out];exact d));go_wp2;go_ret;exact⟨Bm (by rw[t.out,o.out,x.out];rfl),j⟩
 go_wp2;go_ret;have h:Hm (a.drop c) (b.drop c)=0:=by rw[o.out,List.drop_of_length_le (l:=b) (by rw[f.out];omega)];rfl
 exact⟨Bm (by rw[t.out,h]),j⟩
theorem bz(A B:Option Addr) (k l i j:Nat) (a b:LP) (w:World) (d:i<=1000000) (f:j<=1000000) (g:SpS w A i a) (h:SpS w B j b) :
 Calls Tryz.prog 286 #[.slice A i k,.slice B j l] w λe m=>e=.returned (.int .i64 (Hm a b))/\GrW w m:=by
 go_in
 go_wp2_with (go_at_call 287;refine rR (U1 _ _ _ _ _ _ a b _ d f g h) λn c=>?_)
 go_ret;exact⟨rfl,c⟩
def eqL (a b:LP):Bool:=decide (a=b)
def Aln (a b:LP) (i:Nat):Bool:=eqS (gt a i) (gt b i)
theorem Akr{a b:LP} (h:a.length≠b.length):eqL a b=false:=by
 unfold eqL;simp;intro e;exact h (by rw[e])
theorem Agm(h:f.length=o.length) (a:Ix (Aln f o) f.length=true):eqL f o=true:=by
 unfold eqL;simp;exact Gn h λk b=>(Ge _ _).1 (Ix.iff.1 a k b)
theorem Akq{k:Nat} (a:Aln f o k=false):eqL f o=false:=by
 unfold eqL;simp;rintro rfl;unfold Aln at a;rw[(Ge _ _).2 rfl]at a;cases a
theorem tc(A B:Option Addr) (C D c o:Nat) (a b:LP) (w:World) (I:c<=1000000) (J:o<=1000000) (m:SpS w A c a) (n:SpS w B o b) :
 Calls Tryz.prog 290 #[.slice A c C,.slice B o D] w λe K=>e=.returned (.bool (eqL a b))/\GrW w K:=by
 have f:=Ar m.1;have g:=Ar n.1;by_cases l:c=o
 .subst l;have F:=Ea;go_in;go_wp2;go_loopw [13] (λi wr=>∃k:Nat,k<=c/\i=.int .i64 k/\Hid (Ix (Aln a b) k=true)/\GrW w wr) (λi _=>c-(intOf i).toNat)
  case atStart=>exact⟨0,Nat.zero_le _,rfl,Ar (Ix.zero _),GrW.refl _⟩
  obtain⟨k,N,rfl,y,h⟩:=hrel;by_cases d:k<c
  .obtain⟨L,O,rfl,E,j⟩:=(m.keep h.below).at_ d;let⟨s,t⟩:=j k d;clear j;obtain⟨M,P,rfl,x,j⟩:=(n.keep h.below).at_ d;let⟨u,v⟩:=j k d;clear j;have G:(k:Int)<(c:Int):=by omega
   have H:¬c=0:=by omega
   by_cases hq:eqS ((gt a k).1,(gt a k).2) ((gt b k).1,(gt b k).2)=true
   .have p:=Ar hq;go_wp2;go_quiet (fail);clear s t u v;go_wp2;exact⟨⟨k+1,by omega,by go_num,Ar (Ix.succ y.out p.out),h.drewN _⟩,by simp[intOf];omega⟩
   have r:eqS ((gt a k).1,(gt a k).2) ((gt b k).1,(gt b k).2)=false:=by simpa using hq
   clear hq;have p:=Ar r;go_wp2;go_quiet (fail);clear s t u v;go_wp2;go_ret;exact⟨Bn (Akq (k:=k) p.out).symm,h.drewN _⟩
  obtain rfl:c=k:=by omega
  go_wp2;go_ret;exact⟨Bn (Agm (by rw[f.out,g.out]) (by rw[f.out];exact y.out)).symm,h⟩
 have q:((c:Int) != (o:Int))=true:=by rw[bne_iff_ne];omega
 have z:=Ar (Akr (a:=a) (b:=b) (by rw[f.out,g.out];exact l));go_in;go_wp2;go_ret;exact⟨Bn z.out.symm,GrW.refl _⟩
theorem l9(A B:Option Addr) (k l i j:Nat) (a b:LP) (w:World) (d:i<=1000000) (f:j<=1000000) (g:SpS w A i a) (h:SpS w B j b) :
 Calls Tryz.prog 289 #[.slice A i k,.slice B j l] w λe m=>e=.returned (.bool (eqL a b))/\GrW w m:=by
 go_in
 go_wp2_with (go_at_call 290;refine rR (tc _ _ _ _ _ _ a b _ d f g h) λn c=>?_)
 go_ret;exact⟨rfl,c⟩
end
section
open Go.RowKit Go.Sort
theorem U6(x y:Int):Ey y x = - Ey x y:=by
 unfold Ey;(repeat split)<;>omega
theorem Zq(p q:Int×Int):H6 p q=if Ey p.1 q.1≠0 then Ey p.1 q.1 else Ey p.2 q.2:=by
 show (if Ey p.1 q.1 != 0 then Ey p.1 q.1 else if Ey p.2 q.2 != 0 then Ey p.2 q.2 else 0)=_
 by_cases h:Ey p.1 q.1=0
 .simp[h];intro a;exact a.symm
 simp[h]
theorem uh(p q:Int×Int):H6 q p = - H6 p q:=by
 rw[Zq,Zq,U6 p.1 q.1,U6 p.2 q.2];by_cases h:Ey p.1 q.1=0
 .rw[if_neg (by simpa using h),if_neg (by simpa using h)]
 rw[if_pos (by omega),if_pos h]
theorem H7:∀a b:LP,Hm b a = - Hm a b
 | [],[]=>rfl
 | [],_::_=>rfl
 | _::_,[]=>rfl
 | x::l,y::m=>by
   rw[Hm,Hm,uh x y,H7 l m];by_cases h:H6 x y=0
   .rw[if_neg (by simpa using h),if_neg (by simpa using h)]
   rw[if_pos (by simpa using h),if_pos (by simpa using h)]
theorem Pr:∀a b:LP,Hm a b=0->a=b
 | [],[],_=>rfl
 | [],_::_,h=>by simp[Hm]at h
 | _::_,[],h=>by simp[Hm]at h
 | x::l,y::m,h=>by
   rw[Hm]at h;by_cases c:H6 x y=0
   .rw[if_neg (by simpa using c)]at h;rw[(Pq x y).1 c,Pr l m h]
   rw[if_pos (by simpa using c)]at h;exact absurd h c
theorem ui(a:LP):Hm a a=0:=by have:=H7 a a;omega
theorem gm(p q r:Int×Int) (a:H6 p q<0) (b:H6 q r<0):H6 p r<0:=by
 rw[Sx]at *;omega
theorem Mo:∀a b c:LP,Hm a b<0->Hm b c<0->Hm a c<0
 | [],[],_,h,_=>by simp[Hm]at h
 | [],_::_,[],_,h=>by simp[Hm]at h
 | [],_::_,_::_,_,_=>by simp[Hm]
 | _::_,[],_,h,_=>by simp[Hm]at h
 | _::_,_::_,[],_,h=>by simp[Hm]at h
 | x::l,y::m,z::n,h1,h2=>by
   rw[Hm]at h1 h2 ⊢;by_cases e:H6 x y=0
   .have:=(Pq x y).1 e;subst this;rw[if_neg (by simpa using e)]at h1;by_cases d:H6 x z=0
    .rw[if_neg (by simpa using d)]at h2 ⊢;exact Mo l m n h1 h2
    rw[if_pos (by simpa using d)]at h2 ⊢;exact h2
   rw[if_pos (by simpa using e)]at h1;by_cases d:H6 y z=0
   .have:=(Pq y z).1 d;subst this;rw[if_pos (by simpa using e)];exact h1
   rw[if_pos (by simpa using d)]at h2;have f:=gm x y z h1 h2;rw[if_pos (by simp;omega)];exact f
theorem x9{c:Type} (f:c->LP):Sort.SWO (ltOf λx y=>Hm (f x) (f y)) where
 irrefl x:=by unfold ltOf;simp[ui]
 trans x y z h1 h2:=by unfold ltOf at *;simp only[decide_eq_true_eq]at *;exact Mo _ _ _ h1 h2
 ntrans x y z h1 h2:=by
  unfold ltOf at *
  simp only[decide_eq_false_iff_not]at *
  intro a;have d:=H7 (f x) (f y);have g:=H7 (f y) (f z);by_cases e:Hm (f x) (f y)=0
  .rw[Pr _ _ e]at a;exact h2 a
  have b:Hm (f y) (f x)<0:=by omega
  exact h2 (Mo _ _ _ b a)
theorem Ann(x y:LP) (a:ltOf Hm x y=false) (b:ltOf Hm y x=false):x=y:=by
 unfold ltOf at *
 simp only[decide_eq_false_iff_not]at *
 have:=H7 x y;exact Pr _ _ (by omega)
def Gy (a:List LP):List LP:=a.mergeSort λx y=>!ltOf Hm y x
theorem Lx(a:List LP):(Gy a).length=a.length:=List.length_mergeSort _
theorem Qs:f∈Gy e↔f∈e:=List.mem_mergeSort
theorem Qd{d:List LP} (n:d.Perm e) (o:∀i j,i<j->j<d.length->ltOf Hm (lt_ d j) (lt_ d i)=false):d=Gy e:=by
 have k:SWO (ltOf Hm):=x9 id;refine List.Perm.eq_of_pairwise (le:=λx y=>(!ltOf Hm y x)=true) ?_ ?_ ?_ (n.trans (List.mergeSort_perm _ _).symm)
 .intro a b _ _ f g;exact Ann a b (by simpa using g) (by simpa using f)
 .rw[List.pairwise_iff_getElem];intro i j m l h;have:=o i j h l;unfold lt_ at this;simp[m,l]at this ⊢;exact this
 exact List.pairwise_mergeSort (λa b c f g=>by
  have:=k.ntrans c b a (by simpa using g) (by simpa using f);simpa using this) (λa b=>by
  unfold ltOf;have:=H7 a b;simp;omega) _
theorem Agn:∀args w,(callFunc 286 args).run Tryz.prog w=.ok (.enter 286 args) w:=by
 intro args w
 kernel_rfl
theorem sj(b:List Value):b.flatMap enV=b:=by
 induction b with
 | nil=>rfl
 | cons a l ih=>rw[List.flatMap_cons,ih];rfl
theorem Ke{d:Type} [Inhabited d] (a:d->Value) (w:World) (g m:Nat) (f:Array d) (c:Array Obj):w.grownBy (sortWorld a w g 0 m f c) (some g):=by
 refine⟨rfl,rfl,rfl,?_,?_⟩
 .show w.heap.size<=((w.heap.modify g _)++c).size
  simp
 intro k h b
 show ((w.heap.modify g _)++c)[k]? = _
 rw[Array.getElem?_append_left (by simpa using h),Array.getElem?_modify,if_neg λe=>b (by rw[e])]
theorem Pm{a:Type} (d:Array a) (n:Nat) (h:d.size=n):d.extract 0 n=d:=by subst h;exact Array.extract_size
theorem Rx{w:World}  {d:List Value} (h:OwG 46 1 enV w b (.slice (some ⟨i,0,none⟩) d.length l) d):∃a,w.heap[i]? = some (.cells a 46 (0,0))/\b<=i/\d.length<=l/\l<=maxLen/\a.size=l*1/\a.toList.take (d.length*1)=d:=by
 obtain⟨q,m⟩:=h;rcases m with⟨e,_⟩|⟨p,k,a,e,n,o,j,f,g,c⟩
 .cases e
 injection e with e1 e2 e3
 injection e1 with e1
 injection e1 with e1
 subst e1 e3;exact⟨a,o,n,j,f,g,by rw[c,sj]⟩
theorem ElS.rowsort{w:World}     (h:ElS w b g f) (d:w.heap[i]? = some (.cells j 46 (0,0))) (hgr:w.grownBy a (some i)):ElS a b g f :=
 h.grown hgr (by
  intro k l m _ c e;injection e with e
  subst e;rw[d]at c;injection c with c
  injection c with _ ht
  exact absurd ht (by decide))
theorem aj(g n d:Nat) (c:List LP) (a:List Value) (w:World) (h0:0<a.length) (hl:a.length<=1000000) (R:∀t∈c,t.length<=1000000)
 (J:OwG 46 1 enV w d (.slice (some ⟨g,0,none⟩) a.length n) a) (E:a.length=c.length) (Y:∀u∈a,u.oneCell'=true) (h4:∀(i:Nat) (u:Value) (l:LP),a[i]? = some u->c[i]? = some l->ElS w d u l) :
 Calls Tryz.prog 285 #[.slice (some ⟨g,0,none⟩) a.length n,.func (.func 286) #[] #[]] w λe W=>e=.returned (.tuple #[])/\Iw W d (.slice (some ⟨g,0,none⟩) a.length n) (Gy c)/\w.grownBy W (some g):=by
 let⟨D,B,K,T,L,M,V⟩:=Rx J;have a6:Inhabited (Fin a.length):=⟨⟨0,h0⟩⟩;have z:∀i:Fin a.length,ElS w d a[i] (lt_ c i):=λi=>h4 i a[i] (lt_ c i) (List.getElem?_eq_getElem i.2) (O7 (by rw[<-E];exact i.2))
 have v:∀i:Fin a.length,(lt_ c i).length<=1000000:=λi=>R _ (I9 (by rw[<-E];exact i.2))
 have o:(Array.ofFn λi:Fin a.length=>i).size=a.length:=by simp
 have N:∀j (b:j<a.length),(Array.ofFn λi:Fin a.length=>i)[j]! = ⟨j,b⟩:=λj b=>by
  rw[getElem!_pos _ j (by simpa using b)];simp
 have F:CmpLays1 Tryz.prog 286 #[] (λi:Fin a.length=>a[i]) (λx y=>Hm (lt_ c x) (lt_ c y)) g 0 (Array.ofFn λi:Fin a.length=>i).size w:=by
  intro m C X b4 x y;let⟨A1,c1,e1,e2,e3,_⟩:=(z x).rowsort B (Ke (λi:Fin a.length=>a[i]) w g m X C);let⟨A2,c2,f1,f2,f3,_⟩:=(z y).rowsort B (Ke (λi:Fin a.length=>a[i]) w g m X C)
  show Calls Tryz.prog 286 #[a[x],a[y]] _ _
  rw[e1,f1];exact bz A1 A2 c1 c2 _ _ (lt_ c x) (lt_ c y) _ (v x) (v y) e3 f3
 have hH:Holds (λi:Fin a.length=>a[i]) w g 0 (Array.ofFn λi:Fin a.length=>i):=by
  intro j b;rw[o]at b;rw[N j b,Nat.zero_add];have c0:=OwG.cells J j (by omega);rw[sj,List.getElem?_eq_getElem b]at c0;exact⟨c0,OwG.frozen J j⟩
 have s:=Any.slices_SortFunc Tryz.laysSS (λi:Fin a.length=>a[i]) (λi=>Y _ (List.getElem_mem i.2)) (λx y=>Hm (lt_ c x) (lt_ c y)) (x9 λi:Fin a.length=>lt_ c i) 286 #[] g 0 n _ w Agn F hH (D9 B) (by rw[o];omega);rw[o]at s;refine s.mono ?_;rintro e W ⟨rfl,f,n',C,hp,hs,rfl⟩;obtain⟨p,_,I⟩:=hp;rw[o]at p
 have U:f.toList.Perm (List.ofFn λi:Fin a.length=>i):=by
  rw[Pm f _ p,Pm _ _ o]at I;simpa using I
 have hgr:=Ke (λi:Fin a.length=>a[i]) w g n' f C
 have S:f.toList.map (λi:Fin a.length=>lt_ c i.1)=Gy c:=by
  refine Qd ?_ ?_
  .have Z:=U.map λi:Fin a.length=>lt_ c i;rw[List.map_ofFn]at Z;refine Z.trans (List.Perm.of_eq ?_);apply List.ext_getElem?;intro j;rcases Nat.lt_or_ge j a.length with b|b
   .rw[List.getElem?_ofFn,dif_pos b,O7 (by rw[<-E];exact b)];rfl
   rw[List.getElem?_eq_none (by simpa using b),List.getElem?_eq_none (by rw[<-E];exact b)]
  intro i j P b;have A:j<f.size:=by simpa using b
  have G:i<f.size:=by omega
  have h6:=hs i j (Nat.zero_le _) P (by rw[<-p];exact A);rw[getElem!_pos _ j A,getElem!_pos _ i G]at h6;unfold lt_;simp[G,A];exact h6
 have O:(sortWorld (λi:Fin a.length=>a[i]) w g 0 n' f C).heap[g]? = some (.cells (Sort.putCells (λi:Fin a.length=>a[i]) 0 f D) 46 (0,0)):=by
  show ((w.heap.modify g (Sort.onCells (Sort.putCells (λi:Fin a.length=>a[i]) 0 f)))++C)[g]? = _
  rw[Array.getElem?_append_left (by simpa using D9 B),Array.getElem?_modify,if_pos rfl,B];rfl
 refine⟨rfl,⟨f.toList.map λi:Fin a.length=>a[i],?_,?_,?_,?_⟩,hgr⟩
 .have q:(f.toList.map λi:Fin a.length=>a[i]).length=a.length:=by simp[p]
  refine⟨?_,.inr ⟨g,n,_,by rw[q],K,O,by rw[q];exact T,L,?_,?_⟩⟩
  .rw[Cz Ss]
  .simp only[Sort.putCells,Array.size_mapIdx];exact M
  rw[sj,q];apply List.ext_getElem?;intro j;rcases Nat.lt_or_ge j a.length with b|b
  .have H:j<f.size:=by omega
   have Q:j<D.size:=by omega
   rw[List.getElem?_take_of_lt (by omega),Array.getElem?_toList];simp only[Sort.putCells,Array.getElem?_mapIdx];rw[Array.getElem?_eq_getElem Q,Option.map_some,if_pos (by omega),Nat.sub_zero,getElem!_pos _ j H];simp[H]
  rw[List.getElem?_eq_none (by rw[List.length_take];omega),List.getElem?_eq_none (by rw[q];exact b)]
 .rw[Lx,<-E];simp[p]
 .intro u r;obtain⟨i,_,rfl⟩:=List.mem_map.1 r;exact Y _ (List.getElem_mem i.2)
 intro i u l r h;rw[<-S]at h;rw[List.getElem?_map]at r h;cases hd:f.toList[i]? with
 | none=>rw[hd]at r;cases r
 | some k =>
   rw[hd]at r h;injection r with r
   injection h with h
   subst r h;exact(z k).rowsort B hgr
theorem kb(v:Value) (a:Nat) (b:List LP) (w:World) (n:b.length<=1000000) (j:∀t∈b,t.length<=1000000) (o:Iw w a v b) :
 Calls Tryz.prog 285 #[v,.func (.func 286) #[] #[]] w λe f=>e=.returned (.tuple #[])/\Iw f a v (Gy b)/\w.grownBy f v.ownBlock:=by
 obtain⟨k,i,d,l,m⟩:=o;rcases OwG.form i with⟨rfl,rfl⟩|⟨g,c,rfl,q,r,s,u⟩
 .have:b=[]:=List.eq_nil_of_length_eq_zero (by rw[<-d];rfl);subst this;refine(AnyF.slices_SortFunc_none (P:=Tryz.prog) (ρ:=Tryz.laysSS_ren) { Tryz.laysSS with } none 0 _ w).mono ?_;rintro e f ⟨rfl,rfl⟩;exact⟨rfl,by rw[show Gy []=[] by simp[Gy]];exact Iw.nil,World.grownBy.refl _ _⟩
 rcases Nat.eq_zero_or_pos k.length with h|h
 .have p:k=[]:=List.eq_nil_of_length_eq_zero h;subst p;have:b=[]:=List.eq_nil_of_length_eq_zero (by rw[<-d];rfl);subst this;refine(AnyF.slices_SortFunc_none (P:=Tryz.prog) (ρ:=Tryz.laysSS_ren) { Tryz.laysSS with } _ c _ w).mono ?_;rintro e f ⟨rfl,rfl⟩;exact⟨rfl,by rw[show Gy []=[] by simp[Gy]];exact⟨[],i,rfl,l,by simp⟩,World.grownBy.refl _ _⟩
 exact aj g c a b k w h (by rw[d];exact n) j i d l m
end
section
open Go.RowKit Go.BigFrame
theorem Gb.below{w:World}  (h:a.grownBy w k) (b:Be w m):a.grownBy m k :=
 h.trans ⟨b.os,b.tape,b.output,b.size,λd c _=>b.block d c⟩
theorem Iw.at_{w:World}   (h:Iw w b (.slice (some ⟨i,0,none⟩) l n) e) (u:e.length=l) {k:Nat} (o:k<l) :
 ∃A c,Cq w i k (.slice A (lt_ e k).length c)/\SpS w A (lt_ e k).length (lt_ e k)/\w.frozen? ⟨i,k,none⟩=false/\i<w.heap.size/\ElS w b (.slice A (lt_ e k).length c) (lt_ e k):=by
 obtain⟨f,j,m,v,s⟩:=h;have d:f.length=l:=by rw[m,u]
 subst d;have a:k<f.length:=o;have c0:=OwG.cells j k (by omega);rw[sj,List.getElem?_eq_getElem a]at c0;have t:=s k f[k] (lt_ e k) (List.getElem?_eq_getElem a) (O7 (by rw[<-m];exact o));obtain⟨A,c,p,q,g,r⟩:=t;rw[p]at c0;exact⟨A,c,c0,g,OwG.frozen j k,Bi c0,⟨A,c,rfl,q,g,r⟩⟩
theorem Iw.store{w:World}   (h:Iw w b (.slice (some ⟨i,0,none⟩) l n) e) (M:e.length=l) {k:Nat} (N:k<l)   (G:ElS w b g f) :
 Iw (w.setCell ⟨i,k,none⟩ g) b (.slice (some ⟨i,0,none⟩) l n) (e.set k f)/\w.grownBy (w.setCell ⟨i,k,none⟩ g) (some i):=by
 obtain⟨s,J,F,K,L⟩:=h;have E:s.length=l:=by rw[F,M]
 subst E;let⟨t,z,u,C,v,y,o⟩:=Rx J;have hgr:w.grownBy (w.setCell ⟨i,k,none⟩ g) (some i):=⟨rfl,rfl,rfl,by simp[World.setCell],λj _ D=>Below.heap_setCell w _ g j λI=>D (by rw[I])⟩;have r:g.oneCell'=true:=by obtain⟨A,c,rfl,_⟩:=G;rfl
 refine⟨⟨s.set k g,?_,by simpa using F,?_,?_⟩,hgr⟩
 .have d:(s.set k g).length=s.length:=by simp
  have B:(w.setCell ⟨i,k,none⟩ g).heap[i]? = some (.cells (t.setIfInBounds k g) 46 (0,0)):=by
   simp[World.setCell,Array.getElem?_modify,z]
  refine⟨by rw[Cz Ss],.inr ⟨i,n,_,by rw[d],u,B,by rw[d];exact C,v,by simpa using y,?_⟩⟩;rw[sj,d];rw[Array.toList_setIfInBounds,List.take_set,o]
 .intro x a;rcases List.mem_or_eq_of_mem_set a with a|rfl
  .exact K x a
  exact r
 intro H x m a p;by_cases q:k=H
 .subst q;rw[List.getElem?_set_self (by omega)]at a;rw[List.getElem?_set_self (by omega)]at p;injection a with a
  injection p with p
  subst a p;exact G.rowsort z hgr
 rw[List.getElem?_set_ne q]at a p;exact(L H x m a p).rowsort z hgr
theorem Iw.clear_{w:World} {g n c i:Nat}  (h:Iw w b (.slice (some ⟨g,0,none⟩) n c) e) (E:e.length=n) (D:i<n) :
 ∃W,(∀H,(Builtin.clear_ #[65] H #[.slice (some ⟨g,i,none⟩) (n-i) (c-i)]).run Tryz.prog w=.ok (.tuple #[]) W)/\Iw W b (.slice (some ⟨g,0,none⟩) i c) (e.take i)/\w.grownBy W (some g):=by
 obtain⟨r,m,o,v,x⟩:=h;have k:r.length=n:=by rw[o,E]
 subst k;let⟨s,C,y,F,A,B,f⟩:=Rx m;let⟨W,q,G,hgr⟩:=OwG.clear (P:=Tryz.prog) (t:=65) (i:=i) (z:=.slice none 0 0) Ss Tryz.underlying65 (λ_=>by kernel_rfl) rfl (by intro u a;simp[Value.cells]at a;subst a;rfl) (by omega) m rfl D;rw[Nat.mul_one]at q;refine⟨W,q,⟨r.take i,G,by rw[List.length_take,List.length_take,o],λu a=>v u (List.mem_of_mem_take a),λj u l a p=>?_⟩,hgr⟩
 have d:j<i:=by
  rcases Nat.lt_or_ge j i with h|h
  .exact h
  rw[List.getElem?_eq_none (by rw[List.length_take];omega)] at a;cases a
 rw[List.getElem?_take_of_lt d]at a p;exact(x j u l a p).rowsort C hgr
theorem Iw.take{w:World}   (h:Iw w b (.slice (some ⟨i,0,none⟩) l n) e) (f:e.length=l):l<=n:=by
 obtain⟨g,c,d,_⟩:=h;have a:g.length=l:=by rw[d,f]
 subst a;exact(Rx c).choose_spec.2.2.1
theorem Yi(A B:Option Addr) (i j c d:Nat) (a b:LP) (w:World) (e:c<=1000000) (f:d<=1000000) (g:SpS w A c a) (h:SpS w B d b) :
 Calls Tryz.prog 289 #[.slice A c i,.slice B d j] w (Bz w (.bool (eqL a b))) :=
 (l9 A B i j c d a b w e f g h).mono λ_ _ ⟨k,l⟩=>⟨k,l.below⟩
theorem ji{c:Nat} {x:LP} (h:c<e.length):(e.set c x).take (c+1)=e.take c++[x]:=by
 rw[List.take_succ_eq_append_getElem (by simpa using h)];simp[List.take_set_of_le]
theorem Ajl{x:LP} (a:b<e.length):lt_ (e.set b x) i=if b=i then x else lt_ e i:=by
 unfold lt_;by_cases h:b=i
 .subst h;simp[a]
 rw[if_neg h,List.getD,List.getD,List.getElem?_set_ne h]
theorem Sw(g q n:Nat) (u:Nat) (l:List LP) (w:World) (hl:n<=1000000) (b1:∀t∈l,t.length<=1000000) (hn:l.length=n) (hs:Iw w u (.slice (some ⟨g,0,none⟩) n q) l) :
 Calls Tryz.prog 288 #[.slice (some ⟨g,0,none⟩) n q,.func (.func 289) #[] #[]] w λe w'=>∃m,e=.returned (.slice (some ⟨g,0,none⟩) m q)/\m=(Eg eqL [] l).length/\Iw w' u (.slice (some ⟨g,0,none⟩) m q) (Eg eqL [] l)/\w.grownBy w' (some g):=by
 have bu:n<=q:=hs.take hn;have F:=Ar hn;have X:=Ar (show Eg eqL [] l=Lr eqL l [] n by unfold Eg;rw[hn]);have G:=Ar (show ∀k,k<n->(lt_ l k).length<=1000000 from λk hk=>b1 _ (I9 (by rw[hn];exact hk)));clear hn b1;by_cases h2:n<2
 .go_enter Tryz.func288,Tryz.ntmps288
  go_wp2_with fail;go_ret
  have e:Eg eqL [] l=l:=by
   rw[X.out];have hn:=F.out;rcases Nat.lt_or_ge n 1 with h|h
   .have h0:n=0:=by omega
    subst h0;rw[List.eq_nil_of_length_eq_zero hn];rfl
   have h0:n=1:=by omega
   subst h0;rw[Nu,<-Nj (by omega),List.take_of_length_le (by omega)]
  exact⟨n,rfl,by rw[e,F.out],by rw[e];exact hs,World.grownBy.refl _ _⟩
 go_enter Tryz.func288,Tryz.ntmps288
 go_wp2_with fail;go_loopw [5] (λi wr=>∃k:Nat,1<=k/\k<=n/\i=.int .i64 k/\Hid (Lr eqL l [] k=l.take k)/\Iw wr u (.slice (some ⟨g,0,none⟩) n q) l/\w.grownBy wr (some g)) λi _=>n-(intOf i).toNat
 case atStart=>exact⟨1,Nat.le_refl _,by omega,rfl,by rw[Nu,<-Nj (by rw[F.out];omega)];exact Ar rfl,hs,World.grownBy.refl _ _⟩
 clear hs;obtain⟨k,cv,hk,rfl,hp,v,S⟩:=hrel;by_cases a1:k<n
 .obtain⟨j,hj⟩:∃j,k-1=j:=⟨_,rfl⟩
  have T:j<n:=by omega
  obtain⟨A1,c1,H,y,_,I,-⟩:=v.at_ F.out a1;obtain⟨A2,c2,Q,s2,_,_,-⟩:=v.at_ F.out T;have l1:=G.out k a1;have l2:=G.out j T;let⟨O,B⟩:=gN ((lt_ l k).length)
  let⟨P,D⟩:=gN ((lt_ l j).length)
  rw[B]at H y l1;rw[D]at Q s2 l2;clear B D;have e1:IntKind.i64.wrap ((k:Int)-1)=(j:Int):=(Fm _ (by omega) (by omega)).trans (by omega);have cu:(j:Int)<(n:Int):=by omega
  have cx:(k:Int)<(n:Int):=by omega
  by_cases o:eqL (lt_ l k) (lt_ l j)=true
  .go_wp2_with fail
   refine Bh wr [(⟨g,k,none⟩,.slice A1 O c1),(⟨g,j,none⟩,.slice A2 P c2)] (by kernel_rfl) (by kernel_rfl) ⟨bl0,by simp only[List.mem_cons,List.not_mem_nil,forall_eq_or_imp,or_false,forall_eq];go_simp⟩ ?_
   repeat
    apply Cx
    .rfl
    .intro U a;have hx:=a.2;simp only[List.mem_cons,List.not_mem_nil,forall_eq_or_imp,or_false,forall_eq]at hx
     go_simp
     first|rfl|exact Bw a (Yi _ _ _ _ _ _ (lt_ l k) (lt_ l j) _ l1 l2 (y.keep a.1) (s2.keep a.1))
    go_simp
   refine wpQuiet_nil ?_;intro U b;have f:=b.1;clear b H Q e1 y s2;have cw:¬k=q:=by omega
   have J:=Ar (Nt (eq:=eqL) (l:=l) (d:=[]) (k:=k) (by omega) (by rw[hj];exact o));have b0:(k:Int)<=(n:Int):=by omega
   go_wp2_with fail;let⟨M,hM⟩:=gN (n-k)
   let⟨C,hC⟩:=gN (q-k)
   rw[hM,hC];have ch:n<=k+M:=by omega
   have cj:k+M<=n:=by omega
   have b7:=Ar (show n=k+M by omega);have cg:M<=C:=by omega
   clear hM hC;have HD:=Ar o;have A:(Lr eqL l [] k).length=k:=by rw[hp.out,List.length_take,F.out];omega
   have b6:=Ar A;have HO:=Ar (v.keep f);have HG:=Ar (Gb.below S f);clear o A v S b0 f I;go_loopw [5,7] (λc i wx=>∃(p c':Nat) (z:List LP),1<=p/\p<=M/\i=.int .i64 p/\c=.int .i64 c'/\Hid (c'=(Lr eqL l [] (k+p)).length)/\c'+1<=k+p/\Hid (z.length=n)/\Hid (z.take c'=Lr eqL l [] (k+p))/\Hid (∀x,k+p<=x+1->x<n->lt_ z x=lt_ l x)/\Iw wx u (.slice (some ⟨g,0,none⟩) n q) z/\w.grownBy wx (some g)) λ_ i _=>M-(intOf i).toNat
   case atStart=>exact⟨1,k,l,Nat.le_refl _,by omega,rfl,rfl,Ar (by rw[J.out,b6.out]),Nat.le_refl _,F,Ar (by rw[J.out,hp.out]),Ar λx _ _=>rfl,HO.out,HG.out⟩
   clear HO HG;obtain⟨p,c,z,cy,cz,rfl,rfl,hc,cn,K,L,N,v,S⟩:=hrel;by_cases da:p<M
   .obtain⟨r,hr⟩:∃r,p-1=r:=⟨_,rfl⟩
    have Y:k+p<n:=by omega
    have Z:k+r<n:=by omega
    have R:c<n:=by omega
    let⟨A1,c1,H,y,_,I,V⟩:=v.at_ K.out Y;obtain⟨A2,c2,Q,s2,_,_,-⟩:=v.at_ K.out Z;obtain⟨A3,c3,d3,_,f3,_,-⟩:=v.at_ K.out R;rw[N.out _ (by omega) Y]at H y V;rw[N.out _ (by omega) Z]at Q s2;have l1:=G.out _ Y;have l2:=G.out _ Z;let⟨O,B⟩:=gN ((lt_ l (k+p)).length)
    let⟨P,D⟩:=gN ((lt_ l (k+r)).length)
    rw[B]at H y l1 V;rw[D]at Q s2 l2;clear B D;have e1:IntKind.i64.wrap ((p:Int)-1)=(r:Int):=(Fm _ (by omega) (by omega)).trans (by omega);have db:(r:Int)<(M:Int):=by omega
    have c5:(p:Int)<(M:Int):=by omega
    have bb:(c:Int)<(n:Int):=by omega
    by_cases o:eqL (lt_ l (k+p)) (lt_ l (k+r))=true
    .have E:=Ar (Nt (eq:=eqL) (l:=l) (d:=[]) (k:=k+p) (by omega) (by rw[show k+p-1=k+r by omega];exact o))
     go_wp2_with fail;refine Bh wr [(⟨g,k+p,none⟩,.slice A1 O c1),(⟨g,k+r,none⟩,.slice A2 P c2)] (by kernel_rfl) (by kernel_rfl) ⟨bl0,by simp only[List.mem_cons,List.not_mem_nil,forall_eq_or_imp,or_false,forall_eq];go_simp⟩ ?_
     repeat
      apply Cx
      .rfl
      .intro U a;have hx:=a.2;simp only[List.mem_cons,List.not_mem_nil,forall_eq_or_imp,or_false,forall_eq]at hx
       go_simp
       first|rfl|exact Bw a (Yi _ _ _ _ _ _ (lt_ l (k+p)) (lt_ l (k+r)) _ l1 l2 (y.keep a.1) (s2.keep a.1))
      go_simp
     refine wpQuiet_nil ?_;intro U b;have f:=b.1;clear b H Q d3 e1 y s2;go_wp2_with fail;exact⟨⟨p+1,c,z,by omega,by omega,by go_num,rfl,Ar (by rw[<-Nat.add_assoc,E.out];exact hc.out),by omega,K,Ar (by rw[<-Nat.add_assoc,E.out];exact L.out),Ar λx h1 h2=>N.out x (by omega) h2,v.keep f,Gb.below S f⟩,by simp[intOf];omega⟩
    have s:eqL (lt_ l (k+p)) (lt_ l (k+r))=false:=by simpa using o
    clear o;have E:=Ar (Wx (eq:=eqL) (l:=l) (d:=[]) (k:=k+p) (by rw[show k+p-1=k+r by omega];exact s))
    go_wp2_with fail;refine Bh wr [(⟨g,k+p,none⟩,.slice A1 O c1),(⟨g,k+r,none⟩,.slice A2 P c2)] (by kernel_rfl) (by kernel_rfl) ⟨bl0,by simp only[List.mem_cons,List.not_mem_nil,forall_eq_or_imp,or_false,forall_eq];go_simp⟩ ?_
    repeat
     apply Cx
     .rfl
     .intro U a;have hx:=a.2;simp only[List.mem_cons,List.not_mem_nil,forall_eq_or_imp,or_false,forall_eq]at hx
      go_simp
      first|rfl|exact Bw a (Yi _ _ _ _ _ _ (lt_ l (k+p)) (lt_ l (k+r)) _ l1 l2 (y.keep a.1) (s2.keep a.1))
     go_simp
    refine wpQuiet_nil ?_;intro U b;have f:=b.1;have ca:=Aq f H;have cb:=Aq f d3;have cd:=(f.frozen (p:=⟨g,c,none⟩) I).trans f3;have bw:g<U.heap.size:=Nat.lt_of_lt_of_le I f.size;let⟨bl,bc⟩:=Iw.store (v.keep f) K.out R (V.keep f);clear b H Q d3 e1 y s2;go_wp2_with fail;refine⟨⟨p+1,c+1,z.set c (lt_ l (k+p)),by omega,by omega,by go_num,by go_num,Ar (by rw[<-Nat.add_assoc,E.out,List.length_append,<-hc.out];rfl),by omega,Ar (by rw[List.length_set];exact K.out),Ar ?_,Ar λx h1 h2=>?_,bl,(Gb.below S f).trans bc⟩,by simp[intOf];omega⟩
    .rw[<-Nat.add_assoc,E.out,<-L.out];exact ji (by rw[K.out];omega)
    rw[Ajl (by rw[K.out];omega),if_neg (by omega)];exact N.out x (by omega) h2
   obtain rfl:M=p:=by omega
   let⟨W,c6,bm,bd⟩:=Iw.clear_ (i:=c) v K.out (by omega);have ck:¬c=q:=by omega
   have bb:(c:Int)<=(n:Int):=by omega
   go_wp2_with fail;go_ret;have e:Eg eqL [] l=z.take c:=by rw[X.out,L.out,<-b7.out]
   exact⟨c,rfl,by rw[e,L.out];exact hc.out,by rw[e];exact bm,S.trans bd⟩
  have s:eqL (lt_ l k) (lt_ l j)=false:=by simpa using o
  clear o;go_wp2_with fail;refine Bh wr [(⟨g,k,none⟩,.slice A1 O c1),(⟨g,j,none⟩,.slice A2 P c2)] (by kernel_rfl) (by kernel_rfl) ⟨bl0,by simp only[List.mem_cons,List.not_mem_nil,forall_eq_or_imp,or_false,forall_eq];go_simp⟩ ?_
  repeat
   apply Cx
   .rfl
   .intro U a;have hx:=a.2;simp only[List.mem_cons,List.not_mem_nil,forall_eq_or_imp,or_false,forall_eq]at hx
    go_simp
    first|rfl|exact Bw a (Yi _ _ _ _ _ _ (lt_ l k) (lt_ l j) _ l1 l2 (y.keep a.1) (s2.keep a.1))
   go_simp
  refine wpQuiet_nil ?_;intro U b;have f:=b.1;clear b H Q e1 y s2;go_wp2_with fail;have J:=Ux (eq:=eqL) (d:=[]) (k:=k) (by rw[F.out];exact a1) hp.out (by rw[hj];exact s);exact⟨⟨k+1,by omega,by omega,by go_num,J,v.keep f,Gb.below S f⟩,by simp[intOf];omega⟩
 obtain rfl:n=k:=by omega
 go_wp2_with fail;go_ret;have e:Eg eqL [] l=l:=by rw[X.out,hp.out,List.take_of_length_le (by rw[F.out];exact Nat.le_refl _)]
 exact⟨n,rfl,by rw[e,F.out],by rw[e];exact v,S⟩
end
end Go.Proofs.YtlogblbfbihleaaGreat
