/- Lean texts of the claim. -/
import Derived.Test.YtpbchbcdgikonaaGreatQ06
import Derived.Test.YtpbchbcdgikonaaGreatQ05
namespace Go.Proofs.YtpbchbcdgikonaaGreat
set_option linter.unusedVariables false
set_option linter.unusedSimpArgs false
set_option maxRecDepth 100000
set_option maxHeartbeats 4000000
open Go.RowKit
section
open Go.RowKit Go.Sort
section
variable {α : Type} [Inhabited α] {e : TypeId} {size : Nat} {enc : α -> List Value} {w : World} {base g cap : Nat}
theorem Yn (henc:∀x,(enc x).length=size) (hs:0<size) (l:List α) {j:Nat} (hj:j<l.length*size):(l.flatMap enc)[j]? = some ((enc (l.toArray[j / size]!))[j % size]!):=by
 have hq:j / size<l.length:=(Nat.div_lt_iff_lt_mul hs).2 hj;have hr:j % size<size:=Nat.mod_lt _ hs;have h1:=Bp henc l (j / size) (j % size) l[j / size] (List.getElem?_eq_getElem hq) hr;rw[Nat.div_add_mod' j size] at h1;rw[h1];have e1:l.toArray[j / size]! = l[j / size]:=by simp[hq]
 rw[e1,List.getElem?_eq_getElem (by rw[henc];exact hr)]
 simp[List.getElem!_eq_getElem?_getD,List.getElem?_eq_getElem (show j % size<(enc l[j / size]).length by rw[henc];exact hr)]
theorem OwG.holdsK (henc:∀x,(enc x).length=size) (hs:0<size) {l:List α} (h:OwG e size enc w base (.slice (some ⟨g,0,none⟩) l.length cap) l):HoldsK enc size w g 0 l.toArray:=by
 intro j hj;rw[size_flatK,List.size_toArray] at hj;rw[get_flatK _ _ _ _ (by rw[List.size_toArray];exact hj),Nat.zero_add]
 exact⟨(h.cells j hj).trans (Yn henc hs l hj),h.frozen j⟩
theorem OwG.sorted (henc:∀x,(enc x).length=size) (hs:0<size) {l:List α} (h:OwG e size enc w base (.slice (some ⟨g,0,none⟩) l.length cap) l) (d:List α) (hd:d.length=l.length) (m:Nat) (os:Array Obj) :
 OwG e size enc (sortWorldK enc size w g 0 m d.toArray os) base (.slice (some ⟨g,0,none⟩) l.length cap) d/\w.grownBy (sortWorldK enc size w g 0 m d.toArray os) (some g):=by
 obtain⟨h1,h2⟩:=h;rcases h2 with ⟨e0,_⟩|⟨g',cap',cur,e0,hb,hg,hnc,hcm,hcs,htake⟩
 ·cases e0
 ·injection e0 with e1 e2 e3
  injection e1 with e1
  injection e1 with e1
  subst e1 e3;have hlt:g<w.heap.size:=Dk hg
  have hh:(sortWorldK enc size w g 0 m d.toArray os).heap[g]? = some (.cells (Sort.putCells id 0 (flatK enc size d.toArray) cur) e (0,0)):=by
   show ((w.heap.modify g (Sort.onCells (Sort.putCells id 0 (flatK enc size d.toArray))))++os)[g]? = _
   rw[Array.getElem?_append_left (by simpa using hlt),Array.getElem?_modify,if_pos rfl,hg]
   rfl
  refine⟨⟨?_,.inr ⟨g,cap,_,by rw[hd],hb,hh,by rw[hd];exact hnc,hcm,?_,?_⟩⟩,⟨rfl,rfl,rfl,?_,?_⟩⟩
  ·rw[Cy henc]
  ·simp only[Sort.putCells,Array.size_mapIdx];exact hcs
  ·apply List.ext_getElem?
   intro j;rcases Nat.lt_or_ge j (d.length*size) with hj|hj
   ·have hjc:j<cur.size:=by
     have:=Nat.mul_le_mul_right size hnc;rw[hcs];rw[hd] at hj;omega
    rw[List.getElem?_take_of_lt hj,Yn henc hs d hj,Array.getElem?_toList];simp only[Sort.putCells,Array.getElem?_mapIdx];rw[Array.getElem?_eq_getElem hjc,Option.map_some,if_pos (by rw[size_flatK,List.size_toArray];omega),Nat.sub_zero,get_flatK _ _ _ _ (by rw[List.size_toArray];exact hj)]
    rfl
   ·rw[List.getElem?_eq_none (by rw[List.length_take];omega),List.getElem?_eq_none (by rw[Cy henc];omega)]
  ·show w.heap.size<=((w.heap.modify g _)++os).size
   simp
  ·intro k hk hne
   show ((w.heap.modify g _)++os)[k]? = _
   rw[Array.getElem?_append_left (by simpa using hk),Array.getElem?_modify,if_neg (fun e=>hne (by rw[e]))]
end
theorem qh (x y:Int):Er x y<0↔x<y:=by
 unfold Er;split
 ·simp[*]
 ·split<;>simp[*]<;>omega
theorem Kx (x y:Int):Er x y=0↔x=y:=by
 unfold Er;split
 ·omega
 ·split<;>omega
theorem Ro (p q:Int×Int):G1 p q<0↔p.1<q.1\/(p.1=q.1/\p.2<q.2):=by
 unfold G1 orI orI orI;have h1:=qh p.1 q.1;have h2:=Kx p.1 q.1;have h3:=qh p.2 q.2;have h4:=Kx p.2 q.2;by_cases e1:Er p.1 q.1=0
 ·rw[e1]
  by_cases e2:Er p.2 q.2=0
  ·rw[e2];simp;omega
  ·rw[if_neg (by simp),if_pos (by simpa using e2)];omega
 ·rw[if_pos (by simpa using e1)];omega
theorem ltS (p q:Int×Int):ltOf G1 p q=Ge p q:=by
 unfold ltOf Ge;rw[Bool.eq_iff_iff];simp[Ro]
theorem Akc:Sort.SWO (ltOf G1) where
 irrefl x:=by rw[ltS];unfold Ge;simp
 trans x y z h1 h2:=by
  rw[ltS] at *;unfold Ge at *;simp at *;omega
 ntrans x y z h1 h2:=by
  rw[ltS] at *;unfold Ge at *;simp at *;omega
theorem Afy (x y:Int×Int) (h1:ltOf G1 x y=false) (h2:ltOf G1 y x=false):x=y:=by
 rw[ltS] at *;unfold Ge at *
 obtain⟨a,b⟩:=x;obtain⟨c,d⟩:=y;simp at *;omega
def Eh (l:List (Int×Int)):List (Int×Int):=l.mergeSort fun x y=>!ltOf G1 y x
theorem F6 (l:List (Int×Int)):(Eh l).length=l.length:=List.length_mergeSort _
theorem Xa (F:Nat) (eg:∀args w,(callFunc F args).run Tryz.prog w=.ok (.enter F args) w) (hF:∀ax ay bx bY w,Calls Tryz.prog F #[.agg #[.int .i64 ax,.int .i64 ay],.agg #[.int .i64 bx,.int .i64 bY]] w fun e w'=>e=.returned (.int .i64 (G1 (ax,ay) (bx,bY)))/\GrW w w')
 (v:Value) (base:Nat) (l:List (Int×Int)) (w:World) (hl:l.length<=1000000) (hs:OwS w base v l) :
 Calls Tryz.prog 131 #[v,.func (.func F) #[] #[]] w fun e w'=>e=.returned (.tuple #[])/\OwS w' base v (Eh l)/\w.grownBy w' v.ownBlock:=by
 rcases OwG.form hs with ⟨rfl,rfl⟩|⟨g,cap,rfl,h1,h2,h3,h4⟩
 ·refine(AnyF.slices_SortFunc_none Tryz.laysS none 0 _ w).mono ?_
  rintro e w' ⟨rfl,rfl⟩;exact⟨rfl,by rw[show Eh []=[] by simp[Eh]];exact hs,World.grownBy.refl _ _⟩
 ·have hcmp:CmpLays Tryz.prog F #[] enS 2 G1 g 0 l.toArray.size w:=by
   intro m os dk hdk x y;exact hF x.1 x.2 y.1 y.2 _
  have hcon:=AnyQ.slices_SortFunc_total Tryz.laysS 2 Tryz.isAgg49 Tryz.sizeOf49 enS Ci J5 G1 Akc F #[] g 0 cap l.toArray w eg hcmp (OwG.holdsK Ci (by omega) hs) h2 (by rw[List.size_toArray];omega) Afy
  rw[List.size_toArray] at hcon;refine hcon.mono ?_;rintro e w' ⟨rfl,n,os,rfl⟩;have hso:=OwG.sorted Ci (by omega) hs (Eh l) (F6 l) n os
  refine⟨rfl,?_,hso.2⟩;exact hso.1
end
section
theorem OwG.kept {α:Type} {e:TypeId} {size:Nat} {enc:α->List Value} {w w':World} {base:Nat} {v:Value} {l:List α} {row:Option Nat} (h:OwG e size enc w base v l) (hg:w.grownBy w' row) (hne:v.ownBlock=none\/v.ownBlock≠row):OwG e size enc w' base v l :=
 World.ownsRow.kept h hg hne
theorem df {α:Type} {enc:α->List Value} {size:Nat} (henc:∀x,(enc x).length=size) (l:List α) (i:Nat):(l.flatMap enc).take (i*size)=(l.take i).flatMap enc:=by
 induction l generalizing i with
 | nil=>simp
 | cons a l ih =>
   cases i with
   | zero=>simp
   | succ i =>
     rw[List.take_succ_cons,List.flatMap_cons,List.flatMap_cons,<-ih,show (i+1)*size=(enc a).length+i*size by rw[henc,Nat.add_mul];omega,List.take_length_add_append]
theorem OwG.clear {α:Type} {P:Program} {e t:TypeId} {size:Nat} {enc:α->List Value} {w:World} {base g n cap i:Nat} {l:List α} {z:Value} (henc:∀x,(enc x).length=size)
 (hu:P.underlying t=some (.slice e)) (hz:∀w,(zeroValue e).run P w=.ok z w) (hzs:z.cells.size=size) (hz1:∀u∈z.cells.toList,u.oneCell'=true) (hs0:0<size)
 (h:OwG e size enc w base (.slice (some ⟨g,0,none⟩) n cap) l) (hl:l.length=n) (hi:i<n) :
 ∃W,(∀ty,(Builtin.clear_ #[t] ty #[.slice (some ⟨g,i*size,none⟩) (n-i) (cap-i)]).run P w=.ok (.tuple #[]) W)/\OwG e size enc W base (.slice (some ⟨g,0,none⟩) i cap) (l.take i)/\w.grownBy W (some g):=by
 subst hl;have htl:(l.take i).length=i:=by rw[List.length_take];omega
 obtain⟨h1,h2⟩:=h;rcases h2 with ⟨e0,_⟩|⟨g',cap',A,e0,hb,hg,hnc,hcm,hcs,htake⟩
 ·cases e0
 ·injection e0 with e1 e2 e3
  injection e1 with e1
  injection e1 with e1
  subst e1 e3;obtain⟨zs,hzc⟩:∃zs:List Value,(Builtin.zeroCells z.cells (l.length-i)).toList=zs:=⟨_,rfl⟩
  have hzl:zs.length=(l.length-i)*size:=by
   rw[<-hzc];simp[Builtin.zeroCells,hzs]
  have hone:∀u∈zs,u.oneCell'=true:=by
   intro u hu;rw[<-hzc,Builtin.zeroCells,Array.toList_map] at hu;obtain⟨j,_,rfl⟩:=List.mem_map.1 hu;have hj:j % z.cells.size<z.cells.size:=Nat.mod_lt _ (by rw[hzs];exact hs0)
   apply hz1;rw[getElem!_pos z.cells _ hj];simp
  have hfit:i*size+zs.length<=A.size:=by
   rw[hzl,hcs,<-Nat.add_mul];exact Nat.mul_le_mul_right _ (by omega)
  have hst:=run_storeCells_at P g (i*size) e zs 0 A w hg (by simpa using hfit) hone
  rw[Nat.add_zero] at hst;obtain⟨m,hm⟩:∃m,l.length-i=m+1:=⟨l.length-i-1,by omega⟩
  have hrun:∀ty,(Builtin.clear_ #[t] ty #[.slice (some ⟨g,i*size,none⟩) (l.length-i) (cap-i)]).run P w=.ok (.tuple #[]) (w.setRow g (A.toList.take (i*size)++zs++A.toList.drop (i*size+zs.length)).toArray):=by
   intro ty;rw[hm] at hzc ⊢;simp[Builtin.clear_,run_underlying hu,hz,hzc,hst]
  refine⟨_,hrun,⟨?_,.inr ⟨g,cap,_,by rw[htl],hb,setRow_heap w g A _ _ _ hg,by rw[htl];omega,hcm,?_,?_⟩⟩,⟨rfl,rfl,rfl,by simp[World.setRow],fun k _ hne=>setRow_other w g k _ (fun e=>hne (by rw[e]))⟩⟩
  ·rw[Cy henc]
  ·rw[List.size_toArray,List.length_append,List.length_append,List.length_take,List.length_drop,Array.length_toList,hcs]
   rw[hcs] at hfit;omega
  ·have hA:i*size<=A.toList.length:=by rw[Array.length_toList];omega
   have hlt:(A.toList.take (i*size)).length=i*size:=by rw[List.length_take];omega
   rw[htl,List.append_assoc];simp only[List.toList_toArray];rw[List.take_append_of_le_length (by rw[hlt];exact Nat.le_refl _),List.take_of_length_le (by rw[hlt];exact Nat.le_refl _),<-df henc,<-htake,List.take_take]
   congr 1
   have:=Nat.mul_le_mul_right size (Nat.le_of_lt hi);omega
section
variable {α : Type}
def Lc (eq:α->α->Bool) (l:List α) (d:α):Nat->List α
 | 0=>[]
 | k+1=>if 0<k/\eq (l.getD k d) (l.getD (k-1) d)=true then Lc eq l d k else Lc eq l d k++[l.getD k d]
def D6 (eq:α->α->Bool) (d:α) (l:List α):List α:=Lc eq l d l.length
variable {eq : α -> α -> Bool} {l : List α} {d : α}
theorem Rl (k:Nat):(Lc eq l d k).length<=k:=by
 induction k with
 | zero=>exact Nat.le_refl _
 | succ k ih =>
   rw[Lc];split
   ·omega
   ·rw[List.length_append];simp;omega
theorem Mz:Lc eq l d 1=[l.getD 0 d]:=by simp[Lc]
theorem My {k:Nat} (h0:0<k) (h:eq (l.getD k d) (l.getD (k-1) d)=true):Lc eq l d (k+1)=Lc eq l d k:=by
 rw[Lc,if_pos ⟨h0,h⟩]
theorem V8 {k:Nat} (h:eq (l.getD k d) (l.getD (k-1) d)=false):Lc eq l d (k+1)=Lc eq l d k++[l.getD k d]:=by
 rw[Lc,if_neg (by rw[h];simp)]
theorem Jj {k:Nat} (h:k<l.length):l.take (k+1)=l.take k++[l.getD k d]:=by
 rw[List.take_succ_eq_append_getElem h];congr 2;simp[h]
theorem Tz {k:Nat} (hk:k<l.length) (hp:Lc eq l d k=l.take k) (h:eq (l.getD k d) (l.getD (k-1) d)=false):Lc eq l d (k+1)=l.take (k+1):=by
 rw[V8 h,hp,Jj hk]
theorem Mr (h:0<l.length):l.take 1=[l.getD 0 d]:=by
 rw[Jj (d:=d) h];simp
end
theorem take_set {l:List (Int×Int)} {c:Nat} {x:Int×Int} (h:c<l.length):(l.set c x).take (c+1)=l.take c++[x]:=by
 rw[List.take_succ_eq_append_getElem (by simpa using h)]
 simp[List.take_set_of_le]
theorem Ai1:∀w,(zeroValue 49).run Tryz.prog w=.ok (.agg #[.int .i64 0,.int .i64 0]) w:=fun _=>by kernel_rfl
theorem Ub (g cap n:Nat) (base:Nat) (l:List (Int×Int)) (w:World) (hl:n<=1000000) (hn:l.length=n) (hcap:n<=cap) (hs:OwS w base (.slice (some ⟨g,0,none⟩) n cap) l) :
 Calls Tryz.prog 245 #[.slice (some ⟨g,0,none⟩) n cap] w fun e w'=>∃m,e=.returned (.slice (some ⟨g,0,none⟩) m cap)/\m=(D6 eqS (0,0) l).length/\OwS w' base (.slice (some ⟨g,0,none⟩) m cap) (D6 eqS (0,0) l)/\w.grownBy w' (some g):=by
 have HN:=Lib.hid hn;have hcw:=Lib.hid (show D6 eqS (0,0) l=Lc eqS l (0,0) n by unfold D6;rw[hn])
 clear hn;by_cases h2:n<2
 ·go_enter Tryz.func245,Tryz.ntmps245
  go_wp2_with fail;go_ret
  have e:D6 eqS (0,0) l=l:=by
   rw[hcw.out];have hn:=HN.out;rcases Nat.lt_or_ge n 1 with h|h
   ·have h0:n=0:=by omega
    subst h0;rw[List.eq_nil_of_length_eq_zero hn];rfl
   ·have h0:n=1:=by omega
    subst h0;rw[Mz,<-Mr (by omega),List.take_of_length_le (by omega)]
  exact⟨n,rfl,by rw[e,HN.out],by rw[e];exact hs,World.grownBy.refl _ _⟩
 ·have heq:=Gw
  go_enter Tryz.func245,Tryz.ntmps245;go_wp2_with fail;go_loopw [3] (fun i wr=>∃k:Nat,1<=k/\k<=n/\i=.int .i64 k/\Hid (Lc eqS l (0,0) k=l.take k)/\OwS wr base (.slice (some ⟨g,0,none⟩) n cap) l/\w.grownBy wr (some g)) (fun i _=>n-(intOf i).toNat)
  case atStart=>exact⟨1,Nat.le_refl _,by omega,rfl,by rw[Mz,<-Mr (by rw[HN.out];omega)];exact Lib.hid rfl,hs,World.grownBy.refl _ _⟩
  case round =>
   clear hs;obtain⟨k,hk1,hk,rfl,hp,ho,hg⟩:=hrel;by_cases hlt:k<n
   ·obtain⟨j,hj⟩:∃j,k-1=j:=⟨_,rfl⟩
    obtain⟨d1,d2,_,_⟩:=ho.cells HN.out hlt;obtain⟨d3,d4,_,_⟩:=ho.cells HN.out (show j<n by omega)
    have e1:IntKind.i64.wrap ((k:Int)-1)=(j:Int):=(Gx _ (by omega) (by omega)).trans (by omega)
    have hjn:(j:Int)<(n:Int):=by omega
    have hk0:¬n=0:=by omega
    by_cases hdup:eqS ((gt l k).1,(gt l k).2) ((gt l j).1,(gt l j).2)=true
    ·go_wp2_with fail
     go_quiet (fail)
     clear d1 d2 d3 d4 e1;have hkc:¬k=cap:=by omega
     have hst:=Lib.hid (My (eq:=eqS) (l:=l) (d:=((0:Int),(0:Int))) (k:=k) (by omega) (by rw[hj];exact hdup))
     have hklt:(k:Int)<=(n:Int):=by omega
     go_wp2_with fail;obtain⟨M,hM⟩:∃M,n-k=M:=⟨_,rfl⟩
     obtain⟨C,hC⟩:∃C,cap-k=C:=⟨_,rfl⟩
     rw[hM,hC];have hM1:n<=k+M:=by omega
     have hM2:k+M<=n:=by omega
     have HM':=Lib.hid (show n=k+M by omega)
     have hC':M<=C:=by omega
     clear hM hC;have HD:=Lib.hid hdup;have hlen0:(Lc eqS l (0,0) k).length=k:=by rw[hp.out,List.length_take,HN.out];omega
     have HL0:=Lib.hid hlen0;have HO:=Lib.hid (OwS.drewN ho nq);have HG:=Lib.hid (Gb.drewN hg nq);clear hdup hlen0 ho hg hklt;go_loopw [3,5] (fun c i wx=>∃(p c':Nat) (z:List (Int×Int)),1<=p/\p<=M/\i=.int .i64 p/\c=.int .i64 c'/\Hid (c'=(Lc eqS l (0,0) (k+p)).length)/\c'+1<=k+p/\Hid (z.length=n)/\Hid (z.take c'=Lc eqS l (0,0) (k+p))/\Hid (∀x,k+p<=x+1->x<n->gt z x=gt l x)/\OwS wx base (.slice (some ⟨g,0,none⟩) n cap) z/\w.grownBy wx (some g)) (fun _ i _=>M-(intOf i).toNat)
     case atStart=>exact⟨1,k,l,Nat.le_refl _,by omega,rfl,rfl,Lib.hid (by rw[hst.out,HL0.out]),Nat.le_refl _,HN,Lib.hid (by rw[hst.out,hp.out]),Lib.hid (fun x _ _=>rfl),HO.out,HG.out⟩
     case round =>
      clear HO HG;obtain⟨p,c,z,hp1,hpM,rfl,rfl,hc,hcl,hz,hzt,hzx,ho,hg⟩:=hrel;by_cases hpl:p<M
      ·obtain⟨r,hr⟩:∃r,p-1=r:=⟨_,rfl⟩
       obtain⟨d1,d2,_,_⟩:=ho.cells hz.out (show k+p<n by omega)
       obtain⟨d3,d4,_,_⟩:=ho.cells hz.out (show k+r<n by omega)
       obtain⟨d5,d6,f5,f6⟩:=ho.cells hz.out (show c<n by omega)
       rw[hzx.out _ (by omega) (by omega),Nat.add_mul] at d1 d2
       rw[hzx.out _ (by omega) (by omega),Nat.add_mul] at d3 d4
       have e1:IntKind.i64.wrap ((p:Int)-1)=(r:Int):=(Gx _ (by omega) (by omega)).trans (by omega)
       have hrM:(r:Int)<(M:Int):=by omega
       have hcn:(c:Int)<(n:Int):=by omega
       have hk0:¬M=0:=by omega
       by_cases hdup:eqS ((gt l (k+p)).1,(gt l (k+p)).2) ((gt l (k+r)).1,(gt l (k+r)).2)=true
       ·have hs2:=Lib.hid (My (eq:=eqS) (l:=l) (d:=((0:Int),(0:Int))) (k:=k+p) (by omega) (by rw[show k+p-1=k+r by omega];exact hdup))
        go_wp2_with fail
        go_quiet (fail)
        clear d1 d2 d3 d4 e1;go_wp2_with fail;exact⟨⟨p+1,c,z,by omega,by omega,by go_num,rfl,Lib.hid (by rw[<-Nat.add_assoc,hs2.out];exact hc.out),by omega,hz,Lib.hid (by rw[<-Nat.add_assoc,hs2.out];exact hzt.out),Lib.hid (fun x h1 h2=>hzx.out x (by omega) h2),OwS.drewN ho _,Gb.drewN hg _⟩,by simp[intOf];omega⟩
       ·have hdup':eqS ((gt l (k+p)).1,(gt l (k+p)).2) ((gt l (k+r)).1,(gt l (k+r)).2)=false:=by simpa using hdup
        clear hdup;have hs2:=Lib.hid (V8 (eq:=eqS) (l:=l) (d:=((0:Int),(0:Int))) (k:=k+p) (by rw[show k+p-1=k+r by omega];exact hdup'))
        go_wp2_with fail
        go_quiet (fail)
        clear d3 d4 e1;go_wp2_with fail;refine⟨⟨p+1,c+1,z.set c (gt l (k+p)),by omega,by omega,by go_num,by go_num,Lib.hid (by rw[<-Nat.add_assoc,hs2.out,List.length_append,<-hc.out];rfl),by omega,Lib.hid (by rw[List.length_set];exact hz.out),Lib.hid ?_,Lib.hid (fun x h1 h2=>?_),OwS.store (OwS.drewN ho nq) hz.out (by omega) _ _,Gb.set (Gb.set (Gb.drewN hg nq) _ _) _ _⟩,by simp[intOf];omega⟩
        ·rw[<-Nat.add_assoc,hs2.out,<-hzt.out]
         exact take_set (by rw[hz.out];omega)
        ·rw[Kq (by rw[hz.out];omega),if_neg (by omega)];exact hzx.out x (by omega) h2
      ·obtain rfl:M=p:=by omega
       obtain⟨W,hrun,hoW,hgW⟩:=OwG.clear (P:=Tryz.prog) (t:=54) (i:=c) Ci Tryz.underlying54 Ai1 rfl (by intro u hu;simp[Value.cells] at hu;rcases hu with rfl|rfl<;>rfl) (by omega) ho hz.out (by omega)
       have hcc:¬c=cap:=by omega
       have hcn:(c:Int)<=(n:Int):=by omega
       go_wp2_with fail;go_ret;have e:D6 eqS (0,0) l=z.take c:=by rw[hcw.out,hzt.out,<-HM'.out]
       exact⟨c,rfl,by rw[e,hzt.out];exact hc.out,by rw[e];exact hoW,hg.trans hgW⟩
    ·have hdup':eqS ((gt l k).1,(gt l k).2) ((gt l j).1,(gt l j).2)=false:=by simpa using hdup
     clear hdup;go_wp2_with fail
     go_quiet (fail)
     clear d1 d2 d3 d4 e1;go_wp2_with fail;have hst:=Tz (eq:=eqS) (d:=((0:Int),(0:Int))) (k:=k) (by rw[HN.out];exact hlt) hp.out (by rw[hj];exact hdup')
     exact⟨⟨k+1,by omega,by omega,by go_num,hst,OwS.drewN ho _,Gb.drewN hg _⟩,by simp[intOf];omega⟩
   ·obtain rfl:n=k:=by omega
    go_wp2_with fail;go_ret;have e:D6 eqS (0,0) l=l:=by rw[hcw.out,hp.out,List.take_of_length_le (by rw[HN.out];exact Nat.le_refl _)]
    exact⟨n,rfl,by rw[e,HN.out],by rw[e];exact ho,hg⟩
end
theorem Wa (v:Value) (base:Nat) (l:List (Int×Int)) (w:World) (hl:l.length<=1000000) (hs:OwS w base v l) :
 Calls Tryz.prog 245 #[v] w fun e w'=>∃v',e=.returned v'/\OwS w' base v' (D6 eqS (0,0) l)/\w.grownBy w' v.ownBlock/\v'.ownBlock=v.ownBlock:=by
 rcases OwG.form hs with ⟨rfl,rfl⟩|⟨g,cap,rfl,h1,h2,h3,h4⟩
 ·go_enter Tryz.func245,Tryz.ntmps245
  go_wp2_with fail;go_ret;exact⟨_,rfl,hs,World.grownBy.refl _ _,rfl⟩
 ·refine(Ub g cap _ base l w hl rfl h3 hs).mono ?_
  rintro e w' ⟨m,rfl,hm,ho,hg⟩;exact⟨_,rfl,ho,hg,rfl⟩
theorem dw (w:World):Calls Tryz.prog 243 #[.slice none 0 0] w (Zk w []):=by
 have heq:=fun (w:World)=>Lib.run_eql_slice_nil (P:=Tryz.prog) w 54 49 none 0 0 0 0 Tryz.underlying54
 go_enter Tryz.func243,Tryz.ntmps243;go_wp2_with fail;go_ret;exact⟨_,rfl,OwG.nil,Below.refl _ _⟩
theorem qi (A:Option Addr) (cap n:Nat) (l:List (Int×Int)) (w:World) (hn:n<=1000000) (hs:SpS w A n l) (hz:A=none->cap=0) :
 Calls Tryz.prog 243 #[.slice A n cap] w (Zk w l):=by
 cases A with
 | some ad=>exact dv ad cap n l w hn hs
 | none =>
   have h0:=hz rfl
   have hn0:n=0:=by
    rcases Nat.eq_zero_or_pos n with h|h
    ·exact h
    ·obtain⟨_,_,e,_⟩:=hs.at_ h;cases e
   subst hn0 h0;rw[List.eq_nil_of_length_eq_zero hs.1];exact dw w
def Gg (l:List (Int×Int)):Option (List (Int×Int)) :=
 if (D6 eqS (0,0) (Eh l)).length<3 then none
 else if (Ot (D6 eqS (0,0) (Eh l))++Ot (D6 eqS (0,0) (Eh l)).reverse).length<3 then none
 else some (Ot (D6 eqS (0,0) (Eh l))++Ot (D6 eqS (0,0) (Eh l)).reverse)
theorem Ahz:∀args w,(callFunc 244 args).run Tryz.prog w=.ok (.enter 244 args) w:=by
 intro args w
 kernel_rfl
theorem M8 (l:List (Int×Int)):(Ot l).length<=l.length:=by
 unfold Ot;rw[List.length_take];exact Nat.le_trans (Nat.min_le_right _ _) (K8 _ _)
theorem Adw {w:World} {base:Nat} {A:Option Addr} {m c:Nat} {s:List (Int×Int)} (hm:s.length=m) (h:OwS w base (.slice A m c) s.reverse):SpS w A m s.reverse:=by
 obtain⟨A',c',e,_,hS,_⟩:=h.sps;injection e with e1 e2 e3
 subst e1;rw[List.length_reverse,hm] at hS;exact hS
theorem Adx {w3 w4 w5:World} {base:Nat} {v3 v4:Value} {l l4:List (Int×Int)} (h3:OwS w3 base v3 l) (hb4:Below w3.heap.size w3 w4) (h4:OwS w4 w3.heap.size v4 l4) (hg5:w4.grownBy w5 v3.ownBlock):OwS w5 w3.heap.size v4 l4 :=
 OwG.kept h4 hg5 (by
  cases e4:v4.ownBlock with
  | none=>exact .inl rfl
  | some k =>
    refine .inr fun e=>?_
    have h1:=(OwG.lt h4 k e4).1;have h2:=(OwG.lt h3 k e.symm).2;omega)
theorem Ra (A:Option Addr) (cap n:Nat) (l:List (Int×Int)) (w:World) (hn:n<=400000) (hs:SpS w A n l) (hz:A=none->cap=0) :
 Calls Tryz.prog 238 #[.slice A n cap] w fun e w'=>∃v,e=.returned (.tuple #[v,.bool (Gg l).isSome])/\OwS w' w.heap.size v ((Gg l).getD [])/\Below w.heap.size w w':=by
 obtain⟨s,hsW⟩:∃s,D6 eqS (0,0) (Eh l)=s:=⟨_,rfl⟩
 have hsl:s.length<=n:=by rw[<-hsW];unfold D6;refine Nat.le_trans (Rl _) ?_;rw[F6,hs.1];exact Nat.le_refl _
 have HSW:=Lib.hid hsW;have HLEN:=Lib.hid hs.1;have hH:=Lib.hid (show Gg l=if s.length<3 then none else if (Ot s++Ot s.reverse).length<3 then none else some (Ot s++Ot s.reverse) by unfold Gg;rw[hsW])
 clear hsW;go_enter Tryz.func238,Tryz.ntmps238
 go_upto_region 4 with (first|(go_at_call 243;refine(qi _ _ _ l _ (by omega) hs hz).mono ?_;rintro e w1 ⟨v1,rfl,ho1,hb1⟩)|(go_at_call 131;refine(Xa _ Ahz (fun _ _ _ _ _=>zz _ _ _ _ _) v1 _ l _ (by rw[HLEN.out];omega) ho1).mono ?_;rintro e w2 ⟨rfl,ho2,hg2⟩)|(go_at_call 245;refine(Wa v1 _ (Eh l) _ (by rw[F6,HLEN.out];omega) ho2).mono ?_;rintro e w3 ⟨v3,rfl,ho3,hg3,hv3⟩;rw[HSW.out] at ho3))
 have hb2:=Bm hb1 ho1 hg2;have hb3:=Bm hb2 ho2 hg3;clear hb1 ho1 hg2 hb2 ho2 hg3 hv3;obtain⟨A3,c3,rfl,hc3,hS3,hA3⟩:=ho3.sps;obtain⟨m,hm⟩:∃m,s.length=m:=⟨_,rfl⟩
 rw[hm] at hS3 hc3 hA3 ho3 hsl ⊢;have HM:=Lib.hid hm;have hbl1:(Ot s).length<=m:=by rw[<-hm];exact M8 s
 have hbl2:(Ot s.reverse).length<=m:=Nat.le_trans (M8 s.reverse) (by rw[List.length_reverse,hm];exact Nat.le_refl _)
 clear hm;by_cases h3:m<3
 ·go_wp2_with fail
  go_ret2
  have e:Gg l=none:=by rw[hH.out,if_pos (by rw[HM.out];exact h3)]
  exact⟨_,by rw[e];rfl,by rw[e];exact OwG.nil,hb3⟩
 ·go_upto_region 9 with (first|(go_at_call 246;refine(Qg _ _ _ s.reverse _ (by omega) (by omega) hS5).mono ?_;rintro e w6 ⟨v6,rfl,ho6,hb6⟩;obtain⟨A6,c6,rfl,hc6,hS6,hn6,-⟩:=ho6.els)|(go_at_call 246;refine(Qg _ _ _ s _ (by omega) (by omega) hS3).mono ?_;rintro e w4 ⟨v4,rfl,ho4,hb4⟩)|(go_at_call 124;refine(Nj _ w.heap.size s _ (by rw[HM.out];omega) (ho3.keep hb4)).mono ?_;rintro e w5 ⟨rfl,ho5,hg5⟩;have hS5:=Adw HM.out ho5;have ho4':=Adx ho3 hb4 ho4 hg5)|(at_builtin;refine Ff rfl _ _ rfl w3.heap.size v4 (Ot s) rfl (ho4'.keep hb6) A6 _ c6 (Ot s.reverse) rfl hS6 hn6 (by omega) (by have:=hb4.size;have:=hg5.size;have:=hb6.size;omega) ?_;intro v7 w7 ho7 hg7 hat7))
  have hb4':=Ao hb3 hb4;have hb5:=Bm hb4' (ho3.keep hb4) hg5;have hb6':=Ao hb5 hb6;have ho7':=OwG.lower ho7 hb3.size;have hb7:=Bm hb6' (OwG.lower (ho4'.keep hb6) hb3.size) hg7;clear hS6 hn6 hat7 hg7 ho7 hb6' hb5 hb4' hg5 hb4 hb6 ho4 ho4' ho5 hS5 ho6 hc6;obtain⟨A7,c7,rfl,hc7,hS7,-⟩:=OwS.sps ho7';obtain⟨m7,hm7⟩:∃m7,(Ot s++Ot s.reverse).length=m7:=⟨_,rfl⟩
  rw[hm7] at hc7 ho7' ⊢;have hm7':m7<=m+m:=by rw[<-hm7,List.length_append];omega
  have HM7:=Lib.hid hm7;clear hm7 hS7;by_cases h7:m7<3
  ·go_wp2_with fail
   go_ret2
   have e:Gg l=none:=by rw[hH.out,if_neg (by rw[HM.out];exact h3),if_pos (by rw[HM7.out];exact h7)]
   exact⟨_,by rw[e];rfl,by rw[e];exact OwG.nil,hb7⟩
  ·go_wp2_with fail
   go_ret2
   have e:Gg l=some (Ot s++Ot s.reverse):=by rw[hH.out,if_neg (by rw[HM.out];exact h3),if_neg (by rw[HM7.out];exact h7)]
   exact⟨_,by rw[e];rfl,by rw[e];exact ho7',hb7⟩
theorem Vs (A:Option Addr) (cap n:Nat) (l:List (Int×Int)) (w:World) (hl:n<=1000000) (hs:SpS w A n l) :
 Calls Tryz.prog 82 #[.slice A n cap,.func (.func 239) #[] #[]] w fun e w'=>e=.returned (.int .i64 (Cx (fun i=>Ce 4194304 (gt l i)) n))/\Below w.heap.size w w':=by
 go_enter Tryz.func82,Tryz.ntmps82;go_wp2_with fail;go_loopw [8] (fun i wr=>∃k:Nat,k<=n/\i=.int .i64 k/\Hid (Bq (fun i=>Ce 4194304 (gt l i)) k=false)/\Below w.heap.size w wr) (fun i _=>n-(intOf i).toNat)
 case atStart=>exact⟨0,Nat.zero_le _,rfl,Bq.zero _,Below.refl _ _⟩
 case round =>
  obtain⟨k,hk,rfl,hp,hb⟩:=hrel;by_cases hlt:k<n
  ·obtain⟨b,off,rfl,hbl,hc⟩:=hs.at_ hlt
   have h1:=Aq hb (hc k hlt).1;have h2:=Aq hb (hc k hlt).2;clear hc
   go_wp2_with (go_at_call 239;refine(zg _ _ _).mono ?_;rintro e w1 ⟨rfl,hb1⟩;have hb2:=Ao hb hb1;clear hb1)
   ·go_ret
    exact⟨Bh (Gv hlt hp.out (by assumption)).symm,hb2⟩
   ·go_roundw
    case rel=>exact⟨k+1,by omega,by go_num,Bq.succ hp.out (by simpa using ‹_›),hb2⟩
    case measure=>simp[intOf];omega
  ·obtain rfl:n=k:=by omega
   go_wp2_with fail;go_ret;exact⟨Bh (Fa hp.out).symm,hb⟩
theorem Cu (A:Option Addr) (cap n:Nat) (l:List (Int×Int)) (w:World) (hl:n<=1000000) (hs:SpS w A n l) :
 Calls Tryz.prog 56 #[.slice A n cap,.func (.func 239) #[] #[]] w fun e w'=>e=.returned (.bool (Bq (fun i=>Ce 4194304 (gt l i)) n))/\Below w.heap.size w w':=by
 go_enter Tryz.func56,Tryz.ntmps56
 go_wp2_with (go_at_call 82;refine(Vs _ _ _ _ _ hl hs).mono ?_;rintro e w1 ⟨rfl,hb1⟩)
 go_ret;exact⟨Bn (Hg _ _),hb1⟩
def Di (l:List (Int×Int)):Int×List (Int×Int) :=
 if l.length > 160 then (5,[]) else if Bq (fun i=>Ce 4194304 (gt l i)) l.length then (3,[]) else match Gg l with|none=>(11,[])|some r=>(0,r)
def Wk (w:World) (r:Int×List (Int×Int)) (e:Ending) (w':World):Prop :=
 ∃v,e=.returned (.tuple #[v,.int .i64 r.1])/\OwS w' w.heap.size v r.2/\Below w.heap.size w w'
theorem Tt {l r:List (Int×Int)} (h:Gg l=some r):r.length<=l.length+l.length:=by
 unfold Gg at h;split at h
 ·cases h
 ·split at h
  ·cases h
  ·injection h with h
   subst h;rw[List.length_append];have h1:=M8 (D6 eqS (0,0) (Eh l));have h2:=M8 (D6 eqS (0,0) (Eh l)).reverse;rw[List.length_reverse] at h2;have h3:(D6 eqS (0,0) (Eh l)).length<=l.length:=by unfold D6;refine Nat.le_trans (Rl _) ?_;rw[F6];exact Nat.le_refl _
   omega
theorem Up (l:List (Int×Int)):(Di l).2.length<=320:=by
 unfold Di;split
 ·simp
 ·split
  ·simp
  ·split
   ·simp
   ·rename_i r h
    have:=Tt h
    show r.length<=320
    omega
theorem La (A:Option Addr) (cap n:Nat) (l:List (Int×Int)) (w:World) (hn:n<=9223372036854775807) (hs:SpS w A n l) (hz:A=none->cap=0) :
 Calls Tryz.prog 237 #[.slice A n cap] w (Wk w (Di l)):=by
 have HLEN:=Lib.hid hs.1;by_cases h1:n > 160
 ·have e:Di l=(5,[]):=by unfold Di;rw[if_pos (by rw[hs.1];exact h1)]
  have HE:=Lib.hid e;clear e;go_enter Tryz.func237,Tryz.ntmps237;go_wp2_with fail
  go_ret2
  exact⟨_,by rw[HE.out];rfl,by rw[HE.out];exact OwG.nil,Below.refl _ _⟩
 ·have hn':n<=160:=by omega
  clear hn;by_cases h2:Bq (fun i=>Ce 4194304 (gt l i)) n=true
  ·have e:Di l=(3,[]):=by unfold Di;rw[hs.1,if_neg h1,if_pos h2]
   have HE:=Lib.hid e;clear e;go_enter Tryz.func237,Tryz.ntmps237
   go_wp2_with (go_at_call 56;refine(Cu _ _ _ l _ (by omega) hs).mono ?_;rintro e w1 ⟨rfl,hb1⟩)
   go_ret2
   exact⟨_,by rw[HE.out];rfl,by rw[HE.out];exact OwG.nil,hb1⟩
  ·have h2':Bq (fun i=>Ce 4194304 (gt l i)) n=false:=by simpa using h2
   have e:Di l=match Gg l with|none=>(11,[])|some r=>(0,r):=by unfold Di;rw[hs.1,if_neg h1,if_neg h2]
   have HE:=Lib.hid e;clear e h2;cases hh:Gg l with
   | none =>
     have q:(Gg l).isSome=false:=by rw[hh];rfl
     have HH:=Lib.hid hh;clear hh;go_enter Tryz.func237,Tryz.ntmps237
     go_wp2_with (first|(go_at_call 56;refine(Cu _ _ _ l _ (by omega) hs).mono ?_;rintro e w1 ⟨rfl,hb1⟩)|(go_at_call 238;refine(Ra _ _ _ l _ (by omega) (hs.keep hb1) hz).mono ?_;rintro e w2 ⟨v2,rfl,ho2,hb2⟩))
     go_ret2
     exact⟨_,by rw[HE.out,HH.out];rfl,by rw[HE.out,HH.out];exact OwG.nil,Ao hb1 hb2⟩
   | some r =>
     have q:(Gg l).isSome=true:=by rw[hh];rfl
     have HH:=Lib.hid hh;clear hh;go_enter Tryz.func237,Tryz.ntmps237
     go_wp2_with (first|(go_at_call 56;refine(Cu _ _ _ l _ (by omega) hs).mono ?_;rintro e w1 ⟨rfl,hb1⟩)|(go_at_call 238;refine(Ra _ _ _ l _ (by omega) (hs.keep hb1) hz).mono ?_;rintro e w2 ⟨v2,rfl,ho2,hb2⟩))
     go_ret2
     refine⟨v2,by rw[HE.out,HH.out];rfl,?_,Ao hb1 hb2⟩
     rw[HE.out,HH.out];rw[HH.out] at ho2;exact OwG.lower ho2 hb1.size
def tp (p q:Int×Int):Int×Int:=(wrap64 (p.1+q.1),wrap64 (p.2+q.2))
def Sg (p:Int×Int) (g c0:List (Int×Int)):Nat->List (Int×Int)
 | 0=>c0
 | j+1=>Sg p g c0 j++[tp p (gt g j)]
def F5 (f g:List (Int×Int)):Nat->List (Int×Int)
 | 0=>[]
 | k+1=>Sg (gt f k) g (F5 f g k) g.length
theorem Sf (p:Int×Int) (g c0:List (Int×Int)) (j:Nat):(Sg p g c0 j).length=c0.length+j:=by
 induction j with
 | zero=>rfl
 | succ j ih=>rw[Sg,List.length_append,ih];simp;omega
theorem Nf (f g:List (Int×Int)) (k:Nat):(F5 f g k).length=k*g.length:=by
 induction k with
 | zero=>simp[F5]
 | succ k ih=>rw[F5,Sf,ih,Nat.add_mul];omega
theorem Bb.grown {w w':World} {g:Nat} {t:TypeId} {cs:Array Value} {row:Option Nat} (h:Bb w g t cs) (hg:w.grownBy w' row) (hne:some g≠row):Bb w' g t cs:=(hg.block g h.lt hne).trans h
def M9 (a b:List (Int×Int)):Int×List (Int×Int) :=
 if (Di a).1≠0 then ((Di a).1,[]) else if (Di b).1≠0 then ((Di b).1,[])
 else if Bq (fun i=>Ce 4194304 (gt ((Gg (F5 (Di a).2 (Di b).2 (Di a).2.length)).getD []) i)) ((Gg (F5 (Di a).2 (Di b).2 (Di a).2.length)).getD []).length then (3,[])
 else if ((Gg (F5 (Di a).2 (Di b).2 (Di a).2.length)).getD []).length > 160 then (5,[])
 else (0,(Gg (F5 (Di a).2 (Di b).2 (Di a).2.length)).getD [])
theorem s8 (A B:Option Addr) (ca cb na nb:Nat) (a b:List (Int×Int)) (w:World) (hna:na<=1000000) (hnb:nb<=1000000) (hsA:SpS w A na a) (hsB:SpS w B nb b) (hzA:A=none->ca=0) (hzB:B=none->cb=0) :
 Calls Tryz.prog 216 #[.slice A na ca,.slice B nb cb] w (Wk w (M9 a b)):=by
 by_cases h1:(Di a).1=0
 ·by_cases h2:(Di b).1=0
  ·obtain⟨f,hf⟩:∃f,(Di a).2=f:=⟨_,rfl⟩
   obtain⟨g,hg⟩:∃g,(Di b).2=g:=⟨_,rfl⟩
   have lf:f.length<=320:=by rw[<-hf];exact Up a
   have lg:g.length<=320:=by rw[<-hg];exact Up b
   obtain⟨r,hr⟩:∃r,(Gg (F5 f g f.length)).getD []=r:=⟨_,rfl⟩
   have hS:=Lib.hid (show M9 a b=if Bq (fun i=>Ce 4194304 (gt r i)) r.length=true then (3,[]) else if r.length > 160 then (5,[]) else (0,r) by unfold M9;rw[if_neg (by simpa using h1),if_neg (by simpa using h2),hf,hg,hr])
   have lr:r.length<=204800:=by
    rw[<-hr];cases hh:Gg (F5 f g f.length) with
    | none=>simp
    | some q =>
      have h3:=Tt hh;rw[Nf] at h3;have h4:=Nat.mul_le_mul lf lg
      show q.length<=204800
      omega
   have ls:(F5 f g f.length).length<=102400:=by
    rw[Nf];have h4:=Nat.mul_le_mul lf lg;omega
   have HF:=Lib.hid hf;have HG:=Lib.hid hg;have HR:=Lib.hid hr;clear hf hg hr;go_enter Tryz.func216,Tryz.ntmps216
   go_upto_region 8 with (go_at_call 237;first|(refine(La _ _ _ b _ (by omega) (hsB.keep hb1) hzB).mono ?_;rintro e w2 ⟨v2,rfl,ho2,hb2⟩;rw[HG.out] at ho2)|(refine(La _ _ _ a _ (by omega) hsA hzA).mono ?_;rintro e w1 ⟨v1,rfl,ho1,hb1⟩;rw[HF.out] at ho1))
   obtain⟨A1,c1,rfl,hc1,hS1,-⟩:=(OwS.sps (OwG.keep ho1 hb2));obtain⟨A2,c2,rfl,hc2,hS2,-⟩:=OwS.sps ho2;have hb:=Ao hb1 hb2;clear ho1 ho2 hb1 hb2;obtain⟨nf,hnf⟩:∃nf,f.length=nf:=⟨_,rfl⟩
   obtain⟨ng,hng⟩:∃ng,g.length=ng:=⟨_,rfl⟩
   rw[hnf] at hS1 hc1 lf ls ⊢;rw[hng] at hS2 hc2 lg ⊢;have HNF:=Lib.hid hnf;have HNG:=Lib.hid hng;clear hnf hng;go_wp2_with fail;go_loopw [9,34] (fun v i wr=>∃k:Nat,k<=nf/\i=.int .i64 k/\OwS wr w2.heap.size v (F5 f g k)/\Below w2.heap.size w2 wr) (fun _ i _=>nf-(intOf i).toNat)
   case atStart=>exact⟨0,Nat.zero_le _,rfl,OwG.nil,Below.refl _ _⟩
   case round =>
    obtain⟨k,hk,rfl,ho,hbr⟩:=hrel;by_cases hlt:k<nf
    ·obtain⟨ba,oa,rfl,hbl,hc⟩:=(hS1.keep hbr).at_ hlt
     obtain⟨d1,d2⟩:=hc k hlt;clear hc
     have hkl:(F5 f g k).length<=102400:=by
      rw[Nf,HNG.out];exact Nat.le_trans (Nat.mul_le_mul (show k<=320 by omega) lg) (by omega)
     go_wp2_with fail;clear d1 d2;obtain⟨B0,hB0⟩:∃B0,B0=wr.heap.size:=⟨_,rfl⟩
     have hBk:Bb (wr.alloc (.cells #[.int .i64 (gt f k).1,.int .i64 (gt f k).2] 49)) B0 49 #[.int .i64 (gt f k).1,.int .i64 (gt f k).2]:=by rw[hB0];exact Bb.new _ _ _
     have hoA:=OwG.alloc ho (.cells #[.int .i64 (gt f k).1,.int .i64 (gt f k).2] 49);have hbA:=An hbr (.cells #[.int .i64 (gt f k).1,.int .i64 (gt f k).2] 49);have hneB:u9.ownBlock≠some B0:=fun h=>by rw[hB0] at h;exact Nat.lt_irrefl _ (OwG.lt ho _ h).2
     rw[<-hB0];have HB:=Lib.hid hBk;clear ho hbr hbl hBk hB0;go_loopw [9,40] (fun v i wx=>∃j:Nat,j<=ng/\i=.int .i64 j/\OwS wx w2.heap.size v (Sg (gt f k) g (F5 f g k) j)/\Bb wx B0 49 #[.int .i64 (gt f k).1,.int .i64 (gt f k).2]/\v.ownBlock≠some B0/\Below w2.heap.size w2 wx) (fun _ i _=>ng-(intOf i).toNat)
     case atStart=>exact⟨0,Nat.zero_le _,rfl,hoA,HB.out,hneB,hbA⟩
     case round =>
      clear hoA HB hneB hbA;obtain⟨j,hj,rfl,ho,hB,hne,hbx⟩:=hrel;by_cases hjn:j<ng
      ·obtain⟨bb,ob,rfl,hbb,hc⟩:=(hS2.keep hbx).at_ hjn
       obtain⟨d1,d2⟩:=hc j hjn;clear hc;have d3:=hB.cell 0;have d4:=hB.cell 1;have dl:=hB.lt;simp only[List.getElem?_toArray,List.getElem?_cons_zero,List.getElem?_cons_succ] at d3 d4;have hlen:(Sg (gt f k) g (F5 f g k) j).length<=1000000:=by rw[Sf];omega
       go_wp2_with (at_builtin;refine Ec rfl _ _ rfl w2.heap.size _ (Sg (gt f k) g (F5 f g k) j) rfl (OwG.alloc (OwG.alloc ho _) _) (wr.heap.size+1) 1 (tp (gt f k) (gt g j)) 49 rfl (Bb.new2 _ _ _ _) hlen (An (An hbx _) _).size ?_;intro v' w5 ho' hg' hat')
       refine⟨⟨j+1,by omega,by go_num,ho',?_,?_,Bm (An (An hbx _) _) (OwG.alloc (OwG.alloc ho _) _) hg'⟩,by simp[intOf];omega⟩
       ·exact Bb.grown ((hB.alloc _).alloc _) hg' hne.symm
       ·rcases hat' with h|h
        ·rw[h];exact hne
        ·rw[h];intro h';injection h' with h';simp at h';omega
      ·obtain rfl:ng=j:=by omega
       have e9:=Lib.hid (show F5 f g (k+1)=Sg (gt f k) g (F5 f g k) ng by simp only[F5];rw[HNG.out])
       go_wp2_with fail;exact⟨⟨k+1,by omega,by go_num,by rw[e9.out];exact ho,hbx⟩,by simp[intOf];omega⟩
    ·obtain rfl:nf=k:=by omega
     obtain⟨A9,c9,rfl,hc9,hS9,hn9,-⟩:=OwS.els ho;obtain⟨n9,hn9'⟩:∃n9,(F5 f g nf).length=n9:=⟨_,rfl⟩
     rw[hn9'] at hc9 hS9 ls ⊢;clear hn9' ho;rw[HNF.out] at HR
     go_upto_region 18 with (go_at_call 238;refine(Ra _ _ _ (F5 f g nf) _ (by omega) hS9 hn9).mono ?_;rintro e w5 ⟨v5,rfl,ho5,hb5⟩;rw[HR.out] at ho5)
     obtain⟨A5,c5,rfl,hc5,hS5,hn5,-⟩:=OwS.els ho5;obtain⟨nr,hnr⟩:∃nr,r.length=nr:=⟨_,rfl⟩
     rw[hnr] at hS5 hc5 lr hS ho5 ⊢;have HNR:=Lib.hid hnr;clear hnr;have hbw:=Ao (Ao hb hbr) hb5;by_cases h3:Bq (fun i=>Ce 4194304 (gt r i)) nr=true
     ·go_wp2_with (go_at_call 56;refine(Cu _ _ _ r _ (by omega) hS5).mono ?_;rintro e w6 ⟨rfl,hb6⟩)
      go_ret2
      rw[if_pos h3] at hS;exact⟨_,by rw[hS.out];rfl,by rw[hS.out];exact OwG.nil,Ao hbw hb6⟩
     ·have h3':Bq (fun i=>Ce 4194304 (gt r i)) nr=false:=by simpa using h3
      rw[if_neg h3] at hS;clear h3;by_cases h4:nr > 160
      ·go_wp2_with (go_at_call 56;refine(Cu _ _ _ r _ (by omega) hS5).mono ?_;rintro e w6 ⟨rfl,hb6⟩)
       go_ret2
       rw[if_pos h4] at hS;exact⟨_,by rw[hS.out];rfl,by rw[hS.out];exact OwG.nil,Ao hbw hb6⟩
      ·go_wp2_with (go_at_call 56;refine(Cu _ _ _ r _ (by omega) hS5).mono ?_;rintro e w6 ⟨rfl,hb6⟩)
       go_ret2
       rw[if_neg h4] at hS;exact⟨_,by rw[hS.out];rfl,by rw[hS.out];exact OwG.lower (OwG.keep ho5 hb6) (Nat.le_trans hb.size hbr.size),Ao hbw hb6⟩
  ·have hr:=Lib.hid (show M9 a b=((Di b).1,[]) by unfold M9;rw[if_neg (by simpa using h1),if_pos h2])
   have q2:((Di b).1 != 0)=true:=by simpa using h2
   go_enter Tryz.func216,Tryz.ntmps216
   go_wp2_with (go_at_call 237;first|(refine(La _ _ _ b _ (by omega) (hsB.keep hb1) hzB).mono ?_;rintro e w2 ⟨v2,rfl,ho2,hb2⟩)|(refine(La _ _ _ a _ (by omega) hsA hzA).mono ?_;rintro e w1 ⟨v1,rfl,ho1,hb1⟩))
   go_ret2
   exact⟨_,by rw[hr.out];rfl,by rw[hr.out];exact OwG.nil,Ao hb1 hb2⟩
 ·have hr:=Lib.hid (show M9 a b=((Di a).1,[]) by unfold M9;rw[if_pos h1])
  have q2:((Di a).1 != 0)=true:=by simpa using h1
  go_enter Tryz.func216,Tryz.ntmps216
  go_wp2_with (go_at_call 237;refine(La _ _ _ a _ (by omega) hsA hzA).mono ?_;rintro e w1 ⟨v1,rfl,ho1,hb1⟩)
  go_ret2
  exact⟨_,by rw[hr.out];rfl,by rw[hr.out];exact OwG.nil,hb1⟩
end Go.Proofs.YtpbchbcdgikonaaGreat
