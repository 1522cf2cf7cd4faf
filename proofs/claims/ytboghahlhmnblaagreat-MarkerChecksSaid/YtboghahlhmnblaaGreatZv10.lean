/- Lean texts of the claim. -/
import Derived.Test.YtboghahlhmnblaaGreatZv07
import Derived.Test.YtboghahlhmnblaaGreatZv00
namespace Go.Proofs.YtboghahlhmnblaaGreat
set_option linter.all false
set_option maxRecDepth 100000
set_option maxHeartbeats 0
open Go.RowKit Go.Proofs.Tryz
variable{a l p:World}{b h i j:Nat}{c n:Option Addr}{e:List LP}{f k:LP}{g:Value}{m:TypeId}{o:Int}{x:Int}{nb:Nat}{row:Option Nat}{z:Value}{w:World}
section
open Go.RowKit Go.Sort
section
variable {α : Type} [Inhabited α] {e : TypeId} {size : Nat} {enc : α -> List Value} {w : World} {base g cap : Nat}
theorem Zd(henc:∀x,(enc x).length=size)(hs:0<size)(l:List α)(hj:j<l.length*size):(l.flatMap enc)[j]? = some ((enc (l.toArray[j / size]!))[j % size]!):=by
 have hq:j / size<l.length:=(dO hs).2 hj;have hr:j % size<size:=bE _ hs;have h1:=Bu henc l (j / size) (j % size) l[j / size] (aW hq) hr;rw[Nat.div_add_mod' j size] at h1;rw[h1];have e1:l.toArray[j / size]! = l[j / size]:=by simp[hq]
 rw[e1,aW (by rw[henc];exact hr)]
 simp[List.getElem!_eq_getElem?_getD,aW (show j % size<(enc l[j / size]).length by rw[henc];exact hr)]
theorem OwG.holdsK(henc:∀x,(enc x).length=size)(hs:0<size){l:List α}(h:OwG e size enc w base (.slice (some ⟨g,0,none⟩) l.length cap) l):HoldsK enc size w g 0 l.toArray:=by
 intro j hj;rw[size_flatK,List.size_toArray] at hj;rw[get_flatK _ _ _ _ (by rw[List.size_toArray];exact hj),dB]
 exact⟨(h.cells j hj).trans (Zd henc hs l hj),h.frozen j⟩
theorem OwG.sorted(henc:∀x,(enc x).length=size)(hs:0<size){l:List α}(h:OwG e size enc w base (.slice (some ⟨g,0,none⟩) l.length cap) l)(d:List α)(hd:d.length=l.length)(m:Nat)(os:Array Obj):
 OwG e size enc (sortWorldK enc size w g 0 m d.toArray os) base (.slice (some ⟨g,0,none⟩) l.length cap) d/\w.grownBy (sortWorldK enc size w g 0 m d.toArray os) (some g):=by
 obtain⟨h1,h2⟩:=h;rcases h2 with ⟨e0,_⟩|⟨g',cap',cur,e0,hb,hg,hnc,hcm,hcs,htake⟩
 ·cases e0
 ·injection e0 with e1 e2 e3
  injection e1 with e1
  injection e1 with e1
  subst e1 e3;have hlt:g<w.heap.size:=D9 hg
  have hh:(sortWorldK enc size w g 0 m d.toArray os).heap[g]? = some (.cells (Sort.putCells id 0 (flatK enc size d.toArray) cur) e (0,0)):=by
   show ((w.heap.modify g (Sort.onCells (Sort.putCells id 0 (flatK enc size d.toArray))))++os)[g]? = _
   rw[Array.getElem?_append_left (by simpa using hlt),eS,if_pos rfl,hg]
   rfl
  refine⟨⟨?_,.inr ⟨g,cap,_,by rw[hd],hb,hh,by rw[hd];exact hnc,hcm,?_,?_⟩⟩,⟨rfl,rfl,rfl,?_,?_⟩⟩
  ·rw[Cz henc]
  ·simp only[Sort.putCells,Array.size_mapIdx];exact hcs
  ·apply fF
   intro j;rcases bG j (d.length*size) with hj|hj
   ·have hjc:j<cur.size:=by
     have:=bQ size hnc;rw[hcs];rw[hd] at hj;omega
    rw[eK hj,Zd henc hs d hj,Array.getElem?_toList];simp only[Sort.putCells,Array.getElem?_mapIdx];rw[Array.getElem?_eq_getElem hjc,Option.map_some,if_pos (by rw[size_flatK,List.size_toArray];omega),Nat.sub_zero,get_flatK _ _ _ _ (by rw[List.size_toArray];exact hj)]
    rfl
   ·rw[bI (by rw[bC];omega),bI (by rw[Cz henc];omega)]
  ·show w.heap.size<=((w.heap.modify g _)++os).size
   simp
  ·intro k hk hne
   show ((w.heap.modify g _)++os)[k]? = _
   rw[Array.getElem?_append_left (by simpa using hk),eS,if_neg (fun e=>hne (by rw[e]))]
end
theorem uj(x y:Int):Ey x y<0↔x<y:=by
 unfold Ey;split
 .simp[*]
 split<;>simp[*]<;>omega
theorem Lm(x y:Int):Ey x y=0↔x=y:=by
 unfold Ey;split
 .omega
 split<;>omega
theorem Sx(p q:Int×Int):H6 p q<0↔p.1<q.1\/(p.1=q.1/\p.2<q.2):=by
 unfold H6 orI orI orI;have c:=uj p.1 q.1;have d:=Lm p.1 q.1;have e:=uj p.2 q.2;have f:=Lm p.2 q.2;by_cases a:Ey p.1 q.1=0
 .rw[a];by_cases b:Ey p.2 q.2=0
  .rw[b];simp;omega
  rw[if_neg aL,if_pos (by simpa using b)];omega
 rw[if_pos (by simpa using a)];omega
theorem ltS(p q:Int×Int):ltOf H6 p q=G0 p q:=by
 unfold ltOf G0;rw[cZ];simp[Sx]
theorem Ano:Sort.SWO (ltOf H6) where
 irrefl x:=by rw[ltS];unfold G0;simp
 trans x y z h1 h2:=by
  rw[ltS]at *;unfold G0 at *;simp at *;omega
 ntrans x y z h1 h2:=by
  rw[ltS]at *;unfold G0 at *;simp at *;omega
theorem Aij(x y:Int×Int)(e:ltOf H6 x y=false)(f:ltOf H6 y x=false):x=y:=by
 rw[ltS]at *;unfold G0 at *
 obtain⟨a,b⟩:=x;obtain⟨c,d⟩:=y;simp at *;omega
def Ez(l:LP):LP:=l.mergeSort λx y=>!ltOf H6 y x
theorem Gx(l:LP):(Ez l).length=l.length:=List.length_mergeSort _
theorem Xz(s:∀args w,(callFunc b args).run prog w=.ok (.enter b args) w)(u:∀k o q p w,Calls prog b #[.agg #[.int .i64 k,.int .i64 o],.agg #[.int .i64 q,.int .i64 p]] w λe d=>e=.returned (.int .i64 (H6 (k,o) (q,p)))/\GrW w d)
 (v:Value) (a:Nat) (l:List (Int×Int))  (E:l.length<=1000000) (i:OwS w a v l) :
 Calls prog 147 #[v,.func (.func b) #[] #[]] w λe d=>e=.returned (.tuple #[])/\OwS d a v (Ez l)/\w.grownBy d v.ownBlock:=by
 rcases OwG.form i with⟨rfl,rfl⟩|⟨g,j,rfl,B,t,C,D⟩
 .refine(AnyF.slices_SortFunc_none Tryz.laysS none 0 _ w).mono ?_;rintro e d ⟨rfl,rfl⟩;exact⟨rfl,by rw[show Ez []=[] by simp[Ez]];exact i,dA _ _⟩
 have f:CmpLays prog b #[] enS 2 H6 g 0 l.toArray.size w:=by
  intro m r A z x y;exact u x.1 x.2 y.1 y.2 _
 have c:=AnyQ.slices_SortFunc_total Tryz.laysS 2 Tryz.isAgg65 Tryz.sizeOf65 enS Cm Io H6 Ano b #[] g 0 j l.toArray w s f (OwG.holdsK Cm (by omega) i) t (by rw[List.size_toArray];omega) Aij;rw[List.size_toArray]at c;refine c.mono ?_;rintro e d ⟨rfl,n,r,rfl⟩;have h:=OwG.sorted Cm (by omega) i (Ez l) (Gx l) n r;refine⟨rfl,?_,h.2⟩;exact h.1
end
section
open Go.RowKit Go.BigFrame
theorem OwS.take(g:OwS w b (.slice (some ⟨h,0,none⟩) i j) f)(q:f.length=i){k:Nat}(t:k<=i):OwS w b (.slice (some ⟨h,0,none⟩) k j) (f.take k):=by
 subst q;have c:(f.take k).length=k:=by rw[bC];omega
 rcases g.2 with⟨e,_⟩|⟨s,d,a,r,o,p,e,l,m,n⟩
 .cases e
 injection r with e1 e2 e3
 injection e1 with e1
 injection e1 with e1
 subst e1;subst e3;unfold OwS OwG;refine⟨by rw[Cz Cm],.inr ⟨h,j,a,by rw[c],o,p,by rw[c];omega,l,m,?_⟩⟩;rw[c,<-Uw,<-n,List.take_take]
 congr 1
 omega
def Wa(p:Int×Int)(r:LP):LP :=
 if 1<r.length/\Bs (gt r (r.length-2)) (gt r (r.length-1)) p<=0 then Wa p (r.take (r.length-1)) else r
termination_by r.length
decreasing_by rw[bC];omega
def Jh(l:LP):Nat->LP
 | 0=>[]
 | k+1=>Wa (gt l k) (Jh l k)++[gt l k]
def Pv(l:LP):LP:=(Jh l l.length).take ((Jh l l.length).length-1)
theorem zj(p:Int×Int)(r:LP):(Wa p r).length<=r.length:=by
 induction r using Wa.induct p with
 | case1 r h ih=>rw[Wa,if_pos h];refine bB ih ?_;rw[bC];omega
 | case2 r h=>rw[Wa,if_neg h];exact aA
theorem Lo{l:LP}{k:Nat}:(Jh l k).length<=k:=by
 induction k with
 | zero=>exact aA
 | succ k ih=>rw[Jh,bA];have:=zj (gt l k) (Jh l k);simp;omega
theorem zh{p:Int×Int}(d:f.length=b)(a:1<b)(c:Bs (gt f (b-2)) (gt f (b-1)) p<=0):Wa p f=Wa p (f.take (b-1)):=by
 subst d;rw[Wa,if_pos ⟨a,c⟩]
theorem mg{p:Int×Int}(d:f.length=b)(h:¬1<b\/¬Bs (gt f (b-2)) (gt f (b-1)) p<=0):Wa p f=f:=by
 subst d;rw[Wa,if_neg (by rintro⟨a,c⟩;rcases h with h|h;exact h a;exact h c)]
def Ahl:Value->Nat
 | .slice _ n _=>n
 | _=>0
theorem Rl(l:LP)(hs:SpS w c h l)(h0:0<h:=by omega)(hn:h<=1000000:=by omega):Calls prog 378 #[.slice c h b] w (Vi w (Pv l)):=by
 go_enter func378,ntmps378;go_wp2;go_loopw [3,8] (λv i wr=>∃k:Nat,k<=h/\i=.int .i64 k/\OwS wr w.heap.size v (Jh l k)/\Be w wr) λ_ i _=>h-(intOf i).toNat
 case atStart=>exact⟨0,aB,rfl,OwG.nil,bl0⟩
 case round =>
  obtain⟨k,hk,rfl,f,t⟩:=hrel;by_cases A:k<h
  .obtain⟨bb,b9,rfl,L,F⟩:=(hs.keep t).at_ A;let⟨E,h2⟩:=F k A;clear F;go_upto_region 5 with fail;clear E h2 L;let⟨u,s⟩:=gN wr.heap.size
   have y:Bf (wr.alloc (.cells #[(gt l k).1,(gt l k).2] 65)) u 65 #[(gt l k).1,(gt l k).2]:=by rw[<-s];exact Bf.new _ _ _
   rw[s];go_loopw [3] (λv X=>∃r,Wa (gt l k) r=Wa (gt l k) (Jh l k)/\r.length<=k/\OwS X w.heap.size v r/\Bf X u 65 #[(gt l k).1,(gt l k).2]/\Be w X/\v.ownBlock≠some u) λv _=>Ahl v
   case atStart=>exact⟨_,rfl,Lo,f.alloc _,y,Ao t,λY=>by rw[<-s]at Y;exact eH _ (f.lt _ Y).2⟩
   case round =>
    clear f t y s;obtain⟨r,hp,hr,f,J,t,C⟩:=hrel;obtain⟨c,bc,rfl,F,_,Z⟩:=OwG.form2 f;let⟨m,e⟩:=gN r.length
    rw[e]at f F Z hr C ⊢;obtain⟨H,I,-⟩:=J.pair;by_cases E:1<m
    case' pos =>
     obtain⟨g,rfl,O,P⟩:=Z aK;let⟨j,hj⟩:=gN (m-2)
     let⟨i,Q⟩:=gN (m-1)
     have S:j<m:=aK
     have R:i<m:=aK
     let⟨d1,d2,_,_⟩:=f.cells e S;let⟨d3,d4,_,_⟩:=f.cells e R;have q:((1:Int)<(m:Int))=True:=aO
     have e1:IntKind.i64.wrap ((m:Int)-1)=(i:Int):=(Fm _ aK aK).trans aK;have e2:IntKind.i64.wrap ((m:Int)-2)=(j:Int):=(Fm _ aK aK).trans aK;by_cases n:Bs (gt r j) (gt r i) (gt l k)<=0
     case' pos =>
      have qc:(Bs ((gt r j).1,(gt r j).2) ((gt r i).1,(gt r i).2) ((gt l k).1,(gt l k).2)<=0)=True:=by simpa using n
      have V:=Ar (zh (p:=gt l k) e E (by rw[Q,hj];exact n))
     case' neg =>
      have qc:(Bs ((gt r j).1,(gt r j).2) ((gt r i).1,(gt r i).2) ((gt l k).1,(gt l k).2)<=0)=False:=by simpa using n
      have D:=Ar (mg (p:=gt l k) e (.inr (by rw[Q,hj];exact n)))
     all_goals
      go_wp2_with fail;refine Bh wr [(⟨u,0,none⟩,.int .i64 (gt l k).1),(⟨u,1,none⟩,.int .i64 (gt l k).2),(⟨g,j*2,none⟩,.int .i64 (gt r j).1),(⟨g,j*2+1,none⟩,.int .i64 (gt r j).2),(⟨g,i*2,none⟩,.int .i64 (gt r i).1),(⟨g,i*2+1,none⟩,.int .i64 (gt r i).2)] ⟨bl0,aR⟩ ?_
      repeat
       first
       | go_big_quiet_skip
       | go_big_quiet_want
         apply Exists.intro;refine And.intro ?_ ?_
         .intro G o;have W:=o.2;simp only[AC]at W
          go_simp
          first|rfl|exact Bw o (Mp)
         go_simp
         go_big_quiet_on
      refine cH ?_;intro G d;have a:=d.1;clear d q e2 H I d1 d2 d3 d4 qc n
     rotate_left
     .go_wp2_with fail
      refine⟨⟨r.take i,?_,by rw[bC];omega,OwS.take (f.keep a) e aK,J.keep a,An t a,C⟩,by simp[Ahl];omega⟩;rw[<-hp,V.out,Q]
    case' neg =>
     have q:((1:Int)<(m:Int))=False:=aO
     have D:=Ar (mg (p:=gt l k) e (.inl E));go_wp2_with fail;refine Bh wr [(⟨u,0,none⟩,.int .i64 (gt l k).1),(⟨u,1,none⟩,.int .i64 (gt l k).2)] ⟨bl0,aR⟩ ?_
     repeat
      first
      | go_big_quiet_skip
      | go_big_quiet_want
        apply Exists.intro;refine And.intro ?_ ?_
        .intro G o;have W:=o.2;simp only[AC]at W
         go_simp
         first|rfl|exact Bw o (Mp)
        go_simp
        go_big_quiet_on
     refine cH ?_;intro G d;have a:=d.1;clear d q H I
    all_goals
     have z:Jh l (k+1)=r++[gt l k]:=by rw[Jh,<-hp,D.out]
     have HK:=Ar z;have K:=J.keep a;obtain⟨H,I,-⟩:=K.pair;clear z
     go_wp2_with (at_builtin;refine Dl rfl w.heap.size r ((f.keep a).alloc _) G.heap.size 1 (gt l k) 65 (Bf.new _ _ _) aK (Ao (An t a)).size ?_;intro v' w2 U N a1)
     exact⟨⟨k+1,aK,aP,by rw[HK.out];exact U,Bk (Ao (An t a)) ((f.keep a).alloc _) N⟩,aI⟩
  .obtain rfl:h=k:=aK
   obtain⟨A',c',rfl,M,_,x⟩:=OwG.form2 f;let⟨m,e⟩:=gN ((Jh l h).length)
   have T:0<m:=by
    obtain⟨j,rfl⟩:∃j,h=j+1:=⟨h-1,aK⟩
    rw[<-e,Jh,bA];simp
   have b6:m<=h:=by rw[<-e];exact Lo
   rw[e]at f M x ⊢;obtain⟨g,rfl,O,P⟩:=x T;have e1:IntKind.i64.wrap ((m:Int)-1)=((m-1:Nat):Int):=(Fm _ aK aK).trans aK;have HB:=Ar (show Pv l=(Jh l h).take (m-1) by unfold Pv;rw[hs.1,e]);have HM:=Ar e;clear e;go_wp2;go_ret;refine⟨_,rfl,?_,t⟩;rw[HB.out];have ht:=OwS.take f HM.out (k:=m-1) aK;exact ht
end
section
theorem OwG.kept{e:Type}{c:e->List Value}{l:List e}(f:OwG m b c w h g l)(i:w.grownBy a row)(d:g.ownBlock=none\/g.ownBlock≠row):OwG m b c a h g l:=World.ownsRow.kept f i d
theorem fz{e:Type}{c:e->List Value}(d:∀x,(c x).length=b)(l:List e)(i:Nat):(l.flatMap c).take (i*b)=(l.take i).flatMap c:=by
 induction l generalizing i with
 | nil=>simp
 | cons a l ih =>
   cases i with
   | zero=>simp
   | succ i =>
     rw[List.take_succ_cons,cM,cM,<-ih,show (i+1)*b=(c a).length+i*b by rw[d,cN];omega,List.take_length_add_append]
theorem OwG.clear{O:Type}{P:Program}{t:TypeId}{o:O->List Value}{g n a i:Nat}{l:List O}(d:∀x,(o x).length=b)
 (D:P.underlying t=some (.slice m)) (Z:∀w,(zeroValue m).run P w=.ok z w) (C:z.cells.size=b) (J:∀u∈z.cells.toList,u.oneCell'=true) (I:0<b)
 (Q:OwG m b o w h (.slice (some ⟨g,0,none⟩) n a) l) (V:l.length=n) (T:i<n) :
 ∃W,(∀E,(Builtin.clear_ #[t] E #[.slice (some ⟨g,i*b,none⟩) (n-i) (a-i)]).run P w=.ok (.tuple #[]) W)/\OwG m b o W h (.slice (some ⟨g,0,none⟩) i a) (l.take i)/\w.grownBy W (some g):=by
 subst V;have r:(l.take i).length=i:=by rw[bC];omega
 obtain⟨h1,R⟩:=Q;rcases R with⟨F,_⟩|⟨g',L,A,F,S,M,Y,G,p,q⟩
 .cases F
 injection F with e1 e2 e3
 injection e1 with e1
 injection e1 with e1
 subst e1 e3;let⟨f,c⟩:=gN ((Builtin.zeroCells z.cells (l.length-i)).toList:List Value)
 have K:f.length=(l.length-i)*b:=by
  rw[<-c];simp[Builtin.zeroCells,C]
 have v:∀u∈f,u.oneCell'=true:=by
  intro u D;rw[<-c,Builtin.zeroCells,Array.toList_map]at D;obtain⟨j,_,rfl⟩:=List.mem_map.1 D;have U:j % z.cells.size<z.cells.size:=bE _ (by rw[C];exact I);apply J;rw[getElem!_pos z.cells _ U];simp
 have e:i*b+f.length<=A.size:=by
  rw[K,p,<-cN];exact bQ _ (by omega)
 have B:=run_storeCells_at P g (i*b) m f 0 A w M (by simpa using e) v;rw[bU]at B;let⟨N,X⟩:∃N,l.length-i=N+1:=⟨l.length-i-1,by omega⟩
 have y:∀E,(Builtin.clear_ #[t] E #[.slice (some ⟨g,i*b,none⟩) (l.length-i) (a-i)]).run P w=.ok (.tuple #[]) (w.setRow g (A.toList.take (i*b)++f++A.toList.drop (i*b+f.length)).toArray):=by
  intro E;rw[X]at c ⊢;simp[Builtin.clear_,run_underlying D,Z,c,B]
 refine⟨_,y,⟨?_,.inr ⟨g,a,_,by rw[r],S,setRow_heap w g A _ _ _ M,by rw[r];omega,G,?_,?_⟩⟩,⟨rfl,rfl,rfl,by simp[World.setRow],λk _ H=>setRow_other w g k _ λm=>H (by rw[m])⟩⟩
 .rw[Cz d]
 .rw[List.size_toArray,bA,bA,bC,dF,Array.length_toList,p];rw[p]at e;omega
 have hA:i*b<=A.toList.length:=by rw[Array.length_toList];omega
 have s:(A.toList.take (i*b)).length=i*b:=by rw[bC];omega
 rw[r,List.append_assoc];simp only[List.toList_toArray];rw[List.take_append_of_le_length (by rw[s];exact aA),cW (by rw[s];exact aA),<-fz d,<-q,List.take_take]
 congr 1
 have:=bQ b (cX T);omega
section
variable {α : Type}
def Lr(eq:α->α->Bool)(l:List α)(d:α):Nat->List α
 | 0=>[]
 | k+1=>if 0<k/\eq (l.getD k d) (l.getD (k-1) d)=true then Lr eq l d k else Lr eq l d k++[l.getD k d]
def Eg(eq:α->α->Bool)(d:α)(l:List α):List α:=Lr eq l d l.length
variable {eq : α -> α -> Bool} {l : List α} {d : α}
theorem Su{k:Nat}:(Lr eq l d k).length<=k:=by
 induction k with
 | zero=>exact aA
 | succ k ih =>
   rw[Lr];split
   ·omega
   ·rw[bA];simp;omega
theorem Nu:Lr eq l d 1=[l.getD 0 d]:=by simp[Lr]
theorem Nt{k:Nat}(h:eq (l.getD k d) (l.getD (k-1) d)=true)(h0:0<k:=by omega):Lr eq l d (k+1)=Lr eq l d k:=by
 rw[Lr,if_pos ⟨h0,h⟩]
theorem Wx{k:Nat}(h:eq (l.getD k d) (l.getD (k-1) d)=false):Lr eq l d (k+1)=Lr eq l d k++[l.getD k d]:=by
 rw[Lr,if_neg (by rw[h];simp)]
theorem J7{k:Nat}(h:k<l.length):l.take (k+1)=l.take k++[l.getD k d]:=by
 rw[cG h];congr 2;simp[h]
theorem Ux{k:Nat}(hk:k<l.length)(hp:Lr eq l d k=l.take k)(h:eq (l.getD k d) (l.getD (k-1) d)=false):Lr eq l d (k+1)=l.take (k+1):=by
 rw[Wx h,hp,J7 hk]
theorem Nj(h:0<l.length:=by omega):l.take 1=[l.getD 0 d]:=by
 rw[J7 (d:=d) h];simp
end
theorem take_set{x:Int×Int}(h:b<f.length):(f.set b x).take (b+1)=f.take b++[x]:=by
 rw[cG (by simpa using h)];simp[List.take_set_of_le]
theorem Alr:∀w,(zeroValue 65).run prog w=.ok (.agg #[.int .i64 0,.int .i64 0]) w:=λ_=>by kernel_rfl
theorem U4(g f:Nat)(o:Nat)(l:LP)(w:World)(hl:b<=1000000)(Q:l.length=b)(aw:b<=f)(hs:OwS w o (.slice (some ⟨g,0,none⟩) b f) l):Calls prog 377 #[.slice (some ⟨g,0,none⟩) b f] w λe w'=>∃m,e=.returned (.slice (some ⟨g,0,none⟩) m f)/\m=(Eg eqS (0,0) l).length/\OwS w' o (.slice (some ⟨g,0,none⟩) m f) (Eg eqS (0,0) l)/\w.grownBy w' (some g):=by
 have y:=Ar Q;have G:=Ar (show Eg eqS (0,0) l=Lr eqS l (0,0) b by unfold Eg;rw[Q]);clear Q;by_cases S:b<2
 .go_in;go_wp2;go_ret
  have e:Eg eqS (0,0) l=l:=by
   rw[G.out];have Q:=y.out;rcases bG b 1 with h|h
   .have X:b=0:=aK
    subst X;rw[bL Q];rfl
   have X:b=1:=aK
   subst X;rw[Nu,<-Nj,cW aK]
  exact⟨b,rfl,by rw[e,y.out],by rw[e];exact hs,dA _ _⟩
 have bb:=Ea;go_in;go_wp2;go_loopw [3] (λi wr=>∃k:Nat,1<=k/\k<=b/\i=k/\Hid (Lr eqS l (0,0) k=l.take k)/\OwS wr o (.slice (some ⟨g,0,none⟩) b f) l/\w.grownBy wr (some g)) λi _=>b-(intOf i).toNat
 case atStart=>exact⟨1,aA,aK,rfl,by rw[Nu,<-Nj (h:=by rw[y.out];omega)];exact Ar rfl,hs,dA _ _⟩
 clear hs;obtain⟨k,bd,hk,rfl,T,q,F⟩:=hrel;by_cases O:k<b
 .obtain⟨j,hj⟩:∃j,k-1=j:=⟨_,rfl⟩
  let⟨J,K,_,_⟩:=q.cells y.out O;let⟨H,I,_,_⟩:=q.cells y.out (show j<b by omega);have L:IntKind.i64.wrap ((k:Int)-1)=(j:Int):=(Fm _ aK aK).trans aK;have bc:(j:Int)<(b:Int):=aK
  have a6:¬b=0:=aK
  by_cases a:eqS ((gt l k).1,(gt l k).2) ((gt l j).1,(gt l j).2)=true
  .go_wp2;go_quiet (fail);clear J K H I L;have bl:¬k=f:=aK
   have A:=Ar (Nt (eq:=eqS) (l:=l) (d:=((0:Int),(0:Int))) (k:=k) (by rw[hj];exact a));have N:(k:Int)<=(b:Int):=aK
   go_wp2;let⟨M,hM⟩:=gN (b-k)
   let⟨C,hC⟩:=gN (f-k)
   rw[hM,hC];have b7:b<=k+M:=aK
   have b8:k+M<=b:=aK
   have V:=Ar (show b=k+M by omega);have b6:M<=C:=aK
   clear hM hC;have HD:=Ar a;have s:(Lr eqS l (0,0) k).length=k:=by rw[T.out,bC,y.out];omega
   have U:=Ar s;have HO:=Ar (OwS.drewN q nq);have HG:=Ar (Gb.drewN F nq);clear a s q F N;go_loopw [3,5] (λc i wx=>∃(p R:Nat) (z:LP),1<=p/\p<=M/\i=p/\c=R/\Hid (R=(Lr eqS l (0,0) (k+p)).length)/\R+1<=k+p/\Hid (z.length=b)/\Hid (z.take R=Lr eqS l (0,0) (k+p))/\Hid (∀x,k+p<=x+1->x<b->gt z x=gt l x)/\OwS wx o (.slice (some ⟨g,0,none⟩) b f) z/\w.grownBy wx (some g)) λ_ i _=>M-(intOf i).toNat
   case atStart=>exact⟨1,k,l,aA,aK,rfl,rfl,Ar (by rw[A.out,U.out]),aA,y,Ar (by rw[A.out,T.out]),Ar λx _ _=>rfl,HO.out,HG.out⟩
   clear HO HG;obtain⟨p,c,z,bm,bp,rfl,rfl,Y,ba,B,D,E,q,F⟩:=hrel;by_cases bq:p<M
   .obtain⟨r,hr⟩:∃r,p-1=r:=⟨_,rfl⟩
    let⟨J,K,_,_⟩:=q.cells B.out (show k+p<b by omega);let⟨H,I,_,_⟩:=q.cells B.out (show k+r<b by omega);let⟨d5,d6,f5,f6⟩:=q.cells B.out (show c<b by omega);rw[E.out _ aK aK,cN]at J K;rw[E.out _ aK aK,cN]at H I;have L:IntKind.i64.wrap ((p:Int)-1)=(r:Int):=(Fm _ aK aK).trans aK;have bs:(r:Int)<(M:Int):=aK
    have Z:(c:Int)<(b:Int):=aK
    have a6:¬M=0:=aK
    by_cases a:eqS ((gt l (k+p)).1,(gt l (k+p)).2) ((gt l (k+r)).1,(gt l (k+r)).2)=true
    .have v:=Ar (Nt (eq:=eqS) (l:=l) (d:=((0:Int),(0:Int))) (k:=k+p) (by rw[show k+p-1=k+r by omega];exact a));go_wp2;go_quiet (fail);clear J K H I L;go_wp2;exact⟨⟨p+1,c,z,aK,aK,aP,rfl,Ar (by rw[<-cQ,v.out];exact Y.out),aK,B,Ar (by rw[<-cQ,v.out];exact D.out),Ar λx h1 S=>E.out x aK S,OwS.drewN q _,Gb.drewN F _⟩,aI⟩
    have n:eqS ((gt l (k+p)).1,(gt l (k+p)).2) ((gt l (k+r)).1,(gt l (k+r)).2)=false:=by simpa using a
    clear a;have v:=Ar (Wx (eq:=eqS) (l:=l) (d:=((0:Int),(0:Int))) (k:=k+p) (by rw[show k+p-1=k+r by omega];exact n));go_wp2;go_quiet (fail);clear H I L;go_wp2;refine⟨⟨p+1,c+1,z.set c (gt l (k+p)),aK,aK,aP,aP,Ar (by rw[<-cQ,v.out,bA,<-Y.out];rfl),aK,Ar (by rw[cD];exact B.out),Ar ?_,Ar λx h1 S=>?_,OwS.store (OwS.drewN q nq) B.out aK _ _,Gb.set (Gb.set (Gb.drewN F nq) _ _) _ _⟩,aI⟩
    .rw[<-cQ,v.out,<-D.out];exact take_set (by rw[B.out];omega)
    rw[Lg (by rw[B.out];omega),if_neg aK];exact E.out x aK S
   obtain rfl:M=p:=aK
   let⟨W,b1,a7,a1⟩:=OwG.clear (P:=prog) (t:=48) (i:=c) Cm underlying48 Alr rfl (by intro u hu;simp[Value.cells]at hu;rcases hu with rfl|rfl<;>rfl) aK q B.out aK;have b9:¬c=f:=aK
   have Z:(c:Int)<=(b:Int):=aK
   go_wp2;go_ret;have e:Eg eqS (0,0) l=z.take c:=by rw[G.out,D.out,<-V.out]
   exact⟨c,rfl,by rw[e,D.out];exact Y.out,by rw[e];exact a7,F.trans a1⟩
  have n:eqS ((gt l k).1,(gt l k).2) ((gt l j).1,(gt l j).2)=false:=by simpa using a
  clear a;go_wp2;go_quiet (fail);clear J K H I L;go_wp2;have A:=Ux (eq:=eqS) (d:=((0:Int),(0:Int))) (k:=k) (by rw[y.out];exact O) T.out (by rw[hj];exact n);exact⟨⟨k+1,aK,aK,aP,A,OwS.drewN q _,Gb.drewN F _⟩,aI⟩
 obtain rfl:b=k:=aK
 go_wp2;go_ret;have e:Eg eqS (0,0) l=l:=by rw[G.out,T.out,cW (by rw[y.out];exact aA)]
 exact⟨b,rfl,by rw[e,y.out],by rw[e];exact q,F⟩
end
theorem Xa(v:Value)(l:LP)(j:l.length<=1000000)(c:OwS w b v l):Calls prog 377 #[v] w λe f=>∃d,e=.returned d/\OwS f b d (Eg eqS (0,0) l)/\w.grownBy f v.ownBlock/\d.ownBlock=v.ownBlock:=by
 rcases OwG.form c with⟨rfl,rfl⟩|⟨g,a,rfl,n,o,h,p⟩
 .go_in;go_wp2;go_ret;exact⟨_,rfl,c,dA _ _,rfl⟩
 refine(U4 g a b l w j rfl h c).mono ?_;rintro e f ⟨m,rfl,q,k,i⟩;exact⟨_,rfl,k,i,rfl⟩
theorem gp(w:World):Calls prog 375 #[.slice none 0 0] w (Vi w []):=by
 have a:=λ(w:World)=>Lib.run_eql_slice_nil (P:=prog) w 48 65 none 0 0 0 0 underlying48
 go_in;go_wp2;go_ret;exact⟨_,rfl,OwG.nil,bl0⟩
theorem uk(l:LP)(i:h<=1000000)(f:SpS w c h l)(j:c=none->b=0):Calls prog 375 #[.slice c h b] w (Vi w l):=by
 cases c with
 | some ad=>exact gn ad b h l w i f
 | none =>
   have g:=j rfl
   have d:h=0:=by
    rcases bK h with a|a
    .exact a
    let⟨_,_,e,_⟩:=f.at_ a;cases e
   subst d g;rw[bL f.1];exact gp w
def G2(l:LP):Option LP :=
 if (Eg eqS (0,0) (Ez l)).length<3 then none
 else if (Pv (Eg eqS (0,0) (Ez l))++Pv (Eg eqS (0,0) (Ez l)).reverse).length<3 then none
 else some (Pv (Eg eqS (0,0) (Ez l))++Pv (Eg eqS (0,0) (Ez l)).reverse)
theorem Aks:∀args w,(callFunc 376 args).run prog w=.ok (.enter 376 args) w:=by
 intro args w
 kernel_rfl
theorem Ny(l:LP):(Pv l).length<=l.length:=by
 unfold Pv;rw[bC];exact bB (Nat.min_le_right _ _) (Lo)
theorem Agb(g:f.length=h)(d:OwS w b (.slice c h i) f.reverse):SpS w c h f.reverse:=by
 let⟨j,k,e,_,a,_⟩:=d.sps;injection e with e1 e2 e3
 subst e1;rw[dV,g]at a;exact a
theorem Agc{d:Value}{i:LP}(j:OwS a b g f)(m:Be a l)(h:OwS l a d i)(c:l.grownBy p g.ownBlock):OwS p a d i :=
 OwG.kept h c (by
  cases e4:d.ownBlock with
  | none=>exact .inl rfl
  | some k =>
    refine .inr λe=>?_
    have n:=(OwG.lt h k e4).1;have o:=(OwG.lt j k e.symm).2;omega)
theorem Sj(l:LP)(Y:SpS w c h l)(hz:c=none->b=0)(hn:h<=400000:=by omega):Calls prog 362 #[.slice c h b] w λe w'=>∃v,e=.returned (.tuple #[v,.bool (G2 l).isSome])/\OwS w' w v ((G2 l).getD [])/\Be w w':=by
 let⟨s,n⟩:=gN (Eg eqS (0,0) (Ez l))
 have Z:s.length<=h:=by rw[<-n];unfold Eg;refine bB (Su) ?_;rw[Gx,Y.1];exact aA
 have Q:=Ar n;have o:=Ar Y.1;have T:=Ar (show G2 l=if s.length<3 then none else if (Pv s++Pv s.reverse).length<3 then none else some (Pv s++Pv s.reverse) by unfold G2;rw[n]);clear n;go_in
 go_upto_region 4 with (first|(go_at_call 375;refine aF (uk l aK Y hz) λw1 v1 t D=>?_)|(go_at_call 147;refine rR (Xz Aks (λ_ _ _ _ _=>Ab5 _ _ _ _ _) v1 _ l (by rw[o.out];omega) t) λw2⟨u,H⟩=>?_)|(go_at_call 377;refine(Xa v1 (Ez l) (by rw[Gx,o.out];omega) u).mono ?_;rintro e w3 ⟨v3,rfl,d,I,a1⟩;rw[Q.out]at d))
 have E:=Bk D t H;have j:=Bk E u I;clear D t H E u I a1;obtain⟨A3,c3,rfl,V,z,S⟩:=d.sps;generalize P:s.length=m at z V S d Z ⊢;have x:=Ar P;have a7:(Pv s).length<=m:=by rw[<-P];exact Ny s
 have a8:(Pv s.reverse).length<=m:=bB (Ny s.reverse) (by rw[dV,P];exact aA);clear P;by_cases R:m<3
 .go_wp2
  go_ret2
  have e:G2 l=none:=by rw[T.out,if_pos (by rw[x.out];exact R)]
  exact⟨_,by rw[e];rfl,by rw[e];exact OwG.nil,j⟩
 go_upto_region 9 with (first|(go_at_call 378;refine aF (Rl s.reverse A) λw6 v6 N f=>?_;obtain⟨A6,c6,rfl,W,B,K,-⟩:=N.els)|(go_at_call 378;refine aF (Rl s z) λw4 v4 L a=>?_)|(go_at_call 344;refine rR (Oh w s (by rw[x.out];omega) (d.keep a)) λw5⟨M,k⟩=>?_;have A:=Agb x.out M;have g:=Agc d a L k)|(at_builtin;refine Et rfl w3 (v:=v4) (Pv s) (g.keep f) A6 _ c6 (Pv s.reverse) B K aK (by have:=a.size;have:=k.size;have:=f.size;omega) ?_;intro v7 w7 O J C))
 have p:=An j a;have F:=Bk p (d.keep a) k;have q:=An F f;have i:=OwG.lower O j.size;have G:=Bk q (OwG.lower (g.keep f) j.size) J;clear B K C J O q F p k a f L g M A N W;obtain⟨A7,c7,rfl,X,U,-⟩:=OwS.sps i;generalize r:(Pv s++Pv s.reverse).length=m7 at X i ⊢;have ad:m7<=m+m:=by rw[<-r,bA];omega
 have y:=Ar r;clear r U;by_cases h7:m7<3
 .go_wp2
  go_ret2
  have e:G2 l=none:=by rw[T.out,if_neg (by rw[x.out];exact R),if_pos (by rw[y.out];exact h7)]
  exact⟨_,by rw[e];rfl,by rw[e];exact OwG.nil,G⟩
 go_wp2
 go_ret2
 have e:G2 l=some (Pv s++Pv s.reverse):=by rw[T.out,if_neg (by rw[x.out];exact R),if_neg (by rw[y.out];exact h7)]
 exact⟨_,by rw[e];rfl,by rw[e];exact i,G⟩
theorem Wp(u:h<=1000000)(o:SpS w c h f):Calls prog 104 #[.slice c h b,.func (.func 363) #[] #[]] w (Bz w (Db (λi=>Cc 4194304 (gt f i)) h)):=by
 go_in;go_wp2;go_loopw [8] (λi wr=>∃k:Nat,k<=h/\i=k/\Hid (Bp (λi=>Cc 4194304 (gt f i)) k=false)/\Be w wr) λi _=>h-(intOf i).toNat
 case atStart=>exact⟨0,aB,rfl,Bp.zero _,bl0⟩
 obtain⟨k,t,rfl,m,j⟩:=hrel;by_cases a:k<h
 .obtain⟨q,p,rfl,n,l⟩:=o.at_ a;have r:=Aq j (l k a).1;have s:=Aq j (l k a).2;clear l
  go_wp2_with (go_at_call 363;refine rR (Abp) λv d=>?_;have g:=An j d;clear d)
  .go_ret;exact⟨Bm (Hf a m.out aQ).symm,g⟩
  go_roundw
  case rel=>exact⟨k+1,aK,aP,Bp.succ m.out (by simpa using ‹_›),g⟩
  case measure=>simp[intOf];omega
 obtain rfl:h=k:=aK
 go_wp2;go_ret;exact⟨Bm (Fy m.out).symm,j⟩
theorem Da(l:LP)(f:SpS w c h l)(d:h<=1000000:=by omega):Calls prog 60 #[.slice c h b,.func (.func 363) #[] #[]] w (Bz w (.bool (Bp (λi=>Cc 4194304 (gt l i)) h))):=by
 go_in
 go_wp2_with (go_at_call 104;refine rR (Wp d f) λg a=>?_)
 go_ret;exact⟨Bn (Hy _ _),a⟩
def Dr(l:LP):Int×LP :=
 if l.length > 160 then (5,[]) else if Bp (λi=>Cc 4194304 (gt l i)) l.length then (3,[]) else match G2 l with|none=>(11,[])|some r=>(0,r)
def Xh(w:World)(r:Int×LP)(e:Ending)(a:World):Prop :=
 ∃v,e=.returned (.tuple #[v,r.1])/\OwS a w v r.2/\Be w a
theorem Us(h:G2 f=some k):k.length<=f.length+f.length:=by
 unfold G2 at h;split at h
 .cases h
 split at h
 .cases h
 injection h with h
 subst h;rw[bA];have b:=Ny (Eg eqS (0,0) (Ez f));have a:=Ny (Eg eqS (0,0) (Ez f)).reverse;rw[dV]at a;have c:(Eg eqS (0,0) (Ez f)).length<=f.length:=by unfold Eg;refine bB (Su) ?_;rw[Gx];exact aA
 omega
theorem Vk(l:LP):(Dr l).2.length<=320:=by
 unfold Dr;split
 .simp
 split
 .simp
 split
 .simp
 rename_i r h;have:=Us h
 show r.length<=320
 omega
theorem Lq(l:LP)(f:SpS w c h l)(p:c=none->b=0)(v:h<=9223372036854775807:=by omega):Calls prog 361 #[.slice c h b] w (Xh w (Dr l)):=by
 have o:=Ar f.1;by_cases n:h > 160
 .have e:Dr l=(5,[]):=by unfold Dr;rw[if_pos (by rw[f.1];exact n)]
  have d:=Ar e;clear e;go_enter func361,ntmps361;go_wp2
  go_ret2
  exact⟨_,by rw[d.out];rfl,by rw[d.out];exact OwG.nil,bl0⟩
 have x:h<=160:=aK
 clear v;by_cases m:Bp (λi=>Cc 4194304 (gt l i)) h=true
 .have e:Dr l=(3,[]):=by unfold Dr;rw[f.1,if_neg n,if_pos m]
  have d:=Ar e;clear e;go_enter func361,ntmps361
  go_wp2_with (go_at_call 60;refine rR (Da l f) λt a=>?_)
  go_ret2
  exact⟨_,by rw[d.out];rfl,by rw[d.out];exact OwG.nil,a⟩
 have u:Bp (λi=>Cc 4194304 (gt l i)) h=false:=by simpa using m
 have e:Dr l=match G2 l with|none=>(11,[])|some r=>(0,r):=by unfold Dr;rw[f.1,if_neg n,if_neg m]
 have d:=Ar e;clear e m;cases hh:G2 l with
 | none =>
   have q:(G2 l).isSome=false:=by rw[hh];rfl
   have k:=Ar hh;clear hh;go_enter func361,ntmps361
   go_wp2_with (first|(go_at_call 60;refine rR (Da l f) λt a=>?_)|(go_at_call 362;refine aF (Sj l (f.keep a) p) λy s j g=>?_))
   go_ret2
   exact⟨_,by rw[d.out,k.out];rfl,by rw[d.out,k.out];exact OwG.nil,An a g⟩
 | some r =>
   have q:(G2 l).isSome=true:=by rw[hh];rfl
   have k:=Ar hh;clear hh;go_enter func361,ntmps361
   go_wp2_with (first|(go_at_call 60;refine rR (Da l f) λt a=>?_)|(go_at_call 362;refine aF (Sj l (f.keep a) p) λy s j g=>?_))
   go_ret2
   refine⟨s,by rw[d.out,k.out];rfl,?_,An a g⟩;rw[d.out,k.out];rw[k.out]at j;exact OwG.lower j a.size
def xk(p q:Int×Int):Int×Int:=(wrap64 (p.1+q.1),wrap64 (p.2+q.2))
def Tk(p:Int×Int)(g a:LP):Nat->LP
 | 0=>a
 | j+1=>Tk p g a j++[xk p (gt g j)]
def Gw(f g:LP):Nat->LP
 | 0=>[]
 | k+1=>Tk (gt f k) g (Gw f g k) g.length
theorem Tj(p:Int×Int)(g a:LP)(j:Nat):(Tk p g a j).length=a.length+j:=by
 induction j with
 | zero=>rfl
 | succ j ih=>rw[Tk,bA,ih];simp;omega
theorem N9(f g:LP)(k:Nat):(Gw f g k).length=k*g.length:=by
 induction k with
 | zero=>simp[Gw]
 | succ k ih=>rw[Gw,Tj,ih,cN];omega
def Nz(a b:LP):Int×LP :=
 if (Dr a).1≠0 then ((Dr a).1,[]) else if (Dr b).1≠0 then ((Dr b).1,[])
 else if Bp (λi=>Cc 4194304 (gt ((G2 (Gw (Dr a).2 (Dr b).2 (Dr a).2.length)).getD []) i)) ((G2 (Gw (Dr a).2 (Dr b).2 (Dr a).2.length)).getD []).length then (3,[])
 else if ((G2 (Gw (Dr a).2 (Dr b).2 (Dr a).2.length)).getD []).length > 160 then (5,[])
 else (0,(G2 (Gw (Dr a).2 (Dr b).2 (Dr a).2.length)).getD [])
theorem vw(a p:LP)(K:SpS w c i a)(au:SpS w n nb p)(L:c=none->b=0)(aw:n=none->h=0)(da:i<=1000000:=by omega)(db:nb<=1000000:=by omega):Calls prog 328 #[.slice c i b,.slice n nb h] w (Xh w (Nz a p)):=by
 by_cases h1:(Dr a).1=0
 .by_cases h2:(Dr p).1=0
  .obtain⟨f,hf⟩:∃f,(Dr a).2=f:=⟨_,rfl⟩
   let⟨g,hg⟩:=gN ((Dr p).2)
   have lf:f.length<=320:=by rw[<-hf];exact Vk a
   have lg:g.length<=320:=by rw[<-hg];exact Vk p
   let⟨r,y⟩:=gN ((G2 (Gw f g f.length)).getD [])
   have s:=Ar (show Nz a p=if Bp (λm=>Cc 4194304 (gt r m)) r.length=true then (3,[]) else if r.length > 160 then (5,[]) else (0,r) by unfold Nz;rw[if_neg (by simpa using h1),if_neg (by simpa using h2),hf,hg,y])
   have lr:r.length<=204800:=by
    rw[<-y];cases hh:G2 (Gw f g f.length) with
    | none=>simp
    | some q =>
      have P:=Us hh;rw[N9]at P;have h4:=cJ lf lg
      show q.length<=204800
      omega
   have ls:(Gw f g f.length).length<=102400:=by
    rw[N9];have h4:=cJ lf lg;omega
   have HF:=Ar hf;have HG:=Ar hg;have HR:=Ar y;clear hf hg y;go_in
   go_upto_region 8 with (go_at_call 361;first|(refine aF (Lq p (au.keep d) aw) λQ v2 D t=>?_;rw[HG.out]at D)|(refine aF (Lq a K L) λw1 v1 x d=>?_;rw[HF.out]at x))
   obtain⟨A1,c1,rfl,bc,T,-⟩:=(OwS.sps (OwG.keep x t));obtain⟨A2,c2,rfl,bd,U,-⟩:=OwS.sps D;have hb:=An d t;clear x D d t;let⟨G,I⟩:=gN f.length
   let⟨M,J⟩:=gN g.length
   rw[I]at T bc lf ls ⊢;rw[J]at U bd lg ⊢;have b5:=Ar I;have R:=Ar J;clear I J;go_wp2;go_loopw [9,34] (λv m wr=>∃k:Nat,k<=G/\m=k/\OwS wr Q v (Gw f g k)/\Be Q wr) λ_ m _=>G-(intOf m).toNat
   case atStart=>exact⟨0,aB,rfl,OwG.nil,bl0⟩
   obtain⟨k,hk,rfl,C,u⟩:=hrel;by_cases a7:k<G
   .obtain⟨ba,oa,rfl,b9,Y⟩:=(T.keep u).at_ a7;let⟨d1,d2⟩:=Y k a7;clear Y
    have cy:(Gw f g k).length<=102400:=by
     rw[N9,R.out];exact bB (cJ (show k<=320 by omega) lg) aK
    go_wp2;clear d1 d2;let⟨N,z⟩:∃N,N=wr.heap.size:=⟨_,rfl⟩
    have S:Bf (wr.alloc (.cells #[(gt f k).1,(gt f k).2] 65)) N 65 #[(gt f k).1,(gt f k).2]:=by rw[z];exact Bf.new _ _ _
    have ak:=OwG.alloc C (.cells #[(gt f k).1,(gt f k).2] 65);have X:=Ao u (o:=.cells #[(gt f k).1,(gt f k).2] 65);have F:u9.ownBlock≠some N:=λO=>by rw[z]at O;exact eH _ (OwG.lt C _ O).2
    rw[<-z];have HB:=Ar S;clear C u b9 S z;go_loopw [9,40] (λv m wx=>∃j:Nat,j<=M/\m=j/\OwS wx Q v (Tk (gt f k) g (Gw f g k) j)/\Bf wx N 65 #[(gt f k).1,(gt f k).2]/\v.ownBlock≠some N/\Be Q wx) λ_ m _=>M-(intOf m).toNat
    case atStart=>exact⟨0,aB,rfl,ak,HB.out,F,X⟩
    clear ak HB F X;obtain⟨j,hj,rfl,C,hB,ad,B⟩:=hrel;by_cases a1:j<M
    .obtain⟨bb,ob,rfl,cx,Y⟩:=(U.keep B).at_ a1;let⟨d1,d2⟩:=Y j a1;clear Y;obtain⟨d3,d4,-,-,dl⟩:=hB.pair;have a6:(Tk (gt f k) g (Gw f g k) j).length<=1000000:=by rw[Tj];omega
     go_wp2_with (at_builtin;refine Dl rfl Q (Tk (gt f k) g (Gw f g k) j) (OwG.alloc (OwG.alloc C _) _) (wr+1) 1 (xk (gt f k) (gt g j)) 65 (Bf.new2 _ _ _ _) a6 (Ao (Ao B)).size ?_;intro v' w5 bq Z W)
     refine⟨⟨j+1,aK,aP,bq,?_,?_,Bk (Ao (Ao B)) (OwG.alloc (OwG.alloc C _) _) Z⟩,aI⟩
     .exact Bf.grown ((hB.alloc _).alloc _) Z ad.symm
     rcases W with O|O
     .rw[O];exact ad
     rw[O];intro h';injection h' with h';simp at h';omega
    obtain rfl:M=j:=aK
    have e9:=Ar (show Gw f g (k+1)=Tk (gt f k) g (Gw f g k) M by simp only[Gw];rw[R.out]);go_wp2;exact aE ⟨by rw[e9.out];exact C,B⟩
   obtain rfl:G=k:=aK
   obtain⟨A9,c9,rfl,bm,V,bp,-⟩:=OwS.els C;generalize a8:(Gw f g G).length=n9 at bm V ls ⊢;clear a8 C;rw[b5.out]at HR
   go_upto_region 18 with (go_at_call 362;refine aF (Sj (Gw f g G) V bp) λw5 v5 E b8=>?_;rw[HR.out]at E)
   obtain⟨A5,c5,rfl,bl,A,cz,-⟩:=OwS.els E;generalize ai:r.length=nr at A bl lr s E ⊢;have cn:=Ar ai;clear ai;have H:=An (An hb u) b8;by_cases P:Bp (λm=>Cc 4194304 (gt r m)) nr=true
   .go_wp2_with (go_at_call 60;refine rR (Da r A) λw6 l=>?_)
    go_ret2
    rw[if_pos P]at s;exact⟨_,by rw[s.out];rfl,by rw[s.out];exact OwG.nil,An H l⟩
   have cw:Bp (λm=>Cc 4194304 (gt r m)) nr=false:=by simpa using P
   rw[if_neg P]at s;clear P;by_cases h4:nr > 160
   .go_wp2_with (go_at_call 60;refine rR (Da r A) λw6 l=>?_)
    go_ret2
    rw[if_pos h4]at s;exact⟨_,by rw[s.out];rfl,by rw[s.out];exact OwG.nil,An H l⟩
   go_wp2_with (go_at_call 60;refine rR (Da r A) λw6 l=>?_)
   go_ret2
   rw[if_neg h4]at s;exact⟨_,by rw[s.out];rfl,by rw[s.out];exact OwG.lower (OwG.keep E l) (bB hb.size u.size),An H l⟩
  have y:=Ar (show Nz a p=((Dr p).1,[]) by unfold Nz;rw[if_neg (by simpa using h1),if_pos h2]);have q2:((Dr p).1 != 0)=true:=by simpa using h2
  go_in
  go_wp2_with (go_at_call 361;first|(refine aF (Lq p (au.keep d) aw) λQ v2 D t=>?_)|(refine aF (Lq a K L) λw1 v1 x d=>?_))
  go_ret2
  exact⟨_,by rw[y.out];rfl,by rw[y.out];exact OwG.nil,An d t⟩
 have y:=Ar (show Nz a p=((Dr a).1,[]) by unfold Nz;rw[if_pos h1]);have q2:((Dr a).1 != 0)=true:=by simpa using h1
 go_in
 go_wp2_with (go_at_call 361;refine aF (Lq a K L) λw1 v1 x d=>?_)
 go_ret2
 exact⟨_,by rw[y.out];rfl,by rw[y.out];exact OwG.nil,d⟩
section
open Go.RowKit Go.Sort
def Hm:LP->LP->Int
 | [],[]=>0
 | [],_::_ => -1
 | _::_,[]=>1
 | a::l,b::m=>if H6 a b != 0 then H6 a b else Hm l m
theorem Pq(p q:Int×Int):H6 p q=0↔p=q:=by
 constructor
 .intro h;have e:=(Sx p q);apply Aij<;>(rw[ltS];unfold G0)
  .have:¬H6 p q<0:=aK
   rw[Sx]at this;simp;omega
  unfold H6 orI orI orI at h;have c:=Lm p.1 q.1;have d:=Lm p.2 q.2;by_cases a:Ey p.1 q.1=0
  .by_cases b:Ey p.2 q.2=0
   .have:=c.1 a;have:=d.1 b;simp;omega
   rw[a]at h;rw[if_neg aL,if_pos (by simpa using b)]at h;omega
  rw[if_pos (by simpa using a)]at h;omega
 rintro rfl;unfold H6 orI orI orI Ey;simp
theorem Pn{l:LP}{k:Nat}(h:k<l.length):l.drop k=gt l k::l.drop (k+1):=by
 rw[gH h];congr 1;unfold gt;simp[h]
theorem GrW.trans(h:GrW a l)(e:GrW l p):GrW a p:=by
 obtain⟨q,c,rfl⟩:=h;obtain⟨d,b,rfl⟩:=e
 exact⟨q+d,c++b,by
  show Sort.grow ((Sort.grow (a.drewN q) c).drewN d) b=_
  rw[show (Sort.grow (a.drewN q) c).drewN d=Sort.grow ((a.drewN q).drewN d) c from rfl,Sort.grow_grow]
  congr 1
  simp[World.drewN,cQ]⟩
theorem GrW.drewN(h:GrW w a)(n:Nat):GrW w (a.drewN n):=by
 obtain⟨q,b,rfl⟩:=h
 exact⟨q+n,b,by
  show Sort.grow ((w.drewN q).drewN n) b=_
  congr 1
  simp[World.drewN,cQ]⟩
theorem U1(a d:LP)(E:i<=1000000)(F:nb<=1000000)(x:SpS w c i a)(y:SpS w n nb d):Calls prog 332 #[.slice c i b,.slice n nb h,.func (.func 264) #[] #[]] w λe G=>e=.returned (Hm a d)/\GrW w G:=by
 have t:=Ar x.1;have g:=Ar y.1;go_in;go_wp2;go_loopw [13] (λA wr=>∃k:Nat,k<=i/\k<=nb/\A=k/\Hid (Hm a d=Hm (a.drop k) (d.drop k))/\GrW w wr) λA _=>i-(intOf A).toNat
 case atStart=>exact⟨0,aB,aB,rfl,Ar rfl,GrW.refl _⟩
 obtain⟨k,O,D,rfl,v,o⟩:=hrel;by_cases r:k<i
 .obtain⟨I,P,rfl,C,u⟩:=(x.keep o.below).at_ r;let⟨K,L⟩:=u k r;clear u;have s:=Ar (Pn (l:=a) (k:=k) (by rw[t.out];exact r));by_cases f:k<nb
  .obtain⟨J,Q,rfl,B,u⟩:=(y.keep o.below).at_ f;let⟨M,N⟩:=u k f;clear u;have z:=Ar (Pn (l:=d) (k:=k) (by rw[g.out];exact f));by_cases j:H6 ((gt a k).1,(gt a k).2) ((gt d k).1,(gt d k).2)=0
   .have q:(H6 ((gt a k).1,(gt a k).2) ((gt d k).1,(gt d k).2) != 0)=false:=by rw[j];rfl
    have m:=Ar (show Hm (a.drop k) (d.drop k)=Hm (a.drop (k+1)) (d.drop (k+1)) by rw[s.out,z.out,Hm,if_neg (by rw[show (H6 (gt a k) (gt d k) != 0)=false from q];simp)]);clear j
    go_wp2_with (go_at_call 264;refine rR (Ox _ _ _ _ _) λH p=>?_)
    exact⟨⟨k+1,aK,aK,aP,Ar (by rw[v.out,m.out]),((o.alloc _).alloc _).trans p⟩,aI⟩
   have q:(H6 ((gt a k).1,(gt a k).2) ((gt d k).1,(gt d k).2) != 0)=true:=by simpa using j
   have m:=Ar (show Hm (a.drop k) (d.drop k)=H6 (gt a k) (gt d k) by rw[s.out,z.out,Hm,if_pos (show (H6 (gt a k) (gt d k) != 0)=true from q)]);clear j
   go_wp2_with (go_at_call 264;refine rR (Ox _ _ _ _ _) λH p=>?_)
   go_ret;exact⟨Bm (by rw[v.out,m.out]),((o.alloc _).alloc _).trans p⟩
  go_wp2;go_ret;have m:Hm (a.drop k) (d.drop k)=1:=by rw[s.out,List.drop_of_length_le (l:=d) (by rw[g.out];omega)];rfl
  exact⟨Bm (by rw[v.out,m]),o.alloc _⟩
 obtain rfl:i=k:=aK
 have s:=Ar (show a.drop i=[] from List.drop_of_length_le (by rw[t.out];exact aA));by_cases f:i<nb
 .have z:=Ar (Pn (l:=d) (k:=i) (by rw[g.out];exact f));go_wp2;go_ret;exact⟨Bm (by rw[v.out,s.out,z.out];rfl),o⟩
 go_wp2;go_ret;have m:Hm (a.drop i) (d.drop i)=0:=by rw[s.out,List.drop_of_length_le (l:=d) (by rw[g.out];omega)];rfl
 exact⟨Bm (by rw[v.out,m]),o⟩
theorem bz(A B:Option Addr)(j k i nb:Nat)(a b:LP)(w:World)(d:i<=1000000)(f:nb<=1000000)(g:SpS w A i a)(h:SpS w B nb b):Calls prog 331 #[.slice A i j,.slice B nb k] w λe l=>e=.returned (Hm a b)/\GrW w l:=by
 go_in
 go_wp2_with (go_at_call 332;refine rR (U1 a b d f g h) λm c=>?_)
 go_ret;exact⟨rfl,c⟩
def eqL(a b:LP):Bool:=decide (a=b)
def Aln(a b:LP)(i:Nat):Bool:=eqS (gt a i) (gt b i)
theorem Akr{a b:LP}(h:a.length≠b.length):eqL a b=false:=by
 unfold eqL;simp;intro e;exact h (by rw[e])
theorem Agm(h:f.length=k.length)(a:Ix (Aln f k) f.length=true):eqL f k=true:=by
 unfold eqL;simp;exact Gn h λc b=>(Ge _ _).1 (Ix.iff.1 a c b)
theorem Akq{b:LP}{k:Nat}(a:Aln f b k=false):eqL f b=false:=by
 unfold eqL;simp;rintro rfl;unfold Aln at a;rw[(Ge _ _).2 rfl]at a;cases a
theorem tc(a d:LP)(H:i<=1000000)(I:nb<=1000000)(p:SpS w c i a)(r:SpS w n nb d):Calls prog 335 #[.slice c i b,.slice n nb h] w λe J=>e=.returned (.bool (eqL a d))/\GrW w J:=by
 have g:=Ar p.1;have j:=Ar r.1;by_cases o:i=nb
 .subst o;have E:=Ea;go_in;go_wp2;go_loopw [13] (λu wr=>∃k:Nat,k<=i/\u=k/\Hid (Ix (Aln a d) k=true)/\GrW w wr) (λu _=>i-(intOf u).toNat)
  case atStart=>exact⟨0,aB,rfl,Ar (Ix.zero _),GrW.refl _⟩
  obtain⟨k,M,rfl,B,l⟩:=hrel;by_cases f:k<i
  .obtain⟨K,N,rfl,D,m⟩:=(p.keep l.below).at_ f;let⟨v,x⟩:=m k f;clear m;obtain⟨L,O,rfl,A,m⟩:=(r.keep l.below).at_ f;let⟨y,z⟩:=m k f;clear m;have F:(k:Int)<(i:Int):=aK
   have G:¬i=0:=aK
   by_cases hq:eqS ((gt a k).1,(gt a k).2) ((gt d k).1,(gt d k).2)=true
   .have s:=Ar hq;go_wp2;go_quiet (fail);clear v x y z;go_wp2;exact aE ⟨Ar (Ix.succ B.out s.out),l.drewN _⟩
   have t:eqS ((gt a k).1,(gt a k).2) ((gt d k).1,(gt d k).2)=false:=by simpa using hq
   clear hq;have s:=Ar t;go_wp2;go_quiet (fail);clear v x y z;go_wp2;go_ret;exact⟨Bn (Akq (k:=k) s.out).symm,l.drewN _⟩
  obtain rfl:i=k:=aK
  go_wp2;go_ret;exact⟨Bn (Agm (by rw[g.out,j.out]) (by rw[g.out];exact B.out)).symm,l⟩
 have q:((i:Int) != (nb:Int))=true:=by rw[eT];omega
 have C:=Ar (Akr (a:=a) (b:=d) (by rw[g.out,j.out];exact o));go_in;go_wp2;go_ret;exact⟨Bn C.out.symm,GrW.refl _⟩
theorem l9(A B:Option Addr)(j k i nb:Nat)(a b:LP)(w:World)(d:i<=1000000)(f:nb<=1000000)(g:SpS w A i a)(h:SpS w B nb b):Calls prog 334 #[.slice A i j,.slice B nb k] w λe l=>e=.returned (.bool (eqL a b))/\GrW w l:=by
 go_in
 go_wp2_with (go_at_call 335;refine rR (tc a b d f g h) λm c=>?_)
 go_ret;exact⟨rfl,c⟩
end
section
open Go.RowKit Go.Sort
theorem U6(x y:Int):Ey y x = - Ey x y:=by
 unfold Ey;(repeat split)<;>omega
theorem Zq(p q:Int×Int):H6 p q=if Ey p.1 q.1≠0 then Ey p.1 q.1 else Ey p.2 q.2:=by
 show (if Ey p.1 q.1 != 0 then Ey p.1 q.1 else if Ey p.2 q.2 != 0 then Ey p.2 q.2 else 0)=_
 by_cases h:Ey p.1 q.1=0
 .simp[h];intro a;exact a.symm
 simp[h]
theorem uh(p q:Int×Int):H6 q p = - H6 p q:=by
 rw[Zq,Zq,U6 p.1 q.1,U6 p.2 q.2];by_cases h:Ey p.1 q.1=0
 .rw[if_neg (by simpa using h),if_neg (by simpa using h)]
 rw[if_pos aK,if_pos h]
theorem H7:∀a b:LP,Hm b a = - Hm a b
 | [],[]=>rfl
 | [],_::_=>rfl
 | _::_,[]=>rfl
 | x::l,y::m=>by
   rw[Hm,Hm,uh x y,H7 l m];by_cases h:H6 x y=0
   .rw[if_neg (by simpa using h),if_neg (by simpa using h)]
   rw[if_pos (by simpa using h),if_pos (by simpa using h)]
theorem Pr:∀a b:LP,Hm a b=0->a=b
 | [],[],_=>rfl
 | [],_::_,h=>by simp[Hm]at h
 | _::_,[],h=>by simp[Hm]at h
 | x::l,y::m,h=>by
   rw[Hm]at h;by_cases c:H6 x y=0
   .rw[if_neg (by simpa using c)]at h;rw[(Pq x y).1 c,Pr l m h]
   rw[if_pos (by simpa using c)]at h;exact absurd h c
theorem ui(a:LP):Hm a a=0:=by have:=H7 a a;omega
theorem gm(p q r:Int×Int)(a:H6 p q<0)(b:H6 q r<0):H6 p r<0:=by
 rw[Sx]at *;omega
theorem Mo:∀a b c:LP,Hm a b<0->Hm b c<0->Hm a c<0
 | [],[],_,h,_=>by simp[Hm]at h
 | [],_::_,[],_,h=>by simp[Hm]at h
 | [],_::_,_::_,_,_=>by simp[Hm]
 | _::_,[],_,h,_=>by simp[Hm]at h
 | _::_,_::_,[],_,h=>by simp[Hm]at h
 | x::l,y::m,z::n,h1,h2=>by
   rw[Hm]at h1 h2 ⊢;by_cases e:H6 x y=0
   .have:=(Pq x y).1 e;subst this;rw[if_neg (by simpa using e)]at h1;by_cases d:H6 x z=0
    .rw[if_neg (by simpa using d)]at h2 ⊢;exact Mo l m n h1 h2
    rw[if_pos (by simpa using d)]at h2 ⊢;exact h2
   rw[if_pos (by simpa using e)]at h1;by_cases d:H6 y z=0
   .have:=(Pq y z).1 d;subst this;rw[if_pos (by simpa using e)];exact h1
   rw[if_pos (by simpa using d)]at h2;have f:=gm x y z h1 h2;rw[if_pos (by simp;omega)];exact f
theorem x9{c:Type}(f:c->LP):Sort.SWO (ltOf λx y=>Hm (f x) (f y)) where
 irrefl x:=by unfold ltOf;simp[ui]
 trans x y z h1 h2:=by unfold ltOf at *;simp only[decide_eq_true_eq]at *;exact Mo _ _ _ h1 h2
 ntrans x y z h1 h2:=by
  unfold ltOf at *
  simp only[decide_eq_false_iff_not]at *
  intro a;have d:=H7 (f x) (f y);have g:=H7 (f y) (f z);by_cases e:Hm (f x) (f y)=0
  .rw[Pr _ _ e]at a;exact h2 a
  have b:Hm (f y) (f x)<0:=by omega
  exact h2 (Mo _ _ _ b a)
theorem Ann(x y:LP)(a:ltOf Hm x y=false)(b:ltOf Hm y x=false):x=y:=by
 unfold ltOf at *
 simp only[decide_eq_false_iff_not]at *
 have:=H7 x y;exact Pr _ _ aK
def Gy(a:List LP):List LP:=a.mergeSort λx y=>!ltOf Hm y x
theorem Lx(a:List LP):(Gy a).length=a.length:=List.length_mergeSort _
theorem Qs:f∈Gy e↔f∈e:=List.mem_mergeSort
theorem Qd{d:List LP}(n:d.Perm e)(o:∀i j,i<j->j<d.length->ltOf Hm (lt_ d j) (lt_ d i)=false):d=Gy e:=by
 have k:SWO (ltOf Hm):=x9 id;refine List.Perm.eq_of_pairwise (le:=λx y=>(!ltOf Hm y x)=true) ?_ ?_ ?_ (n.trans (List.mergeSort_perm _ _).symm)
 .intro a b _ _ f g;exact Ann a b (by simpa using g) (by simpa using f)
 .rw[List.pairwise_iff_getElem];intro i j m l h;have:=o i j h l;unfold lt_ at this;simp[m,l]at this ⊢;exact this
 exact List.pairwise_mergeSort (λa b c f g=>by
  have:=k.ntrans c b a (by simpa using g) (by simpa using f);simpa using this) (λa b=>by
  unfold ltOf;have:=H7 a b;simp;omega) _
theorem Agn:∀args w,(callFunc 331 args).run prog w=.ok (.enter 331 args) w:=by
 intro args w
 kernel_rfl
theorem sj(b:List Value):b.flatMap enV=b:=by
 induction b with
 | nil=>rfl
 | cons a l ih=>rw[cM,ih];rfl
theorem Ke{d:Type}[Inhabited d](a:d->Value)(w:World)(g m:Nat)(f:Array d)(c:Array Obj):w.grownBy (sortWorld a w g 0 m f c) (some g):=by
 refine⟨rfl,rfl,rfl,?_,?_⟩
 .show w.heap.size<=((w.heap.modify g _)++c).size
  simp
 intro k h b
 show ((w.heap.modify g _)++c)[k]? = _
 rw[Array.getElem?_append_left (by simpa using h),eS,if_neg λe=>b (by rw[e])]
theorem Pm{a:Type}(d:Array a)(h:d.size=b):d.extract 0 b=d:=by subst h;exact Array.extract_size
theorem Rx{d:List Value}(l:OwG 48 1 enV w b (.slice (some ⟨h,0,none⟩) d.length i) d):∃a,w.heap[h]? = some (.cells a 48 (0,0))/\b<=h/\d.length<=i/\i<=maxLen/\a.size=i*1/\a.toList.take (d.length*1)=d:=by
 obtain⟨q,m⟩:=l;rcases m with⟨e,_⟩|⟨p,k,a,e,n,o,j,f,g,c⟩
 .cases e
 injection e with e1 e2 e3
 injection e1 with e1
 injection e1 with e1
 subst e1 e3;exact⟨a,o,n,j,f,g,by rw[c,sj]⟩
theorem ElS.rowsort{d:Array Value}(i:ElS w b g f)(j:w.heap[h]? = some (.cells d 48 (0,0)))(hgr:w.grownBy a (some h)):ElS a b g f :=
 i.grown hgr (by
  intro k l m _ c e;injection e with e
  subst e;rw[j]at c;injection c with c
  injection c with _ ht
  exact absurd ht aM)
theorem aj(g n d:Nat)(c:List LP)(a:List Value)(w:World)(h0:0<a.length)(hl:a.length<=1000000)(R:∀t∈c,t.length<=1000000)
 (J:OwG 48 1 enV w d (.slice (some ⟨g,0,none⟩) a.length n) a) (E:a.length=c.length) (Z:∀u∈a,u.oneCell'=true) (h4:∀(i:Nat) (u:Value) (l:LP),a[i]? = some u->c[i]? = some l->ElS w d u l) :
 Calls prog 330 #[.slice (some ⟨g,0,none⟩) a.length n,.func (.func 331) #[] #[]] w λe W=>e=.returned (.tuple #[])/\Iw W d (.slice (some ⟨g,0,none⟩) a.length n) (Gy c)/\w.grownBy W (some g):=by
 let⟨D,B,K,T,L,M,V⟩:=Rx J;have a7:Inhabited (Fin a.length):=⟨⟨0,h0⟩⟩;have z:∀i:Fin a.length,ElS w d a[i] (lt_ c i):=λi=>h4 i a[i] (lt_ c i) (aW i.2) (O7 (by rw[<-E];exact i.2))
 have v:∀i:Fin a.length,(lt_ c i).length<=1000000:=λi=>R _ (I9 (by rw[<-E];exact i.2))
 have o:(Array.ofFn λi:Fin a.length=>i).size=a.length:=by simp
 have N:∀j (b:j<a.length),(Array.ofFn λi:Fin a.length=>i)[j]! = ⟨j,b⟩:=λj b=>by
  rw[getElem!_pos _ j (by simpa using b)];simp
 have F:CmpLays1 prog 331 #[] (λi:Fin a.length=>a[i]) (λx y=>Hm (lt_ c x) (lt_ c y)) g 0 (Array.ofFn λi:Fin a.length=>i).size w:=by
  intro m C Y b6 x y;let⟨A1,c1,e1,e2,e3,_⟩:=(z x).rowsort B (Ke (λi:Fin a.length=>a[i]) w g m Y C);let⟨A2,c2,f1,f2,f3,_⟩:=(z y).rowsort B (Ke (λi:Fin a.length=>a[i]) w g m Y C)
  show Calls prog 331 #[a[x],a[y]] _ _
  rw[e1,f1];exact bz A1 A2 c1 c2 _ _ (lt_ c x) (lt_ c y) _ (v x) (v y) e3 f3
 have hH:Holds (λi:Fin a.length=>a[i]) w g 0 (Array.ofFn λi:Fin a.length=>i):=by
  intro j b;rw[o]at b;rw[N j b,dB];have X:=OwG.cells J j (by omega);rw[sj,aW b]at X;exact⟨X,OwG.frozen J j⟩
 have s:=Any.slices_SortFunc Tryz.laysSS (λi:Fin a.length=>a[i]) (λi=>Z _ (cY i.2)) (λx y=>Hm (lt_ c x) (lt_ c y)) (x9 λi:Fin a.length=>lt_ c i) 331 #[] g 0 n _ w Agn F hH (D9 B) (by rw[o];omega);rw[o]at s;refine s.mono ?_;rintro e W ⟨rfl,f,n',C,hp,hs,rfl⟩;obtain⟨p,_,I⟩:=hp;rw[o]at p
 have U:f.toList.Perm (List.ofFn λi:Fin a.length=>i):=by
  rw[Pm f p,Pm _ o]at I;simpa using I
 have hgr:=Ke (λi:Fin a.length=>a[i]) w g n' f C
 have S:f.toList.map (λi:Fin a.length=>lt_ c i.1)=Gy c:=by
  refine Qd ?_ ?_
  .have h5:=U.map λi:Fin a.length=>lt_ c i;rw[List.map_ofFn]at h5;refine h5.trans (List.Perm.of_eq ?_);apply fF;intro j;rcases bG j a.length with b|b
   .rw[List.getElem?_ofFn,iI b,O7 (by rw[<-E];exact b)];rfl
   rw[bI (by simpa using b),bI (by rw[<-E];exact b)]
  intro i j P b;have A:j<f.size:=by simpa using b
  have G:i<f.size:=by omega
  have h6:=hs i j aB P (by rw[<-p];exact A);rw[getElem!_pos _ j A,getElem!_pos _ i G]at h6;unfold lt_;simp[G,A];exact h6
 have O:(sortWorld (λi:Fin a.length=>a[i]) w g 0 n' f C).heap[g]? = some (.cells (Sort.putCells (λi:Fin a.length=>a[i]) 0 f D) 48 (0,0)):=by
  show ((w.heap.modify g (Sort.onCells (Sort.putCells (λi:Fin a.length=>a[i]) 0 f)))++C)[g]? = _
  rw[Array.getElem?_append_left (by simpa using D9 B),eS,if_pos rfl,B];rfl
 refine⟨rfl,⟨f.toList.map λi:Fin a.length=>a[i],?_,?_,?_,?_⟩,hgr⟩
 .have q:(f.toList.map λi:Fin a.length=>a[i]).length=a.length:=by simp[p]
  refine⟨?_,.inr ⟨g,n,_,by rw[q],K,O,by rw[q];exact T,L,?_,?_⟩⟩
  .rw[Cz Ss]
  .simp only[Sort.putCells,Array.size_mapIdx];exact M
  rw[sj,q];apply fF;intro j;rcases bG j a.length with b|b
  .have H:j<f.size:=by omega
   have Q:j<D.size:=by omega
   rw[eK (by omega),Array.getElem?_toList];simp only[Sort.putCells,Array.getElem?_mapIdx];rw[Array.getElem?_eq_getElem Q,Option.map_some,if_pos (by omega),Nat.sub_zero,getElem!_pos _ j H];simp[H]
  rw[bI (by rw[bC];omega),bI (by rw[q];exact b)]
 .rw[Lx,<-E];simp[p]
 .intro u r;obtain⟨i,_,rfl⟩:=List.mem_map.1 r;exact Z _ (cY i.2)
 intro i u l r h;rw[<-S]at h;rw[dC]at r h;cases hd:f.toList[i]? with
 | none=>rw[hd]at r;cases r
 | some k =>
   rw[hd]at r h;injection r with r
   injection h with h
   subst r h;exact(z k).rowsort B hgr
theorem kb(a:Nat)(b:List LP)(o:b.length<=1000000)(j:∀t∈b,t.length<=1000000)(p:Iw w a g b):Calls prog 330 #[g,.func (.func 331) #[] #[]] w λe f=>e=.returned (.tuple #[])/\Iw f a g (Gy b)/\w.grownBy f g.ownBlock:=by
 obtain⟨k,i,d,l,n⟩:=p;rcases OwG.form i with⟨rfl,rfl⟩|⟨m,c,rfl,r,s,u,v⟩
 .have:b=[]:=bL (by rw[<-d];rfl);subst this;refine(AnyF.slices_SortFunc_none (P:=prog) (ρ:=Tryz.laysSS_ren) { Tryz.laysSS with } none 0 _ w).mono ?_;rintro e f ⟨rfl,rfl⟩;exact⟨rfl,by rw[show Gy []=[] by simp[Gy]];exact Iw.nil,dA _ _⟩
 rcases bK k.length with h|h
 .have q:k=[]:=bL h;subst q;have:b=[]:=bL (by rw[<-d];rfl);subst this;refine(AnyF.slices_SortFunc_none (P:=prog) (ρ:=Tryz.laysSS_ren) { Tryz.laysSS with } _ c _ w).mono ?_;rintro e f ⟨rfl,rfl⟩;exact⟨rfl,by rw[show Gy []=[] by simp[Gy]];exact⟨[],i,rfl,l,aL⟩,dA _ _⟩
 exact aj m c a b k w h (by rw[d];exact o) j i d l n
end
section
open Go.RowKit Go.BigFrame
theorem Gb.below{c:Option Nat}(h:a.grownBy w c)(b:Be w l):a.grownBy l c:=h.trans ⟨b.os,b.tape,b.output,b.size,λk d _=>b.block k d⟩
theorem Iw.at_(s:Iw w b (.slice (some ⟨h,0,none⟩) i j) e)(v:e.length=i){k:Nat}(o:k<i):
 ∃A c,Cq w h k (.slice A (lt_ e k).length c)/\SpS w A (lt_ e k).length (lt_ e k)/\w.frozen? ⟨h,k,none⟩=false/\h<w.heap.size/\ElS w b (.slice A (lt_ e k).length c) (lt_ e k):=by
 obtain⟨g,m,n,x,t⟩:=s;have f:g.length=i:=by rw[n,v]
 subst f;have a:k<g.length:=o;have d:=OwG.cells m k (by omega);rw[sj,aW a]at d;have u:=t k g[k] (lt_ e k) (aW a) (O7 (by rw[<-n];exact o));obtain⟨A,c,p,q,l,r⟩:=u;rw[p]at d;exact⟨A,c,d,l,OwG.frozen m k,Bi d,⟨A,c,rfl,q,l,r⟩⟩
theorem Iw.store(H:Iw w b (.slice (some ⟨h,0,none⟩) i j) e)(L:e.length=i){k:Nat}(N:k<i)(E:ElS w b g f):
 Iw (w.setCell ⟨h,k,none⟩ g) b (.slice (some ⟨h,0,none⟩) i j) (e.set k f)/\w.grownBy (w.setCell ⟨h,k,none⟩ g) (some h):=by
 obtain⟨q,I,D,J,K⟩:=H;have C:q.length=i:=by rw[D,L]
 subst C;let⟨r,v,s,z,t,u,l⟩:=Rx I;have hgr:w.grownBy (w.setCell ⟨h,k,none⟩ g) (some h):=⟨rfl,rfl,rfl,by simp[World.setCell],λM _ B=>dN w _ g M λG=>B (by rw[G])⟩;have p:g.oneCell'=true:=by obtain⟨A,c,rfl,_⟩:=E;rfl
 refine⟨⟨q.set k g,?_,by simpa using D,?_,?_⟩,hgr⟩
 .have d:(q.set k g).length=q.length:=by simp
  have y:(w.setCell ⟨h,k,none⟩ g).heap[h]? = some (.cells (r.setIfInBounds k g) 48 (0,0)):=by
   simp[World.setCell,eS,v]
  refine⟨by rw[Cz Ss],.inr ⟨h,j,_,by rw[d],s,y,by rw[d];exact z,t,by simpa using u,?_⟩⟩;rw[sj,d];rw[Array.toList_setIfInBounds,List.take_set,l]
 .intro x a;rcases fE a with a|rfl
  .exact J x a
  exact p
 intro F x m a n;by_cases o:k=F
 .subst o;rw[List.getElem?_set_self (by omega)]at a;rw[List.getElem?_set_self (by omega)]at n;injection a with a
  injection n with n
  subst a n;exact E.rowsort v hgr
 rw[List.getElem?_set_ne o]at a n;exact(K F x m a n).rowsort v hgr
theorem Iw.clear_{n c i:Nat}(d:Iw w b (.slice (some ⟨h,0,none⟩) n c) e)(E:e.length=n)(D:i<n):
 ∃W,(∀H,(Builtin.clear_ #[37] H #[.slice (some ⟨h,i,none⟩) (n-i) (c-i)]).run prog w=.ok (.tuple #[]) W)/\Iw W b (.slice (some ⟨h,0,none⟩) i c) (e.take i)/\w.grownBy W (some h):=by
 obtain⟨r,m,o,v,x⟩:=d;have k:r.length=n:=by rw[o,E]
 subst k;let⟨s,C,y,F,A,B,g⟩:=Rx m;let⟨W,q,G,hgr⟩:=OwG.clear (P:=prog) (t:=37) (i:=i) (z:=.slice none 0 0) Ss underlying37 (λ_=>by kernel_rfl) rfl (by intro u a;simp[Value.cells]at a;subst a;rfl) (by omega) m rfl D;rw[dM]at q;refine⟨W,q,⟨r.take i,G,by rw[bC,bC,o],λu a=>v u (eY a),λj u l a p=>?_⟩,hgr⟩
 have f:j<i:=by
  rcases bG j i with d|d
  .exact d
  rw[bI (by rw[bC];omega)] at a;cases a
 rw[eK f]at a p;exact(x j u l a p).rowsort C hgr
theorem Iw.take(c:Iw w b (.slice (some ⟨h,0,none⟩) i j) e)(g:e.length=i):i<=j:=by
 obtain⟨k,d,f,_⟩:=c;have a:k.length=i:=by rw[f,g]
 subst a;exact(Rx d).choose_spec.2.2.1
theorem Yi(a d:LP)(e:i<=1000000)(f:nb<=1000000)(g:SpS w c i a)(j:SpS w n nb d):Calls prog 334 #[.slice c i b,.slice n nb h] w (Bz w (.bool (eqL a d))) :=
 (l9 c n b h i nb a d w e f g j).mono λ_ _ ⟨k,l⟩=>⟨k,l.below⟩
theorem ji{x:LP}(h:b<e.length):(e.set b x).take (b+1)=e.take b++[x]:=by
 rw[cG (by simpa using h)];simp[List.take_set_of_le]
theorem Ajl{x:LP}(c:b<e.length):lt_ (e.set b x) h=if b=h then x else lt_ e h:=by
 unfold lt_;by_cases a:b=h
 .subst a;simp[c]
 rw[if_neg a,List.getD,List.getD,List.getElem?_set_ne a]
theorem Sw(g q n:Nat)(u:Nat)(l:List LP)(w:World)(hl:n<=1000000)(b2:∀t∈l,t.length<=1000000)(hn:l.length=n)(hs:Iw w u (.slice (some ⟨g,0,none⟩) n q) l):Calls prog 333 #[.slice (some ⟨g,0,none⟩) n q,.func (.func 334) #[] #[]] w λe w'=>∃m,e=.returned (.slice (some ⟨g,0,none⟩) m q)/\m=(Eg eqL [] l).length/\Iw w' u (.slice (some ⟨g,0,none⟩) m q) (Eg eqL [] l)/\w.grownBy w' (some g):=by
 have bx:n<=q:=hs.take hn;have F:=Ar hn;have X:=Ar (show Eg eqL [] l=Lr eqL l [] n by unfold Eg;rw[hn]);have G:=Ar (show ∀k,k<n->(lt_ l k).length<=1000000 from λk hk=>b2 _ (I9 (by rw[hn];exact hk)));clear hn b2;by_cases h2:n<2
 .go_enter func333,ntmps333
  go_wp2;go_ret
  have e:Eg eqL [] l=l:=by
   rw[X.out];have hn:=F.out;rcases bG n 1 with h|h
   .have h0:n=0:=aK
    subst h0;rw[bL hn];rfl
   have h0:n=1:=aK
   subst h0;rw[Nu,<-Nj,cW aK]
  exact⟨n,rfl,by rw[e,F.out],by rw[e];exact hs,dA _ _⟩
 go_enter func333,ntmps333
 go_wp2;go_loopw [5] (λi wr=>∃k:Nat,1<=k/\k<=n/\i=.int .i64 k/\Hid (Lr eqL l [] k=l.take k)/\Iw wr u (.slice (some ⟨g,0,none⟩) n q) l/\w.grownBy wr (some g)) λi _=>n-(intOf i).toNat
 case atStart=>exact⟨1,aA,aK,rfl,by rw[Nu,<-Nj (h:=by rw[F.out];omega)];exact Ar rfl,hs,dA _ _⟩
 clear hs;obtain⟨k,cy,hk,rfl,hp,v,S⟩:=hrel;by_cases a1:k<n
 .obtain⟨j,hj⟩:∃j,k-1=j:=⟨_,rfl⟩
  have T:j<n:=aK
  obtain⟨A1,c1,H,y,_,I,-⟩:=v.at_ F.out a1;obtain⟨A2,c2,Q,s2,_,_,-⟩:=v.at_ F.out T;have l1:=G.out k a1;have l2:=G.out j T;let⟨O,B⟩:=gN ((lt_ l k).length)
  let⟨P,D⟩:=gN ((lt_ l j).length)
  rw[B]at H y l1;rw[D]at Q s2 l2;clear B D;have e1:IntKind.i64.wrap ((k:Int)-1)=(j:Int):=(Fm _ aK aK).trans aK;have cx:(j:Int)<(n:Int):=aK
  have da:(k:Int)<(n:Int):=aK
  by_cases o:eqL (lt_ l k) (lt_ l j)=true
  .go_wp2_with fail
   refine Bh wr [(⟨g,k,none⟩,.slice A1 O c1),(⟨g,j,none⟩,.slice A2 P c2)] ⟨bl0,aR⟩ ?_
   repeat
    apply Cx
    .rfl
    .intro U a;have hx:=a.2;simp only[AC]at hx
     go_simp
     first|rfl|exact Bw a (Yi (lt_ l k) (lt_ l j) l1 l2 (y.keep a.1) (s2.keep a.1))
    go_simp
   refine cH ?_;intro U b;have f:=b.1;clear b H Q e1 y s2;have cz:¬k=q:=aK
   have J:=Ar (Nt (eq:=eqL) (l:=l) (d:=[]) (k:=k) (by rw[hj];exact o));have b1:(k:Int)<=(n:Int):=aK
   go_wp2_with fail;let⟨M,hM⟩:=gN (n-k)
   let⟨C,hC⟩:=gN (q-k)
   rw[hM,hC];have cm:n<=k+M:=aK
   have cn:k+M<=n:=aK
   have b8:=Ar (show n=k+M by omega);have ck:M<=C:=aK
   clear hM hC;have HD:=Ar o;have A:(Lr eqL l [] k).length=k:=by rw[hp.out,bC,F.out];omega
   have b7:=Ar A;have HO:=Ar (v.keep f);have HG:=Ar (Gb.below S f);clear o A v S b1 f I;go_loopw [5,7] (λc i wx=>∃(p c':Nat) (z:List LP),1<=p/\p<=M/\i=p/\c=c'/\Hid (c'=(Lr eqL l [] (k+p)).length)/\c'+1<=k+p/\Hid (z.length=n)/\Hid (z.take c'=Lr eqL l [] (k+p))/\Hid (∀x,k+p<=x+1->x<n->lt_ z x=lt_ l x)/\Iw wx u (.slice (some ⟨g,0,none⟩) n q) z/\w.grownBy wx (some g)) λ_ i _=>M-(intOf i).toNat
   case atStart=>exact⟨1,k,l,aA,aK,rfl,rfl,Ar (by rw[J.out,b7.out]),aA,F,Ar (by rw[J.out,hp.out]),Ar λx _ _=>rfl,HO.out,HG.out⟩
   clear HO HG;obtain⟨p,c,z,db,dk,rfl,rfl,hc,cw,K,L,N,v,S⟩:=hrel;by_cases ds:p<M
   .obtain⟨r,hr⟩:∃r,p-1=r:=⟨_,rfl⟩
    have Y:k+p<n:=aK
    have Z:k+r<n:=aK
    have R:c<n:=aK
    let⟨A1,c1,H,y,_,I,V⟩:=v.at_ K.out Y;obtain⟨A2,c2,Q,s2,_,_,-⟩:=v.at_ K.out Z;obtain⟨A3,c3,d3,_,f3,_,-⟩:=v.at_ K.out R;rw[N.out _ aK Y]at H y V;rw[N.out _ aK Z]at Q s2;have l1:=G.out _ Y;have l2:=G.out _ Z;let⟨O,B⟩:=gN ((lt_ l (k+p)).length)
    let⟨P,D⟩:=gN ((lt_ l (k+r)).length)
    rw[B]at H y l1 V;rw[D]at Q s2 l2;clear B D;have e1:IntKind.i64.wrap ((p:Int)-1)=(r:Int):=(Fm _ aK aK).trans aK;have dx:(r:Int)<(M:Int):=aK
    have c6:(p:Int)<(M:Int):=aK
    have bc:(c:Int)<(n:Int):=aK
    by_cases o:eqL (lt_ l (k+p)) (lt_ l (k+r))=true
    .have E:=Ar (Nt (eq:=eqL) (l:=l) (d:=[]) (k:=k+p) (by rw[show k+p-1=k+r by omega];exact o))
     go_wp2_with fail;refine Bh wr [(⟨g,k+p,none⟩,.slice A1 O c1),(⟨g,k+r,none⟩,.slice A2 P c2)] ⟨bl0,aR⟩ ?_
     repeat
      apply Cx
      .rfl
      .intro U a;have hx:=a.2;simp only[AC]at hx
       go_simp
       first|rfl|exact Bw a (Yi (lt_ l (k+p)) (lt_ l (k+r)) l1 l2 (y.keep a.1) (s2.keep a.1))
      go_simp
     refine cH ?_;intro U b;have f:=b.1;clear b H Q d3 e1 y s2;go_wp2;exact⟨⟨p+1,c,z,aK,aK,aP,rfl,Ar (by rw[<-cQ,E.out];exact hc.out),aK,K,Ar (by rw[<-cQ,E.out];exact L.out),Ar λx h1 h2=>N.out x aK h2,v.keep f,Gb.below S f⟩,aI⟩
    have s:eqL (lt_ l (k+p)) (lt_ l (k+r))=false:=by simpa using o
    clear o;have E:=Ar (Wx (eq:=eqL) (l:=l) (d:=[]) (k:=k+p) (by rw[show k+p-1=k+r by omega];exact s))
    go_wp2_with fail;refine Bh wr [(⟨g,k+p,none⟩,.slice A1 O c1),(⟨g,k+r,none⟩,.slice A2 P c2)] ⟨bl0,aR⟩ ?_
    repeat
     apply Cx
     .rfl
     .intro U a;have hx:=a.2;simp only[AC]at hx
      go_simp
      first|rfl|exact Bw a (Yi (lt_ l (k+p)) (lt_ l (k+r)) l1 l2 (y.keep a.1) (s2.keep a.1))
     go_simp
    refine cH ?_;intro U b;have f:=b.1;have cc:=Aq f H;have cd:=Aq f d3;have cg:=(f.frozen (p:=⟨g,c,none⟩) I).trans f3;have c0:g<U.heap.size:=aZ I f.size;let⟨bm,bd⟩:=Iw.store (v.keep f) K.out R (V.keep f);clear b H Q d3 e1 y s2;go_wp2_with fail;refine⟨⟨p+1,c+1,z.set c (lt_ l (k+p)),aK,aK,aP,aP,Ar (by rw[<-cQ,E.out,bA,<-hc.out];rfl),aK,Ar (by rw[cD];exact K.out),Ar ?_,Ar λx h1 h2=>?_,bm,(Gb.below S f).trans bd⟩,aI⟩
    .rw[<-cQ,E.out,<-L.out];exact ji (by rw[K.out];omega)
    rw[Ajl (by rw[K.out];omega),if_neg aK];exact N.out x aK h2
   obtain rfl:M=p:=aK
   let⟨W,c9,bp,bl⟩:=Iw.clear_ (i:=c) v K.out aK;have cu:¬c=q:=aK
   have bc:(c:Int)<=(n:Int):=aK
   go_wp2;go_ret;have e:Eg eqL [] l=z.take c:=by rw[X.out,L.out,<-b8.out]
   exact⟨c,rfl,by rw[e,L.out];exact hc.out,by rw[e];exact bp,S.trans bl⟩
  have s:eqL (lt_ l k) (lt_ l j)=false:=by simpa using o
  clear o;go_wp2_with fail;refine Bh wr [(⟨g,k,none⟩,.slice A1 O c1),(⟨g,j,none⟩,.slice A2 P c2)] ⟨bl0,aR⟩ ?_
  repeat
   apply Cx
   .rfl
   .intro U a;have hx:=a.2;simp only[AC]at hx
    go_simp
    first|rfl|exact Bw a (Yi (lt_ l k) (lt_ l j) l1 l2 (y.keep a.1) (s2.keep a.1))
   go_simp
  refine cH ?_;intro U b;have f:=b.1;clear b H Q e1 y s2;go_wp2_with fail;have J:=Ux (eq:=eqL) (d:=[]) (k:=k) (by rw[F.out];exact a1) hp.out (by rw[hj];exact s);exact⟨⟨k+1,aK,aK,aP,J,v.keep f,Gb.below S f⟩,aI⟩
 obtain rfl:n=k:=aK
 go_wp2;go_ret;have e:Eg eqL [] l=l:=by rw[X.out,hp.out,cW (by rw[F.out];exact aA)]
 exact⟨n,rfl,by rw[e,F.out],by rw[e];exact v,S⟩
end
def Gk(s:LP)(b a:List LP):Nat->Int×List LP
 | 0=>(0,a)
 | j+1=>if (Gk s b a j).1≠0 then Gk s b a j else if (Nz s (Qf (lt_ b j))).1≠0 then ((Nz s (Qf (lt_ b j))).1,[]) else (0,(Gk s b a j).2++[(Nz s (Qf (lt_ b j))).2])
def Df(b a:List LP):Nat->Int×List LP
 | 0=>(0,[])
 | k+1=>if (Df b a k).1≠0 then Df b a k else Gk (lt_ b k) a (Df b a k).2 a.length
def Cl(a b:LP):Int×List LP :=
 if (Bb a).1≠0 then ((Bb a).1,[]) else if (Bb b).1≠0 then ((Bb b).1,[])
 else if (Df (Bb a).2 (Bb b).2 (Bb a).2.length).1≠0 then ((Df (Bb a).2 (Bb b).2 (Bb a).2.length).1,[])
 else (0,Eg eqL [] (Gy (Df (Bb a).2 (Bb b).2 (Bb a).2.length).2))
theorem l8{a:List LP}(h:(Gk f e a b).1=x)(c:x≠0):∀m,(Gk f e a (b+m)).1=x:=by
 intro m;induction m with
 | zero=>exact h
 | succ m ih=>rw[<-cQ,Gk,if_pos (by rw[ih];exact c)];exact ih
theorem l7{a:List LP}(h:(Df e a b).1=x)(c:x≠0):∀m,(Df e a (b+m)).1=x:=by
 intro m;induction m with
 | zero=>exact h
 | succ m ih=>rw[<-cQ,Df,if_pos (by rw[ih];exact c)];exact ih
theorem Acl:(Nz f k).2.length<=160:=by
 unfold Nz;split
 .simp
 split
 .simp
 split
 .simp
 split
 .simp
 rename_i h;exact Nat.le_of_not_lt h
theorem Ol{s:LP}{ts:List LP}(h:∀t∈e,t.length<=160):∀j,(Gk s ts e j).2.length<=e.length+j/\∀t∈(Gk s ts e j).2,t.length<=160:=by
 intro j;induction j with
 | zero=>exact⟨aA,h⟩
 | succ j ih =>
   rw[Gk];split
   .exact⟨aK,ih.2⟩
   split
   .simp
   refine⟨aO,λt a=>?_⟩;rcases bD.1 a with a|a
   .exact ih.2 t a
   simp at a;subst a;exact Acl
theorem Kh{ss ts:List LP}:∀k,(Df ss ts k).2.length<=k*ts.length/\∀t∈(Df ss ts k).2,t.length<=160:=by
 intro k;induction k with
 | zero=>simp[Df]
 | succ k ih =>
   rw[Df];split
   .exact⟨by rw[cN];omega,ih.2⟩
   have:=Ol (s:=lt_ ss k) (ts:=ts) ih.2 ts.length;exact⟨by rw[cN];omega,this.2⟩
theorem br{b:LP}(h:¬(Bb f).1=0):Cl f b=((Bb f).1,[]):=by unfold Cl;rw[if_pos h]
theorem bo(h:(Bb f).1=0)(a:¬(Bb k).1=0):Cl f k=((Bb k).1,[]):=by unfold Cl;rw[if_neg (by simpa using h),if_pos a]
theorem bn(h:(Bb f).1=0)(a:(Bb k).1=0):Cl f k=if (Df (Bb f).2 (Bb k).2 (Bb f).2.length).1≠0 then ((Df (Bb f).2 (Bb k).2 (Bb f).2.length).1,[]) else (0,Eg eqL [] (Gy (Df (Bb f).2 (Bb k).2 (Bb f).2.length).2)):=by unfold Cl;rw[if_neg (by simpa using h),if_neg (by simpa using a)]
theorem U5(a:Nat)(l:List LP)(q:l.length<=1000000)(d:∀t∈l,t.length<=1000000)(s:Iw w a g l):Calls prog 333 #[g,.func (.func 334) #[] #[]] w λe f=>∃i,e=.returned i/\Iw f a i (Eg eqL [] l)/\w.grownBy f g.ownBlock:=by
 obtain⟨j,h,b,n,o⟩:=s;rcases OwG.form h with⟨rfl,rfl⟩|⟨k,c,rfl,u,v,x,y⟩
 .have:l=[]:=bL (by rw[<-b];rfl);subst this;go_in;go_wp2;go_ret;exact⟨_,rfl,Iw.nil,dA _ _⟩
 refine(Sw k c j.length a l w (by rw[b];exact q) d b.symm ⟨j,h,b,n,o⟩).mono ?_;rintro e f ⟨m,rfl,z,r,p⟩;exact⟨_,rfl,r,p⟩
theorem G6(c:Be a w)(h:Iw w a g e)(d:w.grownBy l g.ownBlock):Be a l:=by
 obtain⟨f,b,_⟩:=h;exact Bk c b d
theorem Iw.alloc(h:Iw w b g e)(o:Obj):Iw (w.alloc o) b g e:=h.keep blA
theorem Oi(a z:LP)(P:i<=9223372036854775807)(b0:nb<=9223372036854775807)(O:i<=b)(ak:nb<=h)(S:SpS w c i a)(b4:SpS w n nb z):Calls prog 262 #[.slice c i b,.slice n nb h] w (wg w (Cl a z)):=by
 by_cases h1:(Bb a).1=0
 .by_cases h2:(Bb z).1=0
  .have g:=Ar (bn h1 h2);have Z:=Dg a;have sB:=Dg z;have HA:=Ar Z.2;have HB:=Ar sB.2;replace Z:=Z.1;replace sB:=sB.1;let⟨f,U⟩:=gN ((Bb a).2)
   let⟨d,V⟩:=gN ((Bb z).2)
   rw[U]at g HA Z;rw[V]at g HB sB;have b9:=Ar U;have ba:=Ar V;clear U V;go_in
   go_upto_region 8 with (go_at_call 214;first|(refine aF (Ei z b0 ak (b4.keep p)) λN v2 K C=>?_;rw[ba.out]at K)|(refine aF (Ei a P O S) λw1 v1 E p=>?_;rw[b9.out]at E))
   obtain⟨A1,c1,rfl,bt,a8,-⟩:=(E.keep C).spss;obtain⟨A2,c2,rfl,bu,ad,-⟩:=K.spss;have hb:=An p C;clear E K p C;let⟨r,Q⟩:=gN f.length
   let⟨H,R⟩:=gN d.length
   rw[Q]at a8 bt Z g ⊢;rw[R]at ad bu sB ⊢;have b8:=Ar Q;have A:=Ar R;clear Q R;go_wp2;go_loopw [9,34] (λv Y wr=>∃k:Nat,k<=r/\Y=k/\Hid ((Df f d k).1=0)/\Iw wr N v (Df f d k).2/\Be N wr) λ_ Y _=>r-(intOf Y).toNat
   case atStart=>exact⟨0,aB,rfl,Ar rfl,Iw.nil,bl0⟩
   obtain⟨k,hk,rfl,hz,L,J⟩:=hrel;by_cases aw:k<r
   .obtain⟨b1,o1,Ak,ck,rfl,bs,e1,e2,e3,e4⟩:=a8.at_ aw;have l1:(lt_ f k).length<=3:=HA.out _ (I9 (by rw[b8.out];exact aw));have u:=Kh (ss:=f) (ts:=d) k;have b5:(Df f d k).2.length<=1681:=bB u.1 (bB (cJ (show k<=41 by omega) (show d.length<=41 by rw[A.out];exact sB)) aK);have I:=Ar u.2;clear u;generalize c9:(lt_ f k).length=nk at e1 e2 e3 l1;clear c9;have bc:=Aq J e1;clear e1 bs;go_wp2;clear bc;obtain⟨wo,rfl⟩:∃wo:World,wo=wr:=⟨_,rfl⟩
    go_loopw [9,40] (λv Y wx=>∃j:Nat,j<=H/\Y=j/\Hid ((Gk (lt_ f k) d (Df f d k).2 j).1=0)/\Iw wx N v (Gk (lt_ f k) d (Df f d k).2 j).2/\Be N wx) λ_ Y _=>H-(intOf Y).toNat
    case atStart=>exact⟨0,aB,rfl,Ar rfl,L,J⟩
    clear L J;obtain⟨j,hj,rfl,X,L,l⟩:=hrel;by_cases au:j<H
    .obtain⟨b2,o2,Aj,cj,rfl,ai,g1,g2,g3,g4⟩:=ad.at_ au;have l2:(lt_ d j).length<=3:=HB.out _ (I9 (by rw[A.out];exact au));generalize b3:(lt_ d j).length=nj at g1 g2 g3 l2;have a6:=Ar (show (Qf (lt_ d j)).length=nj by rw[R6,b3]);clear b3;have ec:=Aq l g1;clear g1 ai;have b6:=(Ol (s:=lt_ f k) (ts:=d) I.out j).1;have T:(Gk (lt_ f k) d (Df f d k).2 j).2.length<=1000000:=aK
     clear b6;by_cases m:(Nz (lt_ f k) (Qf (lt_ d j))).1=0
     .have G:=Ar (show Gk (lt_ f k) d (Df f d k).2 (j+1)=(0,(Gk (lt_ f k) d (Df f d k).2 j).2++[(Nz (lt_ f k) (Qf (lt_ d j))).2]) by rw[Gk,if_neg (by rw[X.out];simp),if_neg (by rw[m];simp)])
      go_wp2_with (first|(go_at_call 329;refine aF (Q5 (lt_ d j) (g3.keep l)) λw5 v5 y o=>?_;obtain⟨A5,c5,rfl,bx,B,W,-⟩:=OwS.els y;rw[a6.out]at B ⊢)|(go_at_call 328;refine aF (vw (lt_ f k) (Qf (lt_ d j)) (e3.keep (An l o)) B e4 W) λw6 v6 F x=>?_;obtain⟨A6,c6,rfl,-,-,-,-⟩:=OwS.els F)|(at_builtin;refine Fo rfl N (Gk (lt_ f k) d (Df f d k).2 j).2 (((L.keep o).keep x).alloc _) w6 1 _ (Nz (lt_ f k) (Qf (lt_ d j))).2 48 (Bf.new _ _ _) ((ElS.lower (OwS.els F) (An l o).size).keep blA) (hlen:=T) (Ao (An (An l o) x)).size ?_;intro v7 w7 cc c4 cz))
      exact aE ⟨Ar (by rw[G.out]),by rw[G.out];exact cc,G6 (Ao (An (An l o) x)) (((L.keep o).keep x).alloc _) c4⟩
     have q:((Nz (lt_ f k) (Qf (lt_ d j))).1 != 0)=true:=by simpa using m
     have D:(Df f d r).1=(Nz (lt_ f k) (Qf (lt_ d j))).1:=by
      have a1:(Gk (lt_ f k) d (Df f d k).2 (j+1)).1=(Nz (lt_ f k) (Qf (lt_ d j))).1:=by rw[Gk,if_neg (by rw[X.out];simp),if_pos m]
      have a2:=l8 a1 m (H-(j+1));rw[show j+1+(H-(j+1))=H by omega]at a2;have a3:(Df f d (k+1)).1=(Nz (lt_ f k) (Qf (lt_ d j))).1:=by rw[Df,if_neg (by rw[hz.out];simp),A.out];exact a2
      have a4:=l7 a3 m (r-(k+1))
      rwa [show k+1+(r-(k+1))=r by omega] at a4
     have M:Cl a z=((Nz (lt_ f k) (Qf (lt_ d j))).1,[]):=by rw[g.out,if_pos (by rw[D];exact m),D]
     have HR:=Ar M;clear M D
     go_wp2_with (first|(go_at_call 329;refine aF (Q5 (lt_ d j) (g3.keep l)) λw5 v5 y o=>?_;obtain⟨A5,c5,rfl,bx,B,W,-⟩:=OwS.els y;rw[a6.out]at B ⊢)|(go_at_call 328;refine aF (vw (lt_ f k) (Qf (lt_ d j)) (e3.keep (An l o)) B e4 W) λw6 v6 F x=>?_))
     go_ret2
     exact⟨_,by rw[HR.out];rfl,by rw[HR.out];exact Iw.nil,An hb (An (An l o) x)⟩
    obtain rfl:H=j:=aK
    have e9:=Ar (show Df f d (k+1)=Gk (lt_ f k) d (Df f d k).2 H by rw[Df,if_neg (by rw[hz.out];simp),A.out]);go_wp2;exact aE ⟨Ar (by rw[e9.out];exact X.out),by rw[e9.out];exact L,l⟩
   obtain rfl:r=k:=aK
   have u:=Kh (ss:=f) (ts:=d) r;have b5:(Df f d r).2.length<=1681:=bB u.1 (bB (cJ Z (show d.length<=41 by rw[A.out];exact sB)) aK);have I:=Ar (show ∀t∈(Df f d r).2,t.length<=1000000 from λt ht=>bB (u.2 t ht) aK);have HR:=Ar (show Cl a z=(0,Eg eqL [] (Gy (Df f d r).2)) by rw[g.out,if_neg (by rw[hz.out];simp)]);clear u
   go_wp2_with (first|(go_at_call 330;refine rR (kb N (Df f d r).2 aK I.out L) λw5⟨y,c0⟩=>?_)|(go_at_call 333;refine aF (U5 N (Gy (Df f d r).2) (by rw[Lx];omega) (λt ht=>I.out t (Qs.1 ht)) y) λw6 v6 F c3=>?_))
   go_ret2
   exact⟨v6,by rw[HR.out];rfl,by rw[HR.out];exact Iw.lower F hb.size,An hb (G6 (G6 J L c0) y c3)⟩
  have M:=Ar (bo h1 h2);have q2:((Bb z).1 != 0)=true:=by simpa using h2
  go_in
  go_wp2_with (go_at_call 214;first|(refine aF (Ei z b0 ak (b4.keep p)) λN v2 K C=>?_)|(refine aF (Ei a P O S) λw1 v1 E p=>?_))
  go_ret2
  exact⟨_,by rw[M.out];rfl,by rw[M.out];exact Iw.nil,An p C⟩
 have M:=Ar (br (b:=z) h1);have q2:((Bb a).1 != 0)=true:=by simpa using h1
 go_in
 go_wp2_with (go_at_call 214;refine aF (Ei a P O S) λw1 v1 E p=>?_)
 go_ret2
 exact⟨_,by rw[M.out];rfl,by rw[M.out];exact Iw.nil,p⟩
end Go.Proofs.YtboghahlhmnblaaGreat
