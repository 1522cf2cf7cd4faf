/- Lean texts of the claim. -/
import Derived.Test.YtboghahlhmnblaaGreatZv17
import Derived.Test.YtboghahlhmnblaaGreatZv15
import Derived.Test.YtboghahlhmnblaaGreatZv16
import Derived.Test.YtboghahlhmnblaaGreatZv10
namespace Go.Proofs.YtboghahlhmnblaaGreat
set_option linter.all false
set_option maxRecDepth 100000
set_option maxHeartbeats 0
open Go.RowKit Go.Proofs.Tryz
variable{a:World}{b j:Nat}{c:TypeId}{e:List Int}{f l o p r:Value}{g n:Int}{h:Array Value}{i:LP}{k:List EdgeP}{m:Int×Int}{q:Bool}{x z:Int}{d:Value}{w:World}
theorem Ath{b a:Int}:Calls prog 304 #[.agg #[g,n],.agg #[b,a]] w λe c=>e=.returned (.bool (G0 (g,n) (b,a)))/\Below w w c:=by
 go_enter func304,ntmps304;go_wp2;all_goals go_ret
 all_goals exact⟨Bn (by rw[cZ];simp[G0]<;>omega),(Ao (Ao (aV _ _)))⟩
theorem Bf.new4(w:World)(o c a:Obj)(t:TypeId)(b:Array Value):Bf ((((w.alloc o).alloc c).alloc a).alloc (.cells b t)) (w+1+1+1) t b:=by
 have h:=Bf.new (((w.alloc o).alloc c).alloc a) t b;simpa using h
theorem Qu:Calls prog 73 #[.agg #[.bool q,g]] w (Bz w (.agg #[.bool q,(g % 4:Int)])):=by
 have b:=xw g 4 aK;have c:=xz g 4 aK;generalize e:g.tmod 4=t at b c;by_cases d:t<0
 .have a:t+4=g % 4:=aK
  go_in;go_wp2;exact bR ⟨rfl,Ao blA⟩ rfl (by simp[results,results73,go_sem])
 have a:t=g % 4:=aK
 rw[a]at e d;go_in;go_wp2;exact bR ⟨rfl,Ao blA⟩ rfl (by simp[results,results73,go_sem])
theorem L6{f:Bool}{q x y:Int}:Calls prog 44 #[.agg #[.bool f,q],.agg #[x,y]] w (Bz w (.agg #[(Cd f q (x,y)).1,(Cd f q (x,y)).2])):=by
 let⟨b,c⟩:=gN (Am2 f (x,y))
 have J:=Ar (show Cd f q (x,y)=Tc (q % 4).toNat b by unfold Cd;rw[c]);have L:=Ar c;clear c;cases f
 all_goals
  go_enter func44,ntmps44;go_upto_region 4 with fail;refine Cu (λX=>∃g:Bool,Bf X w 64 #[.bool g,q]/\Bf X (w+1+1) 65 #[.int .i64 0,.int .i64 0]/\Bf X (w+1+1+1) 65 #[b.1,b.2]/\Be w X) ⟨_,(((Bf.new _ _ _).alloc _).alloc _).alloc _,(Bf.new3 _ _ _ _ _).alloc _,by rw[<-L.out];exact Bf.new4 _ _ _ _ _ _,(Ao (Ao (Ao (Ao (aV _ _)))))⟩ ?_;rintro X ⟨g,u,G,t,F⟩;let⟨S,T⟩:Cq X w 0 (.bool g)/\Cq X w 1 q:=⟨u.cell 0,u.cell 1⟩
  go_wp2_with (go_at_call 73;refine rR (Qu) λn a=>?_)
  let⟨m,I,R⟩:∃m:Nat,q % 4=(m:Int)/\m<=3:=⟨(q % 4).toNat,aK,aK⟩
  have K:=Ar (show (q % 4).toNat=m by omega);have s:=Ar (show Bf (n.alloc (.cells #[.bool g,(q % 4:Int)] 64)) n 64 #[.bool g,(m:Int)] by rw[<-I];exact Bf.new _ _ _);have l:w.heap.size+1+1+1<n.heap.size:=(t.keep a).lt;let⟨r,j⟩:=gN n.heap.size
  rw[j]at s l ⊢;have B:=Ar ((G.keep a).alloc (.cells #[.bool g,(q % 4:Int)] 64));have A:=Ar ((t.keep a).alloc (.cells #[.bool g,(q % 4:Int)] 64));have z:=Ar (Ao (An F a) (o:=.cells #[.bool g,(q % 4:Int)] 64));clear u G t F S T a I j;go_loopw [7] (λi wr=>∃k:Nat,k<=m/\i=k/\Bf wr (w+1+1+1) 65 #[(Tc k b).1,(Tc k b).2]/\Bf wr (w+1+1) 65 #[.int .i64 0,.int .i64 0]/\Bf wr r 64 #[.bool g,(m:Int)]/\Be w wr) λi _=>m-(intOf i).toNat
  case atStart=>exact⟨0,aB,rfl,A.out,B.out,s.out,z.out⟩
  clear A B s z;obtain⟨k,Z,rfl,d,h,E,H⟩:=hrel;have M:=d.cell 0;have N:=d.cell 1;have U:=d.frozen 0;have V:=d.frozen 1;have l1:=d.lt;have C:=h.cell 0;have D:=h.cell 1;have W:=h.frozen 0;have Y:=h.frozen 1;have l2:=h.lt;have O:=E.cell 1;simp only[cA,bS,cE]at M N C D O;by_cases Q:k<m
  .go_wp2_with fail
   exact aE ⟨(d.set_ 0 _).set_ 1 _,(h.far (p:=⟨w+1+1+1,0,none⟩) aL _).far (p:=⟨w+1+1+1,1,none⟩) aL _,(E.far (p:=⟨w+1+1+1,0,none⟩) aO _).far (p:=⟨w+1+1+1,1,none⟩) aO _,Ba (Ba H (p:=⟨w+1+1+1,0,none⟩) aO) (p:=⟨w+1+1+1,1,none⟩) aO⟩
  obtain rfl:m=k:=aK
  go_wp2_with fail;refine cB (v:=.agg #[(Tc m b).1,(Tc m b).2]) (by simp[results,results44,go_sem,C,D]) rfl ⟨by rw[J.out,K.out],Ba (Ba H (p:=⟨w+1+1,0,none⟩) aO) (p:=⟨w+1+1,1,none⟩) aO⟩
theorem Ar6{f:Bool}:Calls prog 81 #[g,.bool q,.agg #[.bool f,n]] w (Bz w (.bool (Acf g q f n))):=by
 have c:(n % 4).tmod 2=n % 4 % 2:=eO (Int.emod_nonneg _ aK);have b:((n % 4 % 2:Int) == 0)=(n % 4 == 0 || n % 4 == 2):=by rw[cZ];simp;omega
 go_in
 go_wp2_with (go_at_call 73;refine rR (Qu) λd a=>?_)
 all_goals
  go_ret;refine⟨Bn ?_,Ao (An blA a)⟩;clear a;unfold Acf
  simp_all
theorem jd{f:Bool}{q:Int}{l:LP}{k:Nat}(h:k<l.length):(F6 f q l).take (k+1)=(F6 f q l).take k++[Cd f q (gt l (if f then l.length-1-k else k))]:=by
 rw[cG (by rw[E8];exact h),<-Xt h];simp[gt,E8,h]
theorem bg(f:Bool)(q:Int)(A:Option Addr)(M n:Nat)(l:List (Int×Int))(hn:n<=1000000)(V:SpS w A n l):Calls prog 20 #[.agg #[.bool f,q],.slice A n M] w (Vi w (F6 f q l)):=by
 have L:=Ar V.1;go_enter func20,ntmps20;go_wp2;go_loopw [5,6] (λs i wr=>∃k:Nat,k<=n/\i=k/\OwS wr (w+1) s ((F6 f q l).take k)/\Bf wr w 64 #[.bool f,q]/\Below w w wr) λ_ i _=>n-(intOf i).toNat
 case atStart=>exact⟨0,aB,rfl,OwG.nil,Bf.new _ _ _,blA⟩
 obtain⟨k,hk,rfl,j,E,x⟩:=hrel;by_cases C:k<n
 ·obtain⟨b,y,rfl,X,F⟩:=V.at_ C;have G:=Ar (jd (f:=f) (q:=q) (l:=l) (k:=k) (by rw[L.out];exact C));rw[L.out]at G;cases f with
  | true =>
    let⟨i,U,o⟩:∃i:Nat,n-1-k=i/\i<n:=⟨_,rfl,aK⟩
    have Q:(n:Int)-1-(k:Int)=(i:Int):=aK
    have q1:IntKind.i64.wrap ((n:Int)-1)=(n:Int)-1:=Fm _ aK aK;have q2:IntKind.i64.wrap ((n:Int)-1-(k:Int))=(i:Int):=by rw[Q];exact Fm _ aK aK
    rw[if_pos rfl,U]at G;clear U;have I:=Aq x (F i o).1;have J:=Aq x (F i o).2;clear F;have p:((F6 true q l).take k).length<=1000000:=by rw[bC];omega
    have Z:(0:Int)<=(i:Int):=aK
    have z2:(i:Int)<(n:Int):=aK
    have O:=x.size;let⟨h,u⟩:∃h,h=u5:=⟨_,rfl⟩
    rw[<-u]at j ⊢;clear u;have r:some b≠h.ownBlock:=λe=>by have:=(OwG.lt j _ e.symm).1;omega
    have d:some w.heap.size≠h.ownBlock:=λe=>by have:=(OwG.lt j _ e.symm).1;omega
    have K:b<wr.heap.size:=aK
    let⟨B,H⟩:Cq wr w 0 (.bool true)/\Cq wr w 1 q:=⟨E.cell 0,E.cell 1⟩;have P:w.heap.size<wr.heap.size:=Bi B;go_wp2_with fail
    go_region_held3 (λz=>Cq z b (y+i*2) (gt l i).1/\Cq z b (y+i*2+1) (gt l i).2/\Cq z w 0 (.bool true)/\Cq z w 1 q) (first
     | (go_keep;done)
     | exact⟨Aq a I,Aq a J,Aq a B,Aq a H⟩
     | exact⟨Aq blA (Aq a I),Aq blA (Aq a J),Aq blA (Aq a B),Aq blA (Aq a H)⟩
     | (go_split_ands
        refine⟨?_,?_,?_,?_⟩
        ·(show World.cell? _ _=_;rw[c.cell_far _ aO r];assumption)
        ·(show World.cell? _ _=_;rw[c.cell_far _ aO r];assumption)
        ·(show World.cell? _ _=_;rw[c.cell_far _ aO d];assumption)
        (show World.cell? _ _=_;rw[c.cell_far _ aO d];assumption)))
     ((first
       | (go_at_call 44;refine rR (L6) λv a=>?_;have T:wr.heap.size<=v.heap.size:=a.size)
       | (refine Kx (by rfl) (w+1) h ((F6 true q l).take k) (OwG.alloc (OwG.keep j (An blD a)) _) v 1 (Cd true q ((gt l i).1,(gt l i).2)) 65 (Bf.new _ _ _) p (v+1) ?_;intro gg W Y t c N S)))
    have g:Below wr wr v:=An blD a;have D:OwS (v.alloc (.cells #[(Cd true q ((gt l i).1,(gt l i).2)).1,(Cd true q ((gt l i).1,(gt l i).2)).2] 65)) (w+1) h ((F6 true q l).take k):=OwG.alloc (OwG.keep j g) _;have m:=(E.keep g).alloc (.cells #[(Cd true q ((gt l i).1,(gt l i).2)).1,(Cd true q ((gt l i).1,(gt l i).2)).2] 65);go_wp2_with fail;exact aE ⟨by rw[G.out];rw[bC]at t;exact t,(c.block w m.lt d).trans m,Bk (Ao (An x g)) (OwG.lower D aK) c⟩
  | false =>
    let⟨i,R,o⟩:∃i:Nat,k=i/\i<n:=⟨_,rfl,C⟩
    rw[if_neg aL]at G;subst R;have I:=Aq x (F k o).1;have J:=Aq x (F k o).2;clear F;have p:((F6 false q l).take k).length<=1000000:=by rw[bC];omega
    have Z:(0:Int)<=(k:Int):=aK
    have z2:(k:Int)<(n:Int):=aK
    have O:=x.size;let⟨h,u⟩:∃h,h=u5:=⟨_,rfl⟩
    rw[<-u]at j ⊢;clear u;have r:some b≠h.ownBlock:=λe=>by have:=(OwG.lt j _ e.symm).1;omega
    have d:some w.heap.size≠h.ownBlock:=λe=>by have:=(OwG.lt j _ e.symm).1;omega
    have K:b<wr.heap.size:=aK
    let⟨B,H⟩:Cq wr w 0 (.bool false)/\Cq wr w 1 q:=⟨E.cell 0,E.cell 1⟩;have P:w.heap.size<wr.heap.size:=Bi B;go_wp2_with fail
    go_region_held3 (λz=>Cq z b (y+k*2) (gt l k).1/\Cq z b (y+k*2+1) (gt l k).2/\Cq z w 0 (.bool false)/\Cq z w 1 q) (first
     | (go_keep;done)
     | exact⟨Aq a I,Aq a J,Aq a B,Aq a H⟩
     | exact⟨Aq blA (Aq a I),Aq blA (Aq a J),Aq blA (Aq a B),Aq blA (Aq a H)⟩
     | (go_split_ands
        refine⟨?_,?_,?_,?_⟩
        ·(show World.cell? _ _=_;rw[c.cell_far _ aO r];assumption)
        ·(show World.cell? _ _=_;rw[c.cell_far _ aO r];assumption)
        ·(show World.cell? _ _=_;rw[c.cell_far _ aO d];assumption)
        (show World.cell? _ _=_;rw[c.cell_far _ aO d];assumption)))
     ((first
       | (go_at_call 44;refine rR (L6) λv a=>?_;have T:wr.heap.size<=v.heap.size:=a.size)
       | (refine Kx (by rfl) (w+1) h ((F6 false q l).take k) (OwG.alloc (OwG.keep j (An blD a)) _) v 1 (Cd false q ((gt l k).1,(gt l k).2)) 65 (Bf.new _ _ _) p (v+1) ?_;intro gg W Y t c N S)))
    have g:Below wr wr v:=An blD a;have D:OwS (v.alloc (.cells #[(Cd false q ((gt l k).1,(gt l k).2)).1,(Cd false q ((gt l k).1,(gt l k).2)).2] 65)) (w+1) h ((F6 false q l).take k):=OwG.alloc (OwG.keep j g) _;have m:=(E.keep g).alloc (.cells #[(Cd false q ((gt l k).1,(gt l k).2)).1,(Cd false q ((gt l k).1,(gt l k).2)).2] 65);go_wp2_with fail;exact aE ⟨by rw[G.out];rw[bC]at t;exact t,(c.block w m.lt d).trans m,Bk (Ao (An x g)) (OwG.lower D aK) c⟩
 obtain rfl:n=k:=aK
 rw[cW (by rw[E8,L.out];exact aA)] at j
 go_wp2;go_ret;exact⟨_,rfl,OwG.lower j aK,x⟩
section
open Go.RowKit Limb
theorem H9(D: -4611686018427387904<=x:=by omega)(E:x<=4611686018427387904:=by omega)(F: -4611686018427387904<=g:=by omega)(G:g<=4611686018427387904:=by omega):Calls prog 203 #[.agg #[x,g]] w (Aei w (x:Rat) (g:Rat)):=by
 let⟨R,b⟩:=gN ((x:Rat):Rat)
 let⟨S,c⟩:=gN ((g:Rat):Rat)
 have r:=Ar b;have s:=Ar c;rw[b,c];clear b c;go_in;go_upto_region 1 with fail;refine Eo λX l H k=>?_
 have h:=k.lt;obtain⟨p0,p1,-,-,-⟩:=H.pair
 go_wp2_with (go_at_call 259;refine aF (pof x g D E F G) λw1 v1 m a=>?_;rw[r.out,s.out]at m;obtain⟨m1,T,m2,U,rfl,i,d,j,f⟩:=m;obtain⟨n,J,u,rfl⟩:=i.sl;obtain⟨o,K,y,rfl⟩:=d.sl;obtain⟨p,L,A,rfl⟩:=j.sl;obtain⟨q,n4,B,rfl⟩:=f.sl;obtain⟨r0,r1,r2,r3,r4,r5⟩:=cells6 (k.keep a);obtain⟨V,W,Y,Z,f4,f5,C⟩:=fq (k.keep a))
 obtain⟨I,t⟩:=K8 (w:=w) (k.keep a) ⟨_,_,rfl,i,d⟩ ⟨_,_,rfl,j,f⟩ h (An l a);obtain⟨M,N,s2,O,P,Q⟩:=cells6 I;exact bR t rfl (by simp[results,results203,go_sem,M,N,s2,O,P,Q])
end
def sgC(r:SgR):Array Value:=#[r.a.1,r.a.2,r.b.1,r.b.2,r.w,r.s.1,r.s.2]
def Fj(r:SgR):Seg:=⟨r.a.1+r.s.1,r.a.2+r.s.2,r.b.1+r.s.1,r.b.2+r.s.2,r.w⟩
theorem Vs(h:Bf w b c #[f,l]):Cq w b 0 f/\Cq w b 1 l:=⟨(h.cell 0).trans rfl,(h.cell 1).trans rfl⟩
theorem Wv{E:List EdgeP}(h:∀k,k<b->0<=gi e k/\gi e k<=500):∀x∈Ek E e b,0<=x/\x<=500:=by
 induction b with
 | zero=>intro x a;simp[Ek]at a
 | succ b ih =>
   intro x a;rw[Ek,bD]at a;rcases a with a|a
   .exact ih (λk c=>h k aK) x a
   rw[iC a];exact h b aK
theorem Agg(h:∀x∈e,0<=x/\x<=500)(i:Nat):0<=gi e i/\gi e i<=500:=by
 unfold gi;by_cases a:i<e.length
 .simp only[List.getD,aW a,Option.getD_some];exact h _ (cY a)
 simp only[List.getD,bI (by omega:e.length<=i),Option.getD_none];omega
theorem Aen(h:Bp (wdB e) b=false):∀k,k<b->0<=gi e k/\gi e k<=500:=by
 intro k a;cases hw:wdB e k with
 | false=>unfold wdB at hw;simp at hw;omega
 | true=>rw[Bp.yes (f:=wdB e) a hw]at h;cases h
theorem Aoo(A:Option Addr)(a n:Nat)(E:List EdgeP)(g:Option Addr)(o j:Nat)(w:World)(b:n<=a)(l:n<=9223372036854775807)(k:EdS w A n E)(h:C7 E≠0):Calls prog 136 #[.slice A n a,.slice g o j] w (Ng w ([],C7 E)):=by
 let⟨c,f⟩:=gN (C7 E)
 have i:=Ar (show L9 E=([],c) by unfold L9;rw[if_pos h,f]);rw[f]at h ⊢;have m:(c != 0)=true:=by simpa using h
 clear f h;go_in
 go_wp2_with (go_at_call 137;refine aF (K9 A a n E b l k) λq p _ d=>?_;rw[i.out])
 go_ret2
 exact⟨_,rfl,OwG.nil,d⟩
theorem Aon(A:Option Addr)(a n:Nat)(E:List EdgeP)(g:Option Addr)(f j:Nat)(w:World)(b:n<=a)(l:n<=9223372036854775807)(k:EdS w A n E)(h:C7 E=0)(d:f≠n):Calls prog 136 #[.slice A n a,.slice g f j] w (Ng w ([],1)):=by
 have i:=Ar (show L9 E=(Bj E,0) by unfold L9;rw[if_neg (by simpa using h)]);have l:((f:Int) != (n:Int))=true:=by rw[eT];omega
 clear h d;go_in
 go_wp2_with (go_at_call 137;refine aF (K9 A a n E b aQ k) λo m _ c=>?_;rw[i.out])
 go_ret2
 exact⟨_,rfl,OwG.nil,c⟩
theorem Aom(A:Option Addr)(O n:Nat)(E:List EdgeP)(A2:Option Addr)(v c2:Nat)(t:List Int)(w:World)(cw:n<=O)(hE:EdS w A n E)(hW:InS w A2 v t)(h:C7 E=0)(m:v=n):Calls prog 136 #[.slice A n O,.slice A2 v c2] w (Ng w (if Bp (wdB t) v then ([],3) else (Ec E t,0))):=by
 have c4:=Ar m;have hs:((v:Int) != (n:Int))=false:=by rw[m];simp
 have j8:v<=16:=by rw[m];have:=(D5 h).2.1;rw[hE.1]at this;exact this
 clear m;have HP:=Ar (show L9 E=(Bj E,0) by unfold L9;rw[if_neg (by simpa using h)]);have b8:=Ar hE.1;let⟨o1,o2,o3,o4,o5⟩:=D5 h;have hn:n<=16:=by rw[b8.out]at o2;exact o2
 have fa:=Ar (show ∀k,k<n->1<=(edg E k).ln.length/\(edg E k).ln.length<=40 from λk hk=>by have:=Er (o3 k (by rw[b8.out];exact hk)).2;omega);have ev:=Ar o5;have b7:=Ar (show (Hl E t).length=(Bj E).length from Gt _);have fr:=Ar (show Bp (wdB t) v=false->∀i,0<=gi (Hl E t) i/\gi (Hl E t) i<=500 from λh=>Agg (Wv λk hk=>Aen h k (by have:=b8.out;have:=c4.out;omega)));let⟨R,hR⟩:=gN ((if Bp (wdB t) v then ([],3) else (Ec E t,0)):LP×Int)
 rw[hR];have ba:=Ar hR;clear h o1 o2 o3 o4 o5 hR;go_in
 go_upto_region 7 with (go_at_call 137;refine aF (K9 A O n E cw aK hE) λw1 v1 ak H=>?_;rw[HP.out]at ak ⊢)
 generalize hV:Bj E=V at ak;have ca:=Ar hV;obtain⟨Av,cv,rfl,hr,Q,-⟩:=ak.sps;let⟨b,ai⟩:=gN V.length
 have P:=ev.out;rw[hV,ai]at P;obtain⟨lr,j9,aw,-⟩:=Je P;have c0:=Ar aw;have ew:=Ar λi j (hi:i<b) (hj:j<b) (m:i≠j)=>um P hi hj m;have G:=Ar ai;rw[ai]at hr Q ⊢;clear hV ai P aw ak hs;have cj:=hW.keep H;have h6:=hE.keep H;go_loopw [9,35] (λ_ c wr=>∃k:Nat,k<=v/\c=.int .i64 k/\Hid (Bp (wdB t) k=false)/\Hid (w1=wr)) λ_ c _=>v-(intOf c).toNat
 case atStart=>exact⟨0,aB,rfl,Ar (Bp.zero _),Ar rfl⟩
 obtain⟨k,hk,rfl,F,hy⟩:=hrel;obtain rfl:=hy.out;by_cases l:k<v
 .obtain⟨b9,k2,rfl,hl⟩:=cj.at_ l;have B1:(k:Int)<(v:Int):=aK
  generalize hx:gi t k=x at hl;by_cases h0:x<0
  .have HR:=Ar (show R=([],3) by rw[<-ba.out,Bp.yes (f:=wdB t) l (by unfold wdB;rw[hx];simp;omega)];rfl);clear hx;go_wp2
   go_ret2
   rw[HR.out];exact⟨_,rfl,OwG.nil,H⟩
  by_cases h5:500<x
  .have HR:=Ar (show R=([],3) by rw[<-ba.out,Bp.yes (f:=wdB t) l (by unfold wdB;rw[hx];simp;omega)];rfl);clear hx;go_wp2
   go_ret2
   rw[HR.out];exact⟨_,rfl,OwG.nil,H⟩
  have HP:=Bp.succ (f:=wdB t) F.out (by unfold wdB;rw[hx];simp;omega);clear hx;go_wp2;exact aE ⟨Ar HP,by first|exact Ar rfl|exact Ar trivial⟩
 obtain rfl:v=k:=aK
 have HR:=Ar (show R=(Ec E t,0) by rw[<-ba.out,F.out];rfl);have bc:=fr.out F.out;generalize hD:Hl E t=D at bc b7;rw[ca.out,G.out]at b7;let⟨sg,bp⟩:=gN (orW V)
 have e8:=ot V;rw[bp]at e8;have c9:=Ar bp;have HD:=Ar hD;have fc:=Ar bc;let⟨Z,K,hZ⟩:=Ht b aK;clear F bc hD bp
 go_upto_region 16 with (first
  | (go_at_call 138;have F:=I;refine aF (Z3 A O n E A2 v c2 t (by have:=c4.out;omega) (h6.keep I) (cj.keep I) λk hk=>fa.out k hk) λw3 v3 au cm=>?_;rw[HD.out]at au)
  | (go_at_call 142;refine rR (G9 Av cv b V Q) λL I=>?_;rw[c9.out]))
 obtain⟨A3,c3,rfl,hh,cf,-⟩:=au.ins;rw[b7.out]at hh cf ⊢;have kq:=Ar au;let⟨BZ,y⟩:∃B,B=w3.heap.size:=⟨_,rfl⟩
 have bd:=hZ w3;have b3:=Ao (aV w3 w3) (o:=.cells Z 65);rw[<-y]at bd ⊢;have bx:=Ar y;have cu:=An H (An I cm);have h8:=Q.keep (An I cm);clear au F K hZ y Q;go_loopw [13,14,15,16,17,18,19,56] (λ_ _ _ _ _ _ _ i wr=>∃(k:Nat) (z:LP),k<=b/\i=.int .i64 k/\z.length=b/\Hid (∀p,p<k->gt z p=shP V sg D p)/\OwS wr BZ (.slice (some ⟨BZ,0,none⟩) b b) z/\Be w3 wr) λ_ _ _ _ _ _ _ i _=>b-(intOf i).toNat
 case atStart=>exact⟨0,_,aB,rfl,List.length_replicate,Ar λp hp=>absurd hp (Nat.not_lt_zero _),bd,b3⟩
 clear bd b3;obtain⟨k,z,hk,rfl,F,hp,ho,hb⟩:=hrel;by_cases l:k<b
 .have K:(k+1) % b<b:=bE _ aK
  have cy:k≠(k+1) % b:=by
   intro e;rcases bG (k+1) b with g|g
   .rw[cC g]at e;omega
   rw[show k+1=b by omega,Nat.mod_self]at e;omega
  have m:=ew.out k _ l K cy;have i1:=c0.out k l;have i2:=c0.out _ K;have mf:=Q6 ((k:Int)+1) (k+1) b;obtain⟨b0,mr,rfl,-,hc⟩:=(h8.keep hb).at_ l;let⟨e1,e2⟩:=hc k l;let⟨e3,e4⟩:=hc _ K;obtain⟨b5,k1,rfl,e5⟩:=(cf.keep hb).at_ l;let⟨d1,d2⟩:=fc.out k;have a:=Ar (show shP V sg D k=(F8 (sg*gi D k*((gt V ((k+1) % b)).2-(gt V k).2)) (Ca (sqd (gt V k) (gt V ((k+1) % b)))),F8 (-(sg*gi D k)*((gt V ((k+1) % b)).1-(gt V k).1)) (Ca (sqd (gt V k) (gt V ((k+1) % b))))) by unfold shP;rw[G.out]);let⟨p,db⟩:=gN (gt V k)
  let⟨q,ds⟩:=gN (gt V ((k+1) % b))
  let⟨dk,cx⟩:=gN (gi D k)
  rw[db]at m i1 e1 e2 a;rw[ds]at m i2 e3 e4 a;rw[cx]at e5 d1 d2 a;clear db ds cx hc;let⟨c,T⟩:=gN (sg*dk)
  have bm : -500<=c/\c<=500:=by
   rcases(show sg = -1\/sg=0\/sg=1 by omega) with h|h|h<;>rw[h]at T<;>omega
  rw[T]at a;let⟨u1,u2,u3,u4',u5,u6,u7,u8⟩:=ks bm.1 bm.2 i1 i2 m;obtain⟨f1,f2,f3,-,-,-,-⟩:=Nl i1 i2 m;obtain⟨-,-,-,C⟩:=Ada p q;generalize hN:sqd p q=N at u5 u6 u7 u8 f1 f2 f3 C a;obtain⟨px,py⟩:=p;obtain⟨qx,qy⟩:=q;obtain⟨a1,a2,a3,a4⟩:=i1;obtain⟨a5,a6,a7,a8⟩:=i2;dsimp only at *
  let⟨dx,W⟩:=gN (qx-px)
  let⟨dy,ad⟩:=gN (qy-py)
  have s1:=Na (d:=dx) (M:=2097152);have s2:=Na (d:=dy) (M:=2097152);rw[W,ad]at C;rw[W]at u3 u4' u7 u8 a;rw[ad]at u1 u2 u5 u6 a;let⟨X,hX⟩:=gN (dx*dx)
  let⟨Y,hY⟩:=gN (dy*dy)
  let⟨U,hU⟩:=gN (c*dy)
  let⟨U',bb⟩:=gN (-c*dx)
  rw[hX]at s1 C;rw[hY]at s2 C;rw[hU]at u1 u2 u5 u6 a;rw[bb]at u3 u4' u7 u8 a;generalize e7:Ca N=rt at f2 f3 u5 u6 u7 u8 a;have fb:=Ar e7;have e0:∀L:World,Calls prog 201 #[U,(rt:Int)] L (Bz L (F8 U rt)):=λL=>Z4 U rt L aK aK aK aK
  have e6:∀L:World,Calls prog 201 #[U',(rt:Int)] L (Bz L (F8 U' rt)):=λL=>Z4 U' rt L aK aK aK aK
  let⟨x',e9⟩:=gN (F8 U rt)
  let⟨y',ec⟩:=gN (F8 U' rt)
  rw[e9]at e0 a;rw[ec]at e6 a;have W1:IntKind.i64.wrap (qx-px)=dx:=by rw[W,bH];omega
  have W2:IntKind.i64.wrap (qy-py)=dy:=by rw[ad,bH];omega
  have W3:IntKind.i64.wrap (sg*dk)=c:=by rw[T,bH];omega
  have W4:IntKind.i64.wrap (dx*dx)=X:=by rw[hX,bH];omega
  have W5:IntKind.i64.wrap (dy*dy)=Y:=by rw[hY,bH];omega
  have W6:IntKind.i64.wrap (X+Y)=(N:Int):=by rw[<-C,bH];omega
  have W7:IntKind.i64.wrap (c*dy)=U:=by rw[hU,bH];omega
  have W8:IntKind.i64.wrap (-c) = -c:=aD
  have W9:IntKind.i64.wrap (-c*dx)=U':=by rw[bb,bH];omega
  have c5:=Ar f1;clear u1 u2 u3 u4' u5 u6 u7 u8 f1 f2 f3 s1 s2 C e7 e9 ec hN hX hY hU bb W ad T bm m a1 a2 a3 a4 a5 a6 a7 a8 d1 d2;have B1:(k:Int)<(b:Int):=aK
  have m1:=mf.2;go_upto_region 18 with fail;refine Bq λY1 J hV=>?_
  have fv:=Aq J e3;have gw:=Aq J e4;have cc:=Aq J e5;clear e1 e2 e3 e4 e5;go_upto_region 19 with fail;refine Bq λY2 u cg=>?_
  let⟨z1,z2⟩:=Vs (hV.keep u);let⟨z3,z4⟩:=Vs cg;have cd:=Aq u cc;have cn:=An hb (An J u);have cz:=OwG.keep ho (An J u);clear fv gw cc hV cg;go_quiet (fail);clear z1 z2 z3 z4 cd W1 W2 W3;have da:OwS (Y2.drewN nq) BZ (.slice (some ⟨BZ,0,none⟩) b b) z:=OwG.keep cz (Bd bl0 _);have hf:Be w3 (Y2.drewN nq):=Bd cn _;have y:w3.heap.size<=BZ:=Nat.le_of_eq bx.out.symm;clear cz cn ho hb
  go_wp2_with (first
   | (go_at_call 201;have lx:=S;refine rR (e6 _) λw6 bl=>?_;let⟨x1,x2,y1,y2⟩:=OwS.cells (OwG.keep (OwG.keep da S) bl) F l)
   | (go_at_call 201;refine(e0 _).mono ?_;rintro e w5 ⟨rfl,S⟩)
   | (go_at_call 200;refine aG (vh N c5.out) ?_;rw[fb.out]))
  refine⟨⟨k+1,z.set k (x',y'),aK,aP,by rw[cD];exact F,Ar λp h=>?_,OwS.store (OwG.keep (OwG.keep da S) bl) F l x' y',Ba (Ba (An (An hf S) bl) (p:=⟨BZ,k*2,none⟩) y) (p:=⟨BZ,k*2+1,none⟩) y⟩,aI⟩;rw[Lg (by rw[F];exact l)];by_cases h2:k=p
  .subst h2;rw[if_pos rfl,a.out]
  rw[if_neg h2];exact hp.out p aK
 obtain rfl:b=k:=aK
 go_wp2
 go_ret2
 rw[HR.out];refine⟨_,rfl,?_,An cu hb⟩
 have hv:Ec E t=z:=by
  unfold Ec;rw[ca.out,HD.out,c9.out];refine Gn (by rw[List.length_map,List.length_range,G.out,F]) λp h=>?_;rw[List.length_map,List.length_range,G.out]at h;rw[hp.out p h];unfold gt;rw[List.getD,dC,fH (by rw[G.out];exact h)];rfl
 rw[hv];exact ho.lower (by rw[bx.out];have:=cu.size;omega)
theorem Rm(A:Option Addr)(a n:Nat)(E:List EdgeP)(f:Option Addr)(d i:Nat)(c:List Int)(b:n<=a)(l:n<=9223372036854775807)(g:EdS w A n E)(k:InS w f d c):Calls prog 136 #[.slice A n a,.slice f d i] w (Ng w (Ed E c)):=by
 by_cases h:C7 E=0
 .by_cases j:d=n
  .have e:Ed E c=if Bp (wdB c) d then ([],3) else (Ec E c,0):=by
    unfold Ed;rw[if_neg (by simpa using h),if_neg (by rw[g.1,k.1,j];simp),k.1]
   rw[e];exact Aom A a n E f d i c w b g k h j
  rw[show Ed E c=([],1) by unfold Ed;rw[if_neg (by simpa using h),if_pos (by rw[g.1,k.1];exact j)]];exact Aon A a n E f d i w b l g h j
 rw[show Ed E c=([],C7 E) by unfold Ed;rw[if_pos h]];exact Aoo A a n E f d i w b l g h
section
open Go.RowKit Limb
def Alf(s:Seg):Array Value:=#[s.fx,s.fy,s.tx,s.ty,s.wd]
def Pz(z:Int):Prop := -2097152<=z/\z<=2097152
def Seg.ok(s:Seg):Prop:=Pz s.fx/\Pz s.fy/\Pz s.tx/\Pz s.ty/\0<=s.wd/\s.wd<=1000
theorem Nn(h:Pz z):RB 22 (z:Rat):=RB.of (m:=22) (by have e:(2:Nat) ^ 22=4194304:= aM;rw[e];unfold Pz at h;omega) aM
theorem c8{a d e g i:Value}(h:Bf w b c #[f,l,o,p,r])(k:Bf w j c #[a,d,e,g,i]):Cq w b 0 f/\Cq w b 1 l/\Cq w b 2 o/\Cq w b 3 p/\Cq w j 0 a/\Cq w j 1 d/\Cq w j 2 e/\Cq w j 3 g:=⟨(h.cell 0).trans rfl,(h.cell 1).trans rfl,(h.cell 2).trans rfl,(h.cell 3).trans rfl,(k.cell 0).trans rfl,(k.cell 1).trans rfl,(k.cell 2).trans rfl,(k.cell 3).trans rfl⟩
theorem Sy(h:Bf w b c #[f,l,o,d,p]):Cq w b 0 f/\Cq w b 1 l/\Cq w b 2 o/\Cq w b 3 d/\Cq w b 4 p:=⟨(h.cell 0).trans rfl,(h.cell 1).trans rfl,(h.cell 2).trans rfl,(h.cell 3).trans rfl,(h.cell 4).trans rfl⟩
theorem Ce.farB6{g:Nat}(t:Ce w b f j)(A:Bf w g c h)(n:∀(i:Nat) (x:Int),h[i]? ≠ some (Value.int .u32 x))(u1 u2 u3 u4 u5 u6:Value):Ce ((((((w.setCell ⟨g,0,none⟩ u1).setCell ⟨g,1,none⟩ u2).setCell ⟨g,2,none⟩ u3).setCell ⟨g,3,none⟩ u4).setCell ⟨g,4,none⟩ u5).setCell ⟨g,5,none⟩ u6) b f j:=by
 obtain⟨o,r,s,u,v,l,y,z⟩:=t;refine⟨o,r,s,u,v,?_,y,z⟩;rcases bK (lmb j).length with k|k
 .exact⟨l.1,.inl k⟩
 have a:∀q,o=some q->q.block≠g:=by
  intro q hq e;let⟨B,C,d,m⟩:=l.at_ k;rw[hq]at d;injection d with d
  rw[d]at e;dsimp only at e;subst e;replace m:=(A.cell _).symm.trans m;exact n _ _ m
 exact(((((l.far (p:=⟨g,0,none⟩) a _).far (p:=⟨g,1,none⟩) a _).far (p:=⟨g,2,none⟩) a _).far (p:=⟨g,3,none⟩) a _).far (p:=⟨g,4,none⟩) a _).far (p:=⟨g,5,none⟩) a _
theorem Jg(h:Bf w b c #[f,l]):Cq w b 0 f/\Cq w b 1 l:=⟨(h.cell 0).trans rfl,(h.cell 1).trans rfl⟩
theorem Apu(a:Bf w b c h):w.frozen? ⟨b,0,none⟩=false/\w.frozen? ⟨b,1,none⟩=false/\b<w.heap.size:=⟨a.frozen 0,a.frozen 1,a.lt⟩
theorem Bf.set2(h:Bf w b c #[f,l]):Bf ((w.setCell ⟨b,0,none⟩ o).setCell ⟨b,1,none⟩ p) b c #[o,p]:=(h.set_ 0 o).set_ 1 p
theorem c62{a:TypeId}{d u v:Value}(h:Bf w b c #[f,l,o,d,p,r])(k:Bf w j a #[u,v]):Cq w b 0 f/\Cq w b 1 l/\Cq w b 2 o/\Cq w b 3 d/\Cq w b 4 p/\Cq w b 5 r/\Cq w j 0 u/\Cq w j 1 v:=⟨(h.cell 0).trans rfl,(h.cell 1).trans rfl,(h.cell 2).trans rfl,(h.cell 3).trans rfl,(h.cell 4).trans rfl,(h.cell 5).trans rfl,(k.cell 0).trans rfl,(k.cell 1).trans rfl⟩
theorem Aht(i:Nat)(x:Int):(#[.bool false,.slice none 0 0,.slice none 0 0,.bool false,.slice none 0 0,.slice none 0 0]:Array Value)[i]? ≠ some (Value.int .u32 x):=by
 intro a
 match i with
 | 0=>simp at a
 | 1=>simp at a
 | 2=>simp at a
 | 3=>simp at a
 | 4=>simp at a
 | 5=>simp at a
 | i+6=>simp at a
theorem ub(a b:Seg):(((a.tx:Int):Rat)-(a.fx:Rat))*((b.ty:Rat)-(b.fy:Rat))-((a.ty:Rat)-(a.fy:Rat))*((b.tx:Rat)-(b.fx:Rat))=((crD a b:Int):Rat):=by
 unfold crD;simp only[Rat.intCast_sub,Rat.intCast_mul]
theorem ua(a b:Seg):(((b.fx:Int):Rat)-(a.fx:Rat))*((b.ty:Rat)-(b.fy:Rat))-((b.fy:Rat)-(a.fy:Rat))*((b.tx:Rat)-(b.fx:Rat))=((crN a b:Int):Rat):=by
 unfold crN;simp only[Rat.intCast_sub,Rat.intCast_mul]
theorem Kv{x b:Int}:SpS (w.alloc (.cells #[x,g,n,b] 65)) (some ⟨w,0,none⟩) 2 [(x,g),(n,b)]:=by
 have h:=Bf.new w 65 #[x,g,n,b];refine⟨rfl,.inr ⟨_,0,rfl,λk a=>?_⟩⟩
 match k,a with
 | 0,_=>exact⟨(h.cell 0).trans rfl,(h.cell 1).trans rfl⟩
 | 1,_=>exact⟨(h.cell 2).trans rfl,(h.cell 3).trans rfl⟩
theorem Yp:SpS (w.alloc (.cells #[x,g] 65)) (some ⟨w,0,none⟩) 1 [(x,g)]:=by
 have h:=Bf.new w 65 #[x,g];refine⟨rfl,.inr ⟨_,0,rfl,λk a=>?_⟩⟩
 match k,a with
 | 0,_=>exact⟨(h.cell 0).trans rfl,(h.cell 1).trans rfl⟩
def Aek(w:World)(l:LP)(e:Ending)(a:World):Prop:=∃g,e=.returned (.slice (some ⟨g,0,none⟩) l.length l.length)/\w.heap.size<=g/\SpS a (some ⟨g,0,none⟩) l.length l/\Be w a
theorem PtV.farB6{x y:Rat}(l:PtV w b f x y)(g:Bf w j c h)(a:∀(i:Nat) (x:Int),h[i]? ≠ some (Value.int .u32 x))(u1 u2 u3 u4 u5 u6:Value):PtV ((((((w.setCell ⟨j,0,none⟩ u1).setCell ⟨j,1,none⟩ u2).setCell ⟨j,2,none⟩ u3).setCell ⟨j,3,none⟩ u4).setCell ⟨j,4,none⟩ u5).setCell ⟨j,5,none⟩ u6) b f x y:=by
 obtain⟨m,d,r,k,e,n,o,p,q⟩:=l;exact⟨m,d,r,k,e,n.farB6 g a _ _ _ _ _ _,o.farB6 g a _ _ _ _ _ _,p.farB6 g a _ _ _ _ _ _,q.farB6 g a _ _ _ _ _ _⟩
theorem Xf(v:Int×Int)(a b:Seg)(w:World)(bq:Pz v.1)(bs:Pz v.2)(ha:a.ok)(hb:b.ok):Calls prog 140 #[.agg #[v.1,v.2],.agg (Alf a),.agg (Alf b)] w (Aek w (C9 v a b)):=by
 obtain⟨vx,F⟩:=v;dsimp only at bq bs;obtain⟨a1,a2,a3,a4,a5,a6⟩:=ha;obtain⟨b1,b2,b3,b4,b5,b6⟩:=hb;have r1:=Nn a1;have r2:=Nn a2;have r3:=Nn a3;have r4:=Nn a4;have r5:=Nn b1;have r6:=Nn b2;have r7:=Nn b3;have r8:=Nn b4;unfold Pz at *
 unfold Alf;let⟨N,hN⟩:=gN ((crN a b:Int):Rat)
 let⟨D,s⟩:=gN ((crD a b:Int):Rat)
 have ey:=Ar hN;have ev:=Ar s;have HN:=Ar ((ua a b).trans hN);have HD:=Ar ((ub a b).trans s);have R:Hid (D.num=crD a b):=Ar (by rw[<-s];rfl);let⟨kk,hk⟩:=gN ((if D.num=0 then 10 else 0):Int)
 have HK:=Ar hk;clear hN s hk;go_in;go_upto_region 1 with fail;refine Jy λX cn hP hQ hR=>?_
 go_cut [7,8] λu v W=>∃g p A n c B k d q C m l E o f,u=.pointer (some ⟨g,0,none⟩)/\v=kk/\(D.num≠0->PtV W 0 (.agg #[.bool p,.slice A n c,.slice B k d,.bool q,.slice C m l,.slice E o f]) ((a.fx:Int)+(((a.tx:Int):Rat)-(a.fx:Int))*(N / D)) ((a.fy:Int)+(((a.ty:Int):Rat)-(a.fy:Int))*(N / D)))/\Bf W g 186 #[.bool p,.slice A n c,.slice B k d,.bool q,.slice C m l,.slice E o f]/\X.heap.size<=g/\Be X W
 case first =>
  go_region_held3 (sB λW h=>c8 (hQ.keep h) (hR.keep h))
   (exact c8 (hQ.keep BI.h) (hR.keep BI.h))
   ((first
     | (go_at_call 202;have lb:=h4;refine(Ama (Z.keep BI.h) (h2.keep BI.h) (h3.keep BI.h) (h4.keep BI.h) r1 r2 r3 r4 r5 r6 r7 r8 HN.out HD.out).mono ?_;rintro e w5 ⟨p5,B1,n1,c1,B2,n2,c2,q5,B3,n3,c3,B4,n4,c4,rfl,h5,U⟩;rw[HK.out];have l1:=BI.go (a:=X) U;(try (have kB:=KI.go (t:=186) U;let⟨j0,j1,j2,j3,j4,j5⟩:=cells6 kB.h;let⟨k0,k1,k2,k3,k4,k5,k6⟩:=fq kB.h)))
     | (go_at_call 203;have hx:=h3;refine aF (H9) λw4 v4 h4 i=>?_;replace h4:=PtV.lower h4 aB;have hy:=BI.go (a:=X) i;have hs:=BI.go (a:=w1) i;have ht:=BI.go (a:=w2) i;have hv:=BI.go (a:=w3) i;(try have kB:=KI.go (t:=186) i))
     | (go_at_call 203;have hx:=h2;refine aF (H9) λw3 v3 h3 H=>?_;replace h3:=PtV.lower h3 aB;have hr:=BI.go (a:=X) H;have hn:=BI.go (a:=w1) H;have ho:=BI.go (a:=w2) H;(try have kB:=KI.go (t:=186) H))
     | (go_at_call 203;have hx:=Z;refine aF (H9) λw2 v2 h2 L=>?_;replace h2:=PtV.lower h2 aB;have hl:=BI.go (a:=X) L;have hj:=BI.go (a:=w1) L;(try have kB:=KI.go (t:=186) L))
     | (go_at_call 203;refine aF (H9) λw1 v1 Z P=>?_;replace Z:=PtV.lower Z aB;have hh:=BI.go (a:=X) P;(try have kB:=KI.go (t:=186) P))))
  all_goals go_wp2
  all_goals go_meet
  all_goals (first
   | with_reducible exact⟨_,p5,B1,n1,c1,B2,n2,c2,q5,B3,n3,c3,B4,n4,c4,rfl,rfl,λh=>((h5 h).lower aB).keep blA,Bf.new _ _ _,LI.h,BI.h⟩
   | with_reducible exact⟨_,p5,B1,n1,c1,B2,n2,c2,q5,B3,n3,c3,B4,n4,c4,rfl,rfl,λh=>((h5 h).lower aB).farB6 kB.h Aht _ _ _ _ _ _,kB.h.set6,LI.h,BI.h⟩)
 obtain⟨g,p5,B1,n1,c1,B2,n2,c2,q5,B3,n3,c3,B4,n4,c4,rfl,rfl,G,hG,l5,I⟩:=hcut;by_cases s:crD a b=0
 .have O:=Ar (show C9 (vx,F) a b=[(a.tx,a.ty),(b.fx,b.fy)] by unfold C9;rw[if_pos s]);obtain rfl:kk=10:=HK.out.symm.trans (if_pos (R.out.trans s));let⟨q0,q1,q2,q3,q4⟩:=Sy (hQ.keep I);let⟨s0,s1,s2,s3,s4⟩:=Sy (hR.keep I);have V:=An cn I;clear s G;go_wp2;go_ret;refine⟨_,by rw[O.out];rfl,V.size,by rw[O.out];exact Kv,Ao V⟩
 obtain rfl:kk=0:=HK.out.symm.trans (if_neg (by rw[R.out];exact s));replace G:=G (by rw[R.out];exact s);let⟨T,hT⟩:=gN (N / D)
 rw[hT]at G;have ET:=Ar hT;let⟨zx,bu⟩:=gN (((a.fx:Int)+(((a.tx:Int):Rat)-(a.fx:Int))*T):Rat)
 let⟨zy,bx⟩:=gN (((a.fy:Int)+(((a.ty:Int):Rat)-(a.fy:Int))*T):Rat)
 rw[bu,bx]at G;have EX:=Ar bu;have EY:=Ar bx;clear hT bu bx;have bb:(crD a b).natAbs≠0:=aK
 have bc:T=((crN a b:Int):Rat) / ((crD a b:Int):Rat):=by rw[<-ET.out,<-ey.out,<-ev.out]
 let⟨j,bm⟩:=gN (Ajg (vx,F) a b)
 let⟨r,bp⟩:=gN (Ajf (vx,F) a b)
 have GX:Hid (rnd (zx-(vx:Rat)).num (zx-(vx:Rat)).den=j):=Ar (by
  rw[<-EX.out,bc,<-bm,Nq a.fx a.tx vx (crN a b) (crD a b) s];exact Yd bb)
 have GY:Hid (rnd (zy-(F:Rat)).num (zy-(F:Rat)).den=r):=Ar (by
  rw[<-EY.out,bc,<-bp,Nq a.fy a.ty F (crN a b) (crD a b) s];exact Yd bb)
 have au:=Ar bm;have aw:=Ar bp;have tw:∀{x y:Rat},RB 22 x->RB 22 y->RB 45 (x-y):=λh k=>RB.sub (m:=22) (n:=22) h k
 have tT:RB 362 T:=by rw[<-ET.out];exact RB.div (m:=181) (n:=181) (HN.out ▸ RB.x r5 r1 r8 r6 r6 r2 r7 r5) (HD.out ▸ RB.x r3 r1 r8 r6 r4 r2 r7 r5) (by rw[R.out];exact s)
 have c9:RB 600 zx:=by rw[<-EX.out];exact(RB.add (m:=22) r1 ((tw r3 r1).mul tT)).le aM
 have ca:RB 600 zy:=by rw[<-EY.out];exact(RB.add (m:=22) r2 ((tw r4 r2).mul tT)).le aM
 have b8:RB 600 (vx:Rat):=(Nn (z:=vx) bq).le aM;have b9:RB 600 (F:Rat):=(Nn (z:=F) bs).le aM;have b0:RB 600 (zx-(vx:Rat)):=by rw[<-EX.out];exact(RB.sub (n:=22) (RB.add (m:=22) r1 ((tw r3 r1).mul tT)) (Nn (z:=vx) bq)).le aM
 have b7:RB 600 (zy-(F:Rat)):=by rw[<-EY.out];exact(RB.sub (n:=22) (RB.add (m:=22) r2 ((tw r4 r2).mul tT)) (Nn (z:=F) bs)).le aM
 let⟨fx,bd⟩:=gN ((vx:Rat):Rat)
 let⟨fy,bl⟩:=gN ((F:Rat):Rat)
 rw[bd]at GX b8 b0;rw[bl]at GY b9 b7;have c5:=Ar bd;have c6:=Ar bl;have S:=hP.keep I;have cj:=hQ.keep I;have cm:=hR.keep I;have V:=An cn I;clear bm bp bd bl tT tw r1 r2 r3 r4 r5 r6 r7 r8 bc bb;go_upto_region 3 with fail;go_cut [9,10] (λv9 h8 ds=>∃g2:Nat,v9=.pointer (some ⟨g2,0,none⟩)/\h8=(Nf j r).2/\Bf ds g2 65 #[(Nf j r).1.1,(Nf j r).1.2]/\wc.heap.size<=g2/\Be wc ds)
 case first =>
  go_region_held3 (sB λW h=>c62 (hG.keep h) (S.keep h))
   (exact c62 (hG.keep BI.h) (S.keep BI.h))
   ((first
     | (go_at_call 204;have hx:=h2;refine rR (Amb (h2.keep BI.h) b0 b7 j r GX.out GY.out) λw3 H=>?_;have l0:=BI.go (a:=wc) H;(try (have kC:=KI.go (t:=65) H;let⟨j0,j1⟩:=Jg kC.h;let⟨k0,k1,k2⟩:=Apu kC.h)))
     | (go_at_call 205;have hx:=Z;refine aF (Ai9 (G.keep BI.h) (Z.keep BI.h) c9 ca b8 b9) λw2 v2 h2 L=>?_;have kz:=BI.go (a:=wc) L;(try have kC:=KI.go (t:=65) L))
     | (go_at_call 203;refine aF (H9) λw1 v1 Z P=>?_;rw[c5.out,c6.out]at Z;have kr:=BI.go (a:=wc) P;(try have kC:=KI.go (t:=65) P))))
  all_goals go_wp2
  all_goals go_meet
  all_goals (first
   | exact⟨_,rfl,rfl,Bf.new _ _ _,LI.h,BI.h⟩
   | exact⟨_,rfl,rfl,kC.h.set2,LI.h,BI.h⟩)
 obtain⟨g2,rfl,rfl,hS,l4,Y⟩:=hcut;have fc:=Jg (S.keep Y);obtain⟨p0,p1⟩:=fc;let⟨q0,q1,q2,q3,q4⟩:=Sy (cj.keep Y);let⟨s0,s1,s2,s3,s4⟩:=Sy (cm.keep Y);have J:=An V Y;clear hP hQ hR S cj cm hG G c9 ca b0 b7 b8 b9 GX GY c5 c6 ET EX EY;by_cases M:(inC j&&inC r)=true
 .have hgr:Nf j r=((j,r),0):=by unfold Nf;rw[if_pos M]
  rw[hgr]at hS ⊢;let⟨j0,j1⟩:=Jg hS;let⟨l6,la⟩:(-1048576<=j/\j<=1048576)/\(-1048576<=r/\r<=1048576):=by unfold inC at M;simpa using M
  have fv:0<=max a.wd b.wd/\max a.wd b.wd<=1000:=aK
  let⟨mx,Q⟩:=gN (max a.wd b.wd)
  rw[Q]at fv;have W1:IntKind.i64.wrap (4*mx)=4*mx:=aD
  have W2:IntKind.i64.wrap (4*mx+4)=4*mx+4:=aD
  by_cases bt:wS (j,r) (4*mx+4)=true
  .have O:=Ar (show C9 (vx,F) a b=[(vx+j,F+r)] by unfold C9;rw[if_neg s,au.out,aw.out,Q,if_pos (by simp[M,bt])])
   go_wp2_with (first|(go_at_call 141;refine rR (Is j r _) λw4 i=>?_;rw[bt];have K:=An J i;have c1:=Aq i p0;have c2:=Aq i p1;have c3:=Aq i j0;have c4:=Aq i j1)|(go_at_call 139;refine rR (Sz vx F j r _ aK aK aK aK) λw5 U=>?_;have a7:=An K U))
   all_goals go_ret
   refine⟨_,by rw[O.out];rfl,a7.size,by rw[O.out];exact Yp,Ao a7⟩
  have a8:wS (j,r) (4*mx+4)=false:=by simpa using bt
  have O:=Ar (show C9 (vx,F) a b=[(a.tx,a.ty),(b.fx,b.fy)] by unfold C9;rw[if_neg s,au.out,aw.out,Q,if_neg (by simp[a8])])
  go_wp2_with (go_at_call 141;refine rR (Is j r _) λw4 i=>?_;rw[a8];have K:=An J i;have c1:=Aq i q2;have c2:=Aq i q3;have c3:=Aq i s0;have c4:=Aq i s1)
  all_goals go_ret
  refine⟨_,by rw[O.out];rfl,K.size,by rw[O.out];exact Kv,Ao K⟩
 have hgr:Nf j r=((0,0),3):=by unfold Nf;rw[if_neg M]
 rw[hgr]at hS ⊢;have O:=Ar (show C9 (vx,F) a b=[(a.tx,a.ty),(b.fx,b.fy)] by unfold C9;rw[if_neg s,au.out,aw.out,if_neg (by simp[M])])
 go_wp2;all_goals go_ret
 refine⟨_,by rw[O.out];rfl,J.size,by rw[O.out];exact Kv,Ao J⟩
end
def enG(s:Seg):List Value:=[s.fx,s.fy,s.tx,s.ty,s.wd]
theorem th(s:Seg):(enG s).length=5:=rfl
def Als:Seg:=⟨0,0,0,0,0⟩
def gsg(l:List Seg)(k:Nat):Seg:=l.getD k Als
theorem Aay{l:List Seg}(h:b<l.length):l[b]? = some (gsg l b):=by
 unfold gsg;rw[List.getD,aW h];rfl
def Ahc(w:World)(a:Nat)(v:Value)(l:List Seg):Prop:=OwG 214 5 enG w a v l
theorem Aj1:(prog.info? 214).map (λi=>(i.zero,i.size,i.bytes))=some (some (.agg #[.int .i64 0,.int .i64 0,.int .i64 0,.int .i64 0,.int .i64 0]),5,40):=aN
theorem O6{i:Type}{c:i->List Value}(a:∀x,(c x).length=b)(z:i)(n:Nat)(f:Array Value)(e:f=(c z).toArray:=by kernel_rfl)(g:0<b:=by omega):(madeCells f (n*b)).toList=(List.replicate n z).flatMap c:=by
 apply fF;intro j;rcases bG j (n*b) with d|d
 .have k:j / b<n:=eZ (by rw[bN];exact d);have h:=Bu a (List.replicate n z) (j / b) (j % b) z (by rw[fA,if_pos k]) (bE _ g);rw[bN,eQ]at h;rw[h,e];unfold madeCells;rw[Array.getElem?_toList,Array.getElem?_map,Array.getElem?_range,if_pos d];have l:j % b<(c z).length:=by rw[a];exact bE _ g
  simp[a,aW l]
 rw[bI (by rw[Array.length_toList,size_madeCells];exact d),bI (by rw[Cz a];simpa using d)]
theorem qb(n:Nat)(f:n<=1000000):∃Z:Array Value,(∀w,(Instr.makeSlice 212 n n).run prog w=.ok (.slice (some ⟨w,0,none⟩) n n) (w.alloc (.cells Z 214)))/\∀w:World,Ahc (w.alloc (.cells Z 214)) w (.slice (some ⟨w,0,none⟩) n n) (List.replicate n Als):=by
 let⟨i,e,a,b,c⟩:=dW Aj1;refine⟨madeCells (Value.agg #[.int .i64 0,.int .i64 0,.int .i64 0,.int .i64 0,.int .i64 0]).cells (n*5),λw=>?_,λw=>?_⟩
 .have d:=iO (P:=prog) w 212 214 i (.agg #[.int .i64 0,.int .i64 0,.int .i64 0,.int .i64 0,.int .i64 0]) underlying212 e a .i64 .i64 n n aK aK (by rw[c];omega) aK;rw[b]at d;simpa using d
 unfold Ahc OwG;rw[List.length_replicate,<-O6 th Als n (Value.agg #[.int .i64 0,.int .i64 0,.int .i64 0,.int .i64 0,.int .i64 0]).cells];exact World.ownsRow_lit w _ n aA aS (size_madeCells _ _)
theorem Ahc.cells{d n:Nat}{l:List Seg}(h:Ahc w b (.slice (some ⟨j,0,none⟩) n d) l)(i:l.length=n){k:Nat}(f:k<n):Cq w j (k*5) (gsg l k).fx/\Cq w j (k*5+1) (gsg l k).fy/\Cq w j (k*5+2) (gsg l k).tx/\Cq w j (k*5+3) (gsg l k).ty/\Cq w j (k*5+4) (gsg l k).wd/\∀a,w.frozen? ⟨j,k*5+a,none⟩=false:=by
 subst i;have g:=Aay f
 have c:∀a,a<5->w.cell? ⟨j,k*5+a,none⟩=(enG (gsg l k))[a]? := λa e=>by
  rw[OwG.cells h (k*5+a) aK,Bu th l k a _ g e]
 exact⟨(c 0 aK).trans rfl,(c 1 aK).trans rfl,(c 2 aK).trans rfl,(c 3 aK).trans rfl,(c 4 aK).trans rfl,λa=>OwG.frozen h _⟩
theorem sf{l:List Seg}(s:Seg):(((((l.flatMap enG).set (b*5) s.fx).set (b*5+1) s.fy).set (b*5+2) s.tx).set (b*5+3) s.ty).set (b*5+4) s.wd=(l.set b s).flatMap enG:=by
 induction l generalizing b with
 | nil=>simp
 | cons a l ih =>
   cases b with
   | zero=>simp[enG,cM]
   | succ b =>
     rw[eE,cM,cM,<-ih];simp only[enG,cV,dQ];rw[show (b+1)*5=b*5+1+1+1+1+1 by omega];simp[show b*5+1+1+1+1+1+1=(b*5+1)+1+1+1+1+1 by omega,show b*5+1+1+1+1+1+2=(b*5+2)+1+1+1+1+1 by omega,show b*5+1+1+1+1+1+3=(b*5+3)+1+1+1+1+1 by omega,show b*5+1+1+1+1+1+4=(b*5+4)+1+1+1+1+1 by omega]
def Aop(w:World)(g o:Nat)(s:Seg):World:=((((w.setCell ⟨g,o,none⟩ s.fx).setCell ⟨g,o+1,none⟩ s.fy).setCell ⟨g,o+2,none⟩ s.tx).setCell ⟨g,o+3,none⟩ s.ty).setCell ⟨g,o+4,none⟩ s.wd
theorem Ahc.store{a n:Nat}{l:List Seg}(h:Ahc w b (.slice (some ⟨j,0,none⟩) n a) l)(i:l.length=n)(k:Nat)(s:Seg):Ahc (Aop w j (k*5) s) b (.slice (some ⟨j,0,none⟩) n a) (l.set k s):=by
 subst i;have d:=(dI h (k*5) s.fx).1;have e:=(dI d (k*5+1) s.fy).1;have f:=(dI e (k*5+2) s.tx).1;have g:=(dI f (k*5+3) s.ty).1;have c:=(dI g (k*5+4) s.wd).1;rw[sf]at c;unfold Ahc OwG;rw[cD];exact c
theorem Agf{l:List Seg}{x:Seg}(a:b<l.length):gsg (l.set b x) j=if b=j then x else gsg l j:=by
 unfold gsg;rw[List.getD,fU];by_cases e:b=j
 .subst e;simp[a]
 simp[e]
theorem Tr{E:List EdgeP}(h:(Ed E e).2=0):C7 E=0/\e.length=E.length/\Bp (wdB e) e.length=false/\Ed E e=(Ec E e,0):=by
 unfold Ed at h ⊢;split at h
 .rename_i g;exact absurd h g
 rename_i a;split at h
 .cases h
 rename_i b;split at h
 .cases h
 rename_i c;rw[if_neg a,if_neg b,if_neg c];exact⟨by simpa using a,by simpa using b,by simpa using c,rfl⟩
theorem Ade{sg:Int}(k:Bg i b=0)(p:i.length=b)(t : -1<=sg)(u:sg<=1)(o:∀j,0<=gi e j/\gi e j<=500)(l:j<b):
 -500<=(shP i sg e j).1/\(shP i sg e j).1<=500 /\ -500<=(shP i sg e j).2/\(shP i sg e j).2<=500:=by
 obtain⟨q,n,a,-⟩:=Je k;have m:(j+1) % b<b:=bE _ (by omega)
 have d:j≠(j+1) % b:=by
  intro f;rcases bG (j+1) b with g|g
  .rw[cC g]at f;omega
  rw[show j+1=b by omega,Nat.mod_self]at f;omega
 let⟨r,s⟩:=o j
 have c : -500<=sg*gi e j/\sg*gi e j<=500:=by
  rcases(show sg = -1\/sg=0\/sg=1 by omega) with h|h|h<;>rw[h]<;>omega
 obtain⟨-,-,-,-,u5,u6,u7,u8⟩:=ks c.1 c.2 (a j l) (a _ m) (um k l m d);unfold shP;rw[p];exact⟨u5,u6,u7,u8⟩
theorem Oe{sg:Int}(a:j<b)(c:i.length=b:=by rfl):gt ((List.range i.length).map (shP i sg e)) j=shP i sg e j:=by
 unfold gt;rw[List.getD,dC,fH aK];rfl
theorem ky{c:LP}(h:Bg i b=0)(l:i.length=b)(f:∀j,0<=gi e j/\gi e j<=500)
 (g : -500<=(gt c j).1/\(gt c j).1<=500 /\ -500<=(gt c j).2/\(gt c j).2<=500) (k:j<b):(Vl i c e j).ok:=by
 obtain⟨n,d,a,-⟩:=Je h;have m:(j+1) % b<b:=bE _ (by omega);let⟨o,p,q,r⟩:=a j k;let⟨s,t,u,v⟩:=a _ m;let⟨w,x⟩:=f j;obtain⟨y,s2,z,A⟩:=g;unfold Vl Seg.ok Pz;rw[l];dsimp only;refine⟨?_,?_,?_,?_,?_⟩<;>omega
theorem raw5(h:Below b a w)(c:b<=j)(d:Nat):Below b a (((((w.setCell ⟨j,d,none⟩ f).setCell ⟨j,d+1,none⟩ l).setCell ⟨j,d+2,none⟩ o).setCell ⟨j,d+3,none⟩ p).setCell ⟨j,d+4,none⟩ r):=cO (cO (cO (cO (cO h c _) c _) c _) c _) c _
theorem Bf.raw5(d:Bf w b c h)(a:b≠j)(o:Nat)(u0 u1 u2 u3 u4:Value):Bf (((((w.setCell ⟨j,o,none⟩ u0).setCell ⟨j,o+1,none⟩ u1).setCell ⟨j,o+2,none⟩ u2).setCell ⟨j,o+3,none⟩ u3).setCell ⟨j,o+4,none⟩ u4) b c h:=((((d.far (p:=⟨j,o,none⟩) a _).far (p:=⟨j,o+1,none⟩) a _).far (p:=⟨j,o+2,none⟩) a _).far (p:=⟨j,o+3,none⟩) a _).far (p:=⟨j,o+4,none⟩) a _
theorem Kr(a:1<=b)(h:b-1=j)(c:b<=1000000000):IntKind.i64.wrap ((b:Int)-1)=(j:Int):=aD
theorem Aaw(h:b<j):gt (i.take j) b=gt i b:=by
 unfold gt;simp[List.getD,fN,h]
theorem Th{l:LP}(c:1<b)(d:b-1=j)(a:eqS (gt l j) (gt l 0)=true):I5 l b=I5 l j:=by
 obtain⟨k,rfl⟩:∃k,b=k+1:=⟨b-1,aK⟩
 obtain rfl:k=j:=aK
 rw[I5,if_pos ⟨aK,a⟩]
theorem Xs{l:LP}{m:Nat}(h:¬1<m\/eqS (gt l (m-1)) (gt l 0)=false):I5 l m=m:=by
 cases m with
 | zero=>rfl
 | succ k =>
   rw[I5,if_neg];rintro⟨b,a⟩;rcases h with h|h
   .omega
   rw[fP]at h;rw[a]at h;cases h
theorem SpS.blk(h:SpS w (some ⟨b,0,none⟩) j i)(g:a.heap[b]? = w.heap[b]?):SpS a (some ⟨b,0,none⟩) j i:=by
 refine⟨h.1,?_⟩;rcases h.2 with c|⟨m,l,e,c⟩
 .exact .inl c
 injection e with e
 injection e with e1 e2
 subst e1 e2;have d:∀o,a.cell? ⟨b,o,none⟩=w.cell? ⟨b,o,none⟩:=λo=>by unfold World.cell?;rw[g]
 exact .inr ⟨b,0,rfl,λk f=>⟨(d _).trans (c k f).1,(d _).trans (c k f).2⟩⟩
theorem T6(p:Int×Int):Om [] p=[p]:=rfl
theorem Qw(a:i.length=b+1)(h:eqS (gt i b) m=true):Om i m=i:=by
 unfold Om;rw[if_neg aK,show i.length-1=b by omega,if_pos h]
theorem T7(a:i.length=b+1)(h:eqS (gt i b) m=false):Om i m=i++[m]:=by
 unfold Om;rw[if_neg aK,show i.length-1=b by omega,if_neg (by rw[h];simp)]
theorem Aqn(A:Option Addr)(a n:Nat)(E:List EdgeP)(f:Option Addr)(j k:Nat)(d:List Int)(w:World)(b:n<=a)(p:n<=9223372036854775807)(m:EdS w A n E)(o:InS w f j d)(h:(Ed E d).2≠0):Calls prog 91 #[.slice A n a,.slice f j k] w (Ng w ([],(Ed E d).2)):=by
 let⟨r,i⟩:=gN (Ed E d)
 have l:=Ar i;rw[i]at h ⊢;obtain⟨z,c⟩:=r;dsimp only at h ⊢;have q:(c != 0)=true:=by simpa using h
 clear i h;go_enter func91,ntmps91
 go_wp2_with (go_at_call 136;refine aF (Rm A a n E f j k d b p m o) λt s _ g=>?_;rw[l.out])
 go_ret2
 exact⟨_,rfl,OwG.nil,g⟩
theorem Aqm(A:Option Addr)(c6 n:Nat)(E:List EdgeP)(A2:Option Addr)(c2:Nat)(H:List Int)(w:World)(h4:n<=c6)(hE:EdS w A n E)(hW:InS w A2 n H)(h:(Ed E H).2=0):Calls prog 91 #[.slice A n c6,.slice A2 n c2] w (Ng w (Ff E H)):=by
 let⟨o0,o1,o2,o3⟩:=Tr h;let⟨q1,q2,q3,q4,q5⟩:=D5 o0;have hn:n<=16:=by rw[<-hE.1];exact q2
 have HA:=Ar (show Ff E H=if Bp (λi=>!wS (gt (Dy E H) i) 1048576) (Dy E H).length then ([],3) else if Bg (Dy E H) (Dy E H).length≠0 then ([],Bg (Dy E H) (Dy E H).length) else if orW (Dy E H)≠orW (Bj E) then ([],11) else (Dy E H,0) by
  unfold Ff;rw[if_neg (by rw[h];simp)])
 have b3:ze E H=K7 (Bj E) (Ec E H) (Hl E H) (Bj E).length:=rfl;have dy:=Ar (show Dy E H=(ze E H).take (I5 (ze E H) (ze E H).length) from rfl);have my:=Ar (show L9 E=(Bj E,0) by unfold L9;rw[if_neg (by rw[o0];simp)]);have r0:=Ar (show ∀k,k<n->1<=(edg E k).ln.length/\(edg E k).ln.length<=40 from λk hk=>by have:=Er (q3 k (by rw[hE.1];exact hk)).2;omega);have c9:(Hl E H).length=(Bj E).length:=Gt _;have ec:∀i,0<=gi (Hl E H) i/\gi (Hl E H) i<=500:=Agg (Wv λk hk=>Aen o2 k (by have:=hW.1;have:=hE.1;omega))
 have kl:=ot (Bj E)
 have bp:∀i,i<(Bj E).length -> -500<=(gt (Ec E H) i).1/\(gt (Ec E H) i).1<=500 /\ -500<=(gt (Ec E H) i).2/\(gt (Ec E H) i).2<=500:=λi T=>by
  unfold Ec;rw[Oe T];exact Ade q5 rfl kl.1 kl.2 ec T
 have cb:(Ec E H).length=(Bj E).length:=by unfold Ec;rw[List.length_map,List.length_range]
 let⟨P,hP⟩:=gN (ze E H)
 rw[hP]at b3 dy;let⟨V,hV⟩:=gN (Bj E)
 let⟨D,hD⟩:=gN (Hl E H)
 let⟨SH,hS⟩:=gN (Ec E H)
 let⟨s,fr⟩:=gN V.length
 have n0:=Ar o3;rw[hS]at n0 bp cb b3;rw[hV]at my HA b3 c9 bp cb q5;rw[hD]at c9 ec b3;rw[fr]at c9 bp cb b3 q5;have ql:=Ar hD;have qq:=Ar cb;have qn:=Ar c9;have h7:=Ar fr;have gf:=Ar λi (T:i<s)=>ky q5 fr ec (bp i T) T;obtain⟨Aa,x6,ng,-⟩:=Je q5;have h6:=Ar ng;have r3:=Ar bp;have r1:=Ar b3;let⟨Z,S,hZ⟩:=qb s aK;let⟨R,hR⟩:=gN (Ff E H)
 let⟨G,hG⟩:=gN (Dy E H)
 rw[hG]at dy;rw[hR,hG]at HA;rw[hR];clear h o0 o1 o2 o3 q1 q2 q3 q4 q5 kl hP hV hD hS fr c9 ec bp cb ng hR hG b3;go_enter func91,ntmps91
 go_upto_region 4 with (go_at_call 136;refine aF (Rm A c6 n E A2 n c2 H h4 aK hE hW) λw1 v1 k4 ee=>?_;rw[n0.out]at k4 ⊢)
 obtain⟨As,cs,rfl,ey,ht,-⟩:=k4.sps;rw[qq.out]at ey ht ⊢;have hl:=hE.keep ee;have nr:=hW.keep ee;clear k4
 go_upto_region 7 with (go_at_call 137;refine aF (K9 A c6 n E h4 aK hl) λw2 v2 k5 Q=>?_;rw[my.out]at k5 ⊢)
 obtain⟨Av,cv,rfl,sv,hy,-⟩:=k5.sps;rw[h7.out]at sv hy ⊢;clear k5
 go_upto_region 11 with (go_at_call 138;refine aF (Z3 A c6 n E A2 n c2 H aK (hl.keep Q) (nr.keep Q) λk hk=>r0.out k hk) λw3 v3 k6 eg=>?_;rw[ql.out]at k6;obtain⟨Ad,cd,rfl,ss,hr,-⟩:=k6.ins;rw[qn.out]at ss hr ⊢)
 let⟨K,hh⟩:∃B,B=w3.heap.size:=⟨_,rfl⟩
 have ih:=hZ w3;have h3:=Ao (aV w3 w3) (o:=.cells Z 214);rw[<-hh]at ih ⊢;have qj:=Ar hh;have gy:=ht.keep (An Q eg);have cc:=hy.keep eg;have nx:=An ee (An Q eg);clear k6 S hZ hh hy ht hE hl hW nr ee Q eg;go_loopw [12,13,48] (λ_ _ i wr=>∃(k:Nat) (z:List Seg),k<=s/\i=.int .i64 k/\z.length=s/\Hid (∀p,p<k->gsg z p=Vl V SH D p)/\Ahc wr K (.slice (some ⟨K,0,none⟩) s s) z/\Be w3 wr) λ_ _ i _=>s-(intOf i).toNat
 case atStart=>exact⟨0,_,aB,rfl,List.length_replicate,Ar λp hp=>absurd hp (Nat.not_lt_zero _),ih,h3⟩
 clear ih h3;obtain⟨k,z,hk,rfl,hz,hp,ho,y⟩:=hrel;by_cases F:k<s
 .have S:(k+1) % s<s:=bE _ aK;let⟨j1,j2,j3,j4⟩:=h6.out k F;let⟨j5,j6,j7,j8⟩:=h6.out _ S;let⟨j9,oy,oz,p0⟩:=r3.out k F;have mf:=Q6 ((k:Int)+1) (k+1) s;obtain⟨bv,ov,rfl,-,hc⟩:=cc.at_ F;let⟨e1,e2⟩:=hc k F;let⟨e3,e4⟩:=hc _ S;obtain⟨bd,od,rfl,e5⟩:=hr.at_ F;obtain⟨bs,os,rfl,-,ey⟩:=(gy.keep y).at_ F;let⟨s1,s2⟩:=ey k F;have c5:=Ar (show Vl V SH D k=⟨(gt V k).1+(gt SH k).1,(gt V k).2+(gt SH k).2,(gt V ((k+1) % s)).1+(gt SH k).1,(gt V ((k+1) % s)).2+(gt SH k).2,gi D k⟩ by unfold Vl;rw[h7.out]);let⟨p,om⟩:=gN (gt V k)
  let⟨q,ou⟩:=gN (gt V ((k+1) % s))
  let⟨r,ow⟩:=gN (gt SH k)
  let⟨dk,o4⟩:=gN (gi D k)
  rw[om]at j1 j2 j3 j4 e1 e2 c5;rw[ou]at j5 j6 j7 j8 e3 e4 c5;rw[ow]at j9 oy oz p0 s1 s2 c5;rw[o4]at e5 c5;clear om ou ow o4 hc ey;obtain⟨px,py⟩:=p;obtain⟨qx,qy⟩:=q;obtain⟨rx,ry⟩:=r;dsimp only at *
  have sy:∀w2:World,Calls prog 139 #[.agg #[px,py],.agg #[rx,ry]] w2 (Bz w2 (.agg #[(px+rx:Int),(py+ry:Int)])):=λw2=>Sz px py rx ry w2 aK aK aK aK
  have ta:∀w2:World,Calls prog 139 #[.agg #[qx,qy],.agg #[rx,ry]] w2 (Bz w2 (.agg #[(qx+rx:Int),(qy+ry:Int)])):=λw2=>Sz qx qy rx ry w2 aK aK aK aK
  have B1:(k:Int)<(s:Int):=aK
  clear j1 j2 j3 j4 j5 j6 j7 j8 j9 oy oz p0;go_upto_region 13 with fail;refine Bq λY t hV=>?_
  have I:=OwG.keep ho t;have O:=An y t;let⟨g,hg⟩:=gN wr.heap.size
  have ob:g≠K:=by
   rw[<-hg];intro e;have:=(OwG.lt ho K rfl).2;omega
  have gw:w3.heap.size<=K:=by rw[qj.out];omega
  rw[hg]at hV ⊢;let⟨J,ad⟩:=gN ((k+1) % s)
  rw[ad]at e3 e4 S;have T1:Int.tmod ((k:Int)+1) (s:Int)=(J:Int):=by rw[<-ad,mf.1];rfl
  have T2:((k:Int)+1) % (s:Int)=(J:Int):=by rw[<-ad];rfl
  have W4:IntKind.i64.wrap (J:Int)=(J:Int):=aD
  have W5:IntKind.i64.wrap (Int.tmod ((k:Int)+1) (s:Int))=(J:Int):=by rw[T1];exact W4
  have B2:(0:Int)<=(J:Int):=aK
  have B3:(J:Int)<(s:Int):=aK
  have B4:¬(s:Int)=0:=aK
  have B5:¬s=0:=aK
  clear ad
  have KF:∀u,Be w3 u->Bf u g 65 #[rx,ry]->(Cq u bv (ov+k*2) px/\Cq u bv (ov+k*2+1) py/\Cq u bv (ov+J*2) qx/\Cq u bv (ov+J*2+1) qy/\Cq u g 0 rx/\Cq u g 1 ry/\Cq u bd (od+k) dk):=λu y hB =>
   ⟨Aq y e1,Aq y e2,Aq y e3,Aq y e4,(Vs hB).1,(Vs hB).2,Aq y e5⟩
  have C:=Aw (aV Y Y);have W1:IntKind.i64.wrap ((k:Int)+1)=(k:Int)+1:=aD
  have tf:=Aca (n:=s) aK;clear e1 e2 e3 e4 e5 s1 s2 mf S ho y t hg
  go_region_held3 (λu=>Cq u bv (ov+k*2) px/\Cq u bv (ov+k*2+1) py/\Cq u bv (ov+J*2) qx/\Cq u bv (ov+J*2+1) qy/\Cq u g 0 rx/\Cq u g 1 ry/\Cq u bd (od+k) dk)
   (first
    | with_reducible exact KF _ (An O C) (hV.keep C)
    | with_reducible exact KF _ (raw5 (An O C) gw _) ((hV.keep C).raw5 ob _ _ _ _ _ _))
   ((first
     | (go_at_call 139;have A6:=W;(with_reducible refine(ta _).mono ?_);rintro e w5 ⟨rfl,im⟩;replace C:=An C im;let⟨y0,y1,y2,y3,y4,yf⟩:=Ahc.cells (OwG.keep I C) hz F;have f0:=yf 0;have f1:=yf 1;have f2:=yf 2;have f3:=yf 3;have f4:=yf 4;rw[bU]at f0)
     | (go_at_call 139;(with_reducible refine(sy _).mono ?_);rintro e w4 ⟨rfl,W⟩;replace C:=An C W)))
  all_goals go_wp2_with fail
  all_goals refine⟨⟨k+1,z.set k (Vl V SH D k),aK,aP,by rw[cD];exact hz,Ar λp h=>?_,?_,raw5 (An O C) gw _⟩,aI⟩
  all_goals first
   | (rw[c5.out];exact Ahc.store (OwG.keep I C) hz k ⟨px+rx,py+ry,qx+rx,qy+ry,dk⟩)
   | (rw[Agf (by rw[hz];exact F)]
      by_cases h2:k=p
      .rw[if_pos h2,h2]
      rw[if_neg h2];exact hp.out p aK)
 obtain rfl:s=k:=aK
 have HZ:=Ar hp.out;have cf:=cc.keep y;have b9:=An nx y;have bq:=ho;have A8:=Ea;clear gy hr nx cc ho y hp;let⟨wa,kp⟩:∃wa:World,wa=wr:=⟨_,rfl⟩
 rw[<-kp]at cf b9 bq ⊢;clear kp;go_upto_region 17 with fail;go_loopw [14,15,16,18,79] (λv _ _ _ i wx=>∃k:Nat,k<=s/\i=.int .i64 k/\OwS wx wa v (K7 V SH D k)/\Be wa wx) λ_ _ _ _ i _=>s-(intOf i).toNat
 case atStart=>exact⟨0,aB,rfl,OwG.nil,bl0⟩
 obtain⟨k,hk,rfl,b0,W⟩:=hrel;by_cases F:k<s
 .obtain⟨q,hq⟩:∃q,k+s-1=q:=⟨_,rfl⟩
  have S:q % s<s:=bE _ aK;have mf:=Q6 (q:Int) q s;have tf:=Aca (n:=s) aK;obtain⟨bv,ov,rfl,-,hc⟩:=(cf.keep W).at_ F;let⟨e1,e2⟩:=hc k F;have cw:=OwG.keep bq W;obtain⟨s0,s1,s2,s3,s4,-⟩:=Ahc.cells cw hz S;obtain⟨t0,t1,t2,t3,t4,-⟩:=Ahc.cells cw hz F;have j1:=h6.out k F;have ha:=gf.out _ S;have j0:=gf.out k F;rw[HZ.out _ S]at s0 s1 s2 s3 s4;rw[HZ.out k F]at t0 t1 t2 t3 t4
  have HP:=Ar (show K7 V SH D (k+1)=Cw (K7 V SH D k) (C9 (gt V k) (Vl V SH D (q % s)) (Vl V SH D k)) (C9 (gt V k) (Vl V SH D (q % s)) (Vl V SH D k)).length by
   rw[K7];unfold Wy;rw[h7.out,hq])
  let⟨v,hv⟩:=gN (gt V k)
  let⟨a,ns⟩:=gN (Vl V SH D (q % s))
  let⟨b,a8⟩:=gN (Vl V SH D k)
  rw[hv]at e1 e2 j1 HP;rw[ns]at s0 s1 s2 s3 s4 ha HP;rw[a8]at t0 t1 t2 t3 t4 j0 HP;obtain⟨j1,j2,j3,j4⟩:=j1;have bl:=Ar (λw2:World=>Xf v a b w2 (by unfold Pz;omega) (by unfold Pz;omega) ha j0);have ny:=Ip v a b;let⟨c,nz⟩:=gN (C9 v a b)
  rw[nz]at bl ny HP;have oe:=T8 V SH D k;let⟨L,hL⟩:=gN (K7 V SH D k)
  rw[hL]at HP oe b0;let⟨m,hm⟩:=gN c.length
  rw[hm]at HP ny;have HM:=Ar hm;clear hc hv ns a8 nz hL hm ha j0 j1 j2 j3 j4;obtain⟨vx,vy⟩:=v;obtain⟨ax,ay,n5,n9,aw⟩:=a;obtain⟨bx,bY,nc,na,bw⟩:=b;dsimp only at e1 e2 s0 s1 s2 s3 s4 t0 t1 t2 t3 t4 bl;unfold Alf at bl;dsimp only at bl;have B1:(k:Int)<(s:Int):=aK
  have W1:IntKind.i64.wrap ((k:Int)+(s:Int))=(k:Int)+(s:Int):=aD
  let⟨J,ad⟩:=gN (q % s)
  rw[ad]at s0 s1 s2 s3 s4 S;have T1:Int.tmod (q:Int) (s:Int)=(J:Int):=by rw[<-ad,mf.1];rfl
  have T2:(q:Int) % (s:Int)=(J:Int):=by rw[<-ad];rfl
  have W4:IntKind.i64.wrap (J:Int)=(J:Int):=aD
  have W5:IntKind.i64.wrap (Int.tmod (q:Int) (s:Int))=(J:Int):=by rw[T1];exact W4
  have B2:(0:Int)<=(J:Int):=aK
  have B3:(J:Int)<(s:Int):=aK
  have B4:¬(s:Int)=0:=aK
  have B5:¬s=0:=aK
  clear ad mf;have W2:IntKind.i64.wrap ((k:Int)+(s:Int)-1)=(q:Int):=aD
  let⟨pv,oq⟩:∃pv,pv=u14:=⟨_,rfl⟩
  rw[<-oq]at b0 ⊢;clear oq;go_upto_region 19 with fail;refine Bq λY t hV=>?_
  let⟨B6,nd⟩:=gN wr.heap.size
  have I:=OwG.keep b0 t;have O:=An W t;have ox:∀x,pv.ownBlock=some x->x<Y.heap.size:=λx hx=>(OwG.lt I x hx).2
  rw[nd]at hV ⊢
  have KF:∀u,Be Y u->(Cq u B6 0 vx/\Cq u B6 1 vy/\Cq u K (J*5) ax/\Cq u K (J*5+1) ay/\Cq u K (J*5+2) n5/\Cq u K (J*5+3) n9/\Cq u K (J*5+4) aw/\Cq u K (k*5) bx/\Cq u K (k*5+1) bY/\Cq u K (k*5+2) nc/\Cq u K (k*5+3) na/\Cq u K (k*5+4) bw):=λu y =>
   ⟨Aq y (Vs hV).1,Aq y (Vs hV).2,Aq y (Aq t s0),Aq y (Aq t s1),Aq y (Aq t s2),Aq y (Aq t s3),Aq y (Aq t s4),Aq y (Aq t t0),Aq y (Aq t t1),Aq y (Aq t t2),Aq y (Aq t t3),Aq y (Aq t t4)⟩
  have C:=Aw (aV Y Y);clear e1 e2 s0 s1 s2 s3 s4 t0 t1 t2 t3 t4 b0 W t hV nd cw
  go_region_held3 (λu=>Cq u B6 0 vx/\Cq u B6 1 vy/\Cq u K (J*5) ax/\Cq u K (J*5+1) ay/\Cq u K (J*5+2) n5/\Cq u K (J*5+3) n9/\Cq u K (J*5+4) aw/\Cq u K (k*5) bx/\Cq u K (k*5+1) bY/\Cq u K (k*5+2) nc/\Cq u K (k*5+3) na/\Cq u K (k*5+4) bw)
   (with_reducible exact KF _ C)
   ((go_at_call 140;(with_reducible refine(bl.out _).mono ?_);rintro e w5 ⟨gc,rfl,oa,U,im⟩;rw[HM.out]at U ⊢;replace C:=An C im))
  clear KF;have k9:=OwG.keep I C;have er:=An O C
  have a6:m=0\/gc<w5.heap.size:=by
   rcases bK m with h|h
   .exact .inl h
   obtain⟨b,Ah,e,F,-⟩:=U.at_ h;injection e with e
   injection e with e
   subst e;exact .inr F
  have au:pv.ownBlock≠some gc:=λh=>by
   have h1:=ox gc h;have h2:Y.heap.size<=gc:=oa;omega
  have kp:=er.size;have qo:=Ar oe;clear ox oa I O C bl;let⟨wb,cy⟩:∃wb:World,wb=w5:=⟨_,rfl⟩
  rw[<-cy]at U k9 er a6 ⊢;clear cy;go_upto_region 20 with fail;go_loopw [14,18,100] (λv _ i wx=>∃j:Nat,j<=m/\i=j/\OwS wx wa v (Cw L c j)/\SpS wx (some ⟨gc,0,none⟩) m c/\(m=0\/gc<wx.heap.size)/\v.ownBlock≠some gc/\Be wa wx) λ_ _ i _=>m-(intOf i).toNat
  case atStart=>exact⟨0,aB,rfl,k9,U,a6,au,er⟩
  clear U k9 er a6 au;obtain⟨j,hj,rfl,ho,U,a6,au,y⟩:=hrel;by_cases b5:j<m
  .obtain⟨b8,o8,e8,x0,cm⟩:=U.at_ b5;injection e8 with e8
   injection e8 with e81 e82
   subst e81 e82;let⟨x1,x2⟩:=cm j b5;rw[dB]at x1 x2;have HQ:=Ar (show Cw L c (j+1)=Om (Cw L c j) (gt c j) from rfl);have sd:=L8 L c j;let⟨M,hM⟩:=gN (Cw L c j)
   rw[hM]at HQ sd ho;let⟨⟨px,py⟩,hp⟩:∃p,gt c j=p:=⟨_,rfl⟩
   rw[hp]at x1 x2 HQ;clear hM hp cm;have nh:M.length<=1000000:=by have:=qo.out;omega
   obtain⟨Ap,cp,rfl,k0,-,bm⟩:=OwG.form2 ho;have B2:(j:Int)<(m:Int):=aK
   have nj:=U;go_upto_region 22 with fail;refine Bq λY t hV=>?_
   let⟨v1,v2⟩:=Vs hV;have I:=OwG.keep ho t;have hs:=U.keep t;have O:=An y t;have fa:m=0\/gc<Y.heap.size:=a6.imp id λh=>aZ h t.size
   have o9:gc<Y.heap.size:=by
    rcases fa with h|h
    .omega
    exact h
   have fb:=Ar λ(nq:Nat) (o:Obj)=>show gc<((Y.drewN nq).alloc o).heap.size from aZ o9 (Ao (Bd bl0 _)).size;let⟨B8,nf⟩:=gN wr.heap.size
   rw[nf]at hV v1 v2 ⊢;clear x1 x2 ho U y t a6 nf nj;rcases bK M.length with h0|h0
   .obtain rfl:M=[]:=bL h0;clear h0;go_quiet (fail)
    go_wp2_with (at_builtin;refine Dl rfl wa [] ((OwG.keep I (Bd bl0 _)).alloc _) Y 1 (px,py) 65 (Bf.new _ _ _) nh (Ao (Bd O _)).size ?_;intro v' w2 k3 b4 cj)
    have ck:=Bk (Ao (Bd O _)) ((OwG.keep I (Bd bl0 _)).alloc _) b4;refine⟨⟨j+1,aK,aP,by rw[HQ.out,T6];exact k3,?_,?_,?_,ck⟩,aI⟩
    .exact(hs.keep (Ao (Bd bl0 _))).blk (b4.block gc (fb.out _ _) (Ne.symm au))
    .exact fa.imp id λh=>aZ h (bB (Ao (Bd bl0 _)).size b4.size)
    rcases cj with h|h
    .rw[h];exact au
    rw[h];intro e;injection e with e;exact absurd e (Nat.ne_of_gt (fb.out _ _))
   obtain⟨g,rfl,o6,o7⟩:=bm h0;let⟨i,T⟩:∃i,M.length=i+1:=⟨M.length-1,aK⟩
   obtain⟨d1,d2,-,-⟩:=OwS.cells I rfl (show i<M.length by omega);have a7:=Ar λ(h:eqS (gt M i) (px,py)=true)=>Qw T h;have b6:=Ar λ(h:eqS (gt M i) (px,py)=false)=>T7 T h;let⟨n8,k2⟩:=gN M.length
   rw[k2]at T k0 h0 I nh ⊢;have qv:=Ar k2;let⟨⟨lx,ly⟩,cn⟩:∃q,gt M i=q:=⟨_,rfl⟩
   rw[cn]at d1 d2 a7 b6;dsimp only at d1 d2;have W3:IntKind.i64.wrap ((n8:Int)-1)=(i:Int):=aD
   have Ac:=Aca h0;have Ae:¬n8=0:=aK
   have B9:(i:Int)<(n8:Int):=aK
   clear cn k2 T;cases hd:eqS (lx,ly) (px,py) with
   | true =>
     have h9:=a7.out hd;clear a7 b6;go_quiet (fail)
     go_wp2_with fail;exact aE ⟨by rw[HQ.out,h9];exact OwG.keep I (Bd bl0 _),hs.keep (Bd bl0 _),fa,au,Bd O _⟩
   | false =>
     have h9:=b6.out hd;clear a7 b6;go_quiet (fail)
     go_wp2_with (at_builtin;refine Dl rfl wa M ((OwG.keep I (Bd bl0 _)).alloc _) Y 1 (px,py) 65 (Bf.new _ _ _) (by have:=qv.out;omega) (Ao (Bd O _)).size ?_;intro v' w2 k3 b4 cj)
     have ck:=Bk (Ao (Bd O _)) ((OwG.keep I (Bd bl0 _)).alloc _) b4;refine⟨⟨j+1,aK,aP,by rw[HQ.out,h9];exact k3,?_,?_,?_,ck⟩,aI⟩
     .exact(hs.keep (Ao (Bd bl0 _))).blk (b4.block gc (fb.out _ _) (Ne.symm au))
     .exact fa.imp id λh=>aZ h (bB (Ao (Bd bl0 _)).size b4.size)
     rcases cj with h|h
     .rw[h];exact au
     rw[h];intro e;injection e with e;exact absurd e (Nat.ne_of_gt (fb.out _ _))
  obtain rfl:m=j:=aK
  go_wp2_with fail;exact aE ⟨by rw[HP.out];exact ho,y⟩
 obtain rfl:s=k:=aK
 have ni:=T8 V SH D s;rw[<-r1.out]at b0 ni;let⟨np,fc⟩:=gN P.length
 rw[fc]at ni dy;have qw:=Ar fc;have r5:Hid (P.take np=P):=Ar (by rw[<-fc];exact dR);let⟨wb,cy⟩:∃wb:World,wb=wr:=⟨_,rfl⟩
 rw[<-cy]at b0 W ⊢;clear cy fc hz bq;go_upto_region 26 with fail;go_loopw [14] (λv wx=>∃m:Nat,m<=np/\Hid (I5 P m=I5 P np)/\OwS wx wa v (P.take m)/\Be wa wx) λv _=>Ahl v
 case atStart=>exact⟨np,aA,Ar rfl,by rw[r5.out];exact b0,W⟩
 clear b0 W;obtain⟨m,hm,hT,ho,y⟩:=hrel;have k1:(P.take m).length=m:=by rw[bC,qw.out];omega
 obtain⟨Ap,cp,rfl,k0,A7,bm⟩:=OwG.form2 ho;have dx:=Ar k1;rw[k1]at ho k0 bm ⊢;have n1:=Ar λi (h1:1<m) (T:m-1=i) h2=>Th (l:=P) h1 T h2;have n2:=Ar λh=>Xs (l:=P) (m:=m) h;let⟨i,T⟩:=gN (m-1)
 let⟨bb,a8⟩:=gN (decide (1<m)&&eqS (gt P i) (gt P 0))
 have ds:=Ar a8;have HI:=Ar T;clear k1;go_upto_region 26 with fail;go_cut [137] λv wx=>v=.bool bb/\Be wr wx
 case first =>
  by_cases h1:1<m
  .obtain⟨g,rfl,o6,o7⟩:=bm aK;obtain⟨d1,d2,-,-⟩:=OwS.cells ho dx.out (show i<m by omega);obtain⟨d3,d4,-,-⟩:=OwS.cells ho dx.out (show 0<m by omega);rw[Aaw (show i<m by omega)]at d1 d2;rw[Aaw (show 0<m by omega)]at d3 d4;rw[eC]at d3 d4;have ev:eqS (gt P i) (gt P 0)=bb:=by rw[<-a8];simp[h1]
   let⟨⟨lx,ly⟩,cn⟩:∃q,gt P i=q:=⟨_,rfl⟩
   let⟨⟨fx,fy⟩,o5⟩:∃q,gt P 0=q:=⟨_,rfl⟩
   rw[cn]at d1 d2 ev;rw[o5]at d3 d4 ev;dsimp only at d1 d2 d3 d4;have W3:=Kr (cX h1) T (bB hm aK);have B9:(i:Int)<(m:Int):=aK
   have z7:(0:Int)<(m:Int):=aK
   have qf:((2:Int)<=(m:Int))=True:=aO
   clear cn o5 T a8 h1;go_quiet (fail)
   go_wp2;go_meet;exact⟨rfl,Bd bl0 _⟩
  have ev:bb=false:=by rw[<-a8];simp[h1]
  have qf:((2:Int)<=(m:Int))=False:=aO
  clear T a8 h1;subst ev;go_quiet (fail)
  go_wp2;go_meet;exact⟨rfl,Bd bl0 _⟩
 obtain⟨rfl,iy⟩:=hcut;have cu:=OwG.keep ho iy;have eo:=An y iy;clear ho y iy a8;cases hbv:bb with
 | true =>
   rw[hbv]at ds;have Q:=ds.out;simp only[Bool.and_eq_true,decide_eq_true_eq]at Q;obtain⟨h1,h2⟩:=Q;obtain⟨g,rfl,o6,o7⟩:=bm aK;have W3:=Kr (cX h1) T (bB hm aK);have r4:=Ar ((n1.out i h1 T h2).symm.trans hT.out);have i1:(0:Int)<=(i:Int):=aK
   have i2:(i:Int)<=(cp:Int):=aK
   have i3:(i:Int)<=(m:Int):=aK
   have bq:=OwS.take cu dx.out (show i<=m by omega);rw[List.take_take,eR (show i<=m by omega)]at bq;have A9:i<m:=aK
   clear hbv h2 T h1;go_wp2;exact⟨⟨i,aK,r4,bq,eo⟩,by simp[Ahl];omega⟩
 | false =>
   rw[hbv]at ds
   have nk:I5 P m=m:=n2.out (by
    have Q:=ds.out;rw[Bool.and_eq_false_iff]at Q;rcases Q with h|h
    .left;simpa using h
    right;rw[T];exact h)
   rw[nk]at hT;have HG:=Ar (show G=P.take m by rw[dy.out,<-hT.out]);clear hbv nk T n1 n2;rw[<-HG.out]at cu;have c3:=Ar (show G.length=m by rw[HG.out];exact dx.out);obtain⟨A',c',e',-,ca,-⟩:=OwS.sps cu;rw[c3.out]at ca e';injection e' with e1 e2 e3
   subst e1 e3;clear e2;have x3:m<=80:=aK
   have A4:=ca;clear bm;go_upto_region 29 with fail;go_loopw [20,145] (λ_ i wx=>∃j:Nat,j<=m/\i=j/\Hid (Bp (λi=>!wS (gt G i) 1048576) j=false)/\Be wc wx) λ_ i _=>m-(intOf i).toNat
   case atStart=>exact⟨0,aB,rfl,Ar rfl,bl0⟩
   obtain⟨j,hj,rfl,hA,y⟩:=hrel;by_cases b5:j<m
   .obtain⟨b8,o8,rfl,-,cm⟩:=(ca.keep y).at_ b5;let⟨x1,x2⟩:=cm j b5;have HY:=Ar (λ(h:wS (gt G j) 1048576=true)=>Bp.succ (f:=λi=>!wS (gt G i) 1048576) hA.out (by rw[h];rfl));have HN:=Ar (λ(h:wS (gt G j) 1048576=false)=>Bp.yes (f:=λi=>!wS (gt G i) 1048576) b5 (by rw[h];rfl));let⟨⟨px,py⟩,hp⟩:∃p,gt G j=p:=⟨_,rfl⟩
    rw[hp]at x1 x2 HY HN;dsimp only at x1 x2;clear hp cm;have B8:(j:Int)<(m:Int):=aK
    cases hw:wS (px,py) 1048576 with
    | true =>
      have r6:=Ar (HY.out hw)
      go_wp2_with (go_at_call 141;refine rR (Is px py 1048576) λw8 N=>?_;rw[hw])
      exact aE ⟨r6,An (Ao y) N⟩
    | false =>
      have r2:=Ar (show R=([],3) by rw[HA.out,if_pos (by rw[c3.out];exact HN.out hw)])
      go_wp2_with (go_at_call 141;refine rR (Is px py 1048576) λw8 N=>?_;rw[hw])
      go_ret2
      rw[r2.out];exact⟨_,rfl,OwG.nil,An b9 (An eo (An (Ao y) N))⟩
   obtain rfl:m=j:=aK
   have db:=Ar (show R=if Bg G m≠0 then ([],Bg G m) else if orW G≠orW V then ([],11) else (G,0) by rw[HA.out,c3.out,if_neg (by rw[hA.out];simp)]);have ak:=ca.keep y;have gx:=cf.keep (An eo y);have oc:=OwG.keep cu y;have ix:=An b9 (An eo y);let⟨cg,jr⟩:=gN (Bg G m)
   let⟨og,kh⟩:=gN (orW G)
   let⟨ov,kk⟩:=gN (orW V)
   rw[jr,kh,kk]at db;have h5:=Ar jr;have mv:=Ar kh;have mx:=Ar kk;clear jr kh kk hj b5 hA ca cu y;by_cases ew:cg=0
   .subst ew;by_cases fs:og=ov
    .subst fs;have c4:=Ar (show R=(G,0) by rw[db.out,if_neg aL,if_neg aL])
     go_wp2_with (first
      | (go_at_call 142;have hX:=N;refine rR (G9 Av cv s V (gx.keep (An X N))) λw9 ek=>?_;rw[mx.out])
      | (go_at_call 142;refine(G9 Ap cp m G (ak.keep X)).mono ?_;rintro e w8 ⟨rfl,N⟩;rw[mv.out])
      | (go_at_call 39;refine rR (Dc Ap cp m G aK ak) λw7 X=>?_;rw[h5.out]))
     go_ret2
     rw[c4.out];exact⟨_,rfl,(OwG.keep oc (An (An X N) ek)).lower b9.size,An ix (An (An X N) ek)⟩
    have x4:(og != ov)=true:=by simpa using fs
    have c4:=Ar (show R=([],11) by rw[db.out,if_neg aL,if_pos fs]);clear fs
    go_wp2_with (first
     | (go_at_call 142;have hX:=N;refine rR (G9 Av cv s V (gx.keep (An X N))) λw9 ek=>?_;rw[mx.out])
     | (go_at_call 142;refine(G9 Ap cp m G (ak.keep X)).mono ?_;rintro e w8 ⟨rfl,N⟩;rw[mv.out])
     | (go_at_call 39;refine rR (Dc Ap cp m G aK ak) λw7 X=>?_;rw[h5.out]))
    go_ret2
    rw[c4.out];exact⟨_,rfl,OwG.nil,An ix (An (An X N) ek)⟩
   have wy:(cg != 0)=true:=by simpa using ew
   have c4:=Ar (show R=([],cg) by rw[db.out,if_pos ew]);clear ew
   go_wp2_with (go_at_call 39;refine rR (Dc Ap cp m G aK ak) λw7 X=>?_;rw[h5.out])
   go_ret2
   rw[c4.out];exact⟨_,rfl,OwG.nil,An ix X⟩
theorem vn(A:Option Addr)(a n:Nat)(E:List EdgeP)(d:Option Addr)(f g:Nat)(c:List Int)(b:n<=a)(k:n<=9223372036854775807)(i:EdS w A n E)(j:InS w d f c):Calls prog 91 #[.slice A n a,.slice d f g] w (Ng w (Ff E c)):=by
 by_cases h:(Ed E c).2=0
 .have e:=(Tr h).2.1;rw[i.1,j.1]at e;subst e;exact Aqm A a f E d g c w b i j h
 rw[show Ff E c=([],(Ed E c).2) by unfold Ff;rw[if_pos h]];exact Aqn A a n E d f g c w b k i j h
end Go.Proofs.YtboghahlhmnblaaGreat
