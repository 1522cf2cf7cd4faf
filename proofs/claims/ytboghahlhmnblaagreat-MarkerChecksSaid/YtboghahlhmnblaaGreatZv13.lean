/- Lean texts of the claim. -/
import Derived.Test.YtboghahlhmnblaaGreatZv09
import Derived.Test.YtboghahlhmnblaaGreatZv12
import Derived.Test.YtboghahlhmnblaaGreatZv11
namespace Go.Proofs.YtboghahlhmnblaaGreat
set_option linter.all false
set_option maxRecDepth 100000
set_option maxHeartbeats 0
open Go.RowKit Go.Proofs.Tryz
variable{a:World}{b g:Nat}{c:Int}{e:LP}{f:Int×Int}{d x:Int}{j n:Nat}{A:Option Addr}{w:World}
theorem L5{a d b e f:Int}:Calls prog 235 #[.agg #[c,a],.agg #[d,b],.agg #[e,f]] w (Bz w (Bs (c,a) (d,b) (e,f))):=by
 go_in;go_wp2;go_ret;exact⟨rfl,Ao (Ao blA)⟩
theorem Tw:Calls prog 236 #[x] w (Bz w (Ey x 0)):=by
 go_enter func236,ntmps236;go_wp2;all_goals go_ret
 all_goals exact⟨Bm (by unfold Ey;(repeat split)<;>omega),bl0⟩
theorem Ew{a d b f g:Int}:Calls prog 177 #[.agg #[c,a],.agg #[d,b],.agg #[f,g]] w (Bz w (.bool (onW (c,a) (d,b) (f,g)))):=by
 go_enter func177,ntmps177
 go_wp2_with (go_at_call 235;refine rR (L5) λk h=>?_;let⟨i,j⟩:=Ag2 h)
 all_goals go_ret
 all_goals refine⟨Bn ?_,An (Ao (Ao blA)) aQ⟩
 all_goals clear h i j
 all_goals (rw[cZ];simp[onW];try omega)
theorem Ic(a b:Int):Calls prog 69 #[.agg #[a,b],.int .i64 1048576] w (Bz w (.bool (!Cc 1048576 (a,b)))):=by
 go_enter func69,ntmps69;go_wp2;all_goals go_ret
 all_goals exact⟨Bn (by rw[cZ];simp[Cc]<;>omega),blA⟩
theorem Tx{a d b f g h i:Int}:Calls prog 178 #[.agg #[c,a],.agg #[d,b],.agg #[f,g],.agg #[h,i]] w (Bz w (.bool (Hs (c,a) (d,b) (f,g) (h,i)))):=by
 by_cases m:(onW (c,a) (d,b) (f,g) || onW (c,a) (d,b) (h,i) || onW (f,g) (h,i) (c,a) || onW (f,g) (h,i) (d,b))=true
 .have q:=Ar (show Hs (c,a) (d,b) (f,g) (h,i)=true by unfold Hs;rw[m];rfl);go_enter func178,ntmps178
  go_wp2_with (go_at_call 177;refine rR (Ew) λp k=>?_;(first|(have j:=Cls.call j k)|(have j:Cls w [(⟨w,0,none⟩,c),(⟨w,1,none⟩,a),(⟨w+1,0,none⟩,d),(⟨w+1,1,none⟩,b),(⟨w+1+1,0,none⟩,f),(⟨w+1+1,1,none⟩,g),(⟨w+1+1+1,0,none⟩,h),(⟨w+1+1+1,1,none⟩,i)] p:=Cls.call ⟨(Ao (Ao (Ao (Ao (aV _ _))))),aR⟩ k));clear k;have o:=j.2;simp only[AC]at o)
  all_goals first|(go_ret;exact⟨Bn q.out.symm,j.1⟩)|(exfalso;simp_all;done)
 simp only[Bool.or_eq_true,not_or,gE]at m;obtain⟨⟨⟨r,s⟩,t⟩,u⟩:=m;have q:=Ar (show Hs (c,a) (d,b) (f,g) (h,i)=(I8 (c,a) (d,b) (f,g) (h,i)&&I8 (f,g) (h,i) (c,a) (d,b)) by unfold Hs;rw[r,s,t,u];rfl);have x:=Ar r;have y:=Ar s;have z:=Ar t;have A:=Ar u;clear r s t u;let⟨v,B⟩:=gN (decide (IntKind.i64.wrap (Ey (Bs (c,a) (d,b) (f,g)) 0*Ey (Bs (c,a) (d,b) (h,i)) 0)<0))
 rw[show I8 (c,a) (d,b) (f,g) (h,i)=v from B]at q;cases v
 all_goals
  go_enter func178,ntmps178
  go_wp2_with (go_at_call 177;refine rR (Ew) λp k=>?_;(first|(have j:=Cls.call j k)|(have j:Cls w [(⟨w,0,none⟩,c),(⟨w,1,none⟩,a),(⟨w+1,0,none⟩,d),(⟨w+1,1,none⟩,b),(⟨w+1+1,0,none⟩,f),(⟨w+1+1,1,none⟩,g),(⟨w+1+1+1,0,none⟩,h),(⟨w+1+1+1,1,none⟩,i)] p:=Cls.call ⟨(Ao (Ao (Ao (Ao (aV _ _))))),aR⟩ k));clear k;have o:=j.2;simp only[AC]at o;(first|rw[x.out]|rw[y.out]|rw[z.out]|rw[A.out]))
  refine Bh w [(⟨w,0,none⟩,c),(⟨w,1,none⟩,a),(⟨w+1,0,none⟩,d),(⟨w+1,1,none⟩,b),(⟨w+1+1,0,none⟩,f),(⟨w+1+1,1,none⟩,g),(⟨w+1+1+1,0,none⟩,h),(⟨w+1+1+1,1,none⟩,i)] j ?_
  repeat
   first
   | go_big_quiet_skip
   | go_big_quiet_want
     apply Exists.intro;refine And.intro ?_ ?_
     .intro p n;have o:=n.2;simp only[AC]at o
      go_simp
      first|rfl|exact Bw n (L5)|exact Bw n (Tw)
     go_simp
     go_big_quiet_on
  refine cH ?_;intro p l;have k:=l.1;clear l j;go_wp2;go_ret;exact⟨Bn q.out.symm,k⟩
theorem Yc(a:g<b)(h:Lz e b g=false):bh e b=false:=Ix.no a h
theorem Ai2(d:j<b)(f:g+2<=j)(a:¬(j+1) % b=g)(h:Hs (gt e g) (gt e ((g+1) % b)) (gt e j) (gt e ((j+1) % b))=true):Lz e b g=false:=by
 have c:Pc e b g j=false:=by unfold Pc;rw[h];simp[a];omega
 unfold Lz;rw[Ix.no d c,gL]
theorem Of{C n:Nat}(l:LP)(a7:n<=C)(K:SpS w (some ⟨b,g,none⟩) n l)(hl:n<=1000:=by omega)(h3:3<=n:=by omega):Calls prog 121 #[.slice (some ⟨b,g,none⟩) n C] w (Bz w (.bool (bh l n))):=by
 go_enter func121,ntmps121;go_wp2;go_loopw [4] (λi wr=>∃k:Nat,k<=n/\i=k/\Hid (Ix (Lz l n) k=true)/\Be w wr) λi _=>n-(intOf i).toNat
 case atStart=>exact⟨0,aB,rfl,Ix.zero _,bl0⟩
 obtain⟨k,hk,rfl,hp,a⟩:=hrel;by_cases p:k<n
 .obtain⟨O,Q⟩:=(K.keep a).cells p;have S:(k+1) % n<n:=bE _ aK;have T:(k+2) % n<n:=bE _ aK;let⟨A,D⟩:=(K.keep a).cells S;have m1:=Q6 ((k:Int)+1) (k+1) n;have B:IntKind.i64.wrap ((k:Int)+1)=(k:Int)+1:=Dx k 1;have q3:¬n=0:=aK
  go_wp2_with fail;have t:b<wr.heap.size:=Bi O;go_cut [5,6] from 11 to 77 (λs5 s6 Y=>∃h m:Nat,s5=.pointer (some ⟨h,0,none⟩)/\s6=.pointer (some ⟨m,0,none⟩)/\Bf Y h 65 #[(gt l k).1,(gt l k).2]/\Bf Y m 65 #[(gt l ((k+1) % n)).1,(gt l ((k+1) % n)).2]/\Be w Y)
  case first =>
   go_region;all_goals go_wp2
   all_goals go_meet
   .exact⟨wr,wr+1,rfl,rfl,((Bf.new _ _ _).alloc _).drew,(Bf.new2 _ _ _ _).drew,Aw (Ao (Ao a))⟩
   exact⟨wr+1,wr,rfl,rfl,(Bf.new2 _ _ _ _).drew,((Bf.new _ _ _).alloc _).drew,Aw (Ao (Ao a))⟩
  clear O Q A D m1 B t a;obtain⟨h,m,rfl,rfl,d,f,a⟩:=hcut;let⟨A,D⟩:=(K.keep a).cells T;have t:b<wc.heap.size:=Bi A;have V:=Q6 ((k:Int)+2) (k+2) n;have B:IntKind.i64.wrap ((k:Int)+2)=(k:Int)+2:=Dx k 2;go_upto_region 7 with fail;have H:=Ao a (o:=.cells #[(gt l ((k+2) % n)).1,(gt l ((k+2) % n)).2] 65);refine Cu (λX=>Be w X/\Bf X h 65 #[(gt l k).1,(gt l k).2]/\Bf X m 65 #[(gt l ((k+1) % n)).1,(gt l ((k+1) % n)).2]/\Bf X wc 65 #[(gt l ((k+2) % n)).1,(gt l ((k+2) % n)).2]) ⟨H,d.alloc _,f.alloc _,Bf.new _ _ _⟩ ?_;clear H d f a A D t B V;rintro X ⟨a,d,f,r⟩;let⟨N,F⟩:=gN wc.heap.size
  rw[F]at r ⊢;clear F;let⟨c1,c2,c3,c4,c5⟩:=d.pair;let⟨d1,d2,d3,d4,d5⟩:=f.pair;let⟨f1,f2,f3,f4,f5⟩:=r.pair;have I:=Ea;have G:=a;let⟨v1,L⟩:=gN (eqS ((gt l k).1,(gt l k).2) ((gt l ((k+1) % n)).1,(gt l ((k+1) % n)).2))
  let⟨v2,x⟩:=gN (onW ((gt l k).1,(gt l k).2) ((gt l ((k+1) % n)).1,(gt l ((k+1) % n)).2) ((gt l ((k+2) % n)).1,(gt l ((k+2) % n)).2))
  let⟨v3,y⟩:=gN (onW ((gt l ((k+1) % n)).1,(gt l ((k+1) % n)).2) ((gt l ((k+2) % n)).1,(gt l ((k+2) % n)).2) ((gt l k).1,(gt l k).2))
  have P:=Ar (show Lz l n k=(!(v1 || v2 || v3)&&Ix (Pc l n k) n) by rw[<-L,<-x,<-y];rfl);have Z:=Ar x;have H3:=Ar y;clear x y;cases v1
  case true =>
   go_wp2;go_ret;exact⟨Bn (Yc p P.out).symm,a⟩
  case false =>
   cases v2<;>cases v3
   all_goals go_wp2_with (go_at_call 177;refine rR (Ew) λW a=>?_;(first|(have c:=Cls.call c a)|(have c:Cls w [(⟨h,0,none⟩,(gt l k).1),(⟨h,1,none⟩,(gt l k).2),(⟨m,0,none⟩,(gt l ((k+1) % n)).1),(⟨m,1,none⟩,(gt l ((k+1) % n)).2),(⟨N,0,none⟩,(gt l ((k+2) % n)).1),(⟨N,1,none⟩,(gt l ((k+2) % n)).2)] W:=Cls.call ⟨G,aR⟩ a));clear a;have z:=c.2;simp only[AC]at z;(first|rw[Z.out]|rw[H3.out]))
   all_goals try (go_ret;exact⟨Bn (Yc p P.out).symm,c.1⟩)
   have E:=Cls.four c;clear c z c1 c2 c3 c4 c5 d1 d2 d3 d4 d5 f1 f2 f3 f4 f5 a G d f r I Z H3 L;go_loopw [8] (λi wr=>∃j:Nat,k+2<=j/\j<=n+2/\i=j/\Hid (Ix (Pc l n k) j=true)/\Cls w [(⟨h,0,none⟩,(gt l k).1),(⟨h,1,none⟩,(gt l k).2),(⟨m,0,none⟩,(gt l ((k+1) % n)).1),(⟨m,1,none⟩,(gt l ((k+1) % n)).2)] wr) λi _=>n+2-(intOf i).toNat
   case atStart=>exact⟨k+2,aK,aK,aP,Ix.start λi hi=>by unfold Pc;simp[hi],E⟩
   clear E;obtain⟨j,R,bq,rfl,hq,c⟩:=hrel;have z:=c.2;simp only[AC]at z;by_cases J:j<n
   .have U:(j+1) % n<n:=bE _ aK;have q4:IntKind.i64.wrap ((j:Int)+1)=(j:Int)+1:=Dx j 1;have V:=Q6 ((j:Int)+1) (j+1) n;have q3:¬n=0:=aK
    let⟨O,Q⟩:=(K.keep c.1).cells J;let⟨A,D⟩:=(K.keep c.1).cells U;by_cases u:(j+1) % n=k
    case' pos =>
     have B:(((j:Int)+1) % (n:Int) != (k:Int))=false:=by
      rw[show ((j:Int)+1) % (n:Int)=(((j+1) % n:Nat):Int) from Abi j n,u];simp
    case' neg =>
     have B:(((j:Int)+1) % (n:Int) != (k:Int))=true:=by
      rw[show ((j:Int)+1) % (n:Int)=(((j+1) % n:Nat):Int) from Abi j n,eT];omega
    all_goals
     have HJ:=Ar u;clear u;go_wp2_with fail;refine Bh w [(⟨h,0,none⟩,(gt l k).1),(⟨h,1,none⟩,(gt l k).2),(⟨m,0,none⟩,(gt l ((k+1) % n)).1),(⟨m,1,none⟩,(gt l ((k+1) % n)).2),(⟨b,g+j*2,none⟩,(gt l j).1),(⟨b,g+j*2+1,none⟩,(gt l j).2),(⟨b,g+(j+1) % n*2,none⟩,(gt l ((j+1) % n)).1),(⟨b,g+(j+1) % n*2+1,none⟩,(gt l ((j+1) % n)).2)] ⟨c.1,aR⟩ ?_
     repeat
      first
      | go_big_quiet_skip
      | go_big_quiet_want
        apply Exists.intro;refine And.intro ?_ ?_
        .intro W M;have z:=M.2;simp only[AC]at z
         go_simp
         first|rfl|exact Bw M (Tx)
        go_simp
        go_big_quiet_on
     refine cH ?_;intro W q;clear B V q4 O Q A D;have s:=Cls.four q;clear q c z;go_wp2
    .go_ret;exact⟨Bn (Yc p (Ai2 J R HJ.out ‹_›)).symm,s.1⟩
    .go_roundw
     case rel=>exact⟨j+1,aK,aK,aP,Za hq.out (by simpa using ‹_›),s⟩
     case measure=>simp[intOf];omega
    exact⟨⟨j+1,aK,aK,aP,Ix.succ hq.out (by unfold Pc;simp[HJ.out]),s⟩,aI⟩
   go_wp2_with fail
   exact aE ⟨Ix.succ hp.out (P.out.trans (Ix.mono hq.out aK)),c.1⟩
 obtain rfl:n=k:=aK
 go_wp2;go_ret;exact⟨Bn hp.out.symm,a⟩
theorem Wg(c:e.length=b)(h:Bp (λi=>Cc 1048576 (gt e i)) b=false):∀q∈e,Du 1048576 q:=by
 intro q hq;obtain⟨i,a,rfl⟩:=Adu hq;apply Oy;cases ho:Cc 1048576 (gt e i) with
 | false=>rfl
 | true=>rw[Bp.yes aK ho]at h;cases h
theorem Hr(j:Nat)(l:LP)(c:n<=j)(f:SpS w A n l)(hl:n<=9223372036854775807:=by omega):Calls prog 70 #[.slice A n j] w (Bz w (Bg l n)):=by
 by_cases u:40<n
 .go_in;go_wp2;go_ret;exact⟨Bm (Ir u).symm,bl0⟩
 by_cases v:n<3
 .go_in;go_wp2;go_ret;exact⟨Bm (Jf v).symm,bl0⟩
 obtain⟨b,x,rfl,-,-⟩:=f.at_ (k:=0) aK;have p:=Ar u;have q:=Ar v;go_in;go_wp2;go_loopw [3] (λi wr=>∃k:Nat,k<=n/\i=k/\Hid (Bp (λi=>Cc 1048576 (gt l i)) k=false)/\Be w wr) λi _=>n-(intOf i).toNat
 case atStart=>exact⟨0,aB,rfl,Ar (Bp.zero _),bl0⟩
 obtain⟨k,B,rfl,o,d⟩:=hrel;by_cases m:k<n
 .obtain⟨y,z⟩:=(f.keep d).cells m;cases ho:Cc 1048576 ((gt l k).1,(gt l k).2) with
  | false =>
    have g:=Ar ho;clear ho
    go_wp2_with (go_at_call 69;refine rR (Ic _ _) λs a=>?_;rw[g.out])
    exact aE ⟨Ar (Bp.succ o.out g.out),An d a⟩
  | true =>
    have g:=Ar ho;clear ho
    go_wp2_with (go_at_call 69;refine rR (Ic _ _) λs a=>?_;rw[g.out])
    go_ret;exact⟨Bm (Rh p.out q.out (Bp.yes m g.out)).symm,An d a⟩
 obtain rfl:n=k:=aK
 have r:bh l n=C8 l n:=by
  have:=lq (Wg f.1 o.out) (by rw[f.1];omega)
  rwa [f.1] at this
 have t:=Ar r;cases hv:C8 l n with
 | false =>
   have h:=Ar hv;clear hv r
   go_wp2_with (go_at_call 121;refine rR (Of l c (f.keep d)) λs a=>?_;rw[t.out,h.out])
   go_ret;exact⟨Bm (Ri p.out q.out o.out h.out).symm,An d a⟩
 | true =>
   have h:=Ar hv;clear hv r
   go_wp2_with (go_at_call 121;refine rR (Of l c (f.keep d)) λs a=>?_;rw[t.out,h.out])
   go_ret;exact⟨Bm (U9 p.out q.out o.out h.out).symm,An d a⟩
theorem Aes(s u v:Int):wrap64 (wrap64 (s+wrap64 u)-wrap64 v)=wrap64 (s+wrap64 (wrap64 u-wrap64 v)):=by
 unfold wrap64;omega
theorem bf(b g d n:Nat)(l:LP)(u:n<=d)(v:SpS w (some ⟨b,g,none⟩) n l)(L:n<=1000000:=by omega)(J:0<n:=by omega):Calls prog 75 #[.slice (some ⟨b,g,none⟩) n d] w (Bz w (F4 l n n)):=by
 go_enter func75,ntmps75;go_wp2;go_loopw [3,4] (λs i wr=>∃k:Nat,k<=n/\i=k/\s=(F4 l n k)/\Be w wr) λ_ i _=>n-(intOf i).toNat
 case atStart=>exact⟨0,aB,rfl,rfl,bl0⟩
 obtain⟨k,K,rfl,rfl,a⟩:=hrel;by_cases o:k<n
 .obtain⟨t,C⟩:=(v.keep a).cells o;have p:(k+1) % n<n:=bE _ aK;let⟨D,E⟩:=(v.keep a).cells p;have F:=Q6 ((k:Int)+1) (k+1) n;have G:IntKind.i64.wrap ((k:Int)+1)=(k:Int)+1:=Dx k 1;have M:¬n=0:=aK
  let⟨r,c⟩:=gN (F4 l n k)
  rw[c];have x:=Ar c;clear c;go_wp2_with fail;have m:b<wr.heap.size:=Bi t;go_cut [5,6] from 7 to 37 (λH I q=>∃h j:Nat,H=.pointer (some ⟨h,0,none⟩)/\I=.pointer (some ⟨j,0,none⟩)/\Bf q h 65 #[(gt l k).1,(gt l k).2]/\Bf q j 65 #[(gt l ((k+1) % n)).1,(gt l ((k+1) % n)).2]/\Be w q)
  case first =>
   go_region;all_goals go_wp2
   all_goals go_meet
   .exact⟨wr,wr+1,rfl,rfl,((Bf.new _ _ _).alloc _).drew,(Bf.new2 _ _ _ _).drew,Aw (Ao (Ao a))⟩
   exact⟨wr+1,wr,rfl,rfl,(Bf.new2 _ _ _ _).drew,((Bf.new _ _ _).alloc _).drew,Aw (Ao (Ao a))⟩
  clear t C D E F G m a;obtain⟨h,j,rfl,rfl,e,f,a⟩:=hcut;have y:=(e.cell 0).trans rfl;have z:=(e.cell 1).trans rfl;have A:=(f.cell 0).trans rfl;have B:=(f.cell 1).trans rfl;simp only[cA,bS,cE]at y z A B;go_wp2;go_roundw
  case rel=>exact⟨k+1,aK,aP,by rw[F4,x.out,Aes],a⟩
  case measure=>simp[intOf];omega
 obtain rfl:n=k:=aK
 go_wp2;go_ret;exact⟨rfl,a⟩
theorem Awi(d:e.length=b)(c:g<b):e.reverse.take (b-1-g)++[gt e g]=e.reverse.take (b-g):=by
 have a:b-1-g<e.reverse.length:=by rw[dV];omega
 rw[show b-g=(b-1-g)+1 by omega,cG a]
 congr 2
 rw[List.getElem_reverse];unfold gt;rw[List.getD_eq_getElem?_getD,aW aK];simp only[Option.getD_some]
 congr 1
 omega
theorem As1(b f h n:Nat)(l:LP)(A:n<=1000000)(q:SpS w (some ⟨b,f,none⟩) n l):Calls prog 238 #[.slice (some ⟨b,f,none⟩) n h] w (Vi w l.reverse):=by
 have o:=Ar q.1;go_in;have v:IntKind.i64.wrap ((n:Int)-1)=(n:Int)-1:=Fm _ aK aK;go_wp2;go_loopw [3,4] (λs i wr=>∃z:Int,-1<=z/\z<n/\i=z/\OwS wr w s (l.reverse.take (n-(z+1).toNat))/\Be w wr) λ_ i _=>(intOf i+1).toNat
 case atStart=>exact⟨(n:Int)-1,aK,aK,rfl,by rw[show n-((n:Int)-1+1).toNat=0 by omega];exact OwG.nil,bl0⟩
 clear v;obtain⟨z,t,u,rfl,d,g⟩:=hrel;by_cases r:0<=z
 .obtain⟨k,rfl⟩:∃k:Nat,z=(k:Int):=⟨z.toNat,aK⟩
  have a:k<n:=aK
  let⟨x,y⟩:=(q.keep g).cells a;have B:IntKind.i64.wrap ((k:Int)-1)=(k:Int)-1:=Fm _ aK aK;have j:n-((k:Int)+1).toNat=n-1-k:=aK
  rw[j]at d;have c:(l.reverse.take (n-1-k)).length<=1000000:=by rw[bC];omega
  go_wp2_with (at_builtin;refine Dl rfl w (l.reverse.take (n-1-k)) (d.alloc _) wr 1 (gt l k) 65 (Bf.new _ _ _) c (Ao g).size ?_;intro C D e m p)
  rw[Awi o.out a]at e;exact⟨⟨(k:Int)-1,aK,aK,rfl,by rw[show n-((k:Int)-1+1).toNat=n-k by omega];exact e,Bk (Ao g) (d.alloc _) m⟩,aJ⟩
 obtain rfl:z = -1:=aK
 have j:l.reverse.take (n-((-1:Int)+1).toNat)=l.reverse:=by
  rw[cW];rw[dV,o.out];simp
 rw[j]at d;go_wp2;go_ret;exact⟨_,rfl,d,g⟩
section
open Go.RowKit Limb
structure Seg where
 fx:Int
 fy:Int
 tx:Int
 ty:Int
 wd:Int
def crD(a b:Seg):Int:=(a.tx-a.fx)*(b.ty-b.fy)-(a.ty-a.fy)*(b.tx-b.fx)
def crN(a b:Seg):Int:=(b.fx-a.fx)*(b.ty-b.fy)-(b.fy-a.fy)*(b.tx-b.fx)
def Ajg(v:Int×Int)(a b:Seg):Int:=rnd (((a.fx-v.1)*crD a b+(a.tx-a.fx)*crN a b)*(crD a b).sign) (crD a b).natAbs
def Ajf(v:Int×Int)(a b:Seg):Int:=rnd (((a.fy-v.2)*crD a b+(a.ty-a.fy)*crN a b)*(crD a b).sign) (crD a b).natAbs
def C9(v:Int×Int)(a b:Seg):LP :=
 if crD a b=0 then [(a.tx,a.ty),(b.fx,b.fy)]
 else if (inC (Ajg v a b)&&inC (Ajf v a b))&&wS (Ajg v a b,Ajf v a b) (4*max a.wd b.wd+4) then [(v.1+Ajg v a b,v.2+Ajf v a b)]
 else [(a.tx,a.ty),(b.fx,b.fy)]
end
def Qi(v:LP):Int:=if Bg v v.length=0 then F4 v v.length v.length else 0
def orW(v:LP):Int:=Ey (Qi v) 0
def Ek(E:List EdgeP)(a:List Int):Nat->List Int
 | 0=>[]
 | k+1=>Ek E a k++List.replicate ((edg E k).ln.length-1) (gi a k)
def Hl(E:List EdgeP)(a:List Int):List Int:=Ek E a E.length
def shP(v:LP)(sg:Int)(a:List Int)(i:Nat):Int×Int :=
 (F8 (sg*gi a i*((gt v ((i+1) % v.length)).2-(gt v i).2)) (Ca (sqd (gt v i) (gt v ((i+1) % v.length)))),
  F8 (-(sg*gi a i)*((gt v ((i+1) % v.length)).1-(gt v i).1)) (Ca (sqd (gt v i) (gt v ((i+1) % v.length)))))
def Ec(E:List EdgeP)(a:List Int):LP:=(List.range (Bj E).length).map (shP (Bj E) (orW (Bj E)) (Hl E a))
def wdB(a:List Int)(i:Nat):Bool:=decide (gi a i<0) || decide (500<gi a i)
def Ed(E:List EdgeP)(a:List Int):LP×Int :=
 if C7 E≠0 then ([],C7 E) else if a.length≠E.length then ([],1) else if Bp (wdB a) a.length then ([],3) else (Ec E a,0)
def Vl(v sh:LP)(a:List Int)(i:Nat):Seg :=
 ⟨(gt v i).1+(gt sh i).1,(gt v i).2+(gt sh i).2,(gt v ((i+1) % v.length)).1+(gt sh i).1,(gt v ((i+1) % v.length)).2+(gt sh i).2,gi a i⟩
def Om(l:LP)(p:Int×Int):LP:=if l.length=0 then l++[p] else if eqS (gt l (l.length-1)) p then l else l++[p]
def Cw(l c:LP):Nat->LP
 | 0=>l
 | k+1=>Om (Cw l c k) (gt c k)
def Wy(v sh:LP)(a:List Int)(i:Nat):LP:=C9 (gt v i) (Vl v sh a ((i+v.length-1) % v.length)) (Vl v sh a i)
def K7(v sh:LP)(a:List Int):Nat->LP
 | 0=>[]
 | i+1=>Cw (K7 v sh a i) (Wy v sh a i) (Wy v sh a i).length
def I5(l:LP):Nat->Nat
 | 0=>0
 | k+1=>if 2<=k+1/\eqS (gt l k) (gt l 0)=true then I5 l k else k+1
def ze(E:List EdgeP)(a:List Int):LP:=K7 (Bj E) (Ec E a) (Hl E a) (Bj E).length
def Dy(E:List EdgeP)(a:List Int):LP:=(ze E a).take (I5 (ze E a) (ze E a).length)
def Ff(E:List EdgeP)(a:List Int):LP×Int :=
 if (Ed E a).2≠0 then ([],(Ed E a).2)
 else if Bp (λi=>!wS (gt (Dy E a) i) 1048576) (Dy E a).length then ([],3)
 else if Bg (Dy E a) (Dy E a).length≠0 then ([],Bg (Dy E a) (Dy E a).length)
 else if orW (Dy E a)≠orW (Bj E) then ([],11) else (Dy E a,0)
theorem Ip(v:Int×Int)(a b:Seg):(C9 v a b).length<=2:=by
 unfold C9;split
 .simp
 split<;>simp
theorem mb(l:LP)(p:Int×Int):(Om l p).length<=l.length+1:=by
 unfold Om;split
 .simp
 split<;>simp
theorem L8(l c:LP)(k:Nat):(Cw l c k).length<=l.length+k:=by
 induction k with
 | zero=>simp[Cw]
 | succ k ih =>
   rw[Cw];have:=mb (Cw l c k) (gt c k);omega
theorem T8(v sh:LP)(a:List Int)(k:Nat):(K7 v sh a k).length<=2*k:=by
 induction k with
 | zero=>simp[K7]
 | succ k ih =>
   rw[K7];have b:=L8 (K7 v sh a k) (Wy v sh a k) (Wy v sh a k).length;have c:(Wy v sh a k).length<=2:=Ip _ _ _;omega
theorem Gt{E:List EdgeP}{a:List Int}(k:Nat):(Ek E a k).length=(Cn E k).length:=by
 induction k with
 | zero=>rfl
 | succ k ih=>rw[Ek,Cn,bA,bA,List.length_replicate,Jv,ih]
theorem Je(h:Bg e b=0):3<=b/\b<=40/\(∀k,k<b->Nd (gt e k))/\C8 e b=true:=by
 unfold Bg at h;split at h
 .cases h
 split at h
 .cases h
 split at h
 .cases h
 rename_i g j a;split at h
 .rename_i c;refine⟨aK,aK,λk d=>?_,c⟩;cases ho:Cc 1048576 (gt e k) with
  | false=>unfold Cc at ho;unfold Nd;simp at ho;omega
  | true=>exact absurd (Bp.yes (f:=λi=>Cc 1048576 (gt e i)) d ho) a
 cases h
theorem um(h:Bg e b=0)(q:g<b)(r:j<b)(s:g≠j):gt e g≠gt e j:=by
 have k:=(Je h).2.2.2;unfold C8 at k;rw[Bool.and_eq_true]at k;have o:=Ix.iff.1 k.1
 have c:∀a d,d<a->a<b->gt e a≠gt e d:=by
  intro a d i n p;have:=o a n;rw[show tp e a=true from Bp.yes (f:=λj=>eqS (gt e a) (gt e j)) i ((Ge _ _).2 p)]at this;cases this
 rcases bG g j with l|l
 .exact λm=>c j g l r m.symm
 exact c g j aK q
theorem Ada(p q:Int×Int):(q.1-p.1)*(q.1-p.1)<=(sqd p q:Int)/\(q.2-p.2)*(q.2-p.2)<=(sqd p q:Int)/\(p≠q->1<=sqd p q)/\(sqd p q:Int)=(q.1-p.1)*(q.1-p.1)+(q.2-p.2)*(q.2-p.2):=by
 have d:0<=(q.1-p.1)*(q.1-p.1):=(Na (M:=((q.1-p.1).natAbs:Int))).1;have f:0<=(q.2-p.2)*(q.2-p.2):=(Na (M:=((q.2-p.2).natAbs:Int))).1;have e:(sqd p q:Int)=(q.1-p.1)*(q.1-p.1)+(q.2-p.2)*(q.2-p.2):=by unfold sqd;omega
 refine⟨aK,aK,λa=>?_,e⟩;by_cases b:q.1-p.1=0
 .by_cases c:q.2-p.2=0
  .exact absurd (Prod.ext aK aK) a
  have:(q.2-p.2)*(q.2-p.2)≠0:=Int.mul_ne_zero c c;omega
 have:(q.1-p.1)*(q.1-p.1)≠0:=Int.mul_ne_zero b b;omega
theorem Iu(h:d*d<=(b:Int))(f:b<(g+1)*(g+1)): -(g:Int)<=d/\d<=(g:Int):=by
 constructor
 .refine bT λc=>?_
  have a:(g:Int)+1 <= -d:=aK
  have:=Int.mul_le_mul a a aK aK;rw[Int.neg_mul_neg]at this;have e:(((g+1)*(g+1):Nat):Int)=((g:Int)+1)*((g:Int)+1):=by push_cast;rfl
  omega
 refine bT λc=>?_
 have a:(g:Int)+1<=d:=aK
 have:=Int.mul_le_mul a a aK aK;have e:(((g+1)*(g+1):Nat):Int)=((g:Int)+1)*((g:Int)+1):=by push_cast;rfl
 omega
theorem ot(v:LP): -1<=orW v/\orW v<=1:=by unfold orW Ey;split<;>(try split)<;>omega
theorem Nl{q:Int×Int}(h:Nd f)(hq:Nd q)(b:f≠q):(sqd f q)<1125899906842624/\1<=Ca (sqd f q)/\Ca (sqd f q)<=4294967296 /\
 -(Ca (sqd f q):Int)<=q.1-f.1/\q.1-f.1<=Ca (sqd f q) /\ -(Ca (sqd f q):Int)<=q.2-f.2/\q.2-f.2<=Ca (sqd f q):=by
 obtain⟨j,k,l,m⟩:=h;obtain⟨o,p,r,s⟩:=hq;let⟨c,s2,i,y⟩:=Ada f q;have v:=Na (d:=q.1-f.1) (M:=2097152);have w:=Na (d:=q.2-f.2) (M:=2097152);have g:sqd f q<1125899906842624:=by omega
 let⟨x,a⟩:=Jn (n:=sqd f q);have t:=i b;refine⟨g,?_,Yj,Iu c a |>.1,Iu c a |>.2,Iu s2 a |>.1,Iu s2 a |>.2⟩;refine bT λu=>?_
 have e:Ca (sqd f q)=0:=by omega
 rw[e]at a;omega
theorem Ahj{c d R:Int}(e : -R<=d)(f:d<=R)(hc1: -500<=c:=by omega)(hc2:c<=500:=by omega)(h:0<=R:=by omega): -(R*500)<=c*d/\c*d<=R*500:=by
 have i:0<=(500-c)*R:=dT aK h;have j:0<=(500+c)*R:=dT aK h;rcases iH 0 c with g|g
 .have b:=Int.mul_le_mul_of_nonneg_left f g;have a:=Int.mul_le_mul_of_nonneg_left e g;rw[Int.sub_mul]at i;rw[Int.mul_neg]at a;have:=eW R 500;omega
 have b:=Int.mul_le_mul_of_nonneg_left f (show 0 <= -c by omega);have a:=Int.mul_le_mul_of_nonneg_left e (show 0 <= -c by omega);rw[gJ]at j;rw[Int.neg_mul,Int.neg_mul]at b;rw[Int.neg_mul,Int.neg_mul,Int.mul_neg]at a;have:=eW R 500;omega
theorem ks{q:Int×Int}(a : -500<=c)(b:c<=500)(g:Nd f)(hq:Nd q)(e:f≠q):
 -1048576000<=c*(q.2-f.2)/\c*(q.2-f.2)<=1048576000 /\ -1048576000 <= -c*(q.1-f.1) /\ -c*(q.1-f.1)<=1048576000 /\
 -500<=F8 (c*(q.2-f.2)) (Ca (sqd f q))/\F8 (c*(q.2-f.2)) (Ca (sqd f q))<=500 /\ -500<=F8 (-c*(q.1-f.1)) (Ca (sqd f q))/\F8 (-c*(q.1-f.1)) (Ca (sqd f q))<=500:=by
 let⟨y,z,A,l,m,n,o⟩:=Nl g hq e;obtain⟨p,r,s,t⟩:=g;obtain⟨u,v,w,x⟩:=hq;have h:=Ahj (c:=c) (d:=q.2-f.2) (R:=Ca (sqd f q)) (hc1:=a) (hc2:=b) n o;have i:=Ahj (c := -c) (d:=q.1-f.1) (R:=Ca (sqd f q)) l m;have B:=Ahj (c:=c) (d:=q.2-f.2) (R:=2097152) (hc1:=a) (hc2:=b) (by omega) (by omega);have C:=Ahj (c := -c) (d:=q.1-f.1) (R:=2097152) (by omega) (by omega);have j:=L4 (M:=500) (show (0:Int)<Ca (sqd f q) by omega) h.1 h.2;have k:=L4 (M:=500) (show (0:Int)<Ca (sqd f q) by omega) i.1 i.2;exact⟨by omega,by omega,by omega,by omega,j.1,j.2,k.1,k.2⟩
end Go.Proofs.YtboghahlhmnblaaGreat
