/- Lean texts of the claim. -/
import Derived.Test.YtlogblbfbihleaaGreatZr18
namespace Go.Proofs.YtlogblbfbihleaaGreat
set_option linter.all false
set_option maxRecDepth 100000
set_option maxHeartbeats 0
open Go.RowKit
variable{a h:Nat}{b n:World}{e l m:Int}{f:LP}{g:Value}{i:Int×Int}{j:List LP}{k:TypeId}
section
open Go.RowKit Go.Maps
structure End6 where
 put:Pt5
 right:Int
deriving DecidableEq
def enE (e:End6):List Value:=[.int .i64 e.put.sh,.bool e.put.fl,.int .i64 e.put.qu,.int .i64 e.put.x,.int .i64 e.put.y,.int .i64 e.right]
theorem Ef(e:End6):(enE e).length=6:=rfl
theorem ti(e:End6):∀u∈enE e,u.oneCell'=true:=by
 intro u a;simp[enE]at a;rcases a with rfl|rfl|rfl|rfl|rfl|rfl<;>rfl
theorem Aj7:(Tryz.prog.info? 158).map (λi=>(i.zero,i.size,i.bytes))=some (some (.agg #[.int .i64 0,.bool false,.int .i64 0,.int .i64 0,.int .i64 0,.int .i64 0]),6,48):=by kernel_rfl
def ez (e:End6):Value:=.agg #[e.put.sh,.bool e.put.fl,e.put.qu,e.put.x,e.put.y,e.right]
def okE (e:End6):Prop:=inR e.put.sh/\inR e.put.qu/\inR e.put.x/\inR e.put.y/\inR e.right
def klE (e:End6):Lit:=.string (keyBytes [.int .i64 e.put.sh,.bool e.put.fl,.int .i64 e.put.qu,.int .i64 e.put.x,.int .i64 e.put.y,.int .i64 e.right])
theorem Ahy:(match Tryz.prog.underlying 158 with|some (.array _ _)|some (.struct _)=>true|_=>false)=true:=by rw[Tryz.underlying158]
theorem Aot:(158:TypeId)<Tryz.prog.types.size:=of_decide_eq_true (by kernel_rfl)
theorem Apd:Keyed Tryz.prog 158:=Keyed.of_law (deep_law_laid (P:=Tryz.prog) (k:=158) O8 (m:=4) (by omega) Aot (by kernel_rfl) Ahy)
theorem uv:Tryz.prog.cellsOf 158=6:=by kernel_rfl
theorem uu:Tryz.prog.cellsOf 92=5:=by kernel_rfl
theorem Zv:Tryz.prog.cellsOf 59=2:=by kernel_rfl
theorem cellsB:Tryz.prog.cellsOf 4=1:=by kernel_rfl
theorem Amv:Tryz.prog.keyType 158=true:=by kernel_rfl
section
variable {P : Program} {t : TypeId} {d : Nat} {cs : List Value} {L1 L2 L3 : List Lit}
theorem Ja (hu:P.underlying t=some (.int .i64)) {n:Int} (h:inR n):P.keyLits (d+1) t [.int .i64 n]=some [.int .i64 n]:=by
 unfold Program.keyLits;rw[hu];simp[Pe h]
theorem ew (hu:P.underlying t=some .bool) (b:Bool):P.keyLits (d+1) t [.bool b]=some [.bool b]:=by
 unfold Program.keyLits;rw[hu]
theorem Pa {f1 f2 : Field} (hu : P.underlying t = some (.struct #[f1, f2])) (hn : #[f1, f2].all (·.name != "_") = true) (hc : cs.length = P.cellsOf t) (h1 : P.keyLits d f1.type ((cs.drop f1.offset).take (P.cellsOf f1.type)) = some L1) (h2 : P.keyLits d f2.type ((cs.drop f2.offset).take (P.cellsOf f2.type)) = some L2) :
 P.keyLits (d+1) t cs=some (L1++L2):=by
 unfold Program.keyLits;rw[hu];simp only;rw[if_pos ⟨hc,hn⟩];simp[h1,h2]
theorem Wj {f1 f2 f3 : Field} (hu : P.underlying t = some (.struct #[f1, f2, f3])) (hn : #[f1, f2, f3].all (·.name != "_") = true) (hc : cs.length = P.cellsOf t) (h1 : P.keyLits d f1.type ((cs.drop f1.offset).take (P.cellsOf f1.type)) = some L1) (h2 : P.keyLits d f2.type ((cs.drop f2.offset).take (P.cellsOf f2.type)) = some L2) (h3 : P.keyLits d f3.type ((cs.drop f3.offset).take (P.cellsOf f3.type)) = some L3) :
 P.keyLits (d+1) t cs=some (L1++(L2++L3)):=by
 unfold Program.keyLits;rw[hu];simp only;rw[if_pos ⟨hc,hn⟩];simp[h1,h2,h3]
theorem Aao {k:TypeId} {fs:Array Field} (hu:P.underlying k=some (.struct fs)) (hk:P.keyType k=true) {xs:Array Value} (hf:(Value.agg xs).formed P k=true) {L:List Lit} (h:P.keyLits (P.types.size+1) k (Value.agg xs).cells.toList=some L):keyOf P k (.agg xs)=some (.string (keyBytes L)):=by
 unfold keyOf;rw[hu];simp[hk,hf,h]
end
theorem Af3(p:End6) (h:okE p):keyOf Tryz.prog 158 (ez p)=some (klE p):=by
 obtain⟨m,a⟩:=Qm;unfold ez klE;refine Aao (P:=Tryz.prog) Tryz.underlying158 Amv (by simp[Value.formed,Tryz.underlying158,uv]) ?_;rw[a,show [Lit.int .i64 p.put.sh,.bool p.put.fl,.int .i64 p.put.qu,.int .i64 p.put.x,.int .i64 p.put.y,.int .i64 p.right]=([.int .i64 p.put.sh]++(([.bool p.put.fl]++[.int .i64 p.put.qu])++([.int .i64 p.put.x]++[.int .i64 p.put.y])))++[.int .i64 p.right] from rfl];refine Pa Tryz.underlying158 (by kernel_rfl) (by rw[uv];rfl) ?_ ?_
 .rw[uu];refine Wj Tryz.underlying92 (by kernel_rfl) (by rw[uu];rfl) ?_ ?_ ?_
  .rw[cellsI];exact Ja Tryz.underlying3 h.1
  .rw[Zv];refine Pa Tryz.underlying59 (by kernel_rfl) (by rw[Zv];rfl) ?_ ?_
   .rw[cellsB];exact ew Tryz.underlying4 _
   rw[cellsI];exact Ja Tryz.underlying3 h.2.1
  rw[Ps];refine Pa Tryz.underlying60 (by kernel_rfl) (by rw[Ps];rfl) ?_ ?_
  .rw[cellsI];exact Ja Tryz.underlying3 h.2.2.1
  rw[cellsI];exact Ja Tryz.underlying3 h.2.2.2.1
 rw[cellsI];exact Ja Tryz.underlying3 h.2.2.2.2
theorem Ajr{d:Nat} {i:List Value} {L:List Lit} (h:Tryz.prog.keyLits (d+2) 59 i=some L):∃f q,i=[.bool f,.int .i64 q]/\inR q:=by
 let⟨g,⟨k,c⟩,⟨l,e⟩⟩:=qt Tryz.underlying59 h;rw[Zv]at g;rw[cellsB]at c;rw[cellsI]at e;obtain⟨a,b,rfl⟩:=Anw g;simp only[List.drop_zero,List.drop_succ_cons,List.take_succ_cons,List.take_zero]at c e;obtain⟨x,rfl⟩:=Ajs (P:=Tryz.prog) Tryz.underlying4 c;obtain⟨y,rfl,j⟩:=Uo (P:=Tryz.prog) Tryz.underlying3 e;exact⟨x,y,rfl,j⟩
theorem Aap(v:Value) (l:Lit) (h:keyOf Tryz.prog 158 v=some l):∃p,v=ez p/\okE p:=by
 obtain⟨m,A⟩:=Qm;obtain⟨B,L,rfl,n,rfl⟩:=keyOf_top (P:=Tryz.prog) (k:=158) Ahy h;rw[A]at n;let⟨j,⟨C,a⟩,⟨D,b⟩⟩:=qt Tryz.underlying158 n;rw[uv]at j;rw[uu]at a;rw[cellsI]at b;let⟨H,I,J,K,M,N,o⟩:=Apa j;rw[o]at a b;simp only[List.drop_zero,List.drop_succ_cons,List.take_succ_cons,List.take_zero]at a b;obtain⟨-,⟨E,c⟩,⟨F,d⟩,⟨G,e⟩⟩:=Y6 Tryz.underlying92 a;rw[cellsI]at c;rw[Zv]at d;rw[Ps]at e;simp only[List.drop_zero,List.drop_succ_cons,List.take_succ_cons,List.take_zero]at c d e;obtain⟨sh,rfl,s⟩:=Uo (P:=Tryz.prog) Tryz.underlying3 c;let⟨i,q,f,t⟩:=Ajr d;let⟨x,y,g,u,w⟩:=Adx e;obtain⟨r,rfl,z⟩:=Uo (P:=Tryz.prog) Tryz.underlying3 b;simp only[List.cons.injEq,and_true]at f g;obtain⟨rfl,rfl⟩:=f;obtain⟨rfl,rfl⟩:=g;refine⟨⟨⟨sh,i,q,x,y⟩,r⟩,?_,s,t,u,w,z⟩;unfold ez;rw[show B=#[.int .i64 sh,.bool i,.int .i64 q,.int .i64 x,.int .i64 y,.int .i64 r] by apply Array.ext';simpa using o]
theorem Ahi:KeyRep Tryz.prog 158 ez okE klE where
 law:=Apd
 of:=Af3
 inv:=Aap
 inj x y h:=by
  obtain⟨⟨a,b,c,d,e⟩,f⟩:=x;obtain⟨⟨g,i,j,k,l⟩,m⟩:=y;unfold ez at h;injection h with h
  injection h with h
  simp at h;obtain⟨rfl,rfl,rfl,rfl,rfl,rfl⟩:=h;rfl
theorem Bf.cells6{w:World}   {u1 u2 u3 u4 u5:Value} (h:Bf w a k #[g,u1,u2,u3,u4,u5]):Cq w a 0 g/\Cq w a 1 u1/\Cq w a 2 u2/\Cq w a 3 u3/\Cq w a 4 u4/\Cq w a 5 u5/\a<w.heap.size :=
 ⟨h.cell 0,h.cell 1,h.cell 2,h.cell 3,h.cell 4,h.cell 5,h.lt⟩
def xc (w:World) (B b:Nat) (L:List End6):Prop :=
 ∃c d,Bf w B 147 #[c,d]/\OwG 158 6 enE w B d L/\((c=.map none/\L=[])\/∃a,c=.map (some a)/\B<a/\a<b/\Dd Tryz.prog 158 4 okE klE w a L.length L)/\(∀k,d.ownBlock=some k->B<k/\k<b)/\B<b
theorem xc.keep{w:World}  {L:List End6} (k:xc w a h L) (d:Be w b):xc b a h L:=by
 obtain⟨p,q,l,m,c,n,o⟩:=k;refine⟨p,q,l.keep d,m.keep d,?_,n,o⟩;rcases c with c|⟨e,f,g,i,j⟩
 .exact .inl c
 exact .inr ⟨e,f,g,i,j.keep d⟩
theorem xc.mono{w:World} {b:Nat} {L:List End6} (l:xc w a h L) (o:h<=b):xc w a b L:=by
 obtain⟨p,q,m,n,c,d,s⟩:=l;refine⟨p,q,m,n,?_,λk e=>⟨(d k e).1,Nat.lt_of_lt_of_le (d k e).2 o⟩,by omega⟩;rcases c with c|⟨f,g,i,r,j⟩
 .exact .inl c
 exact .inr ⟨f,g,i,by omega,j⟩
theorem xc.new(w:World):xc (w.alloc (.cells #[.map none,.slice none 0 0] 147)) w.heap.size (w.heap.size+1) [] :=
 ⟨_,_,Bf.new _ _ _,OwG.nil,.inl ⟨rfl,rfl⟩,(λk a=>by cases a),by omega⟩
def AvE (w:World) (B s:Nat):Prop:=s<w.heap.size/\s≠B/\∀a b,Bf w B 147 #[a,b]->b.ownBlock≠some s/\a≠.map (some s)
theorem avE{w:World} {d:Nat}  (e:Bf w a 147 #[.map (some d),g]) (f:g.ownBlock≠some h) (i:d≠h):∀c g,Bf w a 147 #[c,g]->g.ownBlock≠some h/\c≠.map (some h):=by
 intro c j b;unfold Bf at b e;rw[e]at b;simp at b;obtain⟨rfl,rfl⟩:=b;exact⟨f,by simp;exact i⟩
theorem xc.av{w:World} {s:Nat} {L:List End6} (b:xc w a h L) (o:h<=s) (c:s<w.heap.size):AvE w a s:=by
 obtain⟨p,q,d,m,f,g,n⟩:=b;refine⟨c,by omega,λi j b=>?_⟩;unfold Bf at b d;rw[d]at b;simp at b;obtain⟨rfl,rfl⟩:=b;refine⟨λe=>by have:=(g s e).2;omega,?_⟩;rcases f with⟨rfl,_⟩|⟨k,rfl,_,l,_⟩
 .simp
 simp;omega
theorem AvE.keep{w:World}  (c:AvE w a h) (f:a<w.heap.size) (d:Be w b):AvE b a h :=
 ⟨Nat.lt_of_lt_of_le c.1 d.size,c.2.1,λg i e=>c.2.2 g i ((d.block a f).symm.trans e)⟩
def Aqp (b:World) (B s:Nat) (L:List End6) (e:Ending) (a:World):Prop:=e=.returned (.tuple #[])/\xc a B a.heap.size L/\Below B b a/\b.heap.size<=a.heap.size/\a.heap[s]? = b.heap[s]? /\ AvE a B s
theorem Z7{p S k f d:Nat} {x:End6} {L c:List End6} {w:World}  {o:Obj} (C:Hid (Bo L c ⟨⟨0,false,0,0,0⟩,0⟩ (k+1)=Bo L c ⟨⟨0,false,0,0,0⟩,0⟩ k++[x])) (X:k<S)
 (r:Bf n a 147 #[.map (some h),g]) (E:OwG 158 6 enE b a g (Bo L c ⟨⟨0,false,0,0,0⟩,0⟩ k)) (gu:Dd Tryz.prog 158 4 okE klE b h ((Bo L c ⟨⟨0,false,0,0,0⟩,0⟩ k).length+1) (Bo L c ⟨⟨0,false,0,0,0⟩,0⟩ k++[x])) (D:∀k,g.ownBlock=some k->a<k/\k≠p)
 (u:Bf b p 158 (c.flatMap enE).toArray) (F:Below a w b) (U:w.heap.size<=b.heap.size) (I:OwG 158 6 enE n a (.slice (some ⟨f,0,none⟩) ((Bo L c ⟨⟨0,false,0,0,0⟩,0⟩ k).length+1) d) (Bo L c ⟨⟨0,false,0,0,0⟩,0⟩ k++[x]))
 (i:(b.alloc o).drew.grownBy n g.ownBlock) (z:g.ownBlock=some f\/f=b.heap.size+1) (W:a<h) {s:Nat} (Y:s<w.heap.size) (J:s≠a) (Z:h≠s) (G:b.heap[s]? = w.heap[s]?) (N:g.ownBlock≠some s) :
 (∃(m:Nat) (g:Value),m<=S/\Value.int IntKind.i64 ((k:Int)+1)=.int .i64 m/\Bf (n.setCell ⟨a,1,none⟩ (.slice (some ⟨f,0,none⟩) ((Bo L c ⟨⟨0,false,0,0,0⟩,0⟩ k).length+1) d)) a 147 #[.map (some h),g]/\OwG 158 6 enE (n.setCell ⟨a,1,none⟩ (.slice (some ⟨f,0,none⟩) ((Bo L c ⟨⟨0,false,0,0,0⟩,0⟩ k).length+1) d)) a g (Bo L c ⟨⟨0,false,0,0,0⟩,0⟩ m)/\Dd Tryz.prog 158 4 okE klE (n.setCell ⟨a,1,none⟩ (.slice (some ⟨f,0,none⟩) ((Bo L c ⟨⟨0,false,0,0,0⟩,0⟩ k).length+1) d)) h (Bo L c ⟨⟨0,false,0,0,0⟩,0⟩ m).length (Bo L c ⟨⟨0,false,0,0,0⟩,0⟩ m)/\(∀k,g.ownBlock=some k->a<k/\k≠p)/\Bf (n.setCell ⟨a,1,none⟩ (.slice (some ⟨f,0,none⟩) ((Bo L c ⟨⟨0,false,0,0,0⟩,0⟩ k).length+1) d)) p 158 (c.flatMap enE).toArray/\Below a w (n.setCell ⟨a,1,none⟩ (.slice (some ⟨f,0,none⟩) ((Bo L c ⟨⟨0,false,0,0,0⟩,0⟩ k).length+1) d))/\w.heap.size<=(n.setCell ⟨a,1,none⟩ (.slice (some ⟨f,0,none⟩) ((Bo L c ⟨⟨0,false,0,0,0⟩,0⟩ k).length+1) d)).heap.size/\Hid ((n.setCell ⟨a,1,none⟩ (.slice (some ⟨f,0,none⟩) ((Bo L c ⟨⟨0,false,0,0,0⟩,0⟩ k).length+1) d)).heap[s]? = w.heap[s]?)/\g.ownBlock≠some s):=by
 have B:∀M t O,b.heap[h]? ≠ some (.cells M t O):=λM t O q=>by let⟨es,cc,hq⟩:=gu.isMap;rw[hq]at q;cases q
 have Q:=gu.lt;have R:=u.lt
 have A:a<f/\f≠p:=by
  rcases z with q|q
  .exact D f q
  omega
 have l:(Value.slice (some ⟨f,0,none⟩) ((Bo L c ⟨⟨0,false,0,0,0⟩,0⟩ k).length+1) d).ownBlock=some f:=rfl
 have K:p≠a:=by
  intro e;subst e;have v:=(i.block p (by simp;omega) (by intro T;exact(D p T.symm).2 rfl));have P:=u.alloc o;unfold Bf at P r;rw[r]at v;have V:(b.alloc o).drew.heap[p]? = some (.cells (c.flatMap enE).toArray 158 (0,0)):=P;rw[V]at v;injection v with v
  injection v with _ v
  exact absurd v (by decide)
 refine⟨k+1,.slice (some ⟨f,0,none⟩) ((Bo L c ⟨⟨0,false,0,0,0⟩,0⟩ k).length+1) d,by omega,by go_num,r.set_ 1 _,by rw[C.out];exact OwG.far I (by rw[l];intro e;injection e with e;exact absurd e (Nat.ne_of_gt A.1)) _,?_,?_,?_,?_,?_,?_,?_⟩
 .rw[C.out,List.length_append];exact((gu.alloc o).keep blD).kept i (OwG.notMap E B).symm |>.kept (row:=some a) ⟨rfl,rfl,rfl,by simp[World.setCell],λj _ H=>Below.heap_setCell _ _ _ j λe=>H (by rw[e])⟩ (by intro e;injection e with e;omega)
 .intro j y;rw[l]at y;injection y with y
  subst y;exact A
 .exact(Bf.grown ((u.alloc o).drew) i (by intro e;exact(D p e.symm).2 rfl)).far K _
 .refine Below.setCell (Below.grown (Jx (Below.alloc F (by omega) o)) i (by simp;omega) λj y=>Nat.le_of_lt (D j y).1) (Nat.le_refl _) _
 .have:=i.size;simp[World.setCell]at this ⊢;omega
 .refine Ar ((Below.heap_setCell n _ _ s (by exact J)).trans ((i.block s (by simp;omega) λe=>N e.symm).trans ((Below.heap_alloc b o s (by omega)).trans G)))
 rw[l];intro e;injection e with e
 rcases z with q|q
 .exact N (by rw[q,e])
 omega
theorem Ack(B hi J n c:Nat) (L a:List End6) (w:World) (hn:a.length=n) (h7:n<=1000) (hL:L.length<=1000000000000) (hX:Bf w J 158 (a.flatMap enE).toArray) (ee:hi<=J) (er:∀x∈a,okE x) (hB:xc w B hi L) (s:Nat) (bt:AvE w B s) :
 Calls Tryz.prog 87 #[.pointer (some ⟨B,0,none⟩),.slice (some ⟨J,0,none⟩) n c] w (Aqp w B s (S9 L a ⟨⟨0,false,0,0,0⟩,0⟩)):=by
 have hz:=Qb;have HN:=Ar hn;have cf:=Ar er;have HW:=Ar (show S9 L a ⟨⟨0,false,0,0,0⟩,0⟩=Bo L a ⟨⟨0,false,0,0,0⟩,0⟩ n by unfold S9;rw[hn]);obtain⟨mv,o,k1,k2,k3,k4,k5⟩:=hB;have dx:=bt.1;have b3:=bt.2.1;have k9:=bt.2.2 mv o k1;rcases k3 with⟨rfl,cx⟩|⟨r,rfl,R,b8,k3⟩
 .have eo:=@run_makeMap Tryz.prog;have dk:=λ(w:World)=>run_eql_map_nil (P:=Tryz.prog) w 144 158 4 none Tryz.underlying144
  let⟨U,V,W,Y,S⟩:=k1.cells2;let⟨r,b8⟩:∃r,r=w.heap.size:=⟨_,rfl⟩
  have R:B<r:=by omega
  have k3:True:=trivial;have e8:=Ar cx;clear cx;go_enter Tryz.func87,Tryz.ntmps87;go_upto_region 2 with fail;clear eo dk;rw[<-b8];have b5:(w.setCell ⟨B,0,none⟩ (.map (some r))).heap.size=r:=by rw[b8];simp[World.setCell]
  have ev:Dd Tryz.prog 158 4 okE klE ((w.setCell ⟨B,0,none⟩ (.map (some r))).alloc (.map #[] 0)) r L.length L:=by
   rw[e8.out];have h9:=Dd.made (P:=Tryz.prog) (k:=158) (e:=4) (ok:=okE) (kl:=klE) (w.setCell ⟨B,0,none⟩ (.map (some r)));rw[b5]at h9;exact h9
  have fv:w.heap.size<=r:=by omega
  have gf:J≠r:=by have:=hX.lt;omega
  have b4:r≠s:=by omega
  have cw:Hid ((w.setCell ⟨B,0,none⟩ (.map (some r))).heap.size=r):=b5;clear U V W Y b5 b8;refine Cu (λX=>∃o,Bf X B 147 #[.map (some r),o]/\OwG 158 6 enE X B o L/\Dd Tryz.prog 158 4 okE klE X r L.length L/\(∀k,o.ownBlock=some k->B<k/\k≠J)/\Bf X J 158 (a.flatMap enE).toArray/\Below B w X/\w.heap.size<=X.heap.size/\X.heap[s]? = w.heap[s]? /\ o.ownBlock≠some s) ⟨o,(k1.set_ 0 _).alloc _,OwG.alloc (OwG.far k2 (λe=>Nat.lt_irrefl _ (k4 B e).1) _) _,ev,λk H=>⟨(k4 k H).1,by have:=(k4 k H).2;omega⟩,(hX.far (p:=⟨B,0,none⟩) (Nat.ne_of_gt (Nat.lt_of_lt_of_le k5 ee)) _).alloc _,Below.alloc (Below.setCell bl0 (Nat.le_refl _) _) (by rw[cw.out];exact Nat.le_of_lt R) _,by simp[World.setCell],(Below.heap_alloc _ _ s (by rw[cw.out];omega)).trans (Below.heap_setCell w ⟨B,0,none⟩ _ s b3),k9.1⟩ ?_;rintro wl ⟨ca,z,A,y,Q,v,D,K,E,T⟩;clear k1 k2 k3 k4 hX hz;go_wp2;go_loopw [17] (λi wr=>∃(k:Nat) (o:Value),k<=n/\i=.int .i64 k/\Bf wr B 147 #[.map (some r),o]/\OwG 158 6 enE wr B o (Bo L a ⟨⟨0,false,0,0,0⟩,0⟩ k)/\Dd Tryz.prog 158 4 okE klE wr r (Bo L a ⟨⟨0,false,0,0,0⟩,0⟩ k).length (Bo L a ⟨⟨0,false,0,0,0⟩,0⟩ k)/\(∀k,o.ownBlock=some k->B<k/\k≠J)/\Bf wr J 158 (a.flatMap enE).toArray/\Below B w wr/\w.heap.size<=wr.heap.size/\Hid (wr.heap[s]? = w.heap[s]?)/\o.ownBlock≠some s) λi _=>n-(intOf i).toNat
  case atStart=>exact⟨0,ca,Nat.zero_le _,rfl,z,A,y,Q,v,D,K,Ar E,T⟩
  obtain⟨k,o,H,rfl,z,A,y,Q,v,D,K,E,T⟩:=hrel;have ds:=En L a ⟨⟨0,false,0,0,0⟩,0⟩ k;by_cases b1:k<n
  .have bw:k<a.length:=by rw[HN.out];exact b1
   let⟨x,hx⟩:=gN (a.getD k ⟨⟨0,false,0,0,0⟩,0⟩)
   have u:a[k]? = some x:=by rw[<-hx,List.getD,List.getElem?_eq_getElem bw];rfl
   have C:okE x:=cf.out x (List.mem_of_getElem? u);have HX:=Ar hx;have d0:=(v.cell (k*6)).trans (by have:=Bu Ef a k 0 x u (by omega);simpa using this);have d1:=(v.cell (k*6+1)).trans (by have:=Bu Ef a k 1 x u (by omega);simpa using this);have d2:=(v.cell (k*6+2)).trans (by have:=Bu Ef a k 2 x u (by omega);simpa using this);have d3:=(v.cell (k*6+3)).trans (by have:=Bu Ef a k 3 x u (by omega);simpa using this);have d4:=(v.cell (k*6+4)).trans (by have:=Bu Ef a k 4 x u (by omega);simpa using this);have d5:=(v.cell (k*6+5)).trans (by have:=Bu Ef a k 5 x u (by omega);simpa using this);simp only[enE,List.getElem?_cons_zero,List.getElem?_cons_succ]at d0 d1 d2 d3 d4 d5;have bl:=v.lt;let⟨U,V,W,Y,S⟩:=z.cells2;obtain⟨⟨g,b,d,l,m⟩,f⟩:=x;by_cases F:(⟨⟨g,b,d,l,m⟩,f⟩:End6)∈Bo L a ⟨⟨0,false,0,0,0⟩,0⟩ k
   .have G:=Ar (show Bo L a ⟨⟨0,false,0,0,0⟩,0⟩ (k+1)=Bo L a ⟨⟨0,false,0,0,0⟩,0⟩ k by rw[Bo,HX.out,if_pos F])
    have aw:∀q,(Instr.lookup 144 (.map (some r)) (.agg #[g,.bool b,d,l,m,f]) false).run Tryz.prog ((wr.alloc (.cells #[g,.bool b,d,l,m,f] 158)).drewN q)=.ok (.bool true) ((wr.alloc (.cells #[g,.bool b,d,l,m,f] 158)).drewN q):=by
     intro q;have h9:=Dd.get (t:=144) Ahi Tryz.underlying144 Tryz.underlying4 (Qb _) ((y.alloc (.cells #[g,.bool b,d,l,m,f] 158)).keep (Bd bl0 q)) (x:=(⟨⟨g,b,d,l,m⟩,f⟩:End6)) C;refine h9.trans ?_;simp[F]
    go_wp2;go_quiet (fail);go_wp2;exact⟨⟨k+1,o,by omega,by go_num,(z.alloc _).drewN _,by rw[G.out];exact OwG.keep (OwG.alloc A _) (Bd bl0 _),by rw[G.out];exact(y.alloc _).keep (Bd bl0 _),Q,(v.alloc _).drewN _,Gc (Below.alloc D (by omega) _) _,by simp;omega,Ar ((Below.heap_alloc wr _ s (by omega)).trans E.out),T⟩,by simp[intOf];omega⟩
   have G:=Ar (show Bo L a ⟨⟨0,false,0,0,0⟩,0⟩ (k+1)=Bo L a ⟨⟨0,false,0,0,0⟩,0⟩ k++[(⟨⟨g,b,d,l,m⟩,f⟩:End6)] by rw[Bo,HX.out,if_neg F])
   have aw:∀q,(Instr.lookup 144 (.map (some r)) (.agg #[g,.bool b,d,l,m,f]) false).run Tryz.prog ((wr.alloc (.cells #[g,.bool b,d,l,m,f] 158)).drewN q)=.ok (.bool false) ((wr.alloc (.cells #[g,.bool b,d,l,m,f] 158)).drewN q):=by
    intro q;have h9:=Dd.get (t:=144) Ahi Tryz.underlying144 Tryz.underlying4 (Qb _) ((y.alloc (.cells #[g,.bool b,d,l,m,f] 158)).keep (Bd bl0 q)) (x:=(⟨⟨g,b,d,l,m⟩,f⟩:End6)) C;refine h9.trans ?_;simp[F]
   go_wp2;go_quiet (fail);have Z:=(z.alloc (.cells #[g,.bool b,d,l,m,f] 158)).drewN nq;have a7:=OwG.keep (OwG.alloc A (.cells #[g,.bool b,d,l,m,f] 158)) (Bd bl0 nq);have ad:=(y.alloc (.cells #[g,.bool b,d,l,m,f] 158)).keep (Bd bl0 nq);have ai:=(v.alloc (.cells #[g,.bool b,d,l,m,f] 158)).drewN nq;have ak:=Gc (Below.alloc D (by omega) (.cells #[g,.bool b,d,l,m,f] 158)) nq;have O:=(Bf.new wr 158 #[g,.bool b,d,l,m,f]).drewN nq;have au:((wr.alloc (.cells #[g,.bool b,d,l,m,f] 158)).drewN nq).heap[s]? = w.heap[s]? := (Below.heap_alloc wr _ s (by omega)).trans E.out;have ar:w.heap.size<=((wr.alloc (.cells #[g,.bool b,d,l,m,f] 158)).drewN nq).heap.size:=by simp;omega
   let⟨M,N⟩:∃M,M=wr.heap.size:=⟨_,rfl⟩
   have cz:J<M:=by omega
   have da:B<M:=by omega
   have db:r<M:=by have:=y.lt;omega
   have dc:∀k,o.ownBlock=some k->k<M:=λk H=>by rw[N];exact(OwG.lt A k H).2
   go_upto_region 6 with fail;rw[<-N]at O ⊢;refine Cu (λX=>Bf X B 147 #[.map (some r),o]/\OwG 158 6 enE X B o (Bo L a ⟨⟨0,false,0,0,0⟩,0⟩ k)/\Dd Tryz.prog 158 4 okE klE X r (Bo L a ⟨⟨0,false,0,0,0⟩,0⟩ k).length (Bo L a ⟨⟨0,false,0,0,0⟩,0⟩ k)/\Bf X J 158 (a.flatMap enE).toArray/\Bf X M 158 #[g,.bool b,d,l,m,f]/\Below B w X/\w.heap.size<=X.heap.size/\Hid (X.heap[s]? = w.heap[s]?)) ⟨Z,a7,ad,ai,O,ak,ar,Ar au⟩ ?_;clear Z a7 ad ai O ak ar au z A y v D K E N d0 d1 d2 d3 d4 d5 U V W Y S bl;rintro wz ⟨z,A,y,v,fx,D,K,E⟩;let⟨U,V,W,Y,S⟩:=z.cells2;let⟨z1,z2,z3,z4,z5,z6,z7⟩:=fx.cells6;refine Ck 5 (by kernel_rfl) (by kernel_rfl) ?_;simp only[List.take_succ_cons,List.take_zero,List.drop_succ_cons,List.drop_zero]
   repeat still_step
   refine wpStill_nil ?_
   go_wp2_with (at_mapUpdate;refine D8 rfl _ _ _ 144 rfl Ahi Tryz.underlying144 Tryz.underlying4 rfl (y.keep blD) (by unfold maxLen;omega) (⟨⟨g,b,d,l,m⟩,f⟩:End6) C rfl rfl ?_;intro wu gu I)
   have b2:o.ownBlock≠some r:=OwG.notMap A (λcs t fr h=>by let⟨es,cc,hq⟩:=y.isMap;rw[hq]at h;cases h);have a1:=Bf.grown z.drew I (by intro e;injection e with e;omega);have a8:=OwG.kept (OwG.keep A blD) I (Or.inr b2);have b9:=Bf.grown v.drew I (by intro e;injection e with e;omega);have bp:=Bf.grown fx.drew I (by intro e;injection e with e;omega);have ba:Below B w wu:=Below.grown (Jx D) I (by have:=S;simp;omega) (λj hj=>by cases hj;omega);have bb:w.heap.size<=wu.heap.size:=Nat.le_trans K I.size;have bc:Hid (wu.heap[s]? = w.heap[s]?):=Ar ((I.block s (by show s<wz.heap.size;omega) (by intro e;injection e with e;omega)).trans E.out);clear z A y v fx D K E I b2 U V W Y S z1 z2 z3 z4 z5 z6 z7;let⟨U,V,W,Y,S⟩:=a1.cells2;let⟨z1,z2,z3,z4,z5,z6,z7⟩:=bp.cells6;let⟨i0,bu,c4,c5,c6⟩:=info_parts Aj7;have ey:=En L a ⟨⟨0,false,0,0,0⟩,0⟩ k
   go_region_law ((refine Ky rfl _ _ 145 rfl enE B 158 i0 (.agg #[.int .i64 0,.bool false,.int .i64 0,.int .i64 0,.int .i64 0,.int .i64 0]) 6 48 Tryz.underlying145 bu c4 c5 c6 rfl (by omega) Ef ti o (Bo L a ⟨⟨0,false,0,0,0⟩,0⟩ k) rfl (OwG.keep (OwG.alloc a8 _) blD) wu.heap.size 1 (⟨⟨g,b,d,l,m⟩,f⟩:End6) 158 rfl (Bf.drew (Bf.new _ _ _)) (by unfold maxLen;omega) (by omega) (by simp;omega) (wu.heap.size+1) (by simp) ?_;intro gg ec wv c3 b0 bs ek;have a6:=Bf.grown ((a1.alloc _).drew) b0 (by intro e;exact Nat.lt_irrefl _ (Q _ e.symm).1);let⟨p1,p2,p3,p4,p5⟩:=a6.cells2))
   go_wp2;all_goals exact⟨Z7 G b1 a6 a8 gu Q b9 ba bb c3 b0 bs R dx b3 b4 bc.out T,by simp[intOf];omega⟩
  obtain rfl:n=k:=by omega
  go_wp2_with fail
  go_end0
  refine⟨rfl,⟨_,o,z,by rw[HW.out];exact A,.inr ⟨r,rfl,R,y.lt,by rw[HW.out];exact y⟩,λk H=>⟨(Q k H).1,(OwG.lt A k H).2⟩,z.lt⟩,D,K,E.out,by omega,b3,avE z T b4⟩
 have dk:=λ(w:World)=>run_eql_map_nil (P:=Tryz.prog) w 144 158 4 (some r) Tryz.underlying144
 let⟨U,V,W,Y,S⟩:=k1.cells2;go_enter Tryz.func87,Tryz.ntmps87;go_upto_region 2 with fail;have b4:r≠s:=λe=>k9.2 (by rw[e])
 refine Cu (λX=>∃o,Bf X B 147 #[.map (some r),o]/\OwG 158 6 enE X B o L/\Dd Tryz.prog 158 4 okE klE X r L.length L/\(∀k,o.ownBlock=some k->B<k/\k≠J)/\Bf X J 158 (a.flatMap enE).toArray/\Below B w X/\w.heap.size<=X.heap.size/\X.heap[s]? = w.heap[s]? /\ o.ownBlock≠some s) ⟨o,k1,k2,k3,λk H=>⟨(k4 k H).1,by have:=(k4 k H).2;omega⟩,hX,bl0,Nat.le_refl _,rfl,k9.1⟩ ?_;rintro wl ⟨ca,z,A,y,Q,v,D,K,E,T⟩;clear k1 k2 k3 k4 hX hz;go_wp2_with fail;go_loopw [17] (λi wr=>∃(k:Nat) (o:Value),k<=n/\i=.int .i64 k/\Bf wr B 147 #[.map (some r),o]/\OwG 158 6 enE wr B o (Bo L a ⟨⟨0,false,0,0,0⟩,0⟩ k)/\Dd Tryz.prog 158 4 okE klE wr r (Bo L a ⟨⟨0,false,0,0,0⟩,0⟩ k).length (Bo L a ⟨⟨0,false,0,0,0⟩,0⟩ k)/\(∀k,o.ownBlock=some k->B<k/\k≠J)/\Bf wr J 158 (a.flatMap enE).toArray/\Below B w wr/\w.heap.size<=wr.heap.size/\Hid (wr.heap[s]? = w.heap[s]?)/\o.ownBlock≠some s) λi _=>n-(intOf i).toNat
 case atStart=>exact⟨0,ca,Nat.zero_le _,rfl,z,A,y,Q,v,D,K,Ar E,T⟩
 clear z A y Q v D K E T;obtain⟨k,o,H,rfl,z,A,y,Q,v,D,K,E,T⟩:=hrel;have ds:=En L a ⟨⟨0,false,0,0,0⟩,0⟩ k;by_cases b1:k<n
 .have bw:k<a.length:=by rw[HN.out];exact b1
  let⟨x,hx⟩:=gN (a.getD k ⟨⟨0,false,0,0,0⟩,0⟩)
  have u:a[k]? = some x:=by rw[<-hx,List.getD,List.getElem?_eq_getElem bw];rfl
  have C:okE x:=cf.out x (List.mem_of_getElem? u);have HX:=Ar hx;have d0:=(v.cell (k*6)).trans (by have:=Bu Ef a k 0 x u (by omega);simpa using this);have d1:=(v.cell (k*6+1)).trans (by have:=Bu Ef a k 1 x u (by omega);simpa using this);have d2:=(v.cell (k*6+2)).trans (by have:=Bu Ef a k 2 x u (by omega);simpa using this);have d3:=(v.cell (k*6+3)).trans (by have:=Bu Ef a k 3 x u (by omega);simpa using this);have d4:=(v.cell (k*6+4)).trans (by have:=Bu Ef a k 4 x u (by omega);simpa using this);have d5:=(v.cell (k*6+5)).trans (by have:=Bu Ef a k 5 x u (by omega);simpa using this);simp only[enE,List.getElem?_cons_zero,List.getElem?_cons_succ]at d0 d1 d2 d3 d4 d5;clear hx u;have bl:=v.lt;let⟨U,V,W,Y,S⟩:=z.cells2;obtain⟨⟨g,b,d,l,m⟩,f⟩:=x;by_cases F:(⟨⟨g,b,d,l,m⟩,f⟩:End6)∈Bo L a ⟨⟨0,false,0,0,0⟩,0⟩ k
  .have G:=Ar (show Bo L a ⟨⟨0,false,0,0,0⟩,0⟩ (k+1)=Bo L a ⟨⟨0,false,0,0,0⟩,0⟩ k by rw[Bo,HX.out,if_pos F])
   have aw:∀q,(Instr.lookup 144 (.map (some r)) (.agg #[g,.bool b,d,l,m,f]) false).run Tryz.prog ((wr.alloc (.cells #[g,.bool b,d,l,m,f] 158)).drewN q)=.ok (.bool true) ((wr.alloc (.cells #[g,.bool b,d,l,m,f] 158)).drewN q):=by
    intro q;have h9:=Dd.get (t:=144) Ahi Tryz.underlying144 Tryz.underlying4 (Qb _) ((y.alloc (.cells #[g,.bool b,d,l,m,f] 158)).keep (Bd bl0 q)) (x:=(⟨⟨g,b,d,l,m⟩,f⟩:End6)) C;refine h9.trans ?_;simp[F]
   go_wp2_with fail
   go_quiet (fail);clear aw;go_wp2_with fail;exact⟨⟨k+1,o,by omega,by go_num,(z.alloc _).drewN _,by rw[G.out];exact OwG.keep (OwG.alloc A _) (Bd bl0 _),by rw[G.out];exact(y.alloc _).keep (Bd bl0 _),Q,(v.alloc _).drewN _,Gc (Below.alloc D (by omega) _) _,by simp;omega,Ar ((Below.heap_alloc wr _ s (by omega)).trans E.out),T⟩,by simp[intOf];omega⟩
  have G:=Ar (show Bo L a ⟨⟨0,false,0,0,0⟩,0⟩ (k+1)=Bo L a ⟨⟨0,false,0,0,0⟩,0⟩ k++[(⟨⟨g,b,d,l,m⟩,f⟩:End6)] by rw[Bo,HX.out,if_neg F])
  have aw:∀q,(Instr.lookup 144 (.map (some r)) (.agg #[g,.bool b,d,l,m,f]) false).run Tryz.prog ((wr.alloc (.cells #[g,.bool b,d,l,m,f] 158)).drewN q)=.ok (.bool false) ((wr.alloc (.cells #[g,.bool b,d,l,m,f] 158)).drewN q):=by
   intro q;have h9:=Dd.get (t:=144) Ahi Tryz.underlying144 Tryz.underlying4 (Qb _) ((y.alloc (.cells #[g,.bool b,d,l,m,f] 158)).keep (Bd bl0 q)) (x:=(⟨⟨g,b,d,l,m⟩,f⟩:End6)) C;refine h9.trans ?_;simp[F]
  go_wp2_with fail
  go_quiet (fail);clear aw;have Z:=(z.alloc (.cells #[g,.bool b,d,l,m,f] 158)).drewN nq;have a7:=OwG.keep (OwG.alloc A (.cells #[g,.bool b,d,l,m,f] 158)) (Bd bl0 nq);have ad:=(y.alloc (.cells #[g,.bool b,d,l,m,f] 158)).keep (Bd bl0 nq);have ai:=(v.alloc (.cells #[g,.bool b,d,l,m,f] 158)).drewN nq;have ak:=Gc (Below.alloc D (by omega) (.cells #[g,.bool b,d,l,m,f] 158)) nq;have O:=(Bf.new wr 158 #[g,.bool b,d,l,m,f]).drewN nq;have au:((wr.alloc (.cells #[g,.bool b,d,l,m,f] 158)).drewN nq).heap[s]? = w.heap[s]? := (Below.heap_alloc wr _ s (by omega)).trans E.out;have ar:w.heap.size<=((wr.alloc (.cells #[g,.bool b,d,l,m,f] 158)).drewN nq).heap.size:=by simp;omega
  let⟨M,N⟩:∃M,M=wr.heap.size:=⟨_,rfl⟩
  have cz:J<M:=by omega
  have da:B<M:=by omega
  have db:r<M:=by have:=y.lt;omega
  have dc:∀k,o.ownBlock=some k->k<M:=λk H=>by rw[N];exact(OwG.lt A k H).2
  go_upto_region 6 with fail;rw[<-N]at O ⊢;refine Cu (λX=>Bf X B 147 #[.map (some r),o]/\OwG 158 6 enE X B o (Bo L a ⟨⟨0,false,0,0,0⟩,0⟩ k)/\Dd Tryz.prog 158 4 okE klE X r (Bo L a ⟨⟨0,false,0,0,0⟩,0⟩ k).length (Bo L a ⟨⟨0,false,0,0,0⟩,0⟩ k)/\Bf X J 158 (a.flatMap enE).toArray/\Bf X M 158 #[g,.bool b,d,l,m,f]/\Below B w X/\w.heap.size<=X.heap.size/\Hid (X.heap[s]? = w.heap[s]?)) ⟨Z,a7,ad,ai,O,ak,ar,Ar au⟩ ?_;clear Z a7 ad ai O ak ar au z A y v D K E N d0 d1 d2 d3 d4 d5 U V W Y S bl;rintro wz ⟨z,A,y,v,fx,D,K,E⟩;let⟨U,V,W,Y,S⟩:=z.cells2;let⟨z1,z2,z3,z4,z5,z6,z7⟩:=fx.cells6;refine Ck 5 (by kernel_rfl) (by kernel_rfl) ?_;simp only[List.take_succ_cons,List.take_zero,List.drop_succ_cons,List.drop_zero]
  repeat still_step
  refine wpStill_nil ?_
  go_wp2_with (at_mapUpdate;refine D8 rfl _ _ _ 144 rfl Ahi Tryz.underlying144 Tryz.underlying4 rfl (y.keep blD) (by unfold maxLen;omega) (⟨⟨g,b,d,l,m⟩,f⟩:End6) C rfl rfl ?_;intro wu gu I)
  have b2:o.ownBlock≠some r:=OwG.notMap A (λcs t fr h=>by let⟨es,cc,hq⟩:=y.isMap;rw[hq]at h;cases h);have a1:=Bf.grown z.drew I (by intro e;injection e with e;omega);have a8:=OwG.kept (OwG.keep A blD) I (Or.inr b2);have b9:=Bf.grown v.drew I (by intro e;injection e with e;omega);have bp:=Bf.grown fx.drew I (by intro e;injection e with e;omega);have ba:Below B w wu:=Below.grown (Jx D) I (by have:=S;simp;omega) (λj hj=>by cases hj;omega);have bb:w.heap.size<=wu.heap.size:=Nat.le_trans K I.size;have bc:Hid (wu.heap[s]? = w.heap[s]?):=Ar ((I.block s (by show s<wz.heap.size;omega) (by intro e;injection e with e;omega)).trans E.out);clear z A y v fx D K E I b2 U V W Y S z1 z2 z3 z4 z5 z6 z7;let⟨U,V,W,Y,S⟩:=a1.cells2;let⟨z1,z2,z3,z4,z5,z6,z7⟩:=bp.cells6;let⟨i0,bu,c4,c5,c6⟩:=info_parts Aj7;have ey:=En L a ⟨⟨0,false,0,0,0⟩,0⟩ k
  go_region_law ((refine Ky rfl _ _ 145 rfl enE B 158 i0 (.agg #[.int .i64 0,.bool false,.int .i64 0,.int .i64 0,.int .i64 0,.int .i64 0]) 6 48 Tryz.underlying145 bu c4 c5 c6 rfl (by omega) Ef ti o (Bo L a ⟨⟨0,false,0,0,0⟩,0⟩ k) rfl (OwG.keep (OwG.alloc a8 _) blD) wu.heap.size 1 (⟨⟨g,b,d,l,m⟩,f⟩:End6) 158 rfl (Bf.drew (Bf.new _ _ _)) (by unfold maxLen;omega) (by omega) (by simp;omega) (wu.heap.size+1) (by simp) ?_;intro gg ec wv c3 b0 bs ek;have a6:=Bf.grown ((a1.alloc _).drew) b0 (by intro e;exact Nat.lt_irrefl _ (Q _ e.symm).1);let⟨p1,p2,p3,p4,p5⟩:=a6.cells2))
  all_goals go_wp2_with fail
  all_goals exact⟨Z7 G b1 a6 a8 gu Q b9 ba bb c3 b0 bs R dx b3 b4 bc.out T,by simp[intOf];omega⟩
 obtain rfl:n=k:=by omega
 go_wp2_with fail
 go_end0
 refine⟨rfl,⟨_,o,z,by rw[HW.out];exact A,.inr ⟨r,rfl,R,y.lt,by rw[HW.out];exact y⟩,λk H=>⟨(Q k H).1,(OwG.lt A k H).2⟩,z.lt⟩,D,K,E.out,by omega,b3,avE z T b4⟩
end
def Dk (S:List Shp) (a:List Pt5):Nat->Int×List LP
 | 0=>(0,[])
 | k+1=>if (Dk S a k).1≠0 then Dk S a k else if (Br S (pt a k)).1≠0 then ((Br S (pt a k)).1,[]) else (0,(Dk S a k).2++[(Br S (pt a k)).2])
theorem dp{S:List Shp} {b:List Pt5}  {x:Int} (h:(Dk S b a).1=x) (c:x≠0):∀m,(Dk S b (a+m)).1=x:=by
 intro m;induction m with
 | zero=>exact h
 | succ m ih=>rw[<-Nat.add_assoc,Dk,if_pos (by rw[ih];exact c)];exact ih
theorem Hd(S:List Shp) (a:List Pt5):∀k,(Dk S a k).2.length<=k/\∀t∈(Dk S a k).2,t.length<=40:=by
 intro k;induction k with
 | zero=>simp[Dk]
 | succ k ih =>
   rw[Dk];split
   .exact⟨by omega,ih.2⟩
   split
   .simp
   refine⟨by simp;omega,λt ht=>?_⟩;rcases List.mem_append.1 ht with ht|ht
   .exact ih.2 t ht
   simp at ht;subst ht;exact F9 _ _
def Gl (b:Bed4) (S:List Shp) (a:List Pt5) (sh:Int) (c:Bool) (d:Int):Int×LP×List LP :=
 if Gg b then (3,[],[]) else if (Br S ⟨sh,c,d,0,0⟩).1≠0 then ((Br S ⟨sh,c,d,0,0⟩).1,[],[])
 else if (Dk S a a.length).1≠0 then ((Dk S a a.length).1,[],[]) else (0,(Br S ⟨sh,c,d,0,0⟩).2,(Dk S a a.length).2)
def Xj (w:World) (r:Int×LP×List LP) (e:Ending) (a:World):Prop :=
 ∃b c,e=.returned (.tuple #[b,c,r.1])/\OwS a w.heap.size b r.2.1/\Iw a w.heap.size c r.2.2/\Be w a
theorem Ajc(c d:Option Addr) (e f h i:Nat) (b:Bed4) (sh:Int) (g:Bool) (j:Int) (w:World) (a:Gg b=true) :
 Calls Tryz.prog 82 #[Jw b,.slice c h e,.slice d i f,sh,.agg #[.bool g,j]] w (Xj w (3,[],[])):=by
 obtain⟨len,k,rx,l⟩:=b;unfold Jw;unfold Gg at a;simp only[Bool.or_eq_true,decide_eq_true_eq]at a;dsimp only at a ⊢;go_enter Tryz.func82,Tryz.ntmps82;go_upto_region 3 with fail
 all_goals first
  | (go_ret3;exact⟨_,_,rfl,OwG.nil,Iw.nil,(Ao (Ao (Below.refl _ _) _) _)⟩)
  | (exfalso;omega)
theorem Ajb(V W:Option Addr) (c1 c2 n1 j:Nat) (b:Bed4) (S:List Shp) (d:List Pt5) (sh:Int) (o:Bool) (p:Int) (w:World) (b3:j<=1000000) (H:ShS w V n1 S) (z:PuS w W j d) (K:Gg b=false) :
 Calls Tryz.prog 82 #[Jw b,.slice V n1 c1,.slice W j c2,sh,.agg #[.bool o,p]] w (Xj w (Gl b S d sh o p)):=by
 have f:=Ar (show Gl b S d sh o p=if (Br S ⟨sh,o,p,0,0⟩).1≠0 then ((Br S ⟨sh,o,p,0,0⟩).1,[],[]) else if (Dk S d j).1≠0 then ((Dk S d j).1,[],[]) else (0,(Br S ⟨sh,o,p,0,0⟩).2,(Dk S d j).2) by unfold Gl;rw[if_neg (by rw[K];simp),z.1]);let⟨r,P⟩:=gN (Br S ⟨sh,o,p,0,0⟩)
 rw[P]at f;have X:=Ar P;clear P;obtain⟨r1,r⟩:=r;obtain⟨len,U,rx,ry⟩:=b;unfold Gg at K;simp only[Bool.or_eq_false_iff,decide_eq_false_iff_not]at K;unfold Jw;dsimp only at f ⊢;have n:=Ar (show Be w ((w.alloc (.cells #[len,U,rx,ry] 57)).alloc (.cells #[.bool o,p] 59)) from (Ao (Ao (Below.refl _ _) _) _));by_cases x:r1=0
 .subst x;rw[if_neg (by simp)]at f;go_enter Tryz.func82,Tryz.ntmps82
  go_wp2_with (go_at_call 34;refine(Cf _ _ _ S ⟨sh,o,p,0,0⟩ _ (H.keep n.out)).mono ?_;rintro e I ⟨v1,rfl,t,s⟩;rw[X.out]at t ⊢)
  have l:=An n.out s;have C:=H.keep l;have J:=z.keep l;clear H z s n;go_loopw [15,51] (λv i wr=>∃k:Nat,k<=j/\i=.int .i64 k/\Hid ((Dk S d k).1=0)/\Iw wr I.heap.size v (Dk S d k).2/\Be I wr) λ_ i _=>j-(intOf i).toNat
  case atStart=>exact⟨0,Nat.zero_le _,rfl,Ar rfl,Iw.nil,bl0⟩
  obtain⟨k,hk,rfl,hz,N,c⟩:=hrel;by_cases M:k<j
  .obtain⟨bb,ob,rfl,b2,Y,Z,d3,d4,d5⟩:=(J.keep c).at_ M;have E:=F9 S (pt d k);have b4:=(Hd S d k).1;have a:=Ar (show Dk S d (k+1)=if (Br S (pt d k)).1≠0 then ((Br S (pt d k)).1,[]) else (0,(Dk S d k).2++[(Br S (pt d k)).2]) by rw[Dk,if_neg (by rw[hz.out];simp)]);let⟨T,A⟩:=gN (Br S (pt d k))
   rw[A]at E a;have y:=Ar A;clear A;obtain⟨R,q⟩:=T;dsimp only at E a;let⟨Q,D⟩:=gN (pt d k)
   rw[D]at Y Z d3 d4 d5 y;clear D;obtain⟨G,B,F,x2,y2⟩:=Q;dsimp only at Y Z d3 d4 d5;by_cases h:R=0
   .subst h;rw[if_neg (by simp)]at a
    go_wp2_with (first|(go_at_call 34;refine(Cf _ _ _ S ⟨G,B,F,x2,y2⟩ _ (C.keep (Ao c _))).mono ?_;rintro e w5 ⟨v5,rfl,u,g⟩;rw[y.out]at u ⊢;obtain⟨A5,c5,rfl,-,-,-,-⟩:=OwS.els u)|(at_builtin;refine Fo rfl _ _ rfl I.heap.size _ (Dk S d k).2 rfl (((N.alloc _).keep g).alloc _) w5.heap.size 1 _ q 46 rfl (Bf.new _ _ _) ((ElS.lower (OwS.els u) (Ao c _).size).keep blA) (by omega) (Ao (An (Ao c _) g) _).size ?_;intro v7 w7 O L a8))
    exact⟨⟨k+1,by omega,by go_num,Ar (by rw[a.out]),by rw[a.out];exact O,G6 (Ao (An (Ao c _) g) _) (((N.alloc _).keep g).alloc _) L⟩,by simp[intOf];omega⟩
   have qo:(R != 0)=true:=by simpa using h
   rw[if_pos h]at a;have m:=dp (show (Dk S d (k+1)).1=R by rw[a.out]) h (j-(k+1));rw[show k+1+(j-(k+1))=j by omega]at m;rw[m,if_pos h]at f;clear m h
   go_wp2_with (go_at_call 34;refine(Cf _ _ _ S ⟨G,B,F,x2,y2⟩ _ (C.keep (Ao c _))).mono ?_;rintro e w5 ⟨v5,rfl,u,g⟩;rw[y.out])
   go_ret3
   exact⟨_,_,by rw[f.out];rfl,by rw[f.out];exact OwG.nil,by rw[f.out];exact Iw.nil,An l (An (Ao c _) g)⟩
  obtain rfl:j=k:=by omega
  rw[hz.out,if_neg (by simp)]at f
  go_wp2_with fail
  go_ret3
  exact⟨_,_,by rw[f.out];rfl,by rw[f.out];exact OwG.keep (OwG.lower t (by simp;omega)) c,by rw[f.out];exact N.lower l.size,An l c⟩
 have qo:(r1 != 0)=true:=by simpa using x
 rw[if_pos x]at f;clear x;go_enter Tryz.func82,Tryz.ntmps82
 go_wp2_with (go_at_call 34;refine(Cf _ _ _ S ⟨sh,o,p,0,0⟩ _ (H.keep n.out)).mono ?_;rintro e I ⟨v1,rfl,t,s⟩;rw[X.out]at t ⊢)
 go_ret3
 exact⟨_,_,by rw[f.out];rfl,by rw[f.out];exact OwG.nil,by rw[f.out];exact Iw.nil,An n.out s⟩
theorem Yk(e f:Option Addr) (i j g c:Nat) (b:Bed4) (S:List Shp) (h:List Pt5) (sh:Int) (a:Bool) (d:Int) (w:World) (m:c<=1000000) (n:ShS w e g S) (k:PuS w f c h) :
 Calls Tryz.prog 82 #[Jw b,.slice e g i,.slice f c j,sh,.agg #[.bool a,d]] w (Xj w (Gl b S h sh a d)):=by
 by_cases l:Gg b=true
 .rw[show Gl b S h sh a d=(3,[],[]) by unfold Gl;rw[if_pos l]];exact Ajc e f i j g c b sh a d w l
 exact Ajb e f i j g c b S h sh a d w m n k (by simpa using l)
theorem Gi(z:Int):inR (wrap64 z):=Acu (wrap64_wf z)
theorem xu{b:Type} [DecidableEq b] (l:List b):(uniq l).length<=l.length:=by
 induction l with
 | nil=>exact Nat.le_refl _
 | cons a l ih =>
   unfold uniq;split
   .simp;omega
   simp;exact ih
theorem Oa(a b:LP):(Eh a b).2.length<=268960/\∀p∈(Eh a b).2,okS p:=by
 have c:=Oj a b;unfold Eh;split
 .simp
 refine⟨?_,λp g=>?_⟩
 .show (Ez _).length<=_
  rw[Gx];refine Nat.le_trans (List.length_filter_le _ _) (Nat.le_trans (xu _) ?_)
  have d:∀l:List LP,(∀t∈l,t.length<=160)->l.flatten.length<=l.length*160:=by
   intro l;induction l with
   | nil=>simp
   | cons a l ih =>
     intro h;rw[List.flatten_cons,List.length_append,List.length_cons,Nat.add_mul];have:=h a (by simp);have:=ih (λt ht=>h t (by simp[ht]));omega
  have:=d _ λt ht=>(c.2 t ht).1;have:=c.1;omega
 have f:p∈((uniq (Cl a b).2.flatten).filter λp=>!Cs (Cl a b).2 p):=List.mem_mergeSort.1 g;have d:=Sa.1 (List.mem_filter.1 f).1;let⟨t,ht,e⟩:=List.mem_flatten.1 d;exact Q4 ((c.2 t ht).2 p e)
def Ahn (a b c:Int) (v:Int×Int):LP:=[v,(v.1,b),(v.1,c),(a,v.2)]
def Ma (b c d:Int) (a L:LP):Nat->LP
 | 0=>L
 | j+1=>S9 (Ma b c d a L j) (Ahn b c d (gt a j)) (0,0)
def Ft (l:LP) (a b c:Int) (pls:List LP):Nat->Int×LP
 | 0=>(0,S9 [] [(a,b),(a,c)] (0,0))
 | k+1=>if (Ft l a b c pls k).1≠0 then Ft l a b c pls k else if (Eh (lt_ pls k) l).1≠0 then ((Eh (lt_ pls k) l).1,[]) else (0,Ma a b c (Eh (lt_ pls k) l).2 (Ft l a b c pls k).2 (Eh (lt_ pls k) l).2.length)
def Dh (b:Bed4) (l:LP) (pls:List LP):Int×LP :=
 if Bg l l.length≠0 then (Bg l l.length,[])
 else Ft l (wrap64 (-loX l l.length)) (wrap64 (-loY l l.length)) (wrap64 (wrap64 (b.wid-loY l l.length)-wrap64 (hiY l l.length-loY l l.length))) pls pls.length
theorem nw{pls:List LP}  {x:Int} (h:Ft f e l m pls a=(x,[])) (c:x≠0):∀b,Ft f e l m pls (a+b)=(x,[]):=by
 intro b;induction b with
 | zero=>exact h
 | succ b ih=>rw[<-Nat.add_assoc,Ft,if_pos (by rw[ih];exact c)];exact ih
theorem S8(L a:LP):(S9 L a (0,0)).length<=L.length+a.length:=En _ _ _ _
theorem Ua(b c d:Int) (a L:LP) (j:Nat):(Ma b c d a L j).length<=L.length+4*j:=by
 induction j with
 | zero=>exact Nat.le_refl _
 | succ j ih =>
   rw[Ma];have:=S8 (Ma b c d a L j) (Ahn b c d (gt a j));have e:(Ahn b c d (gt a j)).length=4:=rfl;omega
theorem T9(l:LP) (a b c:Int) (pls:List LP) (k:Nat):(Ft l a b c pls k).2.length<=2+1075840*k:=by
 induction k with
 | zero=>exact S8 [] [(a,b),(a,c)]
 | succ k ih =>
   rw[Ft];split
   .omega
   split
   .simp
   have:=Ua a b c (Eh (lt_ pls k) l).2 (Ft l a b c pls k).2 (Eh (lt_ pls k) l).2.length;have:=(Oa (lt_ pls k) l).1
   show (Ma _ _ _ _ _ _).length<=_
   omega
theorem Xe{a:LP} (b:∀p∈f,okS p) (d:∀p∈a,okS p):∀p∈S9 f a (0,0),okS p:=by
 intro p c;rcases vu (Nat.le_refl _) c with h|h
 .exact b p h
 exact d p h
theorem rz(c:inR e) (d:inR l) (f:inR m) (a:okS i):∀p∈Ahn e l m i,okS p:=by
 intro p b;simp[Ahn]at b;rcases b with rfl|rfl|rfl|rfl
 .exact a
 .exact⟨a.1,d⟩
 .exact⟨a.1,f⟩
 exact⟨c,a.2⟩
theorem zo(a:inR e) (b:inR l) (c:inR m) {L:LP} (g:∀p∈f,okS p) (d:∀p∈L,okS p):∀j,j<=f.length->∀p∈Ma e l m f L j,okS p:=by
 intro j;induction j with
 | zero=>exact λ_=>d
 | succ j ih =>
   intro h;rw[Ma];exact Xe (ih (by omega)) (rz a b c (g _ (List.mem_of_getElem? (G3 (by omega)))))
theorem zm(a:inR e) (b:inR l) (c:inR m) {pls:List LP}:∀k,∀p∈(Ft f e l m pls k).2,okS p:=by
 intro k;induction k with
 | zero=>exact Xe (by simp) (by intro p d;simp at d;rcases d with rfl|rfl;exact⟨a,b⟩;exact⟨a,c⟩)
 | succ k ih =>
   rw[Ft];split
   .exact ih
   split
   .simp
   exact zo a b c (Oa _ _).2 ih _ (Nat.le_refl _)
theorem Qy(b:Bed4) (l:LP) (pls:List LP):(Dh b l pls).2.length<=2+1075840*pls.length/\∀p∈(Dh b l pls).2,okS p:=by
 unfold Dh;split
 .simp
 exact⟨T9 _ _ _ _ _ _,zm (Gi _) (Gi _) (Gi _) _⟩
theorem di(A B:Option Addr) (h j a m:Nat) (b:Bed4) (l:LP) (w:World) (g:a<=9223372036854775807) (f:a<=h) (k:SpS w A a l) (d:¬Bg l a=0) :
 Calls Tryz.prog 126 #[Jw b,.slice A a h,.slice B m j] w (Xh w (Bg l a,[])):=by
 have q:(Bg l a != 0)=true:=by simpa using d
 obtain⟨len,n,rx,o⟩:=b;unfold Jw;dsimp only;have i:=Ar d;clear d;go_enter Tryz.func126,Tryz.ntmps126
 go_wp2_with (go_at_call 84;refine rR (Ag1 _ _ _ l _ g f (k.keep (Ao (Below.refl _ _) _)) i.out) λp c=>?_)
 go_ret2
 exact⟨_,rfl,OwG.nil,Ao (An (Ao (Below.refl _ _) _) c) _⟩
theorem SpS.keepBlk{w:World} {c n:Nat}  (h:SpS w (some ⟨c,0,none⟩) n f) (i:b.heap[c]? = w.heap[c]?):SpS b (some ⟨c,0,none⟩) n f:=by
 refine⟨h.1,?_⟩;obtain⟨_,d⟩:=h;rcases d with d|⟨l,j,e,d⟩
 .exact .inl d
 injection e with e
 injection e with e1 e2
 subst e1 e2;exact .inr ⟨c,0,rfl,λk g=>⟨(World.cell?_of_block (w:=w) (a:=⟨c,0+k*2,none⟩) i).trans (d k g).1,(World.cell?_of_block (w:=w) (a:=⟨c,0+k*2+1,none⟩) i).trans (d k g).2⟩⟩
theorem oh(A B:Option Addr) (c1 c2 r y:Nat) (b:Bed4) (l:LP) (pls:List LP) (w:World) (hx:y<=1000) (bt:∀t∈pls,t.length<=1000) (Y:r<=c1) (hs:SpS w A r l) (hS:Aeg w B y pls) (hc:Bg l r=0) :
 Calls Tryz.prog 126 #[Jw b,.slice A r c1,.slice B y c2] w (Xh w (Dh b l pls)):=by
 obtain⟨len,I,rx,ry⟩:=b;have hy:=El hc;have Q:=Ar (show Dh ⟨len,I,rx,ry⟩ l pls=Ft l (wrap64 (-loX l r)) (wrap64 (-loY l r)) (wrap64 (wrap64 (I-loY l r)-wrap64 (hiY l r-loY l r))) pls y by unfold Dh;rw[hs.1,if_neg (by rw[hc];simp),hS.1]);have cn:=Ar bt;have cg:=Ar hS.1;obtain⟨ba,oa,rfl,-,-⟩:=hs.at_ (k:=0) (by omega);unfold Jw;dsimp only;have HC:=Ar hc;clear hc bt;have b7:=Ar (Bf.new w 57 #[len,I,rx,ry]);let⟨S,x⟩:=gN (loX l r)
 let⟨L,W⟩:=gN (loY l r)
 let⟨bW,bd⟩:=gN (wrap64 (hiX l r-loX l r))
 let⟨R,V⟩:=gN (wrap64 (hiY l r-loY l r))
 rw[V,x,W]at Q;have cd:=Ar x;have cf:=Ar W;have cc:=Ar bd;have cb:=Ar V;clear x W bd V;go_enter Tryz.func126,Tryz.ntmps126
 go_upto_region 4 with (go_at_call 84;refine rR (Aec _ _ _ _ l _ (by omega) Y (hs.keep (Ao (Below.refl _ _) _)) HC.out (by omega)) λw1 U=>?_;rw[cc.out,cb.out,cd.out,cf.out])
 have k1:=(b7.out.keep U).alloc (.cells #[S,L,bW,R] 151);have k2:=Bf.new w1 151 #[S,L,bW,R];have c:Be w (w1.alloc (.cells #[S,L,bW,R] 151)):=Ao (An (Ao (Below.refl _ _) _) U) _;refine Cu (λX=>Bf X w.heap.size 57 #[len,I,rx,ry]/\Bf X w1.heap.size 151 #[S,L,bW,R]/\Be w X) ⟨k1,k2,c⟩ ?_;clear k1 k2 c U b7;rintro X0 ⟨k1,k2,c⟩;let⟨a1,a2,a3,a4,a5⟩:=k1.cells4;let⟨e1,e2,e3,e4,e5⟩:=k2.cells4;go_quiet (fail);go_upto_region 6 with fail;let⟨d,ak⟩:=gN (wrap64 (-S))
 let⟨m,ar⟩:=gN (wrap64 (-L))
 let⟨n,au⟩:=gN (wrap64 (wrap64 (I-L)-R))
 have r0:inR d:=by rw[<-ak];exact Gi _
 have r1:inR m:=by rw[<-ar];exact Gi _
 have r2:inR n:=by rw[<-au];exact Gi _
 rw[ak,ar,au]at Q ⊢;have R0:=Ar r0;have R1:=Ar r1;have R2:=Ar r2;clear r0 r1 r2 ak ar au a1 a2 a3 a4 a5 e1 e2 e3 e4 e5;refine Cu (λX=>Be w X) (Bd c nq) ?_;clear k1 k2 c;rintro s c;let⟨BB,b8⟩:∃BB,BB=s.heap.size:=⟨_,rfl⟩
 have D:=Ar (Z9.new s);have E:=Ar (Ao (Below.refl s.heap.size s) (.cells #[.map none,.slice none 0 0] 213))
 go_upto_region 8 with (go_at_call 128;refine(Ta s.heap.size (s.heap.size+1) (s.heap.size+1) 2 2 [] [(d,m),(d,n)] _ rfl (by omega) (by simp) (Bf.new2 _ _ _ _) (Nat.le_refl _) (by intro p hp;simp at hp;rcases hp with rfl|rfl;exact⟨R0.out,R1.out⟩;exact⟨R0.out,R2.out⟩) (D.out.keep blA) (s.heap.size+1) ((D.out.keep blA).av (Nat.le_refl _) (by simp))).mono ?_;rintro e w3 ⟨rfl,a6,bb,e8,-,-⟩)
 have N:Be s w3:=(Ao E.out _).trans bb;rw[<-b8]at a6 ⊢;clear D E bb e8;have M:s.heap.size<=BB:=by omega
 have gg:BB<=s.heap.size:=by omega
 have P:Z9 w3 BB w3.heap.size (Ft l d m n pls 0).2:=a6;have b4:=Ar P;clear a6 P b8;go_wp2_with fail;go_loopw [52] (λi wr=>∃k:Nat,k<=y/\i=.int .i64 k/\Hid ((Ft l d m n pls k).1=0)/\Z9 wr BB wr.heap.size (Ft l d m n pls k).2/\Be s wr) λi _=>y-(intOf i).toNat
 case atStart=>exact⟨0,Nat.zero_le _,rfl,Ar rfl,b4.out,N⟩
 clear b4 N;obtain⟨k,hk,rfl,hz,Z,o⟩:=hrel;by_cases bm:k<y
 .obtain⟨b1,o1,Ak,ck,rfl,dc,d1,d2,d3,d4⟩:=(hS.keep (An c o)).at_ bm;have l1:(lt_ pls k).length<=1000:=cn.out _ (I9 (by rw[cg.out];exact bm));let⟨nk,bp⟩:=gN ((lt_ pls k).length)
  rw[bp]at d1 d2 d3 l1;clear bp;have F:=Oa (lt_ pls k) l;have a:=Ar (show Ft l d m n pls (k+1)=if (Eh (lt_ pls k) l).1≠0 then ((Eh (lt_ pls k) l).1,[]) else (0,Ma d m n (Eh (lt_ pls k) l).2 (Ft l d m n pls k).2 (Eh (lt_ pls k) l).2.length) by rw[Ft,if_neg (by rw[hz.out];simp)]);let⟨sq,ai⟩:=gN (Eh (lt_ pls k) l)
  rw[ai]at F a;have b6:=Ar ai;clear ai;obtain⟨s1,f⟩:=sq;dsimp only at F a;have c3:=F.1;have cj:=Ar F.2;clear F;by_cases G:s1=0
  .subst G;rw[if_neg (by simp)]at a
   go_upto_region 14 with (go_at_call 179;refine(To _ _ _ _ _ _ (lt_ pls k) l _ (by omega) (by omega) d2 Y d3 (hs.keep (An c o))).mono ?_;rintro e w5 ⟨v5,rfl,K,v⟩;rw[b6.out]at K ⊢)
   obtain⟨As,cs,rfl,dk,u,T⟩:=OwS.sps K;let⟨H,ad⟩:=gN f.length
   rw[ad]at u dk T c3 a ⊢;have ch:=Ar ad;clear ad K;have a7:=Z.keep v;have O:=An o v
   let⟨sb,bw⟩:∃sb,0<H->As=some ⟨sb,0,none⟩/\AvS w5 BB sb:=by
    rcases Nat.eq_zero_or_pos H with h0|h0
    .exact⟨0,λh=>by omega⟩
    obtain⟨g,rfl,q1,q2⟩:=T h0;exact⟨g,λ_=>⟨rfl,a7.av q1 q2⟩⟩
   have b5:=Ar (a7.mono v.size);have hr:=T9 l d m n pls k;clear T Z a7 dc d1 d2 d3 d4 v;go_wp2_with fail;go_loopw [67] (λi wx=>∃j:Nat,j<=H/\i=.int .i64 j/\Z9 wx BB wx.heap.size (Ma d m n f (Ft l d m n pls k).2 j)/\SpS wx As H f/\(0<H->AvS wx BB sb)/\Be s wx) λi _=>H-(intOf i).toNat
   case atStart=>exact⟨0,Nat.zero_le _,rfl,b5.out,u,λh=>(bw h).2,O⟩
   clear b5 u O o;obtain⟨j,hj,rfl,Z,u,da,x⟩:=hrel;by_cases a8:j<H
   .obtain⟨rfl,-⟩:=bw (by omega);have b9:=da (by omega);let⟨bq,oq,z,hv,bl⟩:=u.at_ a8;injection z with z
    injection z with z eq2
    subst z eq2;let⟨d1,d2⟩:=bl j a8;simp only[Nat.zero_add]at d1 d2;clear bl;have e0:j<f.length:=by rw[ch.out];exact a8
    have bs:okS (gt f j):=cj.out _ (List.mem_of_getElem? (G3 e0));have gx:=Ua d m n f (Ft l d m n pls k).2 j;have cv:BB<wr.heap.size:=by obtain⟨_,_,q,_⟩:=Z;exact q.lt
    have J:Be wr ((wr.alloc (.cells #[(gt f j).1,(gt f j).2] 60)).alloc (.cells #[(gt f j).1,(gt f j).2,(gt f j).1,m,(gt f j).1,n,d,(gt f j).2] 60)):=Ao blA _;have dx:=Ar (Z.keep J);have cz:=Ar (b9.keep cv J);have cy:=Ar (Bf.new2 wr (.cells #[(gt f j).1,(gt f j).2] 60) 60 #[(gt f j).1,(gt f j).2,(gt f j).1,m,(gt f j).1,n,d,(gt f j).2]);have e6:(Ma d m n f (Ft l d m n pls k).2 j).length<=1000000000000:=by omega
    have b3:=Ar J;clear J
    go_wp2_with (go_at_call 128;refine rR (Ta BB wr.heap.size (wr.heap.size+1) 4 4 (Ma d m n f (Ft l d m n pls k).2 j) (Ahn d m n (gt f j)) _ rfl (by omega) e6 cy.out (Nat.le_succ _) (rz R0.out R1.out R2.out bs) dx.out sb cz.out) λw8⟨ds,db,ih,dy,e7⟩=>?_)
    have cx:SpS w8 (some ⟨sb,0,none⟩) H f:=(u.keep b3.out).keepBlk dy;have bc:Be s w8:=(An x b3.out).trans (db.mono M);exact⟨⟨j+1,by omega,by go_num,ds,cx,λ_=>e7,bc⟩,by simp[intOf];omega⟩
   obtain rfl:H=j:=by omega
   go_wp2_with fail;exact⟨⟨k+1,by omega,by go_num,Ar (by rw[a.out]),by rw[a.out];exact Z,x⟩,by simp[intOf];omega⟩
  have qo:(s1 != 0)=true:=by simpa using G
  rw[if_pos G]at a;have C:=nw a.out G (y-(k+1));rw[show k+1+(y-(k+1))=y by omega]at C;rw[C]at Q;clear C G
  go_wp2_with (go_at_call 179;refine(To _ _ _ _ _ _ (lt_ pls k) l _ (by omega) (by omega) d2 Y d3 (hs.keep (An c o))).mono ?_;rintro e w5 ⟨v5,rfl,K,v⟩;rw[b6.out])
  go_ret2
  exact⟨_,by rw[Q.out];rfl,by rw[Q.out];exact OwG.nil,An c (An o v)⟩
 obtain rfl:y=k:=by omega
 obtain⟨mv,sv,q1,q2,-,-,-⟩:=Z;let⟨a1,a2,a3,a4,a5⟩:=q1.cells2;have HE:=Ar (show Ft l d m n pls y=(0,(Ft l d m n pls y).2) by rw[<-hz.out])
 go_wp2_with fail
 go_ret2
 exact⟨sv,by rw[Q.out,HE.out];rfl,by rw[Q.out];exact OwG.lower q2 (Nat.le_trans c.size M),An c o⟩
theorem Qx(A B:Option Addr) (e f a d:Nat) (b:Bed4) (l:LP) (pls:List LP) (w:World) (h:a<=9223372036854775807) (i:d<=1000) (j:∀t∈pls,t.length<=1000) (c:a<=e) (k:SpS w A a l) (m:Aeg w B d pls) :
 Calls Tryz.prog 126 #[Jw b,.slice A a e,.slice B d f] w (Xh w (Dh b l pls)):=by
 by_cases g:Bg l a=0
 .exact oh A B e f a d b l pls w i j c k m g
 rw[show Dh b l pls=(Bg l a,[]) by unfold Dh;rw[k.1,if_pos g]];exact di A B e f a d b l w h c k g
section
open Go.RowKit Go.Sort
def Fk (rx d:Int) (s:Shp) (b:Bool) (c:Int) (e:LP):Nat->LP
 | 0=>[]
 | k+1=>match Nc rx d s b c (gt e k) with|none=>Fk rx d s b c e k|some a=>S9 (Fk rx d s b c e k) [a] (0,0)
def Iz (b:Bed4) (s:Shp) (a:Bool) (c:Int) (l:LP) (pls:List LP):Int×LP :=
 if (Dh b l pls).1≠0 then ((Dh b l pls).1,[]) else (0,Ez (Fk b.rx b.ry s a c (Dh b l pls).2 (Dh b l pls).2.length))
theorem Mg(rx d:Int) (s:Shp) (b:Bool) (c:Int) (e:LP) (k:Nat):(Fk rx d s b c e k).length<=k:=by
 induction k with
 | zero=>exact Nat.le_refl _
 | succ k ih =>
   rw[Fk];split
   .omega
   rename_i a _;have:=S8 (Fk rx d s b c e k) [a];simp at this;omega
theorem X9{rx:Int} {s:Shp} {b:Bool}  {a:Int×Int} (c:okS i) (h:Nc rx e s b l i=some a):okS a:=by
 unfold Nc at h;split at h
 .split at h
  .cases h
  split at h
  .cases h
  injection h with h;subst h;exact⟨Gi _,Gi _⟩
 injection h with h;subst h;exact c
theorem yk(F:Nat) (r:∀args w,(callFunc F args).run Tryz.prog w=.ok (.enter F args) w) (t:∀j k p o w,Calls Tryz.prog F #[.agg #[.int .i64 j,.int .i64 k],.agg #[.int .i64 p,.int .i64 o]] w λe c=>e=.returned (.int .i64 (H6 (j,k) (p,o)))/\GrW w c)
 (v:Value) (a:Nat) (l:List (Int×Int)) (w:World) (D:l.length<=1000000000000) (h:OwS w a v l) :
 Calls Tryz.prog 129 #[v,.func (.func F) #[] #[]] w λe c=>e=.returned (.tuple #[])/\OwS c a v (Ez l)/\w.grownBy c v.ownBlock:=by
 rcases OwG.form h with⟨rfl,rfl⟩|⟨g,i,rfl,A,s,B,C⟩
 .refine(AnyF.slices_SortFunc_none Tryz.laysS none 0 _ w).mono ?_;rintro e c ⟨rfl,rfl⟩;exact⟨rfl,by rw[show Ez []=[] by simp[Ez]];exact h,World.grownBy.refl _ _⟩
 have d:CmpLays Tryz.prog F #[] enS 2 H6 g 0 l.toArray.size w:=by
  intro m q z u x y;exact t x.1 x.2 y.1 y.2 _
 have b:=AnyQ.slices_SortFunc_total Tryz.laysS 2 Tryz.isAgg60 Tryz.sizeOf60 enS Cm Io H6 Ano F #[] g 0 i l.toArray w r d (OwG.holdsK Cm (by omega) h) s (by rw[List.size_toArray];omega) Aij;rw[List.size_toArray]at b;refine b.mono ?_;rintro e c ⟨rfl,n,q,rfl⟩;have f:=OwG.sorted Cm (by omega) h (Ez l) (Gx l) n q;exact⟨rfl,f.1,f.2⟩
theorem Agp:∀args w,(callFunc 130 args).run Tryz.prog w=.ok (.enter 130 args) w:=by
 intro args w
 kernel_rfl
theorem Ab6(A B Ak:Option Addr) (c1 c2 U n2 nk ck:Nat) (b:Bed4) (s:Shp) (f:Bool) (g:Int) (l:List (Int×Int)) (pls:List (List (Int×Int))) (w:World) (ak:U<=9223372036854775807) (ar:n2<=1000) (b0:∀t∈pls,t.length<=1000) (a7:U<=c1) (hs:SpS w A U l) (hS:Aeg w B n2 pls) :
 Calls Tryz.prog 85 #[Jw b,.agg #[.slice Ak nk ck,.int .i64 s.grain,.bool s.mat,.int .i64 s.anc.1,.int .i64 s.anc.2],.agg #[.bool f,.int .i64 g],.slice A U c1,.slice B n2 c2] w (Xh w (Iz b s f g l pls)):=by
 have d:=Qy b l pls;have F:=Ar (show Iz b s f g l pls=if (Dh b l pls).1≠0 then ((Dh b l pls).1,[]) else (0,Ez (Fk b.rx b.ry s f g (Dh b l pls).2 (Dh b l pls).2.length)) from rfl);rw[hS.1]at d;let⟨q,hq⟩:=gN (Dh b l pls)
 rw[hq]at F d;have HQ:=Ar hq;clear hq;obtain⟨q1,n⟩:=q;obtain⟨len,K,rx,m⟩:=b;obtain⟨c,v,z,⟨r,u⟩⟩:=s;unfold Jw;dsimp only at F d ⊢;have b2:=d.1;have b9:=Ar d.2;clear d;let⟨T,D⟩:∃T,T=(((w.alloc (.cells #[.int .i64 len,.int .i64 K,.int .i64 rx,.int .i64 m] 57)).alloc (.cells #[.slice Ak nk ck,.int .i64 v,.bool z,.int .i64 r,.int .i64 u] 72)).alloc (.cells #[.bool f,.int .i64 g] 59)):=⟨_,rfl⟩
 have h0:Bf T w.heap.size 57 #[.int .i64 len,.int .i64 K,.int .i64 rx,.int .i64 m]:=by rw[D];exact((Bf.new _ _ _).alloc _).alloc _
 have h1:Bf T (w.heap.size+1) 72 #[.slice Ak nk ck,.int .i64 v,.bool z,.int .i64 r,.int .i64 u]:=by rw[D];exact(Bf.new2 _ _ _ _).alloc _
 have h2:Bf T (w.heap.size+1+1) 59 #[.bool f,.int .i64 g]:=by rw[D];exact Bf.new3 _ _ _ _ _
 have a6:Below w.heap.size w T:=by rw[D];exact(Ao (Ao (Ao (Below.refl _ _) _) _) _)
 have H0:=Ar h0;have H1:=Ar h1;have H2:=Ar h2;have o:=Ar a6;subst D;clear h0 h1 h2 a6;by_cases I:q1=0
 .subst I;rw[if_neg (by simp)]at F;go_enter Tryz.func85,Tryz.ntmps85
  go_upto_region 4 with (go_at_call 126;refine(Qx A B c1 c2 U n2 ⟨len,K,rx,m⟩ l pls _ ak ar b0 a7 (hs.keep o.out) (hS.keep o.out)).mono ?_;rintro e E ⟨v1,rfl,H,x⟩;rw[HQ.out]at H ⊢)
  obtain⟨A1,cz,rfl,ad,X,-⟩:=OwS.sps H;let⟨N,S⟩:=gN n.length
  rw[S]at X ad b2 F ⊢;have b8:=Ar S;have K0:=Ar (H0.out.keep x);have K1:=Ar (H1.out.keep x);have K2:=Ar (H2.out.keep x);have Z:=An o.out x;clear S H H0 H1 H2 o x;let⟨BB,Q⟩:∃BB,BB=E.heap.size:=⟨_,rfl⟩
  have M:Z9 (E.alloc (.cells #[.map none,.slice none 0 0] 213)) BB (E.alloc (.cells #[.map none,.slice none 0 0] 213)).heap.size []:=by rw[Q];exact(Z9.new E).mono (by simp)
  have L:=Ar M;clear M;have C:E.heap.size<=BB:=by omega
  go_upto_region 6 with fail;rw[<-Q];clear Q;go_loopw [31] (λi wr=>∃k:Nat,k<=N/\i=.int .i64 k/\Z9 wr BB wr.heap.size (Fk rx m ⟨c,v,z,(r,u)⟩ f g n k)/\Below E.heap.size E wr) λi _=>N-(intOf i).toNat
  case atStart=>exact⟨0,Nat.zero_le _,rfl,L.out,blA⟩
  clear L;obtain⟨k,hk,rfl,hg,h⟩:=hrel;by_cases R:k<N
  .obtain⟨b1,o1,rfl,db,a8⟩:=(X.keep h).at_ R;let⟨d1,d2⟩:=a8 k R;clear a8;have aw:okS (gt n k):=b9.out _ (List.mem_of_getElem? (G3 (by rw[b8.out];exact R)));let⟨a1,a2,a3,a4,a5⟩:=(K0.out.keep h).cells4;let⟨e1,e2,e3,e4,e5,e6⟩:=(K1.out.keep h).cells5;let⟨f1,f2,f3,f4,f5⟩:=(K2.out.keep h).cells2;have J:=Ar (show Fk rx m ⟨c,v,z,(r,u)⟩ f g n (k+1)=match Nc rx m ⟨c,v,z,(r,u)⟩ f g (gt n k) with|none=>Fk rx m ⟨c,v,z,(r,u)⟩ f g n k|some a=>S9 (Fk rx m ⟨c,v,z,(r,u)⟩ f g n k) [a] (0,0) from rfl);have bs:=Mg rx m ⟨c,v,z,(r,u)⟩ f g n k;have da:BB<wr.heap.size:=by obtain⟨_,_,q,_⟩:=hg;exact q.lt
   cases hse:Nc rx m ⟨c,v,z,(r,u)⟩ f g (gt n k) with
   | none =>
     rw[hse]at J;have P:=Ar hse;clear hse
     go_wp2_with (go_at_call 127;refine rR (Qt _ _ _ _ _ c _ _ _ _ _ _ _ _ _) λO y=>?_;rw[show Nc rx m ⟨c,v,z,(r,u)⟩ f g ((gt n k).1,(gt n k).2)=none from P.out];dsimp only[Amc,Option.getD,Option.isSome])
     have bm:=Ao (An (Ao h _) y) (.cells #[.int .i64 0,.int .i64 0] 60);exact⟨⟨k+1,by omega,by go_num,by rw[J.out];exact(((hg.keep blA).keep y).keep blA).mono (by have:=y.size;simp at this ⊢;omega),bm⟩,by simp[intOf];omega⟩
   | some a =>
     obtain⟨V,W⟩:=a;rw[hse]at J;have au:=X9 aw hse;have P:=Ar hse;clear hse
     go_wp2_with (first|(go_at_call 127;refine rR (Qt _ _ _ _ _ c _ _ _ _ _ _ _ _ _) λO y=>?_;rw[show Nc rx m ⟨c,v,z,(r,u)⟩ f g ((gt n k).1,(gt n k).2)=some (V,W) from P.out];dsimp only[Amc,Option.getD,Option.isSome];have bq:=(hg.keep blA).keep y;have bu:=y.size;simp at bu;have ai:Z9 ((O.alloc (.cells #[.int .i64 V,.int .i64 W] 60)).alloc (.cells #[.int .i64 V,.int .i64 W] 60)) BB O.heap.size (Fk rx m ⟨c,v,z,(r,u)⟩ f g n k):=(bq.keep (Ao blA _)).mono (by omega);have bl:=ai.av (s:=O.heap.size+1) (by omega) (by simp);have bd:=Bf.new2 O (.cells #[.int .i64 V,.int .i64 W] 60) 60 #[.int .i64 V,.int .i64 W])|(go_at_call 128;refine(Ta BB O.heap.size (O.heap.size+1) 1 1 (Fk rx m ⟨c,v,z,(r,u)⟩ f g n k) [(V,W)] _ rfl (by omega) (by omega) bd (by omega) (by intro p hp;simp at hp;subst hp;exact au) ai (O.heap.size+1) bl).mono ?_;rintro e w8 ⟨rfl,G,bp,dk,-,-⟩))
     have Y:Below E.heap.size E w8:=(Ao (Ao (An (Ao h _) y) _) _).trans (bp.mono C);exact⟨⟨k+1,by omega,by go_num,by rw[J.out];exact G,Y⟩,by simp[intOf];omega⟩
  obtain rfl:N=k:=by omega
  have bs:=Mg rx m ⟨c,v,z,(r,u)⟩ f g n N;obtain⟨mv,sv,q1,q2,-,q4,-⟩:=hg;let⟨a1,a2,a3,a4,a5⟩:=q1.cells2
  go_wp2_with (go_at_call 129;refine rR (yk _ Agp (λ_ _ _ _ _=>Aa9 _ _ _ _ _) sv BB (Fk rx m ⟨c,v,z,(r,u)⟩ f g n N) _ (by omega) q2) λw8⟨bt,G⟩=>?_;have bx:=Bf.grown q1 G (by intro e;exact Nat.lt_irrefl _ (q4 _ e.symm).1);let⟨m1,m2,m3,m4,m5⟩:=bx.cells2)
  go_ret2
  exact⟨sv,by rw[F.out];rfl,by rw[F.out];exact OwG.lower bt (Nat.le_trans Z.size C),An Z (Below.grown h G h.size λj hj=>Nat.le_trans C (Nat.le_of_lt (q4 j hj).1))⟩
 have qo:(q1 != 0)=true:=by simpa using I
 rw[if_pos I]at F;clear I;go_enter Tryz.func85,Tryz.ntmps85
 go_wp2_with (go_at_call 126;refine(Qx A B c1 c2 U n2 ⟨len,K,rx,m⟩ l pls _ ak ar b0 a7 (hs.keep o.out) (hS.keep o.out)).mono ?_;rintro e E ⟨v1,rfl,H,x⟩;rw[HQ.out])
 go_ret2
 exact⟨_,by rw[F.out];rfl,by rw[F.out];exact OwG.nil,An o.out x⟩
end
end Go.Proofs.YtlogblbfbihleaaGreat
